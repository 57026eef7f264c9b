/- Tones and lists of tones and numbers, as arguments read them. -/
import Derived.Test.YtoekbmgcfinfmaaOpens
import Derived.Test.YtoekbmgcfinfmaaSh0
namespace Go.Proofs.Ytoekbmgcfinfmaa.Opens
open Go.RowKit Go.Proofs.YtoekbmgcfinfmaaW.PrintWords Go.Proofs.Ytoekbmgcfinfmaa.Sh
set_option linter.unusedVariables false
theorem open23 : Opens Try.prog k23 (fun y => (Lit.int .i64 y.f0).wf = true ∧ (Lit.int .i64 y.f1).wf = true ∧ (Lit.int .i64 y.f2).wf = true) 23 :=
  opens_iso (opens_struct Try.underlying23 (by kernel_rfl) (opensF_cons (opens_int Try.underlying3) rfl rfl (by kernel_rfl) (opensF_cons (opens_int Try.underlying3) rfl rfl (by kernel_rfl) (opensF_one (opens_int Try.underlying3) rfl rfl (by kernel_rfl))))) (fun x : S23 => (x.f0, x.f1, x.f2)) (fun p : Int × Int × Int => (⟨p.1, p.2.1, p.2.2⟩ : S23)) (fun _ => rfl)
theorem open24 : Opens Try.prog (Kd.slice 23 k23) (fun l => l.length ≤ maxLen ∧ ∀ y ∈ l, (Lit.int .i64 y.f0).wf = true ∧ (Lit.int .i64 y.f1).wf = true ∧ (Lit.int .i64 y.f2).wf = true) 24 := opens_slice Try.underlying24 (by kernel_rfl) open23
theorem open25 : Opens Try.prog (Kd.slice 3 (Kd.int .i64)) (fun l => l.length ≤ maxLen ∧ ∀ y ∈ l, (Lit.int .i64 y).wf = true) 25 := opens_slice Try.underlying25 (by kernel_rfl) (opens_int Try.underlying3)
end Go.Proofs.Ytoekbmgcfinfmaa.Opens
