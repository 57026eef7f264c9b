/- Lays and lists of bundles, as arguments read them. -/
import Derived.Test.YtoekbmgcfinfmabOpens
import Derived.Test.YtoekbmgcfinfmabBu0
namespace Go.Proofs.Ytoekbmgcfinfmab.Opens
open Go.RowKit Go.Proofs.YtoekbmgcfinfmabW.PrintWords Go.Proofs.Ytoekbmgcfinfmab.Bu
set_option linter.unusedVariables false
def Any {α : Type} (_ : α) : Prop := True
theorem i3 : Opens Try.prog (Kd.int .i64) Any 3 := opens_wf (opens_int Try.underlying3) (fun _ _ => trivial)
theorem b4 : Opens Try.prog Kd.bool Any 4 := opens_wf (opens_bool Try.underlying4) (fun _ _ => trivial)
theorem open42 : Opens Try.prog k42 Any 42 :=
  opens_wf (opens_iso (opens_struct Try.underlying42 (by kernel_rfl) (opensF_cons i3 rfl rfl (by kernel_rfl) (opensF_cons i3 rfl rfl (by kernel_rfl) (opensF_cons i3 rfl rfl (by kernel_rfl) (opensF_cons i3 rfl rfl (by kernel_rfl) (opensF_cons i3 rfl rfl (by kernel_rfl) (opensF_one i3 rfl rfl (by kernel_rfl))))))))
    (fun x : S42 => (x.f0, x.f1, x.f2, x.f3, x.f4, x.f5)) (fun p : Int × Int × Int × Int × Int × Int => (⟨p.1, p.2.1, p.2.2.1, p.2.2.2.1, p.2.2.2.2.1, p.2.2.2.2.2⟩ : S42)) (fun _ => rfl)) (fun _ _ => trivial)
theorem open22 : Opens Try.prog (Kd.slice 42 k42) (fun l => l.length ≤ maxLen ∧ ∀ y ∈ l, Any y) 22 := opens_slice Try.underlying22 (by kernel_rfl) open42
theorem open73 : Opens Try.prog k73 Any 73 :=
  opens_wf (opens_iso (opens_struct Try.underlying73 (by kernel_rfl) (opensF_cons i3 rfl rfl (by kernel_rfl) (opensF_cons i3 rfl rfl (by kernel_rfl) (opensF_cons i3 rfl rfl (by kernel_rfl) (opensF_one i3 rfl rfl (by kernel_rfl))))))
    (fun x : S73 => (x.f0, x.f1, x.f2, x.f3)) (fun p : Int × Int × Int × Int => (⟨p.1, p.2.1, p.2.2.1, p.2.2.2⟩ : S73)) (fun _ => rfl)) (fun _ _ => trivial)
theorem open45 : Opens Try.prog k45 Any 45 :=
  opens_wf (opens_iso (opens_struct Try.underlying45 (by kernel_rfl) (opensF_cons i3 rfl rfl (by kernel_rfl) (opensF_one (opens_slice Try.underlying43 (by kernel_rfl) open73) rfl rfl (by kernel_rfl))))
    (fun x : S45 => (x.f0, x.f1)) (fun p : Int × List S73 => (⟨p.1, p.2⟩ : S45)) (fun _ => rfl)) (fun _ _ => trivial)
theorem open68 : Opens Try.prog k68 Any 68 :=
  opens_wf (opens_iso (opens_struct Try.underlying68 (by kernel_rfl) (opensF_cons b4 rfl rfl (by kernel_rfl) (opensF_one i3 rfl rfl (by kernel_rfl)))) (fun x : S68 => (x.f0, x.f1)) (fun p : Bool × Int => (⟨p.1, p.2⟩ : S68)) (fun _ => rfl)) (fun _ _ => trivial)
theorem open69 : Opens Try.prog k69 Any 69 :=
  opens_wf (opens_iso (opens_struct Try.underlying69 (by kernel_rfl) (opensF_cons i3 rfl rfl (by kernel_rfl) (opensF_one i3 rfl rfl (by kernel_rfl)))) (fun x : S69 => (x.f0, x.f1)) (fun p : Int × Int => (⟨p.1, p.2⟩ : S69)) (fun _ => rfl)) (fun _ _ => trivial)
theorem open71 : Opens Try.prog k71 Any 71 :=
  opens_wf (opens_iso (opens_struct Try.underlying71 (by kernel_rfl) (opensF_cons i3 rfl rfl (by kernel_rfl) (opensF_cons i3 rfl rfl (by kernel_rfl) (opensF_cons i3 rfl rfl (by kernel_rfl) (opensF_cons open68 rfl rfl (by kernel_rfl) (opensF_one open69 rfl rfl (by kernel_rfl)))))))
    (fun x : S71 => (x.f0, x.f1, x.f2, x.f3, x.f4)) (fun p : Int × Int × Int × S68 × S69 => (⟨p.1, p.2.1, p.2.2.1, p.2.2.2.1, p.2.2.2.2⟩ : S71)) (fun _ => rfl)) (fun _ _ => trivial)
abbrev kMarker := Kd.pair (Kd.int .i64) (Kd.pair (Kd.int .i64) (Kd.pair (Kd.pair (Kd.int .i64) (Kd.int .i64)) (Kd.pair (Kd.slice 3 (Kd.int .i64)) (Kd.slice 71 k71))))
abbrev kLay := Kd.pair kMarker (Kd.slice 45 k45)
theorem open28 : Opens Try.prog (Kd.pair (Kd.int .i64) (Kd.int .i64)) Any 28 := opens_wf (opens_struct Try.underlying28 (by kernel_rfl) (opensF_cons i3 rfl rfl (by kernel_rfl) (opensF_one i3 rfl rfl (by kernel_rfl)))) (fun _ _ => trivial)
theorem open32 : Opens Try.prog kMarker Any 32 :=
  opens_wf (opens_struct Try.underlying32 (by kernel_rfl) (opensF_cons i3 rfl rfl (by kernel_rfl) (opensF_cons i3 rfl rfl (by kernel_rfl) (opensF_cons open28 rfl rfl (by kernel_rfl) (opensF_cons (opens_slice Try.underlying29 (by kernel_rfl) i3) rfl rfl (by kernel_rfl) (opensF_one (opens_slice Try.underlying30 (by kernel_rfl) open71) rfl rfl (by kernel_rfl))))))) (fun _ _ => trivial)
theorem open35 : Opens Try.prog kLay Any 35 :=
  opens_wf (opens_struct Try.underlying35 (by kernel_rfl) (opensF_cons open32 rfl rfl (by kernel_rfl) (opensF_one (opens_slice Try.underlying33 (by kernel_rfl) open45) rfl rfl (by kernel_rfl)))) (fun _ _ => trivial)
theorem kLay_open {w : World} {y : (Int × Int × (Int × Int) × List Int × List S71) × List S45} {cs : List Value} (h : kLay.K w y cs) :
    ∃ A4 c4 A5 c5 A6 c6, cs = [.int .i64 y.1.1, .int .i64 y.1.2.1, .int .i64 y.1.2.2.1.1, .int .i64 y.1.2.2.1.2, .slice A4 y.1.2.2.2.1.length c4, .slice A5 y.1.2.2.2.2.length c5, .slice A6 y.2.length c6] ∧
      y.1.2.2.2.1.length ≤ c4 ∧ Kd.C (Kd.int .i64) w A4 y.1.2.2.2.1.length y.1.2.2.2.1 ∧ y.1.2.2.2.2.length ≤ c5 ∧ Kd.C k71 w A5 y.1.2.2.2.2.length y.1.2.2.2.2 ∧ y.2.length ≤ c6 ∧ Kd.C k45 w A6 y.2.length y.2 := by
  obtain ⟨_, _, rfl, ⟨_, _, rfl, rfl, _, _, rfl, rfl, _, _, rfl, ⟨_, _, rfl, rfl, rfl⟩, _, _, rfl, ⟨A4, c4, rfl, l4, h4⟩, A5, c5, rfl, l5, h5⟩, A6, c6, rfl, l6, h6⟩ := h
  exact ⟨A4, c4, A5, c5, A6, c6, rfl, l4, h4, l5, h5, l6, h6⟩
end Go.Proofs.Ytoekbmgcfinfmab.Opens
