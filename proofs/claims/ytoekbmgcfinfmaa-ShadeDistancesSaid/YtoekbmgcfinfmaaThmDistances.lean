/- Distances and worst distances are those of the reference. -/
import Derived.Test.YtoekbmgcfinfmaaShRefBase
import Derived.Test.YtoekbmgcfinfmaaSh14
namespace Go.Proofs.Ytoekbmgcfinfmaa.ShBase
open Go.RowKit Go.Proofs.YtoekbmgcfinfmaaW.PrintWords Go.Proofs.YtoekbmgcfinfmaaW.PrintLast Go.Proofs.YtoekbmgcfinfmaaW.PrintMore Go.Proofs.Ytoekbmgcfinfmaa.Sh Go.Proofs.Ytoekbmgcfinfmaa.Graph
set_option linter.unusedVariables false
set_option linter.unusedSimpArgs false

theorem distances_pure (a : S23) (_ : (Lit.int .i64 a.f0).wf = true ∧ (Lit.int .i64 a.f1).wf = true ∧ (Lit.int .i64 a.f2).wf = true) (b : S23) (_ : (Lit.int .i64 b.f0).wf = true ∧ (Lit.int .i64 b.f1).wf = true ∧ (Lit.int .i64 b.f2).wf = true)
    (l : List S23) (_ : l.length ≤ maxLen) (_ : ∀ y ∈ l, (Lit.int .i64 y.f0).wf = true ∧ (Lit.int .i64 y.f1).wf = true ∧ (Lit.int .i64 y.f2).wf = true) (m : List Int) (_ : m.length ≤ maxLen) (_ : ∀ y ∈ m, (Lit.int .i64 y).wf = true) :
    ∃ k, garmentlaw29_ShadeDistances.f k a.f0 a.f1 a.f2 b.f0 b.f1 b.f2 l m = some true := by
  refine Ev.rounds (g := fun k => garmentlaw29_ShadeDistances.f k a.f0 a.f1 a.f2 b.f0 b.f1 b.f2 l m) ?_
  by_cases h1 : l.length ≤ 30
  · by_cases h2 : m.length ≤ 30
    · have e : decide ((m.length : Int) > 30) = false := by simp; omega
      simp (disch := omega) only [garmentlaw29_ShadeDistances.f, if_neg, e]
      refine ev_succ ?_
      simp only [garmentlaw29_ShadeDistances.j0, Bool.false_eq_true, if_false]
      by_cases h3 : m.length = l.length
      · refine Ev.bind (worst_ok l m (by omega) h3) (Ev.bind (rworst_ok l m (by omega) h3) ?_)
        simp only [D_eq, rD_eq, Option.bind_some, if_true]
        exact Ev.bind awake_ok (Ev.now _)
      · refine Ev.bind (worst_other l m h3) (Ev.bind (rworst_other l m h3) ?_)
        simp only [D_eq, rD_eq, Option.bind_some, if_true]
        exact Ev.bind awake_ok (Ev.now _)
    · have e : decide ((m.length : Int) > 30) = true := by simp; omega
      simp (disch := omega) only [garmentlaw29_ShadeDistances.f, if_neg, e]
      refine ev_succ ?_
      simp only [garmentlaw29_ShadeDistances.j0, if_true]
      exact Ev.bind awake_ok (Ev.now _)
  · simp (disch := omega) only [garmentlaw29_ShadeDistances.f, if_pos]
    refine ev_succ ?_
    simp only [garmentlaw29_ShadeDistances.j0, if_true]
    exact Ev.bind awake_ok (Ev.now _)
end Go.Proofs.Ytoekbmgcfinfmaa.ShBase
