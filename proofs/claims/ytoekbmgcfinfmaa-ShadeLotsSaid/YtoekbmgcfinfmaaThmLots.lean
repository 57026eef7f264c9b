/- Lots are those of the reference. -/
import Derived.Test.YtoekbmgcfinfmaaShRefBase
import Derived.Test.YtoekbmgcfinfmaaSh16
namespace Go.Proofs.Ytoekbmgcfinfmaa.ShBase
open Go.RowKit Go.Proofs.YtoekbmgcfinfmaaW.PrintWords Go.Proofs.YtoekbmgcfinfmaaW.PrintLast Go.Proofs.YtoekbmgcfinfmaaW.PrintMore Go.Proofs.Ytoekbmgcfinfmaa.Sh Go.Proofs.Ytoekbmgcfinfmaa.Graph
set_option linter.unusedVariables false
set_option linter.unusedSimpArgs false

theorem same_loop (a : List Int) (ha : a.length ≤ 100) (d : Nat) : ∀ x : Nat, x + d = a.length → Ev (fun k => garmentref29_Same.l0 k a a x) true := by
  induction d with
  | zero =>
    intro x hd
    refine ev_succ ?_
    simp (disch := omega) only [garmentref29_Same.l0, if_neg]
    exact Ev.now _
  | succ d ih =>
    intro x hd
    have e1 : ((x : Int) + 1) = ((x + 1 : Nat) : Int) := by omega
    refine ev_succ ?_
    simp (disch := omega) only [garmentref29_Same.l0, if_pos, wrap64_of, e1]
    exact ih (x + 1) (by omega)
theorem same_ok (a : List Int) (ha : a.length ≤ 100) : Ev (fun k => garmentref29_Same.f k a a) true := by
  simp only [garmentref29_Same.f, if_true]
  exact same_loop a ha a.length 0 (by omega)
theorem lots_pure (l : List S23) (_ : l.length ≤ maxLen) (_ : ∀ y ∈ l, (Lit.int .i64 y.f0).wf = true ∧ (Lit.int .i64 y.f1).wf = true ∧ (Lit.int .i64 y.f2).wf = true) (t : Int) (_ : (Lit.int .i64 t).wf = true) :
    ∃ k, garmentlaw29_ShadeLots.f k l t = some true := by
  refine Ev.rounds (g := fun k => garmentlaw29_ShadeLots.f k l t) ?_
  by_cases h1 : l.length ≤ 30
  · have key : ∃ r, Ev (fun k => shade_Lots.f k l t) r ∧ Ev (fun k => garmentref29_Lots.f k l t) r ∧ r.1.length ≤ 100 := by
      by_cases h2 : l.length ≤ 20
      · by_cases h3 : 0 ≤ t
        · obtain ⟨o, e, p⟩ := lots_ok l t h2 h3
          obtain ⟨o', e', p'⟩ := rlots_ok l t h2 h3
          rw [parts_unique p' p] at e'
          exact ⟨_, e, e', by have := p.len; simp; omega⟩
        · exact ⟨_, lots_neg l t h2 (by omega), rlots_neg l t h2 (by omega), by simp⟩
      · exact ⟨_, lots_long l t (by omega), rlots_long l t (by omega), by simp⟩
    obtain ⟨r, e, e', hr⟩ := key
    simp (disch := omega) only [garmentlaw29_ShadeLots.f, if_neg]
    refine Ev.bind e (Ev.bind e' (Ev.bind (same_ok r.1 hr) ?_))
    simp only [if_true]
    exact Ev.bind awake_ok (Ev.now _)
  · simp (disch := omega) only [garmentlaw29_ShadeLots.f, if_pos]
    exact Ev.bind awake_ok (Ev.now _)
end Go.Proofs.Ytoekbmgcfinfmaa.ShBase
