/- Find returns the index that the reference returns. -/
import Derived.Test.YtoekbmgcfinfmabBuBase
import Derived.Test.YtoekbmgcfinfmabBu9
import Derived.Test.YtoekbmgcfinfmabBu10
namespace Go.Proofs.Ytoekbmgcfinfmab.BuBase
open Go.RowKit Go.Proofs.YtoekbmgcfinfmabW.PrintWords Go.Proofs.YtoekbmgcfinfmabW.PrintLast Go.Proofs.YtoekbmgcfinfmabW.PrintMore Go.Proofs.Ytoekbmgcfinfmab.Bu
set_option linter.unusedVariables false
set_option linter.unusedSimpArgs false

theorem rfind_loop (l : List S42) (g p : Int) (hl : l.length ≤ 1000) (d : Nat) : ∀ x : Nat, x + d = l.length → (∀ j, j < x → ¬ Has (l.getD j z42) g p) →
    (∃ i : Nat, i < l.length ∧ Has (l.getD i z42) g p ∧ (∀ j, j < i → ¬ Has (l.getD j z42) g p) ∧ Ev (fun k => garmentref44_Find.l0 k l g p x) ((i : Int), true)) ∨
    ((∀ j, j < l.length → ¬ Has (l.getD j z42) g p) ∧ Ev (fun k => garmentref44_Find.l0 k l g p x) (0, false)) := by
  induction d with
  | zero =>
    intro x hd h
    obtain rfl : x = l.length := by omega
    refine .inr ⟨h, ?_⟩
    refine ev_succ ?_
    simp (disch := omega) only [garmentref44_Find.l0, if_neg]
    exact Ev.now _
  | succ d ih =>
    intro x hd h
    have e1 : ((x : Int) + 1) = ((x + 1 : Nat) : Int) := by omega
    by_cases hh : Has (l.getD x z42) g p
    · obtain ⟨h1, h2, h3⟩ := id hh
      refine .inl ⟨x, by omega, hh, h, ?_⟩
      refine ev_succ ?_
      have h1' : (rd_T42 l (x : Int)).f1 = g := h1
      have h2' : (rd_T42 l (x : Int)).f4 ≤ p := h2
      have h3' : p < (rd_T42 l (x : Int)).f5 := h3
      simp (disch := first | omega | assumption) only [garmentref44_Find.l0, if_pos]
      exact Ev.now _
    · have key : ∀ r, Ev (fun k => garmentref44_Find.l0 k l g p ((x + 1 : Nat) : Int)) r → Ev (fun k => garmentref44_Find.l0 k l g p x) r := by
        intro r hr
        refine ev_succ ?_
        by_cases h1 : (l.getD x z42).f1 = g
        · by_cases h2 : (l.getD x z42).f4 ≤ p
          · have h3 : ¬ p < (l.getD x z42).f5 := fun h3 => hh ⟨h1, h2, h3⟩
            simp (disch := first | omega | assumption) only [garmentref44_Find.l0, if_pos, if_neg, rd42, wrap64_of, e1]
            exact hr
          · simp (disch := first | omega | assumption) only [garmentref44_Find.l0, if_pos, if_neg, rd42, wrap64_of, e1]
            exact hr
        · simp (disch := first | omega | assumption) only [garmentref44_Find.l0, if_pos, if_neg, rd42, wrap64_of, e1]
          exact hr
      rcases ih (x + 1) (by omega) (fun j hj => by
        by_cases e : j = x
        · subst e; exact hh
        · exact h j (by omega)) with ⟨i, a, b, c, ev⟩ | ⟨a, ev⟩
      · exact .inl ⟨i, a, b, c, key _ ev⟩
      · exact .inr ⟨a, key _ ev⟩
theorem finds_pure (l : List S42) (_ : l.length ≤ maxLen) (_ : ∀ y ∈ l, True) (g : Int) (_ : (Lit.int .i64 g).wf = true) (p : Int) (_ : (Lit.int .i64 p).wf = true) :
    ∃ k, garmentlaw44_BundleFinds.f k l g p = some true := by
  refine Ev.rounds (g := fun k => garmentlaw44_BundleFinds.f k l g p) ?_
  by_cases h1 : l.length ≤ 100
  · simp (disch := omega) only [garmentlaw44_BundleFinds.f, if_neg]
    have key : ∃ r, Ev (fun k => bundle_Find.f k l g p) r ∧ Ev (fun k => garmentref44_Find.f k l g p) r := by
      rcases find_ok l g p (by omega) with ⟨i, a, b, c, ev⟩ | ⟨a, ev⟩
      · rcases rfind_loop l g p (by omega) l.length 0 (by omega) (fun j hj => by omega) with ⟨i', a', b', c', ev'⟩ | ⟨a', _⟩
        · have e : i = i' := by
            rcases Nat.lt_trichotomy i i' with h | h | h
            · exact absurd b (c' i h)
            · exact h
            · exact absurd b' (c i' h)
          subst e
          exact ⟨_, ev, ev'⟩
        · exact absurd b (a' i a)
      · rcases rfind_loop l g p (by omega) l.length 0 (by omega) (fun j hj => by omega) with ⟨i', a', b', c', _⟩ | ⟨a', ev'⟩
        · exact absurd b' (a i' a')
        · exact ⟨_, ev, ev'⟩
    obtain ⟨r, e, e'⟩ := key
    refine Ev.bind e (Ev.bind e' ?_)
    simp only [if_true, beq_self_eq_true]
    exact Ev.bind alive_ok (Ev.now _)
  · simp (disch := omega) only [garmentlaw44_BundleFinds.f, if_pos]
    exact Ev.bind alive_ok (Ev.now _)
end Go.Proofs.Ytoekbmgcfinfmab.BuBase
