/- Tones of one lot differ by at most the tolerance times the number of the other tones, and the worst distance is a pair's of one lot. -/
import Derived.Test.YtoekbmgcfinfmaaShBase
import Derived.Test.YtoekbmgcfinfmaaSh22
namespace Go.Proofs.Ytoekbmgcfinfmaa.ShBase
open Go.RowKit Go.Proofs.YtoekbmgcfinfmaaW.PrintWords Go.Proofs.YtoekbmgcfinfmaaW.PrintLast Go.Proofs.YtoekbmgcfinfmaaW.PrintMore Go.Proofs.Ytoekbmgcfinfmaa.Sh Go.Proofs.Ytoekbmgcfinfmaa.Graph
set_option linter.unusedVariables false
set_option linter.unusedSimpArgs false

theorem near_D (l : List S23) (t : Int) (ht : 0 ≤ t) (i : Nat) (m : Nat) : ∀ j, Near l.length (Adj l t) i m j → D (l.getD i z23) (l.getD j z23) ≤ t * m := by
  induction m with
  | zero => rintro j ⟨rfl, _⟩; rw [D_self]; simp
  | succ m ih =>
    rintro j ⟨k, hk, hj, e⟩
    have h := ih k hk
    have : t * ((m + 1 : Nat) : Int) = t * m + t := by rw [Int.natCast_add, Int.mul_add]; simp
    rcases e with rfl | e
    · omega
    · have := D_tri (l.getD i z23) (l.getD k z23) (l.getD j z23)
      unfold Adj at e
      omega
/-- What the loops have met. -/
def Met (l : List S23) (lots : List Int) (w : Int) (i x : Nat) : Prop := w = 0 ∨ (∃ j k, j < i ∧ k < j ∧ lots.getD j 0 = lots.getD k 0 ∧ w = D (l.getD j z23) (l.getD k z23)) ∨ ∃ k, k < x ∧ lots.getD i 0 = lots.getD k 0 ∧ w = D (l.getD i z23) (l.getD k z23)
theorem met_row {l : List S23} {lots : List Int} {w : Int} {i : Nat} (h : Met l lots w i i) : Met l lots w (i + 1) 0 := by
  rcases h with h | ⟨j, k, h1, h2, h3, h4⟩ | ⟨k, h2, h3, h4⟩
  · exact .inl h
  · exact .inr (.inl ⟨j, k, by omega, h2, h3, h4⟩)
  · exact .inr (.inl ⟨i, k, by omega, h2, h3, h4⟩)
theorem worst_wi (l : List S23) (hl : l.length ≤ 20) (lots : List Int) (hn : lots.length = l.length) (w : Int) (i : Nat) (hi : i < l.length)
    (h : ∀ k, k < i → lots.getD i 0 = lots.getD k 0 → D (l.getD i z23) (l.getD k z23) ≤ w) (d : Nat) : ∀ (x : Nat) (met : Bool), x + d = i → (∀ (P : Prop), P ∨ ¬ P) →
    (met = true ∨ ¬ Met l lots w i x) → (∀ met', (met' = true ∨ ¬ Met l lots w i i) → Ev (fun k => garmentlaw29_ShadeWorst.l0 k l lots w met' (i + 1 : Nat)) true) → Ev (fun k => garmentlaw29_ShadeWorst.l1 k l lots w met i x) true := by
  induction d with
  | zero =>
    intro x met hd _ hm hk
    obtain rfl : x = i := by omega
    have e1 : ((x : Int) + 1) = ((x + 1 : Nat) : Int) := by omega
    refine ev_succ ?_
    simp (disch := omega) only [garmentlaw29_ShadeWorst.l1, if_neg, wrap64_of, e1]
    exact hk met hm
  | succ d ih =>
    intro x met hd em hm hk
    have e1 : ((x : Int) + 1) = ((x + 1 : Nat) : Int) := by omega
    refine ev_succ ?_
    by_cases e : lots.getD i 0 = lots.getD x 0
    · have h1 := h x (by omega) e
      have h2 : ¬ (D (l.getD i z23) (l.getD x z23) > w) := by omega
      cases met with
      | true =>
        simp (disch := first | omega | assumption) only [garmentlaw29_ShadeWorst.l1, if_pos, if_neg, if_true, rd_nat, rdT_nat, D_eq, Option.bind_some, wrap64_of, e1]
        exact ih (x + 1) true (by omega) em (.inl rfl) hk
      | false =>
        simp (disch := first | omega | assumption) only [garmentlaw29_ShadeWorst.l1, if_pos, if_neg, Bool.false_eq_true, if_false, rd_nat, rdT_nat, D_eq, Option.bind_some, wrap64_of, e1]
        refine ih (x + 1) _ (by omega) em ?_ hk
        by_cases h3 : D (l.getD i z23) (l.getD x z23) = w
        · left; simpa using h3
        · right
          rcases hm with hm | hm
          · cases hm
          · rintro (h4 | h4 | ⟨k, h5, h6, h7⟩)
            · exact hm (.inl h4)
            · exact hm (.inr (.inl h4))
            · by_cases h8 : k = x
              · subst h8; exact h3 h7.symm
              · exact hm (.inr (.inr ⟨k, by omega, h6, h7⟩))
    · simp (disch := first | omega | assumption) only [garmentlaw29_ShadeWorst.l1, if_pos, if_neg, rd_nat, rdT_nat, D_eq, Option.bind_some, wrap64_of, e1]
      refine ih (x + 1) met (by omega) em ?_ hk
      rcases hm with hm | hm
      · exact .inl hm
      · right
        rintro (h4 | h4 | ⟨k, h5, h6, h7⟩)
        · exact hm (.inl h4)
        · exact hm (.inr (.inl h4))
        · by_cases h8 : k = x
          · subst h8; exact e h6
          · exact hm (.inr (.inr ⟨k, by omega, h6, h7⟩))
theorem worst_wo (l : List S23) (hl : l.length ≤ 20) (lots : List Int) (hn : lots.length = l.length) (w : Int)
    (h : ∀ i k, i < l.length → k < i → lots.getD i 0 = lots.getD k 0 → D (l.getD i z23) (l.getD k z23) ≤ w) (hm : w = 0 ∨ ∃ j k, j < l.length ∧ k < j ∧ lots.getD j 0 = lots.getD k 0 ∧ w = D (l.getD j z23) (l.getD k z23)) (d : Nat) : ∀ (x : Nat) (met : Bool), x + d = l.length →
    (met = true ∨ ¬ Met l lots w x 0) → Ev (fun k => garmentlaw29_ShadeWorst.l0 k l lots w met x) true := by
  induction d with
  | zero =>
    intro x met hd hk
    obtain rfl : met = true := by
      rcases hk with hk | hk
      · exact hk
      · refine absurd ?_ hk
        rcases hm with hm | ⟨j, k, h1, h2⟩
        · exact .inl hm
        · exact .inr (.inl ⟨j, k, by omega, h2⟩)
    refine ev_succ ?_
    simp (disch := omega) only [garmentlaw29_ShadeWorst.l0, if_neg, if_true]
    exact Ev.bind awake_ok (Ev.now _)
  | succ d ih =>
    intro x met hd hk
    refine ev_succ ?_
    simp (disch := omega) only [garmentlaw29_ShadeWorst.l0, if_pos]
    refine worst_wi l hl lots hn w x (by omega) (fun k hk => h x k (by omega) hk) x 0 met (by omega) (fun P => Classical.em P) hk (fun met' hm' => ih (x + 1) met' (by omega) ?_)
    rcases hm' with hm' | hm'
    · exact .inl hm'
    · right
      intro h4
      rcases h4 with h4 | ⟨j, k, h5, h6, h7, h8⟩ | ⟨k, h5, _⟩
      · exact hm' (.inl h4)
      · by_cases e : j = x
        · subst e; exact hm' (.inr (.inr ⟨k, h6, h7, h8⟩))
        · exact hm' (.inr (.inl ⟨j, k, by omega, h6, h7, h8⟩))
      · omega
theorem worst_pure (l : List S23) (_ : l.length ≤ maxLen) (_ : ∀ y ∈ l, (Lit.int .i64 y.f0).wf = true ∧ (Lit.int .i64 y.f1).wf = true ∧ (Lit.int .i64 y.f2).wf = true) (t : Int) (_ : (Lit.int .i64 t).wf = true) :
    ∃ k, garmentlaw29_ShadeWorst.f k l t = some true := by
  refine Ev.rounds (g := fun k => garmentlaw29_ShadeWorst.f k l t) ?_
  have idle : Ev (fun k => garmentlaw29_ShadeWorst.j0 k l t true) true := by
    refine ev_succ ?_
    simp only [garmentlaw29_ShadeWorst.j0, if_true]
    exact Ev.bind awake_ok (Ev.now _)
  by_cases h1 : l.length ≤ 20
  · by_cases h2 : 0 ≤ t
    · by_cases h3 : t ≤ 2000
      · have e : decide (t > 2000) = false := by simp; omega
        simp (disch := omega) only [garmentlaw29_ShadeWorst.f, if_neg, e]
        obtain ⟨a, ea, pa⟩ := lots_ok l t h1 h2
        have la := pa.len
        obtain ⟨w0, w1, w2⟩ := wO_of l a l.length 0 0
        refine ev_succ ?_
        simp only [garmentlaw29_ShadeWorst.j0, Bool.false_eq_true, if_false]
        refine Ev.bind ea (Ev.bind (worst_ok l a (by omega) la) ?_)
        have hw : ∀ i k, i < l.length → k < i → a.getD i 0 = a.getD k 0 → D (l.getD i z23) (l.getD k z23) ≤ worst l a := fun i k hi hk he => w1 i k (by omega) (by omega) hk he
        have hm : worst l a = 0 ∨ ∃ j k, j < l.length ∧ k < j ∧ a.getD j 0 = a.getD k 0 ∧ worst l a = D (l.getD j z23) (l.getD k z23) := by
          rcases w2 with w2 | ⟨j, k, g1, g2, g3, g4, g5⟩
          · exact .inl w2
          · exact .inr ⟨j, k, by omega, g3, g4, g5⟩
        have hpos : 0 ≤ worst l a := w0
        have hb : worst l a ≤ t * mx 0 ((l.length : Int) - 1) := by
          have hmx : 0 ≤ mx 0 ((l.length : Int) - 1) := by unfold mx; split <;> omega
          rcases hm with hm | ⟨j, k, g1, g3, g4, g5⟩
          · rw [hm]; exact Int.mul_nonneg h2 hmx
          · have := near_D l t h2 j (l.length - 1) k (near_all ((pa.same j k g1 (by omega)).1 g4))
            have e4 : mx 0 ((l.length : Int) - 1) = ((l.length - 1 : Nat) : Int) := by unfold mx; split <;> omega
            rw [g5, e4]; exact this
        have hcap : t * mx 0 ((l.length : Int) - 1) ≤ 2000 * 20 := by
          have hmx : mx 0 ((l.length : Int) - 1) ≤ 20 ∧ 0 ≤ mx 0 ((l.length : Int) - 1) := by unfold mx; split <;> omega
          exact Int.mul_le_mul h3 hmx.1 hmx.2 (by omega)
        have e2 : decide (worst l a > wrap64 (t * mx 0 (wrap64 ((l.length : Int) - 1)))) = false := by
          rw [wrap64_of (x := (l.length : Int) - 1) (by omega), wrap64_of (by omega)]; simp; omega
        simp (disch := omega) only [if_true, if_pos, e2]
        refine ev_succ ?_
        simp only [garmentlaw29_ShadeWorst.j1, Bool.false_eq_true, if_false]
        refine worst_wo l h1 a la (worst l a) hw hm l.length 0 _ (by omega) ?_
        by_cases e5 : worst l a = 0
        · left; simpa using e5
        · right
          rintro (h4 | ⟨j, k, h5, _⟩ | ⟨k, h5, _⟩) <;> omega
      · have e : decide (t > 2000) = true := by simp; omega
        simp (disch := omega) only [garmentlaw29_ShadeWorst.f, if_neg, e]
        exact idle
    · simp (disch := omega) only [garmentlaw29_ShadeWorst.f, if_neg, if_pos]
      exact idle
  · simp (disch := omega) only [garmentlaw29_ShadeWorst.f, if_pos]
    exact idle
end Go.Proofs.Ytoekbmgcfinfmaa.ShBase
