/- What the functions of layer 44 come to: finding a bundle, accepting bundles, making them. -/
import Derived.Test.YtoekbmgcfinfmabBu2
import Derived.Test.YtoekbmgcfinfmabBu3
import Derived.Test.YtoekbmgcfinfmabBu5
import Derived.Test.YtoekbmgcfinfmabBu8
import Derived.Test.YtoekbmgcfinfmabBu11
namespace Go.Proofs.Ytoekbmgcfinfmab.BuBase
open Go.RowKit Go.Proofs.YtoekbmgcfinfmabW.PrintWords Go.Proofs.YtoekbmgcfinfmabW.PrintLast Go.Proofs.YtoekbmgcfinfmabW.PrintMore Go.Proofs.Ytoekbmgcfinfmab.Bu
set_option linter.unusedVariables false
set_option linter.unusedSimpArgs false

theorem wrap64_of {x : Int} (h : -9223372036854775808 ≤ x ∧ x ≤ 9223372036854775807) : wrap64 x = x := by unfold wrap64; omega
theorem ev_succ {α : Type} {g : Nat → Option α} {r : α} (h : Ev (fun k => g (k + 1)) r) : Ev g r := Ev.step (fun _ => rfl) h
theorem rd_nat (xs : List Int) (i : Nat) : rd xs (i : Int) = xs.getD i 0 := rfl
theorem rd42 (xs : List S42) (i : Nat) : rd_T42 xs (i : Int) = xs.getD i z42 := rfl
theorem rd45 (xs : List S45) (i : Nat) : rd_T45 xs (i : Int) = xs.getD i z45 := rfl
theorem getD_mem {α : Type} (xs : List α) (d : α) (i : Nat) (h : i < xs.length) : xs.getD i d ∈ xs := by
  rw [List.getD_eq_getElem?_getD, List.getElem?_eq_getElem h]; exact List.getElem_mem h
theorem mem_getD {α : Type} (xs : List α) (d : α) {x : α} (h : x ∈ xs) : ∃ i, i < xs.length ∧ xs.getD i d = x := by
  obtain ⟨i, hi, e⟩ := List.mem_iff_getElem.1 h
  exact ⟨i, hi, by rw [List.getD_eq_getElem?_getD, List.getElem?_eq_getElem hi]; exact e⟩
theorem take_succ {α : Type} (xs : List α) (d : α) (i : Nat) (h : i < xs.length) : xs.take (i + 1) = xs.take i ++ [xs.getD i d] := by
  rw [List.take_succ_eq_append_getElem h, List.getD_eq_getElem?_getD, List.getElem?_eq_getElem h]; rfl
theorem getD_append_lt {α : Type} (xs ys : List α) (d : α) (i : Nat) (h : i < xs.length) : (xs ++ ys).getD i d = xs.getD i d := by
  rw [List.getD_eq_getElem?_getD, List.getElem?_append_left h, ← List.getD_eq_getElem?_getD]
theorem getD_append_at {α : Type} (xs : List α) (y d : α) : (xs ++ [y]).getD xs.length d = y := by
  rw [List.getD_eq_getElem?_getD, List.getElem?_append_right (Nat.le_refl _)]; simp

/-- The bundle has the garment and the ply. -/
def Has (b : S42) (g p : Int) : Prop := b.f1 = g ∧ b.f4 ≤ p ∧ p < b.f5

theorem find_loop (l : List S42) (g p : Int) (hl : l.length ≤ 1000) (d : Nat) : ∀ x : Nat, x + d = l.length → (∀ j, j < x → ¬ Has (l.getD j z42) g p) →
    (∃ i : Nat, i < l.length ∧ Has (l.getD i z42) g p ∧ (∀ j, j < i → ¬ Has (l.getD j z42) g p) ∧ Ev (fun k => bundle_Find.l0 k g p l l.length x) ((i : Int), true)) ∨
    ((∀ j, j < l.length → ¬ Has (l.getD j z42) g p) ∧ Ev (fun k => bundle_Find.l0 k g p l l.length x) (0, false)) := by
  induction d with
  | zero =>
    intro x hd h
    obtain rfl : x = l.length := by omega
    refine .inr ⟨h, ?_⟩
    refine ev_succ ?_
    simp (disch := omega) only [bundle_Find.l0, if_neg]
    exact Ev.now _
  | succ d ih =>
    intro x hd h
    have e1 : ((x : Int) + 1) = ((x + 1 : Nat) : Int) := by omega
    by_cases hh : Has (l.getD x z42) g p
    · obtain ⟨h1, h2, h3⟩ := id hh
      refine .inl ⟨x, by omega, hh, h, ?_⟩
      refine ev_succ ?_
      have h1' : (rd_T42 l (x : Int)).f1 = g := h1
      have h2' : (rd_T42 l (x : Int)).f4 ≤ p := h2
      have h3' : p < (rd_T42 l (x : Int)).f5 := h3
      simp (disch := first | omega | assumption) only [bundle_Find.l0, if_pos]
      exact Ev.now _
    · have nxt : Ev (fun k => bundle_Find.l0 k g p l l.length ((x + 1 : Nat) : Int)) = Ev (fun k => bundle_Find.l0 k g p l l.length (x + 1 : Nat)) := rfl
      have key : ∀ r, Ev (fun k => bundle_Find.l0 k g p l l.length ((x + 1 : Nat) : Int)) r → Ev (fun k => bundle_Find.l0 k g p l l.length x) r := by
        intro r hr
        refine ev_succ ?_
        by_cases h1 : (l.getD x z42).f1 = g
        · by_cases h2 : (l.getD x z42).f4 ≤ p
          · have h3 : ¬ p < (l.getD x z42).f5 := fun h3 => hh ⟨h1, h2, h3⟩
            simp (disch := first | omega | assumption) only [bundle_Find.l0, if_pos, if_neg, rd42, wrap64_of, e1]
            exact hr
          · simp (disch := first | omega | assumption) only [bundle_Find.l0, if_pos, if_neg, rd42, wrap64_of, e1]
            exact hr
        · simp (disch := first | omega | assumption) only [bundle_Find.l0, if_pos, if_neg, rd42, wrap64_of, e1]
          exact hr
      rcases ih (x + 1) (by omega) (fun j hj => by
        by_cases e : j = x
        · subst e; exact hh
        · exact h j (by omega)) with ⟨i, a, b, c, ev⟩ | ⟨a, ev⟩
      · exact .inl ⟨i, a, b, c, key _ ev⟩
      · exact .inr ⟨a, key _ ev⟩
theorem find_ok (l : List S42) (g p : Int) (hl : l.length ≤ 1000) :
    (∃ i : Nat, i < l.length ∧ Has (l.getD i z42) g p ∧ (∀ j, j < i → ¬ Has (l.getD j z42) g p) ∧ Ev (fun k => bundle_Find.f k l g p) ((i : Int), true)) ∨
    ((∀ j, j < l.length → ¬ Has (l.getD j z42) g p) ∧ Ev (fun k => bundle_Find.f k l g p) (0, false)) :=
  find_loop l g p hl l.length 0 (by omega) (fun j hj => by omega)

/-! ### accepted bundles -/
def Valid (sizes : List Int) (plies : List S45) (b : S42) : Prop :=
  (0 ≤ b.f1 ∧ b.f1 < sizes.length ∧ 0 ≤ b.f4 ∧ b.f4 < b.f5 ∧ b.f5 ≤ plies.length) ∧ b.f2 = rd sizes b.f1 ∧ ∀ p : Nat, b.f4 ≤ p → p < b.f5 → (plies.getD p z45).f0 = b.f3
def Apart (x b : S42) : Prop := x.f0 ≠ b.f0 ∧ ¬ (x.f1 = b.f1 ∧ x.f4 < b.f5 ∧ b.f4 < x.f5)
theorem apart_symm {x b : S42} (h : Apart x b) : Apart b x := ⟨fun e => h.1 e.symm, fun e => h.2 ⟨e.1.symm, e.2.2, e.2.1⟩⟩
def Cover (sizes : List Int) (plies : List S45) (bs : List S42) : Prop := ∀ g p : Nat, g < sizes.length → p < plies.length → ∃ b, b ∈ bs ∧ Has b g p

section
variable (a0 a1 a2 a3 : Int) (sizes : List Int) (places : List S71) (plies : List S45)
theorem overlap_loop (earlier : List S42) (b : S42) (hl : earlier.length ≤ 1000) (d : Nat) : ∀ x : Nat, x + d = earlier.length → (∀ j, j < x → ¬ ((earlier.getD j z42).f1 = b.f1 ∧ (earlier.getD j z42).f4 < b.f5 ∧ b.f4 < (earlier.getD j z42).f5)) →
    ∃ e, Ev (fun k => bundle_bundled.l2 k earlier earlier.length x b.f0 b.f1 b.f2 b.f3 b.f4 b.f5) e ∧ (e = 0 ↔ ∀ y, y ∈ earlier → ¬ (y.f1 = b.f1 ∧ y.f4 < b.f5 ∧ b.f4 < y.f5)) := by
  induction d with
  | zero =>
    intro x hd h
    obtain rfl : x = earlier.length := by omega
    refine ⟨0, ?_, fun _ y hy => ?_, fun _ => rfl⟩
    · refine ev_succ ?_
      simp (disch := omega) only [bundle_bundled.l2, if_neg]
      exact Ev.now _
    · obtain ⟨i, hi, e⟩ := mem_getD earlier z42 hy
      rw [← e]; exact h i hi
  | succ d ih =>
    intro x hd h
    have e1 : ((x : Int) + 1) = ((x + 1 : Nat) : Int) := by omega
    by_cases hh : (earlier.getD x z42).f1 = b.f1 ∧ (earlier.getD x z42).f4 < b.f5 ∧ b.f4 < (earlier.getD x z42).f5
    · obtain ⟨h1, h2, h3⟩ := id hh
      refine ⟨14, ?_, fun e => by omega, fun e => absurd hh (e _ (getD_mem _ _ _ (by omega)))⟩
      refine ev_succ ?_
      have h1' : (rd_T42 earlier (x : Int)).f1 = b.f1 := h1
      have h2' : (rd_T42 earlier (x : Int)).f4 < b.f5 := h2
      have h3' : b.f4 < (rd_T42 earlier (x : Int)).f5 := h3
      simp (disch := first | omega | assumption) only [bundle_bundled.l2, if_pos]
      exact Ev.now _
    · obtain ⟨e, ev, he⟩ := ih (x + 1) (by omega) (fun j hj => by
        by_cases e : j = x
        · subst e; exact hh
        · exact h j (by omega))
      refine ⟨e, ?_, he⟩
      refine ev_succ ?_
      by_cases h1 : (earlier.getD x z42).f1 = b.f1
      · by_cases h2 : (earlier.getD x z42).f4 < b.f5
        · have h3 : ¬ b.f4 < (earlier.getD x z42).f5 := fun h3 => hh ⟨h1, h2, h3⟩
          simp (disch := first | omega | assumption) only [bundle_bundled.l2, if_pos, if_neg, rd42, wrap64_of, e1]
          exact ev
        · simp (disch := first | omega | assumption) only [bundle_bundled.l2, if_pos, if_neg, rd42, wrap64_of, e1]
          exact ev
      · simp (disch := first | omega | assumption) only [bundle_bundled.l2, if_pos, if_neg, rd42, wrap64_of, e1]
        exact ev
theorem lot_loop (earlier : List S42) (b : S42) (hl : earlier.length ≤ 1000) (ps : List S45) (hp : ps.length ≤ 1000) (d : Nat) : ∀ x : Nat, x + d = ps.length → (∀ j, j < x → (ps.getD j z45).f0 = b.f3) →
    ∃ e, Ev (fun k => bundle_bundled.l1 k earlier ps ps.length x b.f0 b.f1 b.f2 b.f3 b.f4 b.f5) e ∧ (e = 0 ↔ (∀ j, j < ps.length → (ps.getD j z45).f0 = b.f3) ∧ ∀ y, y ∈ earlier → ¬ (y.f1 = b.f1 ∧ y.f4 < b.f5 ∧ b.f4 < y.f5)) := by
  induction d with
  | zero =>
    intro x hd h
    obtain rfl : x = ps.length := by omega
    obtain ⟨e, ev, he⟩ := overlap_loop earlier b hl earlier.length 0 (by omega) (fun j hj => by omega)
    refine ⟨e, ?_, fun h0 => ⟨h, he.1 h0⟩, fun h0 => he.2 h0.2⟩
    refine ev_succ ?_
    simp (disch := omega) only [bundle_bundled.l1, if_neg]
    exact ev
  | succ d ih =>
    intro x hd h
    have e1 : ((x : Int) + 1) = ((x + 1 : Nat) : Int) := by omega
    by_cases hh : (ps.getD x z45).f0 = b.f3
    · obtain ⟨e, ev, he⟩ := ih (x + 1) (by omega) (fun j hj => by
        by_cases e : j = x
        · subst e; exact hh
        · exact h j (by omega))
      refine ⟨e, ?_, he⟩
      refine ev_succ ?_
      simp (disch := first | omega | assumption) only [bundle_bundled.l1, if_pos, rd45, wrap64_of, e1]
      exact ev
    · refine ⟨16, ?_, fun e => by omega, fun e => absurd (e.1 x (by omega)) hh⟩
      refine ev_succ ?_
      simp (disch := first | omega | assumption) only [bundle_bundled.l1, if_pos, if_neg, rd45, wrap64_of, e1]
      exact Ev.now _
theorem ticket_loop (earlier : List S42) (b : S42) (hl : earlier.length ≤ 1000) (hs : sizes.length ≤ 1000) (hp : plies.length ≤ 1000) (hb : 0 ≤ b.f1 ∧ b.f1 < sizes.length ∧ 0 ≤ b.f4 ∧ b.f4 < b.f5 ∧ b.f5 ≤ plies.length) (d : Nat) : ∀ x : Nat, x + d = earlier.length → (∀ j, j < x → (earlier.getD j z42).f0 ≠ b.f0) →
    ∃ e, Ev (fun k => bundle_bundled.l0 k earlier earlier earlier.length x a0 a1 a2 a3 sizes places plies b.f0 b.f1 b.f2 b.f3 b.f4 b.f5) e ∧ (e = 0 ↔ Valid sizes plies b ∧ ∀ y, y ∈ earlier → Apart y b) := by
  induction d with
  | zero =>
    intro x hd h
    obtain rfl : x = earlier.length := by omega
    have hall : ∀ y, y ∈ earlier → y.f0 ≠ b.f0 := fun y hy => by
      obtain ⟨i, hi, e⟩ := mem_getD earlier z42 hy
      rw [← e]; exact h i hi
    by_cases hz : b.f2 = rd sizes b.f1
    · have hlen : (List.drop b.f4.toNat (List.take b.f5.toNat plies)).length = (b.f5 - b.f4).toNat := by rw [List.length_drop, List.length_take]; omega
      obtain ⟨e, ev, he⟩ := lot_loop earlier b hl (List.drop b.f4.toNat (List.take b.f5.toNat plies)) (by omega) _ 0 (Nat.zero_add _) (fun j hj => by omega)
      refine ⟨e, ?_, ?_⟩
      · refine ev_succ ?_
        simp (disch := first | omega | assumption) only [bundle_bundled.l0, if_neg, if_pos, Option.bind_some]
        exact ev
      · have hget : ∀ j, j < (b.f5 - b.f4).toNat → (List.drop b.f4.toNat (List.take b.f5.toNat plies)).getD j z45 = plies.getD (b.f4.toNat + j) z45 := by
          intro j hj
          rw [List.getD_eq_getElem?_getD, List.getElem?_drop, List.getElem?_take, if_pos (by omega), ← List.getD_eq_getElem?_getD]
        rw [he]
        constructor
        · rintro ⟨h1, h2⟩
          refine ⟨⟨hb, hz, fun p hp1 hp2 => ?_⟩, fun y hy => ⟨hall y hy, h2 y hy⟩⟩
          have := h1 (p - b.f4.toNat) (by omega)
          rw [hget _ (by omega), show b.f4.toNat + (p - b.f4.toNat) = p from by omega] at this
          exact this
        · rintro ⟨⟨_, _, h1⟩, h2⟩
          refine ⟨fun j hj => ?_, fun y hy => (h2 y hy).2⟩
          rw [hget _ (by omega)]
          exact h1 _ (by omega) (by omega)
    · refine ⟨1, ?_, fun e => by omega, fun e => absurd e.1.2.1 hz⟩
      refine ev_succ ?_
      simp (disch := first | omega | assumption) only [bundle_bundled.l0, if_neg, if_pos, Option.bind_some]
      exact Ev.now _
  | succ d ih =>
    intro x hd h
    have e1 : ((x : Int) + 1) = ((x + 1 : Nat) : Int) := by omega
    by_cases hh : (earlier.getD x z42).f0 = b.f0
    · refine ⟨7, ?_, fun e => by omega, fun e => absurd hh (e.2 _ (getD_mem _ _ _ (by omega))).1⟩
      refine ev_succ ?_
      have hh' : (rd_T42 earlier (x : Int)).f0 = b.f0 := hh
      simp (disch := first | omega | assumption) only [bundle_bundled.l0, if_pos]
      exact Ev.now _
    · obtain ⟨e, ev, he⟩ := ih (x + 1) (by omega) (fun j hj => by
        by_cases e : j = x
        · subst e; exact hh
        · exact h j (by omega))
      refine ⟨e, ?_, he⟩
      refine ev_succ ?_
      simp (disch := first | omega | assumption) only [bundle_bundled.l0, if_pos, if_neg, rd42, wrap64_of, e1]
      exact ev
theorem bundled_ok (earlier : List S42) (b : S42) (hl : earlier.length ≤ 1000) (hs : sizes.length ≤ 1000) (hp : plies.length ≤ 1000) :
    ∃ e, Ev (fun k => bundle_bundled.f k a0 a1 a2 a3 sizes places plies earlier b.f0 b.f1 b.f2 b.f3 b.f4 b.f5) e ∧ (e = 0 ↔ Valid sizes plies b ∧ ∀ y, y ∈ earlier → Apart y b) := by
  have bad : ¬ (0 ≤ b.f1 ∧ b.f1 < sizes.length ∧ 0 ≤ b.f4 ∧ b.f4 < b.f5 ∧ b.f5 ≤ plies.length) → Ev (fun k => bundle_bundled.j0 k earlier true a0 a1 a2 a3 sizes places plies b.f0 b.f1 b.f2 b.f3 b.f4 b.f5) 3 ∧ ((3 : Int) = 0 ↔ Valid sizes plies b ∧ ∀ y, y ∈ earlier → Apart y b) := by
    intro h
    refine ⟨?_, fun e => by omega, fun e => absurd e.1.1 h⟩
    refine ev_succ ?_
    simp only [bundle_bundled.j0, if_true]
    exact Ev.now _
  by_cases h1 : b.f1 < 0
  · refine ⟨3, ?_, (bad (by omega)).2⟩
    simp (disch := omega) only [bundle_bundled.f, if_pos]
    exact (bad (by omega)).1
  · by_cases h2 : b.f1 ≥ sizes.length
    · refine ⟨3, ?_, (bad (by omega)).2⟩
      simp (disch := omega) only [bundle_bundled.f, if_pos, if_neg]
      exact (bad (by omega)).1
    · by_cases h3 : b.f4 < 0
      · refine ⟨3, ?_, (bad (by omega)).2⟩
        simp (disch := omega) only [bundle_bundled.f, if_pos, if_neg]
        exact (bad (by omega)).1
      · by_cases h4 : b.f4 ≥ b.f5
        · refine ⟨3, ?_, (bad (by omega)).2⟩
          simp (disch := omega) only [bundle_bundled.f, if_pos, if_neg]
          exact (bad (by omega)).1
        · by_cases h5 : b.f5 > plies.length
          · refine ⟨3, ?_, (bad (by omega)).2⟩
            simp (disch := omega) only [bundle_bundled.f, if_neg, decide_eq_true h5]
            exact (bad (by omega)).1
          · obtain ⟨e, ev, he⟩ := ticket_loop a0 a1 a2 a3 sizes places plies earlier b hl hs hp (by omega) earlier.length 0 (by omega) (fun j hj => by omega)
            refine ⟨e, ?_, he⟩
            simp (disch := omega) only [bundle_bundled.f, if_neg, decide_eq_false h5]
            refine ev_succ ?_
            simp only [bundle_bundled.j0, Bool.false_eq_true, if_false]
            exact ev

/-! ### Check -/
theorem gap_in (bs : List S42) (hl : bs.length ≤ 1000) (hs : sizes.length ≤ 1000) (hp : plies.length ≤ 1000) (g : Nat) (hg : g < sizes.length) (d : Nat) : ∀ x : Nat, x + d = plies.length → (∀ p : Nat, p < x → ∃ b, b ∈ bs ∧ Has b g p) →
    (∀ e, (∀ p : Nat, p < plies.length → ∃ b, b ∈ bs ∧ Has b g p) → Ev (fun k => bundle_Check.l1 k bs sizes.length (g + 1 : Nat) a0 a1 a2 a3 sizes places plies) e → Ev (fun k => bundle_Check.l2 k bs g sizes.length g plies.length x a0 a1 a2 a3 sizes places plies) e) ∧
    ((¬ ∀ p : Nat, p < plies.length → ∃ b, b ∈ bs ∧ Has b g p) → Ev (fun k => bundle_Check.l2 k bs g sizes.length g plies.length x a0 a1 a2 a3 sizes places plies) 20) := by
  induction d with
  | zero =>
    intro x hd h
    obtain rfl : x = plies.length := by omega
    refine ⟨fun e _ he => ?_, fun hn => absurd h hn⟩
    have e1 : ((g : Int) + 1) = ((g + 1 : Nat) : Int) := by omega
    refine ev_succ ?_
    simp (disch := omega) only [bundle_Check.l2, if_neg, wrap64_of, e1]
    exact he
  | succ d ih =>
    intro x hd h
    have e1 : ((x : Int) + 1) = ((x + 1 : Nat) : Int) := by omega
    rcases find_ok bs g x hl with ⟨i, hi, hh, _, ev⟩ | ⟨hn, ev⟩
    · obtain ⟨g1, g2⟩ := ih (x + 1) (by omega) (fun p hp' => by
        by_cases e : p = x
        · subst e; exact ⟨_, getD_mem _ _ _ hi, hh⟩
        · exact h p (by omega))
      constructor
      · intro e hc he
        refine ev_succ ?_
        simp (disch := omega) only [bundle_Check.l2, if_pos]
        refine Ev.bind ev ?_
        simp (disch := omega) only [if_true, wrap64_of, e1]
        exact g1 e hc he
      · intro hc
        refine ev_succ ?_
        simp (disch := omega) only [bundle_Check.l2, if_pos]
        refine Ev.bind ev ?_
        simp (disch := omega) only [if_true, wrap64_of, e1]
        exact g2 hc
    · have no : ¬ ∀ p : Nat, p < plies.length → ∃ b, b ∈ bs ∧ Has b g p := by
        intro hc
        obtain ⟨b, hb, hh⟩ := hc x (by omega)
        obtain ⟨i, hi, e⟩ := mem_getD bs z42 hb
        exact hn i hi (by rw [e]; exact hh)
      refine ⟨fun e hc => absurd hc no, fun _ => ?_⟩
      refine ev_succ ?_
      simp (disch := omega) only [bundle_Check.l2, if_pos]
      refine Ev.bind ev ?_
      simp only [Bool.false_eq_true, if_false]
      exact Ev.now _
theorem gap_out (bs : List S42) (hl : bs.length ≤ 1000) (hs : sizes.length ≤ 1000) (hp : plies.length ≤ 1000) (d : Nat) : ∀ x : Nat, x + d = sizes.length → (∀ g p : Nat, g < x → p < plies.length → ∃ b, b ∈ bs ∧ Has b g p) →
    (Cover sizes plies bs → Ev (fun k => bundle_Check.l1 k bs sizes.length x a0 a1 a2 a3 sizes places plies) 0) ∧ (¬ Cover sizes plies bs → Ev (fun k => bundle_Check.l1 k bs sizes.length x a0 a1 a2 a3 sizes places plies) 20) := by
  induction d with
  | zero =>
    intro x hd h
    obtain rfl : x = sizes.length := by omega
    refine ⟨fun _ => ?_, fun hn => absurd (fun g p hg hp => h g p hg hp) hn⟩
    refine ev_succ ?_
    simp (disch := omega) only [bundle_Check.l1, if_neg]
    exact Ev.now _
  | succ d ih =>
    intro x hd h
    obtain ⟨g1, g2⟩ := gap_in a0 a1 a2 a3 sizes places plies bs hl hs hp x (by omega) plies.length 0 (by omega) (fun p hp => by omega)
    have go : ∀ e, Ev (fun k => bundle_Check.l2 k bs x sizes.length x plies.length (0 : Nat) a0 a1 a2 a3 sizes places plies) e → Ev (fun k => bundle_Check.l1 k bs sizes.length x a0 a1 a2 a3 sizes places plies) e := by
      intro e he
      refine ev_succ ?_
      simp (disch := omega) only [bundle_Check.l1, if_pos]
      exact he
    by_cases hc : ∀ p : Nat, p < plies.length → ∃ b, b ∈ bs ∧ Has b x p
    · obtain ⟨i1, i2⟩ := ih (x + 1) (by omega) (fun g p hg hp => by
        by_cases e : g = x
        · subst e; exact hc p hp
        · exact h g p (by omega) hp)
      exact ⟨fun c => go _ (g1 _ hc (i1 c)), fun c => go _ (g1 _ hc (i2 c))⟩
    · exact ⟨fun c => absurd (fun p hp => c x p (by omega) hp) hc, fun _ => go _ (g2 hc)⟩

/-- All that comes in order is good. -/
def Goods (bs : List S42) : Prop := (∀ b, b ∈ bs → Valid sizes plies b) ∧ bs.Pairwise Apart
theorem goods_snoc (bs : List S42) (b : S42) : Goods sizes plies (bs ++ [b]) ↔ Goods sizes plies bs ∧ Valid sizes plies b ∧ ∀ y, y ∈ bs → Apart y b := by
  unfold Goods
  rw [List.pairwise_append]
  constructor
  · rintro ⟨h1, h2, _, h3⟩
    exact ⟨⟨fun x hx => h1 x (by simp [hx]), h2⟩, h1 b (by simp), fun y hy => h3 y hy b (by simp)⟩
  · rintro ⟨⟨h1, h2⟩, h3, h4⟩
    exact ⟨fun x hx => by
      rcases List.mem_append.1 hx with hx | hx
      · exact h1 x hx
      · rw [List.mem_singleton.1 hx]; exact h3, h2, List.pairwise_singleton _ _, fun y hy c hc => by rw [List.mem_singleton.1 hc]; exact h4 y hy⟩
theorem goods_take {bs : List S42} (h : Goods sizes plies bs) (n : Nat) : Goods sizes plies (bs.take n) :=
  ⟨fun b hb => h.1 b (List.mem_of_mem_take hb), h.2.sublist (List.take_sublist _ _)⟩
theorem check_loop (bs : List S42) (hl : bs.length ≤ 900) (hs : sizes.length ≤ 900) (hp : plies.length ≤ 900) (d : Nat) : ∀ x : Nat, x + d = bs.length → Goods sizes plies (bs.take x) →
    ∃ e, Ev (fun k => bundle_Check.l0 k bs bs bs.length x a0 a1 a2 a3 sizes places plies) e ∧ (e = 0 ↔ Goods sizes plies bs ∧ Cover sizes plies bs) ∧ (Goods sizes plies bs → ¬ Cover sizes plies bs → e = 20) := by
  induction d with
  | zero =>
    intro x hd h
    obtain rfl : x = bs.length := by omega
    rw [List.take_length] at h
    obtain ⟨g1, g2⟩ := gap_out a0 a1 a2 a3 sizes places plies bs (by omega) (by omega) (by omega) sizes.length 0 (by omega) (fun g p hg => by omega)
    have go : ∀ e, Ev (fun k => bundle_Check.l1 k bs sizes.length (0 : Nat) a0 a1 a2 a3 sizes places plies) e → Ev (fun k => bundle_Check.l0 k bs bs bs.length bs.length a0 a1 a2 a3 sizes places plies) e := by
      intro e he
      refine ev_succ ?_
      simp (disch := omega) only [bundle_Check.l0, if_neg]
      exact he
    by_cases hc : Cover sizes plies bs
    · exact ⟨0, go _ (g1 hc), ⟨fun _ => ⟨h, hc⟩, fun _ => rfl⟩, fun _ hn => absurd hc hn⟩
    · exact ⟨20, go _ (g2 hc), ⟨fun e => by omega, fun e => absurd e.2 hc⟩, fun _ _ => rfl⟩
  | succ d ih =>
    intro x hd h
    have e1 : ((x : Int) + 1) = ((x + 1 : Nat) : Int) := by omega
    obtain ⟨e, ev, he⟩ := bundled_ok a0 a1 a2 a3 sizes places plies (bs.take x) (bs.getD x z42) (by rw [List.length_take]; omega) (by omega) (by omega)
    have go : ∀ r, Ev (fun k => if e = 0 then bundle_Check.l0 k bs bs bs.length ((x + 1 : Nat) : Int) a0 a1 a2 a3 sizes places plies else some e) r → Ev (fun k => bundle_Check.l0 k bs bs bs.length x a0 a1 a2 a3 sizes places plies) r := by
      intro r hr
      refine ev_succ ?_
      simp (disch := omega) only [bundle_Check.l0, if_pos, rd42, Int.toNat_natCast, wrap64_of, e1]
      exact Ev.bind ev hr
    have hsn := goods_snoc sizes plies (bs.take x) (bs.getD x z42)
    rw [← take_succ bs z42 x (by omega)] at hsn
    by_cases h0 : e = 0
    · obtain ⟨r, ev', hr⟩ := ih (x + 1) (by omega) (hsn.2 ⟨h, he.1 h0⟩)
      refine ⟨r, go r ?_, hr⟩
      simp only [h0, if_true]
      exact ev'
    · have no : ¬ Goods sizes plies bs := fun hg => h0 (he.2 (hsn.1 (goods_take sizes plies hg (x + 1))).2)
      refine ⟨e, go e ?_, ⟨fun h => absurd h h0, fun h => absurd h.1 no⟩, fun h => absurd h no⟩
      simp only [h0, if_false]
      exact Ev.now _
theorem check_ok (bs : List S42) (hl : bs.length ≤ 900) (hs : sizes.length ≤ 900) (hp : plies.length ≤ 900) :
    ∃ e, Ev (fun k => bundle_Check.f k a0 a1 a2 a3 sizes places plies bs) e ∧ (e = 0 ↔ Goods sizes plies bs ∧ Cover sizes plies bs) ∧ (Goods sizes plies bs → ¬ Cover sizes plies bs → e = 20) :=
  check_loop a0 a1 a2 a3 sizes places plies bs hl hs hp bs.length 0 (by omega) ⟨fun b hb => by simp at hb, by simp⟩
end

theorem light_ok (a0 a1 a2 a3 : Int) (sizes : List Int) (places : List S71) (plies : List S45) : garmentref44_Light.f a0 a1 a2 a3 sizes places plies = some (decide (sizes.length ≤ 12 ∧ plies.length ≤ 80)) := by
  unfold garmentref44_Light.f
  split
  · rw [Option.some.injEq, decide_eq_decide]; omega
  · rw [Option.some.injEq, eq_comm, decide_eq_false_iff_not]; omega
theorem alive_ok : Ev (fun k => garmentlaw44_alive.f k) true := by
  refine Ev.of (fun k => garmentlaw44_alive.mono k) (k := 60) ?_
  decide +kernel
end Go.Proofs.Ytoekbmgcfinfmab.BuBase
