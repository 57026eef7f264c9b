/- No two accepted bundles share a ticket or a garment and ply, and without any one of them the others are not accepted. -/
import Derived.Test.YtoekbmgcfinfmabBuBase
import Derived.Test.YtoekbmgcfinfmabBu14
namespace Go.Proofs.Ytoekbmgcfinfmab.BuBase
open Go.RowKit Go.Proofs.YtoekbmgcfinfmabW.PrintWords Go.Proofs.YtoekbmgcfinfmabW.PrintLast Go.Proofs.YtoekbmgcfinfmabW.PrintMore Go.Proofs.Ytoekbmgcfinfmab.Bu
set_option linter.unusedVariables false
set_option linter.unusedSimpArgs false

section
variable (a0 a1 a2 a3 : Int) (sizes : List Int) (places : List S71) (plies : List S45)
theorem pw_get {bs : List S42} (h : bs.Pairwise Apart) {i j : Nat} (hij : i < j) (hj : j < bs.length) : Apart (bs.getD i z42) (bs.getD j z42) := by
  have := List.pairwise_iff_getElem.1 h i j (by omega) hj hij
  have e1 : bs[i] = bs.getD i z42 := by rw [List.getD_eq_getElem?_getD, List.getElem?_eq_getElem (by omega)]; rfl
  have e2 : bs[j] = bs.getD j z42 := by rw [List.getD_eq_getElem?_getD, List.getElem?_eq_getElem (by omega)]; rfl
  rwa [e1, e2] at this
theorem not_both {x y : S42} {g p : Int} (h : Apart x y) (a : Has x g p) (b : Has y g p) : False := by
  obtain ⟨a1, a2, a3⟩ := a
  obtain ⟨b1, b2, b3⟩ := b
  exact h.2 ⟨by rw [a1, b1], by omega, by omega⟩
/-- Without the bundle n the others are good, but leave a gap. -/
theorem goods_less {bs : List S42} (h : Goods sizes plies bs) (n : Nat) : Goods sizes plies (bs.take n ++ bs.drop (n + 1)) := by
  have sub : (bs.take n ++ bs.drop (n + 1)).Sublist bs := by
    have e : bs.take n ++ bs.drop n = bs := List.take_append_drop n bs
    have s2 : (bs.drop (n + 1)).Sublist (bs.drop n) := by
      rw [← List.drop_drop]
      exact List.drop_sublist _ _
    have := List.Sublist.append (List.Sublist.refl (bs.take n)) s2
    rwa [e] at this
  exact ⟨fun b hb => h.1 b (sub.subset hb), h.2.sublist sub⟩
theorem gap_less {bs : List S42} (h : Goods sizes plies bs) (n : Nat) (hn : n < bs.length) : ¬ Cover sizes plies (bs.take n ++ bs.drop (n + 1)) := by
  intro hc
  obtain ⟨⟨v1, v2, v3, v4, v5⟩, _⟩ := h.1 _ (getD_mem bs z42 n hn)
  obtain ⟨b, hb, hh⟩ := hc (bs.getD n z42).f1.toNat (bs.getD n z42).f4.toNat (by omega) (by omega)
  rw [Int.toNat_of_nonneg v1, Int.toNat_of_nonneg v3] at hh
  have own : Has (bs.getD n z42) (bs.getD n z42).f1 (bs.getD n z42).f4 := ⟨rfl, Int.le_refl _, v4⟩
  rcases List.mem_append.1 hb with hb | hb
  · obtain ⟨i, hi, e⟩ := mem_getD _ z42 hb
    rw [List.length_take] at hi
    have e2 : (bs.take n).getD i z42 = bs.getD i z42 := by rw [List.getD_eq_getElem?_getD, List.getElem?_take, if_pos (by omega), ← List.getD_eq_getElem?_getD]
    rw [← e, e2] at hh
    exact not_both (pw_get h.2 (by omega) hn) hh own
  · obtain ⟨i, hi, e⟩ := mem_getD _ z42 hb
    rw [List.length_drop] at hi
    have e2 : (bs.drop (n + 1)).getD i z42 = bs.getD (n + 1 + i) z42 := by rw [List.getD_eq_getElem?_getD, List.getElem?_drop, ← List.getD_eq_getElem?_getD]
    rw [← e, e2] at hh
    exact not_both (pw_get h.2 (show n < n + 1 + i by omega) (by omega)) own hh
theorem find_own (bs : List S42) (hl : bs.length ≤ 900) (h : Goods sizes plies bs) (i : Nat) (hi : i < bs.length) (p : Int) (h1 : (bs.getD i z42).f4 ≤ p) (h2 : p < (bs.getD i z42).f5) : Ev (fun k => bundle_Find.f k bs (bs.getD i z42).f1 p) ((i : Int), true) := by
  have own : Has (bs.getD i z42) (bs.getD i z42).f1 p := ⟨rfl, h1, h2⟩
  rcases find_ok bs (bs.getD i z42).f1 p (by omega) with ⟨j, hj, hh, _, ev⟩ | ⟨hn, _⟩
  · have e : j = i := by
      rcases Nat.lt_trichotomy i j with h3 | h3 | h3
      · exact (not_both (pw_get h.2 h3 hj) own hh).elim
      · exact h3.symm
      · exact (not_both (pw_get h.2 h3 hi) hh own).elim
    rw [e] at ev
    exact ev
  · exact absurd own (hn i hi)
theorem tickets_k (bs : List S42) (hl : bs.length ≤ 100) (h : Goods sizes plies bs) (at_ : Int) (i : Nat) (hi : i < bs.length) (K : Ev (fun k => garmentlaw44_BundleTickets.l0 k bs at_ (i + 1 : Nat) a0 a1 a2 a3 sizes places plies) true) (d : Nat) : ∀ x : Nat, x + d = i →
    Ev (fun k => garmentlaw44_BundleTickets.l2 k bs at_ i x a0 a1 a2 a3 sizes places plies) true := by
  induction d with
  | zero =>
    intro x hd
    have e1 : ((i : Int) + 1) = ((i + 1 : Nat) : Int) := by omega
    refine ev_succ ?_
    simp (disch := omega) only [garmentlaw44_BundleTickets.l2, if_neg, wrap64_of, e1]
    exact K
  | succ d ih =>
    intro x hd
    have e1 : ((x : Int) + 1) = ((x + 1 : Nat) : Int) := by omega
    have ne : ¬ (rd_T42 bs (x : Int)).f0 = (rd_T42 bs (i : Int)).f0 := (pw_get h.2 (show x < i by omega) hi).1
    refine ev_succ ?_
    simp (disch := first | omega | assumption) only [garmentlaw44_BundleTickets.l2, if_pos, if_neg, wrap64_of, e1]
    exact ih (x + 1) (by omega)
theorem tickets_p (hp : plies.length ≤ 900) (bs : List S42) (hl : bs.length ≤ 100) (h : Goods sizes plies bs) (at_ : Int) (i : Nat) (hi : i < bs.length) (K : Ev (fun k => garmentlaw44_BundleTickets.l0 k bs at_ (i + 1 : Nat) a0 a1 a2 a3 sizes places plies) true) (d : Nat) : ∀ p : Nat, (bs.getD i z42).f4 ≤ p → (p : Int) + d = (bs.getD i z42).f5 →
    Ev (fun k => garmentlaw44_BundleTickets.l1 k bs at_ i p a0 a1 a2 a3 sizes places plies) true := by
  have hv := (h.1 _ (getD_mem bs z42 i hi)).1
  induction d with
  | zero =>
    intro p h1 h2
    have e : ¬ (p : Int) < (rd_T42 bs (i : Int)).f5 := by rw [rd42]; omega
    refine ev_succ ?_
    simp (disch := first | omega | assumption) only [garmentlaw44_BundleTickets.l1, if_pos, if_neg]
    refine ev_succ ?_
    simp only [garmentlaw44_BundleTickets.j3, Bool.false_eq_true, if_false]
    exact tickets_k a0 a1 a2 a3 sizes places plies bs hl h at_ i hi K i 0 (by omega)
  | succ d ih =>
    intro p h1 h2
    have e1 : ((p : Int) + 1) = ((p + 1 : Nat) : Int) := by omega
    have e : (p : Int) < (rd_T42 bs (i : Int)).f5 := by rw [rd42]; omega
    have e2 : decide ((p : Int) < plies.length) = true := decide_eq_true (by omega)
    refine ev_succ ?_
    simp (disch := first | omega | assumption) only [garmentlaw44_BundleTickets.l1, if_pos, e2]
    refine ev_succ ?_
    simp (disch := first | omega | assumption) only [garmentlaw44_BundleTickets.j3, if_true, if_pos]
    refine Ev.bind (find_own sizes plies bs (by omega) h i hi p h1 (by omega)) ?_
    simp (disch := omega) only [if_true, wrap64_of, e1]
    exact ih (p + 1) (by omega) (by omega)
theorem tickets_i (hs : sizes.length ≤ 900) (hp : plies.length ≤ 900) (bs : List S42) (hl : bs.length ≤ 100) (h : Goods sizes plies bs) (hc : Cover sizes plies bs) (at_ : Int) (ha : 0 ≤ at_ ∧ at_ ≤ 255) (d : Nat) : ∀ i : Nat, i + d = bs.length →
    Ev (fun k => garmentlaw44_BundleTickets.l0 k bs at_ i a0 a1 a2 a3 sizes places plies) true := by
  induction d with
  | zero =>
    intro i hd
    refine ev_succ ?_
    by_cases h0 : bs.length = 0
    · by_cases h1 : sizes.length = 0
      · simp (disch := omega) only [garmentlaw44_BundleTickets.l0, if_neg, if_pos]
        exact Ev.bind alive_ok (Ev.now _)
      · by_cases h2 : plies.length = 0
        · simp (disch := omega) only [garmentlaw44_BundleTickets.l0, if_neg, if_pos]
          exact Ev.bind alive_ok (Ev.now _)
        · obtain ⟨b, hb, _⟩ := hc 0 0 (by omega) (by omega)
          obtain ⟨j, hj, _⟩ := mem_getD bs z42 hb
          omega
    · obtain ⟨n, en⟩ : ∃ n : Nat, Int.tmod at_ (bs.length : Int) = n := ⟨(Int.tmod at_ (bs.length : Int)).toNat, by
        have := Int.tmod_nonneg (b := (bs.length : Int)) ha.1; omega⟩
      have hn : n < bs.length := by
        have := Int.tmod_lt_of_pos at_ (b := (bs.length : Int)) (by omega)
        omega
      have l1 : (bs.take n).length ≤ 100 := by rw [List.length_take]; omega
      have l2 : (bs.drop (n + 1)).length ≤ 100 := by rw [List.length_drop]; omega
      have l3 : (bs.take n ++ bs.drop (n + 1)).length ≤ 200 := by rw [List.length_append]; omega
      have e1 : ((n : Int) + 1) = ((n + 1 : Nat) : Int) := by omega
      obtain ⟨e, ev, _, he⟩ := check_ok a0 a1 a2 a3 sizes places plies (bs.take n ++ bs.drop (n + 1)) (by omega) (by omega) (by omega)
      have e0 := he (goods_less sizes plies h n) (gap_less sizes plies h n hn)
      simp (disch := first | omega | (simp only [List.length_nil, List.nil_append]; omega)) only [garmentlaw44_BundleTickets.l0, if_neg, if_pos, Option.bind_some, wrap64_of, en, e1, Int.toNat_natCast, List.nil_append]
      refine Ev.bind ev ?_
      simp only [e0, if_true]
      exact Ev.bind alive_ok (Ev.now _)
  | succ d ih =>
    intro i hd
    have hv := (h.1 _ (getD_mem bs z42 i (by omega))).1
    refine ev_succ ?_
    simp (disch := omega) only [garmentlaw44_BundleTickets.l0, if_pos, rd42]
    obtain ⟨f, ef⟩ : ∃ f : Nat, (bs.getD i z42).f4 = f := ⟨(bs.getD i z42).f4.toNat, by omega⟩
    rw [ef]
    exact tickets_p a0 a1 a2 a3 sizes places plies hp bs hl h at_ i (by omega) (ih (i + 1) (by omega)) ((bs.getD i z42).f5 - f).toNat f (by omega) (by omega)
theorem tickets_law (bs : List S42) (at_ : Int) (ha : 0 ≤ at_ ∧ at_ ≤ 255) : Ev (fun k => garmentlaw44_BundleTickets.f k a0 a1 a2 a3 sizes places plies bs at_) true := by
  have idle : Ev (fun k => garmentlaw44_BundleTickets.j0 k bs at_ true a0 a1 a2 a3 sizes places plies) true := by
    refine ev_succ ?_
    simp only [garmentlaw44_BundleTickets.j0, if_true]
    exact Ev.bind alive_ok (Ev.now _)
  simp only [garmentlaw44_BundleTickets.f, light_ok, Option.bind_some]
  by_cases h : sizes.length ≤ 12 ∧ plies.length ≤ 80
  · rw [decide_eq_true h]
    simp only [if_true]
    by_cases h1 : bs.length ≤ 100
    · obtain ⟨e, ev, he, _⟩ := check_ok a0 a1 a2 a3 sizes places plies bs (by omega) (by omega) (by omega)
      simp (disch := omega) only [if_neg]
      refine Ev.bind ev ?_
      by_cases h0 : e = 0
      · rw [show (e != 0) = false by simp [h0]]
        obtain ⟨hg, hc⟩ := he.1 h0
        refine ev_succ ?_
        simp only [garmentlaw44_BundleTickets.j0, Bool.false_eq_true, if_false]
        exact tickets_i a0 a1 a2 a3 sizes places plies (by omega) (by omega) bs h1 hg hc at_ ha bs.length 0 (by omega)
      · rw [show (e != 0) = true by simp [h0]]
        exact idle
    · simp (disch := omega) only [if_pos]
      exact idle
  · rw [decide_eq_false h]
    simp only [Bool.false_eq_true, if_false]
    exact idle
theorem tickets_pure (bs : List S42) (_ : bs.length ≤ maxLen) (_ : ∀ y ∈ bs, True) (at_ : Int) (ha : (Lit.int .u8 at_).wf = true) : ∃ k, garmentlaw44_BundleTickets.f k a0 a1 a2 a3 sizes places plies bs at_ = some true :=
  Ev.rounds (tickets_law a0 a1 a2 a3 sizes places plies bs at_ (by simpa [Lit.wf, IntKind.has, IntKind.min, IntKind.max, IntKind.signed, IntKind.bits] using ha))
end
end Go.Proofs.Ytoekbmgcfinfmab.BuBase
