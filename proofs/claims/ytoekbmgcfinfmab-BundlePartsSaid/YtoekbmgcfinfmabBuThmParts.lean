/- The bundles that are made are accepted, and each garment and ply is in exactly one of them, which has the size of the garment and the lot of the ply. -/
import Derived.Test.YtoekbmgcfinfmabBuMake
import Derived.Test.YtoekbmgcfinfmabBu12
namespace Go.Proofs.Ytoekbmgcfinfmab.BuBase
open Go.RowKit Go.Proofs.YtoekbmgcfinfmabW.PrintWords Go.Proofs.YtoekbmgcfinfmabW.PrintLast Go.Proofs.YtoekbmgcfinfmabW.PrintMore Go.Proofs.Ytoekbmgcfinfmab.Bu
set_option linter.unusedVariables false
set_option linter.unusedSimpArgs false

section
variable (a0 a1 a2 a3 : Int) (sizes : List Int) (places : List S71) (plies : List S45) (most : Int)
theorem one_of_them {out : List S42} {g p : Nat} {i j : Nat} (h : Goods sizes plies out) (hi : i < out.length) (hj : j < out.length) (a : Has (out.getD i z42) g p) (b : Has (out.getD j z42) g p) : i = j := by
  have key : ∀ i j, i < j → j < out.length → Has (out.getD i z42) g p → Has (out.getD j z42) g p → False := by
    intro i j hij hj a b
    have := List.pairwise_iff_getElem.1 h.2 i j (by omega) hj hij
    have e1 : out[i] = out.getD i z42 := by rw [List.getD_eq_getElem?_getD, List.getElem?_eq_getElem (by omega)]; rfl
    have e2 : out[j] = out.getD j z42 := by rw [List.getD_eq_getElem?_getD, List.getElem?_eq_getElem (by omega)]; rfl
    rw [e1, e2] at this
    obtain ⟨a1, a2, a3⟩ := a
    obtain ⟨b1, b2, b3⟩ := b
    exact this.2 ⟨by rw [a1, b1], by omega, by omega⟩
  rcases Nat.lt_trichotomy i j with h | h | h
  · exact (key i j h hj a b).elim
  · exact h
  · exact (key j i h hi b a).elim
theorem parts_i (hs : sizes.length ≤ 900) (hp : plies.length ≤ 900) (out : List S42) (hl : out.length ≤ 60) (hg : Goods sizes plies out) (g p : Nat) (hgs : g < sizes.length) (hpp : p < plies.length) (i0 : Nat) (hi0 : i0 < out.length) (h0 : Has (out.getD i0 z42) g p) (d : Nat) : ∀ x : Nat, x + d = out.length →
    Ev (fun k => garmentlaw44_BundleParts.l1 k out g (p + 1 : Nat) a0 a1 a2 a3 sizes places plies) true → ∀ n : Int, n = (if i0 < x then 1 else 0) → Ev (fun k => garmentlaw44_BundleParts.l2 k out g p n x a0 a1 a2 a3 sizes places plies) true := by
  induction d with
  | zero =>
    intro x hd K n hn
    have e1 : ((p : Int) + 1) = ((p + 1 : Nat) : Int) := by omega
    rw [if_pos (by omega)] at hn
    refine ev_succ ?_
    simp (disch := omega) only [garmentlaw44_BundleParts.l2, if_neg, if_pos, wrap64_of, e1]
    exact K
  | succ d ih =>
    intro x hd K n hn
    have e1 : ((x : Int) + 1) = ((x + 1 : Nat) : Int) := by omega
    have hxl : x < out.length := by omega
    have no : ¬ Has (out.getD x z42) g p → Ev (fun k => garmentlaw44_BundleParts.j3 k out g p n x false a0 a1 a2 a3 sizes places plies) true := by
      intro hn'
      have hne : i0 ≠ x := fun e => hn' (e ▸ h0)
      refine ev_succ ?_
      simp (disch := omega) only [garmentlaw44_BundleParts.j3, Bool.false_eq_true, if_false, wrap64_of, e1]
      refine ih (x + 1) (by omega) K n ?_
      rw [hn]; repeat' split
      all_goals omega
    refine ev_succ ?_
    by_cases h1 : (rd_T42 out (x : Int)).f1 = g
    · by_cases h2 : (rd_T42 out (x : Int)).f4 ≤ p
      · by_cases h3 : (p : Int) < (rd_T42 out (x : Int)).f5
        · have e : i0 = x := one_of_them sizes plies hg hi0 hxl h0 ⟨h1, h2, h3⟩
          rw [if_neg (by omega)] at hn
          subst hn
          obtain ⟨_, v2, v3⟩ := hg.1 _ (getD_mem out z42 x hxl)
          have v2' : (rd_T42 out (x : Int)).f2 = rd sizes (g : Int) := by rw [← h1]; exact v2
          have v3' : (rd_T42 out (x : Int)).f3 = (rd_T45 plies (p : Int)).f0 := (v3 p h2 h3).symm
          simp (disch := first | omega | assumption) only [garmentlaw44_BundleParts.l2, if_pos, decide_eq_true h3]
          refine ev_succ ?_
          simp (disch := first | omega | assumption) only [garmentlaw44_BundleParts.j3, if_pos, if_true, wrap64_of, e1]
          exact ih (x + 1) (by omega) K _ (by rw [if_pos (by omega)]; rfl)
        · simp (disch := first | omega | assumption) only [garmentlaw44_BundleParts.l2, if_pos, decide_eq_false h3]
          exact no (fun h => h3 h.2.2)
      · simp (disch := first | omega | assumption) only [garmentlaw44_BundleParts.l2, if_pos, if_neg]
        exact no (fun h => h2 h.2.1)
    · simp (disch := first | omega | assumption) only [garmentlaw44_BundleParts.l2, if_pos, if_neg]
      exact no (fun h => h1 h.1)
theorem parts_p (hs : sizes.length ≤ 900) (hp : plies.length ≤ 900) (out : List S42) (hl : out.length ≤ 60) (hg : Goods sizes plies out) (hc : Cover sizes plies out) (g : Nat) (hgs : g < sizes.length) (d : Nat) : ∀ p : Nat, p + d = plies.length →
    Ev (fun k => garmentlaw44_BundleParts.l0 k out (g + 1 : Nat) a0 a1 a2 a3 sizes places plies) true → Ev (fun k => garmentlaw44_BundleParts.l1 k out g p a0 a1 a2 a3 sizes places plies) true := by
  induction d with
  | zero =>
    intro p hd K
    have e1 : ((g : Int) + 1) = ((g + 1 : Nat) : Int) := by omega
    refine ev_succ ?_
    simp (disch := omega) only [garmentlaw44_BundleParts.l1, if_neg, wrap64_of, e1]
    exact K
  | succ d ih =>
    intro p hd K
    obtain ⟨b, hb, hh⟩ := hc g p hgs (by omega)
    obtain ⟨i0, hi0, e⟩ := mem_getD out z42 hb
    rw [← e] at hh
    refine ev_succ ?_
    simp (disch := omega) only [garmentlaw44_BundleParts.l1, if_pos]
    exact parts_i a0 a1 a2 a3 sizes places plies hs hp out hl hg g p hgs (by omega) i0 hi0 hh out.length 0 (by omega) (ih (p + 1) (by omega) K) 0 (by rw [if_neg (by omega)])
theorem parts_g (hs : sizes.length ≤ 900) (hp : plies.length ≤ 900) (out : List S42) (hl : out.length ≤ 60) (hg : Goods sizes plies out) (hc : Cover sizes plies out) (d : Nat) : ∀ g : Nat, g + d = sizes.length →
    Ev (fun k => garmentlaw44_BundleParts.l0 k out g a0 a1 a2 a3 sizes places plies) true := by
  induction d with
  | zero =>
    intro g hd
    refine ev_succ ?_
    simp (disch := omega) only [garmentlaw44_BundleParts.l0, if_neg]
    exact Ev.bind alive_ok (Ev.now _)
  | succ d ih =>
    intro g hd
    refine ev_succ ?_
    simp (disch := omega) only [garmentlaw44_BundleParts.l0, if_pos]
    exact parts_p a0 a1 a2 a3 sizes places plies hs hp out hl hg hc g (by omega) plies.length 0 (by omega) (ih (g + 1) (by omega))
theorem parts_law : Ev (fun k => garmentlaw44_BundleParts.f k a0 a1 a2 a3 sizes places plies most) true := by
  simp only [garmentlaw44_BundleParts.f, light_ok, Option.bind_some]
  by_cases h : sizes.length ≤ 12 ∧ plies.length ≤ 80
  · rw [decide_eq_true h]
    simp only [if_true]
    by_cases hm : most < 1
    · refine Ev.bind (make_no a0 a1 a2 a3 sizes places plies most hm) ?_
      simp only [show ¬ ((3 : Int) = 0) by decide, if_false, List.length_nil, Int.natCast_zero, if_true]
      exact Ev.bind alive_ok (Ev.now _)
    · obtain ⟨r, ev, hr⟩ := make_ok a0 a1 a2 a3 sizes places plies most (by omega) (by omega) (by omega)
      refine Ev.bind ev ?_
      rcases hr with rfl | ⟨out, rfl, hmi⟩
      · simp only [show ¬ ((5 : Int) = 0) by decide, if_false, List.length_nil, Int.natCast_zero, if_true]
        exact Ev.bind alive_ok (Ev.now _)
      · have hlen := hmi.len
        obtain ⟨e, ev', he, _⟩ := check_ok a0 a1 a2 a3 sizes places plies out (by omega) (by omega) (by omega)
        have e0 := he.2 ⟨mi_goods hmi, mi_cover hmi⟩
        simp only [if_true]
        refine Ev.bind ev' ?_
        simp only [e0, if_true]
        exact parts_g a0 a1 a2 a3 sizes places plies (by omega) (by omega) out hlen (mi_goods hmi) (mi_cover hmi) sizes.length 0 (by omega)
  · rw [decide_eq_false h]
    simp only [Bool.false_eq_true, if_false]
    exact Ev.bind alive_ok (Ev.now _)
theorem parts_pure (hm : (Lit.int .i64 most).wf = true) : ∃ k, garmentlaw44_BundleParts.f k a0 a1 a2 a3 sizes places plies most = some true := Ev.rounds (parts_law a0 a1 a2 a3 sizes places plies most)
end
end Go.Proofs.Ytoekbmgcfinfmab.BuBase
