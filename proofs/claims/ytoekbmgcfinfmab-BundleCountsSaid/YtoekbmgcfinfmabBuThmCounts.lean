/- The bundles of a garment have as many plies together as the lay, and there are as many bundles for each garment. -/
import Derived.Test.YtoekbmgcfinfmabBuMake
import Derived.Test.YtoekbmgcfinfmabBu15
namespace Go.Proofs.Ytoekbmgcfinfmab.BuBase
open Go.RowKit Go.Proofs.YtoekbmgcfinfmabW.PrintWords Go.Proofs.YtoekbmgcfinfmabW.PrintLast Go.Proofs.YtoekbmgcfinfmabW.PrintMore Go.Proofs.Ytoekbmgcfinfmab.Bu
set_option linter.unusedVariables false
set_option linter.unusedSimpArgs false

theorem getD_set {α : Type} (xs : List α) (i j : Nat) (v d : α) : (xs.set i v).getD j d = if i = j ∧ i < xs.length then v else xs.getD j d := by
  rw [List.getD_eq_getElem?_getD, List.getD_eq_getElem?_getD, List.getElem?_set]
  by_cases h : i = j
  · subst h
    by_cases h2 : i < xs.length
    · simp [h2]
    · simp [h2]
  · simp [h]
section
variable (a0 a1 a2 a3 : Int) (sizes : List Int) (places : List S71) (plies : List S45) (most : Int)
theorem counts_end (hs : sizes.length ≤ 900) (hp : plies.length ≤ 900) (ps cs : List Int) (h1 : ps.length = sizes.length) (h2 : cs.length = sizes.length) (g1 : ∀ g, g < sizes.length → ps.getD g 0 = plies.length) (g2 : ∀ g, g < sizes.length → cs.getD g 0 = cs.getD 0 0) (d : Nat) : ∀ x : Nat, x + d = sizes.length →
    Ev (fun k => garmentlaw44_BundleCounts.l1 k ps cs x a0 a1 a2 a3 sizes places plies) true := by
  induction d with
  | zero =>
    intro x hd
    refine ev_succ ?_
    simp (disch := omega) only [garmentlaw44_BundleCounts.l1, if_neg]
    exact Ev.bind alive_ok (Ev.now _)
  | succ d ih =>
    intro x hd
    have e1 : ((x : Int) + 1) = ((x + 1 : Nat) : Int) := by omega
    have e2 : rd ps (x : Int) = plies.length := g1 x (by omega)
    have e3 : rd cs (x : Int) = rd cs 0 := g2 x (by omega)
    refine ev_succ ?_
    simp (disch := first | omega | assumption) only [garmentlaw44_BundleCounts.l1, if_pos, wrap64_of, e1]
    exact ih (x + 1) (by omega)
theorem sum_bound {out : List S42} (h : MI sizes plies most out sizes.length 0) (n : Nat) : n ≤ out.length → ∀ g : Int, 0 ≤ sumG (out.take n) g ∧ sumG (out.take n) g ≤ n * plies.length ∧ cntG (out.take n) g ≤ n := by
  induction n with
  | zero => intro _ g; simp [sumG, cntG]
  | succ n ih =>
    intro hn g
    obtain ⟨i1, i2, i3⟩ := ih (by omega) g
    rw [take_succ out z42 n (by omega), sumG_snoc, cntG_snoc]
    obtain ⟨_, _, _, _, f, t, e2, e3, hst, _⟩ := h.ok _ (getD_mem out z42 n (by omega))
    have s1 := hst.1
    have s2 := hst.2.1
    have : ((n + 1 : Nat) : Int) * plies.length = n * plies.length + plies.length := by rw [Int.natCast_add, Int.add_mul]; simp
    rw [e2, e3]
    repeat' split
    all_goals omega
theorem counts_loop (hs : sizes.length ≤ 900) (hp : plies.length ≤ 900) (out : List S42) (h : MI sizes plies most out sizes.length 0) (d : Nat) : ∀ (x : Nat) (ps cs : List Int), x + d = out.length → ps.length = sizes.length → cs.length = sizes.length →
    (∀ g : Nat, g < sizes.length → ps.getD g 0 = sumG (out.take x) g) → (∀ g : Nat, g < sizes.length → cs.getD g 0 = cntG (out.take x) g) →
    Ev (fun k => garmentlaw44_BundleCounts.l0 k out ps cs x a0 a1 a2 a3 sizes places plies) true := by
  have hlen := h.len
  induction d with
  | zero =>
    intro x ps cs hd h1 h2 g1 g2
    obtain rfl : x = out.length := by omega
    rw [List.take_length] at g1 g2
    refine ev_succ ?_
    simp (disch := omega) only [garmentlaw44_BundleCounts.l0, if_neg]
    refine counts_end a0 a1 a2 a3 sizes places plies hs hp ps cs h1 h2 (fun g hg => ?_) (fun g hg => ?_) sizes.length 0 (by omega)
    · rw [g1 g hg, h.sum g, if_pos hg]
    · rw [g2 g hg, g2 0 (by omega)]
      have := runs_unique (h.done g hg) _ (h.done 0 (by omega))
      omega
  | succ d ih =>
    intro x ps cs hd h1 h2 g1 g2
    have e1 : ((x : Int) + 1) = ((x + 1 : Nat) : Int) := by omega
    have hx : x < out.length := by omega
    obtain ⟨o1, _, o2, _, f, t, e2, e3, hst, _⟩ := h.ok _ (getD_mem out z42 x hx)
    have s1 := hst.1
    have s2 := hst.2.1
    obtain ⟨g, eg⟩ : ∃ g : Nat, (out.getD x z42).f1 = g := ⟨(out.getD x z42).f1.toNat, by omega⟩
    have eg' : (rd_T42 out (x : Int)).f1 = g := eg
    have e2' : (rd_T42 out (x : Int)).f4 = f := e2
    have e3' : (rd_T42 out (x : Int)).f5 = t := e3
    have hg : g < sizes.length := by omega
    obtain ⟨b1, b2, b3⟩ := sum_bound sizes plies most h x (by omega) g
    have b4 : (x : Int) * plies.length ≤ 60 * 900 := Int.mul_le_mul (by omega) (by omega) (by omega) (by omega)
    have p1 : rd ps (g : Int) = sumG (out.take x) g := g1 g hg
    have p2 : rd cs (g : Int) = cntG (out.take x) g := g2 g hg
    have p3 := take_succ out z42 x hx
    refine ev_succ ?_
    simp (disch := omega) only [garmentlaw44_BundleCounts.l0, if_pos, if_neg, eg', e2', e3', p1, p2, Int.toNat_natCast, wrap64_of, e1]
    refine ih (x + 1) _ _ (by omega) (by simpa using h1) (by simpa using h2) (fun g' hg' => ?_) (fun g' hg' => ?_)
    · rw [getD_set, p3, sumG_snoc, eg, e2, e3]
      by_cases e : g = g'
      · subst e; rw [if_pos ⟨rfl, by omega⟩, if_pos rfl]; omega
      · rw [if_neg (fun h => e h.1), if_neg (by omega), Int.add_zero]; exact g1 g' hg'
    · rw [getD_set, p3, cntG_snoc, eg]
      by_cases e : g = g'
      · subst e; rw [if_pos ⟨rfl, by omega⟩, if_pos rfl]; omega
      · rw [if_neg (fun h => e h.1), if_neg (by omega), Nat.add_zero]; exact g2 g' hg'
theorem counts_law : Ev (fun k => garmentlaw44_BundleCounts.f k a0 a1 a2 a3 sizes places plies most) true := by
  simp only [garmentlaw44_BundleCounts.f, light_ok, Option.bind_some]
  by_cases h : sizes.length ≤ 12 ∧ plies.length ≤ 80
  · rw [decide_eq_true h]
    simp only [if_true]
    by_cases hm : most < 1
    · refine Ev.bind (make_no a0 a1 a2 a3 sizes places plies most hm) ?_
      simp only [show ¬ ((3 : Int) = 0) by decide, if_false]
      exact Ev.bind alive_ok (Ev.now _)
    · obtain ⟨r, ev, hr⟩ := make_ok a0 a1 a2 a3 sizes places plies most (by omega) (by omega) (by omega)
      refine Ev.bind ev ?_
      rcases hr with rfl | ⟨out, rfl, hmi⟩
      · simp only [show ¬ ((5 : Int) = 0) by decide, if_false]
        exact Ev.bind alive_ok (Ev.now _)
      · simp (disch := omega) only [if_true, if_pos, Int.toNat_natCast]
        have zero : ∀ g : Nat, (List.replicate sizes.length (0 : Int)).getD g 0 = 0 := fun g => by
          rw [List.getD_eq_getElem?_getD, List.getElem?_replicate]; split <;> rfl
        exact counts_loop a0 a1 a2 a3 sizes places plies most (by omega) (by omega) out hmi out.length 0 _ _ (by omega) (by simp) (by simp) (fun g hg => by rw [zero]; simp [sumG]) (fun g hg => by rw [zero]; simp [cntG])
  · rw [decide_eq_false h]
    simp only [Bool.false_eq_true, if_false]
    exact Ev.bind alive_ok (Ev.now _)
theorem counts_pure (hm : (Lit.int .i64 most).wf = true) : ∃ k, garmentlaw44_BundleCounts.f k a0 a1 a2 a3 sizes places plies most = some true := Ev.rounds (counts_law a0 a1 a2 a3 sizes places plies most)
end
end Go.Proofs.Ytoekbmgcfinfmab.BuBase
