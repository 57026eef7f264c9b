/- No bundle has more plies than the limit, tickets count from 1 on, and a bundle that could have been continued has as many plies as the limit. -/
import Derived.Test.YtoekbmgcfinfmabBuMake
import Derived.Test.YtoekbmgcfinfmabBu13
namespace Go.Proofs.Ytoekbmgcfinfmab.BuBase
open Go.RowKit Go.Proofs.YtoekbmgcfinfmabW.PrintWords Go.Proofs.YtoekbmgcfinfmabW.PrintLast Go.Proofs.YtoekbmgcfinfmabW.PrintMore Go.Proofs.Ytoekbmgcfinfmab.Bu
set_option linter.unusedVariables false
set_option linter.unusedSimpArgs false

section
variable (a0 a1 a2 a3 : Int) (sizes : List Int) (places : List S71) (plies : List S45) (most : Int)
theorem limits_loop (hs : sizes.length ≤ 900) (hp : plies.length ≤ 900) (out : List S42) (h : MI sizes plies most out sizes.length 0) (d : Nat) : ∀ x : Nat, x + d = out.length →
    Ev (fun k => garmentlaw44_BundleLimits.l0 k most out x a0 a1 a2 a3 sizes places plies) true := by
  have hlen := h.len
  induction d with
  | zero =>
    intro x hd
    refine ev_succ ?_
    simp (disch := omega) only [garmentlaw44_BundleLimits.l0, if_neg]
    exact Ev.bind alive_ok (Ev.now _)
  | succ d ih =>
    intro x hd
    have e1 : ((x : Int) + 1) = ((x + 1 : Nat) : Int) := by omega
    obtain ⟨_, _, _, _, f, t, e2, e3, hst, e4⟩ := h.ok _ (getD_mem out z42 x (by omega))
    have e2' : (rd_T42 out (x : Int)).f4 = f := e2
    have e3' : (rd_T42 out (x : Int)).f5 = t := e3
    have e4' : (rd_T42 out (x : Int)).f3 = lot plies f := e4
    have tk : (rd_T42 out (x : Int)).f0 = (x : Int) + 1 := h.tick x (by omega)
    have s1 := hst.1
    have s2 := hst.2.1
    have s4 := hst.2.2.2.1
    have dec : decide ((t : Int) - f > most) = false := by simp only [decide_eq_false_iff_not]; omega
    have nx := ih (x + 1) (by omega)
    refine ev_succ ?_
    simp (disch := first | omega | assumption) only [garmentlaw44_BundleLimits.l0, if_pos, if_neg, wrap64_of, tk, e2', e3', e4', dec]
    refine ev_succ ?_
    by_cases c : t < plies.length
    · by_cases c2 : (rd_T45 plies (t : Int)).f0 = lot plies f
      · have c3 : ¬ (t : Int) - f < most := by
          rcases hst.2.2.2.2 with h5 | h5 | h5
          · omega
          · omega
          · exact absurd c2 h5
        simp (disch := first | omega | assumption) only [garmentlaw44_BundleLimits.j1, Bool.false_eq_true, if_false, if_true, if_pos, if_neg, ite_self, wrap64_of, e1]
        exact nx
      · simp (disch := first | omega | assumption) only [garmentlaw44_BundleLimits.j1, Bool.false_eq_true, if_false, if_true, if_pos, if_neg, ite_self, wrap64_of, e1]
        exact nx
    · simp (disch := first | omega | assumption) only [garmentlaw44_BundleLimits.j1, Bool.false_eq_true, if_false, if_true, if_pos, if_neg, ite_self, wrap64_of, e1]
      exact nx
theorem limits_law : Ev (fun k => garmentlaw44_BundleLimits.f k a0 a1 a2 a3 sizes places plies most) true := by
  simp only [garmentlaw44_BundleLimits.f, light_ok, Option.bind_some]
  by_cases h : sizes.length ≤ 12 ∧ plies.length ≤ 80
  · rw [decide_eq_true h]
    simp only [if_true]
    by_cases hm : most < 1
    · refine Ev.bind (make_no a0 a1 a2 a3 sizes places plies most hm) ?_
      simp only [show ¬ ((3 : Int) = 0) by decide, if_false, decide_eq_true hm, beq_self_eq_true, if_true]
      exact Ev.bind alive_ok (Ev.now _)
    · obtain ⟨r, ev, hr⟩ := make_ok a0 a1 a2 a3 sizes places plies most (by omega) (by omega) (by omega)
      refine Ev.bind ev ?_
      rcases hr with rfl | ⟨out, rfl, hmi⟩
      · simp only [show ¬ ((5 : Int) = 0) by decide, if_false, decide_eq_false hm, show ((5 : Int) == 3) = false from rfl, beq_self_eq_true, if_true]
        exact Ev.bind alive_ok (Ev.now _)
      · simp only [if_true]
        exact limits_loop a0 a1 a2 a3 sizes places plies most (by omega) (by omega) out hmi out.length 0 (by omega)
  · rw [decide_eq_false h]
    simp only [Bool.false_eq_true, if_false]
    exact Ev.bind alive_ok (Ev.now _)
theorem limits_pure (hm : (Lit.int .i64 most).wf = true) : ∃ k, garmentlaw44_BundleLimits.f k a0 a1 a2 a3 sizes places plies most = some true := Ev.rounds (limits_law a0 a1 a2 a3 sizes places plies most)
end
end Go.Proofs.Ytoekbmgcfinfmab.BuBase
