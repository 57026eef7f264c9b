/- The distance is a metric that does not change if both tones are moved alike. -/
import Derived.Test.YtoekbmgcfinfmaaShBase
import Derived.Test.YtoekbmgcfinfmaaSh20
namespace Go.Proofs.Ytoekbmgcfinfmaa.ShBase
open Go.RowKit Go.Proofs.YtoekbmgcfinfmaaW.PrintWords Go.Proofs.YtoekbmgcfinfmaaW.PrintLast Go.Proofs.YtoekbmgcfinfmaaW.PrintMore Go.Proofs.Ytoekbmgcfinfmaa.Sh Go.Proofs.Ytoekbmgcfinfmaa.Graph
set_option linter.unusedVariables false
set_option linter.unusedSimpArgs false

theorem wf64 {a : Int} (h : (Lit.int .i64 a).wf = true) : -9223372036854775808 ≤ a ∧ a ≤ 9223372036854775807 := by
  simpa [Lit.wf, IntKind.has, IntKind.min, IntKind.max, IntKind.signed, IntKind.bits] using h
theorem wf8 {a : Int} (h : (Lit.int .u8 a).wf = true) : 0 ≤ a ∧ a ≤ 255 := by
  simpa [Lit.wf, IntKind.has, IntKind.min, IntKind.max, IntKind.signed, IntKind.bits] using h
theorem inside_eq (a0 a1 a2 n : Int) (hn : 0 ≤ n ∧ n ≤ 255) : garmentlaw29_inside.f a0 a1 a2 n = some (decide ((-1000 ≤ a0 ∧ a0 ≤ 1000 - n) ∧ (-1000 ≤ a1 ∧ a1 ≤ 1000 - n) ∧ (-1000 ≤ a2 ∧ a2 ≤ 1000 - n))) := by
  unfold garmentlaw29_inside.f
  rw [wrap64_of (by omega)]
  repeat' split
  all_goals first | (rw [Option.some.injEq, eq_comm, decide_eq_false_iff_not]; omega) | (rw [Option.some.injEq, decide_eq_decide]; omega)
theorem ap_move {a b n : Int} (hn : 0 ≤ n ∧ n ≤ 255) (ha : -1000 ≤ a ∧ a ≤ 1000 - n) (hb : -1000 ≤ b ∧ b ≤ 1000 - n) : ap (a + n) (b + n) = ap a b := by
  unfold ap lim
  repeat' split
  all_goals omega
theorem ap_zero {a b n : Int} (hn : 0 ≤ n ∧ n ≤ 255) (ha : -1000 ≤ a ∧ a ≤ 1000 - n) (hb : -1000 ≤ b ∧ b ≤ 1000 - n) : (ap a b = 0) ↔ (a = b) := by
  unfold ap lim
  repeat' split
  all_goals omega
theorem metric_j1 (d : Int) (hd : 0 ≤ d ∧ d ≤ 255) (a b : S23) (ins : Bool)
    (h : ins = true → ((-1000 ≤ a.f0 ∧ a.f0 ≤ 1000 - d) ∧ (-1000 ≤ a.f1 ∧ a.f1 ≤ 1000 - d) ∧ (-1000 ≤ a.f2 ∧ a.f2 ≤ 1000 - d)) ∧ ((-1000 ≤ b.f0 ∧ b.f0 ≤ 1000 - d) ∧ (-1000 ≤ b.f1 ∧ b.f1 ≤ 1000 - d) ∧ (-1000 ≤ b.f2 ∧ b.f2 ≤ 1000 - d))) :
    Ev (fun k => garmentlaw29_ShadeMetric.j1 k d (D a b) ins a.f0 a.f1 a.f2 b.f0 b.f1 b.f2) true := by
  refine ev_succ ?_
  cases ins with
  | false =>
    simp only [garmentlaw29_ShadeMetric.j1, Bool.false_eq_true, if_false]
    exact Ev.bind awake_ok (Ev.now _)
  | true =>
    obtain ⟨⟨a0, a1, a2⟩, b0, b1, b2⟩ := h rfl
    have e := D_eq ⟨a.f0 + d, a.f1 + d, a.f2 + d⟩ ⟨b.f0 + d, b.f1 + d, b.f2 + d⟩
    simp only at e
    have e2 : D ⟨a.f0 + d, a.f1 + d, a.f2 + d⟩ ⟨b.f0 + d, b.f1 + d, b.f2 + d⟩ = D a b := by
      unfold D
      simp only
      rw [ap_move hd a0 b0, ap_move hd a1 b1, ap_move hd a2 b2]
    have r0 := ap_rng a.f0 b.f0
    have r1 := ap_rng a.f1 b.f1
    have r2 := ap_rng a.f2 b.f2
    have z0 := ap_zero hd a0 b0
    have z1 := ap_zero hd a1 b1
    have z2 := ap_zero hd a2 b2
    have e3 : ((D a b == 0) == (a.f0 == b.f0 && (a.f1 == b.f1 && (a.f2 == b.f2)))) = true := by
      have : D a b = 0 ↔ (ap a.f0 b.f0 = 0 ∧ ap a.f1 b.f1 = 0 ∧ ap a.f2 b.f2 = 0) := by
        unfold D mx; split <;> split <;> omega
      rw [z0, z1, z2] at this
      rw [beq_iff_eq, Bool.eq_iff_iff]
      simpa using this
    simp (disch := omega) only [garmentlaw29_ShadeMetric.j1, if_true, wrap64_of, e, e2, e3, Option.bind_some]
    exact Ev.bind awake_ok (Ev.now _)
theorem metric_pure (a : S23) (_ : (Lit.int .i64 a.f0).wf = true ∧ (Lit.int .i64 a.f1).wf = true ∧ (Lit.int .i64 a.f2).wf = true) (b : S23) (_ : (Lit.int .i64 b.f0).wf = true ∧ (Lit.int .i64 b.f1).wf = true ∧ (Lit.int .i64 b.f2).wf = true)
    (c : S23) (_ : (Lit.int .i64 c.f0).wf = true ∧ (Lit.int .i64 c.f1).wf = true ∧ (Lit.int .i64 c.f2).wf = true) (d : Int) (hd : (Lit.int .u8 d).wf = true) :
    ∃ k, garmentlaw29_ShadeMetric.f k a.f0 a.f1 a.f2 b.f0 b.f1 b.f2 c.f0 c.f1 c.f2 d = some true := by
  refine Ev.rounds (g := fun k => garmentlaw29_ShadeMetric.f k a.f0 a.f1 a.f2 b.f0 b.f1 b.f2 c.f0 c.f1 c.f2 d) ?_
  have hd' := wf8 hd
  have r1 := D_rng a b
  have r2 := D_rng b c
  have r3 := D_tri a b c
  have t : (decide (D a c > wrap64 (D a b + D b c))) = false := by rw [wrap64_of (by omega)]; simp; omega
  simp (disch := omega) only [garmentlaw29_ShadeMetric.f, D_eq, Option.bind_some, if_neg, D_comm b a, D_self, if_pos, t]
  refine ev_succ ?_
  simp (disch := omega) only [garmentlaw29_ShadeMetric.j0, Bool.false_eq_true, if_false, wrap64_of, inside_eq, Option.bind_some]
  by_cases h1 : (-1000 ≤ a.f0 ∧ a.f0 ≤ 1000 - d) ∧ (-1000 ≤ a.f1 ∧ a.f1 ≤ 1000 - d) ∧ (-1000 ≤ a.f2 ∧ a.f2 ≤ 1000 - d)
  · rw [decide_eq_true h1]
    simp only [if_true]
    exact metric_j1 d hd' a b _ (fun h => ⟨h1, of_decide_eq_true h⟩)
  · rw [decide_eq_false h1]
    simp only [Bool.false_eq_true, if_false]
    exact metric_j1 d hd' a b _ (fun h => by cases h)
end Go.Proofs.Ytoekbmgcfinfmaa.ShBase
