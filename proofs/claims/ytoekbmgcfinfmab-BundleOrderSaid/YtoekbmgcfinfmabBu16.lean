-- Printed by print.py out of the translation; a bound name was changed by hand at 2 places (A1_). Lean checks it.
import Derived.Test.YtoekbmgcfinfmabBu0
import Derived.Test.YtoekbmgcfinfmabBu5
import Derived.Test.YtoekbmgcfinfmabBu8
import Derived.Test.YtoekbmgcfinfmabBu11
namespace Go.Proofs.Ytoekbmgcfinfmab.Bu
open Go.RowKit Go.Proofs.YtoekbmgcfinfmabW.PrintWords Go.Proofs.YtoekbmgcfinfmabW.PrintLast Go.Proofs.YtoekbmgcfinfmabW.PrintMore
attribute [local go_sem] max2_int min2_int max_two min_two max_three min_three max_four min_four   -- for this text's walks alone
set_option linter.unusedVariables false
set_option linter.unusedSimpArgs false

/-! ### garmentlaw44_BundleOrder: function 8 -/
def garmentlaw44_BundleOrder.j0 : Nat → List (S42) → Int → Bool → Int → Int → Int → Int → List Int → List (S71) → List (S45) → Option (Bool)
  | 0, _, _, _, _, _, _, _, _, _, _ => none
  | k + 1, x1, x2, x27, x330000, x330001, x330002, x330003, x330004, x330005, x330006 => if x27 = true then ((garmentlaw44_alive.f k).bind fun t332 => (some t332)) else (if (x1.length : Int) = 0 then (none) else ((some (([] : List (S42)) : List (S42))).bind fun y333 => (if 0 ≤ (Int.tmod (wrap64 (x2)) (x1.length : Int)) then (if (Int.tmod (wrap64 (x2)) (x1.length : Int)) ≤ (x1.length : Int) then ((some (x1.drop ((Int.tmod (wrap64 (x2)) (x1.length : Int)) : Int).toNat : List (S42))).bind fun y336 => (if y333.length + y336.length < 2932031007402 then ((some (y333 ++ y336 : List (S42))).bind fun y340 => ((some (x1.take ((Int.tmod (wrap64 (x2)) (x1.length : Int)) : Int).toNat : List (S42))).bind fun y343 => (if y340.length + y343.length < 2932031007402 then ((bundle_Check.f k x330000 x330001 x330002 x330003 x330004 x330005 x330006 (y340 ++ y343)).bind fun t350 => (if t350 = 0 then ((garmentlaw44_alive.f k).bind fun t351 => (some t351)) else (some false))) else (none)))) else (none))) else (none)) else (none))))
def garmentlaw44_BundleOrder.f (k : Nat) (a0_0 : Int) (a0_1 : Int) (a0_2 : Int) (a0_3 : Int) (l0_4 : List Int) (l0_5 : List (S71)) (l0_6 : List (S45)) (l1 : List (S42)) (a2 : Int) : Option (Bool) := (garmentref44_Light.f a0_0 a0_1 a0_2 a0_3 l0_4 l0_5 l0_6).bind fun t330 => (if t330 = true then (if (l1.length : Int) > 100 then (garmentlaw44_BundleOrder.j0 k l1 a2 true a0_0 a0_1 a0_2 a0_3 l0_4 l0_5 l0_6) else (if (l1.length : Int) = 0 then (garmentlaw44_BundleOrder.j0 k l1 a2 true a0_0 a0_1 a0_2 a0_3 l0_4 l0_5 l0_6) else ((bundle_Check.f k a0_0 a0_1 a0_2 a0_3 l0_4 l0_5 l0_6 l1).bind fun t331 => (garmentlaw44_BundleOrder.j0 k l1 a2 (t331 != 0) a0_0 a0_1 a0_2 a0_3 l0_4 l0_5 l0_6)))) else (garmentlaw44_BundleOrder.j0 k l1 a2 true a0_0 a0_1 a0_2 a0_3 l0_4 l0_5 l0_6))
theorem garmentlaw44_BundleOrder.mono_l : ∀ k, (∀ y0 y1 y2 y3 y4 y5 y6 y7 y8 y9, LeO (garmentlaw44_BundleOrder.j0 k y0 y1 y2 y3 y4 y5 y6 y7 y8 y9) (garmentlaw44_BundleOrder.j0 (k + 1) y0 y1 y2 y3 y4 y5 y6 y7 y8 y9))
  | 0 => fun _ _ _ _ _ _ _ _ _ _ r h => by simp [garmentlaw44_BundleOrder.j0] at h
  | k + 1 => by
    have ih0 := garmentlaw44_BundleOrder.mono_l k
    · intro y0 y1 y2 y3 y4 y5 y6 y7 y8 y9
      unfold garmentlaw44_BundleOrder.j0
      repeat' first
      | (with_reducible exact ih0 _ _ _ _ _ _ _ _ _ _)
      | (with_reducible exact bundle_Check.mono _ _ _ _ _ _ _ _ _)
      | (with_reducible exact garmentlaw44_alive.mono _)
      | (with_reducible exact LeO.refl _)
      | (with_reducible exact LeO.none _)
      | (with_reducible refine LeO.ite ?_ ?_)
      | (with_reducible refine LeO.bind ?_ (fun _ => ?_))
      | exact ih0 _ _ _ _ _ _ _ _ _ _
      | exact bundle_Check.mono _ _ _ _ _ _ _ _ _
      | exact garmentlaw44_alive.mono _
      | exact LeO.none _
      | refine LeO.ite ?_ ?_
      | refine LeO.bind ?_ (fun _ => ?_)
theorem garmentlaw44_BundleOrder.mono : ∀ a0 a1 a2 a3 a4 a5 a6 a7 a8 k, LeO (garmentlaw44_BundleOrder.f k a0 a1 a2 a3 a4 a5 a6 a7 a8) (garmentlaw44_BundleOrder.f (k + 1) a0 a1 a2 a3 a4 a5 a6 a7 a8) := by
  intro a0 a1 a2 a3 a4 a5 a6 a7 a8 k
  have ih0 := garmentlaw44_BundleOrder.mono_l k
  unfold garmentlaw44_BundleOrder.f
  repeat' first
      | (with_reducible exact ih0 _ _ _ _ _ _ _ _ _ _)
      | (with_reducible exact bundle_Check.mono _ _ _ _ _ _ _ _ _)
      | (with_reducible exact garmentlaw44_alive.mono _)
      | (with_reducible exact LeO.refl _)
      | (with_reducible exact LeO.none _)
      | (with_reducible refine LeO.ite ?_ ?_)
      | (with_reducible refine LeO.bind ?_ (fun _ => ?_))
      | exact ih0 _ _ _ _ _ _ _ _ _ _
      | exact bundle_Check.mono _ _ _ _ _ _ _ _ _
      | exact garmentlaw44_alive.mono _
      | exact LeO.none _
      | refine LeO.ite ?_ ?_
      | refine LeO.bind ?_ (fun _ => ?_)
def garmentlaw44_BundleOrder.T4 : Bool × List (List Nat × List Nat) := (true, [([], []), ([], []), ([], []), ([1, 2], [1, 2]), ([0, 3], [0, 3]), ([], []), ([], []), ([5, 6], [5, 6]), ([4, 7, 4], [4, 7]), ([8, 8, 0, 1, 2, 3, 4, 5, 6, 7, 8], [8])])
def garmentlaw44_BundleOrder.B4 : List Nat := [0, 0, 0, 6, 15, 0, 0, 96, 255, 511]
theorem garmentlaw44_BundleOrder.tab4 : rtab .any (opsOf Try.f8 4) = garmentlaw44_BundleOrder.T4 := by kernel_rfl
theorem garmentlaw44_BundleOrder.bits4 : waitsOk garmentlaw44_BundleOrder.T4.2 garmentlaw44_BundleOrder.B4 = true := by kernel_rfl
set_option maxHeartbeats 8000000 in
set_option maxRecDepth 100000 in
theorem garmentlaw44_BundleOrder.calls (k : Nat) (a0_0 : Int) (a0_1 : Int) (a0_2 : Int) (a0_3 : Int) (A0_4 : Option Addr) (c0_4 : Nat) (l0_4 : List Int) (A0_5 : Option Addr) (c0_5 : Nat) (l0_5 : List (S71)) (A0_6 : Option Addr) (c0_6 : Nat) (l0_6 : List (S45)) (A1 : Option Addr) (c1 : Nat) (l1 : List (S42)) (a2 : Int) (r : Bool) (w : World) (hr0_4 : Kd.C (Kd.int .i64) w A0_4 l0_4.length l0_4) (hc0_4 : l0_4.length ≤ c0_4) (hr0_5 : Kd.C k71 w A0_5 l0_5.length l0_5) (hc0_5 : l0_5.length ≤ c0_5) (hr0_6 : Kd.C k45 w A0_6 l0_6.length l0_6) (hc0_6 : l0_6.length ≤ c0_6) (hr1 : Kd.C k42 w A1 l1.length l1) (hc1 : l1.length ≤ c1) (h : garmentlaw44_BundleOrder.f k a0_0 a0_1 a0_2 a0_3 l0_4 l0_5 l0_6 l1 a2 = some r) :
    Calls Try.prog 8 #[.agg #[.int .i64 a0_0, .int .i64 a0_1, .int .i64 a0_2, .int .i64 a0_3, .slice A0_4 l0_4.length c0_4, .slice A0_5 l0_5.length c0_5, .slice A0_6 l0_6.length c0_6], .slice A1 l1.length c1, .int .u8 a2] w fun e w' => e = .returned (.bool r) ∧ Below w.heap.size w w' := by
  have hu35 := Try.underlying35
  have HR0_4 := Aside0.mk hr0_4
  have HC0_4 := Aside0.mk hc0_4
  clear hr0_4 hc0_4
  have HR0_5 := Aside0.mk hr0_5
  have HC0_5 := Aside0.mk hc0_5
  clear hr0_5 hc0_5
  have HR0_6 := Aside0.mk hr0_6
  have HC0_6 := Aside0.mk hc0_6
  clear hr0_6 hc0_6
  have HR1 := Aside0.mk hr1
  have HC1 := Aside0.mk hc1
  clear hr1 hc1
  have HB := Aside0.mk (Below.refl w.heap.size w)
  have H : ((garmentref44_Light.f a0_0 a0_1 a0_2 a0_3 l0_4 l0_5 l0_6).bind fun t330 => (if t330 = true then (if (l1.length : Int) > 100 then (garmentlaw44_BundleOrder.j0 k l1 a2 true a0_0 a0_1 a0_2 a0_3 l0_4 l0_5 l0_6) else (if (l1.length : Int) = 0 then (garmentlaw44_BundleOrder.j0 k l1 a2 true a0_0 a0_1 a0_2 a0_3 l0_4 l0_5 l0_6) else ((bundle_Check.f k a0_0 a0_1 a0_2 a0_3 l0_4 l0_5 l0_6 l1).bind fun t331 => (garmentlaw44_BundleOrder.j0 k l1 a2 (t331 != 0) a0_0 a0_1 a0_2 a0_3 l0_4 l0_5 l0_6)))) else (garmentlaw44_BundleOrder.j0 k l1 a2 true a0_0 a0_1 a0_2 a0_3 l0_4 l0_5 l0_6))) = some r := h
  clear h
  have HC4 := Aside0.mk H
  clear H
  go_enter Try.func8, Try.ntmps8
  go_upto_region 1 with (first | ((with_reducible refine gate_dst (N := 3) rfl ?_); (try (refine gate_guard (by rfl) ?_; dsimp only)); refine box_event ?hg (N := 3) ?hd (cs := #[.int .i64 a0_0, .int .i64 a0_1, .int .i64 a0_2, .int .i64 a0_3, .slice A0_4 l0_4.length c0_4, .slice A0_5 l0_5.length c0_5, .slice A0_6 l0_6.length c0_6]) (t := 35) ?hr ?_; (case hd => rfl); (case hg => rfl); (case hr => first | (go_simp; done) | (go_simp; rfl)); intro gb329 hg w5 hbox hb; have n0_ := Aside0.mk (below_step (by repeat (first | (with_reducible first | exact HB.out | apply below_alloc | apply pw_below_drewN | apply below_drew1) | exact HB.out)) hb); have n1_ := Aside0.mk (hbox); have n2_ := Aside0.mk ((by rw [hg]; exact (below_size (by repeat (first | (with_reducible first | exact HB.out | apply below_alloc | apply pw_below_drewN | apply below_drew1) | exact HB.out))) : w.heap.size ≤ gb329)); have n3_ := Aside0.mk ((by rw [hg]; exact (below_size (by repeat (first | (with_reducible first | exact HB.out | apply below_alloc | apply pw_below_drewN | apply below_drew1) | exact HB.out))) : w.heap.size ≤ gb329)); clear HB; have HB := n0_; have BK329 := n1_; have GW329 := n2_; have GE329 := n3_; clear n0_ n1_ n2_ n3_; clear hb hbox hg))
  (try simp only [Act.put, List.setIfInBounds_toArray, List.set_cons_zero, List.set_cons_succ])
  go_cut [27] (fun v27 wc => ∃ (kq : Nat) (x27_3 : Bool), v27 = .bool x27_3 ∧ Aside0 (garmentlaw44_BundleOrder.j0 kq l1 a2 x27_3 a0_0 a0_1 a0_2 a0_3 l0_4 l0_5 l0_6 = some r) ∧ Aside0 (kq ≤ k) ∧ Aside0 (wc.heap[gb329]? = some (.cells #[.int .i64 a0_0, .int .i64 a0_1, .int .i64 a0_2, .int .i64 a0_3, (.slice A0_4 l0_4.length c0_4), (.slice A0_5 l0_5.length c0_5), (.slice A0_6 l0_6.length c0_6)] 35 (0, 0))) ∧ Aside0 (Below w.heap.size w wc))
  case first =>
    have H := HC4.out
    clear HC4
    replace H := Option.bind_eq_some_iff.mp H
    obtain ⟨t330, A60, H⟩ := H
    replace H : (if t330 = true then (if (l1.length : Int) > 100 then (garmentlaw44_BundleOrder.j0 k l1 a2 true a0_0 a0_1 a0_2 a0_3 l0_4 l0_5 l0_6) else (if (l1.length : Int) = 0 then (garmentlaw44_BundleOrder.j0 k l1 a2 true a0_0 a0_1 a0_2 a0_3 l0_4 l0_5 l0_6) else ((bundle_Check.f k a0_0 a0_1 a0_2 a0_3 l0_4 l0_5 l0_6 l1).bind fun t331 => (garmentlaw44_BundleOrder.j0 k l1 a2 (t331 != 0) a0_0 a0_1 a0_2 a0_3 l0_4 l0_5 l0_6)))) else (garmentlaw44_BundleOrder.j0 k l1 a2 true a0_0 a0_1 a0_2 a0_3 l0_4 l0_5 l0_6)) = some r := H
    have A6 := Aside0.mk A60
    clear A60
    by_cases c7 : t330 = true
    · subst c7
      have H1 : (if (l1.length : Int) > 100 then (garmentlaw44_BundleOrder.j0 k l1 a2 true a0_0 a0_1 a0_2 a0_3 l0_4 l0_5 l0_6) else (if (l1.length : Int) = 0 then (garmentlaw44_BundleOrder.j0 k l1 a2 true a0_0 a0_1 a0_2 a0_3 l0_4 l0_5 l0_6) else ((bundle_Check.f k a0_0 a0_1 a0_2 a0_3 l0_4 l0_5 l0_6 l1).bind fun t331 => (garmentlaw44_BundleOrder.j0 k l1 a2 (t331 != 0) a0_0 a0_1 a0_2 a0_3 l0_4 l0_5 l0_6)))) = some r := by rw [if_pos rfl] at H; exact H
      clear H
      have H := H1
      clear H1
      by_cases c8 : (l1.length : Int) > 100
      · rw [if_pos c8] at H
        have c8b0 : decide (100 < (l1.length : Int)) = true := decide_eq_true c8
        have c8b1 : decide (100 < l1.length) = true := decide_eq_true (by omega)
        clear c8
        (first | rw [c8b0] | (simp only [i64_w, i32_w]; rw [c8b0]) | skip)
        have H' := Aside0.mk H
        clear H
        have hcz9_0 : w5.cell? ⟨gb329, 0, none⟩ = some (.int .i64 a0_0) := (blk_cell BK329.out 0).trans rfl
        have hcz9_1 : w5.cell? ⟨gb329, 1, none⟩ = some (.int .i64 a0_1) := (blk_cell BK329.out 1).trans rfl
        have hcz9_2 : w5.cell? ⟨gb329, 2, none⟩ = some (.int .i64 a0_2) := (blk_cell BK329.out 2).trans rfl
        have hcz9_3 : w5.cell? ⟨gb329, 3, none⟩ = some (.int .i64 a0_3) := (blk_cell BK329.out 3).trans rfl
        have hcz9_4 : w5.cell? ⟨gb329, 4, none⟩ = some (.slice A0_4 l0_4.length c0_4) := (blk_cell BK329.out 4).trans rfl
        have hcz9_5 : w5.cell? ⟨gb329, 5, none⟩ = some (.slice A0_5 l0_5.length c0_5) := (blk_cell BK329.out 5).trans rfl
        have hcz9_6 : w5.cell? ⟨gb329, 6, none⟩ = some (.slice A0_6 l0_6.length c0_6) := (blk_cell BK329.out 6).trans rfl
        have hfz9_0 := blk_frozen BK329.out 0
        have hfz9_1 := blk_frozen BK329.out 1
        have hfz9_2 := blk_frozen BK329.out 2
        have hfz9_3 := blk_frozen BK329.out 3
        have hfz9_4 := blk_frozen BK329.out 4
        have hfz9_5 := blk_frozen BK329.out 5
        have hfz9_6 := blk_frozen BK329.out 6
        go_wp2_with (first | ((with_reducible refine gate_callee (f := 12) rfl ?_); refine goesL_ (some 10) rfl rfl Try.func12 (by kernel_rfl) rfl #[.agg #[.int .i64 a0_0, .int .i64 a0_1, .int .i64 a0_2, .int .i64 a0_3, .slice A0_4 l0_4.length c0_4, .slice A0_5 l0_5.length c0_5, .slice A0_6 l0_6.length c0_6]] rfl (by (try simp only [List.map_toArray, List.map_cons, List.map_nil]); first | done | rfl | (simp only [List.length_drop, List.length_take]; rfl)) ?_; (with_reducible refine (garmentref44_Light.calls a0_0 a0_1 a0_2 a0_3 _ _ l0_4 _ _ l0_5 _ _ l0_6 true _ ?side1 ?side2 ?side3 ?side4 ?side5 ?side6 A6.out).mono ?_); (case side1 => repeat (first | exact (Kd.C_below HR0_4.out HB.out) | (with_reducible refine Kd.C_alloc ?_ _) | (with_reducible refine Kd.C_drewN ?_ _) | (with_reducible refine Kd.C_drew ?_))); (case side2 => exact HC0_4.out); (case side3 => repeat (first | exact (Kd.C_below HR0_5.out HB.out) | (with_reducible refine Kd.C_alloc ?_ _) | (with_reducible refine Kd.C_drewN ?_ _) | (with_reducible refine Kd.C_drew ?_))); (case side4 => exact HC0_5.out); (case side5 => repeat (first | exact (Kd.C_below HR0_6.out HB.out) | (with_reducible refine Kd.C_alloc ?_ _) | (with_reducible refine Kd.C_drewN ?_ _) | (with_reducible refine Kd.C_drew ?_))); (case side6 => exact HC0_6.out); rintro e w10 ⟨rfl, hb⟩; refine ⟨_, rfl, ?_⟩; have n0_ := Aside0.mk (blk_below (g := gb329) (o := .cells #[.int .i64 a0_0, .int .i64 a0_1, .int .i64 a0_2, .int .i64 a0_3, .slice A0_4 l0_4.length c0_4, .slice A0_5 l0_5.length c0_5, .slice A0_6 l0_6.length c0_6] 35 (0, 0)) (by (with_reducible repeat (first | refine blk_drewN ?_ _ | refine blk_drew ?_ | refine blk_alloc ?_ _)); exact BK329.out) hb); have n1_ := Aside0.mk (below_step (by repeat (first | (with_reducible first | exact HB.out | apply below_alloc | apply pw_below_drewN | apply below_drew1 | refine below_set ?_ GE329.out) | exact HB.out)) hb); clear BK329; clear HB; have BK329 := n0_; have HB := n1_; clear n0_ n1_; (try clear hb); (try clear hb2); (try clear hk); (try clear hi)))
        go_meet
        case rel => exact ⟨_, (true), (by first | rfl | (simp; done) | (simp [*]; done)), H', ⟨by first | omega | exact Nat.le_refl _⟩, ⟨by (with_reducible repeat (first | refine blk_drewN ?_ _ | refine blk_drew ?_ | refine blk_alloc ?_ _)); exact BK329.out⟩, ⟨by repeat (first | (with_reducible first | exact HB.out | apply below_alloc | apply pw_below_drewN | apply below_drew1 | refine below_set ?_ GE329.out) | exact HB.out)⟩⟩
      · rw [if_neg c8] at H
        have c8b0 : decide (100 < (l1.length : Int)) = false := decide_eq_false c8
        have c8b1 : decide (100 < l1.length) = false := decide_eq_false (by omega)
        clear c8
        (first | rw [c8b0] | (simp only [i64_w, i32_w]; rw [c8b0]) | skip)
        by_cases c11 : (l1.length : Int) = 0
        · rw [if_pos c11] at H
          have c11b0 : ((l1.length : Int) == 0) = true := beq_iff_eq.mpr c11
          have c11b1 : ((l1.length : Int) != 0) = false := bne_eq_false_iff_eq.mpr c11
          clear c11
          have H' := Aside0.mk H
          clear H
          have hcz12_0 : w5.cell? ⟨gb329, 0, none⟩ = some (.int .i64 a0_0) := (blk_cell BK329.out 0).trans rfl
          have hcz12_1 : w5.cell? ⟨gb329, 1, none⟩ = some (.int .i64 a0_1) := (blk_cell BK329.out 1).trans rfl
          have hcz12_2 : w5.cell? ⟨gb329, 2, none⟩ = some (.int .i64 a0_2) := (blk_cell BK329.out 2).trans rfl
          have hcz12_3 : w5.cell? ⟨gb329, 3, none⟩ = some (.int .i64 a0_3) := (blk_cell BK329.out 3).trans rfl
          have hcz12_4 : w5.cell? ⟨gb329, 4, none⟩ = some (.slice A0_4 l0_4.length c0_4) := (blk_cell BK329.out 4).trans rfl
          have hcz12_5 : w5.cell? ⟨gb329, 5, none⟩ = some (.slice A0_5 l0_5.length c0_5) := (blk_cell BK329.out 5).trans rfl
          have hcz12_6 : w5.cell? ⟨gb329, 6, none⟩ = some (.slice A0_6 l0_6.length c0_6) := (blk_cell BK329.out 6).trans rfl
          have hfz12_0 := blk_frozen BK329.out 0
          have hfz12_1 := blk_frozen BK329.out 1
          have hfz12_2 := blk_frozen BK329.out 2
          have hfz12_3 := blk_frozen BK329.out 3
          have hfz12_4 := blk_frozen BK329.out 4
          have hfz12_5 := blk_frozen BK329.out 5
          have hfz12_6 := blk_frozen BK329.out 6
          go_wp2_with (first | ((with_reducible refine gate_callee (f := 12) rfl ?_); refine goesL_ (some 10) rfl rfl Try.func12 (by kernel_rfl) rfl #[.agg #[.int .i64 a0_0, .int .i64 a0_1, .int .i64 a0_2, .int .i64 a0_3, .slice A0_4 l0_4.length c0_4, .slice A0_5 l0_5.length c0_5, .slice A0_6 l0_6.length c0_6]] rfl (by (try simp only [List.map_toArray, List.map_cons, List.map_nil]); first | done | rfl | (simp only [List.length_drop, List.length_take]; rfl)) ?_; (with_reducible refine (garmentref44_Light.calls a0_0 a0_1 a0_2 a0_3 _ _ l0_4 _ _ l0_5 _ _ l0_6 true _ ?side1 ?side2 ?side3 ?side4 ?side5 ?side6 A6.out).mono ?_); (case side1 => repeat (first | exact (Kd.C_below HR0_4.out HB.out) | (with_reducible refine Kd.C_alloc ?_ _) | (with_reducible refine Kd.C_drewN ?_ _) | (with_reducible refine Kd.C_drew ?_))); (case side2 => exact HC0_4.out); (case side3 => repeat (first | exact (Kd.C_below HR0_5.out HB.out) | (with_reducible refine Kd.C_alloc ?_ _) | (with_reducible refine Kd.C_drewN ?_ _) | (with_reducible refine Kd.C_drew ?_))); (case side4 => exact HC0_5.out); (case side5 => repeat (first | exact (Kd.C_below HR0_6.out HB.out) | (with_reducible refine Kd.C_alloc ?_ _) | (with_reducible refine Kd.C_drewN ?_ _) | (with_reducible refine Kd.C_drew ?_))); (case side6 => exact HC0_6.out); rintro e w13 ⟨rfl, hb⟩; refine ⟨_, rfl, ?_⟩; have n0_ := Aside0.mk (blk_below (g := gb329) (o := .cells #[.int .i64 a0_0, .int .i64 a0_1, .int .i64 a0_2, .int .i64 a0_3, .slice A0_4 l0_4.length c0_4, .slice A0_5 l0_5.length c0_5, .slice A0_6 l0_6.length c0_6] 35 (0, 0)) (by (with_reducible repeat (first | refine blk_drewN ?_ _ | refine blk_drew ?_ | refine blk_alloc ?_ _)); exact BK329.out) hb); have n1_ := Aside0.mk (below_step (by repeat (first | (with_reducible first | exact HB.out | apply below_alloc | apply pw_below_drewN | apply below_drew1 | refine below_set ?_ GE329.out) | exact HB.out)) hb); clear BK329; clear HB; have BK329 := n0_; have HB := n1_; clear n0_ n1_; (try clear hb); (try clear hb2); (try clear hk); (try clear hi)))
          go_meet
          case rel => exact ⟨_, (true), (by first | rfl | (simp; done) | (simp [*]; done)), H', ⟨by first | omega | exact Nat.le_refl _⟩, ⟨by (with_reducible repeat (first | refine blk_drewN ?_ _ | refine blk_drew ?_ | refine blk_alloc ?_ _)); exact BK329.out⟩, ⟨by repeat (first | (with_reducible first | exact HB.out | apply below_alloc | apply pw_below_drewN | apply below_drew1 | refine below_set ?_ GE329.out) | exact HB.out)⟩⟩
        · rw [if_neg c11] at H
          have c11b0 : ((l1.length : Int) == 0) = false := beq_eq_false_iff_ne.mpr c11
          have c11b1 : ((l1.length : Int) != 0) = true := bne_iff_ne.mpr c11
          have c11b2 : ¬ (l1 = []) := fun h_ => c11 (by rw [h_]; rfl)
          replace H := Option.bind_eq_some_iff.mp H
          obtain ⟨t331, A140, H⟩ := H
          replace H : (garmentlaw44_BundleOrder.j0 k l1 a2 (t331 != 0) a0_0 a0_1 a0_2 a0_3 l0_4 l0_5 l0_6) = some r := H
          have A14 := Aside0.mk A140
          clear A140
          have H' := Aside0.mk H
          clear H
          have hcz15_0 : w5.cell? ⟨gb329, 0, none⟩ = some (.int .i64 a0_0) := (blk_cell BK329.out 0).trans rfl
          have hcz15_1 : w5.cell? ⟨gb329, 1, none⟩ = some (.int .i64 a0_1) := (blk_cell BK329.out 1).trans rfl
          have hcz15_2 : w5.cell? ⟨gb329, 2, none⟩ = some (.int .i64 a0_2) := (blk_cell BK329.out 2).trans rfl
          have hcz15_3 : w5.cell? ⟨gb329, 3, none⟩ = some (.int .i64 a0_3) := (blk_cell BK329.out 3).trans rfl
          have hcz15_4 : w5.cell? ⟨gb329, 4, none⟩ = some (.slice A0_4 l0_4.length c0_4) := (blk_cell BK329.out 4).trans rfl
          have hcz15_5 : w5.cell? ⟨gb329, 5, none⟩ = some (.slice A0_5 l0_5.length c0_5) := (blk_cell BK329.out 5).trans rfl
          have hcz15_6 : w5.cell? ⟨gb329, 6, none⟩ = some (.slice A0_6 l0_6.length c0_6) := (blk_cell BK329.out 6).trans rfl
          have hfz15_0 := blk_frozen BK329.out 0
          have hfz15_1 := blk_frozen BK329.out 1
          have hfz15_2 := blk_frozen BK329.out 2
          have hfz15_3 := blk_frozen BK329.out 3
          have hfz15_4 := blk_frozen BK329.out 4
          have hfz15_5 := blk_frozen BK329.out 5
          have hfz15_6 := blk_frozen BK329.out 6
          go_wp2_with (first | ((with_reducible refine gate_callee (f := 12) rfl ?_); refine goesL_ (some 10) rfl rfl Try.func12 (by kernel_rfl) rfl #[.agg #[.int .i64 a0_0, .int .i64 a0_1, .int .i64 a0_2, .int .i64 a0_3, .slice A0_4 l0_4.length c0_4, .slice A0_5 l0_5.length c0_5, .slice A0_6 l0_6.length c0_6]] rfl (by (try simp only [List.map_toArray, List.map_cons, List.map_nil]); first | done | rfl | (simp only [List.length_drop, List.length_take]; rfl)) ?_; (with_reducible refine (garmentref44_Light.calls a0_0 a0_1 a0_2 a0_3 _ _ l0_4 _ _ l0_5 _ _ l0_6 true _ ?side1 ?side2 ?side3 ?side4 ?side5 ?side6 A6.out).mono ?_); (case side1 => repeat (first | exact (Kd.C_below HR0_4.out HB.out) | (with_reducible refine Kd.C_alloc ?_ _) | (with_reducible refine Kd.C_drewN ?_ _) | (with_reducible refine Kd.C_drew ?_))); (case side2 => exact HC0_4.out); (case side3 => repeat (first | exact (Kd.C_below HR0_5.out HB.out) | (with_reducible refine Kd.C_alloc ?_ _) | (with_reducible refine Kd.C_drewN ?_ _) | (with_reducible refine Kd.C_drew ?_))); (case side4 => exact HC0_5.out); (case side5 => repeat (first | exact (Kd.C_below HR0_6.out HB.out) | (with_reducible refine Kd.C_alloc ?_ _) | (with_reducible refine Kd.C_drewN ?_ _) | (with_reducible refine Kd.C_drew ?_))); (case side6 => exact HC0_6.out); rintro e w16 ⟨rfl, hb⟩; refine ⟨_, rfl, ?_⟩; have n0_ := Aside0.mk (blk_below (g := gb329) (o := .cells #[.int .i64 a0_0, .int .i64 a0_1, .int .i64 a0_2, .int .i64 a0_3, .slice A0_4 l0_4.length c0_4, .slice A0_5 l0_5.length c0_5, .slice A0_6 l0_6.length c0_6] 35 (0, 0)) (by (with_reducible repeat (first | refine blk_drewN ?_ _ | refine blk_drew ?_ | refine blk_alloc ?_ _)); exact BK329.out) hb); have n1_ := Aside0.mk (below_step (by repeat (first | (with_reducible first | exact HB.out | apply below_alloc | apply pw_below_drewN | apply below_drew1 | refine below_set ?_ GE329.out) | exact HB.out)) hb); clear BK329; clear HB; have BK329 := n0_; have HB := n1_; clear n0_ n1_; (try clear hb); (try clear hb2); (try clear hk); (try clear hi); have hcz17_0 : w16.cell? ⟨gb329, 0, none⟩ = some (.int .i64 a0_0) := (blk_cell BK329.out 0).trans rfl; have hcz17_1 : w16.cell? ⟨gb329, 1, none⟩ = some (.int .i64 a0_1) := (blk_cell BK329.out 1).trans rfl; have hcz17_2 : w16.cell? ⟨gb329, 2, none⟩ = some (.int .i64 a0_2) := (blk_cell BK329.out 2).trans rfl; have hcz17_3 : w16.cell? ⟨gb329, 3, none⟩ = some (.int .i64 a0_3) := (blk_cell BK329.out 3).trans rfl; have hcz17_4 : w16.cell? ⟨gb329, 4, none⟩ = some (.slice A0_4 l0_4.length c0_4) := (blk_cell BK329.out 4).trans rfl; have hcz17_5 : w16.cell? ⟨gb329, 5, none⟩ = some (.slice A0_5 l0_5.length c0_5) := (blk_cell BK329.out 5).trans rfl; have hcz17_6 : w16.cell? ⟨gb329, 6, none⟩ = some (.slice A0_6 l0_6.length c0_6) := (blk_cell BK329.out 6).trans rfl; have hfz17_0 := blk_frozen BK329.out 0; have hfz17_1 := blk_frozen BK329.out 1; have hfz17_2 := blk_frozen BK329.out 2; have hfz17_3 := blk_frozen BK329.out 3; have hfz17_4 := blk_frozen BK329.out 4; have hfz17_5 := blk_frozen BK329.out 5; have hfz17_6 := blk_frozen BK329.out 6) | (go_at_call 14; (with_reducible refine (bundle_Check.calls k a0_0 a0_1 a0_2 a0_3 _ _ l0_4 _ _ l0_5 _ _ l0_6 _ _ l1 t331 _ ?side1 ?side2 ?side3 ?side4 ?side5 ?side6 ?side7 ?side8 A14.out).mono ?_); (case side1 => repeat (first | exact (Kd.C_below HR0_4.out HB.out) | (with_reducible refine Kd.C_alloc ?_ _) | (with_reducible refine Kd.C_drewN ?_ _) | (with_reducible refine Kd.C_drew ?_))); (case side2 => exact HC0_4.out); (case side3 => repeat (first | exact (Kd.C_below HR0_5.out HB.out) | (with_reducible refine Kd.C_alloc ?_ _) | (with_reducible refine Kd.C_drewN ?_ _) | (with_reducible refine Kd.C_drew ?_))); (case side4 => exact HC0_5.out); (case side5 => repeat (first | exact (Kd.C_below HR0_6.out HB.out) | (with_reducible refine Kd.C_alloc ?_ _) | (with_reducible refine Kd.C_drewN ?_ _) | (with_reducible refine Kd.C_drew ?_))); (case side6 => exact HC0_6.out); (case side7 => repeat (first | exact (Kd.C_below HR1.out HB.out) | (with_reducible refine Kd.C_alloc ?_ _) | (with_reducible refine Kd.C_drewN ?_ _) | (with_reducible refine Kd.C_drew ?_))); (case side8 => exact HC1.out); rintro e w18 ⟨rfl, hb⟩; have n0_ := Aside0.mk (blk_below (g := gb329) (o := .cells #[.int .i64 a0_0, .int .i64 a0_1, .int .i64 a0_2, .int .i64 a0_3, .slice A0_4 l0_4.length c0_4, .slice A0_5 l0_5.length c0_5, .slice A0_6 l0_6.length c0_6] 35 (0, 0)) (by (with_reducible repeat (first | refine blk_drewN ?_ _ | refine blk_drew ?_ | refine blk_alloc ?_ _)); exact BK329.out) hb); have n1_ := Aside0.mk (below_step (by repeat (first | (with_reducible first | exact HB.out | apply below_alloc | apply pw_below_drewN | apply below_drew1 | refine below_set ?_ GE329.out) | exact HB.out)) hb); clear BK329; clear HB; have BK329 := n0_; have HB := n1_; clear n0_ n1_; (try clear hb); (try clear hb2); (try clear hk); (try clear hi)))
          go_meet
          case rel => exact ⟨_, ((t331 != 0)), (by first | rfl | (simp; done) | (simp [*]; done)), H', ⟨by first | omega | exact Nat.le_refl _⟩, ⟨by (with_reducible repeat (first | refine blk_drewN ?_ _ | refine blk_drew ?_ | refine blk_alloc ?_ _)); exact BK329.out⟩, ⟨by repeat (first | (with_reducible first | exact HB.out | apply below_alloc | apply pw_below_drewN | apply below_drew1 | refine below_set ?_ GE329.out) | exact HB.out)⟩⟩
    · replace c7 := Bool.eq_false_iff.mpr c7
      subst c7
      have H1 : (garmentlaw44_BundleOrder.j0 k l1 a2 true a0_0 a0_1 a0_2 a0_3 l0_4 l0_5 l0_6) = some r := by rw [if_neg (show ¬ (false = true) by decide)] at H; exact H
      clear H
      have H := H1
      clear H1
      have H' := Aside0.mk H
      clear H
      have hcz19_0 : w5.cell? ⟨gb329, 0, none⟩ = some (.int .i64 a0_0) := (blk_cell BK329.out 0).trans rfl
      have hcz19_1 : w5.cell? ⟨gb329, 1, none⟩ = some (.int .i64 a0_1) := (blk_cell BK329.out 1).trans rfl
      have hcz19_2 : w5.cell? ⟨gb329, 2, none⟩ = some (.int .i64 a0_2) := (blk_cell BK329.out 2).trans rfl
      have hcz19_3 : w5.cell? ⟨gb329, 3, none⟩ = some (.int .i64 a0_3) := (blk_cell BK329.out 3).trans rfl
      have hcz19_4 : w5.cell? ⟨gb329, 4, none⟩ = some (.slice A0_4 l0_4.length c0_4) := (blk_cell BK329.out 4).trans rfl
      have hcz19_5 : w5.cell? ⟨gb329, 5, none⟩ = some (.slice A0_5 l0_5.length c0_5) := (blk_cell BK329.out 5).trans rfl
      have hcz19_6 : w5.cell? ⟨gb329, 6, none⟩ = some (.slice A0_6 l0_6.length c0_6) := (blk_cell BK329.out 6).trans rfl
      have hfz19_0 := blk_frozen BK329.out 0
      have hfz19_1 := blk_frozen BK329.out 1
      have hfz19_2 := blk_frozen BK329.out 2
      have hfz19_3 := blk_frozen BK329.out 3
      have hfz19_4 := blk_frozen BK329.out 4
      have hfz19_5 := blk_frozen BK329.out 5
      have hfz19_6 := blk_frozen BK329.out 6
      go_wp2_with (first | ((with_reducible refine gate_callee (f := 12) rfl ?_); refine goesL_ (some 10) rfl rfl Try.func12 (by kernel_rfl) rfl #[.agg #[.int .i64 a0_0, .int .i64 a0_1, .int .i64 a0_2, .int .i64 a0_3, .slice A0_4 l0_4.length c0_4, .slice A0_5 l0_5.length c0_5, .slice A0_6 l0_6.length c0_6]] rfl (by (try simp only [List.map_toArray, List.map_cons, List.map_nil]); first | done | rfl | (simp only [List.length_drop, List.length_take]; rfl)) ?_; (with_reducible refine (garmentref44_Light.calls a0_0 a0_1 a0_2 a0_3 _ _ l0_4 _ _ l0_5 _ _ l0_6 false _ ?side1 ?side2 ?side3 ?side4 ?side5 ?side6 A6.out).mono ?_); (case side1 => repeat (first | exact (Kd.C_below HR0_4.out HB.out) | (with_reducible refine Kd.C_alloc ?_ _) | (with_reducible refine Kd.C_drewN ?_ _) | (with_reducible refine Kd.C_drew ?_))); (case side2 => exact HC0_4.out); (case side3 => repeat (first | exact (Kd.C_below HR0_5.out HB.out) | (with_reducible refine Kd.C_alloc ?_ _) | (with_reducible refine Kd.C_drewN ?_ _) | (with_reducible refine Kd.C_drew ?_))); (case side4 => exact HC0_5.out); (case side5 => repeat (first | exact (Kd.C_below HR0_6.out HB.out) | (with_reducible refine Kd.C_alloc ?_ _) | (with_reducible refine Kd.C_drewN ?_ _) | (with_reducible refine Kd.C_drew ?_))); (case side6 => exact HC0_6.out); rintro e w20 ⟨rfl, hb⟩; refine ⟨_, rfl, ?_⟩; have n0_ := Aside0.mk (blk_below (g := gb329) (o := .cells #[.int .i64 a0_0, .int .i64 a0_1, .int .i64 a0_2, .int .i64 a0_3, .slice A0_4 l0_4.length c0_4, .slice A0_5 l0_5.length c0_5, .slice A0_6 l0_6.length c0_6] 35 (0, 0)) (by (with_reducible repeat (first | refine blk_drewN ?_ _ | refine blk_drew ?_ | refine blk_alloc ?_ _)); exact BK329.out) hb); have n1_ := Aside0.mk (below_step (by repeat (first | (with_reducible first | exact HB.out | apply below_alloc | apply pw_below_drewN | apply below_drew1 | refine below_set ?_ GE329.out) | exact HB.out)) hb); clear BK329; clear HB; have BK329 := n0_; have HB := n1_; clear n0_ n1_; (try clear hb); (try clear hb2); (try clear hk); (try clear hi)))
      go_meet
      case rel => exact ⟨_, (true), (by first | rfl | (simp; done) | (simp [*]; done)), H', ⟨by first | omega | exact Nat.le_refl _⟩, ⟨by (with_reducible repeat (first | refine blk_drewN ?_ _ | refine blk_drew ?_ | refine blk_alloc ?_ _)); exact BK329.out⟩, ⟨by repeat (first | (with_reducible first | exact HB.out | apply below_alloc | apply pw_below_drewN | apply below_drew1 | refine below_set ?_ GE329.out) | exact HB.out)⟩⟩
  case rest =>
    clear HC4
    try clear c1
    try clear p2
    try clear c7
    try clear c8
    try clear c8b0
    try clear c8b1
    try clear c11
    try clear c11b0
    try clear c11b1
    try clear c11b2
    try clear c12
    try clear hcz12_0
    try clear hcz12_1
    try clear hcz12_2
    try clear hcz12_3
    try clear hcz12_4
    try clear hcz12_5
    try clear hcz12_6
    try clear hcz15_0
    try clear hcz15_1
    try clear hcz15_2
    try clear hcz15_3
    try clear hcz15_4
    try clear hcz15_5
    try clear hcz15_6
    try clear hcz17_0
    try clear hcz17_1
    try clear hcz17_2
    try clear hcz17_3
    try clear hcz17_4
    try clear hcz17_5
    try clear hcz17_6
    try clear hcz19_0
    try clear hcz19_1
    try clear hcz19_2
    try clear hcz19_3
    try clear hcz19_4
    try clear hcz19_5
    try clear hcz19_6
    try clear hcz9_0
    try clear hcz9_1
    try clear hcz9_2
    try clear hcz9_3
    try clear hcz9_4
    try clear hcz9_5
    try clear hcz9_6
    try clear hfz12_0
    try clear hfz12_1
    try clear hfz12_2
    try clear hfz12_3
    try clear hfz12_4
    try clear hfz12_5
    try clear hfz12_6
    try clear hfz15_0
    try clear hfz15_1
    try clear hfz15_2
    try clear hfz15_3
    try clear hfz15_4
    try clear hfz15_5
    try clear hfz15_6
    try clear hfz17_0
    try clear hfz17_1
    try clear hfz17_2
    try clear hfz17_3
    try clear hfz17_4
    try clear hfz17_5
    try clear hfz17_6
    try clear hfz19_0
    try clear hfz19_1
    try clear hfz19_2
    try clear hfz19_3
    try clear hfz19_4
    try clear hfz19_5
    try clear hfz19_6
    try clear hfz9_0
    try clear hfz9_1
    try clear hfz9_2
    try clear hfz9_3
    try clear hfz9_4
    try clear hfz9_5
    try clear hfz9_6
    obtain ⟨kq, x27_3, rfl, HA, HJ3, BK329, HB⟩ := hcut
    cases kq with
    | zero => exact absurd HA.out (by simp [garmentlaw44_BundleOrder.j0])
    | succ kj3 =>
      have H := HA.out
      clear HA
      simp only [garmentlaw44_BundleOrder.j0] at H
      by_cases c21 : x27_3 = true
      · subst c21
        have H1 : ((garmentlaw44_alive.f kj3).bind fun t332 => (some t332)) = some r := by rw [if_pos rfl] at H; exact H
        clear H
        have H := H1
        clear H1
        replace H := Option.bind_eq_some_iff.mp H
        obtain ⟨t332, A220, H⟩ := H
        replace H : (some t332) = some r := H
        have A22 := Aside0.mk A220
        clear A220
        obtain rfl := Option.some.inj H
        go_wp2_with (first | ((with_reducible refine gate_callee (f := 9) rfl ?_); refine goesL_ (some 28) rfl rfl Try.func9 (by kernel_rfl) rfl #[] rfl (by (try simp only [List.map_toArray, List.map_cons, List.map_nil]); first | done | rfl | (simp only [List.length_drop, List.length_take]; rfl)) ?_; (with_reducible refine (garmentlaw44_alive.calls kj3  t332 _ A22.out).mono ?_); rintro e w23 ⟨rfl, hb⟩; refine ⟨_, rfl, ?_⟩; have n0_ := Aside0.mk (blk_below (g := gb329) (o := .cells #[.int .i64 a0_0, .int .i64 a0_1, .int .i64 a0_2, .int .i64 a0_3, .slice A0_4 l0_4.length c0_4, .slice A0_5 l0_5.length c0_5, .slice A0_6 l0_6.length c0_6] 35 (0, 0)) (by (with_reducible repeat (first | refine blk_drewN ?_ _ | refine blk_drew ?_ | refine blk_alloc ?_ _)); exact BK329.out) hb); have n1_ := Aside0.mk (below_step (by repeat (first | (with_reducible first | exact HB.out | apply below_alloc | apply pw_below_drewN | apply below_drew1 | refine below_set ?_ GE329.out) | exact HB.out)) hb); clear BK329; clear HB; have BK329 := n0_; have HB := n1_; clear n0_ n1_; (try clear hb); (try clear hb2); (try clear hk); (try clear hi)))
        go_ret
        exact ⟨by first | rfl | (simp [errW_none, errW_some] <;> rfl) | (simp [*, errW_none, errW_some] <;> rfl), by repeat (first | (with_reducible first | exact HB.out | apply below_alloc | apply pw_below_drewN | apply below_drew1 | refine below_set ?_ GE329.out) | exact HB.out)⟩
      · replace c21 := Bool.eq_false_iff.mpr c21
        subst c21
        have H1 : (if (l1.length : Int) = 0 then (none) else ((some (([] : List (S42)) : List (S42))).bind fun y333 => (if 0 ≤ (Int.tmod (wrap64 (a2)) (l1.length : Int)) then (if (Int.tmod (wrap64 (a2)) (l1.length : Int)) ≤ (l1.length : Int) then ((some (l1.drop ((Int.tmod (wrap64 (a2)) (l1.length : Int)) : Int).toNat : List (S42))).bind fun y336 => (if y333.length + y336.length < 2932031007402 then ((some (y333 ++ y336 : List (S42))).bind fun y340 => ((some (l1.take ((Int.tmod (wrap64 (a2)) (l1.length : Int)) : Int).toNat : List (S42))).bind fun y343 => (if y340.length + y343.length < 2932031007402 then ((bundle_Check.f kj3 a0_0 a0_1 a0_2 a0_3 l0_4 l0_5 l0_6 (y340 ++ y343)).bind fun t350 => (if t350 = 0 then ((garmentlaw44_alive.f kj3).bind fun t351 => (some t351)) else (some false))) else (none)))) else (none))) else (none)) else (none)))) = some r := by rw [if_neg (show ¬ (false = true) by decide)] at H; exact H
        clear H
        have H := H1
        clear H1
        by_cases c24 : (l1.length : Int) = 0
        · rw [if_pos c24] at H
          exact absurd H (by simp)
        · rw [if_neg c24] at H
          have c24b0 : ((l1.length : Int) == 0) = false := beq_eq_false_iff_ne.mpr c24
          have c24b1 : ((l1.length : Int) != 0) = true := bne_iff_ne.mpr c24
          have c24b2 : ¬ (l1 = []) := fun h_ => c24 (by rw [h_]; rfl)
          obtain ⟨y333, hy333⟩ : ∃ y_ : List (S42), y_ = (([] : List (S42))) := ⟨_, rfl⟩
          replace H : (if 0 ≤ (Int.tmod (wrap64 (a2)) (l1.length : Int)) then (if (Int.tmod (wrap64 (a2)) (l1.length : Int)) ≤ (l1.length : Int) then ((some (l1.drop ((Int.tmod (wrap64 (a2)) (l1.length : Int)) : Int).toNat : List (S42))).bind fun y336 => (if y333.length + y336.length < 2932031007402 then ((some (y333 ++ y336 : List (S42))).bind fun y340 => ((some (l1.take ((Int.tmod (wrap64 (a2)) (l1.length : Int)) : Int).toNat : List (S42))).bind fun y343 => (if y340.length + y343.length < 2932031007402 then ((bundle_Check.f kj3 a0_0 a0_1 a0_2 a0_3 l0_4 l0_5 l0_6 (y340 ++ y343)).bind fun t350 => (if t350 = 0 then ((garmentlaw44_alive.f kj3).bind fun t351 => (some t351)) else (some false))) else (none)))) else (none))) else (none)) else (none)) = some r := by first | (rw [hy333]; with_reducible exact H) | (have H2_ := (Option.bind_some _ _).symm.trans H; rw [hy333]; with_reducible exact H2_) | (have H2_ := (Option.bind_some _ _).symm.trans H; with_reducible exact H2_) | with_reducible exact H | (rw [hy333]; exact H) | exact H
          have Ny333 := Aside0.mk hy333
          clear hy333
          obtain ⟨ji25, hji25⟩ : ∃ j_ : Int, (Int.tmod (wrap64 (a2)) (l1.length : Int)) = j_ := ⟨_, rfl⟩
          replace H : (if 0 ≤ (ji25) then (if (ji25) ≤ (l1.length : Int) then ((some (l1.drop ((ji25) : Int).toNat : List (S42))).bind fun y336 => (if y333.length + y336.length < 2932031007402 then ((some (y333 ++ y336 : List (S42))).bind fun y340 => ((some (l1.take ((ji25) : Int).toNat : List (S42))).bind fun y343 => (if y340.length + y343.length < 2932031007402 then ((bundle_Check.f kj3 a0_0 a0_1 a0_2 a0_3 l0_4 l0_5 l0_6 (y340 ++ y343)).bind fun t350 => (if t350 = 0 then ((garmentlaw44_alive.f kj3).bind fun t351 => (some t351)) else (some false))) else (none)))) else (none))) else (none)) else (none)) = some r := by first | (rw [hji25] at H; exact H) | (simp only [hji25] at H ⊢; exact H)
          by_cases c26 : 0 ≤ (ji25)
          · rw [if_pos c26] at H
            have c26b0 := eq_true c26
            have c26b1 : decide (0 ≤ (ji25)) = true := decide_eq_true c26
            clear c26
            by_cases c27 : (ji25) ≤ (l1.length : Int)
            · rw [if_pos c27] at H
              have c27b0 := eq_true c27
              have c27b1 : decide ((ji25) ≤ (l1.length : Int)) = true := decide_eq_true c27
              clear c27
              obtain ⟨y336, hy336⟩ : ∃ y_ : List (S42), y_ = (l1.drop ((ji25) : Int).toNat) := ⟨_, rfl⟩
              replace H : (if y333.length + y336.length < 2932031007402 then ((some (y333 ++ y336 : List (S42))).bind fun y340 => ((some (l1.take ((ji25) : Int).toNat : List (S42))).bind fun y343 => (if y340.length + y343.length < 2932031007402 then ((bundle_Check.f kj3 a0_0 a0_1 a0_2 a0_3 l0_4 l0_5 l0_6 (y340 ++ y343)).bind fun t350 => (if t350 = 0 then ((garmentlaw44_alive.f kj3).bind fun t351 => (some t351)) else (some false))) else (none)))) else (none)) = some r := by first | (rw [hy336]; with_reducible exact H) | (have H2_ := (Option.bind_some _ _).symm.trans H; rw [hy336]; with_reducible exact H2_) | (have H2_ := (Option.bind_some _ _).symm.trans H; with_reducible exact H2_) | with_reducible exact H | (rw [hy336]; exact H) | exact H
              have Ny336 := Aside0.mk hy336
              clear hy336
              by_cases c28 : y333.length + y336.length < 2932031007402
              · rw [if_pos c28] at H
                have LMc28 := Aside0.mk c28
                clear c28
                obtain ⟨y340, hy340⟩ : ∃ y_ : List (S42), y_ = (y333 ++ y336) := ⟨_, rfl⟩
                replace H : ((some (l1.take ((ji25) : Int).toNat : List (S42))).bind fun y343 => (if y340.length + y343.length < 2932031007402 then ((bundle_Check.f kj3 a0_0 a0_1 a0_2 a0_3 l0_4 l0_5 l0_6 (y340 ++ y343)).bind fun t350 => (if t350 = 0 then ((garmentlaw44_alive.f kj3).bind fun t351 => (some t351)) else (some false))) else (none))) = some r := by first | (rw [hy340]; with_reducible exact H) | (have H2_ := (Option.bind_some _ _).symm.trans H; rw [hy340]; with_reducible exact H2_) | (have H2_ := (Option.bind_some _ _).symm.trans H; with_reducible exact H2_) | with_reducible exact H | (rw [hy340]; exact H) | exact H
                have Ny340 := Aside0.mk hy340
                clear hy340
                have c29b0 := eq_true (of_decide_eq_true (by first | (with_reducible assumption) | assumption) : 0 ≤ (ji25))
                have c30b0 := eq_true (of_decide_eq_true (by first | (with_reducible assumption) | assumption) : (ji25) ≤ (l1.length : Int))
                obtain ⟨y343, hy343⟩ : ∃ y_ : List (S42), y_ = (l1.take ((ji25) : Int).toNat) := ⟨_, rfl⟩
                replace H : (if y340.length + y343.length < 2932031007402 then ((bundle_Check.f kj3 a0_0 a0_1 a0_2 a0_3 l0_4 l0_5 l0_6 (y340 ++ y343)).bind fun t350 => (if t350 = 0 then ((garmentlaw44_alive.f kj3).bind fun t351 => (some t351)) else (some false))) else (none)) = some r := by first | (rw [hy343]; with_reducible exact H) | (have H2_ := (Option.bind_some _ _).symm.trans H; rw [hy343]; with_reducible exact H2_) | (have H2_ := (Option.bind_some _ _).symm.trans H; with_reducible exact H2_) | with_reducible exact H | (rw [hy343]; exact H) | exact H
                have Ny343 := Aside0.mk hy343
                clear hy343
                by_cases c31 : y340.length + y343.length < 2932031007402
                · rw [if_pos c31] at H
                  have LMc31 := Aside0.mk c31
                  clear c31
                  obtain ⟨y347, hy347⟩ : ∃ y_ : List (S42), y_ = (y340 ++ y343) := ⟨_, rfl⟩
                  replace H : ((bundle_Check.f kj3 a0_0 a0_1 a0_2 a0_3 l0_4 l0_5 l0_6 y347).bind fun t350 => (if t350 = 0 then ((garmentlaw44_alive.f kj3).bind fun t351 => (some t351)) else (some false))) = some r := by first | (rw [hy347]; with_reducible exact H) | (have H2_ := (Option.bind_some _ _).symm.trans H; rw [hy347]; with_reducible exact H2_) | (have H2_ := (Option.bind_some _ _).symm.trans H; with_reducible exact H2_) | with_reducible exact H | (rw [hy347]; exact H) | exact H
                  have Ny347 := Aside0.mk hy347
                  clear hy347
                  replace H := Option.bind_eq_some_iff.mp H
                  obtain ⟨t350, A320, H⟩ := H
                  replace H : (if t350 = 0 then ((garmentlaw44_alive.f kj3).bind fun t351 => (some t351)) else (some false)) = some r := H
                  have A32 := Aside0.mk A320
                  clear A320
                  by_cases c33 : t350 = 0
                  · rw [if_pos c33] at H
                    have c33b0 : (t350 == 0) = true := beq_iff_eq.mpr c33
                    have c33b1 : (t350 != 0) = false := bne_eq_false_iff_eq.mpr c33
                    clear c33
                    replace H := Option.bind_eq_some_iff.mp H
                    obtain ⟨t351, A340, H⟩ := H
                    replace H : (some t351) = some r := H
                    have A34 := Aside0.mk A340
                    clear A340
                    obtain rfl := Option.some.inj H
                    try go_wp2
                    have n0_ := Aside0.mk (blk_drew BK329.out)
                    have n1_ := Aside0.mk (below_drew1 HB.out)
                    clear BK329
                    clear HB
                    have BK329 := n0_
                    have HB := n1_
                    clear n0_ n1_
                    have q36 : ((ji25) : Int) ≤ ((l1.length : Int) : Int) := of_decide_eq_true (by first | (with_reducible assumption) | assumption)
                    obtain ⟨i036, hi036, _, hsz36, _⟩ := info_parts info42
                    have hroom36 : l1.length ≤ c1 := HC1.out
                    have hC36 : Kd.C k42 _ A1 l1.length l1 := HR1.out
                    have q036 : (0 : Int) ≤ ((ji25) : Int) := of_decide_eq_true (by first | (with_reducible assumption) | assumption)
                    have hcut36 := cut_from (P := Try.prog) 22 42 .i64 Try.underlying22 hi036 6 hsz36 A1 l1.length c1 (ji25) q036 q36
                    have hr36 := Kd.C_drop (m := ((ji25) : Int).toNat) (c := c1) hC36 (by omega) hroom36
                    obtain ⟨A36, hA36⟩ : ∃ A1_, A1_ = (if c1 = ((ji25) : Int).toNat then A1 else (A1 : Option Addr).map (·.add (((ji25) : Int).toNat * 6))) := ⟨_, rfl⟩
                    obtain ⟨c36, hc36⟩ : ∃ c1_, c1_ = c1 - ((ji25) : Int).toNat := ⟨_, rfl⟩
                    have hy36 : y336.length = l1.length - ((ji25) : Int).toNat := (by rw [Ny336.out, List.length_drop] <;> omega)
                    rw [show (l1).drop ((ji25) : Int).toNat = y336 from Ny336.out.symm] at hr36
                    replace hr36 : Kd.C k42 _ A36 y336.length y336 := (by rw [hA36]; exact hr36)
                    rw [← hy36, ← hA36, ← hc36] at hcut36
                    have HR339 := Aside0.mk hr36
                    have HC339 := Aside0.mk (show y336.length ≤ c36 from by rw [hy36, hc36]; exact Nat.sub_le_sub_right hroom36 _)
                    clear hr36 hC36 hroom36 hi036 hsz36 hc36
                    have KY36 := Aside0.mk hy36
                    have KA36 := Aside0.mk hA36
                    clear hy36 hA36
                    replace q36 := eq_true q36
                    have q37 : ((ji25) : Int) ≤ ((l1.length : Int) : Int) := of_decide_eq_true (by first | (with_reducible assumption) | assumption)
                    obtain ⟨i037, hi037, _, hsz37, _⟩ := info_parts info42
                    have hroom37 : l1.length ≤ c1 := HC1.out
                    have hC37 : Kd.C k42 _ A1 l1.length l1 := HR1.out
                    have hcut37 := cut_to (P := Try.prog) 22 42 .i64 Try.underlying22 hi037 A1 l1.length c1 (ji25) (of_decide_eq_true (by first | (with_reducible assumption) | assumption)) q37 hroom37
                    have hr37 := Kd.C_take (m := ((ji25) : Int).toNat) hC37 (by omega)
                    have hy37 : y343.length = ((ji25) : Int).toNat := (by rw [Ny343.out, List.length_take]; omega)
                    rw [← Ny343.out] at hr37
                    rw [← hy37] at hcut37
                    have HR346 := Aside0.mk hr37
                    have HC346 := Aside0.mk (show y343.length ≤ c1 from by omega)
                    clear hr37 hC37 hroom37 hi037 hsz37
                    have KY37 := Aside0.mk hy37
                    clear hy37
                    replace q37 := eq_true q37
                    refine start_ (n := 10) (S := fun w' => True) (ds := []) #[false, false, false, false, false, false, false, false, false, false] (by kernel_rfl) rfl rfl trivial (fun hHeld => ?_); refine with_tabW garmentlaw44_BundleOrder.tab4 garmentlaw44_BundleOrder.bits4 (fun HT_ HW_ => ?_)
                    generalize wc.drew = w35 at BK329 HB HR339 HR346 hHeld ⊢
                    refine pure_ (i := 1) (N := some 35) (v := ?_) (a' := ?_) #[false, true, false, false, false, false, false, false, false, false] rfl rfl (any_of HT_.out (by kernel_rfl)) (fun _ _ _ h => h) (Or.inl ⟨by rfl, ?_⟩) ?_ ?_
                    rotate_left
                    · intro w'
                      go_simp
                      with_reducible rfl
                    rotate_left
                    · simp only [Act.put, List.setIfInBounds_toArray, List.set_cons_zero, List.set_cons_succ, i64_w, i32_w]
                      rfl
                    refine pure_ (i := 2) (N := some 36) (v := ?_) (a' := ?_) #[false, true, true, false, false, false, false, false, false, false] rfl rfl (any_of HT_.out (by kernel_rfl)) (fun _ _ _ h => h) (Or.inl ⟨by rfl, ?_⟩) ?_ ?_
                    rotate_left
                    · intro w'
                      go_simp
                      with_reducible rfl
                    rotate_left
                    · simp only [Act.put, List.setIfInBounds_toArray, List.set_cons_zero, List.set_cons_succ, i64_w, i32_w]
                      rfl
                    refine pure_ (i := 3) (N := some 37) (v := ?_) (a' := ?_) #[false, true, true, true, false, false, false, false, false, false] rfl rfl (any_of HT_.out (by kernel_rfl)) (fun _ _ _ h => h) (Or.inl ⟨by rfl, ?_⟩) ?_ ?_
                    rotate_left
                    · intro w'
                      go_simp
                      with_reducible rfl
                    rotate_left
                    · simp only [Act.put, List.setIfInBounds_toArray, List.set_cons_zero, List.set_cons_succ, i64_w, i32_w]
                      rfl
                    refine pure_ (i := 5) (N := some 39) (v := ?_) (a' := ?_) #[false, true, true, true, false, true, false, false, false, false] rfl rfl (any_of HT_.out (by kernel_rfl)) (fun _ _ _ h => h) (Or.inl ⟨by rfl, ?_⟩) ?_ ?_
                    rotate_left
                    · intro w'
                      go_simp
                      with_reducible rfl
                    rotate_left
                    · simp only [Act.put, List.setIfInBounds_toArray, List.set_cons_zero, List.set_cons_succ, i64_w, i32_w]
                      rfl
                    refine pure_ (i := 6) (N := some 40) (v := ?_) (a' := ?_) #[false, true, true, true, false, true, true, false, false, false] rfl rfl (any_of HT_.out (by kernel_rfl)) (fun _ _ _ h => h) (Or.inl ⟨by rfl, ?_⟩) ?_ ?_
                    rotate_left
                    · intro w'
                      go_simp
                      with_reducible rfl
                    rotate_left
                    · simp only [Act.put, List.setIfInBounds_toArray, List.set_cons_zero, List.set_cons_succ, i64_w, i32_w]
                      rfl
                    refine pure_ (i := 7) (N := some 41) (v := ?_) (a' := ?_) #[false, true, true, true, false, true, true, true, false, false] rfl rfl (any_of HT_.out (by kernel_rfl)) (fun _ _ _ h => h) (Or.inl ⟨by rfl, ?_⟩) ?_ ?_
                    rotate_left
                    · intro w'
                      go_simp
                      with_reducible rfl
                    rotate_left
                    · simp only [Act.put, List.setIfInBounds_toArray, List.set_cons_zero, List.set_cons_succ, i64_w, i32_w]
                      rfl
                    refine one_ (i := 0) (N := some 34) #[true, true, true, true, false, true, true, true, false, false] rfl rfl (one_of HT_.out (by kernel_rfl)) (by decide) (fun K hK => ?_)
                    refine Kd.R_lit_step k42 _ 42 ?hg (N := 34) ?hd (xs := ([] : List (S42))) (inner := []) (ok := fun _ => True) (okp := fun _ => True) ?hr ?hp (fun _ hk => hk) trivial (Below.refl _ _) (Nat.le_refl _) (by simp) ?_; (case hd => rfl); (case hg => rfl); (case hr => first | (go_simp; done) | (go_simp; rfl)); (case hp => exact (Reps.none _ _))
                    intro v334 w38 ho39 hb hg_ hnew_
                    clear hg_ hnew_
                    (first | rw [← Ny333.out] at ho39 | (simp only [Int.reduceToNat] at ho39; rw [← Ny333.out] at ho39))
                    have n0_ := Aside0.mk (Kd.R_lower ho39 (below_size (by repeat (first | (with_reducible first | exact HB.out | apply below_alloc | apply pw_below_drewN | apply below_drew1 | refine below_set ?_ GE329.out) | exact HB.out))))
                    have n1_ := Aside0.mk (blk_below (g := gb329) (o := .cells #[.int .i64 a0_0, .int .i64 a0_1, .int .i64 a0_2, .int .i64 a0_3, .slice A0_4 l0_4.length c0_4, .slice A0_5 l0_5.length c0_5, .slice A0_6 l0_6.length c0_6] 35 (0, 0)) (by (with_reducible repeat (first | refine blk_drewN ?_ _ | refine blk_drew ?_ | refine blk_alloc ?_ _)); exact BK329.out) hb)
                    have n2_ := Aside0.mk (below_step (by repeat (first | (with_reducible first | exact HB.out | apply below_alloc | apply pw_below_drewN | apply below_drew1 | refine below_set ?_ GE329.out) | exact HB.out)) hb)
                    clear BK329
                    clear HB
                    have HO335 := n0_
                    have BK329 := n1_
                    have HB := n2_
                    clear n0_ n1_ n2_
                    clear hb ho39
                    refine hK.out _ _ trivial (fun hHeld => ?_)
                    clear hK K
                    refine norm_ (a' := ?_) ?_ ?_
                    rotate_left
                    · show Act.put _ (some 34) _ = _
                      simp only [Act.put, List.setIfInBounds_toArray, List.set_cons_zero, List.set_cons_succ, i64_w, i32_w]
                      rfl
                    refine one_ (i := 4) (N := some 38) #[true, true, true, true, true, true, true, true, false, false] rfl rfl (one_of HT_.out (by kernel_rfl)) (by decide) (fun K hK => ?_)
                    refine Kd.R_append_rows_step k42 (w0 := w) w.heap.size (by rfl) (.tmp 34) (.tmp 37) 22 42 (.agg #[(.int .i64 0), (.int .i64 0), (.int .i64 0), (.int .i64 0), (.int .i64 0), (.int .i64 0)]) 48 rfl Try.underlying22 info42 rfl (by decide) (by omega) v334 y333 y336 _ _ _ (fun _ => True) (fun _ => False) rfl rfl ?aO ?aR (fun _ _ h => h) (fun _ h => h.elim) ?aF ?aB ?aS ?aL ?_
                    (case aR => repeat (first | exact (Kd.C_below HR339.out HB.out) | (with_reducible refine Kd.C_alloc ?_ _) | (with_reducible refine Kd.C_drewN ?_ _) | (with_reducible refine Kd.C_drew ?_)))
                    (case aB => exact (by repeat (first | (with_reducible first | exact HB.out | apply below_alloc | apply pw_below_drewN | apply below_drew1 | refine below_set ?_ GE329.out) | exact HB.out)))
                    (case aF => exact (fun _ _ => trivial))
                    (case aO => exact (by (with_reducible repeat (first | apply Kd.R_alloc | apply Kd.R_drewN | apply Kd.R_drew)); exact HO335.out))
                    (case aS => exact (below_size (by repeat (first | (with_reducible first | exact HB.out | apply below_alloc | apply pw_below_drewN | apply below_drew1 | refine below_set ?_ GE329.out) | exact HB.out))))
                    (case aL => have := LMc28.out; omega)
                    intro v341 w40 ho hb hg hat
                    rw [← Ny340.out] at ho
                    have n0_ := Aside0.mk (blk_grown (g := gb329) (o := .cells #[.int .i64 a0_0, .int .i64 a0_1, .int .i64 a0_2, .int .i64 a0_3, .slice A0_4 l0_4.length c0_4, .slice A0_5 l0_5.length c0_5, .slice A0_6 l0_6.length c0_6] 35 (0, 0)) (by (with_reducible repeat (first | refine blk_drewN ?_ _ | refine blk_drew ?_ | refine blk_alloc ?_ _)); exact BK329.out) hg (Kd.R_ne HO335.out BK329.out (by decide)))
                    have n1_ := Aside0.mk (hb)
                    have n2_ := Aside0.mk (ho)
                    clear BK329
                    clear HB
                    clear HO335
                    have BK329 := n0_
                    have HB := n1_
                    have HO342 := n2_
                    clear n0_ n1_ n2_
                    clear ho hb hg hat
                    refine hK.out _ _ trivial (fun hHeld => ?_)
                    clear hK K
                    refine norm_ (a' := ?_) ?_ ?_
                    rotate_left
                    · show Act.put _ (some 38) _ = _
                      simp only [Act.put, List.setIfInBounds_toArray, List.set_cons_zero, List.set_cons_succ, i64_w, i32_w]
                      rfl
                    refine one_ (i := 8) (N := some 42) #[true, true, true, true, true, true, true, true, true, false] rfl rfl (one_of HT_.out (by kernel_rfl)) (by decide) (fun K hK => ?_)
                    refine Kd.R_append_rows_step k42 (w0 := w) w.heap.size (by rfl) (.tmp 38) (.tmp 41) 22 42 (.agg #[(.int .i64 0), (.int .i64 0), (.int .i64 0), (.int .i64 0), (.int .i64 0), (.int .i64 0)]) 48 rfl Try.underlying22 info42 rfl (by decide) (by omega) v341 y340 y343 _ _ _ (fun _ => True) (fun _ => False) rfl rfl ?aO ?aR (fun _ _ h => h) (fun _ h => h.elim) ?aF ?aB ?aS ?aL ?_
                    (case aR => repeat (first | exact (Kd.C_below HR346.out HB.out) | (with_reducible refine Kd.C_alloc ?_ _) | (with_reducible refine Kd.C_drewN ?_ _) | (with_reducible refine Kd.C_drew ?_)))
                    (case aB => exact (by repeat (first | (with_reducible first | exact HB.out | apply below_alloc | apply pw_below_drewN | apply below_drew1 | refine below_set ?_ GE329.out) | exact HB.out)))
                    (case aF => exact (fun _ _ => trivial))
                    (case aO => exact (by (with_reducible repeat (first | apply Kd.R_alloc | apply Kd.R_drewN | apply Kd.R_drew)); exact HO342.out))
                    (case aS => exact (below_size (by repeat (first | (with_reducible first | exact HB.out | apply below_alloc | apply pw_below_drewN | apply below_drew1 | refine below_set ?_ GE329.out) | exact HB.out))))
                    (case aL => have := LMc31.out; omega)
                    intro v348 w41 ho hb hg hat
                    rw [← Ny347.out] at ho
                    have n0_ := Aside0.mk (blk_grown (g := gb329) (o := .cells #[.int .i64 a0_0, .int .i64 a0_1, .int .i64 a0_2, .int .i64 a0_3, .slice A0_4 l0_4.length c0_4, .slice A0_5 l0_5.length c0_5, .slice A0_6 l0_6.length c0_6] 35 (0, 0)) (by (with_reducible repeat (first | refine blk_drewN ?_ _ | refine blk_drew ?_ | refine blk_alloc ?_ _)); exact BK329.out) hg (Kd.R_ne HO342.out BK329.out (by decide)))
                    have n1_ := Aside0.mk (hb)
                    have n2_ := Aside0.mk (ho)
                    clear BK329
                    clear HB
                    clear HO342
                    have BK329 := n0_
                    have HB := n1_
                    have HO349 := n2_
                    clear n0_ n1_ n2_
                    clear ho hb hg hat
                    refine hK.out _ _ trivial (fun hHeld => ?_)
                    clear hK K
                    refine norm_ (a' := ?_) ?_ ?_
                    rotate_left
                    · show Act.put _ (some 42) _ = _
                      simp only [Act.put, List.setIfInBounds_toArray, List.set_cons_zero, List.set_cons_succ, i64_w, i32_w]
                      rfl
                    refine pure_ (i := 9) (N := some 8) (v := ?_) (a' := ?_) #[true, true, true, true, true, true, true, true, true, true] rfl rfl (any_of HT_.out (by kernel_rfl)) (fun _ _ _ h => h) (Or.inl ⟨by rfl, ?_⟩) ?_ ?_
                    rotate_left
                    · intro w'
                      go_simp
                      with_reducible rfl
                    rotate_left
                    · simp only [Act.put, List.setIfInBounds_toArray, List.set_cons_zero, List.set_cons_succ, i64_w, i32_w]
                      rfl
                    refine done_ (done_of HT_.out (by kernel_rfl)) ?_
                    have hcz42_0 : w41.cell? ⟨gb329, 0, none⟩ = some (.int .i64 a0_0) := (blk_cell BK329.out 0).trans rfl
                    have hcz42_1 : w41.cell? ⟨gb329, 1, none⟩ = some (.int .i64 a0_1) := (blk_cell BK329.out 1).trans rfl
                    have hcz42_2 : w41.cell? ⟨gb329, 2, none⟩ = some (.int .i64 a0_2) := (blk_cell BK329.out 2).trans rfl
                    have hcz42_3 : w41.cell? ⟨gb329, 3, none⟩ = some (.int .i64 a0_3) := (blk_cell BK329.out 3).trans rfl
                    have hcz42_4 : w41.cell? ⟨gb329, 4, none⟩ = some (.slice A0_4 l0_4.length c0_4) := (blk_cell BK329.out 4).trans rfl
                    have hcz42_5 : w41.cell? ⟨gb329, 5, none⟩ = some (.slice A0_5 l0_5.length c0_5) := (blk_cell BK329.out 5).trans rfl
                    have hcz42_6 : w41.cell? ⟨gb329, 6, none⟩ = some (.slice A0_6 l0_6.length c0_6) := (blk_cell BK329.out 6).trans rfl
                    have hfz42_0 := blk_frozen BK329.out 0
                    have hfz42_1 := blk_frozen BK329.out 1
                    have hfz42_2 := blk_frozen BK329.out 2
                    have hfz42_3 := blk_frozen BK329.out 3
                    have hfz42_4 := blk_frozen BK329.out 4
                    have hfz42_5 := blk_frozen BK329.out 5
                    have hfz42_6 := blk_frozen BK329.out 6
                    obtain ⟨Ao43, co43, eo43⟩ := Kd.R_slice HO349.out
                    subst eo43
                    try go_wp2_with (first | ((with_reducible refine gate_callee (f := 14) rfl ?_); refine goesL_ (some 45) rfl rfl Try.func14 (by kernel_rfl) rfl #[.agg #[.int .i64 a0_0, .int .i64 a0_1, .int .i64 a0_2, .int .i64 a0_3, .slice A0_4 l0_4.length c0_4, .slice A0_5 l0_5.length c0_5, .slice A0_6 l0_6.length c0_6], .slice Ao43 y347.length co43] rfl (by (try simp only [List.map_toArray, List.map_cons, List.map_nil]); first | done | rfl | (simp only [List.length_drop, List.length_take]; rfl)) ?_; (with_reducible refine (bundle_Check.calls kj3 a0_0 a0_1 a0_2 a0_3 _ _ l0_4 _ _ l0_5 _ _ l0_6 _ _ y347 t350 _ ?side1 ?side2 ?side3 ?side4 ?side5 ?side6 ?side7 ?side8 A32.out).mono ?_); (case side1 => repeat (first | exact (Kd.C_below HR0_4.out HB.out) | (with_reducible refine Kd.C_alloc ?_ _) | (with_reducible refine Kd.C_drewN ?_ _) | (with_reducible refine Kd.C_drew ?_))); (case side2 => exact HC0_4.out); (case side3 => repeat (first | exact (Kd.C_below HR0_5.out HB.out) | (with_reducible refine Kd.C_alloc ?_ _) | (with_reducible refine Kd.C_drewN ?_ _) | (with_reducible refine Kd.C_drew ?_))); (case side4 => exact HC0_5.out); (case side5 => repeat (first | exact (Kd.C_below HR0_6.out HB.out) | (with_reducible refine Kd.C_alloc ?_ _) | (with_reducible refine Kd.C_drewN ?_ _) | (with_reducible refine Kd.C_drew ?_))); (case side6 => exact HC0_6.out); (case side7 => repeat (first | exact (Kd.R_reads' HO349.out).2.2 | (with_reducible refine Kd.C_alloc ?_ _) | (with_reducible refine Kd.C_drewN ?_ _) | (with_reducible refine Kd.C_drew ?_))); (case side8 => exact (Kd.R_reads' HO349.out).2.1); rintro e w44 ⟨rfl, hb⟩; refine ⟨_, rfl, ?_⟩; have n0_ := Aside0.mk (Kd.R_below (by (with_reducible repeat (first | apply Kd.R_alloc | apply Kd.R_drewN | apply Kd.R_drew)); exact HO349.out) hb); have n1_ := Aside0.mk (blk_below (g := gb329) (o := .cells #[.int .i64 a0_0, .int .i64 a0_1, .int .i64 a0_2, .int .i64 a0_3, .slice A0_4 l0_4.length c0_4, .slice A0_5 l0_5.length c0_5, .slice A0_6 l0_6.length c0_6] 35 (0, 0)) (by (with_reducible repeat (first | refine blk_drewN ?_ _ | refine blk_drew ?_ | refine blk_alloc ?_ _)); exact BK329.out) hb); have n2_ := Aside0.mk (below_step (by repeat (first | (with_reducible first | exact HB.out | apply below_alloc | apply pw_below_drewN | apply below_drew1 | refine below_set ?_ GE329.out) | exact HB.out)) hb); clear HO349; clear BK329; clear HB; have HO349 := n0_; have BK329 := n1_; have HB := n2_; clear n0_ n1_ n2_; (try clear hb); (try clear hb2); (try clear hk); (try clear hi)) | (go_at_call 9; (with_reducible refine (garmentlaw44_alive.calls kj3  t351 _ A34.out).mono ?_); rintro e w45 ⟨rfl, hb⟩; have n0_ := Aside0.mk (Kd.R_below (by (with_reducible repeat (first | apply Kd.R_alloc | apply Kd.R_drewN | apply Kd.R_drew)); exact HO349.out) hb); have n1_ := Aside0.mk (blk_below (g := gb329) (o := .cells #[.int .i64 a0_0, .int .i64 a0_1, .int .i64 a0_2, .int .i64 a0_3, .slice A0_4 l0_4.length c0_4, .slice A0_5 l0_5.length c0_5, .slice A0_6 l0_6.length c0_6] 35 (0, 0)) (by (with_reducible repeat (first | refine blk_drewN ?_ _ | refine blk_drew ?_ | refine blk_alloc ?_ _)); exact BK329.out) hb); have n2_ := Aside0.mk (below_step (by repeat (first | (with_reducible first | exact HB.out | apply below_alloc | apply pw_below_drewN | apply below_drew1 | refine below_set ?_ GE329.out) | exact HB.out)) hb); clear HO349; clear BK329; clear HB; have HO349 := n0_; have BK329 := n1_; have HB := n2_; clear n0_ n1_ n2_; (try clear hb); (try clear hb2); (try clear hk); (try clear hi)))
                    go_ret
                    exact ⟨by first | rfl | (simp [errW_none, errW_some] <;> rfl) | (simp only [← hji25]; first | rfl | (simp [errW_none, errW_some] <;> rfl)) | (simp [*, errW_none, errW_some] <;> rfl), by repeat (first | (with_reducible first | exact HB.out | apply below_alloc | apply pw_below_drewN | apply below_drew1 | refine below_set ?_ GE329.out) | exact HB.out)⟩
                  · rw [if_neg c33] at H
                    have c33b0 : (t350 == 0) = false := beq_eq_false_iff_ne.mpr c33
                    have c33b1 : (t350 != 0) = true := bne_iff_ne.mpr c33
                    obtain rfl := Option.some.inj H
                    try go_wp2
                    have n0_ := Aside0.mk (blk_drew BK329.out)
                    have n1_ := Aside0.mk (below_drew1 HB.out)
                    clear BK329
                    clear HB
                    have BK329 := n0_
                    have HB := n1_
                    clear n0_ n1_
                    have q47 : ((ji25) : Int) ≤ ((l1.length : Int) : Int) := of_decide_eq_true (by first | (with_reducible assumption) | assumption)
                    obtain ⟨i047, hi047, _, hsz47, _⟩ := info_parts info42
                    have hroom47 : l1.length ≤ c1 := HC1.out
                    have hC47 : Kd.C k42 _ A1 l1.length l1 := HR1.out
                    have q047 : (0 : Int) ≤ ((ji25) : Int) := of_decide_eq_true (by first | (with_reducible assumption) | assumption)
                    have hcut47 := cut_from (P := Try.prog) 22 42 .i64 Try.underlying22 hi047 6 hsz47 A1 l1.length c1 (ji25) q047 q47
                    have hr47 := Kd.C_drop (m := ((ji25) : Int).toNat) (c := c1) hC47 (by omega) hroom47
                    obtain ⟨A47, hA47⟩ : ∃ A1_, A1_ = (if c1 = ((ji25) : Int).toNat then A1 else (A1 : Option Addr).map (·.add (((ji25) : Int).toNat * 6))) := ⟨_, rfl⟩
                    obtain ⟨c47, hc47⟩ : ∃ c1_, c1_ = c1 - ((ji25) : Int).toNat := ⟨_, rfl⟩
                    have hy47 : y336.length = l1.length - ((ji25) : Int).toNat := (by rw [Ny336.out, List.length_drop] <;> omega)
                    rw [show (l1).drop ((ji25) : Int).toNat = y336 from Ny336.out.symm] at hr47
                    replace hr47 : Kd.C k42 _ A47 y336.length y336 := (by rw [hA47]; exact hr47)
                    rw [← hy47, ← hA47, ← hc47] at hcut47
                    have HR339 := Aside0.mk hr47
                    have HC339 := Aside0.mk (show y336.length ≤ c47 from by rw [hy47, hc47]; exact Nat.sub_le_sub_right hroom47 _)
                    clear hr47 hC47 hroom47 hi047 hsz47 hc47
                    have KY47 := Aside0.mk hy47
                    have KA47 := Aside0.mk hA47
                    clear hy47 hA47
                    replace q47 := eq_true q47
                    have q48 : ((ji25) : Int) ≤ ((l1.length : Int) : Int) := of_decide_eq_true (by first | (with_reducible assumption) | assumption)
                    obtain ⟨i048, hi048, _, hsz48, _⟩ := info_parts info42
                    have hroom48 : l1.length ≤ c1 := HC1.out
                    have hC48 : Kd.C k42 _ A1 l1.length l1 := HR1.out
                    have hcut48 := cut_to (P := Try.prog) 22 42 .i64 Try.underlying22 hi048 A1 l1.length c1 (ji25) (of_decide_eq_true (by first | (with_reducible assumption) | assumption)) q48 hroom48
                    have hr48 := Kd.C_take (m := ((ji25) : Int).toNat) hC48 (by omega)
                    have hy48 : y343.length = ((ji25) : Int).toNat := (by rw [Ny343.out, List.length_take]; omega)
                    rw [← Ny343.out] at hr48
                    rw [← hy48] at hcut48
                    have HR346 := Aside0.mk hr48
                    have HC346 := Aside0.mk (show y343.length ≤ c1 from by omega)
                    clear hr48 hC48 hroom48 hi048 hsz48
                    have KY48 := Aside0.mk hy48
                    clear hy48
                    replace q48 := eq_true q48
                    refine start_ (n := 10) (S := fun w' => True) (ds := []) #[false, false, false, false, false, false, false, false, false, false] (by kernel_rfl) rfl rfl trivial (fun hHeld => ?_); refine with_tabW garmentlaw44_BundleOrder.tab4 garmentlaw44_BundleOrder.bits4 (fun HT_ HW_ => ?_)
                    generalize wc.drew = w46 at BK329 HB HR339 HR346 hHeld ⊢
                    refine pure_ (i := 1) (N := some 35) (v := ?_) (a' := ?_) #[false, true, false, false, false, false, false, false, false, false] rfl rfl (any_of HT_.out (by kernel_rfl)) (fun _ _ _ h => h) (Or.inl ⟨by rfl, ?_⟩) ?_ ?_
                    rotate_left
                    · intro w'
                      go_simp
                      with_reducible rfl
                    rotate_left
                    · simp only [Act.put, List.setIfInBounds_toArray, List.set_cons_zero, List.set_cons_succ, i64_w, i32_w]
                      rfl
                    refine pure_ (i := 2) (N := some 36) (v := ?_) (a' := ?_) #[false, true, true, false, false, false, false, false, false, false] rfl rfl (any_of HT_.out (by kernel_rfl)) (fun _ _ _ h => h) (Or.inl ⟨by rfl, ?_⟩) ?_ ?_
                    rotate_left
                    · intro w'
                      go_simp
                      with_reducible rfl
                    rotate_left
                    · simp only [Act.put, List.setIfInBounds_toArray, List.set_cons_zero, List.set_cons_succ, i64_w, i32_w]
                      rfl
                    refine pure_ (i := 3) (N := some 37) (v := ?_) (a' := ?_) #[false, true, true, true, false, false, false, false, false, false] rfl rfl (any_of HT_.out (by kernel_rfl)) (fun _ _ _ h => h) (Or.inl ⟨by rfl, ?_⟩) ?_ ?_
                    rotate_left
                    · intro w'
                      go_simp
                      with_reducible rfl
                    rotate_left
                    · simp only [Act.put, List.setIfInBounds_toArray, List.set_cons_zero, List.set_cons_succ, i64_w, i32_w]
                      rfl
                    refine pure_ (i := 5) (N := some 39) (v := ?_) (a' := ?_) #[false, true, true, true, false, true, false, false, false, false] rfl rfl (any_of HT_.out (by kernel_rfl)) (fun _ _ _ h => h) (Or.inl ⟨by rfl, ?_⟩) ?_ ?_
                    rotate_left
                    · intro w'
                      go_simp
                      with_reducible rfl
                    rotate_left
                    · simp only [Act.put, List.setIfInBounds_toArray, List.set_cons_zero, List.set_cons_succ, i64_w, i32_w]
                      rfl
                    refine pure_ (i := 6) (N := some 40) (v := ?_) (a' := ?_) #[false, true, true, true, false, true, true, false, false, false] rfl rfl (any_of HT_.out (by kernel_rfl)) (fun _ _ _ h => h) (Or.inl ⟨by rfl, ?_⟩) ?_ ?_
                    rotate_left
                    · intro w'
                      go_simp
                      with_reducible rfl
                    rotate_left
                    · simp only [Act.put, List.setIfInBounds_toArray, List.set_cons_zero, List.set_cons_succ, i64_w, i32_w]
                      rfl
                    refine pure_ (i := 7) (N := some 41) (v := ?_) (a' := ?_) #[false, true, true, true, false, true, true, true, false, false] rfl rfl (any_of HT_.out (by kernel_rfl)) (fun _ _ _ h => h) (Or.inl ⟨by rfl, ?_⟩) ?_ ?_
                    rotate_left
                    · intro w'
                      go_simp
                      with_reducible rfl
                    rotate_left
                    · simp only [Act.put, List.setIfInBounds_toArray, List.set_cons_zero, List.set_cons_succ, i64_w, i32_w]
                      rfl
                    refine one_ (i := 0) (N := some 34) #[true, true, true, true, false, true, true, true, false, false] rfl rfl (one_of HT_.out (by kernel_rfl)) (by decide) (fun K hK => ?_)
                    refine Kd.R_lit_step k42 _ 42 ?hg (N := 34) ?hd (xs := ([] : List (S42))) (inner := []) (ok := fun _ => True) (okp := fun _ => True) ?hr ?hp (fun _ hk => hk) trivial (Below.refl _ _) (Nat.le_refl _) (by simp) ?_; (case hd => rfl); (case hg => rfl); (case hr => first | (go_simp; done) | (go_simp; rfl)); (case hp => exact (Reps.none _ _))
                    intro v334 w49 ho50 hb hg_ hnew_
                    clear hg_ hnew_
                    (first | rw [← Ny333.out] at ho50 | (simp only [Int.reduceToNat] at ho50; rw [← Ny333.out] at ho50))
                    have n0_ := Aside0.mk (Kd.R_lower ho50 (below_size (by repeat (first | (with_reducible first | exact HB.out | apply below_alloc | apply pw_below_drewN | apply below_drew1 | refine below_set ?_ GE329.out) | exact HB.out))))
                    have n1_ := Aside0.mk (blk_below (g := gb329) (o := .cells #[.int .i64 a0_0, .int .i64 a0_1, .int .i64 a0_2, .int .i64 a0_3, .slice A0_4 l0_4.length c0_4, .slice A0_5 l0_5.length c0_5, .slice A0_6 l0_6.length c0_6] 35 (0, 0)) (by (with_reducible repeat (first | refine blk_drewN ?_ _ | refine blk_drew ?_ | refine blk_alloc ?_ _)); exact BK329.out) hb)
                    have n2_ := Aside0.mk (below_step (by repeat (first | (with_reducible first | exact HB.out | apply below_alloc | apply pw_below_drewN | apply below_drew1 | refine below_set ?_ GE329.out) | exact HB.out)) hb)
                    clear BK329
                    clear HB
                    have HO335 := n0_
                    have BK329 := n1_
                    have HB := n2_
                    clear n0_ n1_ n2_
                    clear hb ho50
                    refine hK.out _ _ trivial (fun hHeld => ?_)
                    clear hK K
                    refine norm_ (a' := ?_) ?_ ?_
                    rotate_left
                    · show Act.put _ (some 34) _ = _
                      simp only [Act.put, List.setIfInBounds_toArray, List.set_cons_zero, List.set_cons_succ, i64_w, i32_w]
                      rfl
                    refine one_ (i := 4) (N := some 38) #[true, true, true, true, true, true, true, true, false, false] rfl rfl (one_of HT_.out (by kernel_rfl)) (by decide) (fun K hK => ?_)
                    refine Kd.R_append_rows_step k42 (w0 := w) w.heap.size (by rfl) (.tmp 34) (.tmp 37) 22 42 (.agg #[(.int .i64 0), (.int .i64 0), (.int .i64 0), (.int .i64 0), (.int .i64 0), (.int .i64 0)]) 48 rfl Try.underlying22 info42 rfl (by decide) (by omega) v334 y333 y336 _ _ _ (fun _ => True) (fun _ => False) rfl rfl ?aO ?aR (fun _ _ h => h) (fun _ h => h.elim) ?aF ?aB ?aS ?aL ?_
                    (case aR => repeat (first | exact (Kd.C_below HR339.out HB.out) | (with_reducible refine Kd.C_alloc ?_ _) | (with_reducible refine Kd.C_drewN ?_ _) | (with_reducible refine Kd.C_drew ?_)))
                    (case aB => exact (by repeat (first | (with_reducible first | exact HB.out | apply below_alloc | apply pw_below_drewN | apply below_drew1 | refine below_set ?_ GE329.out) | exact HB.out)))
                    (case aF => exact (fun _ _ => trivial))
                    (case aO => exact (by (with_reducible repeat (first | apply Kd.R_alloc | apply Kd.R_drewN | apply Kd.R_drew)); exact HO335.out))
                    (case aS => exact (below_size (by repeat (first | (with_reducible first | exact HB.out | apply below_alloc | apply pw_below_drewN | apply below_drew1 | refine below_set ?_ GE329.out) | exact HB.out))))
                    (case aL => have := LMc28.out; omega)
                    intro v341 w51 ho hb hg hat
                    rw [← Ny340.out] at ho
                    have n0_ := Aside0.mk (blk_grown (g := gb329) (o := .cells #[.int .i64 a0_0, .int .i64 a0_1, .int .i64 a0_2, .int .i64 a0_3, .slice A0_4 l0_4.length c0_4, .slice A0_5 l0_5.length c0_5, .slice A0_6 l0_6.length c0_6] 35 (0, 0)) (by (with_reducible repeat (first | refine blk_drewN ?_ _ | refine blk_drew ?_ | refine blk_alloc ?_ _)); exact BK329.out) hg (Kd.R_ne HO335.out BK329.out (by decide)))
                    have n1_ := Aside0.mk (hb)
                    have n2_ := Aside0.mk (ho)
                    clear BK329
                    clear HB
                    clear HO335
                    have BK329 := n0_
                    have HB := n1_
                    have HO342 := n2_
                    clear n0_ n1_ n2_
                    clear ho hb hg hat
                    refine hK.out _ _ trivial (fun hHeld => ?_)
                    clear hK K
                    refine norm_ (a' := ?_) ?_ ?_
                    rotate_left
                    · show Act.put _ (some 38) _ = _
                      simp only [Act.put, List.setIfInBounds_toArray, List.set_cons_zero, List.set_cons_succ, i64_w, i32_w]
                      rfl
                    refine one_ (i := 8) (N := some 42) #[true, true, true, true, true, true, true, true, true, false] rfl rfl (one_of HT_.out (by kernel_rfl)) (by decide) (fun K hK => ?_)
                    refine Kd.R_append_rows_step k42 (w0 := w) w.heap.size (by rfl) (.tmp 38) (.tmp 41) 22 42 (.agg #[(.int .i64 0), (.int .i64 0), (.int .i64 0), (.int .i64 0), (.int .i64 0), (.int .i64 0)]) 48 rfl Try.underlying22 info42 rfl (by decide) (by omega) v341 y340 y343 _ _ _ (fun _ => True) (fun _ => False) rfl rfl ?aO ?aR (fun _ _ h => h) (fun _ h => h.elim) ?aF ?aB ?aS ?aL ?_
                    (case aR => repeat (first | exact (Kd.C_below HR346.out HB.out) | (with_reducible refine Kd.C_alloc ?_ _) | (with_reducible refine Kd.C_drewN ?_ _) | (with_reducible refine Kd.C_drew ?_)))
                    (case aB => exact (by repeat (first | (with_reducible first | exact HB.out | apply below_alloc | apply pw_below_drewN | apply below_drew1 | refine below_set ?_ GE329.out) | exact HB.out)))
                    (case aF => exact (fun _ _ => trivial))
                    (case aO => exact (by (with_reducible repeat (first | apply Kd.R_alloc | apply Kd.R_drewN | apply Kd.R_drew)); exact HO342.out))
                    (case aS => exact (below_size (by repeat (first | (with_reducible first | exact HB.out | apply below_alloc | apply pw_below_drewN | apply below_drew1 | refine below_set ?_ GE329.out) | exact HB.out))))
                    (case aL => have := LMc31.out; omega)
                    intro v348 w52 ho hb hg hat
                    rw [← Ny347.out] at ho
                    have n0_ := Aside0.mk (blk_grown (g := gb329) (o := .cells #[.int .i64 a0_0, .int .i64 a0_1, .int .i64 a0_2, .int .i64 a0_3, .slice A0_4 l0_4.length c0_4, .slice A0_5 l0_5.length c0_5, .slice A0_6 l0_6.length c0_6] 35 (0, 0)) (by (with_reducible repeat (first | refine blk_drewN ?_ _ | refine blk_drew ?_ | refine blk_alloc ?_ _)); exact BK329.out) hg (Kd.R_ne HO342.out BK329.out (by decide)))
                    have n1_ := Aside0.mk (hb)
                    have n2_ := Aside0.mk (ho)
                    clear BK329
                    clear HB
                    clear HO342
                    have BK329 := n0_
                    have HB := n1_
                    have HO349 := n2_
                    clear n0_ n1_ n2_
                    clear ho hb hg hat
                    refine hK.out _ _ trivial (fun hHeld => ?_)
                    clear hK K
                    refine norm_ (a' := ?_) ?_ ?_
                    rotate_left
                    · show Act.put _ (some 42) _ = _
                      simp only [Act.put, List.setIfInBounds_toArray, List.set_cons_zero, List.set_cons_succ, i64_w, i32_w]
                      rfl
                    refine pure_ (i := 9) (N := some 8) (v := ?_) (a' := ?_) #[true, true, true, true, true, true, true, true, true, true] rfl rfl (any_of HT_.out (by kernel_rfl)) (fun _ _ _ h => h) (Or.inl ⟨by rfl, ?_⟩) ?_ ?_
                    rotate_left
                    · intro w'
                      go_simp
                      with_reducible rfl
                    rotate_left
                    · simp only [Act.put, List.setIfInBounds_toArray, List.set_cons_zero, List.set_cons_succ, i64_w, i32_w]
                      rfl
                    refine done_ (done_of HT_.out (by kernel_rfl)) ?_
                    have hcz53_0 : w52.cell? ⟨gb329, 0, none⟩ = some (.int .i64 a0_0) := (blk_cell BK329.out 0).trans rfl
                    have hcz53_1 : w52.cell? ⟨gb329, 1, none⟩ = some (.int .i64 a0_1) := (blk_cell BK329.out 1).trans rfl
                    have hcz53_2 : w52.cell? ⟨gb329, 2, none⟩ = some (.int .i64 a0_2) := (blk_cell BK329.out 2).trans rfl
                    have hcz53_3 : w52.cell? ⟨gb329, 3, none⟩ = some (.int .i64 a0_3) := (blk_cell BK329.out 3).trans rfl
                    have hcz53_4 : w52.cell? ⟨gb329, 4, none⟩ = some (.slice A0_4 l0_4.length c0_4) := (blk_cell BK329.out 4).trans rfl
                    have hcz53_5 : w52.cell? ⟨gb329, 5, none⟩ = some (.slice A0_5 l0_5.length c0_5) := (blk_cell BK329.out 5).trans rfl
                    have hcz53_6 : w52.cell? ⟨gb329, 6, none⟩ = some (.slice A0_6 l0_6.length c0_6) := (blk_cell BK329.out 6).trans rfl
                    have hfz53_0 := blk_frozen BK329.out 0
                    have hfz53_1 := blk_frozen BK329.out 1
                    have hfz53_2 := blk_frozen BK329.out 2
                    have hfz53_3 := blk_frozen BK329.out 3
                    have hfz53_4 := blk_frozen BK329.out 4
                    have hfz53_5 := blk_frozen BK329.out 5
                    have hfz53_6 := blk_frozen BK329.out 6
                    obtain ⟨Ao54, co54, eo54⟩ := Kd.R_slice HO349.out
                    subst eo54
                    try go_wp2_with (first | ((with_reducible refine gate_callee (f := 14) rfl ?_); refine goesL_ (some 45) rfl rfl Try.func14 (by kernel_rfl) rfl #[.agg #[.int .i64 a0_0, .int .i64 a0_1, .int .i64 a0_2, .int .i64 a0_3, .slice A0_4 l0_4.length c0_4, .slice A0_5 l0_5.length c0_5, .slice A0_6 l0_6.length c0_6], .slice Ao54 y347.length co54] rfl (by (try simp only [List.map_toArray, List.map_cons, List.map_nil]); first | done | rfl | (simp only [List.length_drop, List.length_take]; rfl)) ?_; (with_reducible refine (bundle_Check.calls kj3 a0_0 a0_1 a0_2 a0_3 _ _ l0_4 _ _ l0_5 _ _ l0_6 _ _ y347 t350 _ ?side1 ?side2 ?side3 ?side4 ?side5 ?side6 ?side7 ?side8 A32.out).mono ?_); (case side1 => repeat (first | exact (Kd.C_below HR0_4.out HB.out) | (with_reducible refine Kd.C_alloc ?_ _) | (with_reducible refine Kd.C_drewN ?_ _) | (with_reducible refine Kd.C_drew ?_))); (case side2 => exact HC0_4.out); (case side3 => repeat (first | exact (Kd.C_below HR0_5.out HB.out) | (with_reducible refine Kd.C_alloc ?_ _) | (with_reducible refine Kd.C_drewN ?_ _) | (with_reducible refine Kd.C_drew ?_))); (case side4 => exact HC0_5.out); (case side5 => repeat (first | exact (Kd.C_below HR0_6.out HB.out) | (with_reducible refine Kd.C_alloc ?_ _) | (with_reducible refine Kd.C_drewN ?_ _) | (with_reducible refine Kd.C_drew ?_))); (case side6 => exact HC0_6.out); (case side7 => repeat (first | exact (Kd.R_reads' HO349.out).2.2 | (with_reducible refine Kd.C_alloc ?_ _) | (with_reducible refine Kd.C_drewN ?_ _) | (with_reducible refine Kd.C_drew ?_))); (case side8 => exact (Kd.R_reads' HO349.out).2.1); rintro e w55 ⟨rfl, hb⟩; refine ⟨_, rfl, ?_⟩; have n0_ := Aside0.mk (Kd.R_below (by (with_reducible repeat (first | apply Kd.R_alloc | apply Kd.R_drewN | apply Kd.R_drew)); exact HO349.out) hb); have n1_ := Aside0.mk (blk_below (g := gb329) (o := .cells #[.int .i64 a0_0, .int .i64 a0_1, .int .i64 a0_2, .int .i64 a0_3, .slice A0_4 l0_4.length c0_4, .slice A0_5 l0_5.length c0_5, .slice A0_6 l0_6.length c0_6] 35 (0, 0)) (by (with_reducible repeat (first | refine blk_drewN ?_ _ | refine blk_drew ?_ | refine blk_alloc ?_ _)); exact BK329.out) hb); have n2_ := Aside0.mk (below_step (by repeat (first | (with_reducible first | exact HB.out | apply below_alloc | apply pw_below_drewN | apply below_drew1 | refine below_set ?_ GE329.out) | exact HB.out)) hb); clear HO349; clear BK329; clear HB; have HO349 := n0_; have BK329 := n1_; have HB := n2_; clear n0_ n1_ n2_; (try clear hb); (try clear hb2); (try clear hk); (try clear hi)))
                    go_ret
                    exact ⟨by first | rfl | (simp [errW_none, errW_some] <;> rfl) | (simp only [← hji25]; first | rfl | (simp [errW_none, errW_some] <;> rfl)) | (simp [*, errW_none, errW_some] <;> rfl), by repeat (first | (with_reducible first | exact HB.out | apply below_alloc | apply pw_below_drewN | apply below_drew1 | refine below_set ?_ GE329.out) | exact HB.out)⟩
                · rw [if_neg c31] at H
                  exact absurd H (by simp)
              · rw [if_neg c28] at H
                exact absurd H (by simp)
            · rw [if_neg c27] at H
              exact absurd H (by simp)
          · rw [if_neg c26] at H
            exact absurd H (by simp)

end Go.Proofs.Ytoekbmgcfinfmab.Bu
