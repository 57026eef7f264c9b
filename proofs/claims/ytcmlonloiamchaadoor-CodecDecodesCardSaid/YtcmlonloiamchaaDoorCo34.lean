-- PRINTED by print.py (a twelfth state) out of the translation. Not trusted: Lean checks it.
import Derived.Test.YtcmlonloiamchaaDoorCo0
namespace Go.Proofs.YtcmlonloiamchaaDoor.Co
open Go.RowKit Go.Proofs.YtcmlonloiamchaaDoorW.PrintWords Go.Proofs.YtcmlonloiamchaaDoorW.PrintLast Go.Proofs.YtcmlonloiamchaaDoorW.PrintMore
attribute [local go_sem] max2_int min2_int max_two min_two max_three min_three max_four min_four   -- for this text's walks alone
set_option linter.unusedVariables false
set_option linter.unusedSimpArgs false

/-! ### garmentref06_text: function 32 -/
mutual
def garmentref06_text.l0 : Nat → ByteArray → Int → Int → Int → Option (Bool × ByteArray × (List (S25)) × Int × Int)
  | 0, _, _, _, _ => none
  | k + 1, x0, x1, x7, x8 => if x8 < (x0.size : Int) then (if 0 ≤ x8 then (if (bt x0 x8) ≥ 48 then (garmentref06_text.j1 k x0 x1 x7 x8 (decide ((bt x0 x8) ≤ 57))) else (garmentref06_text.j1 k x0 x1 x7 x8 false)) else (none)) else (garmentref06_text.j1 k x0 x1 x7 x8 false)
def garmentref06_text.j1 : Nat → ByteArray → Int → Int → Int → Bool → Option (Bool × ByteArray × (List (S25)) × Int × Int)
  | 0, _, _, _, _, _ => none
  | k + 1, x0, x1, x7, x8, x25 => if x25 = true then (if x8 = (wrap64 (x1 + 1)) then (if 0 ≤ x1 then (if x1 < (x0.size : Int) then (garmentref06_text.j2 k x0 x1 x7 x8 ((bt x0 x1) == 48)) else (none)) else (none)) else (garmentref06_text.j2 k x0 x1 x7 x8 false)) else (if x8 = (x0.size : Int) then (some (false, (⟨#[]⟩ : ByteArray), ([] : List (S25)), 0, 4)) else (if 0 ≤ x8 then (if x8 < (x0.size : Int) then (if (bt x0 x8) = 58 then (if (wrap64 ((wrap64 ((x0.size : Int) - x8)) - 1)) < x7 then (some (false, (⟨#[]⟩ : ByteArray), ([] : List (S25)), 0, 4)) else (if 0 ≤ (wrap64 (x8 + 1)) then (if (wrap64 (x8 + 1)) ≤ (wrap64 ((wrap64 (x8 + 1)) + x7)) then (if (wrap64 ((wrap64 (x8 + 1)) + x7)) ≤ (x0.size : Int) then (some (false, x0.extract ((wrap64 (x8 + 1)) : Int).toNat ((wrap64 ((wrap64 (x8 + 1)) + x7)) : Int).toNat, ([] : List (S25)), wrap64 ((wrap64 (x8 + 1)) + x7), 0)) else (none)) else (none)) else (none))) else (some (false, (⟨#[]⟩ : ByteArray), ([] : List (S25)), 0, 2))) else (none)) else (none)))
def garmentref06_text.j2 : Nat → ByteArray → Int → Int → Int → Bool → Option (Bool × ByteArray × (List (S25)) × Int × Int)
  | 0, _, _, _, _, _ => none
  | k + 1, x0, x1, x7, x8, x35 => if x35 = true then (some (false, (⟨#[]⟩ : ByteArray), ([] : List (S25)), 0, 2)) else (if 0 ≤ x8 then (if x8 < (x0.size : Int) then (if (wrap64 ((wrap64 (10 * x7)) + (((bt x0 x8) - 48) % 256))) > 20000 then (some (false, (⟨#[]⟩ : ByteArray), ([] : List (S25)), 0, 5)) else (garmentref06_text.l0 k x0 x1 (wrap64 ((wrap64 (10 * x7)) + (((bt x0 x8) - 48) % 256))) (wrap64 (x8 + 1)))) else (none)) else (none))
end
def garmentref06_text.f (k : Nat) (a0 : ByteArray) (a1 : Int) : Option (Bool × ByteArray × (List (S25)) × Int × Int) := garmentref06_text.l0 k a0 a1 0 a1
theorem garmentref06_text.mono_l : ∀ k, (∀ y0 y1 y2 y3, LeO (garmentref06_text.l0 k y0 y1 y2 y3) (garmentref06_text.l0 (k + 1) y0 y1 y2 y3)) ∧ (∀ y0 y1 y2 y3 y4, LeO (garmentref06_text.j1 k y0 y1 y2 y3 y4) (garmentref06_text.j1 (k + 1) y0 y1 y2 y3 y4)) ∧ (∀ y0 y1 y2 y3 y4, LeO (garmentref06_text.j2 k y0 y1 y2 y3 y4) (garmentref06_text.j2 (k + 1) y0 y1 y2 y3 y4))
  | 0 => ⟨fun _ _ _ _ r h => by simp [garmentref06_text.l0] at h, fun _ _ _ _ _ r h => by simp [garmentref06_text.j1] at h, fun _ _ _ _ _ r h => by simp [garmentref06_text.j2] at h⟩
  | k + 1 => by
    obtain ⟨ih0, ih1, ih2⟩ := garmentref06_text.mono_l k
    refine ⟨?_, ?_, ?_⟩
    · intro y0 y1 y2 y3
      unfold garmentref06_text.l0
      repeat' first
      | (with_reducible exact ih0 _ _ _ _)
      | (with_reducible exact ih1 _ _ _ _ _)
      | (with_reducible exact ih2 _ _ _ _ _)
      | (with_reducible exact LeO.refl _)
      | (with_reducible exact LeO.none _)
      | (with_reducible refine LeO.ite ?_ ?_)
      | (with_reducible refine LeO.bind ?_ (fun _ => ?_))
      | exact ih0 _ _ _ _
      | exact ih1 _ _ _ _ _
      | exact ih2 _ _ _ _ _
      | exact LeO.none _
      | refine LeO.ite ?_ ?_
      | refine LeO.bind ?_ (fun _ => ?_)
    · intro y0 y1 y2 y3 y4
      unfold garmentref06_text.j1
      repeat' first
      | (with_reducible exact ih0 _ _ _ _)
      | (with_reducible exact ih1 _ _ _ _ _)
      | (with_reducible exact ih2 _ _ _ _ _)
      | (with_reducible exact LeO.refl _)
      | (with_reducible exact LeO.none _)
      | (with_reducible refine LeO.ite ?_ ?_)
      | (with_reducible refine LeO.bind ?_ (fun _ => ?_))
      | exact ih0 _ _ _ _
      | exact ih1 _ _ _ _ _
      | exact ih2 _ _ _ _ _
      | exact LeO.none _
      | refine LeO.ite ?_ ?_
      | refine LeO.bind ?_ (fun _ => ?_)
    · intro y0 y1 y2 y3 y4
      unfold garmentref06_text.j2
      repeat' first
      | (with_reducible exact ih0 _ _ _ _)
      | (with_reducible exact ih1 _ _ _ _ _)
      | (with_reducible exact ih2 _ _ _ _ _)
      | (with_reducible exact LeO.refl _)
      | (with_reducible exact LeO.none _)
      | (with_reducible refine LeO.ite ?_ ?_)
      | (with_reducible refine LeO.bind ?_ (fun _ => ?_))
      | exact ih0 _ _ _ _
      | exact ih1 _ _ _ _ _
      | exact ih2 _ _ _ _ _
      | exact LeO.none _
      | refine LeO.ite ?_ ?_
      | refine LeO.bind ?_ (fun _ => ?_)
theorem garmentref06_text.mono : ∀ a0 a1 k, LeO (garmentref06_text.f k a0 a1) (garmentref06_text.f (k + 1) a0 a1) := by
  intro a0 a1 k
  obtain ⟨ih0, ih1, ih2⟩ := garmentref06_text.mono_l k
  unfold garmentref06_text.f
  repeat' first
      | (with_reducible exact ih0 _ _ _ _)
      | (with_reducible exact ih1 _ _ _ _ _)
      | (with_reducible exact ih2 _ _ _ _ _)
      | (with_reducible exact LeO.refl _)
      | (with_reducible exact LeO.none _)
      | (with_reducible refine LeO.ite ?_ ?_)
      | (with_reducible refine LeO.bind ?_ (fun _ => ?_))
      | exact ih0 _ _ _ _
      | exact ih1 _ _ _ _ _
      | exact ih2 _ _ _ _ _
      | exact LeO.none _
      | refine LeO.ite ?_ ?_
      | refine LeO.bind ?_ (fun _ => ?_)
set_option maxHeartbeats 8000000 in
set_option maxRecDepth 100000 in
theorem garmentref06_text.calls (k : Nat) (a0 : ByteArray) (a1 : Int) (r1 : Bool) (r2 : ByteArray) (r3 : List (S25)) (r4 : Int) (r5 : Int) (w : World) (h : garmentref06_text.f k a0 a1 = some (r1, r2, r3, r4, r5)) :
    Calls Tryd.prog 32 #[.string a0, .int .i64 a1] w fun e w' => ∃ v2_ : Value, e = .returned (.tuple #[.agg #[.bool r1, .string r2, v2_], .int .i64 r4, .int .i64 r5]) ∧ Kd.R k25 25 w' w.heap.size (fun _ => True) v2_ r3 ∧ Below w.heap.size w w' := by
  have hu25 := Tryd.underlying25
  have HB := Aside0.mk (Below.refl w.heap.size w)
  have H : (garmentref06_text.l0 k a0 a1 0 a1) = some (r1, r2, r3, r4, r5) := h
  clear h
  have H' := Aside0.mk H
  clear H
  go_enter Tryd.func32, Tryd.ntmps32
  go_wp2_with (first | ((with_reducible refine gate_dst (N := 4) rfl ?_); refine box_event ?hg (N := 4) ?hd (cs := #[.bool false, .string (⟨#[]⟩ : ByteArray), .slice none 0 0]) (t := 25) ?hr ?_; (case hd => rfl); (case hg => rfl); (case hr => first | (go_simp; done) | (go_simp; rfl)); intro gb149 hg w3 hbox hb; have n0_ := Aside0.mk (below_step (by repeat (first | (with_reducible first | exact HB.out | apply below_alloc | apply pw_below_drewN | apply below_drew1) | exact HB.out)) hb); have n1_ := Aside0.mk (hbox); have n2_ := Aside0.mk ((by rw [hg]; exact (below_size (by repeat (first | (with_reducible first | exact HB.out | apply below_alloc | apply pw_below_drewN | apply below_drew1) | exact HB.out))) : w.heap.size ≤ gb149)); have n3_ := Aside0.mk ((by rw [hg]; exact (below_size (by repeat (first | (with_reducible first | exact HB.out | apply below_alloc | apply pw_below_drewN | apply below_drew1) | exact HB.out))) : w.heap.size ≤ gb149)); clear HB; have HB := n0_; have BK149 := n1_; have GW149 := n2_; have GE149 := n3_; clear n0_ n1_ n2_ n3_; clear hb hbox hg))
  go_loopg [7, 8] k (fun kq v7 v8 w' => ∃ (x7_1 : Int) (x8_1 : Int) (x150000_1 : Bool) (x150001_1 : ByteArray), v7 = .int .i64 x7_1 ∧ v8 = .int .i64 x8_1 ∧ Aside0 (garmentref06_text.l0 kq a0 a1 x7_1 x8_1 = some (r1, r2, r3, r4, r5)) ∧ Aside0 (kq ≤ k) ∧ Aside0 (w'.heap[gb149]? = some (.cells #[.bool x150000_1, .string x150001_1, (.slice none 0 0)] 25 (0, 0))) ∧ Aside0 (Below w.heap.size w w'))
  case atStart => exact ⟨(0), (a1), (false), ((⟨#[]⟩ : ByteArray)), (by first | rfl | (simp; done) | (simp [*]; done)), (by first | rfl | (simp; done) | (simp [*]; done)), H', ⟨Nat.le_refl _⟩, ⟨by (with_reducible repeat (first | refine blk_drewN ?_ _ | refine blk_drew ?_ | refine blk_alloc ?_ _)); exact BK149.out⟩, ⟨by repeat (first | (with_reducible first | exact HB.out | apply below_alloc | apply pw_below_drewN | apply below_drew1 | refine below_set ?_ GE149.out) | exact HB.out)⟩⟩
  case round =>
    clear H'
    try clear p2
    try clear c3
    obtain ⟨x7_1, x8_1, x150000_1, x150001_1, rfl, rfl, HA, HK1, BK149, HB⟩ := hrel
    cases gk with
    | zero => exact absurd HA.out (by simp [garmentref06_text.l0])
    | succ k1 =>
      have H := HA.out
      clear HA
      simp only [garmentref06_text.l0] at H
      have HC4 := Aside0.mk H
      clear H
      go_upto_region 2 with (fail)
      go_cut [25] (fun v25 wc => ∃ (kq : Nat) (x25_3 : Bool), v25 = .bool x25_3 ∧ Aside0 (garmentref06_text.j1 kq a0 a1 x7_1 x8_1 x25_3 = some (r1, r2, r3, r4, r5)) ∧ Aside0 (kq ≤ k1) ∧ Aside0 (wc.heap[gb149]? = some (.cells #[.bool x150000_1, .string x150001_1, (.slice none 0 0)] 25 (0, 0))) ∧ Aside0 (Below w.heap.size w wc))
      case first =>
        have H := HC4.out
        clear HC4
        by_cases c5 : x8_1 < (a0.size : Int)
        · rw [if_pos c5] at H
          have c5b0 : decide (x8_1 < (a0.size : Int)) = true := decide_eq_true c5
          clear c5
          (first | rw [c5b0] | (simp only [i64_w, i32_w]; rw [c5b0]) | skip)
          by_cases c6 : 0 ≤ x8_1
          · rw [if_pos c6] at H
            have c6b0 : decide (0 ≤ x8_1) = true := decide_eq_true c6
            clear c6
            by_cases c8 : (bt a0 x8_1) ≥ 48
            · rw [if_pos c8] at H
              have c8b0 : decide (48 ≤ (bt a0 x8_1)) = true := decide_eq_true c8
              clear c8
              have H' := Aside0.mk H
              clear H
              have p7 : 0 ≤ (x8_1 : Int) := of_decide_eq_true (by first | (with_reducible assumption) | assumption)
              have q7 : x8_1 < (a0.size : Int) := of_decide_eq_true (by first | (with_reducible assumption) | assumption)
              have hx7 := bt_at a0 x8_1
              replace p7 := eq_true p7
              replace q7 := eq_true q7
              have p9 : 0 ≤ (x8_1 : Int) := of_decide_eq_true (by first | (with_reducible assumption) | assumption)
              have q9 : x8_1 < (a0.size : Int) := of_decide_eq_true (by first | (with_reducible assumption) | assumption)
              have hx9 := bt_at a0 x8_1
              replace p9 := eq_true p9
              replace q9 := eq_true q9
              go_wp2
              go_meet
              case rel => exact ⟨_, (decide ((bt a0 x8_1) ≤ 57)), (by first | rfl | (simp; done) | (simp [*]; done)), H', ⟨by have := HK1.out; first | omega | exact Nat.le_refl _⟩, ⟨by (with_reducible repeat (first | refine blk_drewN ?_ _ | refine blk_drew ?_ | refine blk_alloc ?_ _)); exact BK149.out⟩, ⟨by repeat (first | (with_reducible first | exact HB.out | apply below_alloc | apply pw_below_drewN | apply below_drew1 | refine below_set ?_ GE149.out) | exact HB.out)⟩⟩
            · rw [if_neg c8] at H
              have c8b0 : decide (48 ≤ (bt a0 x8_1)) = false := decide_eq_false c8
              clear c8
              have H' := Aside0.mk H
              clear H
              have p7 : 0 ≤ (x8_1 : Int) := of_decide_eq_true (by first | (with_reducible assumption) | assumption)
              have q7 : x8_1 < (a0.size : Int) := of_decide_eq_true (by first | (with_reducible assumption) | assumption)
              have hx7 := bt_at a0 x8_1
              replace p7 := eq_true p7
              replace q7 := eq_true q7
              go_wp2
              go_meet
              case rel => exact ⟨_, (false), (by first | rfl | (simp; done) | (simp [*]; done)), H', ⟨by have := HK1.out; first | omega | exact Nat.le_refl _⟩, ⟨by (with_reducible repeat (first | refine blk_drewN ?_ _ | refine blk_drew ?_ | refine blk_alloc ?_ _)); exact BK149.out⟩, ⟨by repeat (first | (with_reducible first | exact HB.out | apply below_alloc | apply pw_below_drewN | apply below_drew1 | refine below_set ?_ GE149.out) | exact HB.out)⟩⟩
          · rw [if_neg c6] at H
            exact absurd H (by simp)
        · rw [if_neg c5] at H
          have c5b0 : decide (x8_1 < (a0.size : Int)) = false := decide_eq_false c5
          clear c5
          (first | rw [c5b0] | (simp only [i64_w, i32_w]; rw [c5b0]) | skip)
          have H' := Aside0.mk H
          clear H
          go_wp2
          go_meet
          case rel => exact ⟨_, (false), (by first | rfl | (simp; done) | (simp [*]; done)), H', ⟨by have := HK1.out; first | omega | exact Nat.le_refl _⟩, ⟨by (with_reducible repeat (first | refine blk_drewN ?_ _ | refine blk_drew ?_ | refine blk_alloc ?_ _)); exact BK149.out⟩, ⟨by repeat (first | (with_reducible first | exact HB.out | apply below_alloc | apply pw_below_drewN | apply below_drew1 | refine below_set ?_ GE149.out) | exact HB.out)⟩⟩
      case rest =>
        clear HC4
        try clear p2
        try clear c3
        try clear c5
        try clear c5b0
        try clear c6
        try clear c6b0
        try clear p7
        try clear q7
        try clear hx7
        try clear c8
        try clear c8b0
        try clear p9
        try clear q9
        try clear hx9
        try clear p2
        try clear p7
        try clear p9
        try clear q7
        try clear q9
        obtain ⟨kq, x25_3, rfl, HA, HJ3, BK149, HB⟩ := hcut
        cases kq with
        | zero => exact absurd HA.out (by simp [garmentref06_text.j1])
        | succ kj3 =>
          have H := HA.out
          clear HA
          simp only [garmentref06_text.j1] at H
          by_cases c10 : x25_3 = true
          · subst c10
            have H1 : (if x8_1 = (wrap64 (a1 + 1)) then (if 0 ≤ a1 then (if a1 < (a0.size : Int) then (garmentref06_text.j2 kj3 a0 a1 x7_1 x8_1 ((bt a0 a1) == 48)) else (none)) else (none)) else (garmentref06_text.j2 kj3 a0 a1 x7_1 x8_1 false)) = some (r1, r2, r3, r4, r5) := by rw [if_pos rfl] at H; exact H
            clear H
            have H := H1
            clear H1
            have HC11 := Aside0.mk H
            clear H
            go_upto_region 3 with (fail)
            go_cut [35] (fun v35 wc => ∃ (kq : Nat) (x35_10 : Bool), v35 = .bool x35_10 ∧ Aside0 (garmentref06_text.j2 kq a0 a1 x7_1 x8_1 x35_10 = some (r1, r2, r3, r4, r5)) ∧ Aside0 (kq ≤ kj3) ∧ Aside0 (wc.heap[gb149]? = some (.cells #[.bool x150000_1, .string x150001_1, (.slice none 0 0)] 25 (0, 0))) ∧ Aside0 (Below w.heap.size w wc))
            case first =>
              have H := HC11.out
              clear HC11
              by_cases c12 : x8_1 = (wrap64 (a1 + 1))
              · rw [if_pos c12] at H
                have c12b0 : (x8_1 == (wrap64 (a1 + 1))) = true := beq_iff_eq.mpr c12
                have c12b1 : (x8_1 != (wrap64 (a1 + 1))) = false := bne_eq_false_iff_eq.mpr c12
                clear c12
                (first | rw [c12b0] | (simp only [i64_w, i32_w]; rw [c12b0]) | skip)
                by_cases c13 : 0 ≤ a1
                · rw [if_pos c13] at H
                  have c13b0 : decide (0 ≤ a1) = true := decide_eq_true c13
                  clear c13
                  by_cases c14 : a1 < (a0.size : Int)
                  · rw [if_pos c14] at H
                    have c14b0 : decide (a1 < (a0.size : Int)) = true := decide_eq_true c14
                    clear c14
                    have H' := Aside0.mk H
                    clear H
                    have p15 : 0 ≤ (a1 : Int) := of_decide_eq_true (by first | (with_reducible assumption) | assumption)
                    have q15 : a1 < (a0.size : Int) := of_decide_eq_true (by first | (with_reducible assumption) | assumption)
                    have hx15 := bt_at a0 a1
                    replace p15 := eq_true p15
                    replace q15 := eq_true q15
                    go_wp2
                    go_meet
                    case rel => exact ⟨_, (((bt a0 a1) == 48)), (by first | rfl | (simp; done) | (simp [*]; done)), H', ⟨by have := HK1.out; have := HJ3.out; first | omega | exact Nat.le_refl _⟩, ⟨by (with_reducible repeat (first | refine blk_drewN ?_ _ | refine blk_drew ?_ | refine blk_alloc ?_ _)); exact BK149.out⟩, ⟨by repeat (first | (with_reducible first | exact HB.out | apply below_alloc | apply pw_below_drewN | apply below_drew1 | refine below_set ?_ GE149.out) | exact HB.out)⟩⟩
                  · rw [if_neg c14] at H
                    exact absurd H (by simp)
                · rw [if_neg c13] at H
                  exact absurd H (by simp)
              · rw [if_neg c12] at H
                have c12b0 : (x8_1 == (wrap64 (a1 + 1))) = false := beq_eq_false_iff_ne.mpr c12
                have c12b1 : (x8_1 != (wrap64 (a1 + 1))) = true := bne_iff_ne.mpr c12
                (first | rw [c12b0] | (simp only [i64_w, i32_w]; rw [c12b0]) | skip)
                have H' := Aside0.mk H
                clear H
                go_wp2
                go_meet
                case rel => exact ⟨_, (false), (by first | rfl | (simp; done) | (simp [*]; done)), H', ⟨by have := HK1.out; have := HJ3.out; first | omega | exact Nat.le_refl _⟩, ⟨by (with_reducible repeat (first | refine blk_drewN ?_ _ | refine blk_drew ?_ | refine blk_alloc ?_ _)); exact BK149.out⟩, ⟨by repeat (first | (with_reducible first | exact HB.out | apply below_alloc | apply pw_below_drewN | apply below_drew1 | refine below_set ?_ GE149.out) | exact HB.out)⟩⟩
            case rest =>
              clear HC11
              try clear c1
              try clear p1
              try clear q1
              try clear hx1
              try clear p2
              try clear c3
              try clear c5
              try clear c5b0
              try clear c6
              try clear c6b0
              try clear p6
              try clear p7
              try clear q7
              try clear hx7
              try clear c8
              try clear c8b0
              try clear p9
              try clear q9
              try clear hx9
              try clear c10
              try clear c12
              try clear c12b0
              try clear c12b1
              try clear c13
              try clear c13b0
              try clear c14
              try clear c14b0
              try clear p15
              try clear q15
              try clear hx15
              try clear p15
              try clear p2
              try clear p7
              try clear p9
              try clear q15
              try clear q7
              try clear q9
              obtain ⟨kq, x35_10, rfl, HA, HJ10, BK149, HB⟩ := hcut
              cases kq with
              | zero => exact absurd HA.out (by simp [garmentref06_text.j2])
              | succ kj10 =>
                have H := HA.out
                clear HA
                simp only [garmentref06_text.j2] at H
                by_cases c16 : x35_10 = true
                · subst c16
                  have H1 : (some (false, (⟨#[]⟩ : ByteArray), ([] : List (S25)), 0, 2)) = some (r1, r2, r3, r4, r5) := by rw [if_pos rfl] at H; exact H
                  clear H
                  have H := H1
                  clear H1
                  simp only [Option.some.injEq, Prod.mk.injEq] at H
                  obtain ⟨rfl, rfl, rfl, rfl, rfl⟩ := H
                  have hcz17_0 : wc.cell? ⟨gb149, 0, none⟩ = some (.bool x150000_1) := (blk_cell BK149.out 0).trans rfl
                  have hcz17_1 : wc.cell? ⟨gb149, 1, none⟩ = some (.string x150001_1) := (blk_cell BK149.out 1).trans rfl
                  have hcz17_2 : wc.cell? ⟨gb149, 2, none⟩ = some (.slice none 0 0) := (blk_cell BK149.out 2).trans rfl
                  have hfz17_0 := blk_frozen BK149.out 0
                  have hfz17_1 := blk_frozen BK149.out 1
                  have hfz17_2 := blk_frozen BK149.out 2
                  go_wp2
                  refine bodyPost_ret (results_ctt rfl _ _ gb149 25 #[.bool false, .string (⟨#[]⟩ : ByteArray), .slice none 0 0] (0, 0) _ rfl (by (with_reducible repeat (first | refine blk_drewN ?_ _ | refine blk_drew ?_ | refine blk_alloc ?_ _)); refine blk_put (cs := #[.bool false, .string (⟨#[]⟩ : ByteArray), .slice none 0 0]) ?_ 2 _ rfl; (with_reducible repeat (first | refine blk_drewN ?_ _ | refine blk_drew ?_ | refine blk_alloc ?_ _)); refine blk_put (cs := #[.bool false, .string x150001_1, .slice none 0 0]) ?_ 1 _ rfl; (with_reducible repeat (first | refine blk_drewN ?_ _ | refine blk_drew ?_ | refine blk_alloc ?_ _)); refine blk_put (cs := #[.bool x150000_1, .string x150001_1, .slice none 0 0]) ?_ 0 _ rfl; (with_reducible repeat (first | refine blk_drewN ?_ _ | refine blk_drew ?_ | refine blk_alloc ?_ _)); exact BK149.out) Tryd.underlying25 rfl (by kernel_rfl)) rfl ?_
                  exact ⟨_, by first | rfl | (simp [errW_none, errW_some] <;> rfl) | (simp [*, errW_none, errW_some] <;> rfl), by first | exact Kd.R_nil _ _ _ _ _ | exact Kd.N_nil _ _ _ _ _ | exact Kd.V_nil _ _ _ _ _ | exact Kd.Q_nil _ _ _ _ _ | exact Kd.S_nil _ _ _ _ _, by repeat (first | (with_reducible first | exact HB.out | apply below_alloc | apply pw_below_drewN | apply below_drew1 | refine below_set ?_ GE149.out) | exact HB.out)⟩
                · replace c16 := Bool.eq_false_iff.mpr c16
                  subst c16
                  have H1 : (if 0 ≤ x8_1 then (if x8_1 < (a0.size : Int) then (if (wrap64 ((wrap64 (10 * x7_1)) + (((bt a0 x8_1) - 48) % 256))) > 20000 then (some (false, (⟨#[]⟩ : ByteArray), ([] : List (S25)), 0, 5)) else (garmentref06_text.l0 kj10 a0 a1 (wrap64 ((wrap64 (10 * x7_1)) + (((bt a0 x8_1) - 48) % 256))) (wrap64 (x8_1 + 1)))) else (none)) else (none)) = some (r1, r2, r3, r4, r5) := by rw [if_neg (show ¬ (false = true) by decide)] at H; exact H
                  clear H
                  have H := H1
                  clear H1
                  by_cases c18 : 0 ≤ x8_1
                  · rw [if_pos c18] at H
                    have c18b0 : decide (0 ≤ x8_1) = true := decide_eq_true c18
                    clear c18
                    by_cases c19 : x8_1 < (a0.size : Int)
                    · rw [if_pos c19] at H
                      have c19b0 : decide (x8_1 < (a0.size : Int)) = true := decide_eq_true c19
                      clear c19
                      by_cases c21 : (wrap64 ((wrap64 (10 * x7_1)) + (((bt a0 x8_1) - 48) % 256))) > 20000
                      · rw [if_pos c21] at H
                        have c21b0 : decide (20000 < (wrap64 ((wrap64 (10 * x7_1)) + (((bt a0 x8_1) - 48) % 256)))) = true := decide_eq_true c21
                        clear c21
                        simp only [Option.some.injEq, Prod.mk.injEq] at H
                        obtain ⟨rfl, rfl, rfl, rfl, rfl⟩ := H
                        have p20 : 0 ≤ (x8_1 : Int) := of_decide_eq_true (by first | (with_reducible assumption) | assumption)
                        have q20 : x8_1 < (a0.size : Int) := of_decide_eq_true (by first | (with_reducible assumption) | assumption)
                        have hx20 := bt_at a0 x8_1
                        replace p20 := eq_true p20
                        replace q20 := eq_true q20
                        have hcz22_0 : wc.cell? ⟨gb149, 0, none⟩ = some (.bool x150000_1) := (blk_cell BK149.out 0).trans rfl
                        have hcz22_1 : wc.cell? ⟨gb149, 1, none⟩ = some (.string x150001_1) := (blk_cell BK149.out 1).trans rfl
                        have hcz22_2 : wc.cell? ⟨gb149, 2, none⟩ = some (.slice none 0 0) := (blk_cell BK149.out 2).trans rfl
                        have hfz22_0 := blk_frozen BK149.out 0
                        have hfz22_1 := blk_frozen BK149.out 1
                        have hfz22_2 := blk_frozen BK149.out 2
                        go_wp2
                        refine bodyPost_ret (results_ctt rfl _ _ gb149 25 #[.bool false, .string (⟨#[]⟩ : ByteArray), .slice none 0 0] (0, 0) _ rfl (by (with_reducible repeat (first | refine blk_drewN ?_ _ | refine blk_drew ?_ | refine blk_alloc ?_ _)); refine blk_put (cs := #[.bool false, .string (⟨#[]⟩ : ByteArray), .slice none 0 0]) ?_ 2 _ rfl; (with_reducible repeat (first | refine blk_drewN ?_ _ | refine blk_drew ?_ | refine blk_alloc ?_ _)); refine blk_put (cs := #[.bool false, .string x150001_1, .slice none 0 0]) ?_ 1 _ rfl; (with_reducible repeat (first | refine blk_drewN ?_ _ | refine blk_drew ?_ | refine blk_alloc ?_ _)); refine blk_put (cs := #[.bool x150000_1, .string x150001_1, .slice none 0 0]) ?_ 0 _ rfl; (with_reducible repeat (first | refine blk_drewN ?_ _ | refine blk_drew ?_ | refine blk_alloc ?_ _)); exact BK149.out) Tryd.underlying25 rfl (by kernel_rfl)) rfl ?_
                        exact ⟨_, by first | rfl | (simp [errW_none, errW_some] <;> rfl) | (simp [*, errW_none, errW_some] <;> rfl), by first | exact Kd.R_nil _ _ _ _ _ | exact Kd.N_nil _ _ _ _ _ | exact Kd.V_nil _ _ _ _ _ | exact Kd.Q_nil _ _ _ _ _ | exact Kd.S_nil _ _ _ _ _, by repeat (first | (with_reducible first | exact HB.out | apply below_alloc | apply pw_below_drewN | apply below_drew1 | refine below_set ?_ GE149.out) | exact HB.out)⟩
                      · rw [if_neg c21] at H
                        have c21b0 : decide (20000 < (wrap64 ((wrap64 (10 * x7_1)) + (((bt a0 x8_1) - 48) % 256)))) = false := decide_eq_false c21
                        clear c21
                        have H' := Aside0.mk H
                        clear H
                        have p20 : 0 ≤ (x8_1 : Int) := of_decide_eq_true (by first | (with_reducible assumption) | assumption)
                        have q20 : x8_1 < (a0.size : Int) := of_decide_eq_true (by first | (with_reducible assumption) | assumption)
                        have hx20 := bt_at a0 x8_1
                        replace p20 := eq_true p20
                        replace q20 := eq_true q20
                        go_wp2
                        go_roundg kj10
                        case measure => have := HK1.out; have := HJ3.out; have := HJ10.out; omega
                        case rel => exact ⟨(wrap64 ((wrap64 (10 * x7_1)) + (((bt a0 x8_1) - 48) % 256))), (wrap64 (x8_1 + 1)), (x150000_1), (x150001_1), (by first | rfl | (simp; done) | (simp [*]; done)), (by first | rfl | (simp; done) | (simp [*]; done)), H', ⟨by have := HK1.out; have := HJ3.out; have := HJ10.out; omega⟩, ⟨by (with_reducible repeat (first | refine blk_drewN ?_ _ | refine blk_drew ?_ | refine blk_alloc ?_ _)); exact BK149.out⟩, ⟨by repeat (first | (with_reducible first | exact HB.out | apply below_alloc | apply pw_below_drewN | apply below_drew1 | refine below_set ?_ GE149.out) | exact HB.out)⟩⟩
                    · rw [if_neg c19] at H
                      exact absurd H (by simp)
                  · rw [if_neg c18] at H
                    exact absurd H (by simp)
          · replace c10 := Bool.eq_false_iff.mpr c10
            subst c10
            have H1 : (if x8_1 = (a0.size : Int) then (some (false, (⟨#[]⟩ : ByteArray), ([] : List (S25)), 0, 4)) else (if 0 ≤ x8_1 then (if x8_1 < (a0.size : Int) then (if (bt a0 x8_1) = 58 then (if (wrap64 ((wrap64 ((a0.size : Int) - x8_1)) - 1)) < x7_1 then (some (false, (⟨#[]⟩ : ByteArray), ([] : List (S25)), 0, 4)) else (if 0 ≤ (wrap64 (x8_1 + 1)) then (if (wrap64 (x8_1 + 1)) ≤ (wrap64 ((wrap64 (x8_1 + 1)) + x7_1)) then (if (wrap64 ((wrap64 (x8_1 + 1)) + x7_1)) ≤ (a0.size : Int) then (some (false, a0.extract ((wrap64 (x8_1 + 1)) : Int).toNat ((wrap64 ((wrap64 (x8_1 + 1)) + x7_1)) : Int).toNat, ([] : List (S25)), wrap64 ((wrap64 (x8_1 + 1)) + x7_1), 0)) else (none)) else (none)) else (none))) else (some (false, (⟨#[]⟩ : ByteArray), ([] : List (S25)), 0, 2))) else (none)) else (none))) = some (r1, r2, r3, r4, r5) := by rw [if_neg (show ¬ (false = true) by decide)] at H; exact H
            clear H
            have H := H1
            clear H1
            by_cases c23 : x8_1 = (a0.size : Int)
            · rw [if_pos c23] at H
              have c23b0 : (x8_1 == (a0.size : Int)) = true := beq_iff_eq.mpr c23
              have c23b1 : (x8_1 != (a0.size : Int)) = false := bne_eq_false_iff_eq.mpr c23
              clear c23
              simp only [Option.some.injEq, Prod.mk.injEq] at H
              obtain ⟨rfl, rfl, rfl, rfl, rfl⟩ := H
              have hcz24_0 : wc.cell? ⟨gb149, 0, none⟩ = some (.bool x150000_1) := (blk_cell BK149.out 0).trans rfl
              have hcz24_1 : wc.cell? ⟨gb149, 1, none⟩ = some (.string x150001_1) := (blk_cell BK149.out 1).trans rfl
              have hcz24_2 : wc.cell? ⟨gb149, 2, none⟩ = some (.slice none 0 0) := (blk_cell BK149.out 2).trans rfl
              have hfz24_0 := blk_frozen BK149.out 0
              have hfz24_1 := blk_frozen BK149.out 1
              have hfz24_2 := blk_frozen BK149.out 2
              go_wp2
              refine bodyPost_ret (results_ctt rfl _ _ gb149 25 #[.bool false, .string (⟨#[]⟩ : ByteArray), .slice none 0 0] (0, 0) _ rfl (by (with_reducible repeat (first | refine blk_drewN ?_ _ | refine blk_drew ?_ | refine blk_alloc ?_ _)); refine blk_put (cs := #[.bool false, .string (⟨#[]⟩ : ByteArray), .slice none 0 0]) ?_ 2 _ rfl; (with_reducible repeat (first | refine blk_drewN ?_ _ | refine blk_drew ?_ | refine blk_alloc ?_ _)); refine blk_put (cs := #[.bool false, .string x150001_1, .slice none 0 0]) ?_ 1 _ rfl; (with_reducible repeat (first | refine blk_drewN ?_ _ | refine blk_drew ?_ | refine blk_alloc ?_ _)); refine blk_put (cs := #[.bool x150000_1, .string x150001_1, .slice none 0 0]) ?_ 0 _ rfl; (with_reducible repeat (first | refine blk_drewN ?_ _ | refine blk_drew ?_ | refine blk_alloc ?_ _)); exact BK149.out) Tryd.underlying25 rfl (by kernel_rfl)) rfl ?_
              exact ⟨_, by first | rfl | (simp [errW_none, errW_some] <;> rfl) | (simp [*, errW_none, errW_some] <;> rfl), by first | exact Kd.R_nil _ _ _ _ _ | exact Kd.N_nil _ _ _ _ _ | exact Kd.V_nil _ _ _ _ _ | exact Kd.Q_nil _ _ _ _ _ | exact Kd.S_nil _ _ _ _ _, by repeat (first | (with_reducible first | exact HB.out | apply below_alloc | apply pw_below_drewN | apply below_drew1 | refine below_set ?_ GE149.out) | exact HB.out)⟩
            · rw [if_neg c23] at H
              have c23b0 : (x8_1 == (a0.size : Int)) = false := beq_eq_false_iff_ne.mpr c23
              have c23b1 : (x8_1 != (a0.size : Int)) = true := bne_iff_ne.mpr c23
              by_cases c25 : 0 ≤ x8_1
              · rw [if_pos c25] at H
                have c25b0 : decide (0 ≤ x8_1) = true := decide_eq_true c25
                clear c25
                by_cases c26 : x8_1 < (a0.size : Int)
                · rw [if_pos c26] at H
                  have c26b0 : decide (x8_1 < (a0.size : Int)) = true := decide_eq_true c26
                  clear c26
                  by_cases c28 : (bt a0 x8_1) = 58
                  · rw [if_pos c28] at H
                    have c28b0 : ((bt a0 x8_1) == 58) = true := beq_iff_eq.mpr c28
                    have c28b1 : ((bt a0 x8_1) != 58) = false := bne_eq_false_iff_eq.mpr c28
                    clear c28
                    by_cases c29 : (wrap64 ((wrap64 ((a0.size : Int) - x8_1)) - 1)) < x7_1
                    · rw [if_pos c29] at H
                      have c29b0 : decide ((wrap64 ((wrap64 ((a0.size : Int) - x8_1)) - 1)) < x7_1) = true := decide_eq_true c29
                      clear c29
                      simp only [Option.some.injEq, Prod.mk.injEq] at H
                      obtain ⟨rfl, rfl, rfl, rfl, rfl⟩ := H
                      have p27 : 0 ≤ (x8_1 : Int) := of_decide_eq_true (by first | (with_reducible assumption) | assumption)
                      have q27 : x8_1 < (a0.size : Int) := of_decide_eq_true (by first | (with_reducible assumption) | assumption)
                      have hx27 := bt_at a0 x8_1
                      replace p27 := eq_true p27
                      replace q27 := eq_true q27
                      have hcz30_0 : wc.cell? ⟨gb149, 0, none⟩ = some (.bool x150000_1) := (blk_cell BK149.out 0).trans rfl
                      have hcz30_1 : wc.cell? ⟨gb149, 1, none⟩ = some (.string x150001_1) := (blk_cell BK149.out 1).trans rfl
                      have hcz30_2 : wc.cell? ⟨gb149, 2, none⟩ = some (.slice none 0 0) := (blk_cell BK149.out 2).trans rfl
                      have hfz30_0 := blk_frozen BK149.out 0
                      have hfz30_1 := blk_frozen BK149.out 1
                      have hfz30_2 := blk_frozen BK149.out 2
                      go_wp2
                      refine bodyPost_ret (results_ctt rfl _ _ gb149 25 #[.bool false, .string (⟨#[]⟩ : ByteArray), .slice none 0 0] (0, 0) _ rfl (by (with_reducible repeat (first | refine blk_drewN ?_ _ | refine blk_drew ?_ | refine blk_alloc ?_ _)); refine blk_put (cs := #[.bool false, .string (⟨#[]⟩ : ByteArray), .slice none 0 0]) ?_ 2 _ rfl; (with_reducible repeat (first | refine blk_drewN ?_ _ | refine blk_drew ?_ | refine blk_alloc ?_ _)); refine blk_put (cs := #[.bool false, .string x150001_1, .slice none 0 0]) ?_ 1 _ rfl; (with_reducible repeat (first | refine blk_drewN ?_ _ | refine blk_drew ?_ | refine blk_alloc ?_ _)); refine blk_put (cs := #[.bool x150000_1, .string x150001_1, .slice none 0 0]) ?_ 0 _ rfl; (with_reducible repeat (first | refine blk_drewN ?_ _ | refine blk_drew ?_ | refine blk_alloc ?_ _)); exact BK149.out) Tryd.underlying25 rfl (by kernel_rfl)) rfl ?_
                      exact ⟨_, by first | rfl | (simp [errW_none, errW_some] <;> rfl) | (simp [*, errW_none, errW_some] <;> rfl), by first | exact Kd.R_nil _ _ _ _ _ | exact Kd.N_nil _ _ _ _ _ | exact Kd.V_nil _ _ _ _ _ | exact Kd.Q_nil _ _ _ _ _ | exact Kd.S_nil _ _ _ _ _, by repeat (first | (with_reducible first | exact HB.out | apply below_alloc | apply pw_below_drewN | apply below_drew1 | refine below_set ?_ GE149.out) | exact HB.out)⟩
                    · rw [if_neg c29] at H
                      have c29b0 : decide ((wrap64 ((wrap64 ((a0.size : Int) - x8_1)) - 1)) < x7_1) = false := decide_eq_false c29
                      clear c29
                      obtain ⟨ji31, hji31⟩ : ∃ j_ : Int, (wrap64 (x8_1 + 1)) = j_ := ⟨_, rfl⟩
                      replace H : (if 0 ≤ (ji31) then (if (ji31) ≤ (wrap64 ((ji31) + x7_1)) then (if (wrap64 ((ji31) + x7_1)) ≤ (a0.size : Int) then (some (false, a0.extract ((ji31) : Int).toNat ((wrap64 ((ji31) + x7_1)) : Int).toNat, ([] : List (S25)), wrap64 ((ji31) + x7_1), 0)) else (none)) else (none)) else (none)) = some (r1, r2, r3, r4, r5) := by first | (rw [hji31] at H; exact H) | (simp only [hji31] at H ⊢; exact H)
                      have hji31w : (IntKind.i64.wrap (x8_1 + 1)) = ji31 := (i64_w _).trans hji31
                      by_cases c32 : 0 ≤ (ji31)
                      · rw [if_pos c32] at H
                        have c32b0 := eq_true c32
                        have c32b1 : decide (0 ≤ (ji31)) = true := decide_eq_true c32
                        clear c32
                        by_cases c33 : (ji31) ≤ (wrap64 ((ji31) + x7_1))
                        · rw [if_pos c33] at H
                          have c33b0 := eq_true c33
                          have c33b1 : decide ((ji31) ≤ (wrap64 ((ji31) + x7_1))) = true := decide_eq_true c33
                          by_cases c34 : (wrap64 ((ji31) + x7_1)) ≤ (a0.size : Int)
                          · rw [if_pos c34] at H
                            have c34b0 := eq_true c34
                            have c34b1 : decide ((wrap64 ((ji31) + x7_1)) ≤ (a0.size : Int)) = true := decide_eq_true c34
                            simp only [Option.some.injEq, Prod.mk.injEq] at H
                            obtain ⟨rfl, rfl, rfl, rfl, rfl⟩ := H
                            have p27 : 0 ≤ (x8_1 : Int) := of_decide_eq_true (by first | (with_reducible assumption) | assumption)
                            have q27 : x8_1 < (a0.size : Int) := of_decide_eq_true (by first | (with_reducible assumption) | assumption)
                            have hx27 := bt_at a0 x8_1
                            replace p27 := eq_true p27
                            replace q27 := eq_true q27
                            have hcz35_0 : wc.cell? ⟨gb149, 0, none⟩ = some (.bool x150000_1) := (blk_cell BK149.out 0).trans rfl
                            have hcz35_1 : wc.cell? ⟨gb149, 1, none⟩ = some (.string x150001_1) := (blk_cell BK149.out 1).trans rfl
                            have hcz35_2 : wc.cell? ⟨gb149, 2, none⟩ = some (.slice none 0 0) := (blk_cell BK149.out 2).trans rfl
                            have hfz35_0 := blk_frozen BK149.out 0
                            have hfz35_1 := blk_frozen BK149.out 1
                            have hfz35_2 := blk_frozen BK149.out 2
                            go_wp2
                            refine bodyPost_ret (results_ctt rfl _ _ gb149 25 #[.bool false, .string (a0.extract ((ji31) : Int).toNat ((wrap64 ((ji31) + x7_1)) : Int).toNat), .slice none 0 0] (0, 0) _ rfl (by (with_reducible repeat (first | refine blk_drewN ?_ _ | refine blk_drew ?_ | refine blk_alloc ?_ _)); refine blk_put (cs := #[.bool false, .string (a0.extract ((ji31) : Int).toNat ((wrap64 ((ji31) + x7_1)) : Int).toNat), .slice none 0 0]) ?_ 2 _ rfl; (with_reducible repeat (first | refine blk_drewN ?_ _ | refine blk_drew ?_ | refine blk_alloc ?_ _)); refine blk_put (cs := #[.bool false, .string x150001_1, .slice none 0 0]) ?_ 1 _ rfl; (with_reducible repeat (first | refine blk_drewN ?_ _ | refine blk_drew ?_ | refine blk_alloc ?_ _)); refine blk_put (cs := #[.bool x150000_1, .string x150001_1, .slice none 0 0]) ?_ 0 _ rfl; (with_reducible repeat (first | refine blk_drewN ?_ _ | refine blk_drew ?_ | refine blk_alloc ?_ _)); exact BK149.out) Tryd.underlying25 rfl (by kernel_rfl)) rfl ?_
                            exact ⟨_, by first | rfl | (simp [errW_none, errW_some] <;> rfl) | (simp only [← hji31]; first | rfl | (simp [errW_none, errW_some] <;> rfl)) | (simp [*, errW_none, errW_some] <;> rfl), by first | exact Kd.R_nil _ _ _ _ _ | exact Kd.N_nil _ _ _ _ _ | exact Kd.V_nil _ _ _ _ _ | exact Kd.Q_nil _ _ _ _ _ | exact Kd.S_nil _ _ _ _ _, by repeat (first | (with_reducible first | exact HB.out | apply below_alloc | apply pw_below_drewN | apply below_drew1 | refine below_set ?_ GE149.out) | exact HB.out)⟩
                          · rw [if_neg c34] at H
                            exact absurd H (by simp)
                        · rw [if_neg c33] at H
                          exact absurd H (by simp)
                      · rw [if_neg c32] at H
                        exact absurd H (by simp)
                  · rw [if_neg c28] at H
                    have c28b0 : ((bt a0 x8_1) == 58) = false := beq_eq_false_iff_ne.mpr c28
                    have c28b1 : ((bt a0 x8_1) != 58) = true := bne_iff_ne.mpr c28
                    simp only [Option.some.injEq, Prod.mk.injEq] at H
                    obtain ⟨rfl, rfl, rfl, rfl, rfl⟩ := H
                    have p27 : 0 ≤ (x8_1 : Int) := of_decide_eq_true (by first | (with_reducible assumption) | assumption)
                    have q27 : x8_1 < (a0.size : Int) := of_decide_eq_true (by first | (with_reducible assumption) | assumption)
                    have hx27 := bt_at a0 x8_1
                    replace p27 := eq_true p27
                    replace q27 := eq_true q27
                    have hcz36_0 : wc.cell? ⟨gb149, 0, none⟩ = some (.bool x150000_1) := (blk_cell BK149.out 0).trans rfl
                    have hcz36_1 : wc.cell? ⟨gb149, 1, none⟩ = some (.string x150001_1) := (blk_cell BK149.out 1).trans rfl
                    have hcz36_2 : wc.cell? ⟨gb149, 2, none⟩ = some (.slice none 0 0) := (blk_cell BK149.out 2).trans rfl
                    have hfz36_0 := blk_frozen BK149.out 0
                    have hfz36_1 := blk_frozen BK149.out 1
                    have hfz36_2 := blk_frozen BK149.out 2
                    go_wp2
                    refine bodyPost_ret (results_ctt rfl _ _ gb149 25 #[.bool false, .string (⟨#[]⟩ : ByteArray), .slice none 0 0] (0, 0) _ rfl (by (with_reducible repeat (first | refine blk_drewN ?_ _ | refine blk_drew ?_ | refine blk_alloc ?_ _)); refine blk_put (cs := #[.bool false, .string (⟨#[]⟩ : ByteArray), .slice none 0 0]) ?_ 2 _ rfl; (with_reducible repeat (first | refine blk_drewN ?_ _ | refine blk_drew ?_ | refine blk_alloc ?_ _)); refine blk_put (cs := #[.bool false, .string x150001_1, .slice none 0 0]) ?_ 1 _ rfl; (with_reducible repeat (first | refine blk_drewN ?_ _ | refine blk_drew ?_ | refine blk_alloc ?_ _)); refine blk_put (cs := #[.bool x150000_1, .string x150001_1, .slice none 0 0]) ?_ 0 _ rfl; (with_reducible repeat (first | refine blk_drewN ?_ _ | refine blk_drew ?_ | refine blk_alloc ?_ _)); exact BK149.out) Tryd.underlying25 rfl (by kernel_rfl)) rfl ?_
                    exact ⟨_, by first | rfl | (simp [errW_none, errW_some] <;> rfl) | (simp [*, errW_none, errW_some] <;> rfl), by first | exact Kd.R_nil _ _ _ _ _ | exact Kd.N_nil _ _ _ _ _ | exact Kd.V_nil _ _ _ _ _ | exact Kd.Q_nil _ _ _ _ _ | exact Kd.S_nil _ _ _ _ _, by repeat (first | (with_reducible first | exact HB.out | apply below_alloc | apply pw_below_drewN | apply below_drew1 | refine below_set ?_ GE149.out) | exact HB.out)⟩
                · rw [if_neg c26] at H
                  exact absurd H (by simp)
              · rw [if_neg c25] at H
                exact absurd H (by simp)

end Go.Proofs.YtcmlonloiamchaaDoor.Co
