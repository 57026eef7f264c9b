-- PRINTED by print.py (a twelfth state) out of the translation. Not trusted: Lean checks it.
import Derived.Test.YtoekbmgcfinfmaaSh0
import Derived.Test.YtoekbmgcfinfmaaSh7
import Derived.Test.YtoekbmgcfinfmaaSh9
namespace Go.Proofs.Ytoekbmgcfinfmaa.Sh
open Go.RowKit Go.Proofs.YtoekbmgcfinfmaaW.PrintWords Go.Proofs.YtoekbmgcfinfmaaW.PrintLast Go.Proofs.YtoekbmgcfinfmaaW.PrintMore
attribute [local go_sem] max2_int min2_int max_two min_two max_three min_three max_four min_four   -- for this text's walks alone
set_option linter.unusedVariables false
set_option linter.unusedSimpArgs false

/-! ### garmentlaw29_ShadeWider: function 7 -/
mutual
def garmentlaw29_ShadeWider.j0 : Nat → List (S23) → Int → Int → Bool → Option (Bool)
  | 0, _, _, _, _ => none
  | k + 1, x0, x1, x2, x24 => if x24 = true then ((garmentlaw29_awake.f k).bind fun t265 => (some t265)) else ((shade_Lots.f k x0 x1).bind fun bt266 => ((shade_Lots.f k x0 x2).bind fun bt270 => (if bt266.2 = 0 then (if bt270.2 = 0 then (if (bt266.1.length : Int) = (x0.length : Int) then (garmentlaw29_ShadeWider.j1 k x0 x2 bt266.1 bt270.1 ((bt270.1.length : Int) != (x0.length : Int))) else (garmentlaw29_ShadeWider.j1 k x0 x2 bt266.1 bt270.1 true)) else (garmentlaw29_ShadeWider.j1 k x0 x2 bt266.1 bt270.1 true)) else (garmentlaw29_ShadeWider.j1 k x0 x2 bt266.1 bt270.1 true))))
def garmentlaw29_ShadeWider.j1 : Nat → List (S23) → Int → List Int → List Int → Bool → Option (Bool)
  | 0, _, _, _, _, _ => none
  | k + 1, x0, x2, x7, x9, x57 => if x57 = true then (some false) else (garmentlaw29_ShadeWider.l0 k x0 x2 x7 x9 0)
def garmentlaw29_ShadeWider.l0 : Nat → List (S23) → Int → List Int → List Int → Int → Option (Bool)
  | 0, _, _, _, _, _ => none
  | k + 1, x0, x2, x7, x9, x11 => if x11 < (x0.length : Int) then (garmentlaw29_ShadeWider.l1 k x0 x2 x7 x9 x11 0) else ((garmentlaw29_awake.f k).bind fun t274 => (some t274))
def garmentlaw29_ShadeWider.l1 : Nat → List (S23) → Int → List Int → List Int → Int → Int → Option (Bool)
  | 0, _, _, _, _, _, _ => none
  | k + 1, x0, x2, x7, x9, x11, x12 => if x12 < x11 then (if 0 ≤ x11 then (if x11 < (x7.length : Int) then (if 0 ≤ x12 then (if x12 < (x7.length : Int) then (if (rd x7 x11) = (rd x7 x12) then (if x11 < (x9.length : Int) then (if x12 < (x9.length : Int) then (if (rd x9 x11) = (rd x9 x12) then (if x2 ≥ 2000 then (garmentlaw29_ShadeWider.l1 k x0 x2 x7 x9 x11 (wrap64 (x12 + 1))) else (garmentlaw29_ShadeWider.l1 k x0 x2 x7 x9 x11 (wrap64 (x12 + 1)))) else (some false)) else (none)) else (none)) else (if x2 ≥ 2000 then (if x11 < (x9.length : Int) then (if x12 < (x9.length : Int) then (if (rd x9 x11) = (rd x9 x12) then (garmentlaw29_ShadeWider.l1 k x0 x2 x7 x9 x11 (wrap64 (x12 + 1))) else (some false)) else (none)) else (none)) else (garmentlaw29_ShadeWider.l1 k x0 x2 x7 x9 x11 (wrap64 (x12 + 1))))) else (none)) else (none)) else (none)) else (none)) else (garmentlaw29_ShadeWider.l0 k x0 x2 x7 x9 (wrap64 (x11 + 1)))
end
def garmentlaw29_ShadeWider.f (k : Nat) (l0 : List (S23)) (a1 : Int) (a2 : Int) : Option (Bool) := if (l0.length : Int) > 20 then (garmentlaw29_ShadeWider.j0 k l0 a1 a2 true) else (if a1 < 0 then (garmentlaw29_ShadeWider.j0 k l0 a1 a2 true) else (garmentlaw29_ShadeWider.j0 k l0 a1 a2 (decide (a2 < a1))))
theorem garmentlaw29_ShadeWider.mono_l : ∀ k, (∀ y0 y1 y2 y3, LeO (garmentlaw29_ShadeWider.j0 k y0 y1 y2 y3) (garmentlaw29_ShadeWider.j0 (k + 1) y0 y1 y2 y3)) ∧ (∀ y0 y1 y2 y3 y4, LeO (garmentlaw29_ShadeWider.j1 k y0 y1 y2 y3 y4) (garmentlaw29_ShadeWider.j1 (k + 1) y0 y1 y2 y3 y4)) ∧ (∀ y0 y1 y2 y3 y4, LeO (garmentlaw29_ShadeWider.l0 k y0 y1 y2 y3 y4) (garmentlaw29_ShadeWider.l0 (k + 1) y0 y1 y2 y3 y4)) ∧ (∀ y0 y1 y2 y3 y4 y5, LeO (garmentlaw29_ShadeWider.l1 k y0 y1 y2 y3 y4 y5) (garmentlaw29_ShadeWider.l1 (k + 1) y0 y1 y2 y3 y4 y5))
  | 0 => ⟨fun _ _ _ _ r h => by simp [garmentlaw29_ShadeWider.j0] at h, fun _ _ _ _ _ r h => by simp [garmentlaw29_ShadeWider.j1] at h, fun _ _ _ _ _ r h => by simp [garmentlaw29_ShadeWider.l0] at h, fun _ _ _ _ _ _ r h => by simp [garmentlaw29_ShadeWider.l1] at h⟩
  | k + 1 => by
    obtain ⟨ih0, ih1, ih2, ih3⟩ := garmentlaw29_ShadeWider.mono_l k
    refine ⟨?_, ?_, ?_, ?_⟩
    · intro y0 y1 y2 y3
      unfold garmentlaw29_ShadeWider.j0
      repeat' first
      | (with_reducible exact ih0 _ _ _ _)
      | (with_reducible exact ih1 _ _ _ _ _)
      | (with_reducible exact ih2 _ _ _ _ _)
      | (with_reducible exact ih3 _ _ _ _ _ _)
      | (with_reducible exact garmentlaw29_awake.mono _)
      | (with_reducible exact shade_Lots.mono _ _ _)
      | (with_reducible exact LeO.refl _)
      | (with_reducible exact LeO.none _)
      | (with_reducible refine LeO.ite ?_ ?_)
      | (with_reducible refine LeO.bind ?_ (fun _ => ?_))
      | exact ih0 _ _ _ _
      | exact ih1 _ _ _ _ _
      | exact ih2 _ _ _ _ _
      | exact ih3 _ _ _ _ _ _
      | exact garmentlaw29_awake.mono _
      | exact shade_Lots.mono _ _ _
      | exact LeO.none _
      | refine LeO.ite ?_ ?_
      | refine LeO.bind ?_ (fun _ => ?_)
    · intro y0 y1 y2 y3 y4
      unfold garmentlaw29_ShadeWider.j1
      repeat' first
      | (with_reducible exact ih0 _ _ _ _)
      | (with_reducible exact ih1 _ _ _ _ _)
      | (with_reducible exact ih2 _ _ _ _ _)
      | (with_reducible exact ih3 _ _ _ _ _ _)
      | (with_reducible exact garmentlaw29_awake.mono _)
      | (with_reducible exact shade_Lots.mono _ _ _)
      | (with_reducible exact LeO.refl _)
      | (with_reducible exact LeO.none _)
      | (with_reducible refine LeO.ite ?_ ?_)
      | (with_reducible refine LeO.bind ?_ (fun _ => ?_))
      | exact ih0 _ _ _ _
      | exact ih1 _ _ _ _ _
      | exact ih2 _ _ _ _ _
      | exact ih3 _ _ _ _ _ _
      | exact garmentlaw29_awake.mono _
      | exact shade_Lots.mono _ _ _
      | exact LeO.none _
      | refine LeO.ite ?_ ?_
      | refine LeO.bind ?_ (fun _ => ?_)
    · intro y0 y1 y2 y3 y4
      unfold garmentlaw29_ShadeWider.l0
      repeat' first
      | (with_reducible exact ih0 _ _ _ _)
      | (with_reducible exact ih1 _ _ _ _ _)
      | (with_reducible exact ih2 _ _ _ _ _)
      | (with_reducible exact ih3 _ _ _ _ _ _)
      | (with_reducible exact garmentlaw29_awake.mono _)
      | (with_reducible exact shade_Lots.mono _ _ _)
      | (with_reducible exact LeO.refl _)
      | (with_reducible exact LeO.none _)
      | (with_reducible refine LeO.ite ?_ ?_)
      | (with_reducible refine LeO.bind ?_ (fun _ => ?_))
      | exact ih0 _ _ _ _
      | exact ih1 _ _ _ _ _
      | exact ih2 _ _ _ _ _
      | exact ih3 _ _ _ _ _ _
      | exact garmentlaw29_awake.mono _
      | exact shade_Lots.mono _ _ _
      | exact LeO.none _
      | refine LeO.ite ?_ ?_
      | refine LeO.bind ?_ (fun _ => ?_)
    · intro y0 y1 y2 y3 y4 y5
      unfold garmentlaw29_ShadeWider.l1
      repeat' first
      | (with_reducible exact ih0 _ _ _ _)
      | (with_reducible exact ih1 _ _ _ _ _)
      | (with_reducible exact ih2 _ _ _ _ _)
      | (with_reducible exact ih3 _ _ _ _ _ _)
      | (with_reducible exact garmentlaw29_awake.mono _)
      | (with_reducible exact shade_Lots.mono _ _ _)
      | (with_reducible exact LeO.refl _)
      | (with_reducible exact LeO.none _)
      | (with_reducible refine LeO.ite ?_ ?_)
      | (with_reducible refine LeO.bind ?_ (fun _ => ?_))
      | exact ih0 _ _ _ _
      | exact ih1 _ _ _ _ _
      | exact ih2 _ _ _ _ _
      | exact ih3 _ _ _ _ _ _
      | exact garmentlaw29_awake.mono _
      | exact shade_Lots.mono _ _ _
      | exact LeO.none _
      | refine LeO.ite ?_ ?_
      | refine LeO.bind ?_ (fun _ => ?_)
theorem garmentlaw29_ShadeWider.mono : ∀ a0 a1 a2 k, LeO (garmentlaw29_ShadeWider.f k a0 a1 a2) (garmentlaw29_ShadeWider.f (k + 1) a0 a1 a2) := by
  intro a0 a1 a2 k
  obtain ⟨ih0, ih1, ih2, ih3⟩ := garmentlaw29_ShadeWider.mono_l k
  unfold garmentlaw29_ShadeWider.f
  repeat' first
      | (with_reducible exact ih0 _ _ _ _)
      | (with_reducible exact ih1 _ _ _ _ _)
      | (with_reducible exact ih2 _ _ _ _ _)
      | (with_reducible exact ih3 _ _ _ _ _ _)
      | (with_reducible exact garmentlaw29_awake.mono _)
      | (with_reducible exact shade_Lots.mono _ _ _)
      | (with_reducible exact LeO.refl _)
      | (with_reducible exact LeO.none _)
      | (with_reducible refine LeO.ite ?_ ?_)
      | (with_reducible refine LeO.bind ?_ (fun _ => ?_))
      | exact ih0 _ _ _ _
      | exact ih1 _ _ _ _ _
      | exact ih2 _ _ _ _ _
      | exact ih3 _ _ _ _ _ _
      | exact garmentlaw29_awake.mono _
      | exact shade_Lots.mono _ _ _
      | exact LeO.none _
      | refine LeO.ite ?_ ?_
      | refine LeO.bind ?_ (fun _ => ?_)
set_option maxHeartbeats 8000000 in
set_option maxRecDepth 100000 in
theorem garmentlaw29_ShadeWider.calls (k : Nat) (A0 : Option Addr) (c0 : Nat) (l0 : List (S23)) (a1 : Int) (a2 : Int) (r : Bool) (w : World) (hr0 : Kd.C k23 w A0 l0.length l0) (hc0 : l0.length ≤ c0) (h : garmentlaw29_ShadeWider.f k l0 a1 a2 = some r) :
    Calls Try.prog 7 #[.slice A0 l0.length c0, .int .i64 a1, .int .i64 a2] w fun e w' => e = .returned (.bool r) ∧ Below w.heap.size w w' := by
  have HR0 := Aside0.mk hr0
  have HC0 := Aside0.mk hc0
  clear hr0 hc0
  have HB := Aside0.mk (Below.refl w.heap.size w)
  have H : (if (l0.length : Int) > 20 then (garmentlaw29_ShadeWider.j0 k l0 a1 a2 true) else (if a1 < 0 then (garmentlaw29_ShadeWider.j0 k l0 a1 a2 true) else (garmentlaw29_ShadeWider.j0 k l0 a1 a2 (decide (a2 < a1))))) = some r := h
  clear h
  have HC4 := Aside0.mk H
  clear H
  go_enter Try.func7, Try.ntmps7
  go_upto_region 1 with (fail)
  repeat (go_quiet (fail); go_upto_region 1 with (fail))
  go_cut [24] (fun v24 wc => ∃ (kq : Nat) (x24_3 : Bool), v24 = .bool x24_3 ∧ Aside0 (garmentlaw29_ShadeWider.j0 kq l0 a1 a2 x24_3 = some r) ∧ Aside0 (kq ≤ k) ∧ Aside0 (Below w.heap.size w wc))
  case first =>
    have H := HC4.out
    clear HC4
    by_cases c5 : (l0.length : Int) > 20
    · rw [if_pos c5] at H
      have c5b0 : decide (20 < (l0.length : Int)) = true := decide_eq_true c5
      have c5b1 : decide (20 < l0.length) = true := decide_eq_true (by omega)
      clear c5
      (first | rw [c5b0] | (simp only [i64_w, i32_w]; rw [c5b0]) | skip)
      have H' := Aside0.mk H
      clear H
      go_wp2
      repeat (go_quiet (fail); try go_wp2)
      go_meet
      case rel => exact ⟨_, (true), (by first | rfl | (simp; done) | (simp [*]; done)), H', ⟨by first | omega | exact Nat.le_refl _⟩, ⟨by repeat (first | (with_reducible first | exact HB.out | apply below_alloc | apply pw_below_drewN | apply below_drew1) | exact HB.out)⟩⟩
    · rw [if_neg c5] at H
      have c5b0 : decide (20 < (l0.length : Int)) = false := decide_eq_false c5
      have c5b1 : decide (20 < l0.length) = false := decide_eq_false (by omega)
      clear c5
      (first | rw [c5b0] | (simp only [i64_w, i32_w]; rw [c5b0]) | skip)
      by_cases c6 : a1 < 0
      · rw [if_pos c6] at H
        have c6b0 : decide (a1 < 0) = true := decide_eq_true c6
        clear c6
        have H' := Aside0.mk H
        clear H
        go_wp2
        repeat (go_quiet (fail); try go_wp2)
        go_meet
        case rel => exact ⟨_, (true), (by first | rfl | (simp; done) | (simp [*]; done)), H', ⟨by first | omega | exact Nat.le_refl _⟩, ⟨by repeat (first | (with_reducible first | exact HB.out | apply below_alloc | apply pw_below_drewN | apply below_drew1) | exact HB.out)⟩⟩
      · rw [if_neg c6] at H
        have c6b0 : decide (a1 < 0) = false := decide_eq_false c6
        clear c6
        have H' := Aside0.mk H
        clear H
        go_wp2
        repeat (go_quiet (fail); try go_wp2)
        go_meet
        case rel => exact ⟨_, (decide (a2 < a1)), (by first | rfl | (simp; done) | (simp [*]; done)), H', ⟨by first | omega | exact Nat.le_refl _⟩, ⟨by repeat (first | (with_reducible first | exact HB.out | apply below_alloc | apply pw_below_drewN | apply below_drew1) | exact HB.out)⟩⟩
  case rest =>
    clear HC4
    try clear p2
    try clear c5
    try clear c5b0
    try clear c5b1
    try clear c6
    try clear c6b0
    obtain ⟨kq, x24_3, rfl, HA, HJ3, HB⟩ := hcut
    cases kq with
    | zero => exact absurd HA.out (by simp [garmentlaw29_ShadeWider.j0])
    | succ kj3 =>
      have H := HA.out
      clear HA
      simp only [garmentlaw29_ShadeWider.j0] at H
      by_cases c7 : x24_3 = true
      · subst c7
        have H1 : ((garmentlaw29_awake.f kj3).bind fun t265 => (some t265)) = some r := by rw [if_pos rfl] at H; exact H
        clear H
        have H := H1
        clear H1
        replace H := Option.bind_eq_some_iff.mp H
        obtain ⟨t265, A80, H⟩ := H
        replace H : (some t265) = some r := H
        have A8 := Aside0.mk A80
        clear A80
        obtain rfl := Option.some.inj H
        go_wp2_with (first | (go_at_call 9; (with_reducible refine (garmentlaw29_awake.calls kj3  t265 _ A8.out).mono ?_); rintro e w9 ⟨rfl, hb⟩; have n0_ := Aside0.mk (below_step (by repeat (first | (with_reducible first | exact HB.out | apply below_alloc | apply pw_below_drewN | apply below_drew1) | exact HB.out)) hb); clear HB; have HB := n0_; clear n0_; (try clear hb); (try clear hb2); (try clear hk); (try clear hi)))
        repeat (go_quiet (first | (go_at_call 9; (with_reducible refine (garmentlaw29_awake.calls kj3  t265 _ A8.out).mono ?_); rintro e w9 ⟨rfl, hb⟩; have n0_ := Aside0.mk (below_step (by repeat (first | (with_reducible first | exact HB.out | apply below_alloc | apply pw_below_drewN | apply below_drew1) | exact HB.out)) hb); clear HB; have HB := n0_; clear n0_; (try clear hb); (try clear hb2); (try clear hk); (try clear hi))); try go_wp2_with (first | (go_at_call 9; (with_reducible refine (garmentlaw29_awake.calls kj3  t265 _ A8.out).mono ?_); rintro e w9 ⟨rfl, hb⟩; have n0_ := Aside0.mk (below_step (by repeat (first | (with_reducible first | exact HB.out | apply below_alloc | apply pw_below_drewN | apply below_drew1) | exact HB.out)) hb); clear HB; have HB := n0_; clear n0_; (try clear hb); (try clear hb2); (try clear hk); (try clear hi))))
        go_ret
        exact ⟨by first | rfl | (simp [errW_none, errW_some] <;> rfl) | (simp [*, errW_none, errW_some] <;> rfl), by repeat (first | (with_reducible first | exact HB.out | apply below_alloc | apply pw_below_drewN | apply below_drew1) | exact HB.out)⟩
      · replace c7 := Bool.eq_false_iff.mpr c7
        subst c7
        have H1 : ((shade_Lots.f kj3 l0 a1).bind fun bt266 => ((shade_Lots.f kj3 l0 a2).bind fun bt270 => (if bt266.2 = 0 then (if bt270.2 = 0 then (if (bt266.1.length : Int) = (l0.length : Int) then (garmentlaw29_ShadeWider.j1 kj3 l0 a2 bt266.1 bt270.1 ((bt270.1.length : Int) != (l0.length : Int))) else (garmentlaw29_ShadeWider.j1 kj3 l0 a2 bt266.1 bt270.1 true)) else (garmentlaw29_ShadeWider.j1 kj3 l0 a2 bt266.1 bt270.1 true)) else (garmentlaw29_ShadeWider.j1 kj3 l0 a2 bt266.1 bt270.1 true)))) = some r := by rw [if_neg (show ¬ (false = true) by decide)] at H; exact H
        clear H
        have H := H1
        clear H1
        replace H := Option.bind_eq_some_iff.mp H
        obtain ⟨⟨t266, t267⟩, A100, H⟩ := H
        replace H : ((shade_Lots.f kj3 l0 a2).bind fun bt270 => (if t267 = 0 then (if bt270.2 = 0 then (if (t266.length : Int) = (l0.length : Int) then (garmentlaw29_ShadeWider.j1 kj3 l0 a2 t266 bt270.1 ((bt270.1.length : Int) != (l0.length : Int))) else (garmentlaw29_ShadeWider.j1 kj3 l0 a2 t266 bt270.1 true)) else (garmentlaw29_ShadeWider.j1 kj3 l0 a2 t266 bt270.1 true)) else (garmentlaw29_ShadeWider.j1 kj3 l0 a2 t266 bt270.1 true))) = some r := H
        have A10 := Aside0.mk A100
        clear A100
        replace H := Option.bind_eq_some_iff.mp H
        obtain ⟨⟨t270, t271⟩, A110, H⟩ := H
        replace H : (if t267 = 0 then (if t271 = 0 then (if (t266.length : Int) = (l0.length : Int) then (garmentlaw29_ShadeWider.j1 kj3 l0 a2 t266 t270 ((t270.length : Int) != (l0.length : Int))) else (garmentlaw29_ShadeWider.j1 kj3 l0 a2 t266 t270 true)) else (garmentlaw29_ShadeWider.j1 kj3 l0 a2 t266 t270 true)) else (garmentlaw29_ShadeWider.j1 kj3 l0 a2 t266 t270 true)) = some r := H
        have A11 := Aside0.mk A110
        clear A110
        have HC12 := Aside0.mk H
        clear H
        go_upto_region 5 with (first | (go_at_call 14; (with_reducible refine (shade_Lots.calls kj3 _ _ l0 a1 t266 t267 _ ?side1 ?side2 A10.out).mono ?_); (case side1 => repeat (first | exact (Kd.C_below HR0.out HB.out) | (with_reducible refine Kd.C_alloc ?_ _) | (with_reducible refine Kd.C_drewN ?_ _) | (with_reducible refine Kd.C_drew ?_))); (case side2 => exact HC0.out); rintro e w13 ⟨v268, rfl, ho0, hb⟩; have n0_ := Aside0.mk (Kd.R_lower ho0 (below_size (by repeat (first | (with_reducible first | exact HB.out | apply below_alloc | apply pw_below_drewN | apply below_drew1) | exact HB.out)))); have n1_ := Aside0.mk (below_step (by repeat (first | (with_reducible first | exact HB.out | apply below_alloc | apply pw_below_drewN | apply below_drew1) | exact HB.out)) hb); clear HB; have HO269 := n0_; have HB := n1_; clear n0_ n1_; (try clear hb); (try clear hb2); (try clear hk); (try clear hi); (try clear ho0)) | (go_at_call 14; (with_reducible refine (shade_Lots.calls kj3 _ _ l0 a2 t270 t271 _ ?side1 ?side2 A11.out).mono ?_); (case side1 => repeat (first | exact (Kd.C_below HR0.out HB.out) | (with_reducible refine Kd.C_alloc ?_ _) | (with_reducible refine Kd.C_drewN ?_ _) | (with_reducible refine Kd.C_drew ?_))); (case side2 => exact HC0.out); rintro e w14 ⟨v272, rfl, ho0, hb⟩; have n0_ := Aside0.mk (Kd.R_elder' (by (with_reducible repeat (first | apply Kd.R_alloc | apply Kd.R_drewN | apply Kd.R_drew)); exact HO269.out) (Kd.R_base ho0) hb); have n1_ := Aside0.mk (Kd.R_lower (Kd.R_new' ho0 (Kd.R_lt (by (with_reducible repeat (first | apply Kd.R_alloc | apply Kd.R_drewN | apply Kd.R_drew)); exact HO269.out))) (below_size (by repeat (first | (with_reducible first | exact HB.out | apply below_alloc | apply pw_below_drewN | apply below_drew1) | exact HB.out)))); have n2_ := Aside0.mk (below_step (by repeat (first | (with_reducible first | exact HB.out | apply below_alloc | apply pw_below_drewN | apply below_drew1) | exact HB.out)) hb); clear HO269; clear HB; have HO269 := n0_; have HO273 := n1_; have HB := n2_; clear n0_ n1_ n2_; (try clear hb); (try clear hb2); (try clear hk); (try clear hi); (try clear ho0)))
        repeat (go_quiet (first | (go_at_call 14; (with_reducible refine (shade_Lots.calls kj3 _ _ l0 a1 t266 t267 _ ?side1 ?side2 A10.out).mono ?_); (case side1 => repeat (first | exact (Kd.C_below HR0.out HB.out) | (with_reducible refine Kd.C_alloc ?_ _) | (with_reducible refine Kd.C_drewN ?_ _) | (with_reducible refine Kd.C_drew ?_))); (case side2 => exact HC0.out); rintro e w13 ⟨v268, rfl, ho0, hb⟩; have n0_ := Aside0.mk (Kd.R_lower ho0 (below_size (by repeat (first | (with_reducible first | exact HB.out | apply below_alloc | apply pw_below_drewN | apply below_drew1) | exact HB.out)))); have n1_ := Aside0.mk (below_step (by repeat (first | (with_reducible first | exact HB.out | apply below_alloc | apply pw_below_drewN | apply below_drew1) | exact HB.out)) hb); clear HB; have HO269 := n0_; have HB := n1_; clear n0_ n1_; (try clear hb); (try clear hb2); (try clear hk); (try clear hi); (try clear ho0)) | (go_at_call 14; (with_reducible refine (shade_Lots.calls kj3 _ _ l0 a2 t270 t271 _ ?side1 ?side2 A11.out).mono ?_); (case side1 => repeat (first | exact (Kd.C_below HR0.out HB.out) | (with_reducible refine Kd.C_alloc ?_ _) | (with_reducible refine Kd.C_drewN ?_ _) | (with_reducible refine Kd.C_drew ?_))); (case side2 => exact HC0.out); rintro e w14 ⟨v272, rfl, ho0, hb⟩; have n0_ := Aside0.mk (Kd.R_elder' (by (with_reducible repeat (first | apply Kd.R_alloc | apply Kd.R_drewN | apply Kd.R_drew)); exact HO269.out) (Kd.R_base ho0) hb); have n1_ := Aside0.mk (Kd.R_lower (Kd.R_new' ho0 (Kd.R_lt (by (with_reducible repeat (first | apply Kd.R_alloc | apply Kd.R_drewN | apply Kd.R_drew)); exact HO269.out))) (below_size (by repeat (first | (with_reducible first | exact HB.out | apply below_alloc | apply pw_below_drewN | apply below_drew1) | exact HB.out)))); have n2_ := Aside0.mk (below_step (by repeat (first | (with_reducible first | exact HB.out | apply below_alloc | apply pw_below_drewN | apply below_drew1) | exact HB.out)) hb); clear HO269; clear HB; have HO269 := n0_; have HO273 := n1_; have HB := n2_; clear n0_ n1_ n2_; (try clear hb); (try clear hb2); (try clear hk); (try clear hi); (try clear ho0))); go_upto_region 5 with (first | (go_at_call 14; (with_reducible refine (shade_Lots.calls kj3 _ _ l0 a1 t266 t267 _ ?side1 ?side2 A10.out).mono ?_); (case side1 => repeat (first | exact (Kd.C_below HR0.out HB.out) | (with_reducible refine Kd.C_alloc ?_ _) | (with_reducible refine Kd.C_drewN ?_ _) | (with_reducible refine Kd.C_drew ?_))); (case side2 => exact HC0.out); rintro e w13 ⟨v268, rfl, ho0, hb⟩; have n0_ := Aside0.mk (Kd.R_lower ho0 (below_size (by repeat (first | (with_reducible first | exact HB.out | apply below_alloc | apply pw_below_drewN | apply below_drew1) | exact HB.out)))); have n1_ := Aside0.mk (below_step (by repeat (first | (with_reducible first | exact HB.out | apply below_alloc | apply pw_below_drewN | apply below_drew1) | exact HB.out)) hb); clear HB; have HO269 := n0_; have HB := n1_; clear n0_ n1_; (try clear hb); (try clear hb2); (try clear hk); (try clear hi); (try clear ho0)) | (go_at_call 14; (with_reducible refine (shade_Lots.calls kj3 _ _ l0 a2 t270 t271 _ ?side1 ?side2 A11.out).mono ?_); (case side1 => repeat (first | exact (Kd.C_below HR0.out HB.out) | (with_reducible refine Kd.C_alloc ?_ _) | (with_reducible refine Kd.C_drewN ?_ _) | (with_reducible refine Kd.C_drew ?_))); (case side2 => exact HC0.out); rintro e w14 ⟨v272, rfl, ho0, hb⟩; have n0_ := Aside0.mk (Kd.R_elder' (by (with_reducible repeat (first | apply Kd.R_alloc | apply Kd.R_drewN | apply Kd.R_drew)); exact HO269.out) (Kd.R_base ho0) hb); have n1_ := Aside0.mk (Kd.R_lower (Kd.R_new' ho0 (Kd.R_lt (by (with_reducible repeat (first | apply Kd.R_alloc | apply Kd.R_drewN | apply Kd.R_drew)); exact HO269.out))) (below_size (by repeat (first | (with_reducible first | exact HB.out | apply below_alloc | apply pw_below_drewN | apply below_drew1) | exact HB.out)))); have n2_ := Aside0.mk (below_step (by repeat (first | (with_reducible first | exact HB.out | apply below_alloc | apply pw_below_drewN | apply below_drew1) | exact HB.out)) hb); clear HO269; clear HB; have HO269 := n0_; have HO273 := n1_; have HB := n2_; clear n0_ n1_ n2_; (try clear hb); (try clear hb2); (try clear hk); (try clear hi); (try clear ho0))))
        (try simp only [Act.put, List.setIfInBounds_toArray, List.set_cons_zero, List.set_cons_succ])
        go_cut [57] (fun v57 wc => ∃ (kq : Nat) (x57_11 : Bool), v57 = .bool x57_11 ∧ Aside0 (garmentlaw29_ShadeWider.j1 kq l0 a2 t266 t270 x57_11 = some r) ∧ Aside0 (kq ≤ kj3) ∧ Aside0 (Kd.R (Kd.int .i64) 3 wc w.heap.size (fun k_ => some k_ ≠ (v272 : Value).ownBlock) v268 t266) ∧ Aside0 (Kd.R (Kd.int .i64) 3 wc w.heap.size (fun k_ => some k_ ≠ (v268 : Value).ownBlock) v272 t270) ∧ Aside0 (Below w.heap.size w wc))
        case first =>
          have H := HC12.out
          clear HC12
          by_cases c15 : t267 = 0
          · rw [if_pos c15] at H
            have c15b0 : (t267 == 0) = true := beq_iff_eq.mpr c15
            have c15b1 : (t267 != 0) = false := bne_eq_false_iff_eq.mpr c15
            clear c15
            (first | rw [c15b0] | (simp only [i64_w, i32_w]; rw [c15b0]) | skip)
            by_cases c16 : t271 = 0
            · rw [if_pos c16] at H
              have c16b0 : (t271 == 0) = true := beq_iff_eq.mpr c16
              have c16b1 : (t271 != 0) = false := bne_eq_false_iff_eq.mpr c16
              clear c16
              by_cases c17 : (t266.length : Int) = (l0.length : Int)
              · rw [if_pos c17] at H
                have c17b0 : ((t266.length : Int) == (l0.length : Int)) = true := beq_iff_eq.mpr c17
                have c17b1 : ((t266.length : Int) != (l0.length : Int)) = false := bne_eq_false_iff_eq.mpr c17
                have c17b2 : (t266.length == l0.length) = true := by first | simpa using c17 | (simp at c17 ⊢; omega)
                clear c17
                have H' := Aside0.mk H
                clear H
                obtain ⟨Ao18, co18, eo18⟩ := Kd.R_slice HO269.out
                subst eo18
                obtain ⟨Ao19, co19, eo19⟩ := Kd.R_slice HO273.out
                subst eo19
                go_wp2
                repeat (go_quiet (fail); try go_wp2)
                go_meet
                case rel => exact ⟨_, (((t270.length : Int) != (l0.length : Int))), (by first | rfl | (simp; done) | (simp [*]; done)), H', ⟨by have := HJ3.out; first | omega | exact Nat.le_refl _⟩, ⟨by (with_reducible repeat (first | apply Kd.R_alloc | apply Kd.R_drewN | apply Kd.R_drew)); exact Kd.R_mono HO269.out (fun _ hk => hk.2)⟩, ⟨by (with_reducible repeat (first | apply Kd.R_alloc | apply Kd.R_drewN | apply Kd.R_drew)); exact Kd.R_mono HO273.out (fun _ hk => hk.2)⟩, ⟨by repeat (first | (with_reducible first | exact HB.out | apply below_alloc | apply pw_below_drewN | apply below_drew1) | exact HB.out)⟩⟩
              · rw [if_neg c17] at H
                have c17b0 : ((t266.length : Int) == (l0.length : Int)) = false := beq_eq_false_iff_ne.mpr c17
                have c17b1 : ((t266.length : Int) != (l0.length : Int)) = true := bne_iff_ne.mpr c17
                have c17b2 : (t266.length == l0.length) = false := by first | simpa using c17 | (simp at c17 ⊢; omega)
                have H' := Aside0.mk H
                clear H
                obtain ⟨Ao20, co20, eo20⟩ := Kd.R_slice HO269.out
                subst eo20
                go_wp2
                repeat (go_quiet (fail); try go_wp2)
                go_meet
                case rel => exact ⟨_, (true), (by first | rfl | (simp; done) | (simp [*]; done)), H', ⟨by have := HJ3.out; first | omega | exact Nat.le_refl _⟩, ⟨by (with_reducible repeat (first | apply Kd.R_alloc | apply Kd.R_drewN | apply Kd.R_drew)); exact Kd.R_mono HO269.out (fun _ hk => hk.2)⟩, ⟨by (with_reducible repeat (first | apply Kd.R_alloc | apply Kd.R_drewN | apply Kd.R_drew)); exact Kd.R_mono HO273.out (fun _ hk => hk.2)⟩, ⟨by repeat (first | (with_reducible first | exact HB.out | apply below_alloc | apply pw_below_drewN | apply below_drew1) | exact HB.out)⟩⟩
            · rw [if_neg c16] at H
              have c16b0 : (t271 == 0) = false := beq_eq_false_iff_ne.mpr c16
              have c16b1 : (t271 != 0) = true := bne_iff_ne.mpr c16
              have H' := Aside0.mk H
              clear H
              go_wp2
              repeat (go_quiet (fail); try go_wp2)
              go_meet
              case rel => exact ⟨_, (true), (by first | rfl | (simp; done) | (simp [*]; done)), H', ⟨by have := HJ3.out; first | omega | exact Nat.le_refl _⟩, ⟨by (with_reducible repeat (first | apply Kd.R_alloc | apply Kd.R_drewN | apply Kd.R_drew)); exact Kd.R_mono HO269.out (fun _ hk => hk.2)⟩, ⟨by (with_reducible repeat (first | apply Kd.R_alloc | apply Kd.R_drewN | apply Kd.R_drew)); exact Kd.R_mono HO273.out (fun _ hk => hk.2)⟩, ⟨by repeat (first | (with_reducible first | exact HB.out | apply below_alloc | apply pw_below_drewN | apply below_drew1) | exact HB.out)⟩⟩
          · rw [if_neg c15] at H
            have c15b0 : (t267 == 0) = false := beq_eq_false_iff_ne.mpr c15
            have c15b1 : (t267 != 0) = true := bne_iff_ne.mpr c15
            (first | rw [c15b0] | (simp only [i64_w, i32_w]; rw [c15b0]) | skip)
            have H' := Aside0.mk H
            clear H
            go_wp2
            repeat (go_quiet (fail); try go_wp2)
            go_meet
            case rel => exact ⟨_, (true), (by first | rfl | (simp; done) | (simp [*]; done)), H', ⟨by have := HJ3.out; first | omega | exact Nat.le_refl _⟩, ⟨by (with_reducible repeat (first | apply Kd.R_alloc | apply Kd.R_drewN | apply Kd.R_drew)); exact Kd.R_mono HO269.out (fun _ hk => hk.2)⟩, ⟨by (with_reducible repeat (first | apply Kd.R_alloc | apply Kd.R_drewN | apply Kd.R_drew)); exact Kd.R_mono HO273.out (fun _ hk => hk.2)⟩, ⟨by repeat (first | (with_reducible first | exact HB.out | apply below_alloc | apply pw_below_drewN | apply below_drew1) | exact HB.out)⟩⟩
        case rest =>
          clear HC12
          try clear c1
          try clear p2
          try clear c5
          try clear c5b0
          try clear c5b1
          try clear c6
          try clear c6b0
          try clear c7
          try clear c15
          try clear c15b0
          try clear c15b1
          try clear c16
          try clear c16b0
          try clear c16b1
          try clear c17
          try clear c17b0
          try clear c17b1
          try clear c17b2
          try clear p2
          obtain ⟨kq, x57_11, rfl, HA, HJ11, HO_7, HO_9, HB⟩ := hcut
          cases kq with
          | zero => exact absurd HA.out (by simp [garmentlaw29_ShadeWider.j1])
          | succ kj11 =>
            have H := HA.out
            clear HA
            simp only [garmentlaw29_ShadeWider.j1] at H
            by_cases c21 : x57_11 = true
            · subst c21
              have H1 : (some false) = some r := by rw [if_pos rfl] at H; exact H
              clear H
              have H := H1
              clear H1
              obtain rfl := Option.some.inj H
              go_wp2
              repeat (go_quiet (fail); try go_wp2)
              go_ret
              exact ⟨by first | rfl | (simp [errW_none, errW_some] <;> rfl) | (simp [*, errW_none, errW_some] <;> rfl), by repeat (first | (with_reducible first | exact HB.out | apply below_alloc | apply pw_below_drewN | apply below_drew1) | exact HB.out)⟩
            · replace c21 := Bool.eq_false_iff.mpr c21
              subst c21
              have H1 : (garmentlaw29_ShadeWider.l0 kj11 l0 a2 t266 t270 0) = some r := by rw [if_neg (show ¬ (false = true) by decide)] at H; exact H
              clear H
              have H := H1
              clear H1
              have H' := Aside0.mk H
              clear H
              go_wp2
              repeat (go_quiet (fail); try go_wp2)
              go_loopg [11] kj11 (fun kq v11 w' => ∃ (x11_3 : Int), v11 = .int .i64 x11_3 ∧ Aside0 (garmentlaw29_ShadeWider.l0 kq l0 a2 t266 t270 x11_3 = some r) ∧ Aside0 (kq ≤ kj11) ∧ Aside0 (Kd.R (Kd.int .i64) 3 w' w.heap.size (fun k_ => some k_ ≠ (v272 : Value).ownBlock) v268 t266) ∧ Aside0 (Kd.R (Kd.int .i64) 3 w' w.heap.size (fun k_ => some k_ ≠ (v268 : Value).ownBlock) v272 t270) ∧ Aside0 (Below w.heap.size w w'))
              case atStart => exact ⟨(0), (by first | rfl | (simp; done) | (simp [*]; done)), H', ⟨Nat.le_refl _⟩, ⟨by (with_reducible repeat (first | apply Kd.R_alloc | apply Kd.R_drewN | apply Kd.R_drew)); exact HO_7.out⟩, ⟨by (with_reducible repeat (first | apply Kd.R_alloc | apply Kd.R_drewN | apply Kd.R_drew)); exact HO_9.out⟩, ⟨by repeat (first | (with_reducible first | exact HB.out | apply below_alloc | apply pw_below_drewN | apply below_drew1) | exact HB.out)⟩⟩
              case round =>
                clear H'
                try clear c1
                try clear c2
                try clear p2
                try clear c5
                try clear c5b0
                try clear c5b1
                try clear c6
                try clear c6b0
                try clear c7
                try clear c15
                try clear c15b0
                try clear c15b1
                try clear c16
                try clear c16b0
                try clear c16b1
                try clear c17
                try clear c17b0
                try clear c17b1
                try clear c17b2
                try clear c21
                try clear p2
                obtain ⟨x11_3, rfl, HA, HK3, HO_7, HO_9, HB⟩ := hrel
                cases gk with
                | zero => exact absurd HA.out (by simp [garmentlaw29_ShadeWider.l0])
                | succ k3 =>
                  have H := HA.out
                  clear HA
                  simp only [garmentlaw29_ShadeWider.l0] at H
                  by_cases c22 : x11_3 < (l0.length : Int)
                  · rw [if_pos c22] at H
                    have c22b0 : decide (x11_3 < (l0.length : Int)) = true := decide_eq_true c22
                    clear c22
                    have H' := Aside0.mk H
                    clear H
                    go_wp2
                    repeat (go_quiet (fail); try go_wp2)
                    go_loopg [12] k3 (fun kq v12 w' => ∃ (x12_4 : Int), v12 = .int .i64 x12_4 ∧ Aside0 (garmentlaw29_ShadeWider.l1 kq l0 a2 t266 t270 x11_3 x12_4 = some r) ∧ Aside0 (kq ≤ k3) ∧ Aside0 (Kd.R (Kd.int .i64) 3 w' w.heap.size (fun k_ => some k_ ≠ (v272 : Value).ownBlock) v268 t266) ∧ Aside0 (Kd.R (Kd.int .i64) 3 w' w.heap.size (fun k_ => some k_ ≠ (v268 : Value).ownBlock) v272 t270) ∧ Aside0 (Below w.heap.size w w'))
                    case atStart => exact ⟨(0), (by first | rfl | (simp; done) | (simp [*]; done)), H', ⟨Nat.le_refl _⟩, ⟨by (with_reducible repeat (first | apply Kd.R_alloc | apply Kd.R_drewN | apply Kd.R_drew)); exact HO_7.out⟩, ⟨by (with_reducible repeat (first | apply Kd.R_alloc | apply Kd.R_drewN | apply Kd.R_drew)); exact HO_9.out⟩, ⟨by repeat (first | (with_reducible first | exact HB.out | apply below_alloc | apply pw_below_drewN | apply below_drew1) | exact HB.out)⟩⟩
                    case round =>
                      clear H'
                      try clear c1
                      try clear c2
                      try clear p2
                      try clear c5
                      try clear c5b0
                      try clear c5b1
                      try clear c6
                      try clear c6b0
                      try clear c7
                      try clear c15
                      try clear c15b0
                      try clear c15b1
                      try clear c16
                      try clear c16b0
                      try clear c16b1
                      try clear c17
                      try clear c17b0
                      try clear c17b1
                      try clear c17b2
                      try clear c21
                      try clear c22
                      try clear c22b0
                      try clear p2
                      obtain ⟨x12_4, rfl, HA, HK4, HO_7, HO_9, HB⟩ := hrel
                      cases gk with
                      | zero => exact absurd HA.out (by simp [garmentlaw29_ShadeWider.l1])
                      | succ k4 =>
                        have H := HA.out
                        clear HA
                        simp only [garmentlaw29_ShadeWider.l1] at H
                        by_cases c23 : x12_4 < x11_3
                        · rw [if_pos c23] at H
                          have c23b0 : decide (x12_4 < x11_3) = true := decide_eq_true c23
                          clear c23
                          by_cases c24 : 0 ≤ x11_3
                          · rw [if_pos c24] at H
                            have c24b0 : decide (0 ≤ x11_3) = true := decide_eq_true c24
                            clear c24
                            by_cases c25 : x11_3 < (t266.length : Int)
                            · rw [if_pos c25] at H
                              have c25b0 : decide (x11_3 < (t266.length : Int)) = true := decide_eq_true c25
                              clear c25
                              by_cases c26 : 0 ≤ x12_4
                              · rw [if_pos c26] at H
                                have c26b0 : decide (0 ≤ x12_4) = true := decide_eq_true c26
                                clear c26
                                by_cases c27 : x12_4 < (t266.length : Int)
                                · rw [if_pos c27] at H
                                  have c27b0 : decide (x12_4 < (t266.length : Int)) = true := decide_eq_true c27
                                  clear c27
                                  by_cases c28 : (rd t266 x11_3) = (rd t266 x12_4)
                                  · rw [if_pos c28] at H
                                    have c28b0 : ((rd t266 x11_3) == (rd t266 x12_4)) = true := beq_iff_eq.mpr c28
                                    have c28b1 : ((rd t266 x11_3) != (rd t266 x12_4)) = false := bne_eq_false_iff_eq.mpr c28
                                    clear c28
                                    by_cases c29 : x11_3 < (t270.length : Int)
                                    · rw [if_pos c29] at H
                                      have c29b0 : decide (x11_3 < (t270.length : Int)) = true := decide_eq_true c29
                                      clear c29
                                      by_cases c30 : x12_4 < (t270.length : Int)
                                      · rw [if_pos c30] at H
                                        have c30b0 : decide (x12_4 < (t270.length : Int)) = true := decide_eq_true c30
                                        clear c30
                                        by_cases c31 : (rd t270 x11_3) = (rd t270 x12_4)
                                        · rw [if_pos c31] at H
                                          have c31b0 : ((rd t270 x11_3) == (rd t270 x12_4)) = true := beq_iff_eq.mpr c31
                                          have c31b1 : ((rd t270 x11_3) != (rd t270 x12_4)) = false := bne_eq_false_iff_eq.mpr c31
                                          clear c31
                                          by_cases c32 : a2 ≥ 2000
                                          · rw [if_pos c32] at H
                                            have c32b0 : decide (2000 ≤ a2) = true := decide_eq_true c32
                                            clear c32
                                            have H' := Aside0.mk H
                                            clear H
                                            obtain ⟨Ao33, co33, eo33⟩ := Kd.R_slice HO_7.out
                                            subst eo33
                                            have p275 : 0 ≤ (x11_3 : Int) := of_decide_eq_true (by first | (with_reducible assumption) | assumption)
                                            have q275 : x11_3 < (t266.length : Int) := of_decide_eq_true (by first | (with_reducible assumption) | assumption)
                                            obtain ⟨ad275, e275, hx275_0⟩ := Kd.at_int (Kd.R_reads' HO_7.out).2.2 x11_3 p275 q275
                                            cases e275
                                            replace p275 := eq_true p275
                                            replace q275 := eq_true q275
                                            have p276 : 0 ≤ (x12_4 : Int) := of_decide_eq_true (by first | (with_reducible assumption) | assumption)
                                            have q276 : x12_4 < (t266.length : Int) := of_decide_eq_true (by first | (with_reducible assumption) | assumption)
                                            obtain ⟨ad276, e276, hx276_0⟩ := Kd.at_int (Kd.R_reads' HO_7.out).2.2 x12_4 p276 q276
                                            obtain rfl : ad275 = ad276 := (by injection e276)
                                            replace p276 := eq_true p276
                                            replace q276 := eq_true q276
                                            obtain ⟨Ao34, co34, eo34⟩ := Kd.R_slice HO_9.out
                                            subst eo34
                                            have p277 : 0 ≤ (x11_3 : Int) := of_decide_eq_true (by first | (with_reducible assumption) | assumption)
                                            have q277 : x11_3 < (t270.length : Int) := of_decide_eq_true (by first | (with_reducible assumption) | assumption)
                                            obtain ⟨ad277, e277, hx277_0⟩ := Kd.at_int (Kd.R_reads' HO_9.out).2.2 x11_3 p277 q277
                                            cases e277
                                            replace p277 := eq_true p277
                                            replace q277 := eq_true q277
                                            have p278 : 0 ≤ (x12_4 : Int) := of_decide_eq_true (by first | (with_reducible assumption) | assumption)
                                            have q278 : x12_4 < (t270.length : Int) := of_decide_eq_true (by first | (with_reducible assumption) | assumption)
                                            obtain ⟨ad278, e278, hx278_0⟩ := Kd.at_int (Kd.R_reads' HO_9.out).2.2 x12_4 p278 q278
                                            obtain rfl : ad277 = ad278 := (by injection e278)
                                            replace p278 := eq_true p278
                                            replace q278 := eq_true q278
                                            have p279 : 0 ≤ (x11_3 : Int) := of_decide_eq_true (by first | (with_reducible assumption) | assumption)
                                            have q279 : x11_3 < (t270.length : Int) := of_decide_eq_true (by first | (with_reducible assumption) | assumption)
                                            obtain ⟨ad279, e279, hx279_0⟩ := Kd.at_int (Kd.R_reads' HO_9.out).2.2 x11_3 p279 q279
                                            obtain rfl : ad277 = ad279 := (by injection e279)
                                            replace p279 := eq_true p279
                                            replace q279 := eq_true q279
                                            have p280 : 0 ≤ (x12_4 : Int) := of_decide_eq_true (by first | (with_reducible assumption) | assumption)
                                            have q280 : x12_4 < (t270.length : Int) := of_decide_eq_true (by first | (with_reducible assumption) | assumption)
                                            obtain ⟨ad280, e280, hx280_0⟩ := Kd.at_int (Kd.R_reads' HO_9.out).2.2 x12_4 p280 q280
                                            obtain rfl : ad277 = ad280 := (by injection e280)
                                            replace p280 := eq_true p280
                                            replace q280 := eq_true q280
                                            go_wp2
                                            repeat (go_quiet (fail); try go_wp2)
                                            go_roundg k4
                                            case measure => have := HJ3.out; have := HJ11.out; have := HK3.out; have := HK4.out; omega
                                            case rel => exact ⟨(wrap64 (x12_4 + 1)), (by first | rfl | (simp; done) | (simp [*]; done)), H', ⟨by have := HJ3.out; have := HJ11.out; have := HK3.out; have := HK4.out; omega⟩, ⟨by (with_reducible repeat (first | apply Kd.R_alloc | apply Kd.R_drewN | apply Kd.R_drew)); exact HO_7.out⟩, ⟨by (with_reducible repeat (first | apply Kd.R_alloc | apply Kd.R_drewN | apply Kd.R_drew)); exact HO_9.out⟩, ⟨by repeat (first | (with_reducible first | exact HB.out | apply below_alloc | apply pw_below_drewN | apply below_drew1) | exact HB.out)⟩⟩
                                          · rw [if_neg c32] at H
                                            have c32b0 : decide (2000 ≤ a2) = false := decide_eq_false c32
                                            clear c32
                                            have H' := Aside0.mk H
                                            clear H
                                            obtain ⟨Ao35, co35, eo35⟩ := Kd.R_slice HO_7.out
                                            subst eo35
                                            have p275 : 0 ≤ (x11_3 : Int) := of_decide_eq_true (by first | (with_reducible assumption) | assumption)
                                            have q275 : x11_3 < (t266.length : Int) := of_decide_eq_true (by first | (with_reducible assumption) | assumption)
                                            obtain ⟨ad275, e275, hx275_0⟩ := Kd.at_int (Kd.R_reads' HO_7.out).2.2 x11_3 p275 q275
                                            cases e275
                                            replace p275 := eq_true p275
                                            replace q275 := eq_true q275
                                            have p276 : 0 ≤ (x12_4 : Int) := of_decide_eq_true (by first | (with_reducible assumption) | assumption)
                                            have q276 : x12_4 < (t266.length : Int) := of_decide_eq_true (by first | (with_reducible assumption) | assumption)
                                            obtain ⟨ad276, e276, hx276_0⟩ := Kd.at_int (Kd.R_reads' HO_7.out).2.2 x12_4 p276 q276
                                            obtain rfl : ad275 = ad276 := (by injection e276)
                                            replace p276 := eq_true p276
                                            replace q276 := eq_true q276
                                            obtain ⟨Ao36, co36, eo36⟩ := Kd.R_slice HO_9.out
                                            subst eo36
                                            have p277 : 0 ≤ (x11_3 : Int) := of_decide_eq_true (by first | (with_reducible assumption) | assumption)
                                            have q277 : x11_3 < (t270.length : Int) := of_decide_eq_true (by first | (with_reducible assumption) | assumption)
                                            obtain ⟨ad277, e277, hx277_0⟩ := Kd.at_int (Kd.R_reads' HO_9.out).2.2 x11_3 p277 q277
                                            cases e277
                                            replace p277 := eq_true p277
                                            replace q277 := eq_true q277
                                            have p278 : 0 ≤ (x12_4 : Int) := of_decide_eq_true (by first | (with_reducible assumption) | assumption)
                                            have q278 : x12_4 < (t270.length : Int) := of_decide_eq_true (by first | (with_reducible assumption) | assumption)
                                            obtain ⟨ad278, e278, hx278_0⟩ := Kd.at_int (Kd.R_reads' HO_9.out).2.2 x12_4 p278 q278
                                            obtain rfl : ad277 = ad278 := (by injection e278)
                                            replace p278 := eq_true p278
                                            replace q278 := eq_true q278
                                            go_wp2
                                            repeat (go_quiet (fail); try go_wp2)
                                            go_roundg k4
                                            case measure => have := HJ3.out; have := HJ11.out; have := HK3.out; have := HK4.out; omega
                                            case rel => exact ⟨(wrap64 (x12_4 + 1)), (by first | rfl | (simp; done) | (simp [*]; done)), H', ⟨by have := HJ3.out; have := HJ11.out; have := HK3.out; have := HK4.out; omega⟩, ⟨by (with_reducible repeat (first | apply Kd.R_alloc | apply Kd.R_drewN | apply Kd.R_drew)); exact HO_7.out⟩, ⟨by (with_reducible repeat (first | apply Kd.R_alloc | apply Kd.R_drewN | apply Kd.R_drew)); exact HO_9.out⟩, ⟨by repeat (first | (with_reducible first | exact HB.out | apply below_alloc | apply pw_below_drewN | apply below_drew1) | exact HB.out)⟩⟩
                                        · rw [if_neg c31] at H
                                          have c31b0 : ((rd t270 x11_3) == (rd t270 x12_4)) = false := beq_eq_false_iff_ne.mpr c31
                                          have c31b1 : ((rd t270 x11_3) != (rd t270 x12_4)) = true := bne_iff_ne.mpr c31
                                          obtain rfl := Option.some.inj H
                                          obtain ⟨Ao37, co37, eo37⟩ := Kd.R_slice HO_7.out
                                          subst eo37
                                          have p275 : 0 ≤ (x11_3 : Int) := of_decide_eq_true (by first | (with_reducible assumption) | assumption)
                                          have q275 : x11_3 < (t266.length : Int) := of_decide_eq_true (by first | (with_reducible assumption) | assumption)
                                          obtain ⟨ad275, e275, hx275_0⟩ := Kd.at_int (Kd.R_reads' HO_7.out).2.2 x11_3 p275 q275
                                          cases e275
                                          replace p275 := eq_true p275
                                          replace q275 := eq_true q275
                                          have p276 : 0 ≤ (x12_4 : Int) := of_decide_eq_true (by first | (with_reducible assumption) | assumption)
                                          have q276 : x12_4 < (t266.length : Int) := of_decide_eq_true (by first | (with_reducible assumption) | assumption)
                                          obtain ⟨ad276, e276, hx276_0⟩ := Kd.at_int (Kd.R_reads' HO_7.out).2.2 x12_4 p276 q276
                                          obtain rfl : ad275 = ad276 := (by injection e276)
                                          replace p276 := eq_true p276
                                          replace q276 := eq_true q276
                                          obtain ⟨Ao38, co38, eo38⟩ := Kd.R_slice HO_9.out
                                          subst eo38
                                          have p277 : 0 ≤ (x11_3 : Int) := of_decide_eq_true (by first | (with_reducible assumption) | assumption)
                                          have q277 : x11_3 < (t270.length : Int) := of_decide_eq_true (by first | (with_reducible assumption) | assumption)
                                          obtain ⟨ad277, e277, hx277_0⟩ := Kd.at_int (Kd.R_reads' HO_9.out).2.2 x11_3 p277 q277
                                          cases e277
                                          replace p277 := eq_true p277
                                          replace q277 := eq_true q277
                                          have p278 : 0 ≤ (x12_4 : Int) := of_decide_eq_true (by first | (with_reducible assumption) | assumption)
                                          have q278 : x12_4 < (t270.length : Int) := of_decide_eq_true (by first | (with_reducible assumption) | assumption)
                                          obtain ⟨ad278, e278, hx278_0⟩ := Kd.at_int (Kd.R_reads' HO_9.out).2.2 x12_4 p278 q278
                                          obtain rfl : ad277 = ad278 := (by injection e278)
                                          replace p278 := eq_true p278
                                          replace q278 := eq_true q278
                                          go_wp2
                                          repeat (go_quiet (fail); try go_wp2)
                                          go_ret
                                          exact ⟨by first | rfl | (simp [errW_none, errW_some] <;> rfl) | (simp [*, errW_none, errW_some] <;> rfl), by repeat (first | (with_reducible first | exact HB.out | apply below_alloc | apply pw_below_drewN | apply below_drew1) | exact HB.out)⟩
                                      · rw [if_neg c30] at H
                                        exact absurd H (by simp)
                                    · rw [if_neg c29] at H
                                      exact absurd H (by simp)
                                  · rw [if_neg c28] at H
                                    have c28b0 : ((rd t266 x11_3) == (rd t266 x12_4)) = false := beq_eq_false_iff_ne.mpr c28
                                    have c28b1 : ((rd t266 x11_3) != (rd t266 x12_4)) = true := bne_iff_ne.mpr c28
                                    by_cases c39 : a2 ≥ 2000
                                    · rw [if_pos c39] at H
                                      have c39b0 : decide (2000 ≤ a2) = true := decide_eq_true c39
                                      clear c39
                                      by_cases c40 : x11_3 < (t270.length : Int)
                                      · rw [if_pos c40] at H
                                        have c40b0 : decide (x11_3 < (t270.length : Int)) = true := decide_eq_true c40
                                        clear c40
                                        by_cases c41 : x12_4 < (t270.length : Int)
                                        · rw [if_pos c41] at H
                                          have c41b0 : decide (x12_4 < (t270.length : Int)) = true := decide_eq_true c41
                                          clear c41
                                          by_cases c42 : (rd t270 x11_3) = (rd t270 x12_4)
                                          · rw [if_pos c42] at H
                                            have c42b0 : ((rd t270 x11_3) == (rd t270 x12_4)) = true := beq_iff_eq.mpr c42
                                            have c42b1 : ((rd t270 x11_3) != (rd t270 x12_4)) = false := bne_eq_false_iff_eq.mpr c42
                                            clear c42
                                            have H' := Aside0.mk H
                                            clear H
                                            obtain ⟨Ao43, co43, eo43⟩ := Kd.R_slice HO_7.out
                                            subst eo43
                                            have p275 : 0 ≤ (x11_3 : Int) := of_decide_eq_true (by first | (with_reducible assumption) | assumption)
                                            have q275 : x11_3 < (t266.length : Int) := of_decide_eq_true (by first | (with_reducible assumption) | assumption)
                                            obtain ⟨ad275, e275, hx275_0⟩ := Kd.at_int (Kd.R_reads' HO_7.out).2.2 x11_3 p275 q275
                                            cases e275
                                            replace p275 := eq_true p275
                                            replace q275 := eq_true q275
                                            have p276 : 0 ≤ (x12_4 : Int) := of_decide_eq_true (by first | (with_reducible assumption) | assumption)
                                            have q276 : x12_4 < (t266.length : Int) := of_decide_eq_true (by first | (with_reducible assumption) | assumption)
                                            obtain ⟨ad276, e276, hx276_0⟩ := Kd.at_int (Kd.R_reads' HO_7.out).2.2 x12_4 p276 q276
                                            obtain rfl : ad275 = ad276 := (by injection e276)
                                            replace p276 := eq_true p276
                                            replace q276 := eq_true q276
                                            obtain ⟨Ao44, co44, eo44⟩ := Kd.R_slice HO_9.out
                                            subst eo44
                                            have p281 : 0 ≤ (x11_3 : Int) := of_decide_eq_true (by first | (with_reducible assumption) | assumption)
                                            have q281 : x11_3 < (t270.length : Int) := of_decide_eq_true (by first | (with_reducible assumption) | assumption)
                                            obtain ⟨ad281, e281, hx281_0⟩ := Kd.at_int (Kd.R_reads' HO_9.out).2.2 x11_3 p281 q281
                                            cases e281
                                            replace p281 := eq_true p281
                                            replace q281 := eq_true q281
                                            have p282 : 0 ≤ (x12_4 : Int) := of_decide_eq_true (by first | (with_reducible assumption) | assumption)
                                            have q282 : x12_4 < (t270.length : Int) := of_decide_eq_true (by first | (with_reducible assumption) | assumption)
                                            obtain ⟨ad282, e282, hx282_0⟩ := Kd.at_int (Kd.R_reads' HO_9.out).2.2 x12_4 p282 q282
                                            obtain rfl : ad281 = ad282 := (by injection e282)
                                            replace p282 := eq_true p282
                                            replace q282 := eq_true q282
                                            go_wp2
                                            repeat (go_quiet (fail); try go_wp2)
                                            go_roundg k4
                                            case measure => have := HJ3.out; have := HJ11.out; have := HK3.out; have := HK4.out; omega
                                            case rel => exact ⟨(wrap64 (x12_4 + 1)), (by first | rfl | (simp; done) | (simp [*]; done)), H', ⟨by have := HJ3.out; have := HJ11.out; have := HK3.out; have := HK4.out; omega⟩, ⟨by (with_reducible repeat (first | apply Kd.R_alloc | apply Kd.R_drewN | apply Kd.R_drew)); exact HO_7.out⟩, ⟨by (with_reducible repeat (first | apply Kd.R_alloc | apply Kd.R_drewN | apply Kd.R_drew)); exact HO_9.out⟩, ⟨by repeat (first | (with_reducible first | exact HB.out | apply below_alloc | apply pw_below_drewN | apply below_drew1) | exact HB.out)⟩⟩
                                          · rw [if_neg c42] at H
                                            have c42b0 : ((rd t270 x11_3) == (rd t270 x12_4)) = false := beq_eq_false_iff_ne.mpr c42
                                            have c42b1 : ((rd t270 x11_3) != (rd t270 x12_4)) = true := bne_iff_ne.mpr c42
                                            obtain rfl := Option.some.inj H
                                            obtain ⟨Ao45, co45, eo45⟩ := Kd.R_slice HO_7.out
                                            subst eo45
                                            have p275 : 0 ≤ (x11_3 : Int) := of_decide_eq_true (by first | (with_reducible assumption) | assumption)
                                            have q275 : x11_3 < (t266.length : Int) := of_decide_eq_true (by first | (with_reducible assumption) | assumption)
                                            obtain ⟨ad275, e275, hx275_0⟩ := Kd.at_int (Kd.R_reads' HO_7.out).2.2 x11_3 p275 q275
                                            cases e275
                                            replace p275 := eq_true p275
                                            replace q275 := eq_true q275
                                            have p276 : 0 ≤ (x12_4 : Int) := of_decide_eq_true (by first | (with_reducible assumption) | assumption)
                                            have q276 : x12_4 < (t266.length : Int) := of_decide_eq_true (by first | (with_reducible assumption) | assumption)
                                            obtain ⟨ad276, e276, hx276_0⟩ := Kd.at_int (Kd.R_reads' HO_7.out).2.2 x12_4 p276 q276
                                            obtain rfl : ad275 = ad276 := (by injection e276)
                                            replace p276 := eq_true p276
                                            replace q276 := eq_true q276
                                            obtain ⟨Ao46, co46, eo46⟩ := Kd.R_slice HO_9.out
                                            subst eo46
                                            have p281 : 0 ≤ (x11_3 : Int) := of_decide_eq_true (by first | (with_reducible assumption) | assumption)
                                            have q281 : x11_3 < (t270.length : Int) := of_decide_eq_true (by first | (with_reducible assumption) | assumption)
                                            obtain ⟨ad281, e281, hx281_0⟩ := Kd.at_int (Kd.R_reads' HO_9.out).2.2 x11_3 p281 q281
                                            cases e281
                                            replace p281 := eq_true p281
                                            replace q281 := eq_true q281
                                            have p282 : 0 ≤ (x12_4 : Int) := of_decide_eq_true (by first | (with_reducible assumption) | assumption)
                                            have q282 : x12_4 < (t270.length : Int) := of_decide_eq_true (by first | (with_reducible assumption) | assumption)
                                            obtain ⟨ad282, e282, hx282_0⟩ := Kd.at_int (Kd.R_reads' HO_9.out).2.2 x12_4 p282 q282
                                            obtain rfl : ad281 = ad282 := (by injection e282)
                                            replace p282 := eq_true p282
                                            replace q282 := eq_true q282
                                            go_wp2
                                            repeat (go_quiet (fail); try go_wp2)
                                            go_ret
                                            exact ⟨by first | rfl | (simp [errW_none, errW_some] <;> rfl) | (simp [*, errW_none, errW_some] <;> rfl), by repeat (first | (with_reducible first | exact HB.out | apply below_alloc | apply pw_below_drewN | apply below_drew1) | exact HB.out)⟩
                                        · rw [if_neg c41] at H
                                          exact absurd H (by simp)
                                      · rw [if_neg c40] at H
                                        exact absurd H (by simp)
                                    · rw [if_neg c39] at H
                                      have c39b0 : decide (2000 ≤ a2) = false := decide_eq_false c39
                                      clear c39
                                      have H' := Aside0.mk H
                                      clear H
                                      obtain ⟨Ao47, co47, eo47⟩ := Kd.R_slice HO_7.out
                                      subst eo47
                                      have p275 : 0 ≤ (x11_3 : Int) := of_decide_eq_true (by first | (with_reducible assumption) | assumption)
                                      have q275 : x11_3 < (t266.length : Int) := of_decide_eq_true (by first | (with_reducible assumption) | assumption)
                                      obtain ⟨ad275, e275, hx275_0⟩ := Kd.at_int (Kd.R_reads' HO_7.out).2.2 x11_3 p275 q275
                                      cases e275
                                      replace p275 := eq_true p275
                                      replace q275 := eq_true q275
                                      have p276 : 0 ≤ (x12_4 : Int) := of_decide_eq_true (by first | (with_reducible assumption) | assumption)
                                      have q276 : x12_4 < (t266.length : Int) := of_decide_eq_true (by first | (with_reducible assumption) | assumption)
                                      obtain ⟨ad276, e276, hx276_0⟩ := Kd.at_int (Kd.R_reads' HO_7.out).2.2 x12_4 p276 q276
                                      obtain rfl : ad275 = ad276 := (by injection e276)
                                      replace p276 := eq_true p276
                                      replace q276 := eq_true q276
                                      go_wp2
                                      repeat (go_quiet (fail); try go_wp2)
                                      go_roundg k4
                                      case measure => have := HJ3.out; have := HJ11.out; have := HK3.out; have := HK4.out; omega
                                      case rel => exact ⟨(wrap64 (x12_4 + 1)), (by first | rfl | (simp; done) | (simp [*]; done)), H', ⟨by have := HJ3.out; have := HJ11.out; have := HK3.out; have := HK4.out; omega⟩, ⟨by (with_reducible repeat (first | apply Kd.R_alloc | apply Kd.R_drewN | apply Kd.R_drew)); exact HO_7.out⟩, ⟨by (with_reducible repeat (first | apply Kd.R_alloc | apply Kd.R_drewN | apply Kd.R_drew)); exact HO_9.out⟩, ⟨by repeat (first | (with_reducible first | exact HB.out | apply below_alloc | apply pw_below_drewN | apply below_drew1) | exact HB.out)⟩⟩
                                · rw [if_neg c27] at H
                                  exact absurd H (by simp)
                              · rw [if_neg c26] at H
                                exact absurd H (by simp)
                            · rw [if_neg c25] at H
                              exact absurd H (by simp)
                          · rw [if_neg c24] at H
                            exact absurd H (by simp)
                        · rw [if_neg c23] at H
                          have c23b0 : decide (x12_4 < x11_3) = false := decide_eq_false c23
                          clear c23
                          have H' := Aside0.mk H
                          clear H
                          go_wp2
                          repeat (go_quiet (fail); try go_wp2)
                          go_roundg k4
                          case measure => have := HJ3.out; have := HJ11.out; have := HK3.out; have := HK4.out; omega
                          case rel => exact ⟨(wrap64 (x11_3 + 1)), (by first | rfl | (simp; done) | (simp [*]; done)), H', ⟨by have := HJ3.out; have := HJ11.out; have := HK3.out; have := HK4.out; omega⟩, ⟨by (with_reducible repeat (first | apply Kd.R_alloc | apply Kd.R_drewN | apply Kd.R_drew)); exact HO_7.out⟩, ⟨by (with_reducible repeat (first | apply Kd.R_alloc | apply Kd.R_drewN | apply Kd.R_drew)); exact HO_9.out⟩, ⟨by repeat (first | (with_reducible first | exact HB.out | apply below_alloc | apply pw_below_drewN | apply below_drew1) | exact HB.out)⟩⟩
                  · rw [if_neg c22] at H
                    have c22b0 : decide (x11_3 < (l0.length : Int)) = false := decide_eq_false c22
                    clear c22
                    replace H := Option.bind_eq_some_iff.mp H
                    obtain ⟨t274, A480, H⟩ := H
                    replace H : (some t274) = some r := H
                    have A48 := Aside0.mk A480
                    clear A480
                    obtain rfl := Option.some.inj H
                    go_wp2_with (first | (go_at_call 9; (with_reducible refine (garmentlaw29_awake.calls k3  t274 _ A48.out).mono ?_); rintro e w49 ⟨rfl, hb⟩; have n0_ := Aside0.mk (Kd.R_below (by (with_reducible repeat (first | apply Kd.R_alloc | apply Kd.R_drewN | apply Kd.R_drew)); exact HO_7.out) hb); have n1_ := Aside0.mk (Kd.R_below (by (with_reducible repeat (first | apply Kd.R_alloc | apply Kd.R_drewN | apply Kd.R_drew)); exact HO_9.out) hb); have n2_ := Aside0.mk (below_step (by repeat (first | (with_reducible first | exact HB.out | apply below_alloc | apply pw_below_drewN | apply below_drew1) | exact HB.out)) hb); clear HO_7; clear HO_9; clear HB; have HO_7 := n0_; have HO_9 := n1_; have HB := n2_; clear n0_ n1_ n2_; (try clear hb); (try clear hb2); (try clear hk); (try clear hi)))
                    repeat (go_quiet (first | (go_at_call 9; (with_reducible refine (garmentlaw29_awake.calls k3  t274 _ A48.out).mono ?_); rintro e w49 ⟨rfl, hb⟩; have n0_ := Aside0.mk (Kd.R_below (by (with_reducible repeat (first | apply Kd.R_alloc | apply Kd.R_drewN | apply Kd.R_drew)); exact HO_7.out) hb); have n1_ := Aside0.mk (Kd.R_below (by (with_reducible repeat (first | apply Kd.R_alloc | apply Kd.R_drewN | apply Kd.R_drew)); exact HO_9.out) hb); have n2_ := Aside0.mk (below_step (by repeat (first | (with_reducible first | exact HB.out | apply below_alloc | apply pw_below_drewN | apply below_drew1) | exact HB.out)) hb); clear HO_7; clear HO_9; clear HB; have HO_7 := n0_; have HO_9 := n1_; have HB := n2_; clear n0_ n1_ n2_; (try clear hb); (try clear hb2); (try clear hk); (try clear hi))); try go_wp2_with (first | (go_at_call 9; (with_reducible refine (garmentlaw29_awake.calls k3  t274 _ A48.out).mono ?_); rintro e w49 ⟨rfl, hb⟩; have n0_ := Aside0.mk (Kd.R_below (by (with_reducible repeat (first | apply Kd.R_alloc | apply Kd.R_drewN | apply Kd.R_drew)); exact HO_7.out) hb); have n1_ := Aside0.mk (Kd.R_below (by (with_reducible repeat (first | apply Kd.R_alloc | apply Kd.R_drewN | apply Kd.R_drew)); exact HO_9.out) hb); have n2_ := Aside0.mk (below_step (by repeat (first | (with_reducible first | exact HB.out | apply below_alloc | apply pw_below_drewN | apply below_drew1) | exact HB.out)) hb); clear HO_7; clear HO_9; clear HB; have HO_7 := n0_; have HO_9 := n1_; have HB := n2_; clear n0_ n1_ n2_; (try clear hb); (try clear hb2); (try clear hk); (try clear hi))))
                    go_ret
                    exact ⟨by first | rfl | (simp [errW_none, errW_some] <;> rfl) | (simp [*, errW_none, errW_some] <;> rfl), by repeat (first | (with_reducible first | exact HB.out | apply below_alloc | apply pw_below_drewN | apply below_drew1) | exact HB.out)⟩

end Go.Proofs.Ytoekbmgcfinfmaa.Sh
