-- Printed by print.py out of the translation; a bound name was changed by hand at 2 places (A1_). Lean checks it.
import Derived.Test.YtoekbmgcfinfmabBu0
import Derived.Test.YtoekbmgcfinfmabBu2
import Derived.Test.YtoekbmgcfinfmabBu5
import Derived.Test.YtoekbmgcfinfmabBu8
import Derived.Test.YtoekbmgcfinfmabBu11
namespace Go.Proofs.Ytoekbmgcfinfmab.Bu
open Go.RowKit Go.Proofs.YtoekbmgcfinfmabW.PrintWords Go.Proofs.YtoekbmgcfinfmabW.PrintLast Go.Proofs.YtoekbmgcfinfmabW.PrintMore
attribute [local go_sem] max2_int min2_int max_two min_two max_three min_three max_four min_four   -- for this text's walks alone
set_option linter.unusedVariables false
set_option linter.unusedSimpArgs false

/-! ### garmentlaw44_BundleTickets: function 6 -/
mutual
def garmentlaw44_BundleTickets.j0 : Nat → List (S42) → Int → Bool → Int → Int → Int → Int → List Int → List (S71) → List (S45) → Option (Bool)
  | 0, _, _, _, _, _, _, _, _, _, _ => none
  | k + 1, x1, x2, x27, x267000, x267001, x267002, x267003, x267004, x267005, x267006 => if x27 = true then ((garmentlaw44_alive.f k).bind fun t269 => (some t269)) else (garmentlaw44_BundleTickets.l0 k x1 x2 0 x267000 x267001 x267002 x267003 x267004 x267005 x267006)
def garmentlaw44_BundleTickets.l0 : Nat → List (S42) → Int → Int → Int → Int → Int → Int → List Int → List (S71) → List (S45) → Option (Bool)
  | 0, _, _, _, _, _, _, _, _, _, _ => none
  | k + 1, x1, x2, x7, x267000, x267001, x267002, x267003, x267004, x267005, x267006 => if x7 < (x1.length : Int) then (if 0 ≤ x7 then (garmentlaw44_BundleTickets.l1 k x1 x2 x7 ((rd_T42 x1 x7).f4) x267000 x267001 x267002 x267003 x267004 x267005 x267006) else (none)) else (if (x1.length : Int) = 0 then (if (x267004.length : Int) = 0 then ((garmentlaw44_alive.f k).bind fun t277 => (some t277)) else (if (x267006.length : Int) = 0 then ((garmentlaw44_alive.f k).bind fun t278 => (some t278)) else (some false))) else ((some (([] : List (S42)) : List (S42))).bind fun y279 => (if 0 ≤ (Int.tmod (wrap64 (x2)) (x1.length : Int)) then (if (Int.tmod (wrap64 (x2)) (x1.length : Int)) ≤ (x1.length : Int) then ((some (x1.take ((Int.tmod (wrap64 (x2)) (x1.length : Int)) : Int).toNat : List (S42))).bind fun y282 => (if y279.length + y282.length < 2932031007402 then ((some (y279 ++ y282 : List (S42))).bind fun y286 => (if 0 ≤ (wrap64 ((Int.tmod (wrap64 (x2)) (x1.length : Int)) + 1)) then (if (wrap64 ((Int.tmod (wrap64 (x2)) (x1.length : Int)) + 1)) ≤ (x1.length : Int) then ((some (x1.drop ((wrap64 ((Int.tmod (wrap64 (x2)) (x1.length : Int)) + 1)) : Int).toNat : List (S42))).bind fun y289 => (if y286.length + y289.length < 2932031007402 then ((bundle_Check.f k x267000 x267001 x267002 x267003 x267004 x267005 x267006 (y286 ++ y289)).bind fun t296 => (if t296 = 20 then ((garmentlaw44_alive.f k).bind fun t297 => (some t297)) else (some false))) else (none))) else (none)) else (none))) else (none))) else (none)) else (none))))
def garmentlaw44_BundleTickets.l1 : Nat → List (S42) → Int → Int → Int → Int → Int → Int → Int → List Int → List (S71) → List (S45) → Option (Bool)
  | 0, _, _, _, _, _, _, _, _, _, _, _ => none
  | k + 1, x1, x2, x7, x8, x267000, x267001, x267002, x267003, x267004, x267005, x267006 => if 0 ≤ x7 then (if x7 < (x1.length : Int) then (if x8 < ((rd_T42 x1 x7).f5) then (garmentlaw44_BundleTickets.j3 k x1 x2 x7 x8 (decide (x8 < (x267006.length : Int))) x267000 x267001 x267002 x267003 x267004 x267005 x267006) else (garmentlaw44_BundleTickets.j3 k x1 x2 x7 x8 false x267000 x267001 x267002 x267003 x267004 x267005 x267006)) else (none)) else (none)
def garmentlaw44_BundleTickets.j3 : Nat → List (S42) → Int → Int → Int → Bool → Int → Int → Int → Int → List Int → List (S71) → List (S45) → Option (Bool)
  | 0, _, _, _, _, _, _, _, _, _, _, _, _ => none
  | k + 1, x1, x2, x7, x8, x53, x267000, x267001, x267002, x267003, x267004, x267005, x267006 => if x53 = true then (if 0 ≤ x7 then (if x7 < (x1.length : Int) then ((bundle_Find.f k x1 ((rd_T42 x1 x7).f1) x8).bind fun bt273 => (if bt273.2 = true then (if bt273.1 = x7 then (garmentlaw44_BundleTickets.l1 k x1 x2 x7 (wrap64 (x8 + 1)) x267000 x267001 x267002 x267003 x267004 x267005 x267006) else (some false)) else (some false))) else (none)) else (none)) else (garmentlaw44_BundleTickets.l2 k x1 x2 x7 0 x267000 x267001 x267002 x267003 x267004 x267005 x267006)
def garmentlaw44_BundleTickets.l2 : Nat → List (S42) → Int → Int → Int → Int → Int → Int → Int → List Int → List (S71) → List (S45) → Option (Bool)
  | 0, _, _, _, _, _, _, _, _, _, _, _ => none
  | k + 1, x1, x2, x7, x11, x267000, x267001, x267002, x267003, x267004, x267005, x267006 => if x11 < x7 then (if 0 ≤ x11 then (if x11 < (x1.length : Int) then (if 0 ≤ x7 then (if x7 < (x1.length : Int) then (if ((rd_T42 x1 x11).f0) = ((rd_T42 x1 x7).f0) then (some false) else (garmentlaw44_BundleTickets.l2 k x1 x2 x7 (wrap64 (x11 + 1)) x267000 x267001 x267002 x267003 x267004 x267005 x267006)) else (none)) else (none)) else (none)) else (none)) else (garmentlaw44_BundleTickets.l0 k x1 x2 (wrap64 (x7 + 1)) x267000 x267001 x267002 x267003 x267004 x267005 x267006)
end
def garmentlaw44_BundleTickets.f (k : Nat) (a0_0 : Int) (a0_1 : Int) (a0_2 : Int) (a0_3 : Int) (l0_4 : List Int) (l0_5 : List (S71)) (l0_6 : List (S45)) (l1 : List (S42)) (a2 : Int) : Option (Bool) := (garmentref44_Light.f a0_0 a0_1 a0_2 a0_3 l0_4 l0_5 l0_6).bind fun t267 => (if t267 = true then (if (l1.length : Int) > 100 then (garmentlaw44_BundleTickets.j0 k l1 a2 true a0_0 a0_1 a0_2 a0_3 l0_4 l0_5 l0_6) else ((bundle_Check.f k a0_0 a0_1 a0_2 a0_3 l0_4 l0_5 l0_6 l1).bind fun t268 => (garmentlaw44_BundleTickets.j0 k l1 a2 (t268 != 0) a0_0 a0_1 a0_2 a0_3 l0_4 l0_5 l0_6))) else (garmentlaw44_BundleTickets.j0 k l1 a2 true a0_0 a0_1 a0_2 a0_3 l0_4 l0_5 l0_6))
theorem garmentlaw44_BundleTickets.mono_l : ∀ k, (∀ y0 y1 y2 y3 y4 y5 y6 y7 y8 y9, LeO (garmentlaw44_BundleTickets.j0 k y0 y1 y2 y3 y4 y5 y6 y7 y8 y9) (garmentlaw44_BundleTickets.j0 (k + 1) y0 y1 y2 y3 y4 y5 y6 y7 y8 y9)) ∧ (∀ y0 y1 y2 y3 y4 y5 y6 y7 y8 y9, LeO (garmentlaw44_BundleTickets.l0 k y0 y1 y2 y3 y4 y5 y6 y7 y8 y9) (garmentlaw44_BundleTickets.l0 (k + 1) y0 y1 y2 y3 y4 y5 y6 y7 y8 y9)) ∧ (∀ y0 y1 y2 y3 y4 y5 y6 y7 y8 y9 y10, LeO (garmentlaw44_BundleTickets.l1 k y0 y1 y2 y3 y4 y5 y6 y7 y8 y9 y10) (garmentlaw44_BundleTickets.l1 (k + 1) y0 y1 y2 y3 y4 y5 y6 y7 y8 y9 y10)) ∧ (∀ y0 y1 y2 y3 y4 y5 y6 y7 y8 y9 y10 y11, LeO (garmentlaw44_BundleTickets.j3 k y0 y1 y2 y3 y4 y5 y6 y7 y8 y9 y10 y11) (garmentlaw44_BundleTickets.j3 (k + 1) y0 y1 y2 y3 y4 y5 y6 y7 y8 y9 y10 y11)) ∧ (∀ y0 y1 y2 y3 y4 y5 y6 y7 y8 y9 y10, LeO (garmentlaw44_BundleTickets.l2 k y0 y1 y2 y3 y4 y5 y6 y7 y8 y9 y10) (garmentlaw44_BundleTickets.l2 (k + 1) y0 y1 y2 y3 y4 y5 y6 y7 y8 y9 y10))
  | 0 => ⟨fun _ _ _ _ _ _ _ _ _ _ r h => by simp [garmentlaw44_BundleTickets.j0] at h, fun _ _ _ _ _ _ _ _ _ _ r h => by simp [garmentlaw44_BundleTickets.l0] at h, fun _ _ _ _ _ _ _ _ _ _ _ r h => by simp [garmentlaw44_BundleTickets.l1] at h, fun _ _ _ _ _ _ _ _ _ _ _ _ r h => by simp [garmentlaw44_BundleTickets.j3] at h, fun _ _ _ _ _ _ _ _ _ _ _ r h => by simp [garmentlaw44_BundleTickets.l2] at h⟩
  | k + 1 => by
    obtain ⟨ih0, ih1, ih2, ih3, ih4⟩ := garmentlaw44_BundleTickets.mono_l k
    refine ⟨?_, ?_, ?_, ?_, ?_⟩
    · intro y0 y1 y2 y3 y4 y5 y6 y7 y8 y9
      unfold garmentlaw44_BundleTickets.j0
      repeat' first
      | (with_reducible exact ih0 _ _ _ _ _ _ _ _ _ _)
      | (with_reducible exact ih1 _ _ _ _ _ _ _ _ _ _)
      | (with_reducible exact ih2 _ _ _ _ _ _ _ _ _ _ _)
      | (with_reducible exact ih3 _ _ _ _ _ _ _ _ _ _ _ _)
      | (with_reducible exact ih4 _ _ _ _ _ _ _ _ _ _ _)
      | (with_reducible exact bundle_Check.mono _ _ _ _ _ _ _ _ _)
      | (with_reducible exact bundle_Find.mono _ _ _ _)
      | (with_reducible exact garmentlaw44_alive.mono _)
      | (with_reducible exact LeO.refl _)
      | (with_reducible exact LeO.none _)
      | (with_reducible refine LeO.ite ?_ ?_)
      | (with_reducible refine LeO.bind ?_ (fun _ => ?_))
      | exact ih0 _ _ _ _ _ _ _ _ _ _
      | exact ih1 _ _ _ _ _ _ _ _ _ _
      | exact ih2 _ _ _ _ _ _ _ _ _ _ _
      | exact ih3 _ _ _ _ _ _ _ _ _ _ _ _
      | exact ih4 _ _ _ _ _ _ _ _ _ _ _
      | exact bundle_Check.mono _ _ _ _ _ _ _ _ _
      | exact bundle_Find.mono _ _ _ _
      | exact garmentlaw44_alive.mono _
      | exact LeO.none _
      | refine LeO.ite ?_ ?_
      | refine LeO.bind ?_ (fun _ => ?_)
    · intro y0 y1 y2 y3 y4 y5 y6 y7 y8 y9
      unfold garmentlaw44_BundleTickets.l0
      repeat' first
      | (with_reducible exact ih0 _ _ _ _ _ _ _ _ _ _)
      | (with_reducible exact ih1 _ _ _ _ _ _ _ _ _ _)
      | (with_reducible exact ih2 _ _ _ _ _ _ _ _ _ _ _)
      | (with_reducible exact ih3 _ _ _ _ _ _ _ _ _ _ _ _)
      | (with_reducible exact ih4 _ _ _ _ _ _ _ _ _ _ _)
      | (with_reducible exact bundle_Check.mono _ _ _ _ _ _ _ _ _)
      | (with_reducible exact bundle_Find.mono _ _ _ _)
      | (with_reducible exact garmentlaw44_alive.mono _)
      | (with_reducible exact LeO.refl _)
      | (with_reducible exact LeO.none _)
      | (with_reducible refine LeO.ite ?_ ?_)
      | (with_reducible refine LeO.bind ?_ (fun _ => ?_))
      | exact ih0 _ _ _ _ _ _ _ _ _ _
      | exact ih1 _ _ _ _ _ _ _ _ _ _
      | exact ih2 _ _ _ _ _ _ _ _ _ _ _
      | exact ih3 _ _ _ _ _ _ _ _ _ _ _ _
      | exact ih4 _ _ _ _ _ _ _ _ _ _ _
      | exact bundle_Check.mono _ _ _ _ _ _ _ _ _
      | exact bundle_Find.mono _ _ _ _
      | exact garmentlaw44_alive.mono _
      | exact LeO.none _
      | refine LeO.ite ?_ ?_
      | refine LeO.bind ?_ (fun _ => ?_)
    · intro y0 y1 y2 y3 y4 y5 y6 y7 y8 y9 y10
      unfold garmentlaw44_BundleTickets.l1
      repeat' first
      | (with_reducible exact ih0 _ _ _ _ _ _ _ _ _ _)
      | (with_reducible exact ih1 _ _ _ _ _ _ _ _ _ _)
      | (with_reducible exact ih2 _ _ _ _ _ _ _ _ _ _ _)
      | (with_reducible exact ih3 _ _ _ _ _ _ _ _ _ _ _ _)
      | (with_reducible exact ih4 _ _ _ _ _ _ _ _ _ _ _)
      | (with_reducible exact bundle_Check.mono _ _ _ _ _ _ _ _ _)
      | (with_reducible exact bundle_Find.mono _ _ _ _)
      | (with_reducible exact garmentlaw44_alive.mono _)
      | (with_reducible exact LeO.refl _)
      | (with_reducible exact LeO.none _)
      | (with_reducible refine LeO.ite ?_ ?_)
      | (with_reducible refine LeO.bind ?_ (fun _ => ?_))
      | exact ih0 _ _ _ _ _ _ _ _ _ _
      | exact ih1 _ _ _ _ _ _ _ _ _ _
      | exact ih2 _ _ _ _ _ _ _ _ _ _ _
      | exact ih3 _ _ _ _ _ _ _ _ _ _ _ _
      | exact ih4 _ _ _ _ _ _ _ _ _ _ _
      | exact bundle_Check.mono _ _ _ _ _ _ _ _ _
      | exact bundle_Find.mono _ _ _ _
      | exact garmentlaw44_alive.mono _
      | exact LeO.none _
      | refine LeO.ite ?_ ?_
      | refine LeO.bind ?_ (fun _ => ?_)
    · intro y0 y1 y2 y3 y4 y5 y6 y7 y8 y9 y10 y11
      unfold garmentlaw44_BundleTickets.j3
      repeat' first
      | (with_reducible exact ih0 _ _ _ _ _ _ _ _ _ _)
      | (with_reducible exact ih1 _ _ _ _ _ _ _ _ _ _)
      | (with_reducible exact ih2 _ _ _ _ _ _ _ _ _ _ _)
      | (with_reducible exact ih3 _ _ _ _ _ _ _ _ _ _ _ _)
      | (with_reducible exact ih4 _ _ _ _ _ _ _ _ _ _ _)
      | (with_reducible exact bundle_Check.mono _ _ _ _ _ _ _ _ _)
      | (with_reducible exact bundle_Find.mono _ _ _ _)
      | (with_reducible exact garmentlaw44_alive.mono _)
      | (with_reducible exact LeO.refl _)
      | (with_reducible exact LeO.none _)
      | (with_reducible refine LeO.ite ?_ ?_)
      | (with_reducible refine LeO.bind ?_ (fun _ => ?_))
      | exact ih0 _ _ _ _ _ _ _ _ _ _
      | exact ih1 _ _ _ _ _ _ _ _ _ _
      | exact ih2 _ _ _ _ _ _ _ _ _ _ _
      | exact ih3 _ _ _ _ _ _ _ _ _ _ _ _
      | exact ih4 _ _ _ _ _ _ _ _ _ _ _
      | exact bundle_Check.mono _ _ _ _ _ _ _ _ _
      | exact bundle_Find.mono _ _ _ _
      | exact garmentlaw44_alive.mono _
      | exact LeO.none _
      | refine LeO.ite ?_ ?_
      | refine LeO.bind ?_ (fun _ => ?_)
    · intro y0 y1 y2 y3 y4 y5 y6 y7 y8 y9 y10
      unfold garmentlaw44_BundleTickets.l2
      repeat' first
      | (with_reducible exact ih0 _ _ _ _ _ _ _ _ _ _)
      | (with_reducible exact ih1 _ _ _ _ _ _ _ _ _ _)
      | (with_reducible exact ih2 _ _ _ _ _ _ _ _ _ _ _)
      | (with_reducible exact ih3 _ _ _ _ _ _ _ _ _ _ _ _)
      | (with_reducible exact ih4 _ _ _ _ _ _ _ _ _ _ _)
      | (with_reducible exact bundle_Check.mono _ _ _ _ _ _ _ _ _)
      | (with_reducible exact bundle_Find.mono _ _ _ _)
      | (with_reducible exact garmentlaw44_alive.mono _)
      | (with_reducible exact LeO.refl _)
      | (with_reducible exact LeO.none _)
      | (with_reducible refine LeO.ite ?_ ?_)
      | (with_reducible refine LeO.bind ?_ (fun _ => ?_))
      | exact ih0 _ _ _ _ _ _ _ _ _ _
      | exact ih1 _ _ _ _ _ _ _ _ _ _
      | exact ih2 _ _ _ _ _ _ _ _ _ _ _
      | exact ih3 _ _ _ _ _ _ _ _ _ _ _ _
      | exact ih4 _ _ _ _ _ _ _ _ _ _ _
      | exact bundle_Check.mono _ _ _ _ _ _ _ _ _
      | exact bundle_Find.mono _ _ _ _
      | exact garmentlaw44_alive.mono _
      | exact LeO.none _
      | refine LeO.ite ?_ ?_
      | refine LeO.bind ?_ (fun _ => ?_)
theorem garmentlaw44_BundleTickets.mono : ∀ a0 a1 a2 a3 a4 a5 a6 a7 a8 k, LeO (garmentlaw44_BundleTickets.f k a0 a1 a2 a3 a4 a5 a6 a7 a8) (garmentlaw44_BundleTickets.f (k + 1) a0 a1 a2 a3 a4 a5 a6 a7 a8) := by
  intro a0 a1 a2 a3 a4 a5 a6 a7 a8 k
  obtain ⟨ih0, ih1, ih2, ih3, ih4⟩ := garmentlaw44_BundleTickets.mono_l k
  unfold garmentlaw44_BundleTickets.f
  repeat' first
      | (with_reducible exact ih0 _ _ _ _ _ _ _ _ _ _)
      | (with_reducible exact ih1 _ _ _ _ _ _ _ _ _ _)
      | (with_reducible exact ih2 _ _ _ _ _ _ _ _ _ _ _)
      | (with_reducible exact ih3 _ _ _ _ _ _ _ _ _ _ _ _)
      | (with_reducible exact ih4 _ _ _ _ _ _ _ _ _ _ _)
      | (with_reducible exact bundle_Check.mono _ _ _ _ _ _ _ _ _)
      | (with_reducible exact bundle_Find.mono _ _ _ _)
      | (with_reducible exact garmentlaw44_alive.mono _)
      | (with_reducible exact LeO.refl _)
      | (with_reducible exact LeO.none _)
      | (with_reducible refine LeO.ite ?_ ?_)
      | (with_reducible refine LeO.bind ?_ (fun _ => ?_))
      | exact ih0 _ _ _ _ _ _ _ _ _ _
      | exact ih1 _ _ _ _ _ _ _ _ _ _
      | exact ih2 _ _ _ _ _ _ _ _ _ _ _
      | exact ih3 _ _ _ _ _ _ _ _ _ _ _ _
      | exact ih4 _ _ _ _ _ _ _ _ _ _ _
      | exact bundle_Check.mono _ _ _ _ _ _ _ _ _
      | exact bundle_Find.mono _ _ _ _
      | exact garmentlaw44_alive.mono _
      | exact LeO.none _
      | refine LeO.ite ?_ ?_
      | refine LeO.bind ?_ (fun _ => ?_)
def garmentlaw44_BundleTickets.T15 : Bool × List (List Nat × List Nat) := (true, [([], []), ([], []), ([0, 1], [0, 1]), ([2], [2]), ([3], [3]), ([], []), ([], []), ([5, 6], [5, 6]), ([7], [7]), ([8], [8]), ([4, 9], [4, 9])])
def garmentlaw44_BundleTickets.B15 : List Nat := [0, 0, 3, 7, 15, 0, 0, 96, 224, 480, 1023]
theorem garmentlaw44_BundleTickets.tab15 : rtab .any (opsOf Try.f6 15) = garmentlaw44_BundleTickets.T15 := by kernel_rfl
theorem garmentlaw44_BundleTickets.bits15 : waitsOk garmentlaw44_BundleTickets.T15.2 garmentlaw44_BundleTickets.B15 = true := by kernel_rfl
def garmentlaw44_BundleTickets.T20 : Bool × List (List Nat × List Nat) := (true, [([], []), ([], []), ([], []), ([1, 2], [1, 2]), ([0, 3], [0, 3]), ([], []), ([], []), ([6], [6]), ([5, 7], [5, 7]), ([4, 8, 4], [4, 8]), ([9, 9, 0, 1, 2, 3, 4, 5, 6, 7, 8, 9], [9])])
def garmentlaw44_BundleTickets.B20 : List Nat := [0, 0, 0, 6, 15, 0, 0, 64, 224, 511, 1023]
theorem garmentlaw44_BundleTickets.tab20 : rtab .any (opsOf Try.f6 20) = garmentlaw44_BundleTickets.T20 := by kernel_rfl
theorem garmentlaw44_BundleTickets.bits20 : waitsOk garmentlaw44_BundleTickets.T20.2 garmentlaw44_BundleTickets.B20 = true := by kernel_rfl
set_option maxHeartbeats 8000000 in
set_option maxRecDepth 100000 in
theorem garmentlaw44_BundleTickets.calls (k : Nat) (a0_0 : Int) (a0_1 : Int) (a0_2 : Int) (a0_3 : Int) (A0_4 : Option Addr) (c0_4 : Nat) (l0_4 : List Int) (A0_5 : Option Addr) (c0_5 : Nat) (l0_5 : List (S71)) (A0_6 : Option Addr) (c0_6 : Nat) (l0_6 : List (S45)) (A1 : Option Addr) (c1 : Nat) (l1 : List (S42)) (a2 : Int) (r : Bool) (w : World) (hr0_4 : Kd.C (Kd.int .i64) w A0_4 l0_4.length l0_4) (hc0_4 : l0_4.length ≤ c0_4) (hr0_5 : Kd.C k71 w A0_5 l0_5.length l0_5) (hc0_5 : l0_5.length ≤ c0_5) (hr0_6 : Kd.C k45 w A0_6 l0_6.length l0_6) (hc0_6 : l0_6.length ≤ c0_6) (hr1 : Kd.C k42 w A1 l1.length l1) (hc1 : l1.length ≤ c1) (h : garmentlaw44_BundleTickets.f k a0_0 a0_1 a0_2 a0_3 l0_4 l0_5 l0_6 l1 a2 = some r) :
    Calls Try.prog 6 #[.agg #[.int .i64 a0_0, .int .i64 a0_1, .int .i64 a0_2, .int .i64 a0_3, .slice A0_4 l0_4.length c0_4, .slice A0_5 l0_5.length c0_5, .slice A0_6 l0_6.length c0_6], .slice A1 l1.length c1, .int .u8 a2] w fun e w' => e = .returned (.bool r) ∧ Below w.heap.size w w' := by
  have hu35 := Try.underlying35
  have HR0_4 := Aside0.mk hr0_4
  have HC0_4 := Aside0.mk hc0_4
  clear hr0_4 hc0_4
  have HR0_5 := Aside0.mk hr0_5
  have HC0_5 := Aside0.mk hc0_5
  clear hr0_5 hc0_5
  have HR0_6 := Aside0.mk hr0_6
  have HC0_6 := Aside0.mk hc0_6
  clear hr0_6 hc0_6
  have HR1 := Aside0.mk hr1
  have HC1 := Aside0.mk hc1
  clear hr1 hc1
  have HB := Aside0.mk (Below.refl w.heap.size w)
  have H : ((garmentref44_Light.f a0_0 a0_1 a0_2 a0_3 l0_4 l0_5 l0_6).bind fun t267 => (if t267 = true then (if (l1.length : Int) > 100 then (garmentlaw44_BundleTickets.j0 k l1 a2 true a0_0 a0_1 a0_2 a0_3 l0_4 l0_5 l0_6) else ((bundle_Check.f k a0_0 a0_1 a0_2 a0_3 l0_4 l0_5 l0_6 l1).bind fun t268 => (garmentlaw44_BundleTickets.j0 k l1 a2 (t268 != 0) a0_0 a0_1 a0_2 a0_3 l0_4 l0_5 l0_6))) else (garmentlaw44_BundleTickets.j0 k l1 a2 true a0_0 a0_1 a0_2 a0_3 l0_4 l0_5 l0_6))) = some r := h
  clear h
  have HC4 := Aside0.mk H
  clear H
  go_enter Try.func6, Try.ntmps6
  go_upto_region 1 with (first | ((with_reducible refine gate_dst (N := 3) rfl ?_); (try (refine gate_guard (by rfl) ?_; dsimp only)); refine box_event ?hg (N := 3) ?hd (cs := #[.int .i64 a0_0, .int .i64 a0_1, .int .i64 a0_2, .int .i64 a0_3, .slice A0_4 l0_4.length c0_4, .slice A0_5 l0_5.length c0_5, .slice A0_6 l0_6.length c0_6]) (t := 35) ?hr ?_; (case hd => rfl); (case hg => rfl); (case hr => first | (go_simp; done) | (go_simp; rfl)); intro gb266 hg w5 hbox hb; have n0_ := Aside0.mk (below_step (by repeat (first | (with_reducible first | exact HB.out | apply below_alloc | apply pw_below_drewN | apply below_drew1) | exact HB.out)) hb); have n1_ := Aside0.mk (hbox); have n2_ := Aside0.mk ((by rw [hg]; exact (below_size (by repeat (first | (with_reducible first | exact HB.out | apply below_alloc | apply pw_below_drewN | apply below_drew1) | exact HB.out))) : w.heap.size ≤ gb266)); have n3_ := Aside0.mk ((by rw [hg]; exact (below_size (by repeat (first | (with_reducible first | exact HB.out | apply below_alloc | apply pw_below_drewN | apply below_drew1) | exact HB.out))) : w.heap.size ≤ gb266)); clear HB; have HB := n0_; have BK266 := n1_; have GW266 := n2_; have GE266 := n3_; clear n0_ n1_ n2_ n3_; clear hb hbox hg))
  (try simp only [Act.put, List.setIfInBounds_toArray, List.set_cons_zero, List.set_cons_succ])
  go_cut [27] (fun v27 wc => ∃ (kq : Nat) (x27_3 : Bool), v27 = .bool x27_3 ∧ Aside0 (garmentlaw44_BundleTickets.j0 kq l1 a2 x27_3 a0_0 a0_1 a0_2 a0_3 l0_4 l0_5 l0_6 = some r) ∧ Aside0 (kq ≤ k) ∧ Aside0 (wc.heap[gb266]? = some (.cells #[.int .i64 a0_0, .int .i64 a0_1, .int .i64 a0_2, .int .i64 a0_3, (.slice A0_4 l0_4.length c0_4), (.slice A0_5 l0_5.length c0_5), (.slice A0_6 l0_6.length c0_6)] 35 (0, 0))) ∧ Aside0 (Below w.heap.size w wc))
  case first =>
    have H := HC4.out
    clear HC4
    replace H := Option.bind_eq_some_iff.mp H
    obtain ⟨t267, A60, H⟩ := H
    replace H : (if t267 = true then (if (l1.length : Int) > 100 then (garmentlaw44_BundleTickets.j0 k l1 a2 true a0_0 a0_1 a0_2 a0_3 l0_4 l0_5 l0_6) else ((bundle_Check.f k a0_0 a0_1 a0_2 a0_3 l0_4 l0_5 l0_6 l1).bind fun t268 => (garmentlaw44_BundleTickets.j0 k l1 a2 (t268 != 0) a0_0 a0_1 a0_2 a0_3 l0_4 l0_5 l0_6))) else (garmentlaw44_BundleTickets.j0 k l1 a2 true a0_0 a0_1 a0_2 a0_3 l0_4 l0_5 l0_6)) = some r := H
    have A6 := Aside0.mk A60
    clear A60
    by_cases c7 : t267 = true
    · subst c7
      have H1 : (if (l1.length : Int) > 100 then (garmentlaw44_BundleTickets.j0 k l1 a2 true a0_0 a0_1 a0_2 a0_3 l0_4 l0_5 l0_6) else ((bundle_Check.f k a0_0 a0_1 a0_2 a0_3 l0_4 l0_5 l0_6 l1).bind fun t268 => (garmentlaw44_BundleTickets.j0 k l1 a2 (t268 != 0) a0_0 a0_1 a0_2 a0_3 l0_4 l0_5 l0_6))) = some r := by rw [if_pos rfl] at H; exact H
      clear H
      have H := H1
      clear H1
      by_cases c8 : (l1.length : Int) > 100
      · rw [if_pos c8] at H
        have c8b0 : decide (100 < (l1.length : Int)) = true := decide_eq_true c8
        have c8b1 : decide (100 < l1.length) = true := decide_eq_true (by omega)
        clear c8
        (first | rw [c8b0] | (simp only [i64_w, i32_w]; rw [c8b0]) | skip)
        have H' := Aside0.mk H
        clear H
        have hcz9_0 : w5.cell? ⟨gb266, 0, none⟩ = some (.int .i64 a0_0) := (blk_cell BK266.out 0).trans rfl
        have hcz9_1 : w5.cell? ⟨gb266, 1, none⟩ = some (.int .i64 a0_1) := (blk_cell BK266.out 1).trans rfl
        have hcz9_2 : w5.cell? ⟨gb266, 2, none⟩ = some (.int .i64 a0_2) := (blk_cell BK266.out 2).trans rfl
        have hcz9_3 : w5.cell? ⟨gb266, 3, none⟩ = some (.int .i64 a0_3) := (blk_cell BK266.out 3).trans rfl
        have hcz9_4 : w5.cell? ⟨gb266, 4, none⟩ = some (.slice A0_4 l0_4.length c0_4) := (blk_cell BK266.out 4).trans rfl
        have hcz9_5 : w5.cell? ⟨gb266, 5, none⟩ = some (.slice A0_5 l0_5.length c0_5) := (blk_cell BK266.out 5).trans rfl
        have hcz9_6 : w5.cell? ⟨gb266, 6, none⟩ = some (.slice A0_6 l0_6.length c0_6) := (blk_cell BK266.out 6).trans rfl
        have hfz9_0 := blk_frozen BK266.out 0
        have hfz9_1 := blk_frozen BK266.out 1
        have hfz9_2 := blk_frozen BK266.out 2
        have hfz9_3 := blk_frozen BK266.out 3
        have hfz9_4 := blk_frozen BK266.out 4
        have hfz9_5 := blk_frozen BK266.out 5
        have hfz9_6 := blk_frozen BK266.out 6
        go_wp2_with (first | ((with_reducible refine gate_callee (f := 12) rfl ?_); refine goesL_ (some 15) rfl rfl Try.func12 (by kernel_rfl) rfl #[.agg #[.int .i64 a0_0, .int .i64 a0_1, .int .i64 a0_2, .int .i64 a0_3, .slice A0_4 l0_4.length c0_4, .slice A0_5 l0_5.length c0_5, .slice A0_6 l0_6.length c0_6]] rfl (by (try simp only [List.map_toArray, List.map_cons, List.map_nil]); first | done | rfl | (simp only [List.length_drop, List.length_take]; rfl)) ?_; (with_reducible refine (garmentref44_Light.calls a0_0 a0_1 a0_2 a0_3 _ _ l0_4 _ _ l0_5 _ _ l0_6 true _ ?side1 ?side2 ?side3 ?side4 ?side5 ?side6 A6.out).mono ?_); (case side1 => repeat (first | exact (Kd.C_below HR0_4.out HB.out) | (with_reducible refine Kd.C_alloc ?_ _) | (with_reducible refine Kd.C_drewN ?_ _) | (with_reducible refine Kd.C_drew ?_))); (case side2 => exact HC0_4.out); (case side3 => repeat (first | exact (Kd.C_below HR0_5.out HB.out) | (with_reducible refine Kd.C_alloc ?_ _) | (with_reducible refine Kd.C_drewN ?_ _) | (with_reducible refine Kd.C_drew ?_))); (case side4 => exact HC0_5.out); (case side5 => repeat (first | exact (Kd.C_below HR0_6.out HB.out) | (with_reducible refine Kd.C_alloc ?_ _) | (with_reducible refine Kd.C_drewN ?_ _) | (with_reducible refine Kd.C_drew ?_))); (case side6 => exact HC0_6.out); rintro e w10 ⟨rfl, hb⟩; refine ⟨_, rfl, ?_⟩; have n0_ := Aside0.mk (blk_below (g := gb266) (o := .cells #[.int .i64 a0_0, .int .i64 a0_1, .int .i64 a0_2, .int .i64 a0_3, .slice A0_4 l0_4.length c0_4, .slice A0_5 l0_5.length c0_5, .slice A0_6 l0_6.length c0_6] 35 (0, 0)) (by (with_reducible repeat (first | refine blk_drewN ?_ _ | refine blk_drew ?_ | refine blk_alloc ?_ _)); exact BK266.out) hb); have n1_ := Aside0.mk (below_step (by repeat (first | (with_reducible first | exact HB.out | apply below_alloc | apply pw_below_drewN | apply below_drew1 | refine below_set ?_ GE266.out) | exact HB.out)) hb); clear BK266; clear HB; have BK266 := n0_; have HB := n1_; clear n0_ n1_; (try clear hb); (try clear hb2); (try clear hk); (try clear hi)))
        go_meet
        case rel => exact ⟨_, (true), (by first | rfl | (simp; done) | (simp [*]; done)), H', ⟨by first | omega | exact Nat.le_refl _⟩, ⟨by (with_reducible repeat (first | refine blk_drewN ?_ _ | refine blk_drew ?_ | refine blk_alloc ?_ _)); exact BK266.out⟩, ⟨by repeat (first | (with_reducible first | exact HB.out | apply below_alloc | apply pw_below_drewN | apply below_drew1 | refine below_set ?_ GE266.out) | exact HB.out)⟩⟩
      · rw [if_neg c8] at H
        have c8b0 : decide (100 < (l1.length : Int)) = false := decide_eq_false c8
        have c8b1 : decide (100 < l1.length) = false := decide_eq_false (by omega)
        clear c8
        (first | rw [c8b0] | (simp only [i64_w, i32_w]; rw [c8b0]) | skip)
        replace H := Option.bind_eq_some_iff.mp H
        obtain ⟨t268, A110, H⟩ := H
        replace H : (garmentlaw44_BundleTickets.j0 k l1 a2 (t268 != 0) a0_0 a0_1 a0_2 a0_3 l0_4 l0_5 l0_6) = some r := H
        have A11 := Aside0.mk A110
        clear A110
        have H' := Aside0.mk H
        clear H
        have hcz12_0 : w5.cell? ⟨gb266, 0, none⟩ = some (.int .i64 a0_0) := (blk_cell BK266.out 0).trans rfl
        have hcz12_1 : w5.cell? ⟨gb266, 1, none⟩ = some (.int .i64 a0_1) := (blk_cell BK266.out 1).trans rfl
        have hcz12_2 : w5.cell? ⟨gb266, 2, none⟩ = some (.int .i64 a0_2) := (blk_cell BK266.out 2).trans rfl
        have hcz12_3 : w5.cell? ⟨gb266, 3, none⟩ = some (.int .i64 a0_3) := (blk_cell BK266.out 3).trans rfl
        have hcz12_4 : w5.cell? ⟨gb266, 4, none⟩ = some (.slice A0_4 l0_4.length c0_4) := (blk_cell BK266.out 4).trans rfl
        have hcz12_5 : w5.cell? ⟨gb266, 5, none⟩ = some (.slice A0_5 l0_5.length c0_5) := (blk_cell BK266.out 5).trans rfl
        have hcz12_6 : w5.cell? ⟨gb266, 6, none⟩ = some (.slice A0_6 l0_6.length c0_6) := (blk_cell BK266.out 6).trans rfl
        have hfz12_0 := blk_frozen BK266.out 0
        have hfz12_1 := blk_frozen BK266.out 1
        have hfz12_2 := blk_frozen BK266.out 2
        have hfz12_3 := blk_frozen BK266.out 3
        have hfz12_4 := blk_frozen BK266.out 4
        have hfz12_5 := blk_frozen BK266.out 5
        have hfz12_6 := blk_frozen BK266.out 6
        go_wp2_with (first | ((with_reducible refine gate_callee (f := 12) rfl ?_); refine goesL_ (some 15) rfl rfl Try.func12 (by kernel_rfl) rfl #[.agg #[.int .i64 a0_0, .int .i64 a0_1, .int .i64 a0_2, .int .i64 a0_3, .slice A0_4 l0_4.length c0_4, .slice A0_5 l0_5.length c0_5, .slice A0_6 l0_6.length c0_6]] rfl (by (try simp only [List.map_toArray, List.map_cons, List.map_nil]); first | done | rfl | (simp only [List.length_drop, List.length_take]; rfl)) ?_; (with_reducible refine (garmentref44_Light.calls a0_0 a0_1 a0_2 a0_3 _ _ l0_4 _ _ l0_5 _ _ l0_6 true _ ?side1 ?side2 ?side3 ?side4 ?side5 ?side6 A6.out).mono ?_); (case side1 => repeat (first | exact (Kd.C_below HR0_4.out HB.out) | (with_reducible refine Kd.C_alloc ?_ _) | (with_reducible refine Kd.C_drewN ?_ _) | (with_reducible refine Kd.C_drew ?_))); (case side2 => exact HC0_4.out); (case side3 => repeat (first | exact (Kd.C_below HR0_5.out HB.out) | (with_reducible refine Kd.C_alloc ?_ _) | (with_reducible refine Kd.C_drewN ?_ _) | (with_reducible refine Kd.C_drew ?_))); (case side4 => exact HC0_5.out); (case side5 => repeat (first | exact (Kd.C_below HR0_6.out HB.out) | (with_reducible refine Kd.C_alloc ?_ _) | (with_reducible refine Kd.C_drewN ?_ _) | (with_reducible refine Kd.C_drew ?_))); (case side6 => exact HC0_6.out); rintro e w13 ⟨rfl, hb⟩; refine ⟨_, rfl, ?_⟩; have n0_ := Aside0.mk (blk_below (g := gb266) (o := .cells #[.int .i64 a0_0, .int .i64 a0_1, .int .i64 a0_2, .int .i64 a0_3, .slice A0_4 l0_4.length c0_4, .slice A0_5 l0_5.length c0_5, .slice A0_6 l0_6.length c0_6] 35 (0, 0)) (by (with_reducible repeat (first | refine blk_drewN ?_ _ | refine blk_drew ?_ | refine blk_alloc ?_ _)); exact BK266.out) hb); have n1_ := Aside0.mk (below_step (by repeat (first | (with_reducible first | exact HB.out | apply below_alloc | apply pw_below_drewN | apply below_drew1 | refine below_set ?_ GE266.out) | exact HB.out)) hb); clear BK266; clear HB; have BK266 := n0_; have HB := n1_; clear n0_ n1_; (try clear hb); (try clear hb2); (try clear hk); (try clear hi); have hcz14_0 : w13.cell? ⟨gb266, 0, none⟩ = some (.int .i64 a0_0) := (blk_cell BK266.out 0).trans rfl; have hcz14_1 : w13.cell? ⟨gb266, 1, none⟩ = some (.int .i64 a0_1) := (blk_cell BK266.out 1).trans rfl; have hcz14_2 : w13.cell? ⟨gb266, 2, none⟩ = some (.int .i64 a0_2) := (blk_cell BK266.out 2).trans rfl; have hcz14_3 : w13.cell? ⟨gb266, 3, none⟩ = some (.int .i64 a0_3) := (blk_cell BK266.out 3).trans rfl; have hcz14_4 : w13.cell? ⟨gb266, 4, none⟩ = some (.slice A0_4 l0_4.length c0_4) := (blk_cell BK266.out 4).trans rfl; have hcz14_5 : w13.cell? ⟨gb266, 5, none⟩ = some (.slice A0_5 l0_5.length c0_5) := (blk_cell BK266.out 5).trans rfl; have hcz14_6 : w13.cell? ⟨gb266, 6, none⟩ = some (.slice A0_6 l0_6.length c0_6) := (blk_cell BK266.out 6).trans rfl; have hfz14_0 := blk_frozen BK266.out 0; have hfz14_1 := blk_frozen BK266.out 1; have hfz14_2 := blk_frozen BK266.out 2; have hfz14_3 := blk_frozen BK266.out 3; have hfz14_4 := blk_frozen BK266.out 4; have hfz14_5 := blk_frozen BK266.out 5; have hfz14_6 := blk_frozen BK266.out 6) | (go_at_call 14; (with_reducible refine (bundle_Check.calls k a0_0 a0_1 a0_2 a0_3 _ _ l0_4 _ _ l0_5 _ _ l0_6 _ _ l1 t268 _ ?side1 ?side2 ?side3 ?side4 ?side5 ?side6 ?side7 ?side8 A11.out).mono ?_); (case side1 => repeat (first | exact (Kd.C_below HR0_4.out HB.out) | (with_reducible refine Kd.C_alloc ?_ _) | (with_reducible refine Kd.C_drewN ?_ _) | (with_reducible refine Kd.C_drew ?_))); (case side2 => exact HC0_4.out); (case side3 => repeat (first | exact (Kd.C_below HR0_5.out HB.out) | (with_reducible refine Kd.C_alloc ?_ _) | (with_reducible refine Kd.C_drewN ?_ _) | (with_reducible refine Kd.C_drew ?_))); (case side4 => exact HC0_5.out); (case side5 => repeat (first | exact (Kd.C_below HR0_6.out HB.out) | (with_reducible refine Kd.C_alloc ?_ _) | (with_reducible refine Kd.C_drewN ?_ _) | (with_reducible refine Kd.C_drew ?_))); (case side6 => exact HC0_6.out); (case side7 => repeat (first | exact (Kd.C_below HR1.out HB.out) | (with_reducible refine Kd.C_alloc ?_ _) | (with_reducible refine Kd.C_drewN ?_ _) | (with_reducible refine Kd.C_drew ?_))); (case side8 => exact HC1.out); rintro e w15 ⟨rfl, hb⟩; have n0_ := Aside0.mk (blk_below (g := gb266) (o := .cells #[.int .i64 a0_0, .int .i64 a0_1, .int .i64 a0_2, .int .i64 a0_3, .slice A0_4 l0_4.length c0_4, .slice A0_5 l0_5.length c0_5, .slice A0_6 l0_6.length c0_6] 35 (0, 0)) (by (with_reducible repeat (first | refine blk_drewN ?_ _ | refine blk_drew ?_ | refine blk_alloc ?_ _)); exact BK266.out) hb); have n1_ := Aside0.mk (below_step (by repeat (first | (with_reducible first | exact HB.out | apply below_alloc | apply pw_below_drewN | apply below_drew1 | refine below_set ?_ GE266.out) | exact HB.out)) hb); clear BK266; clear HB; have BK266 := n0_; have HB := n1_; clear n0_ n1_; (try clear hb); (try clear hb2); (try clear hk); (try clear hi)))
        go_meet
        case rel => exact ⟨_, ((t268 != 0)), (by first | rfl | (simp; done) | (simp [*]; done)), H', ⟨by first | omega | exact Nat.le_refl _⟩, ⟨by (with_reducible repeat (first | refine blk_drewN ?_ _ | refine blk_drew ?_ | refine blk_alloc ?_ _)); exact BK266.out⟩, ⟨by repeat (first | (with_reducible first | exact HB.out | apply below_alloc | apply pw_below_drewN | apply below_drew1 | refine below_set ?_ GE266.out) | exact HB.out)⟩⟩
    · replace c7 := Bool.eq_false_iff.mpr c7
      subst c7
      have H1 : (garmentlaw44_BundleTickets.j0 k l1 a2 true a0_0 a0_1 a0_2 a0_3 l0_4 l0_5 l0_6) = some r := by rw [if_neg (show ¬ (false = true) by decide)] at H; exact H
      clear H
      have H := H1
      clear H1
      have H' := Aside0.mk H
      clear H
      have hcz16_0 : w5.cell? ⟨gb266, 0, none⟩ = some (.int .i64 a0_0) := (blk_cell BK266.out 0).trans rfl
      have hcz16_1 : w5.cell? ⟨gb266, 1, none⟩ = some (.int .i64 a0_1) := (blk_cell BK266.out 1).trans rfl
      have hcz16_2 : w5.cell? ⟨gb266, 2, none⟩ = some (.int .i64 a0_2) := (blk_cell BK266.out 2).trans rfl
      have hcz16_3 : w5.cell? ⟨gb266, 3, none⟩ = some (.int .i64 a0_3) := (blk_cell BK266.out 3).trans rfl
      have hcz16_4 : w5.cell? ⟨gb266, 4, none⟩ = some (.slice A0_4 l0_4.length c0_4) := (blk_cell BK266.out 4).trans rfl
      have hcz16_5 : w5.cell? ⟨gb266, 5, none⟩ = some (.slice A0_5 l0_5.length c0_5) := (blk_cell BK266.out 5).trans rfl
      have hcz16_6 : w5.cell? ⟨gb266, 6, none⟩ = some (.slice A0_6 l0_6.length c0_6) := (blk_cell BK266.out 6).trans rfl
      have hfz16_0 := blk_frozen BK266.out 0
      have hfz16_1 := blk_frozen BK266.out 1
      have hfz16_2 := blk_frozen BK266.out 2
      have hfz16_3 := blk_frozen BK266.out 3
      have hfz16_4 := blk_frozen BK266.out 4
      have hfz16_5 := blk_frozen BK266.out 5
      have hfz16_6 := blk_frozen BK266.out 6
      go_wp2_with (first | ((with_reducible refine gate_callee (f := 12) rfl ?_); refine goesL_ (some 15) rfl rfl Try.func12 (by kernel_rfl) rfl #[.agg #[.int .i64 a0_0, .int .i64 a0_1, .int .i64 a0_2, .int .i64 a0_3, .slice A0_4 l0_4.length c0_4, .slice A0_5 l0_5.length c0_5, .slice A0_6 l0_6.length c0_6]] rfl (by (try simp only [List.map_toArray, List.map_cons, List.map_nil]); first | done | rfl | (simp only [List.length_drop, List.length_take]; rfl)) ?_; (with_reducible refine (garmentref44_Light.calls a0_0 a0_1 a0_2 a0_3 _ _ l0_4 _ _ l0_5 _ _ l0_6 false _ ?side1 ?side2 ?side3 ?side4 ?side5 ?side6 A6.out).mono ?_); (case side1 => repeat (first | exact (Kd.C_below HR0_4.out HB.out) | (with_reducible refine Kd.C_alloc ?_ _) | (with_reducible refine Kd.C_drewN ?_ _) | (with_reducible refine Kd.C_drew ?_))); (case side2 => exact HC0_4.out); (case side3 => repeat (first | exact (Kd.C_below HR0_5.out HB.out) | (with_reducible refine Kd.C_alloc ?_ _) | (with_reducible refine Kd.C_drewN ?_ _) | (with_reducible refine Kd.C_drew ?_))); (case side4 => exact HC0_5.out); (case side5 => repeat (first | exact (Kd.C_below HR0_6.out HB.out) | (with_reducible refine Kd.C_alloc ?_ _) | (with_reducible refine Kd.C_drewN ?_ _) | (with_reducible refine Kd.C_drew ?_))); (case side6 => exact HC0_6.out); rintro e w17 ⟨rfl, hb⟩; refine ⟨_, rfl, ?_⟩; have n0_ := Aside0.mk (blk_below (g := gb266) (o := .cells #[.int .i64 a0_0, .int .i64 a0_1, .int .i64 a0_2, .int .i64 a0_3, .slice A0_4 l0_4.length c0_4, .slice A0_5 l0_5.length c0_5, .slice A0_6 l0_6.length c0_6] 35 (0, 0)) (by (with_reducible repeat (first | refine blk_drewN ?_ _ | refine blk_drew ?_ | refine blk_alloc ?_ _)); exact BK266.out) hb); have n1_ := Aside0.mk (below_step (by repeat (first | (with_reducible first | exact HB.out | apply below_alloc | apply pw_below_drewN | apply below_drew1 | refine below_set ?_ GE266.out) | exact HB.out)) hb); clear BK266; clear HB; have BK266 := n0_; have HB := n1_; clear n0_ n1_; (try clear hb); (try clear hb2); (try clear hk); (try clear hi)))
      go_meet
      case rel => exact ⟨_, (true), (by first | rfl | (simp; done) | (simp [*]; done)), H', ⟨by first | omega | exact Nat.le_refl _⟩, ⟨by (with_reducible repeat (first | refine blk_drewN ?_ _ | refine blk_drew ?_ | refine blk_alloc ?_ _)); exact BK266.out⟩, ⟨by repeat (first | (with_reducible first | exact HB.out | apply below_alloc | apply pw_below_drewN | apply below_drew1 | refine below_set ?_ GE266.out) | exact HB.out)⟩⟩
  case rest =>
    clear HC4
    try clear c1
    try clear p2
    try clear c6
    try clear c7
    try clear c8
    try clear c8b0
    try clear c8b1
    try clear c12
    try clear hcz12_0
    try clear hcz12_1
    try clear hcz12_2
    try clear hcz12_3
    try clear hcz12_4
    try clear hcz12_5
    try clear hcz12_6
    try clear hcz14_0
    try clear hcz14_1
    try clear hcz14_2
    try clear hcz14_3
    try clear hcz14_4
    try clear hcz14_5
    try clear hcz14_6
    try clear hcz16_0
    try clear hcz16_1
    try clear hcz16_2
    try clear hcz16_3
    try clear hcz16_4
    try clear hcz16_5
    try clear hcz16_6
    try clear hcz9_0
    try clear hcz9_1
    try clear hcz9_2
    try clear hcz9_3
    try clear hcz9_4
    try clear hcz9_5
    try clear hcz9_6
    try clear hfz12_0
    try clear hfz12_1
    try clear hfz12_2
    try clear hfz12_3
    try clear hfz12_4
    try clear hfz12_5
    try clear hfz12_6
    try clear hfz14_0
    try clear hfz14_1
    try clear hfz14_2
    try clear hfz14_3
    try clear hfz14_4
    try clear hfz14_5
    try clear hfz14_6
    try clear hfz16_0
    try clear hfz16_1
    try clear hfz16_2
    try clear hfz16_3
    try clear hfz16_4
    try clear hfz16_5
    try clear hfz16_6
    try clear hfz9_0
    try clear hfz9_1
    try clear hfz9_2
    try clear hfz9_3
    try clear hfz9_4
    try clear hfz9_5
    try clear hfz9_6
    obtain ⟨kq, x27_3, rfl, HA, HJ3, BK266, HB⟩ := hcut
    cases kq with
    | zero => exact absurd HA.out (by simp [garmentlaw44_BundleTickets.j0])
    | succ kj3 =>
      have H := HA.out
      clear HA
      simp only [garmentlaw44_BundleTickets.j0] at H
      by_cases c18 : x27_3 = true
      · subst c18
        have H1 : ((garmentlaw44_alive.f kj3).bind fun t269 => (some t269)) = some r := by rw [if_pos rfl] at H; exact H
        clear H
        have H := H1
        clear H1
        replace H := Option.bind_eq_some_iff.mp H
        obtain ⟨t269, A190, H⟩ := H
        replace H : (some t269) = some r := H
        have A19 := Aside0.mk A190
        clear A190
        obtain rfl := Option.some.inj H
        go_wp2_with (first | ((with_reducible refine gate_callee (f := 9) rfl ?_); refine goesL_ (some 28) rfl rfl Try.func9 (by kernel_rfl) rfl #[] rfl (by (try simp only [List.map_toArray, List.map_cons, List.map_nil]); first | done | rfl | (simp only [List.length_drop, List.length_take]; rfl)) ?_; (with_reducible refine (garmentlaw44_alive.calls kj3  t269 _ A19.out).mono ?_); rintro e w20 ⟨rfl, hb⟩; refine ⟨_, rfl, ?_⟩; have n0_ := Aside0.mk (blk_below (g := gb266) (o := .cells #[.int .i64 a0_0, .int .i64 a0_1, .int .i64 a0_2, .int .i64 a0_3, .slice A0_4 l0_4.length c0_4, .slice A0_5 l0_5.length c0_5, .slice A0_6 l0_6.length c0_6] 35 (0, 0)) (by (with_reducible repeat (first | refine blk_drewN ?_ _ | refine blk_drew ?_ | refine blk_alloc ?_ _)); exact BK266.out) hb); have n1_ := Aside0.mk (below_step (by repeat (first | (with_reducible first | exact HB.out | apply below_alloc | apply pw_below_drewN | apply below_drew1 | refine below_set ?_ GE266.out) | exact HB.out)) hb); clear BK266; clear HB; have BK266 := n0_; have HB := n1_; clear n0_ n1_; (try clear hb); (try clear hb2); (try clear hk); (try clear hi)))
        go_ret
        exact ⟨by first | rfl | (simp [errW_none, errW_some] <;> rfl) | (simp [*, errW_none, errW_some] <;> rfl), by repeat (first | (with_reducible first | exact HB.out | apply below_alloc | apply pw_below_drewN | apply below_drew1 | refine below_set ?_ GE266.out) | exact HB.out)⟩
      · replace c18 := Bool.eq_false_iff.mpr c18
        subst c18
        have H1 : (garmentlaw44_BundleTickets.l0 kj3 l1 a2 0 a0_0 a0_1 a0_2 a0_3 l0_4 l0_5 l0_6) = some r := by rw [if_neg (show ¬ (false = true) by decide)] at H; exact H
        clear H
        have H := H1
        clear H1
        have H' := Aside0.mk H
        clear H
        go_wp2
        go_loopg [7] kj3 (fun kq v7 w' => ∃ (x7_2 : Int), v7 = .int .i64 x7_2 ∧ Aside0 (garmentlaw44_BundleTickets.l0 kq l1 a2 x7_2 a0_0 a0_1 a0_2 a0_3 l0_4 l0_5 l0_6 = some r) ∧ Aside0 (kq ≤ kj3) ∧ Aside0 (w'.heap[gb266]? = some (.cells #[.int .i64 a0_0, .int .i64 a0_1, .int .i64 a0_2, .int .i64 a0_3, (.slice A0_4 l0_4.length c0_4), (.slice A0_5 l0_5.length c0_5), (.slice A0_6 l0_6.length c0_6)] 35 (0, 0))) ∧ Aside0 (Below w.heap.size w w'))
        case atStart => exact ⟨(0), (by first | rfl | (simp; done) | (simp [*]; done)), H', ⟨Nat.le_refl _⟩, ⟨by (with_reducible repeat (first | refine blk_drewN ?_ _ | refine blk_drew ?_ | refine blk_alloc ?_ _)); exact BK266.out⟩, ⟨by repeat (first | (with_reducible first | exact HB.out | apply below_alloc | apply pw_below_drewN | apply below_drew1 | refine below_set ?_ GE266.out) | exact HB.out)⟩⟩
        case round =>
          clear H'
          try clear c1
          try clear p2
          try clear c6
          try clear c7
          try clear c8
          try clear c8b0
          try clear c8b1
          try clear c9
          try clear c12
          try clear c18
          try clear hcz12_0
          try clear hcz12_1
          try clear hcz12_2
          try clear hcz12_3
          try clear hcz12_4
          try clear hcz12_5
          try clear hcz12_6
          try clear hcz14_0
          try clear hcz14_1
          try clear hcz14_2
          try clear hcz14_3
          try clear hcz14_4
          try clear hcz14_5
          try clear hcz14_6
          try clear hcz16_0
          try clear hcz16_1
          try clear hcz16_2
          try clear hcz16_3
          try clear hcz16_4
          try clear hcz16_5
          try clear hcz16_6
          try clear hcz9_0
          try clear hcz9_1
          try clear hcz9_2
          try clear hcz9_3
          try clear hcz9_4
          try clear hcz9_5
          try clear hcz9_6
          try clear hfz12_0
          try clear hfz12_1
          try clear hfz12_2
          try clear hfz12_3
          try clear hfz12_4
          try clear hfz12_5
          try clear hfz12_6
          try clear hfz14_0
          try clear hfz14_1
          try clear hfz14_2
          try clear hfz14_3
          try clear hfz14_4
          try clear hfz14_5
          try clear hfz14_6
          try clear hfz16_0
          try clear hfz16_1
          try clear hfz16_2
          try clear hfz16_3
          try clear hfz16_4
          try clear hfz16_5
          try clear hfz16_6
          try clear hfz9_0
          try clear hfz9_1
          try clear hfz9_2
          try clear hfz9_3
          try clear hfz9_4
          try clear hfz9_5
          try clear hfz9_6
          try clear p2
          obtain ⟨x7_2, rfl, HA, HK2, BK266, HB⟩ := hrel
          cases gk with
          | zero => exact absurd HA.out (by simp [garmentlaw44_BundleTickets.l0])
          | succ k2 =>
            have H := HA.out
            clear HA
            simp only [garmentlaw44_BundleTickets.l0] at H
            by_cases c21 : x7_2 < (l1.length : Int)
            · rw [if_pos c21] at H
              have c21b0 : decide (x7_2 < (l1.length : Int)) = true := decide_eq_true c21
              clear c21
              by_cases c22 : 0 ≤ x7_2
              · rw [if_pos c22] at H
                have c22b0 : decide (0 ≤ x7_2) = true := decide_eq_true c22
                clear c22
                have H' := Aside0.mk H
                clear H
                have p270 : 0 ≤ (x7_2 : Int) := of_decide_eq_true (by first | (with_reducible assumption) | assumption)
                have q270 : x7_2 < (l1.length : Int) := of_decide_eq_true (by first | (with_reducible assumption) | assumption)
                obtain ⟨ad270, e270, hx270_0, hx270_1, hx270_2, hx270_3, hx270_4, hx270_5⟩ := at_T42 HR1.out x7_2 p270 q270
                cases e270
                replace hx270_0 := (HB.out.cell (World.block_lt_of_cell? w _ hx270_0)).trans hx270_0
                replace hx270_1 := (HB.out.cell (World.block_lt_of_cell? w _ hx270_1)).trans hx270_1
                replace hx270_2 := (HB.out.cell (World.block_lt_of_cell? w _ hx270_2)).trans hx270_2
                replace hx270_3 := (HB.out.cell (World.block_lt_of_cell? w _ hx270_3)).trans hx270_3
                replace hx270_4 := (HB.out.cell (World.block_lt_of_cell? w _ hx270_4)).trans hx270_4
                replace hx270_5 := (HB.out.cell (World.block_lt_of_cell? w _ hx270_5)).trans hx270_5
                replace p270 := eq_true p270
                replace q270 := eq_true q270
                go_wp2
                go_loopg [8] k2 (fun kq v8 w' => ∃ (x8_3 : Int), v8 = .int .i64 x8_3 ∧ Aside0 (garmentlaw44_BundleTickets.l1 kq l1 a2 x7_2 x8_3 a0_0 a0_1 a0_2 a0_3 l0_4 l0_5 l0_6 = some r) ∧ Aside0 (kq ≤ k2) ∧ Aside0 (w'.heap[gb266]? = some (.cells #[.int .i64 a0_0, .int .i64 a0_1, .int .i64 a0_2, .int .i64 a0_3, (.slice A0_4 l0_4.length c0_4), (.slice A0_5 l0_5.length c0_5), (.slice A0_6 l0_6.length c0_6)] 35 (0, 0))) ∧ Aside0 (Below w.heap.size w w'))
                case atStart => exact ⟨((rd_T42 l1 x7_2).f4), (by first | rfl | (simp; done) | (simp [*]; done)), H', ⟨Nat.le_refl _⟩, ⟨by (with_reducible repeat (first | refine blk_drewN ?_ _ | refine blk_drew ?_ | refine blk_alloc ?_ _)); exact BK266.out⟩, ⟨by repeat (first | (with_reducible first | exact HB.out | apply below_alloc | apply pw_below_drewN | apply below_drew1 | refine below_set ?_ GE266.out) | exact HB.out)⟩⟩
                case round =>
                  clear H'
                  try clear c1
                  try clear c2
                  try clear p2
                  try clear q2
                  try clear hx2
                  try clear c6
                  try clear c7
                  try clear c8
                  try clear c8b0
                  try clear c8b1
                  try clear c9
                  try clear c12
                  try clear c18
                  try clear c21
                  try clear c21b0
                  try clear c22
                  try clear c22b0
                  try clear hcz12_0
                  try clear hcz12_1
                  try clear hcz12_2
                  try clear hcz12_3
                  try clear hcz12_4
                  try clear hcz12_5
                  try clear hcz12_6
                  try clear hcz14_0
                  try clear hcz14_1
                  try clear hcz14_2
                  try clear hcz14_3
                  try clear hcz14_4
                  try clear hcz14_5
                  try clear hcz14_6
                  try clear hcz16_0
                  try clear hcz16_1
                  try clear hcz16_2
                  try clear hcz16_3
                  try clear hcz16_4
                  try clear hcz16_5
                  try clear hcz16_6
                  try clear hcz9_0
                  try clear hcz9_1
                  try clear hcz9_2
                  try clear hcz9_3
                  try clear hcz9_4
                  try clear hcz9_5
                  try clear hcz9_6
                  try clear hfz12_0
                  try clear hfz12_1
                  try clear hfz12_2
                  try clear hfz12_3
                  try clear hfz12_4
                  try clear hfz12_5
                  try clear hfz12_6
                  try clear hfz14_0
                  try clear hfz14_1
                  try clear hfz14_2
                  try clear hfz14_3
                  try clear hfz14_4
                  try clear hfz14_5
                  try clear hfz14_6
                  try clear hfz16_0
                  try clear hfz16_1
                  try clear hfz16_2
                  try clear hfz16_3
                  try clear hfz16_4
                  try clear hfz16_5
                  try clear hfz16_6
                  try clear hfz9_0
                  try clear hfz9_1
                  try clear hfz9_2
                  try clear hfz9_3
                  try clear hfz9_4
                  try clear hfz9_5
                  try clear hfz9_6
                  try clear hx270_0
                  try clear hx270_1
                  try clear hx270_2
                  try clear hx270_3
                  try clear hx270_4
                  try clear hx270_5
                  try clear p2
                  try clear p270
                  try clear q270
                  obtain ⟨x8_3, rfl, HA, HK3, BK266, HB⟩ := hrel
                  cases gk with
                  | zero => exact absurd HA.out (by simp [garmentlaw44_BundleTickets.l1])
                  | succ k3 =>
                    have H := HA.out
                    clear HA
                    simp only [garmentlaw44_BundleTickets.l1] at H
                    have HC23 := Aside0.mk H
                    clear H
                    go_upto_region 7 with (fail)
                    go_cut [53] (fun v53 wc => ∃ (kq : Nat) (x53_22 : Bool), v53 = .bool x53_22 ∧ Aside0 (garmentlaw44_BundleTickets.j3 kq l1 a2 x7_2 x8_3 x53_22 a0_0 a0_1 a0_2 a0_3 l0_4 l0_5 l0_6 = some r) ∧ Aside0 (kq ≤ k3) ∧ Aside0 (wc.heap[gb266]? = some (.cells #[.int .i64 a0_0, .int .i64 a0_1, .int .i64 a0_2, .int .i64 a0_3, (.slice A0_4 l0_4.length c0_4), (.slice A0_5 l0_5.length c0_5), (.slice A0_6 l0_6.length c0_6)] 35 (0, 0))) ∧ Aside0 (Below w.heap.size w wc))
                    case first =>
                      have H := HC23.out
                      clear HC23
                      by_cases c24 : 0 ≤ x7_2
                      · rw [if_pos c24] at H
                        have c24b0 : decide (0 ≤ x7_2) = true := decide_eq_true c24
                        clear c24
                        (first | rw [c24b0] | (simp only [i64_w, i32_w]; rw [c24b0]) | skip)
                        by_cases c25 : x7_2 < (l1.length : Int)
                        · rw [if_pos c25] at H
                          have c25b0 : decide (x7_2 < (l1.length : Int)) = true := decide_eq_true c25
                          clear c25
                          by_cases c26 : x8_3 < ((rd_T42 l1 x7_2).f5)
                          · rw [if_pos c26] at H
                            have c26b0 : decide (x8_3 < ((rd_T42 l1 x7_2).f5)) = true := decide_eq_true c26
                            clear c26
                            have H' := Aside0.mk H
                            clear H
                            have p271 : 0 ≤ (x7_2 : Int) := of_decide_eq_true (by first | (with_reducible assumption) | assumption)
                            have q271 : x7_2 < (l1.length : Int) := of_decide_eq_true (by first | (with_reducible assumption) | assumption)
                            obtain ⟨ad271, e271, hx271_0, hx271_1, hx271_2, hx271_3, hx271_4, hx271_5⟩ := at_T42 HR1.out x7_2 p271 q271
                            obtain rfl : ad270 = ad271 := (by injection e271)
                            replace hx271_0 := (HB.out.cell (World.block_lt_of_cell? w _ hx271_0)).trans hx271_0
                            replace hx271_1 := (HB.out.cell (World.block_lt_of_cell? w _ hx271_1)).trans hx271_1
                            replace hx271_2 := (HB.out.cell (World.block_lt_of_cell? w _ hx271_2)).trans hx271_2
                            replace hx271_3 := (HB.out.cell (World.block_lt_of_cell? w _ hx271_3)).trans hx271_3
                            replace hx271_4 := (HB.out.cell (World.block_lt_of_cell? w _ hx271_4)).trans hx271_4
                            replace hx271_5 := (HB.out.cell (World.block_lt_of_cell? w _ hx271_5)).trans hx271_5
                            replace p271 := eq_true p271
                            replace q271 := eq_true q271
                            have hcz27_0 : wr.cell? ⟨gb266, 0, none⟩ = some (.int .i64 a0_0) := (blk_cell BK266.out 0).trans rfl
                            have hcz27_1 : wr.cell? ⟨gb266, 1, none⟩ = some (.int .i64 a0_1) := (blk_cell BK266.out 1).trans rfl
                            have hcz27_2 : wr.cell? ⟨gb266, 2, none⟩ = some (.int .i64 a0_2) := (blk_cell BK266.out 2).trans rfl
                            have hcz27_3 : wr.cell? ⟨gb266, 3, none⟩ = some (.int .i64 a0_3) := (blk_cell BK266.out 3).trans rfl
                            have hcz27_4 : wr.cell? ⟨gb266, 4, none⟩ = some (.slice A0_4 l0_4.length c0_4) := (blk_cell BK266.out 4).trans rfl
                            have hcz27_5 : wr.cell? ⟨gb266, 5, none⟩ = some (.slice A0_5 l0_5.length c0_5) := (blk_cell BK266.out 5).trans rfl
                            have hcz27_6 : wr.cell? ⟨gb266, 6, none⟩ = some (.slice A0_6 l0_6.length c0_6) := (blk_cell BK266.out 6).trans rfl
                            have hfz27_0 := blk_frozen BK266.out 0
                            have hfz27_1 := blk_frozen BK266.out 1
                            have hfz27_2 := blk_frozen BK266.out 2
                            have hfz27_3 := blk_frozen BK266.out 3
                            have hfz27_4 := blk_frozen BK266.out 4
                            have hfz27_5 := blk_frozen BK266.out 5
                            have hfz27_6 := blk_frozen BK266.out 6
                            go_wp2
                            go_meet
                            case rel => exact ⟨_, (decide (x8_3 < (l0_6.length : Int))), (by first | rfl | (simp; done) | (simp [*]; done)), H', ⟨by have := HJ3.out; have := HK2.out; have := HK3.out; first | omega | exact Nat.le_refl _⟩, ⟨by (with_reducible repeat (first | refine blk_drewN ?_ _ | refine blk_drew ?_ | refine blk_alloc ?_ _)); exact BK266.out⟩, ⟨by repeat (first | (with_reducible first | exact HB.out | apply below_alloc | apply pw_below_drewN | apply below_drew1 | refine below_set ?_ GE266.out) | exact HB.out)⟩⟩
                          · rw [if_neg c26] at H
                            have c26b0 : decide (x8_3 < ((rd_T42 l1 x7_2).f5)) = false := decide_eq_false c26
                            clear c26
                            have H' := Aside0.mk H
                            clear H
                            have p271 : 0 ≤ (x7_2 : Int) := of_decide_eq_true (by first | (with_reducible assumption) | assumption)
                            have q271 : x7_2 < (l1.length : Int) := of_decide_eq_true (by first | (with_reducible assumption) | assumption)
                            obtain ⟨ad271, e271, hx271_0, hx271_1, hx271_2, hx271_3, hx271_4, hx271_5⟩ := at_T42 HR1.out x7_2 p271 q271
                            obtain rfl : ad270 = ad271 := (by injection e271)
                            replace hx271_0 := (HB.out.cell (World.block_lt_of_cell? w _ hx271_0)).trans hx271_0
                            replace hx271_1 := (HB.out.cell (World.block_lt_of_cell? w _ hx271_1)).trans hx271_1
                            replace hx271_2 := (HB.out.cell (World.block_lt_of_cell? w _ hx271_2)).trans hx271_2
                            replace hx271_3 := (HB.out.cell (World.block_lt_of_cell? w _ hx271_3)).trans hx271_3
                            replace hx271_4 := (HB.out.cell (World.block_lt_of_cell? w _ hx271_4)).trans hx271_4
                            replace hx271_5 := (HB.out.cell (World.block_lt_of_cell? w _ hx271_5)).trans hx271_5
                            replace p271 := eq_true p271
                            replace q271 := eq_true q271
                            go_wp2
                            go_meet
                            case rel => exact ⟨_, (false), (by first | rfl | (simp; done) | (simp [*]; done)), H', ⟨by have := HJ3.out; have := HK2.out; have := HK3.out; first | omega | exact Nat.le_refl _⟩, ⟨by (with_reducible repeat (first | refine blk_drewN ?_ _ | refine blk_drew ?_ | refine blk_alloc ?_ _)); exact BK266.out⟩, ⟨by repeat (first | (with_reducible first | exact HB.out | apply below_alloc | apply pw_below_drewN | apply below_drew1 | refine below_set ?_ GE266.out) | exact HB.out)⟩⟩
                        · rw [if_neg c25] at H
                          exact absurd H (by simp)
                      · rw [if_neg c24] at H
                        exact absurd H (by simp)
                    case rest =>
                      clear HC23
                      try clear c1
                      try clear c2
                      try clear p2
                      try clear q2
                      try clear hx2
                      try clear c6
                      try clear c7
                      try clear c8
                      try clear c8b0
                      try clear c8b1
                      try clear c9
                      try clear c12
                      try clear c18
                      try clear c21
                      try clear c21b0
                      try clear c22
                      try clear c22b0
                      try clear c24
                      try clear c24b0
                      try clear c25
                      try clear c25b0
                      try clear c26
                      try clear c26b0
                      try clear p27
                      try clear q27
                      try clear hx27
                      try clear hcz12_0
                      try clear hcz12_1
                      try clear hcz12_2
                      try clear hcz12_3
                      try clear hcz12_4
                      try clear hcz12_5
                      try clear hcz12_6
                      try clear hcz14_0
                      try clear hcz14_1
                      try clear hcz14_2
                      try clear hcz14_3
                      try clear hcz14_4
                      try clear hcz14_5
                      try clear hcz14_6
                      try clear hcz16_0
                      try clear hcz16_1
                      try clear hcz16_2
                      try clear hcz16_3
                      try clear hcz16_4
                      try clear hcz16_5
                      try clear hcz16_6
                      try clear hcz27_0
                      try clear hcz27_1
                      try clear hcz27_2
                      try clear hcz27_3
                      try clear hcz27_4
                      try clear hcz27_5
                      try clear hcz27_6
                      try clear hcz9_0
                      try clear hcz9_1
                      try clear hcz9_2
                      try clear hcz9_3
                      try clear hcz9_4
                      try clear hcz9_5
                      try clear hcz9_6
                      try clear hfz12_0
                      try clear hfz12_1
                      try clear hfz12_2
                      try clear hfz12_3
                      try clear hfz12_4
                      try clear hfz12_5
                      try clear hfz12_6
                      try clear hfz14_0
                      try clear hfz14_1
                      try clear hfz14_2
                      try clear hfz14_3
                      try clear hfz14_4
                      try clear hfz14_5
                      try clear hfz14_6
                      try clear hfz16_0
                      try clear hfz16_1
                      try clear hfz16_2
                      try clear hfz16_3
                      try clear hfz16_4
                      try clear hfz16_5
                      try clear hfz16_6
                      try clear hfz27_0
                      try clear hfz27_1
                      try clear hfz27_2
                      try clear hfz27_3
                      try clear hfz27_4
                      try clear hfz27_5
                      try clear hfz27_6
                      try clear hfz9_0
                      try clear hfz9_1
                      try clear hfz9_2
                      try clear hfz9_3
                      try clear hfz9_4
                      try clear hfz9_5
                      try clear hfz9_6
                      try clear hx270_0
                      try clear hx270_1
                      try clear hx270_2
                      try clear hx270_3
                      try clear hx270_4
                      try clear hx270_5
                      try clear hx271_0
                      try clear hx271_1
                      try clear hx271_2
                      try clear hx271_3
                      try clear hx271_4
                      try clear hx271_5
                      try clear p2
                      try clear p270
                      try clear p271
                      try clear q2
                      try clear q270
                      try clear q271
                      obtain ⟨kq, x53_22, rfl, HA, HJ22, BK266, HB⟩ := hcut
                      cases kq with
                      | zero => exact absurd HA.out (by simp [garmentlaw44_BundleTickets.j3])
                      | succ kj22 =>
                        have H := HA.out
                        clear HA
                        simp only [garmentlaw44_BundleTickets.j3] at H
                        by_cases c28 : x53_22 = true
                        · subst c28
                          have H1 : (if 0 ≤ x7_2 then (if x7_2 < (l1.length : Int) then ((bundle_Find.f kj22 l1 ((rd_T42 l1 x7_2).f1) x8_3).bind fun bt273 => (if bt273.2 = true then (if bt273.1 = x7_2 then (garmentlaw44_BundleTickets.l1 kj22 l1 a2 x7_2 (wrap64 (x8_3 + 1)) a0_0 a0_1 a0_2 a0_3 l0_4 l0_5 l0_6) else (some false)) else (some false))) else (none)) else (none)) = some r := by rw [if_pos rfl] at H; exact H
                          clear H
                          have H := H1
                          clear H1
                          by_cases c29 : 0 ≤ x7_2
                          · rw [if_pos c29] at H
                            have c29b0 : decide (0 ≤ x7_2) = true := decide_eq_true c29
                            clear c29
                            by_cases c30 : x7_2 < (l1.length : Int)
                            · rw [if_pos c30] at H
                              have c30b0 : decide (x7_2 < (l1.length : Int)) = true := decide_eq_true c30
                              clear c30
                              replace H := Option.bind_eq_some_iff.mp H
                              obtain ⟨⟨t273, t274⟩, A310, H⟩ := H
                              replace H : (if t274 = true then (if t273 = x7_2 then (garmentlaw44_BundleTickets.l1 kj22 l1 a2 x7_2 (wrap64 (x8_3 + 1)) a0_0 a0_1 a0_2 a0_3 l0_4 l0_5 l0_6) else (some false)) else (some false)) = some r := H
                              have A31 := Aside0.mk A310
                              clear A310
                              by_cases c32 : t274 = true
                              · subst c32
                                have H1 : (if t273 = x7_2 then (garmentlaw44_BundleTickets.l1 kj22 l1 a2 x7_2 (wrap64 (x8_3 + 1)) a0_0 a0_1 a0_2 a0_3 l0_4 l0_5 l0_6) else (some false)) = some r := by rw [if_pos rfl] at H; exact H
                                clear H
                                have H := H1
                                clear H1
                                by_cases c33 : t273 = x7_2
                                · rw [if_pos c33] at H
                                  have c33b0 : (t273 == x7_2) = true := beq_iff_eq.mpr c33
                                  have c33b1 : (t273 != x7_2) = false := bne_eq_false_iff_eq.mpr c33
                                  clear c33
                                  have H' := Aside0.mk H
                                  clear H
                                  have p272 : 0 ≤ (x7_2 : Int) := of_decide_eq_true (by first | (with_reducible assumption) | assumption)
                                  have q272 : x7_2 < (l1.length : Int) := of_decide_eq_true (by first | (with_reducible assumption) | assumption)
                                  obtain ⟨ad272, e272, hx272_0, hx272_1, hx272_2, hx272_3, hx272_4, hx272_5⟩ := at_T42 HR1.out x7_2 p272 q272
                                  obtain rfl : ad270 = ad272 := (by injection e272)
                                  replace hx272_0 := (HB.out.cell (World.block_lt_of_cell? w _ hx272_0)).trans hx272_0
                                  replace hx272_1 := (HB.out.cell (World.block_lt_of_cell? w _ hx272_1)).trans hx272_1
                                  replace hx272_2 := (HB.out.cell (World.block_lt_of_cell? w _ hx272_2)).trans hx272_2
                                  replace hx272_3 := (HB.out.cell (World.block_lt_of_cell? w _ hx272_3)).trans hx272_3
                                  replace hx272_4 := (HB.out.cell (World.block_lt_of_cell? w _ hx272_4)).trans hx272_4
                                  replace hx272_5 := (HB.out.cell (World.block_lt_of_cell? w _ hx272_5)).trans hx272_5
                                  replace p272 := eq_true p272
                                  replace q272 := eq_true q272
                                  go_wp2_with (first | ((with_reducible refine gate_callee (f := 10) rfl ?_); refine goesL_ (some 64) rfl rfl Try.func10 (by kernel_rfl) rfl #[.slice (some ad270) l1.length c1, .int .i64 ((rd_T42 l1 x7_2).f1), .int .i64 x8_3] rfl (by (try simp only [List.map_toArray, List.map_cons, List.map_nil]); first | done | rfl | (simp only [List.length_drop, List.length_take]; rfl)) ?_; (with_reducible refine (bundle_Find.calls kj22 _ _ l1 ((rd_T42 l1 x7_2).f1) x8_3 t273 true _ ?side1 ?side2 A31.out).mono ?_); (case side1 => repeat (first | exact (Kd.C_below HR1.out HB.out) | (with_reducible refine Kd.C_alloc ?_ _) | (with_reducible refine Kd.C_drewN ?_ _) | (with_reducible refine Kd.C_drew ?_))); (case side2 => exact HC1.out); rintro e w34 ⟨rfl, hb⟩; refine ⟨_, rfl, ?_⟩; have n0_ := Aside0.mk (blk_below (g := gb266) (o := .cells #[.int .i64 a0_0, .int .i64 a0_1, .int .i64 a0_2, .int .i64 a0_3, .slice A0_4 l0_4.length c0_4, .slice A0_5 l0_5.length c0_5, .slice A0_6 l0_6.length c0_6] 35 (0, 0)) (by (with_reducible repeat (first | refine blk_drewN ?_ _ | refine blk_drew ?_ | refine blk_alloc ?_ _)); exact BK266.out) hb); have n1_ := Aside0.mk (below_step (by repeat (first | (with_reducible first | exact HB.out | apply below_alloc | apply pw_below_drewN | apply below_drew1 | refine below_set ?_ GE266.out) | exact HB.out)) hb); clear BK266; clear HB; have BK266 := n0_; have HB := n1_; clear n0_ n1_; (try clear hb); (try clear hb2); (try clear hk); (try clear hi)))
                                  go_roundg kj22
                                  case measure => have := HJ3.out; have := HK2.out; have := HK3.out; have := HJ22.out; omega
                                  case rel => exact ⟨(wrap64 (x8_3 + 1)), (by first | rfl | (simp; done) | (simp [*]; done)), H', ⟨by have := HJ3.out; have := HK2.out; have := HK3.out; have := HJ22.out; omega⟩, ⟨by (with_reducible repeat (first | refine blk_drewN ?_ _ | refine blk_drew ?_ | refine blk_alloc ?_ _)); exact BK266.out⟩, ⟨by repeat (first | (with_reducible first | exact HB.out | apply below_alloc | apply pw_below_drewN | apply below_drew1 | refine below_set ?_ GE266.out) | exact HB.out)⟩⟩
                                · rw [if_neg c33] at H
                                  have c33b0 : (t273 == x7_2) = false := beq_eq_false_iff_ne.mpr c33
                                  have c33b1 : (t273 != x7_2) = true := bne_iff_ne.mpr c33
                                  obtain rfl := Option.some.inj H
                                  have p272 : 0 ≤ (x7_2 : Int) := of_decide_eq_true (by first | (with_reducible assumption) | assumption)
                                  have q272 : x7_2 < (l1.length : Int) := of_decide_eq_true (by first | (with_reducible assumption) | assumption)
                                  obtain ⟨ad272, e272, hx272_0, hx272_1, hx272_2, hx272_3, hx272_4, hx272_5⟩ := at_T42 HR1.out x7_2 p272 q272
                                  obtain rfl : ad270 = ad272 := (by injection e272)
                                  replace hx272_0 := (HB.out.cell (World.block_lt_of_cell? w _ hx272_0)).trans hx272_0
                                  replace hx272_1 := (HB.out.cell (World.block_lt_of_cell? w _ hx272_1)).trans hx272_1
                                  replace hx272_2 := (HB.out.cell (World.block_lt_of_cell? w _ hx272_2)).trans hx272_2
                                  replace hx272_3 := (HB.out.cell (World.block_lt_of_cell? w _ hx272_3)).trans hx272_3
                                  replace hx272_4 := (HB.out.cell (World.block_lt_of_cell? w _ hx272_4)).trans hx272_4
                                  replace hx272_5 := (HB.out.cell (World.block_lt_of_cell? w _ hx272_5)).trans hx272_5
                                  replace p272 := eq_true p272
                                  replace q272 := eq_true q272
                                  go_wp2_with (first | ((with_reducible refine gate_callee (f := 10) rfl ?_); refine goesL_ (some 64) rfl rfl Try.func10 (by kernel_rfl) rfl #[.slice (some ad270) l1.length c1, .int .i64 ((rd_T42 l1 x7_2).f1), .int .i64 x8_3] rfl (by (try simp only [List.map_toArray, List.map_cons, List.map_nil]); first | done | rfl | (simp only [List.length_drop, List.length_take]; rfl)) ?_; (with_reducible refine (bundle_Find.calls kj22 _ _ l1 ((rd_T42 l1 x7_2).f1) x8_3 t273 true _ ?side1 ?side2 A31.out).mono ?_); (case side1 => repeat (first | exact (Kd.C_below HR1.out HB.out) | (with_reducible refine Kd.C_alloc ?_ _) | (with_reducible refine Kd.C_drewN ?_ _) | (with_reducible refine Kd.C_drew ?_))); (case side2 => exact HC1.out); rintro e w35 ⟨rfl, hb⟩; refine ⟨_, rfl, ?_⟩; have n0_ := Aside0.mk (blk_below (g := gb266) (o := .cells #[.int .i64 a0_0, .int .i64 a0_1, .int .i64 a0_2, .int .i64 a0_3, .slice A0_4 l0_4.length c0_4, .slice A0_5 l0_5.length c0_5, .slice A0_6 l0_6.length c0_6] 35 (0, 0)) (by (with_reducible repeat (first | refine blk_drewN ?_ _ | refine blk_drew ?_ | refine blk_alloc ?_ _)); exact BK266.out) hb); have n1_ := Aside0.mk (below_step (by repeat (first | (with_reducible first | exact HB.out | apply below_alloc | apply pw_below_drewN | apply below_drew1 | refine below_set ?_ GE266.out) | exact HB.out)) hb); clear BK266; clear HB; have BK266 := n0_; have HB := n1_; clear n0_ n1_; (try clear hb); (try clear hb2); (try clear hk); (try clear hi)))
                                  go_ret
                                  exact ⟨by first | rfl | (simp [errW_none, errW_some] <;> rfl) | (simp [*, errW_none, errW_some] <;> rfl), by repeat (first | (with_reducible first | exact HB.out | apply below_alloc | apply pw_below_drewN | apply below_drew1 | refine below_set ?_ GE266.out) | exact HB.out)⟩
                              · replace c32 := Bool.eq_false_iff.mpr c32
                                subst c32
                                have H1 : (some false) = some r := by rw [if_neg (show ¬ (false = true) by decide)] at H; exact H
                                clear H
                                have H := H1
                                clear H1
                                obtain rfl := Option.some.inj H
                                have p272 : 0 ≤ (x7_2 : Int) := of_decide_eq_true (by first | (with_reducible assumption) | assumption)
                                have q272 : x7_2 < (l1.length : Int) := of_decide_eq_true (by first | (with_reducible assumption) | assumption)
                                obtain ⟨ad272, e272, hx272_0, hx272_1, hx272_2, hx272_3, hx272_4, hx272_5⟩ := at_T42 HR1.out x7_2 p272 q272
                                obtain rfl : ad270 = ad272 := (by injection e272)
                                replace hx272_0 := (HB.out.cell (World.block_lt_of_cell? w _ hx272_0)).trans hx272_0
                                replace hx272_1 := (HB.out.cell (World.block_lt_of_cell? w _ hx272_1)).trans hx272_1
                                replace hx272_2 := (HB.out.cell (World.block_lt_of_cell? w _ hx272_2)).trans hx272_2
                                replace hx272_3 := (HB.out.cell (World.block_lt_of_cell? w _ hx272_3)).trans hx272_3
                                replace hx272_4 := (HB.out.cell (World.block_lt_of_cell? w _ hx272_4)).trans hx272_4
                                replace hx272_5 := (HB.out.cell (World.block_lt_of_cell? w _ hx272_5)).trans hx272_5
                                replace p272 := eq_true p272
                                replace q272 := eq_true q272
                                go_wp2_with (first | ((with_reducible refine gate_callee (f := 10) rfl ?_); refine goesL_ (some 64) rfl rfl Try.func10 (by kernel_rfl) rfl #[.slice (some ad270) l1.length c1, .int .i64 ((rd_T42 l1 x7_2).f1), .int .i64 x8_3] rfl (by (try simp only [List.map_toArray, List.map_cons, List.map_nil]); first | done | rfl | (simp only [List.length_drop, List.length_take]; rfl)) ?_; (with_reducible refine (bundle_Find.calls kj22 _ _ l1 ((rd_T42 l1 x7_2).f1) x8_3 t273 false _ ?side1 ?side2 A31.out).mono ?_); (case side1 => repeat (first | exact (Kd.C_below HR1.out HB.out) | (with_reducible refine Kd.C_alloc ?_ _) | (with_reducible refine Kd.C_drewN ?_ _) | (with_reducible refine Kd.C_drew ?_))); (case side2 => exact HC1.out); rintro e w36 ⟨rfl, hb⟩; refine ⟨_, rfl, ?_⟩; have n0_ := Aside0.mk (blk_below (g := gb266) (o := .cells #[.int .i64 a0_0, .int .i64 a0_1, .int .i64 a0_2, .int .i64 a0_3, .slice A0_4 l0_4.length c0_4, .slice A0_5 l0_5.length c0_5, .slice A0_6 l0_6.length c0_6] 35 (0, 0)) (by (with_reducible repeat (first | refine blk_drewN ?_ _ | refine blk_drew ?_ | refine blk_alloc ?_ _)); exact BK266.out) hb); have n1_ := Aside0.mk (below_step (by repeat (first | (with_reducible first | exact HB.out | apply below_alloc | apply pw_below_drewN | apply below_drew1 | refine below_set ?_ GE266.out) | exact HB.out)) hb); clear BK266; clear HB; have BK266 := n0_; have HB := n1_; clear n0_ n1_; (try clear hb); (try clear hb2); (try clear hk); (try clear hi)))
                                go_ret
                                exact ⟨by first | rfl | (simp [errW_none, errW_some] <;> rfl) | (simp [*, errW_none, errW_some] <;> rfl), by repeat (first | (with_reducible first | exact HB.out | apply below_alloc | apply pw_below_drewN | apply below_drew1 | refine below_set ?_ GE266.out) | exact HB.out)⟩
                            · rw [if_neg c30] at H
                              exact absurd H (by simp)
                          · rw [if_neg c29] at H
                            exact absurd H (by simp)
                        · replace c28 := Bool.eq_false_iff.mpr c28
                          subst c28
                          have H1 : (garmentlaw44_BundleTickets.l2 kj22 l1 a2 x7_2 0 a0_0 a0_1 a0_2 a0_3 l0_4 l0_5 l0_6) = some r := by rw [if_neg (show ¬ (false = true) by decide)] at H; exact H
                          clear H
                          have H := H1
                          clear H1
                          have H' := Aside0.mk H
                          clear H
                          go_wp2
                          go_loopg [11] kj22 (fun kq v11 w' => ∃ (x11_5 : Int), v11 = .int .i64 x11_5 ∧ Aside0 (garmentlaw44_BundleTickets.l2 kq l1 a2 x7_2 x11_5 a0_0 a0_1 a0_2 a0_3 l0_4 l0_5 l0_6 = some r) ∧ Aside0 (kq ≤ kj22) ∧ Aside0 (w'.heap[gb266]? = some (.cells #[.int .i64 a0_0, .int .i64 a0_1, .int .i64 a0_2, .int .i64 a0_3, (.slice A0_4 l0_4.length c0_4), (.slice A0_5 l0_5.length c0_5), (.slice A0_6 l0_6.length c0_6)] 35 (0, 0))) ∧ Aside0 (Below w.heap.size w w'))
                          case atStart => exact ⟨(0), (by first | rfl | (simp; done) | (simp [*]; done)), H', ⟨Nat.le_refl _⟩, ⟨by (with_reducible repeat (first | refine blk_drewN ?_ _ | refine blk_drew ?_ | refine blk_alloc ?_ _)); exact BK266.out⟩, ⟨by repeat (first | (with_reducible first | exact HB.out | apply below_alloc | apply pw_below_drewN | apply below_drew1 | refine below_set ?_ GE266.out) | exact HB.out)⟩⟩
                          case round =>
                            clear H'
                            try clear c1
                            try clear c2
                            try clear p2
                            try clear q2
                            try clear hx2
                            try clear c3
                            try clear c6
                            try clear p6
                            try clear c7
                            try clear c8
                            try clear c8b0
                            try clear c8b1
                            try clear c9
                            try clear c10
                            try clear c12
                            try clear c18
                            try clear c21
                            try clear c21b0
                            try clear c22
                            try clear c22b0
                            try clear c24
                            try clear c24b0
                            try clear c25
                            try clear c25b0
                            try clear c26
                            try clear c26b0
                            try clear p27
                            try clear q27
                            try clear hx27
                            try clear c28
                            try clear c29
                            try clear c29b0
                            try clear c30
                            try clear c30b0
                            try clear c32
                            try clear c33
                            try clear c33b0
                            try clear c33b1
                            try clear hcz12_0
                            try clear hcz12_1
                            try clear hcz12_2
                            try clear hcz12_3
                            try clear hcz12_4
                            try clear hcz12_5
                            try clear hcz12_6
                            try clear hcz14_0
                            try clear hcz14_1
                            try clear hcz14_2
                            try clear hcz14_3
                            try clear hcz14_4
                            try clear hcz14_5
                            try clear hcz14_6
                            try clear hcz16_0
                            try clear hcz16_1
                            try clear hcz16_2
                            try clear hcz16_3
                            try clear hcz16_4
                            try clear hcz16_5
                            try clear hcz16_6
                            try clear hcz27_0
                            try clear hcz27_1
                            try clear hcz27_2
                            try clear hcz27_3
                            try clear hcz27_4
                            try clear hcz27_5
                            try clear hcz27_6
                            try clear hcz9_0
                            try clear hcz9_1
                            try clear hcz9_2
                            try clear hcz9_3
                            try clear hcz9_4
                            try clear hcz9_5
                            try clear hcz9_6
                            try clear hfz12_0
                            try clear hfz12_1
                            try clear hfz12_2
                            try clear hfz12_3
                            try clear hfz12_4
                            try clear hfz12_5
                            try clear hfz12_6
                            try clear hfz14_0
                            try clear hfz14_1
                            try clear hfz14_2
                            try clear hfz14_3
                            try clear hfz14_4
                            try clear hfz14_5
                            try clear hfz14_6
                            try clear hfz16_0
                            try clear hfz16_1
                            try clear hfz16_2
                            try clear hfz16_3
                            try clear hfz16_4
                            try clear hfz16_5
                            try clear hfz16_6
                            try clear hfz27_0
                            try clear hfz27_1
                            try clear hfz27_2
                            try clear hfz27_3
                            try clear hfz27_4
                            try clear hfz27_5
                            try clear hfz27_6
                            try clear hfz9_0
                            try clear hfz9_1
                            try clear hfz9_2
                            try clear hfz9_3
                            try clear hfz9_4
                            try clear hfz9_5
                            try clear hfz9_6
                            try clear hx270_0
                            try clear hx270_1
                            try clear hx270_2
                            try clear hx270_3
                            try clear hx270_4
                            try clear hx270_5
                            try clear hx271_0
                            try clear hx271_1
                            try clear hx271_2
                            try clear hx271_3
                            try clear hx271_4
                            try clear hx271_5
                            try clear hx272_0
                            try clear hx272_1
                            try clear hx272_2
                            try clear hx272_3
                            try clear hx272_4
                            try clear hx272_5
                            try clear p2
                            try clear p27
                            try clear p270
                            try clear p271
                            try clear p272
                            try clear q2
                            try clear q27
                            try clear q270
                            try clear q271
                            try clear q272
                            obtain ⟨x11_5, rfl, HA, HK5, BK266, HB⟩ := hrel
                            cases gk with
                            | zero => exact absurd HA.out (by simp [garmentlaw44_BundleTickets.l2])
                            | succ k5 =>
                              have H := HA.out
                              clear HA
                              simp only [garmentlaw44_BundleTickets.l2] at H
                              by_cases c37 : x11_5 < x7_2
                              · rw [if_pos c37] at H
                                have c37b0 : decide (x11_5 < x7_2) = true := decide_eq_true c37
                                clear c37
                                by_cases c38 : 0 ≤ x11_5
                                · rw [if_pos c38] at H
                                  have c38b0 : decide (0 ≤ x11_5) = true := decide_eq_true c38
                                  clear c38
                                  by_cases c39 : x11_5 < (l1.length : Int)
                                  · rw [if_pos c39] at H
                                    have c39b0 : decide (x11_5 < (l1.length : Int)) = true := decide_eq_true c39
                                    clear c39
                                    by_cases c40 : 0 ≤ x7_2
                                    · rw [if_pos c40] at H
                                      have c40b0 : decide (0 ≤ x7_2) = true := decide_eq_true c40
                                      clear c40
                                      by_cases c41 : x7_2 < (l1.length : Int)
                                      · rw [if_pos c41] at H
                                        have c41b0 : decide (x7_2 < (l1.length : Int)) = true := decide_eq_true c41
                                        clear c41
                                        by_cases c42 : ((rd_T42 l1 x11_5).f0) = ((rd_T42 l1 x7_2).f0)
                                        · rw [if_pos c42] at H
                                          have c42b0 : (((rd_T42 l1 x11_5).f0) == ((rd_T42 l1 x7_2).f0)) = true := beq_iff_eq.mpr c42
                                          have c42b1 : (((rd_T42 l1 x11_5).f0) != ((rd_T42 l1 x7_2).f0)) = false := bne_eq_false_iff_eq.mpr c42
                                          clear c42
                                          obtain rfl := Option.some.inj H
                                          try go_wp2
                                          have n0_ := Aside0.mk (blk_drew BK266.out)
                                          have n1_ := Aside0.mk (below_drew1 HB.out)
                                          clear BK266
                                          clear HB
                                          have BK266 := n0_
                                          have HB := n1_
                                          clear n0_ n1_
                                          have p275 : 0 ≤ (x11_5 : Int) := of_decide_eq_true (by first | (with_reducible assumption) | assumption)
                                          have q275 : x11_5 < (l1.length : Int) := of_decide_eq_true (by first | (with_reducible assumption) | assumption)
                                          obtain ⟨ad275, e275, hx275_0, hx275_1, hx275_2, hx275_3, hx275_4, hx275_5⟩ := at_T42 HR1.out x11_5 p275 q275
                                          have hw275_5 := hx275_5
                                          have hw275_4 := hx275_4
                                          have hw275_3 := hx275_3
                                          have hw275_2 := hx275_2
                                          have hw275_1 := hx275_1
                                          have hw275_0 := hx275_0
                                          obtain rfl : ad270 = ad275 := (by injection e275)
                                          replace hx275_0 := (HB.out.cell (World.block_lt_of_cell? w _ hx275_0)).trans hx275_0
                                          replace hx275_1 := (HB.out.cell (World.block_lt_of_cell? w _ hx275_1)).trans hx275_1
                                          replace hx275_2 := (HB.out.cell (World.block_lt_of_cell? w _ hx275_2)).trans hx275_2
                                          replace hx275_3 := (HB.out.cell (World.block_lt_of_cell? w _ hx275_3)).trans hx275_3
                                          replace hx275_4 := (HB.out.cell (World.block_lt_of_cell? w _ hx275_4)).trans hx275_4
                                          replace hx275_5 := (HB.out.cell (World.block_lt_of_cell? w _ hx275_5)).trans hx275_5
                                          replace p275 := eq_true p275
                                          replace q275 := eq_true q275
                                          have p276 : 0 ≤ (x7_2 : Int) := of_decide_eq_true (by first | (with_reducible assumption) | assumption)
                                          have q276 : x7_2 < (l1.length : Int) := of_decide_eq_true (by first | (with_reducible assumption) | assumption)
                                          obtain ⟨ad276, e276, hx276_0, hx276_1, hx276_2, hx276_3, hx276_4, hx276_5⟩ := at_T42 HR1.out x7_2 p276 q276
                                          have hw276_5 := hx276_5
                                          have hw276_4 := hx276_4
                                          have hw276_3 := hx276_3
                                          have hw276_2 := hx276_2
                                          have hw276_1 := hx276_1
                                          have hw276_0 := hx276_0
                                          obtain rfl : ad270 = ad276 := (by injection e276)
                                          replace hx276_0 := (HB.out.cell (World.block_lt_of_cell? w _ hx276_0)).trans hx276_0
                                          replace hx276_1 := (HB.out.cell (World.block_lt_of_cell? w _ hx276_1)).trans hx276_1
                                          replace hx276_2 := (HB.out.cell (World.block_lt_of_cell? w _ hx276_2)).trans hx276_2
                                          replace hx276_3 := (HB.out.cell (World.block_lt_of_cell? w _ hx276_3)).trans hx276_3
                                          replace hx276_4 := (HB.out.cell (World.block_lt_of_cell? w _ hx276_4)).trans hx276_4
                                          replace hx276_5 := (HB.out.cell (World.block_lt_of_cell? w _ hx276_5)).trans hx276_5
                                          replace p276 := eq_true p276
                                          replace q276 := eq_true q276
                                          refine start_ (n := 11) (S := fun w' => w'.cell? (ad270.add ((x11_5).toNat * 6)) = some (.int .i64 ((rd_T42 l1 x11_5).f0)) ∧ w'.cell? ⟨(ad270.add ((x11_5).toNat * 6)).block, (ad270.add ((x11_5).toNat * 6)).off + 1, none⟩ = some (.int .i64 ((rd_T42 l1 x11_5).f1)) ∧ w'.cell? ⟨(ad270.add ((x11_5).toNat * 6)).block, (ad270.add ((x11_5).toNat * 6)).off + 2, none⟩ = some (.int .i64 ((rd_T42 l1 x11_5).f2)) ∧ w'.cell? ⟨(ad270.add ((x11_5).toNat * 6)).block, (ad270.add ((x11_5).toNat * 6)).off + 3, none⟩ = some (.int .i64 ((rd_T42 l1 x11_5).f3)) ∧ w'.cell? ⟨(ad270.add ((x11_5).toNat * 6)).block, (ad270.add ((x11_5).toNat * 6)).off + 4, none⟩ = some (.int .i64 ((rd_T42 l1 x11_5).f4)) ∧ w'.cell? ⟨(ad270.add ((x11_5).toNat * 6)).block, (ad270.add ((x11_5).toNat * 6)).off + 5, none⟩ = some (.int .i64 ((rd_T42 l1 x11_5).f5)) ∧ w'.cell? (ad270.add ((x7_2).toNat * 6)) = some (.int .i64 ((rd_T42 l1 x7_2).f0)) ∧ w'.cell? ⟨(ad270.add ((x7_2).toNat * 6)).block, (ad270.add ((x7_2).toNat * 6)).off + 1, none⟩ = some (.int .i64 ((rd_T42 l1 x7_2).f1)) ∧ w'.cell? ⟨(ad270.add ((x7_2).toNat * 6)).block, (ad270.add ((x7_2).toNat * 6)).off + 2, none⟩ = some (.int .i64 ((rd_T42 l1 x7_2).f2)) ∧ w'.cell? ⟨(ad270.add ((x7_2).toNat * 6)).block, (ad270.add ((x7_2).toNat * 6)).off + 3, none⟩ = some (.int .i64 ((rd_T42 l1 x7_2).f3)) ∧ w'.cell? ⟨(ad270.add ((x7_2).toNat * 6)).block, (ad270.add ((x7_2).toNat * 6)).off + 4, none⟩ = some (.int .i64 ((rd_T42 l1 x7_2).f4)) ∧ w'.cell? ⟨(ad270.add ((x7_2).toNat * 6)).block, (ad270.add ((x7_2).toNat * 6)).off + 5, none⟩ = some (.int .i64 ((rd_T42 l1 x7_2).f5))) (ds := []) #[false, false, false, false, false, false, false, false, false, false, false] (by kernel_rfl) rfl rfl ⟨((HB.out.cell (World.block_lt_of_cell? w _ hw275_0)).trans hw275_0), ((HB.out.cell (World.block_lt_of_cell? w _ hw275_1)).trans hw275_1), ((HB.out.cell (World.block_lt_of_cell? w _ hw275_2)).trans hw275_2), ((HB.out.cell (World.block_lt_of_cell? w _ hw275_3)).trans hw275_3), ((HB.out.cell (World.block_lt_of_cell? w _ hw275_4)).trans hw275_4), ((HB.out.cell (World.block_lt_of_cell? w _ hw275_5)).trans hw275_5), ((HB.out.cell (World.block_lt_of_cell? w _ hw276_0)).trans hw276_0), ((HB.out.cell (World.block_lt_of_cell? w _ hw276_1)).trans hw276_1), ((HB.out.cell (World.block_lt_of_cell? w _ hw276_2)).trans hw276_2), ((HB.out.cell (World.block_lt_of_cell? w _ hw276_3)).trans hw276_3), ((HB.out.cell (World.block_lt_of_cell? w _ hw276_4)).trans hw276_4), ((HB.out.cell (World.block_lt_of_cell? w _ hw276_5)).trans hw276_5)⟩ (fun hHeld => ?_); refine with_tabW garmentlaw44_BundleTickets.tab15 garmentlaw44_BundleTickets.bits15 (fun HT_ HW_ => ?_)
                                          generalize wr.drew = w43 at BK266 HB hx275_0 hx275_1 hx275_2 hx275_3 hx275_4 hx275_5 hx276_0 hx276_1 hx276_2 hx276_3 hx276_4 hx276_5 hHeld ⊢
                                          refine pure_ (i := 0) (N := some 79) (v := ?_) (a' := ?_) #[true, false, false, false, false, false, false, false, false, false, false] rfl rfl (any_of HT_.out (by kernel_rfl)) (fun _ _ _ h => h) (Or.inl ⟨by rfl, ?_⟩) ?_ ?_
                                          rotate_left
                                          · intro w'
                                            go_simp
                                            with_reducible rfl
                                          rotate_left
                                          · simp only [Act.put, List.setIfInBounds_toArray, List.set_cons_zero, List.set_cons_succ, i64_w, i32_w]
                                            rfl
                                          refine pure_ (i := 1) (N := some 80) (v := ?_) (a' := ?_) #[true, true, false, false, false, false, false, false, false, false, false] rfl rfl (any_of HT_.out (by kernel_rfl)) (fun _ _ _ h => h) (Or.inl ⟨by rfl, ?_⟩) ?_ ?_
                                          rotate_left
                                          · intro w'
                                            go_simp
                                            with_reducible rfl
                                          rotate_left
                                          · simp only [Act.put, List.setIfInBounds_toArray, List.set_cons_zero, List.set_cons_succ, i64_w, i32_w]
                                            rfl
                                          refine pure_ (i := 2) (N := some 81) (v := ?_) (a' := ?_) #[true, true, true, false, false, false, false, false, false, false, false] rfl rfl (any_of HT_.out (by kernel_rfl)) (fun _ _ _ h => h) (Or.inl ⟨by rfl, ?_⟩) ?_ ?_
                                          rotate_left
                                          · intro w'
                                            go_simp
                                            with_reducible rfl
                                          rotate_left
                                          · simp only [Act.put, List.setIfInBounds_toArray, List.set_cons_zero, List.set_cons_succ, i64_w, i32_w]
                                            rfl
                                          refine pure_ (i := 3) (N := some 82) (v := ?_) (a' := ?_) #[true, true, true, true, false, false, false, false, false, false, false] rfl rfl (any_of HT_.out (by kernel_rfl)) (fun _ _ _ h => h) (Or.inl ⟨by rfl, ?_⟩) ?_ ?_
                                          rotate_left
                                          · intro w'
                                            go_simp
                                            with_reducible rfl
                                          rotate_left
                                          · simp only [Act.put, List.setIfInBounds_toArray, List.set_cons_zero, List.set_cons_succ, i64_w, i32_w]
                                            rfl
                                          refine pure_ (i := 5) (N := some 84) (v := ?_) (a' := ?_) #[true, true, true, true, false, true, false, false, false, false, false] rfl rfl (any_of HT_.out (by kernel_rfl)) (fun _ _ _ h => h) (Or.inl ⟨by rfl, ?_⟩) ?_ ?_
                                          rotate_left
                                          · intro w'
                                            go_simp
                                            with_reducible rfl
                                          rotate_left
                                          · simp only [Act.put, List.setIfInBounds_toArray, List.set_cons_zero, List.set_cons_succ, i64_w, i32_w]
                                            rfl
                                          refine pure_ (i := 6) (N := some 85) (v := ?_) (a' := ?_) #[true, true, true, true, false, true, true, false, false, false, false] rfl rfl (any_of HT_.out (by kernel_rfl)) (fun _ _ _ h => h) (Or.inl ⟨by rfl, ?_⟩) ?_ ?_
                                          rotate_left
                                          · intro w'
                                            go_simp
                                            with_reducible rfl
                                          rotate_left
                                          · simp only [Act.put, List.setIfInBounds_toArray, List.set_cons_zero, List.set_cons_succ, i64_w, i32_w]
                                            rfl
                                          refine pure_ (i := 7) (N := some 86) (v := ?_) (a' := ?_) #[true, true, true, true, false, true, true, true, false, false, false] rfl rfl (any_of HT_.out (by kernel_rfl)) (fun _ _ _ h => h) (Or.inl ⟨by rfl, ?_⟩) ?_ ?_
                                          rotate_left
                                          · intro w'
                                            go_simp
                                            with_reducible rfl
                                          rotate_left
                                          · simp only [Act.put, List.setIfInBounds_toArray, List.set_cons_zero, List.set_cons_succ, i64_w, i32_w]
                                            rfl
                                          refine pure_ (i := 8) (N := some 87) (v := ?_) (a' := ?_) #[true, true, true, true, false, true, true, true, true, false, false] rfl rfl (any_of HT_.out (by kernel_rfl)) (fun _ _ _ h => h) (Or.inl ⟨by rfl, ?_⟩) ?_ ?_
                                          rotate_left
                                          · intro w'
                                            go_simp
                                            with_reducible rfl
                                          rotate_left
                                          · simp only [Act.put, List.setIfInBounds_toArray, List.set_cons_zero, List.set_cons_succ, i64_w, i32_w]
                                            rfl
                                          refine take_ (i := 4) (N := some 83) (v := ?_) (a' := ?_) #[true, true, true, true, true, true, true, true, true, false, false] rfl rfl (take_ofW HT_.out HW_.out (by kernel_rfl)) (fun _ _ _ h => h) (Or.inl ⟨by rfl, ?_⟩) hHeld ?_ ?_
                                          rotate_left
                                          · rintro w' ⟨s0, s1, s2, s3, s4, s5, s6, s7, s8, s9, s10, s11⟩
                                            go_simp
                                            with_reducible rfl
                                          rotate_left
                                          · simp only [Act.put, List.setIfInBounds_toArray, List.set_cons_zero, List.set_cons_succ, i64_w, i32_w]
                                            rfl
                                          refine take_ (i := 9) (N := some 88) (v := ?_) (a' := ?_) #[true, true, true, true, true, true, true, true, true, true, false] rfl rfl (take_ofW HT_.out HW_.out (by kernel_rfl)) (fun _ _ _ h => h) (Or.inl ⟨by rfl, ?_⟩) hHeld ?_ ?_
                                          rotate_left
                                          · rintro w' ⟨s0, s1, s2, s3, s4, s5, s6, s7, s8, s9, s10, s11⟩
                                            go_simp
                                            with_reducible rfl
                                          rotate_left
                                          · simp only [Act.put, List.setIfInBounds_toArray, List.set_cons_zero, List.set_cons_succ, i64_w, i32_w]
                                            rfl
                                          refine pure_ (i := 10) (N := some 89) (v := ?_) (a' := ?_) #[true, true, true, true, true, true, true, true, true, true, true] rfl rfl (any_of HT_.out (by kernel_rfl)) (fun _ _ _ h => h) (Or.inl ⟨by rfl, ?_⟩) ?_ ?_
                                          rotate_left
                                          · intro w'
                                            go_simp
                                            with_reducible rfl
                                          rotate_left
                                          · simp only [Act.put, List.setIfInBounds_toArray, List.set_cons_zero, List.set_cons_succ, i64_w, i32_w]
                                            rfl
                                          refine done_ (done_of HT_.out (by kernel_rfl)) ?_
                                          try go_wp2
                                          go_ret
                                          exact ⟨by first | rfl | (simp [errW_none, errW_some] <;> rfl) | (simp [*, errW_none, errW_some] <;> rfl), by repeat (first | (with_reducible first | exact HB.out | apply below_alloc | apply pw_below_drewN | apply below_drew1 | refine below_set ?_ GE266.out) | exact HB.out)⟩
                                        · rw [if_neg c42] at H
                                          have c42b0 : (((rd_T42 l1 x11_5).f0) == ((rd_T42 l1 x7_2).f0)) = false := beq_eq_false_iff_ne.mpr c42
                                          have c42b1 : (((rd_T42 l1 x11_5).f0) != ((rd_T42 l1 x7_2).f0)) = true := bne_iff_ne.mpr c42
                                          have H' := Aside0.mk H
                                          clear H
                                          try go_wp2
                                          have n0_ := Aside0.mk (blk_drew BK266.out)
                                          have n1_ := Aside0.mk (below_drew1 HB.out)
                                          clear BK266
                                          clear HB
                                          have BK266 := n0_
                                          have HB := n1_
                                          clear n0_ n1_
                                          have p275 : 0 ≤ (x11_5 : Int) := of_decide_eq_true (by first | (with_reducible assumption) | assumption)
                                          have q275 : x11_5 < (l1.length : Int) := of_decide_eq_true (by first | (with_reducible assumption) | assumption)
                                          obtain ⟨ad275, e275, hx275_0, hx275_1, hx275_2, hx275_3, hx275_4, hx275_5⟩ := at_T42 HR1.out x11_5 p275 q275
                                          have hw275_5 := hx275_5
                                          have hw275_4 := hx275_4
                                          have hw275_3 := hx275_3
                                          have hw275_2 := hx275_2
                                          have hw275_1 := hx275_1
                                          have hw275_0 := hx275_0
                                          obtain rfl : ad270 = ad275 := (by injection e275)
                                          replace hx275_0 := (HB.out.cell (World.block_lt_of_cell? w _ hx275_0)).trans hx275_0
                                          replace hx275_1 := (HB.out.cell (World.block_lt_of_cell? w _ hx275_1)).trans hx275_1
                                          replace hx275_2 := (HB.out.cell (World.block_lt_of_cell? w _ hx275_2)).trans hx275_2
                                          replace hx275_3 := (HB.out.cell (World.block_lt_of_cell? w _ hx275_3)).trans hx275_3
                                          replace hx275_4 := (HB.out.cell (World.block_lt_of_cell? w _ hx275_4)).trans hx275_4
                                          replace hx275_5 := (HB.out.cell (World.block_lt_of_cell? w _ hx275_5)).trans hx275_5
                                          replace p275 := eq_true p275
                                          replace q275 := eq_true q275
                                          have p276 : 0 ≤ (x7_2 : Int) := of_decide_eq_true (by first | (with_reducible assumption) | assumption)
                                          have q276 : x7_2 < (l1.length : Int) := of_decide_eq_true (by first | (with_reducible assumption) | assumption)
                                          obtain ⟨ad276, e276, hx276_0, hx276_1, hx276_2, hx276_3, hx276_4, hx276_5⟩ := at_T42 HR1.out x7_2 p276 q276
                                          have hw276_5 := hx276_5
                                          have hw276_4 := hx276_4
                                          have hw276_3 := hx276_3
                                          have hw276_2 := hx276_2
                                          have hw276_1 := hx276_1
                                          have hw276_0 := hx276_0
                                          obtain rfl : ad270 = ad276 := (by injection e276)
                                          replace hx276_0 := (HB.out.cell (World.block_lt_of_cell? w _ hx276_0)).trans hx276_0
                                          replace hx276_1 := (HB.out.cell (World.block_lt_of_cell? w _ hx276_1)).trans hx276_1
                                          replace hx276_2 := (HB.out.cell (World.block_lt_of_cell? w _ hx276_2)).trans hx276_2
                                          replace hx276_3 := (HB.out.cell (World.block_lt_of_cell? w _ hx276_3)).trans hx276_3
                                          replace hx276_4 := (HB.out.cell (World.block_lt_of_cell? w _ hx276_4)).trans hx276_4
                                          replace hx276_5 := (HB.out.cell (World.block_lt_of_cell? w _ hx276_5)).trans hx276_5
                                          replace p276 := eq_true p276
                                          replace q276 := eq_true q276
                                          refine start_ (n := 11) (S := fun w' => w'.cell? (ad270.add ((x11_5).toNat * 6)) = some (.int .i64 ((rd_T42 l1 x11_5).f0)) ∧ w'.cell? ⟨(ad270.add ((x11_5).toNat * 6)).block, (ad270.add ((x11_5).toNat * 6)).off + 1, none⟩ = some (.int .i64 ((rd_T42 l1 x11_5).f1)) ∧ w'.cell? ⟨(ad270.add ((x11_5).toNat * 6)).block, (ad270.add ((x11_5).toNat * 6)).off + 2, none⟩ = some (.int .i64 ((rd_T42 l1 x11_5).f2)) ∧ w'.cell? ⟨(ad270.add ((x11_5).toNat * 6)).block, (ad270.add ((x11_5).toNat * 6)).off + 3, none⟩ = some (.int .i64 ((rd_T42 l1 x11_5).f3)) ∧ w'.cell? ⟨(ad270.add ((x11_5).toNat * 6)).block, (ad270.add ((x11_5).toNat * 6)).off + 4, none⟩ = some (.int .i64 ((rd_T42 l1 x11_5).f4)) ∧ w'.cell? ⟨(ad270.add ((x11_5).toNat * 6)).block, (ad270.add ((x11_5).toNat * 6)).off + 5, none⟩ = some (.int .i64 ((rd_T42 l1 x11_5).f5)) ∧ w'.cell? (ad270.add ((x7_2).toNat * 6)) = some (.int .i64 ((rd_T42 l1 x7_2).f0)) ∧ w'.cell? ⟨(ad270.add ((x7_2).toNat * 6)).block, (ad270.add ((x7_2).toNat * 6)).off + 1, none⟩ = some (.int .i64 ((rd_T42 l1 x7_2).f1)) ∧ w'.cell? ⟨(ad270.add ((x7_2).toNat * 6)).block, (ad270.add ((x7_2).toNat * 6)).off + 2, none⟩ = some (.int .i64 ((rd_T42 l1 x7_2).f2)) ∧ w'.cell? ⟨(ad270.add ((x7_2).toNat * 6)).block, (ad270.add ((x7_2).toNat * 6)).off + 3, none⟩ = some (.int .i64 ((rd_T42 l1 x7_2).f3)) ∧ w'.cell? ⟨(ad270.add ((x7_2).toNat * 6)).block, (ad270.add ((x7_2).toNat * 6)).off + 4, none⟩ = some (.int .i64 ((rd_T42 l1 x7_2).f4)) ∧ w'.cell? ⟨(ad270.add ((x7_2).toNat * 6)).block, (ad270.add ((x7_2).toNat * 6)).off + 5, none⟩ = some (.int .i64 ((rd_T42 l1 x7_2).f5))) (ds := []) #[false, false, false, false, false, false, false, false, false, false, false] (by kernel_rfl) rfl rfl ⟨((HB.out.cell (World.block_lt_of_cell? w _ hw275_0)).trans hw275_0), ((HB.out.cell (World.block_lt_of_cell? w _ hw275_1)).trans hw275_1), ((HB.out.cell (World.block_lt_of_cell? w _ hw275_2)).trans hw275_2), ((HB.out.cell (World.block_lt_of_cell? w _ hw275_3)).trans hw275_3), ((HB.out.cell (World.block_lt_of_cell? w _ hw275_4)).trans hw275_4), ((HB.out.cell (World.block_lt_of_cell? w _ hw275_5)).trans hw275_5), ((HB.out.cell (World.block_lt_of_cell? w _ hw276_0)).trans hw276_0), ((HB.out.cell (World.block_lt_of_cell? w _ hw276_1)).trans hw276_1), ((HB.out.cell (World.block_lt_of_cell? w _ hw276_2)).trans hw276_2), ((HB.out.cell (World.block_lt_of_cell? w _ hw276_3)).trans hw276_3), ((HB.out.cell (World.block_lt_of_cell? w _ hw276_4)).trans hw276_4), ((HB.out.cell (World.block_lt_of_cell? w _ hw276_5)).trans hw276_5)⟩ (fun hHeld => ?_); refine with_tabW garmentlaw44_BundleTickets.tab15 garmentlaw44_BundleTickets.bits15 (fun HT_ HW_ => ?_)
                                          generalize wr.drew = w44 at BK266 HB hx275_0 hx275_1 hx275_2 hx275_3 hx275_4 hx275_5 hx276_0 hx276_1 hx276_2 hx276_3 hx276_4 hx276_5 hHeld ⊢
                                          refine pure_ (i := 0) (N := some 79) (v := ?_) (a' := ?_) #[true, false, false, false, false, false, false, false, false, false, false] rfl rfl (any_of HT_.out (by kernel_rfl)) (fun _ _ _ h => h) (Or.inl ⟨by rfl, ?_⟩) ?_ ?_
                                          rotate_left
                                          · intro w'
                                            go_simp
                                            with_reducible rfl
                                          rotate_left
                                          · simp only [Act.put, List.setIfInBounds_toArray, List.set_cons_zero, List.set_cons_succ, i64_w, i32_w]
                                            rfl
                                          refine pure_ (i := 1) (N := some 80) (v := ?_) (a' := ?_) #[true, true, false, false, false, false, false, false, false, false, false] rfl rfl (any_of HT_.out (by kernel_rfl)) (fun _ _ _ h => h) (Or.inl ⟨by rfl, ?_⟩) ?_ ?_
                                          rotate_left
                                          · intro w'
                                            go_simp
                                            with_reducible rfl
                                          rotate_left
                                          · simp only [Act.put, List.setIfInBounds_toArray, List.set_cons_zero, List.set_cons_succ, i64_w, i32_w]
                                            rfl
                                          refine pure_ (i := 2) (N := some 81) (v := ?_) (a' := ?_) #[true, true, true, false, false, false, false, false, false, false, false] rfl rfl (any_of HT_.out (by kernel_rfl)) (fun _ _ _ h => h) (Or.inl ⟨by rfl, ?_⟩) ?_ ?_
                                          rotate_left
                                          · intro w'
                                            go_simp
                                            with_reducible rfl
                                          rotate_left
                                          · simp only [Act.put, List.setIfInBounds_toArray, List.set_cons_zero, List.set_cons_succ, i64_w, i32_w]
                                            rfl
                                          refine pure_ (i := 3) (N := some 82) (v := ?_) (a' := ?_) #[true, true, true, true, false, false, false, false, false, false, false] rfl rfl (any_of HT_.out (by kernel_rfl)) (fun _ _ _ h => h) (Or.inl ⟨by rfl, ?_⟩) ?_ ?_
                                          rotate_left
                                          · intro w'
                                            go_simp
                                            with_reducible rfl
                                          rotate_left
                                          · simp only [Act.put, List.setIfInBounds_toArray, List.set_cons_zero, List.set_cons_succ, i64_w, i32_w]
                                            rfl
                                          refine pure_ (i := 5) (N := some 84) (v := ?_) (a' := ?_) #[true, true, true, true, false, true, false, false, false, false, false] rfl rfl (any_of HT_.out (by kernel_rfl)) (fun _ _ _ h => h) (Or.inl ⟨by rfl, ?_⟩) ?_ ?_
                                          rotate_left
                                          · intro w'
                                            go_simp
                                            with_reducible rfl
                                          rotate_left
                                          · simp only [Act.put, List.setIfInBounds_toArray, List.set_cons_zero, List.set_cons_succ, i64_w, i32_w]
                                            rfl
                                          refine pure_ (i := 6) (N := some 85) (v := ?_) (a' := ?_) #[true, true, true, true, false, true, true, false, false, false, false] rfl rfl (any_of HT_.out (by kernel_rfl)) (fun _ _ _ h => h) (Or.inl ⟨by rfl, ?_⟩) ?_ ?_
                                          rotate_left
                                          · intro w'
                                            go_simp
                                            with_reducible rfl
                                          rotate_left
                                          · simp only [Act.put, List.setIfInBounds_toArray, List.set_cons_zero, List.set_cons_succ, i64_w, i32_w]
                                            rfl
                                          refine pure_ (i := 7) (N := some 86) (v := ?_) (a' := ?_) #[true, true, true, true, false, true, true, true, false, false, false] rfl rfl (any_of HT_.out (by kernel_rfl)) (fun _ _ _ h => h) (Or.inl ⟨by rfl, ?_⟩) ?_ ?_
                                          rotate_left
                                          · intro w'
                                            go_simp
                                            with_reducible rfl
                                          rotate_left
                                          · simp only [Act.put, List.setIfInBounds_toArray, List.set_cons_zero, List.set_cons_succ, i64_w, i32_w]
                                            rfl
                                          refine pure_ (i := 8) (N := some 87) (v := ?_) (a' := ?_) #[true, true, true, true, false, true, true, true, true, false, false] rfl rfl (any_of HT_.out (by kernel_rfl)) (fun _ _ _ h => h) (Or.inl ⟨by rfl, ?_⟩) ?_ ?_
                                          rotate_left
                                          · intro w'
                                            go_simp
                                            with_reducible rfl
                                          rotate_left
                                          · simp only [Act.put, List.setIfInBounds_toArray, List.set_cons_zero, List.set_cons_succ, i64_w, i32_w]
                                            rfl
                                          refine take_ (i := 4) (N := some 83) (v := ?_) (a' := ?_) #[true, true, true, true, true, true, true, true, true, false, false] rfl rfl (take_ofW HT_.out HW_.out (by kernel_rfl)) (fun _ _ _ h => h) (Or.inl ⟨by rfl, ?_⟩) hHeld ?_ ?_
                                          rotate_left
                                          · rintro w' ⟨s0, s1, s2, s3, s4, s5, s6, s7, s8, s9, s10, s11⟩
                                            go_simp
                                            with_reducible rfl
                                          rotate_left
                                          · simp only [Act.put, List.setIfInBounds_toArray, List.set_cons_zero, List.set_cons_succ, i64_w, i32_w]
                                            rfl
                                          refine take_ (i := 9) (N := some 88) (v := ?_) (a' := ?_) #[true, true, true, true, true, true, true, true, true, true, false] rfl rfl (take_ofW HT_.out HW_.out (by kernel_rfl)) (fun _ _ _ h => h) (Or.inl ⟨by rfl, ?_⟩) hHeld ?_ ?_
                                          rotate_left
                                          · rintro w' ⟨s0, s1, s2, s3, s4, s5, s6, s7, s8, s9, s10, s11⟩
                                            go_simp
                                            with_reducible rfl
                                          rotate_left
                                          · simp only [Act.put, List.setIfInBounds_toArray, List.set_cons_zero, List.set_cons_succ, i64_w, i32_w]
                                            rfl
                                          refine pure_ (i := 10) (N := some 89) (v := ?_) (a' := ?_) #[true, true, true, true, true, true, true, true, true, true, true] rfl rfl (any_of HT_.out (by kernel_rfl)) (fun _ _ _ h => h) (Or.inl ⟨by rfl, ?_⟩) ?_ ?_
                                          rotate_left
                                          · intro w'
                                            go_simp
                                            with_reducible rfl
                                          rotate_left
                                          · simp only [Act.put, List.setIfInBounds_toArray, List.set_cons_zero, List.set_cons_succ, i64_w, i32_w]
                                            rfl
                                          refine done_ (done_of HT_.out (by kernel_rfl)) ?_
                                          try go_wp2
                                          go_roundg k5
                                          case measure => have := HJ3.out; have := HK2.out; have := HK3.out; have := HJ22.out; have := HK5.out; omega
                                          case rel => exact ⟨(wrap64 (x11_5 + 1)), (by first | rfl | (simp; done) | (simp [*]; done)), H', ⟨by have := HJ3.out; have := HK2.out; have := HK3.out; have := HJ22.out; have := HK5.out; omega⟩, ⟨by (with_reducible repeat (first | refine blk_drewN ?_ _ | refine blk_drew ?_ | refine blk_alloc ?_ _)); exact BK266.out⟩, ⟨by repeat (first | (with_reducible first | exact HB.out | apply below_alloc | apply pw_below_drewN | apply below_drew1 | refine below_set ?_ GE266.out) | exact HB.out)⟩⟩
                                      · rw [if_neg c41] at H
                                        exact absurd H (by simp)
                                    · rw [if_neg c40] at H
                                      exact absurd H (by simp)
                                  · rw [if_neg c39] at H
                                    exact absurd H (by simp)
                                · rw [if_neg c38] at H
                                  exact absurd H (by simp)
                              · rw [if_neg c37] at H
                                have c37b0 : decide (x11_5 < x7_2) = false := decide_eq_false c37
                                clear c37
                                have H' := Aside0.mk H
                                clear H
                                go_wp2
                                go_roundg k5
                                case measure => have := HJ3.out; have := HK2.out; have := HK3.out; have := HJ22.out; have := HK5.out; omega
                                case rel => exact ⟨(wrap64 (x7_2 + 1)), (by first | rfl | (simp; done) | (simp [*]; done)), H', ⟨by have := HJ3.out; have := HK2.out; have := HK3.out; have := HJ22.out; have := HK5.out; omega⟩, ⟨by (with_reducible repeat (first | refine blk_drewN ?_ _ | refine blk_drew ?_ | refine blk_alloc ?_ _)); exact BK266.out⟩, ⟨by repeat (first | (with_reducible first | exact HB.out | apply below_alloc | apply pw_below_drewN | apply below_drew1 | refine below_set ?_ GE266.out) | exact HB.out)⟩⟩
              · rw [if_neg c22] at H
                exact absurd H (by simp)
            · rw [if_neg c21] at H
              have c21b0 : decide (x7_2 < (l1.length : Int)) = false := decide_eq_false c21
              clear c21
              by_cases c45 : (l1.length : Int) = 0
              · rw [if_pos c45] at H
                have c45b0 : ((l1.length : Int) == 0) = true := beq_iff_eq.mpr c45
                have c45b1 : ((l1.length : Int) != 0) = false := bne_eq_false_iff_eq.mpr c45
                clear c45
                by_cases c46 : (l0_4.length : Int) = 0
                · rw [if_pos c46] at H
                  have c46b0 : ((l0_4.length : Int) == 0) = true := beq_iff_eq.mpr c46
                  have c46b1 : ((l0_4.length : Int) != 0) = false := bne_eq_false_iff_eq.mpr c46
                  clear c46
                  replace H := Option.bind_eq_some_iff.mp H
                  obtain ⟨t277, A470, H⟩ := H
                  replace H : (some t277) = some r := H
                  have A47 := Aside0.mk A470
                  clear A470
                  obtain rfl := Option.some.inj H
                  have hcz48_0 : wr.cell? ⟨gb266, 0, none⟩ = some (.int .i64 a0_0) := (blk_cell BK266.out 0).trans rfl
                  have hcz48_1 : wr.cell? ⟨gb266, 1, none⟩ = some (.int .i64 a0_1) := (blk_cell BK266.out 1).trans rfl
                  have hcz48_2 : wr.cell? ⟨gb266, 2, none⟩ = some (.int .i64 a0_2) := (blk_cell BK266.out 2).trans rfl
                  have hcz48_3 : wr.cell? ⟨gb266, 3, none⟩ = some (.int .i64 a0_3) := (blk_cell BK266.out 3).trans rfl
                  have hcz48_4 : wr.cell? ⟨gb266, 4, none⟩ = some (.slice A0_4 l0_4.length c0_4) := (blk_cell BK266.out 4).trans rfl
                  have hcz48_5 : wr.cell? ⟨gb266, 5, none⟩ = some (.slice A0_5 l0_5.length c0_5) := (blk_cell BK266.out 5).trans rfl
                  have hcz48_6 : wr.cell? ⟨gb266, 6, none⟩ = some (.slice A0_6 l0_6.length c0_6) := (blk_cell BK266.out 6).trans rfl
                  have hfz48_0 := blk_frozen BK266.out 0
                  have hfz48_1 := blk_frozen BK266.out 1
                  have hfz48_2 := blk_frozen BK266.out 2
                  have hfz48_3 := blk_frozen BK266.out 3
                  have hfz48_4 := blk_frozen BK266.out 4
                  have hfz48_5 := blk_frozen BK266.out 5
                  have hfz48_6 := blk_frozen BK266.out 6
                  go_wp2_with (first | (go_at_call 9; (with_reducible refine (garmentlaw44_alive.calls k2  t277 _ A47.out).mono ?_); rintro e w49 ⟨rfl, hb⟩; have n0_ := Aside0.mk (blk_below (g := gb266) (o := .cells #[.int .i64 a0_0, .int .i64 a0_1, .int .i64 a0_2, .int .i64 a0_3, .slice A0_4 l0_4.length c0_4, .slice A0_5 l0_5.length c0_5, .slice A0_6 l0_6.length c0_6] 35 (0, 0)) (by (with_reducible repeat (first | refine blk_drewN ?_ _ | refine blk_drew ?_ | refine blk_alloc ?_ _)); exact BK266.out) hb); have n1_ := Aside0.mk (below_step (by repeat (first | (with_reducible first | exact HB.out | apply below_alloc | apply pw_below_drewN | apply below_drew1 | refine below_set ?_ GE266.out) | exact HB.out)) hb); clear BK266; clear HB; have BK266 := n0_; have HB := n1_; clear n0_ n1_; (try clear hb); (try clear hb2); (try clear hk); (try clear hi)))
                  go_ret
                  exact ⟨by first | rfl | (simp [errW_none, errW_some] <;> rfl) | (simp [*, errW_none, errW_some] <;> rfl), by repeat (first | (with_reducible first | exact HB.out | apply below_alloc | apply pw_below_drewN | apply below_drew1 | refine below_set ?_ GE266.out) | exact HB.out)⟩
                · rw [if_neg c46] at H
                  have c46b0 : ((l0_4.length : Int) == 0) = false := beq_eq_false_iff_ne.mpr c46
                  have c46b1 : ((l0_4.length : Int) != 0) = true := bne_iff_ne.mpr c46
                  have c46b2 : ¬ (l0_4 = []) := fun h_ => c46 (by rw [h_]; rfl)
                  by_cases c50 : (l0_6.length : Int) = 0
                  · rw [if_pos c50] at H
                    have c50b0 : ((l0_6.length : Int) == 0) = true := beq_iff_eq.mpr c50
                    have c50b1 : ((l0_6.length : Int) != 0) = false := bne_eq_false_iff_eq.mpr c50
                    clear c50
                    replace H := Option.bind_eq_some_iff.mp H
                    obtain ⟨t278, A510, H⟩ := H
                    replace H : (some t278) = some r := H
                    have A51 := Aside0.mk A510
                    clear A510
                    obtain rfl := Option.some.inj H
                    have hcz52_0 : wr.cell? ⟨gb266, 0, none⟩ = some (.int .i64 a0_0) := (blk_cell BK266.out 0).trans rfl
                    have hcz52_1 : wr.cell? ⟨gb266, 1, none⟩ = some (.int .i64 a0_1) := (blk_cell BK266.out 1).trans rfl
                    have hcz52_2 : wr.cell? ⟨gb266, 2, none⟩ = some (.int .i64 a0_2) := (blk_cell BK266.out 2).trans rfl
                    have hcz52_3 : wr.cell? ⟨gb266, 3, none⟩ = some (.int .i64 a0_3) := (blk_cell BK266.out 3).trans rfl
                    have hcz52_4 : wr.cell? ⟨gb266, 4, none⟩ = some (.slice A0_4 l0_4.length c0_4) := (blk_cell BK266.out 4).trans rfl
                    have hcz52_5 : wr.cell? ⟨gb266, 5, none⟩ = some (.slice A0_5 l0_5.length c0_5) := (blk_cell BK266.out 5).trans rfl
                    have hcz52_6 : wr.cell? ⟨gb266, 6, none⟩ = some (.slice A0_6 l0_6.length c0_6) := (blk_cell BK266.out 6).trans rfl
                    have hfz52_0 := blk_frozen BK266.out 0
                    have hfz52_1 := blk_frozen BK266.out 1
                    have hfz52_2 := blk_frozen BK266.out 2
                    have hfz52_3 := blk_frozen BK266.out 3
                    have hfz52_4 := blk_frozen BK266.out 4
                    have hfz52_5 := blk_frozen BK266.out 5
                    have hfz52_6 := blk_frozen BK266.out 6
                    go_wp2_with (first | (go_at_call 9; (with_reducible refine (garmentlaw44_alive.calls k2  t278 _ A51.out).mono ?_); rintro e w53 ⟨rfl, hb⟩; have n0_ := Aside0.mk (blk_below (g := gb266) (o := .cells #[.int .i64 a0_0, .int .i64 a0_1, .int .i64 a0_2, .int .i64 a0_3, .slice A0_4 l0_4.length c0_4, .slice A0_5 l0_5.length c0_5, .slice A0_6 l0_6.length c0_6] 35 (0, 0)) (by (with_reducible repeat (first | refine blk_drewN ?_ _ | refine blk_drew ?_ | refine blk_alloc ?_ _)); exact BK266.out) hb); have n1_ := Aside0.mk (below_step (by repeat (first | (with_reducible first | exact HB.out | apply below_alloc | apply pw_below_drewN | apply below_drew1 | refine below_set ?_ GE266.out) | exact HB.out)) hb); clear BK266; clear HB; have BK266 := n0_; have HB := n1_; clear n0_ n1_; (try clear hb); (try clear hb2); (try clear hk); (try clear hi)))
                    go_ret
                    exact ⟨by first | rfl | (simp [errW_none, errW_some] <;> rfl) | (simp [*, errW_none, errW_some] <;> rfl), by repeat (first | (with_reducible first | exact HB.out | apply below_alloc | apply pw_below_drewN | apply below_drew1 | refine below_set ?_ GE266.out) | exact HB.out)⟩
                  · rw [if_neg c50] at H
                    have c50b0 : ((l0_6.length : Int) == 0) = false := beq_eq_false_iff_ne.mpr c50
                    have c50b1 : ((l0_6.length : Int) != 0) = true := bne_iff_ne.mpr c50
                    have c50b2 : ¬ (l0_6 = []) := fun h_ => c50 (by rw [h_]; rfl)
                    obtain rfl := Option.some.inj H
                    have hcz54_0 : wr.cell? ⟨gb266, 0, none⟩ = some (.int .i64 a0_0) := (blk_cell BK266.out 0).trans rfl
                    have hcz54_1 : wr.cell? ⟨gb266, 1, none⟩ = some (.int .i64 a0_1) := (blk_cell BK266.out 1).trans rfl
                    have hcz54_2 : wr.cell? ⟨gb266, 2, none⟩ = some (.int .i64 a0_2) := (blk_cell BK266.out 2).trans rfl
                    have hcz54_3 : wr.cell? ⟨gb266, 3, none⟩ = some (.int .i64 a0_3) := (blk_cell BK266.out 3).trans rfl
                    have hcz54_4 : wr.cell? ⟨gb266, 4, none⟩ = some (.slice A0_4 l0_4.length c0_4) := (blk_cell BK266.out 4).trans rfl
                    have hcz54_5 : wr.cell? ⟨gb266, 5, none⟩ = some (.slice A0_5 l0_5.length c0_5) := (blk_cell BK266.out 5).trans rfl
                    have hcz54_6 : wr.cell? ⟨gb266, 6, none⟩ = some (.slice A0_6 l0_6.length c0_6) := (blk_cell BK266.out 6).trans rfl
                    have hfz54_0 := blk_frozen BK266.out 0
                    have hfz54_1 := blk_frozen BK266.out 1
                    have hfz54_2 := blk_frozen BK266.out 2
                    have hfz54_3 := blk_frozen BK266.out 3
                    have hfz54_4 := blk_frozen BK266.out 4
                    have hfz54_5 := blk_frozen BK266.out 5
                    have hfz54_6 := blk_frozen BK266.out 6
                    go_wp2
                    go_ret
                    exact ⟨by first | rfl | (simp [errW_none, errW_some] <;> rfl) | (simp [*, errW_none, errW_some] <;> rfl), by repeat (first | (with_reducible first | exact HB.out | apply below_alloc | apply pw_below_drewN | apply below_drew1 | refine below_set ?_ GE266.out) | exact HB.out)⟩
              · rw [if_neg c45] at H
                have c45b0 : ((l1.length : Int) == 0) = false := beq_eq_false_iff_ne.mpr c45
                have c45b1 : ((l1.length : Int) != 0) = true := bne_iff_ne.mpr c45
                have c45b2 : ¬ (l1 = []) := fun h_ => c45 (by rw [h_]; rfl)
                obtain ⟨y279, hy279⟩ : ∃ y_ : List (S42), y_ = (([] : List (S42))) := ⟨_, rfl⟩
                replace H : (if 0 ≤ (Int.tmod (wrap64 (a2)) (l1.length : Int)) then (if (Int.tmod (wrap64 (a2)) (l1.length : Int)) ≤ (l1.length : Int) then ((some (l1.take ((Int.tmod (wrap64 (a2)) (l1.length : Int)) : Int).toNat : List (S42))).bind fun y282 => (if y279.length + y282.length < 2932031007402 then ((some (y279 ++ y282 : List (S42))).bind fun y286 => (if 0 ≤ (wrap64 ((Int.tmod (wrap64 (a2)) (l1.length : Int)) + 1)) then (if (wrap64 ((Int.tmod (wrap64 (a2)) (l1.length : Int)) + 1)) ≤ (l1.length : Int) then ((some (l1.drop ((wrap64 ((Int.tmod (wrap64 (a2)) (l1.length : Int)) + 1)) : Int).toNat : List (S42))).bind fun y289 => (if y286.length + y289.length < 2932031007402 then ((bundle_Check.f k2 a0_0 a0_1 a0_2 a0_3 l0_4 l0_5 l0_6 (y286 ++ y289)).bind fun t296 => (if t296 = 20 then ((garmentlaw44_alive.f k2).bind fun t297 => (some t297)) else (some false))) else (none))) else (none)) else (none))) else (none))) else (none)) else (none)) = some r := by first | (rw [hy279]; with_reducible exact H) | (have H2_ := (Option.bind_some _ _).symm.trans H; rw [hy279]; with_reducible exact H2_) | (have H2_ := (Option.bind_some _ _).symm.trans H; with_reducible exact H2_) | with_reducible exact H | (rw [hy279]; exact H) | exact H
                have Ny279 := Aside0.mk hy279
                clear hy279
                obtain ⟨ji55, hji55⟩ : ∃ j_ : Int, (Int.tmod (wrap64 (a2)) (l1.length : Int)) = j_ := ⟨_, rfl⟩
                replace H : (if 0 ≤ (ji55) then (if (ji55) ≤ (l1.length : Int) then ((some (l1.take ((ji55) : Int).toNat : List (S42))).bind fun y282 => (if y279.length + y282.length < 2932031007402 then ((some (y279 ++ y282 : List (S42))).bind fun y286 => (if 0 ≤ (wrap64 ((ji55) + 1)) then (if (wrap64 ((ji55) + 1)) ≤ (l1.length : Int) then ((some (l1.drop ((wrap64 ((ji55) + 1)) : Int).toNat : List (S42))).bind fun y289 => (if y286.length + y289.length < 2932031007402 then ((bundle_Check.f k2 a0_0 a0_1 a0_2 a0_3 l0_4 l0_5 l0_6 (y286 ++ y289)).bind fun t296 => (if t296 = 20 then ((garmentlaw44_alive.f k2).bind fun t297 => (some t297)) else (some false))) else (none))) else (none)) else (none))) else (none))) else (none)) else (none)) = some r := by first | (rw [hji55] at H; exact H) | (simp only [hji55] at H ⊢; exact H)
                by_cases c56 : 0 ≤ (ji55)
                · rw [if_pos c56] at H
                  have c56b0 := eq_true c56
                  have c56b1 : decide (0 ≤ (ji55)) = true := decide_eq_true c56
                  clear c56
                  by_cases c57 : (ji55) ≤ (l1.length : Int)
                  · rw [if_pos c57] at H
                    have c57b0 := eq_true c57
                    have c57b1 : decide ((ji55) ≤ (l1.length : Int)) = true := decide_eq_true c57
                    clear c57
                    obtain ⟨y282, hy282⟩ : ∃ y_ : List (S42), y_ = (l1.take ((ji55) : Int).toNat) := ⟨_, rfl⟩
                    replace H : (if y279.length + y282.length < 2932031007402 then ((some (y279 ++ y282 : List (S42))).bind fun y286 => (if 0 ≤ (wrap64 ((ji55) + 1)) then (if (wrap64 ((ji55) + 1)) ≤ (l1.length : Int) then ((some (l1.drop ((wrap64 ((ji55) + 1)) : Int).toNat : List (S42))).bind fun y289 => (if y286.length + y289.length < 2932031007402 then ((bundle_Check.f k2 a0_0 a0_1 a0_2 a0_3 l0_4 l0_5 l0_6 (y286 ++ y289)).bind fun t296 => (if t296 = 20 then ((garmentlaw44_alive.f k2).bind fun t297 => (some t297)) else (some false))) else (none))) else (none)) else (none))) else (none)) = some r := by first | (rw [hy282]; with_reducible exact H) | (have H2_ := (Option.bind_some _ _).symm.trans H; rw [hy282]; with_reducible exact H2_) | (have H2_ := (Option.bind_some _ _).symm.trans H; with_reducible exact H2_) | with_reducible exact H | (rw [hy282]; exact H) | exact H
                    have Ny282 := Aside0.mk hy282
                    clear hy282
                    by_cases c58 : y279.length + y282.length < 2932031007402
                    · rw [if_pos c58] at H
                      have LMc58 := Aside0.mk c58
                      clear c58
                      obtain ⟨y286, hy286⟩ : ∃ y_ : List (S42), y_ = (y279 ++ y282) := ⟨_, rfl⟩
                      replace H : (if 0 ≤ (wrap64 ((ji55) + 1)) then (if (wrap64 ((ji55) + 1)) ≤ (l1.length : Int) then ((some (l1.drop ((wrap64 ((ji55) + 1)) : Int).toNat : List (S42))).bind fun y289 => (if y286.length + y289.length < 2932031007402 then ((bundle_Check.f k2 a0_0 a0_1 a0_2 a0_3 l0_4 l0_5 l0_6 (y286 ++ y289)).bind fun t296 => (if t296 = 20 then ((garmentlaw44_alive.f k2).bind fun t297 => (some t297)) else (some false))) else (none))) else (none)) else (none)) = some r := by first | (rw [hy286]; with_reducible exact H) | (have H2_ := (Option.bind_some _ _).symm.trans H; rw [hy286]; with_reducible exact H2_) | (have H2_ := (Option.bind_some _ _).symm.trans H; with_reducible exact H2_) | with_reducible exact H | (rw [hy286]; exact H) | exact H
                      have Ny286 := Aside0.mk hy286
                      clear hy286
                      obtain ⟨ji59, hji59⟩ : ∃ j_ : Int, (wrap64 ((ji55) + 1)) = j_ := ⟨_, rfl⟩
                      replace H : (if 0 ≤ (ji59) then (if (ji59) ≤ (l1.length : Int) then ((some (l1.drop ((ji59) : Int).toNat : List (S42))).bind fun y289 => (if y286.length + y289.length < 2932031007402 then ((bundle_Check.f k2 a0_0 a0_1 a0_2 a0_3 l0_4 l0_5 l0_6 (y286 ++ y289)).bind fun t296 => (if t296 = 20 then ((garmentlaw44_alive.f k2).bind fun t297 => (some t297)) else (some false))) else (none))) else (none)) else (none)) = some r := by first | (rw [hji59] at H; exact H) | (simp only [hji59] at H ⊢; exact H)
                      have hji59w : (IntKind.i64.wrap ((ji55) + 1)) = ji59 := (i64_w _).trans hji59
                      by_cases c60 : 0 ≤ (ji59)
                      · rw [if_pos c60] at H
                        have c60b0 := eq_true c60
                        have c60b1 : decide (0 ≤ (ji59)) = true := decide_eq_true c60
                        clear c60
                        by_cases c61 : (ji59) ≤ (l1.length : Int)
                        · rw [if_pos c61] at H
                          have c61b0 := eq_true c61
                          have c61b1 : decide ((ji59) ≤ (l1.length : Int)) = true := decide_eq_true c61
                          clear c61
                          obtain ⟨y289, hy289⟩ : ∃ y_ : List (S42), y_ = (l1.drop ((ji59) : Int).toNat) := ⟨_, rfl⟩
                          replace H : (if y286.length + y289.length < 2932031007402 then ((bundle_Check.f k2 a0_0 a0_1 a0_2 a0_3 l0_4 l0_5 l0_6 (y286 ++ y289)).bind fun t296 => (if t296 = 20 then ((garmentlaw44_alive.f k2).bind fun t297 => (some t297)) else (some false))) else (none)) = some r := by first | (rw [hy289]; with_reducible exact H) | (have H2_ := (Option.bind_some _ _).symm.trans H; rw [hy289]; with_reducible exact H2_) | (have H2_ := (Option.bind_some _ _).symm.trans H; with_reducible exact H2_) | with_reducible exact H | (rw [hy289]; exact H) | exact H
                          have Ny289 := Aside0.mk hy289
                          clear hy289
                          by_cases c62 : y286.length + y289.length < 2932031007402
                          · rw [if_pos c62] at H
                            have LMc62 := Aside0.mk c62
                            clear c62
                            obtain ⟨y293, hy293⟩ : ∃ y_ : List (S42), y_ = (y286 ++ y289) := ⟨_, rfl⟩
                            replace H : ((bundle_Check.f k2 a0_0 a0_1 a0_2 a0_3 l0_4 l0_5 l0_6 y293).bind fun t296 => (if t296 = 20 then ((garmentlaw44_alive.f k2).bind fun t297 => (some t297)) else (some false))) = some r := by first | (rw [hy293]; with_reducible exact H) | (have H2_ := (Option.bind_some _ _).symm.trans H; rw [hy293]; with_reducible exact H2_) | (have H2_ := (Option.bind_some _ _).symm.trans H; with_reducible exact H2_) | with_reducible exact H | (rw [hy293]; exact H) | exact H
                            have Ny293 := Aside0.mk hy293
                            clear hy293
                            replace H := Option.bind_eq_some_iff.mp H
                            obtain ⟨t296, A630, H⟩ := H
                            replace H : (if t296 = 20 then ((garmentlaw44_alive.f k2).bind fun t297 => (some t297)) else (some false)) = some r := H
                            have A63 := Aside0.mk A630
                            clear A630
                            by_cases c64 : t296 = 20
                            · rw [if_pos c64] at H
                              have c64b0 : (t296 == 20) = true := beq_iff_eq.mpr c64
                              have c64b1 : (t296 != 20) = false := bne_eq_false_iff_eq.mpr c64
                              clear c64
                              replace H := Option.bind_eq_some_iff.mp H
                              obtain ⟨t297, A650, H⟩ := H
                              replace H : (some t297) = some r := H
                              have A65 := Aside0.mk A650
                              clear A650
                              obtain rfl := Option.some.inj H
                              try go_wp2
                              have n0_ := Aside0.mk (blk_drew BK266.out)
                              have n1_ := Aside0.mk (below_drew1 HB.out)
                              clear BK266
                              clear HB
                              have BK266 := n0_
                              have HB := n1_
                              clear n0_ n1_
                              have q67 : ((ji55) : Int) ≤ ((l1.length : Int) : Int) := of_decide_eq_true (by first | (with_reducible assumption) | assumption)
                              obtain ⟨i067, hi067, _, hsz67, _⟩ := info_parts info42
                              have hroom67 : l1.length ≤ c1 := HC1.out
                              have hC67 : Kd.C k42 _ A1 l1.length l1 := HR1.out
                              have hcut67 := cut_to (P := Try.prog) 22 42 .i64 Try.underlying22 hi067 A1 l1.length c1 (ji55) (of_decide_eq_true (by first | (with_reducible assumption) | assumption)) q67 hroom67
                              have hr67 := Kd.C_take (m := ((ji55) : Int).toNat) hC67 (by omega)
                              have hy67 : y282.length = ((ji55) : Int).toNat := (by rw [Ny282.out, List.length_take]; omega)
                              rw [← Ny282.out] at hr67
                              rw [← hy67] at hcut67
                              have HR285 := Aside0.mk hr67
                              have HC285 := Aside0.mk (show y282.length ≤ c1 from by omega)
                              clear hr67 hC67 hroom67 hi067 hsz67
                              have KY67 := Aside0.mk hy67
                              clear hy67
                              replace q67 := eq_true q67
                              have q68 : ((ji59) : Int) ≤ ((l1.length : Int) : Int) := of_decide_eq_true (by first | (with_reducible assumption) | assumption)
                              obtain ⟨i068, hi068, _, hsz68, _⟩ := info_parts info42
                              have hroom68 : l1.length ≤ c1 := HC1.out
                              have hC68 : Kd.C k42 _ A1 l1.length l1 := HR1.out
                              have q068 : (0 : Int) ≤ ((ji59) : Int) := of_decide_eq_true (by first | (with_reducible assumption) | assumption)
                              have hcut68 := cut_from (P := Try.prog) 22 42 .i64 Try.underlying22 hi068 6 hsz68 A1 l1.length c1 (ji59) q068 q68
                              have hr68 := Kd.C_drop (m := ((ji59) : Int).toNat) (c := c1) hC68 (by omega) hroom68
                              obtain ⟨A68, hA68⟩ : ∃ A1_, A1_ = (if c1 = ((ji59) : Int).toNat then A1 else (A1 : Option Addr).map (·.add (((ji59) : Int).toNat * 6))) := ⟨_, rfl⟩
                              obtain ⟨c68, hc68⟩ : ∃ c1_, c1_ = c1 - ((ji59) : Int).toNat := ⟨_, rfl⟩
                              have hy68 : y289.length = l1.length - ((ji59) : Int).toNat := (by rw [Ny289.out, List.length_drop] <;> omega)
                              rw [show (l1).drop ((ji59) : Int).toNat = y289 from Ny289.out.symm] at hr68
                              replace hr68 : Kd.C k42 _ A68 y289.length y289 := (by rw [hA68]; exact hr68)
                              rw [← hy68, ← hA68, ← hc68] at hcut68
                              have HR292 := Aside0.mk hr68
                              have HC292 := Aside0.mk (show y289.length ≤ c68 from by rw [hy68, hc68]; exact Nat.sub_le_sub_right hroom68 _)
                              clear hr68 hC68 hroom68 hi068 hsz68 hc68
                              have KY68 := Aside0.mk hy68
                              have KA68 := Aside0.mk hA68
                              clear hy68 hA68
                              replace q68 := eq_true q68
                              refine start_ (n := 11) (S := fun w' => True) (ds := []) #[false, false, false, false, false, false, false, false, false, false, false] (by kernel_rfl) rfl rfl trivial (fun hHeld => ?_); refine with_tabW garmentlaw44_BundleTickets.tab20 garmentlaw44_BundleTickets.bits20 (fun HT_ HW_ => ?_)
                              generalize wr.drew = w66 at BK266 HB HR285 HR292 hHeld ⊢
                              refine pure_ (i := 1) (N := some 113) (v := ?_) (a' := ?_) #[false, true, false, false, false, false, false, false, false, false, false] rfl rfl (any_of HT_.out (by kernel_rfl)) (fun _ _ _ h => h) (Or.inl ⟨by rfl, ?_⟩) ?_ ?_
                              rotate_left
                              · intro w'
                                go_simp
                                with_reducible rfl
                              rotate_left
                              · simp only [Act.put, List.setIfInBounds_toArray, List.set_cons_zero, List.set_cons_succ, i64_w, i32_w]
                                rfl
                              refine pure_ (i := 2) (N := some 114) (v := ?_) (a' := ?_) #[false, true, true, false, false, false, false, false, false, false, false] rfl rfl (any_of HT_.out (by kernel_rfl)) (fun _ _ _ h => h) (Or.inl ⟨by rfl, ?_⟩) ?_ ?_
                              rotate_left
                              · intro w'
                                go_simp
                                with_reducible rfl
                              rotate_left
                              · simp only [Act.put, List.setIfInBounds_toArray, List.set_cons_zero, List.set_cons_succ, i64_w, i32_w]
                                rfl
                              refine pure_ (i := 3) (N := some 115) (v := ?_) (a' := ?_) #[false, true, true, true, false, false, false, false, false, false, false] rfl rfl (any_of HT_.out (by kernel_rfl)) (fun _ _ _ h => h) (Or.inl ⟨by rfl, ?_⟩) ?_ ?_
                              rotate_left
                              · intro w'
                                go_simp
                                with_reducible rfl
                              rotate_left
                              · simp only [Act.put, List.setIfInBounds_toArray, List.set_cons_zero, List.set_cons_succ, i64_w, i32_w]
                                rfl
                              refine pure_ (i := 5) (N := some 117) (v := ?_) (a' := ?_) #[false, true, true, true, false, true, false, false, false, false, false] rfl rfl (any_of HT_.out (by kernel_rfl)) (fun _ _ _ h => h) (Or.inl ⟨by rfl, ?_⟩) ?_ ?_
                              rotate_left
                              · intro w'
                                go_simp
                                with_reducible rfl
                              rotate_left
                              · simp only [Act.put, List.setIfInBounds_toArray, List.set_cons_zero, List.set_cons_succ, i64_w, i32_w]
                                rfl
                              refine pure_ (i := 6) (N := some 118) (v := ?_) (a' := ?_) #[false, true, true, true, false, true, true, false, false, false, false] rfl rfl (any_of HT_.out (by kernel_rfl)) (fun _ _ _ h => h) (Or.inl ⟨by rfl, ?_⟩) ?_ ?_
                              rotate_left
                              · intro w'
                                go_simp
                                with_reducible rfl
                              rotate_left
                              · simp only [Act.put, List.setIfInBounds_toArray, List.set_cons_zero, List.set_cons_succ, i64_w, i32_w]
                                rfl
                              refine pure_ (i := 7) (N := some 119) (v := ?_) (a' := ?_) #[false, true, true, true, false, true, true, true, false, false, false] rfl rfl (any_of HT_.out (by kernel_rfl)) (fun _ _ _ h => h) (Or.inl ⟨by rfl, ?_⟩) ?_ ?_
                              rotate_left
                              · intro w'
                                go_simp
                                with_reducible rfl
                              rotate_left
                              · simp only [Act.put, List.setIfInBounds_toArray, List.set_cons_zero, List.set_cons_succ, i64_w, i32_w]
                                rfl
                              refine pure_ (i := 8) (N := some 120) (v := ?_) (a' := ?_) #[false, true, true, true, false, true, true, true, true, false, false] rfl rfl (any_of HT_.out (by kernel_rfl)) (fun _ _ _ h => h) (Or.inl ⟨by rfl, ?_⟩) ?_ ?_
                              rotate_left
                              · intro w'
                                go_simp
                                with_reducible rfl
                              rotate_left
                              · simp only [Act.put, List.setIfInBounds_toArray, List.set_cons_zero, List.set_cons_succ, i64_w, i32_w]
                                rfl
                              refine one_ (i := 0) (N := some 112) #[true, true, true, true, false, true, true, true, true, false, false] rfl rfl (one_of HT_.out (by kernel_rfl)) (by decide) (fun K hK => ?_)
                              refine Kd.R_lit_step k42 _ 42 ?hg (N := 112) ?hd (xs := ([] : List (S42))) (inner := []) (ok := fun _ => True) (okp := fun _ => True) ?hr ?hp (fun _ hk => hk) trivial (Below.refl _ _) (Nat.le_refl _) (by simp) ?_; (case hd => rfl); (case hg => rfl); (case hr => first | (go_simp; done) | (go_simp; rfl)); (case hp => exact (Reps.none _ _))
                              intro v280 w69 ho70 hb hg_ hnew_
                              clear hg_ hnew_
                              (first | rw [← Ny279.out] at ho70 | (simp only [Int.reduceToNat] at ho70; rw [← Ny279.out] at ho70))
                              have n0_ := Aside0.mk (Kd.R_lower ho70 (below_size (by repeat (first | (with_reducible first | exact HB.out | apply below_alloc | apply pw_below_drewN | apply below_drew1 | refine below_set ?_ GE266.out) | exact HB.out))))
                              have n1_ := Aside0.mk (blk_below (g := gb266) (o := .cells #[.int .i64 a0_0, .int .i64 a0_1, .int .i64 a0_2, .int .i64 a0_3, .slice A0_4 l0_4.length c0_4, .slice A0_5 l0_5.length c0_5, .slice A0_6 l0_6.length c0_6] 35 (0, 0)) (by (with_reducible repeat (first | refine blk_drewN ?_ _ | refine blk_drew ?_ | refine blk_alloc ?_ _)); exact BK266.out) hb)
                              have n2_ := Aside0.mk (below_step (by repeat (first | (with_reducible first | exact HB.out | apply below_alloc | apply pw_below_drewN | apply below_drew1 | refine below_set ?_ GE266.out) | exact HB.out)) hb)
                              clear BK266
                              clear HB
                              have HO281 := n0_
                              have BK266 := n1_
                              have HB := n2_
                              clear n0_ n1_ n2_
                              clear hb ho70
                              refine hK.out _ _ trivial (fun hHeld => ?_)
                              clear hK K
                              refine norm_ (a' := ?_) ?_ ?_
                              rotate_left
                              · show Act.put _ (some 112) _ = _
                                simp only [Act.put, List.setIfInBounds_toArray, List.set_cons_zero, List.set_cons_succ, i64_w, i32_w]
                                rfl
                              refine one_ (i := 4) (N := some 116) #[true, true, true, true, true, true, true, true, true, false, false] rfl rfl (one_of HT_.out (by kernel_rfl)) (by decide) (fun K hK => ?_)
                              refine Kd.R_append_rows_step k42 (w0 := w) w.heap.size (by rfl) (.tmp 112) (.tmp 115) 22 42 (.agg #[(.int .i64 0), (.int .i64 0), (.int .i64 0), (.int .i64 0), (.int .i64 0), (.int .i64 0)]) 48 rfl Try.underlying22 info42 rfl (by decide) (by omega) v280 y279 y282 _ _ _ (fun _ => True) (fun _ => False) rfl rfl ?aO ?aR (fun _ _ h => h) (fun _ h => h.elim) ?aF ?aB ?aS ?aL ?_
                              (case aR => repeat (first | exact (Kd.C_below HR285.out HB.out) | (with_reducible refine Kd.C_alloc ?_ _) | (with_reducible refine Kd.C_drewN ?_ _) | (with_reducible refine Kd.C_drew ?_)))
                              (case aB => exact (by repeat (first | (with_reducible first | exact HB.out | apply below_alloc | apply pw_below_drewN | apply below_drew1 | refine below_set ?_ GE266.out) | exact HB.out)))
                              (case aF => exact (fun _ _ => trivial))
                              (case aO => exact (by (with_reducible repeat (first | apply Kd.R_alloc | apply Kd.R_drewN | apply Kd.R_drew)); exact HO281.out))
                              (case aS => exact (below_size (by repeat (first | (with_reducible first | exact HB.out | apply below_alloc | apply pw_below_drewN | apply below_drew1 | refine below_set ?_ GE266.out) | exact HB.out))))
                              (case aL => have := LMc58.out; omega)
                              intro v287 w71 ho hb hg hat
                              rw [← Ny286.out] at ho
                              have n0_ := Aside0.mk (blk_grown (g := gb266) (o := .cells #[.int .i64 a0_0, .int .i64 a0_1, .int .i64 a0_2, .int .i64 a0_3, .slice A0_4 l0_4.length c0_4, .slice A0_5 l0_5.length c0_5, .slice A0_6 l0_6.length c0_6] 35 (0, 0)) (by (with_reducible repeat (first | refine blk_drewN ?_ _ | refine blk_drew ?_ | refine blk_alloc ?_ _)); exact BK266.out) hg (Kd.R_ne HO281.out BK266.out (by decide)))
                              have n1_ := Aside0.mk (hb)
                              have n2_ := Aside0.mk (ho)
                              clear BK266
                              clear HB
                              clear HO281
                              have BK266 := n0_
                              have HB := n1_
                              have HO288 := n2_
                              clear n0_ n1_ n2_
                              clear ho hb hg hat
                              refine hK.out _ _ trivial (fun hHeld => ?_)
                              clear hK K
                              refine norm_ (a' := ?_) ?_ ?_
                              rotate_left
                              · show Act.put _ (some 116) _ = _
                                simp only [Act.put, List.setIfInBounds_toArray, List.set_cons_zero, List.set_cons_succ, i64_w, i32_w]
                                rfl
                              refine one_ (i := 9) (N := some 121) #[true, true, true, true, true, true, true, true, true, true, false] rfl rfl (one_of HT_.out (by kernel_rfl)) (by decide) (fun K hK => ?_)
                              refine Kd.R_append_rows_step k42 (w0 := w) w.heap.size (by rfl) (.tmp 116) (.tmp 120) 22 42 (.agg #[(.int .i64 0), (.int .i64 0), (.int .i64 0), (.int .i64 0), (.int .i64 0), (.int .i64 0)]) 48 rfl Try.underlying22 info42 rfl (by decide) (by omega) v287 y286 y289 _ _ _ (fun _ => True) (fun _ => False) rfl rfl ?aO ?aR (fun _ _ h => h) (fun _ h => h.elim) ?aF ?aB ?aS ?aL ?_
                              (case aR => repeat (first | exact (Kd.C_below HR292.out HB.out) | (with_reducible refine Kd.C_alloc ?_ _) | (with_reducible refine Kd.C_drewN ?_ _) | (with_reducible refine Kd.C_drew ?_)))
                              (case aB => exact (by repeat (first | (with_reducible first | exact HB.out | apply below_alloc | apply pw_below_drewN | apply below_drew1 | refine below_set ?_ GE266.out) | exact HB.out)))
                              (case aF => exact (fun _ _ => trivial))
                              (case aO => exact (by (with_reducible repeat (first | apply Kd.R_alloc | apply Kd.R_drewN | apply Kd.R_drew)); exact HO288.out))
                              (case aS => exact (below_size (by repeat (first | (with_reducible first | exact HB.out | apply below_alloc | apply pw_below_drewN | apply below_drew1 | refine below_set ?_ GE266.out) | exact HB.out))))
                              (case aL => have := LMc62.out; omega)
                              intro v294 w72 ho hb hg hat
                              rw [← Ny293.out] at ho
                              have n0_ := Aside0.mk (blk_grown (g := gb266) (o := .cells #[.int .i64 a0_0, .int .i64 a0_1, .int .i64 a0_2, .int .i64 a0_3, .slice A0_4 l0_4.length c0_4, .slice A0_5 l0_5.length c0_5, .slice A0_6 l0_6.length c0_6] 35 (0, 0)) (by (with_reducible repeat (first | refine blk_drewN ?_ _ | refine blk_drew ?_ | refine blk_alloc ?_ _)); exact BK266.out) hg (Kd.R_ne HO288.out BK266.out (by decide)))
                              have n1_ := Aside0.mk (hb)
                              have n2_ := Aside0.mk (ho)
                              clear BK266
                              clear HB
                              clear HO288
                              have BK266 := n0_
                              have HB := n1_
                              have HO295 := n2_
                              clear n0_ n1_ n2_
                              clear ho hb hg hat
                              refine hK.out _ _ trivial (fun hHeld => ?_)
                              clear hK K
                              refine norm_ (a' := ?_) ?_ ?_
                              rotate_left
                              · show Act.put _ (some 121) _ = _
                                simp only [Act.put, List.setIfInBounds_toArray, List.set_cons_zero, List.set_cons_succ, i64_w, i32_w]
                                rfl
                              refine pure_ (i := 10) (N := some 13) (v := ?_) (a' := ?_) #[true, true, true, true, true, true, true, true, true, true, true] rfl rfl (any_of HT_.out (by kernel_rfl)) (fun _ _ _ h => h) (Or.inl ⟨by rfl, ?_⟩) ?_ ?_
                              rotate_left
                              · intro w'
                                go_simp
                                with_reducible rfl
                              rotate_left
                              · simp only [Act.put, List.setIfInBounds_toArray, List.set_cons_zero, List.set_cons_succ, i64_w, i32_w]
                                rfl
                              refine done_ (done_of HT_.out (by kernel_rfl)) ?_
                              have hcz73_0 : w72.cell? ⟨gb266, 0, none⟩ = some (.int .i64 a0_0) := (blk_cell BK266.out 0).trans rfl
                              have hcz73_1 : w72.cell? ⟨gb266, 1, none⟩ = some (.int .i64 a0_1) := (blk_cell BK266.out 1).trans rfl
                              have hcz73_2 : w72.cell? ⟨gb266, 2, none⟩ = some (.int .i64 a0_2) := (blk_cell BK266.out 2).trans rfl
                              have hcz73_3 : w72.cell? ⟨gb266, 3, none⟩ = some (.int .i64 a0_3) := (blk_cell BK266.out 3).trans rfl
                              have hcz73_4 : w72.cell? ⟨gb266, 4, none⟩ = some (.slice A0_4 l0_4.length c0_4) := (blk_cell BK266.out 4).trans rfl
                              have hcz73_5 : w72.cell? ⟨gb266, 5, none⟩ = some (.slice A0_5 l0_5.length c0_5) := (blk_cell BK266.out 5).trans rfl
                              have hcz73_6 : w72.cell? ⟨gb266, 6, none⟩ = some (.slice A0_6 l0_6.length c0_6) := (blk_cell BK266.out 6).trans rfl
                              have hfz73_0 := blk_frozen BK266.out 0
                              have hfz73_1 := blk_frozen BK266.out 1
                              have hfz73_2 := blk_frozen BK266.out 2
                              have hfz73_3 := blk_frozen BK266.out 3
                              have hfz73_4 := blk_frozen BK266.out 4
                              have hfz73_5 := blk_frozen BK266.out 5
                              have hfz73_6 := blk_frozen BK266.out 6
                              obtain ⟨Ao74, co74, eo74⟩ := Kd.R_slice HO295.out
                              subst eo74
                              try go_wp2_with (first | ((with_reducible refine gate_callee (f := 14) rfl ?_); refine goesL_ (some 124) rfl rfl Try.func14 (by kernel_rfl) rfl #[.agg #[.int .i64 a0_0, .int .i64 a0_1, .int .i64 a0_2, .int .i64 a0_3, .slice A0_4 l0_4.length c0_4, .slice A0_5 l0_5.length c0_5, .slice A0_6 l0_6.length c0_6], .slice Ao74 y293.length co74] rfl (by (try simp only [List.map_toArray, List.map_cons, List.map_nil]); first | done | rfl | (simp only [List.length_drop, List.length_take]; rfl)) ?_; (with_reducible refine (bundle_Check.calls k2 a0_0 a0_1 a0_2 a0_3 _ _ l0_4 _ _ l0_5 _ _ l0_6 _ _ y293 t296 _ ?side1 ?side2 ?side3 ?side4 ?side5 ?side6 ?side7 ?side8 A63.out).mono ?_); (case side1 => repeat (first | exact (Kd.C_below HR0_4.out HB.out) | (with_reducible refine Kd.C_alloc ?_ _) | (with_reducible refine Kd.C_drewN ?_ _) | (with_reducible refine Kd.C_drew ?_))); (case side2 => exact HC0_4.out); (case side3 => repeat (first | exact (Kd.C_below HR0_5.out HB.out) | (with_reducible refine Kd.C_alloc ?_ _) | (with_reducible refine Kd.C_drewN ?_ _) | (with_reducible refine Kd.C_drew ?_))); (case side4 => exact HC0_5.out); (case side5 => repeat (first | exact (Kd.C_below HR0_6.out HB.out) | (with_reducible refine Kd.C_alloc ?_ _) | (with_reducible refine Kd.C_drewN ?_ _) | (with_reducible refine Kd.C_drew ?_))); (case side6 => exact HC0_6.out); (case side7 => repeat (first | exact (Kd.R_reads' HO295.out).2.2 | (with_reducible refine Kd.C_alloc ?_ _) | (with_reducible refine Kd.C_drewN ?_ _) | (with_reducible refine Kd.C_drew ?_))); (case side8 => exact (Kd.R_reads' HO295.out).2.1); rintro e w75 ⟨rfl, hb⟩; refine ⟨_, rfl, ?_⟩; have n0_ := Aside0.mk (Kd.R_below (by (with_reducible repeat (first | apply Kd.R_alloc | apply Kd.R_drewN | apply Kd.R_drew)); exact HO295.out) hb); have n1_ := Aside0.mk (blk_below (g := gb266) (o := .cells #[.int .i64 a0_0, .int .i64 a0_1, .int .i64 a0_2, .int .i64 a0_3, .slice A0_4 l0_4.length c0_4, .slice A0_5 l0_5.length c0_5, .slice A0_6 l0_6.length c0_6] 35 (0, 0)) (by (with_reducible repeat (first | refine blk_drewN ?_ _ | refine blk_drew ?_ | refine blk_alloc ?_ _)); exact BK266.out) hb); have n2_ := Aside0.mk (below_step (by repeat (first | (with_reducible first | exact HB.out | apply below_alloc | apply pw_below_drewN | apply below_drew1 | refine below_set ?_ GE266.out) | exact HB.out)) hb); clear HO295; clear BK266; clear HB; have HO295 := n0_; have BK266 := n1_; have HB := n2_; clear n0_ n1_ n2_; (try clear hb); (try clear hb2); (try clear hk); (try clear hi)) | (go_at_call 9; (with_reducible refine (garmentlaw44_alive.calls k2  t297 _ A65.out).mono ?_); rintro e w76 ⟨rfl, hb⟩; have n0_ := Aside0.mk (Kd.R_below (by (with_reducible repeat (first | apply Kd.R_alloc | apply Kd.R_drewN | apply Kd.R_drew)); exact HO295.out) hb); have n1_ := Aside0.mk (blk_below (g := gb266) (o := .cells #[.int .i64 a0_0, .int .i64 a0_1, .int .i64 a0_2, .int .i64 a0_3, .slice A0_4 l0_4.length c0_4, .slice A0_5 l0_5.length c0_5, .slice A0_6 l0_6.length c0_6] 35 (0, 0)) (by (with_reducible repeat (first | refine blk_drewN ?_ _ | refine blk_drew ?_ | refine blk_alloc ?_ _)); exact BK266.out) hb); have n2_ := Aside0.mk (below_step (by repeat (first | (with_reducible first | exact HB.out | apply below_alloc | apply pw_below_drewN | apply below_drew1 | refine below_set ?_ GE266.out) | exact HB.out)) hb); clear HO295; clear BK266; clear HB; have HO295 := n0_; have BK266 := n1_; have HB := n2_; clear n0_ n1_ n2_; (try clear hb); (try clear hb2); (try clear hk); (try clear hi)))
                              go_ret
                              exact ⟨by first | rfl | (simp [errW_none, errW_some] <;> rfl) | (simp only [← hji55, ← hji59]; first | rfl | (simp [errW_none, errW_some] <;> rfl)) | (simp [*, errW_none, errW_some] <;> rfl), by repeat (first | (with_reducible first | exact HB.out | apply below_alloc | apply pw_below_drewN | apply below_drew1 | refine below_set ?_ GE266.out) | exact HB.out)⟩
                            · rw [if_neg c64] at H
                              have c64b0 : (t296 == 20) = false := beq_eq_false_iff_ne.mpr c64
                              have c64b1 : (t296 != 20) = true := bne_iff_ne.mpr c64
                              obtain rfl := Option.some.inj H
                              try go_wp2
                              have n0_ := Aside0.mk (blk_drew BK266.out)
                              have n1_ := Aside0.mk (below_drew1 HB.out)
                              clear BK266
                              clear HB
                              have BK266 := n0_
                              have HB := n1_
                              clear n0_ n1_
                              have q78 : ((ji55) : Int) ≤ ((l1.length : Int) : Int) := of_decide_eq_true (by first | (with_reducible assumption) | assumption)
                              obtain ⟨i078, hi078, _, hsz78, _⟩ := info_parts info42
                              have hroom78 : l1.length ≤ c1 := HC1.out
                              have hC78 : Kd.C k42 _ A1 l1.length l1 := HR1.out
                              have hcut78 := cut_to (P := Try.prog) 22 42 .i64 Try.underlying22 hi078 A1 l1.length c1 (ji55) (of_decide_eq_true (by first | (with_reducible assumption) | assumption)) q78 hroom78
                              have hr78 := Kd.C_take (m := ((ji55) : Int).toNat) hC78 (by omega)
                              have hy78 : y282.length = ((ji55) : Int).toNat := (by rw [Ny282.out, List.length_take]; omega)
                              rw [← Ny282.out] at hr78
                              rw [← hy78] at hcut78
                              have HR285 := Aside0.mk hr78
                              have HC285 := Aside0.mk (show y282.length ≤ c1 from by omega)
                              clear hr78 hC78 hroom78 hi078 hsz78
                              have KY78 := Aside0.mk hy78
                              clear hy78
                              replace q78 := eq_true q78
                              have q79 : ((ji59) : Int) ≤ ((l1.length : Int) : Int) := of_decide_eq_true (by first | (with_reducible assumption) | assumption)
                              obtain ⟨i079, hi079, _, hsz79, _⟩ := info_parts info42
                              have hroom79 : l1.length ≤ c1 := HC1.out
                              have hC79 : Kd.C k42 _ A1 l1.length l1 := HR1.out
                              have q079 : (0 : Int) ≤ ((ji59) : Int) := of_decide_eq_true (by first | (with_reducible assumption) | assumption)
                              have hcut79 := cut_from (P := Try.prog) 22 42 .i64 Try.underlying22 hi079 6 hsz79 A1 l1.length c1 (ji59) q079 q79
                              have hr79 := Kd.C_drop (m := ((ji59) : Int).toNat) (c := c1) hC79 (by omega) hroom79
                              obtain ⟨A79, hA79⟩ : ∃ A1_, A1_ = (if c1 = ((ji59) : Int).toNat then A1 else (A1 : Option Addr).map (·.add (((ji59) : Int).toNat * 6))) := ⟨_, rfl⟩
                              obtain ⟨c79, hc79⟩ : ∃ c1_, c1_ = c1 - ((ji59) : Int).toNat := ⟨_, rfl⟩
                              have hy79 : y289.length = l1.length - ((ji59) : Int).toNat := (by rw [Ny289.out, List.length_drop] <;> omega)
                              rw [show (l1).drop ((ji59) : Int).toNat = y289 from Ny289.out.symm] at hr79
                              replace hr79 : Kd.C k42 _ A79 y289.length y289 := (by rw [hA79]; exact hr79)
                              rw [← hy79, ← hA79, ← hc79] at hcut79
                              have HR292 := Aside0.mk hr79
                              have HC292 := Aside0.mk (show y289.length ≤ c79 from by rw [hy79, hc79]; exact Nat.sub_le_sub_right hroom79 _)
                              clear hr79 hC79 hroom79 hi079 hsz79 hc79
                              have KY79 := Aside0.mk hy79
                              have KA79 := Aside0.mk hA79
                              clear hy79 hA79
                              replace q79 := eq_true q79
                              refine start_ (n := 11) (S := fun w' => True) (ds := []) #[false, false, false, false, false, false, false, false, false, false, false] (by kernel_rfl) rfl rfl trivial (fun hHeld => ?_); refine with_tabW garmentlaw44_BundleTickets.tab20 garmentlaw44_BundleTickets.bits20 (fun HT_ HW_ => ?_)
                              generalize wr.drew = w77 at BK266 HB HR285 HR292 hHeld ⊢
                              refine pure_ (i := 1) (N := some 113) (v := ?_) (a' := ?_) #[false, true, false, false, false, false, false, false, false, false, false] rfl rfl (any_of HT_.out (by kernel_rfl)) (fun _ _ _ h => h) (Or.inl ⟨by rfl, ?_⟩) ?_ ?_
                              rotate_left
                              · intro w'
                                go_simp
                                with_reducible rfl
                              rotate_left
                              · simp only [Act.put, List.setIfInBounds_toArray, List.set_cons_zero, List.set_cons_succ, i64_w, i32_w]
                                rfl
                              refine pure_ (i := 2) (N := some 114) (v := ?_) (a' := ?_) #[false, true, true, false, false, false, false, false, false, false, false] rfl rfl (any_of HT_.out (by kernel_rfl)) (fun _ _ _ h => h) (Or.inl ⟨by rfl, ?_⟩) ?_ ?_
                              rotate_left
                              · intro w'
                                go_simp
                                with_reducible rfl
                              rotate_left
                              · simp only [Act.put, List.setIfInBounds_toArray, List.set_cons_zero, List.set_cons_succ, i64_w, i32_w]
                                rfl
                              refine pure_ (i := 3) (N := some 115) (v := ?_) (a' := ?_) #[false, true, true, true, false, false, false, false, false, false, false] rfl rfl (any_of HT_.out (by kernel_rfl)) (fun _ _ _ h => h) (Or.inl ⟨by rfl, ?_⟩) ?_ ?_
                              rotate_left
                              · intro w'
                                go_simp
                                with_reducible rfl
                              rotate_left
                              · simp only [Act.put, List.setIfInBounds_toArray, List.set_cons_zero, List.set_cons_succ, i64_w, i32_w]
                                rfl
                              refine pure_ (i := 5) (N := some 117) (v := ?_) (a' := ?_) #[false, true, true, true, false, true, false, false, false, false, false] rfl rfl (any_of HT_.out (by kernel_rfl)) (fun _ _ _ h => h) (Or.inl ⟨by rfl, ?_⟩) ?_ ?_
                              rotate_left
                              · intro w'
                                go_simp
                                with_reducible rfl
                              rotate_left
                              · simp only [Act.put, List.setIfInBounds_toArray, List.set_cons_zero, List.set_cons_succ, i64_w, i32_w]
                                rfl
                              refine pure_ (i := 6) (N := some 118) (v := ?_) (a' := ?_) #[false, true, true, true, false, true, true, false, false, false, false] rfl rfl (any_of HT_.out (by kernel_rfl)) (fun _ _ _ h => h) (Or.inl ⟨by rfl, ?_⟩) ?_ ?_
                              rotate_left
                              · intro w'
                                go_simp
                                with_reducible rfl
                              rotate_left
                              · simp only [Act.put, List.setIfInBounds_toArray, List.set_cons_zero, List.set_cons_succ, i64_w, i32_w]
                                rfl
                              refine pure_ (i := 7) (N := some 119) (v := ?_) (a' := ?_) #[false, true, true, true, false, true, true, true, false, false, false] rfl rfl (any_of HT_.out (by kernel_rfl)) (fun _ _ _ h => h) (Or.inl ⟨by rfl, ?_⟩) ?_ ?_
                              rotate_left
                              · intro w'
                                go_simp
                                with_reducible rfl
                              rotate_left
                              · simp only [Act.put, List.setIfInBounds_toArray, List.set_cons_zero, List.set_cons_succ, i64_w, i32_w]
                                rfl
                              refine pure_ (i := 8) (N := some 120) (v := ?_) (a' := ?_) #[false, true, true, true, false, true, true, true, true, false, false] rfl rfl (any_of HT_.out (by kernel_rfl)) (fun _ _ _ h => h) (Or.inl ⟨by rfl, ?_⟩) ?_ ?_
                              rotate_left
                              · intro w'
                                go_simp
                                with_reducible rfl
                              rotate_left
                              · simp only [Act.put, List.setIfInBounds_toArray, List.set_cons_zero, List.set_cons_succ, i64_w, i32_w]
                                rfl
                              refine one_ (i := 0) (N := some 112) #[true, true, true, true, false, true, true, true, true, false, false] rfl rfl (one_of HT_.out (by kernel_rfl)) (by decide) (fun K hK => ?_)
                              refine Kd.R_lit_step k42 _ 42 ?hg (N := 112) ?hd (xs := ([] : List (S42))) (inner := []) (ok := fun _ => True) (okp := fun _ => True) ?hr ?hp (fun _ hk => hk) trivial (Below.refl _ _) (Nat.le_refl _) (by simp) ?_; (case hd => rfl); (case hg => rfl); (case hr => first | (go_simp; done) | (go_simp; rfl)); (case hp => exact (Reps.none _ _))
                              intro v280 w80 ho81 hb hg_ hnew_
                              clear hg_ hnew_
                              (first | rw [← Ny279.out] at ho81 | (simp only [Int.reduceToNat] at ho81; rw [← Ny279.out] at ho81))
                              have n0_ := Aside0.mk (Kd.R_lower ho81 (below_size (by repeat (first | (with_reducible first | exact HB.out | apply below_alloc | apply pw_below_drewN | apply below_drew1 | refine below_set ?_ GE266.out) | exact HB.out))))
                              have n1_ := Aside0.mk (blk_below (g := gb266) (o := .cells #[.int .i64 a0_0, .int .i64 a0_1, .int .i64 a0_2, .int .i64 a0_3, .slice A0_4 l0_4.length c0_4, .slice A0_5 l0_5.length c0_5, .slice A0_6 l0_6.length c0_6] 35 (0, 0)) (by (with_reducible repeat (first | refine blk_drewN ?_ _ | refine blk_drew ?_ | refine blk_alloc ?_ _)); exact BK266.out) hb)
                              have n2_ := Aside0.mk (below_step (by repeat (first | (with_reducible first | exact HB.out | apply below_alloc | apply pw_below_drewN | apply below_drew1 | refine below_set ?_ GE266.out) | exact HB.out)) hb)
                              clear BK266
                              clear HB
                              have HO281 := n0_
                              have BK266 := n1_
                              have HB := n2_
                              clear n0_ n1_ n2_
                              clear hb ho81
                              refine hK.out _ _ trivial (fun hHeld => ?_)
                              clear hK K
                              refine norm_ (a' := ?_) ?_ ?_
                              rotate_left
                              · show Act.put _ (some 112) _ = _
                                simp only [Act.put, List.setIfInBounds_toArray, List.set_cons_zero, List.set_cons_succ, i64_w, i32_w]
                                rfl
                              refine one_ (i := 4) (N := some 116) #[true, true, true, true, true, true, true, true, true, false, false] rfl rfl (one_of HT_.out (by kernel_rfl)) (by decide) (fun K hK => ?_)
                              refine Kd.R_append_rows_step k42 (w0 := w) w.heap.size (by rfl) (.tmp 112) (.tmp 115) 22 42 (.agg #[(.int .i64 0), (.int .i64 0), (.int .i64 0), (.int .i64 0), (.int .i64 0), (.int .i64 0)]) 48 rfl Try.underlying22 info42 rfl (by decide) (by omega) v280 y279 y282 _ _ _ (fun _ => True) (fun _ => False) rfl rfl ?aO ?aR (fun _ _ h => h) (fun _ h => h.elim) ?aF ?aB ?aS ?aL ?_
                              (case aR => repeat (first | exact (Kd.C_below HR285.out HB.out) | (with_reducible refine Kd.C_alloc ?_ _) | (with_reducible refine Kd.C_drewN ?_ _) | (with_reducible refine Kd.C_drew ?_)))
                              (case aB => exact (by repeat (first | (with_reducible first | exact HB.out | apply below_alloc | apply pw_below_drewN | apply below_drew1 | refine below_set ?_ GE266.out) | exact HB.out)))
                              (case aF => exact (fun _ _ => trivial))
                              (case aO => exact (by (with_reducible repeat (first | apply Kd.R_alloc | apply Kd.R_drewN | apply Kd.R_drew)); exact HO281.out))
                              (case aS => exact (below_size (by repeat (first | (with_reducible first | exact HB.out | apply below_alloc | apply pw_below_drewN | apply below_drew1 | refine below_set ?_ GE266.out) | exact HB.out))))
                              (case aL => have := LMc58.out; omega)
                              intro v287 w82 ho hb hg hat
                              rw [← Ny286.out] at ho
                              have n0_ := Aside0.mk (blk_grown (g := gb266) (o := .cells #[.int .i64 a0_0, .int .i64 a0_1, .int .i64 a0_2, .int .i64 a0_3, .slice A0_4 l0_4.length c0_4, .slice A0_5 l0_5.length c0_5, .slice A0_6 l0_6.length c0_6] 35 (0, 0)) (by (with_reducible repeat (first | refine blk_drewN ?_ _ | refine blk_drew ?_ | refine blk_alloc ?_ _)); exact BK266.out) hg (Kd.R_ne HO281.out BK266.out (by decide)))
                              have n1_ := Aside0.mk (hb)
                              have n2_ := Aside0.mk (ho)
                              clear BK266
                              clear HB
                              clear HO281
                              have BK266 := n0_
                              have HB := n1_
                              have HO288 := n2_
                              clear n0_ n1_ n2_
                              clear ho hb hg hat
                              refine hK.out _ _ trivial (fun hHeld => ?_)
                              clear hK K
                              refine norm_ (a' := ?_) ?_ ?_
                              rotate_left
                              · show Act.put _ (some 116) _ = _
                                simp only [Act.put, List.setIfInBounds_toArray, List.set_cons_zero, List.set_cons_succ, i64_w, i32_w]
                                rfl
                              refine one_ (i := 9) (N := some 121) #[true, true, true, true, true, true, true, true, true, true, false] rfl rfl (one_of HT_.out (by kernel_rfl)) (by decide) (fun K hK => ?_)
                              refine Kd.R_append_rows_step k42 (w0 := w) w.heap.size (by rfl) (.tmp 116) (.tmp 120) 22 42 (.agg #[(.int .i64 0), (.int .i64 0), (.int .i64 0), (.int .i64 0), (.int .i64 0), (.int .i64 0)]) 48 rfl Try.underlying22 info42 rfl (by decide) (by omega) v287 y286 y289 _ _ _ (fun _ => True) (fun _ => False) rfl rfl ?aO ?aR (fun _ _ h => h) (fun _ h => h.elim) ?aF ?aB ?aS ?aL ?_
                              (case aR => repeat (first | exact (Kd.C_below HR292.out HB.out) | (with_reducible refine Kd.C_alloc ?_ _) | (with_reducible refine Kd.C_drewN ?_ _) | (with_reducible refine Kd.C_drew ?_)))
                              (case aB => exact (by repeat (first | (with_reducible first | exact HB.out | apply below_alloc | apply pw_below_drewN | apply below_drew1 | refine below_set ?_ GE266.out) | exact HB.out)))
                              (case aF => exact (fun _ _ => trivial))
                              (case aO => exact (by (with_reducible repeat (first | apply Kd.R_alloc | apply Kd.R_drewN | apply Kd.R_drew)); exact HO288.out))
                              (case aS => exact (below_size (by repeat (first | (with_reducible first | exact HB.out | apply below_alloc | apply pw_below_drewN | apply below_drew1 | refine below_set ?_ GE266.out) | exact HB.out))))
                              (case aL => have := LMc62.out; omega)
                              intro v294 w83 ho hb hg hat
                              rw [← Ny293.out] at ho
                              have n0_ := Aside0.mk (blk_grown (g := gb266) (o := .cells #[.int .i64 a0_0, .int .i64 a0_1, .int .i64 a0_2, .int .i64 a0_3, .slice A0_4 l0_4.length c0_4, .slice A0_5 l0_5.length c0_5, .slice A0_6 l0_6.length c0_6] 35 (0, 0)) (by (with_reducible repeat (first | refine blk_drewN ?_ _ | refine blk_drew ?_ | refine blk_alloc ?_ _)); exact BK266.out) hg (Kd.R_ne HO288.out BK266.out (by decide)))
                              have n1_ := Aside0.mk (hb)
                              have n2_ := Aside0.mk (ho)
                              clear BK266
                              clear HB
                              clear HO288
                              have BK266 := n0_
                              have HB := n1_
                              have HO295 := n2_
                              clear n0_ n1_ n2_
                              clear ho hb hg hat
                              refine hK.out _ _ trivial (fun hHeld => ?_)
                              clear hK K
                              refine norm_ (a' := ?_) ?_ ?_
                              rotate_left
                              · show Act.put _ (some 121) _ = _
                                simp only [Act.put, List.setIfInBounds_toArray, List.set_cons_zero, List.set_cons_succ, i64_w, i32_w]
                                rfl
                              refine pure_ (i := 10) (N := some 13) (v := ?_) (a' := ?_) #[true, true, true, true, true, true, true, true, true, true, true] rfl rfl (any_of HT_.out (by kernel_rfl)) (fun _ _ _ h => h) (Or.inl ⟨by rfl, ?_⟩) ?_ ?_
                              rotate_left
                              · intro w'
                                go_simp
                                with_reducible rfl
                              rotate_left
                              · simp only [Act.put, List.setIfInBounds_toArray, List.set_cons_zero, List.set_cons_succ, i64_w, i32_w]
                                rfl
                              refine done_ (done_of HT_.out (by kernel_rfl)) ?_
                              have hcz84_0 : w83.cell? ⟨gb266, 0, none⟩ = some (.int .i64 a0_0) := (blk_cell BK266.out 0).trans rfl
                              have hcz84_1 : w83.cell? ⟨gb266, 1, none⟩ = some (.int .i64 a0_1) := (blk_cell BK266.out 1).trans rfl
                              have hcz84_2 : w83.cell? ⟨gb266, 2, none⟩ = some (.int .i64 a0_2) := (blk_cell BK266.out 2).trans rfl
                              have hcz84_3 : w83.cell? ⟨gb266, 3, none⟩ = some (.int .i64 a0_3) := (blk_cell BK266.out 3).trans rfl
                              have hcz84_4 : w83.cell? ⟨gb266, 4, none⟩ = some (.slice A0_4 l0_4.length c0_4) := (blk_cell BK266.out 4).trans rfl
                              have hcz84_5 : w83.cell? ⟨gb266, 5, none⟩ = some (.slice A0_5 l0_5.length c0_5) := (blk_cell BK266.out 5).trans rfl
                              have hcz84_6 : w83.cell? ⟨gb266, 6, none⟩ = some (.slice A0_6 l0_6.length c0_6) := (blk_cell BK266.out 6).trans rfl
                              have hfz84_0 := blk_frozen BK266.out 0
                              have hfz84_1 := blk_frozen BK266.out 1
                              have hfz84_2 := blk_frozen BK266.out 2
                              have hfz84_3 := blk_frozen BK266.out 3
                              have hfz84_4 := blk_frozen BK266.out 4
                              have hfz84_5 := blk_frozen BK266.out 5
                              have hfz84_6 := blk_frozen BK266.out 6
                              obtain ⟨Ao85, co85, eo85⟩ := Kd.R_slice HO295.out
                              subst eo85
                              try go_wp2_with (first | ((with_reducible refine gate_callee (f := 14) rfl ?_); refine goesL_ (some 124) rfl rfl Try.func14 (by kernel_rfl) rfl #[.agg #[.int .i64 a0_0, .int .i64 a0_1, .int .i64 a0_2, .int .i64 a0_3, .slice A0_4 l0_4.length c0_4, .slice A0_5 l0_5.length c0_5, .slice A0_6 l0_6.length c0_6], .slice Ao85 y293.length co85] rfl (by (try simp only [List.map_toArray, List.map_cons, List.map_nil]); first | done | rfl | (simp only [List.length_drop, List.length_take]; rfl)) ?_; (with_reducible refine (bundle_Check.calls k2 a0_0 a0_1 a0_2 a0_3 _ _ l0_4 _ _ l0_5 _ _ l0_6 _ _ y293 t296 _ ?side1 ?side2 ?side3 ?side4 ?side5 ?side6 ?side7 ?side8 A63.out).mono ?_); (case side1 => repeat (first | exact (Kd.C_below HR0_4.out HB.out) | (with_reducible refine Kd.C_alloc ?_ _) | (with_reducible refine Kd.C_drewN ?_ _) | (with_reducible refine Kd.C_drew ?_))); (case side2 => exact HC0_4.out); (case side3 => repeat (first | exact (Kd.C_below HR0_5.out HB.out) | (with_reducible refine Kd.C_alloc ?_ _) | (with_reducible refine Kd.C_drewN ?_ _) | (with_reducible refine Kd.C_drew ?_))); (case side4 => exact HC0_5.out); (case side5 => repeat (first | exact (Kd.C_below HR0_6.out HB.out) | (with_reducible refine Kd.C_alloc ?_ _) | (with_reducible refine Kd.C_drewN ?_ _) | (with_reducible refine Kd.C_drew ?_))); (case side6 => exact HC0_6.out); (case side7 => repeat (first | exact (Kd.R_reads' HO295.out).2.2 | (with_reducible refine Kd.C_alloc ?_ _) | (with_reducible refine Kd.C_drewN ?_ _) | (with_reducible refine Kd.C_drew ?_))); (case side8 => exact (Kd.R_reads' HO295.out).2.1); rintro e w86 ⟨rfl, hb⟩; refine ⟨_, rfl, ?_⟩; have n0_ := Aside0.mk (Kd.R_below (by (with_reducible repeat (first | apply Kd.R_alloc | apply Kd.R_drewN | apply Kd.R_drew)); exact HO295.out) hb); have n1_ := Aside0.mk (blk_below (g := gb266) (o := .cells #[.int .i64 a0_0, .int .i64 a0_1, .int .i64 a0_2, .int .i64 a0_3, .slice A0_4 l0_4.length c0_4, .slice A0_5 l0_5.length c0_5, .slice A0_6 l0_6.length c0_6] 35 (0, 0)) (by (with_reducible repeat (first | refine blk_drewN ?_ _ | refine blk_drew ?_ | refine blk_alloc ?_ _)); exact BK266.out) hb); have n2_ := Aside0.mk (below_step (by repeat (first | (with_reducible first | exact HB.out | apply below_alloc | apply pw_below_drewN | apply below_drew1 | refine below_set ?_ GE266.out) | exact HB.out)) hb); clear HO295; clear BK266; clear HB; have HO295 := n0_; have BK266 := n1_; have HB := n2_; clear n0_ n1_ n2_; (try clear hb); (try clear hb2); (try clear hk); (try clear hi)))
                              go_ret
                              exact ⟨by first | rfl | (simp [errW_none, errW_some] <;> rfl) | (simp only [← hji55, ← hji59]; first | rfl | (simp [errW_none, errW_some] <;> rfl)) | (simp [*, errW_none, errW_some] <;> rfl), by repeat (first | (with_reducible first | exact HB.out | apply below_alloc | apply pw_below_drewN | apply below_drew1 | refine below_set ?_ GE266.out) | exact HB.out)⟩
                          · rw [if_neg c62] at H
                            exact absurd H (by simp)
                        · rw [if_neg c61] at H
                          exact absurd H (by simp)
                      · rw [if_neg c60] at H
                        exact absurd H (by simp)
                    · rw [if_neg c58] at H
                      exact absurd H (by simp)
                  · rw [if_neg c57] at H
                    exact absurd H (by simp)
                · rw [if_neg c56] at H
                  exact absurd H (by simp)

end Go.Proofs.Ytoekbmgcfinfmab.Bu
