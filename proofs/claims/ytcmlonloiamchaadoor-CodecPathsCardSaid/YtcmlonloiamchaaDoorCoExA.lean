-- PRINTED by print.py (a twelfth state) out of the translation. Not trusted: Lean checks it.
import Derived.Test.YtcmlonloiamchaaDoorCo0
import Derived.Test.YtcmlonloiamchaaDoorCo6
import Derived.Test.YtcmlonloiamchaaDoorCo30
import Derived.Test.YtcmlonloiamchaaDoorCo31
import Derived.Test.YtcmlonloiamchaaDoorCoStub
namespace Go.Proofs.YtcmlonloiamchaaDoor.Co
open Go.RowKit Go.Proofs.YtcmlonloiamchaaDoorW.PrintWords Go.Proofs.YtcmlonloiamchaaDoorW.PrintLast Go.Proofs.YtcmlonloiamchaaDoorW.PrintMore
attribute [local go_sem] max2_int min2_int max_two min_two max_three min_three max_four min_four   -- for this text's walks alone
set_option linter.unusedVariables false
set_option linter.unusedSimpArgs false

/-! ### garmentlaw06_exampleHolds: function 10 -/
def exampleFull.f (k : Nat)  : Option (Bool) := (garmentlaw06_leaf.f (⟨#[]⟩ : ByteArray)).bind fun bt149 => ((garmentlaw06_leaf.f (⟨#[97]⟩ : ByteArray)).bind fun bt158 => ((garmentlaw06_leaf.f (⟨#[40]⟩ : ByteArray)).bind fun bt163 => ((some (([(⟨bt158.1, bt158.2.1, bt158.2.2⟩ : S25), (⟨bt163.1, bt163.2.1, bt163.2.2⟩ : S25), (⟨true, (⟨#[]⟩ : ByteArray), (([(⟨bt149.1, bt149.2.1, bt149.2.2⟩ : S25)] : List (S25)))⟩ : S25)] : List (S25)) : List (S25))).bind fun y168 => ((codec_Encode.f k true (⟨#[]⟩ : ByteArray) y168).bind fun bt172 => ((codec_Decode.f k (⟨#[40, 49, 58, 97, 49, 58, 40, 40, 48, 58, 41, 41]⟩ : ByteArray)).bind fun bt174 => ((codec_At.f k true (⟨#[]⟩ : ByteArray) y168 (([2, 0] : List Int))).bind fun bt184 => ((codec_Decode.f k (⟨#[40, 50, 58, 97]⟩ : ByteArray)).bind fun bt191 => ((codec_Decode.f k (⟨#[48, 50, 58, 97, 98]⟩ : ByteArray)).bind fun bt198 => ((codec_At.f k true (⟨#[]⟩ : ByteArray) y168 (([0, 0] : List Int))).bind fun bt208 => (if bt172.2 = 0 then (if bt172.1.toList = ([40, 49, 58, 97, 49, 58, 40, 40, 48, 58, 41, 41] : List UInt8) then (if bt174.2.2.2 = 0 then ((garmentref06_Same.f k bt174.1 bt174.2.1 bt174.2.2.1 true (⟨#[]⟩ : ByteArray) y168).bind fun t215 => (if t215 = true then (if bt184.2.2.2 = 0 then ((garmentlaw06_leaf.f (⟨#[]⟩ : ByteArray)).bind fun bt216 => ((garmentref06_Same.f k bt184.1 bt184.2.1 bt184.2.2.1 bt216.1 bt216.2.1 bt216.2.2).bind fun t221 => (if t221 = true then (if bt191.2.2.2 = 4 then (if bt198.2.2.2 = 2 then (some (bt208.2.2.2 == 6)) else (some false)) else (some false)) else (some false)))) else (some false)) else (some false))) else (some false)) else (some false)) else (some false)))))))))))
theorem exampleFull.mono : ∀ k, LeO (exampleFull.f k ) (exampleFull.f (k + 1) ) := by
  intro  k
  unfold exampleFull.f
  repeat' first
      | (with_reducible exact codec_At.mono _ _ _ _ _)
      | (with_reducible exact codec_Decode.mono _ _)
      | (with_reducible exact codec_Encode.mono _ _ _ _)
      | (with_reducible exact garmentref06_Same.mono _ _ _ _ _ _ _)
      | (with_reducible exact LeO.refl _)
      | (with_reducible exact LeO.none _)
      | (with_reducible refine LeO.ite ?_ ?_)
      | (with_reducible refine LeO.bind ?_ (fun _ => ?_))
      | exact codec_At.mono _ _ _ _ _
      | exact codec_Decode.mono _ _
      | exact codec_Encode.mono _ _ _ _
      | exact garmentref06_Same.mono _ _ _ _ _ _ _
      | exact LeO.none _
      | refine LeO.ite ?_ ?_
      | refine LeO.bind ?_ (fun _ => ?_)
def garmentlaw06_exampleHolds.T9 : Bool × List (List Nat × List Nat) := (true, [([], []), ([0], [0]), ([1], [1]), ([2], [2]), ([3, 2], [2, 3]), ([2, 4], [2, 4]), ([5, 2], [5]), ([6], [6]), ([7, 6], [6, 7]), ([6, 8], [6, 8]), ([9, 6], [9]), ([10], [10]), ([10], [10]), ([11, 12, 10, 10], [10, 11, 12]), ([10, 13], [10, 13]), ([14, 13], [14]), ([15], [15]), ([16, 15], [15, 16]), ([15, 17], [15, 17]), ([18, 15], [18]), ([19], [19]), ([19, 19], [19]), ([20, 21, 21, 19], [19, 20, 21]), ([19, 22], [19, 22]), ([23, 22], [23]), ([24], [24]), ([25, 24], [24, 25]), ([24, 26], [24, 26]), ([27, 24], [27]), ([28], [28]), ([29, 28], [28, 29]), ([28, 30], [28, 30]), ([31, 28], [31]), ([32], [32]), ([33, 32], [32, 33]), ([32, 34], [32, 34]), ([35, 32, 0, 1, 2, 3, 4, 5, 6, 7, 8, 9, 10, 11, 12, 13, 14, 15, 16, 17, 18, 19, 20, 21, 22, 23, 24, 25, 26, 27, 28, 29, 30, 31, 32, 33, 34, 35], [35])])
def garmentlaw06_exampleHolds.B9 : List Nat := [0, 1, 3, 7, 15, 31, 63, 127, 255, 511, 1023, 2047, 2047, 8191, 16383, 32767, 65535, 131071, 262143, 524287, 1048575, 1048575, 4194303, 8388607, 16777215, 33554431, 67108863, 134217727, 268435455, 536870911, 1073741823, 2147483647, 4294967295, 8589934591, 17179869183, 34359738367, 68719476735]
theorem garmentlaw06_exampleHolds.tab9 : rtab .any (opsOf Tryd.f10 9) = garmentlaw06_exampleHolds.T9 := by kernel_rfl
theorem garmentlaw06_exampleHolds.bits9 : waitsOk garmentlaw06_exampleHolds.T9.2 garmentlaw06_exampleHolds.B9 = true := by kernel_rfl

theorem exL0 : garmentlaw06_leaf.f (⟨#[]⟩ : ByteArray) = some (false, ⟨#[]⟩, []) := rfl
theorem exL1 : garmentlaw06_leaf.f (⟨#[97]⟩ : ByteArray) = some (false, ⟨#[97]⟩, []) := rfl
theorem exL2 : garmentlaw06_leaf.f (⟨#[40]⟩ : ByteArray) = some (false, ⟨#[40]⟩, []) := rfl
theorem exDig (n : Nat) (h : n < 10) : Lib.decDigits n = [UInt8.ofNat (48 + n)] := by rw [Lib.decDigits, dif_pos h]
theorem exE1 : codec_Encode.f 60 true (⟨#[]⟩ : ByteArray) [⟨false, ⟨#[97]⟩, []⟩, ⟨false, ⟨#[40]⟩, []⟩, ⟨true, ⟨#[]⟩, [⟨false, ⟨#[]⟩, []⟩]⟩] = some (⟨#[40, 49, 58, 97, 49, 58, 40, 40, 48, 58, 41, 41]⟩, 0) := by
  have e0 : (⟨#[]⟩ : ByteArray).size = 0 := rfl
  have e1 : (⟨#[97]⟩ : ByteArray).size = 1 := rfl
  have e2 : (⟨#[40]⟩ : ByteArray).size = 1 := rfl
  have d0 := exDig 0 (by decide)
  have d1 := exDig 1 (by decide)
  simp [codec_Encode.f, CoHand.encodeD, CoHand.encD, CoHand.encsD, e0, e1, e2, d0, d1]
theorem exD1 : codec_Decode.f 60 (⟨#[40, 49, 58, 97, 49, 58, 40, 40, 48, 58, 41, 41]⟩ : ByteArray) = some (true, ⟨#[]⟩, [⟨false, ⟨#[97]⟩, []⟩, ⟨false, ⟨#[40]⟩, []⟩, ⟨true, ⟨#[]⟩, [⟨false, ⟨#[]⟩, []⟩]⟩], 0) := by kernel_rfl
theorem exD2 : codec_Decode.f 60 (⟨#[40, 50, 58, 97]⟩ : ByteArray) = some (false, ⟨#[]⟩, [], 4) := by kernel_rfl
theorem exD3 : codec_Decode.f 60 (⟨#[48, 50, 58, 97, 98]⟩ : ByteArray) = some (false, ⟨#[]⟩, [], 2) := by kernel_rfl
theorem exA1 : codec_At.f 60 true (⟨#[]⟩ : ByteArray) [⟨false, ⟨#[97]⟩, []⟩, ⟨false, ⟨#[40]⟩, []⟩, ⟨true, ⟨#[]⟩, [⟨false, ⟨#[]⟩, []⟩]⟩] [2, 0] = some (false, ⟨#[]⟩, [], 0) := by kernel_rfl
theorem exA2 : codec_At.f 60 true (⟨#[]⟩ : ByteArray) [⟨false, ⟨#[97]⟩, []⟩, ⟨false, ⟨#[40]⟩, []⟩, ⟨true, ⟨#[]⟩, [⟨false, ⟨#[]⟩, []⟩]⟩] [0, 0] = some (false, ⟨#[]⟩, [], 6) := by kernel_rfl
theorem exS1 : garmentref06_Same.f 60 true (⟨#[]⟩ : ByteArray) [⟨false, ⟨#[97]⟩, []⟩, ⟨false, ⟨#[40]⟩, []⟩, ⟨true, ⟨#[]⟩, [⟨false, ⟨#[]⟩, []⟩]⟩] true (⟨#[]⟩ : ByteArray) [⟨false, ⟨#[97]⟩, []⟩, ⟨false, ⟨#[40]⟩, []⟩, ⟨true, ⟨#[]⟩, [⟨false, ⟨#[]⟩, []⟩]⟩] = some true := by decide +kernel
theorem exS2 : garmentref06_Same.f 60 false (⟨#[]⟩ : ByteArray) [] false (⟨#[]⟩ : ByteArray) [] = some true := by decide +kernel
theorem exT : (⟨#[40, 49, 58, 97, 49, 58, 40, 40, 48, 58, 41, 41]⟩ : ByteArray).toList = ([40, 49, 58, 97, 49, 58, 40, 40, 48, 58, 41, 41] : List UInt8) := by rw [ByteArray.toList_eq]
def exampleGen (L : ByteArray → Option (Bool × ByteArray × List (S25))) (E : Bool → ByteArray → List (S25) → Option (ByteArray × Int)) (D : ByteArray → Option (Bool × ByteArray × List (S25) × Int)) (A : Bool → ByteArray → List (S25) → List Int → Option (Bool × ByteArray × List (S25) × Int)) (S : Bool → ByteArray → List (S25) → Bool → ByteArray → List (S25) → Option (Bool)) : Option (Bool) :=  (L (⟨#[]⟩ : ByteArray)).bind fun bt149 => ((L (⟨#[97]⟩ : ByteArray)).bind fun bt158 => ((L (⟨#[40]⟩ : ByteArray)).bind fun bt163 => ((some (([(⟨bt158.1, bt158.2.1, bt158.2.2⟩ : S25), (⟨bt163.1, bt163.2.1, bt163.2.2⟩ : S25), (⟨true, (⟨#[]⟩ : ByteArray), (([(⟨bt149.1, bt149.2.1, bt149.2.2⟩ : S25)] : List (S25)))⟩ : S25)] : List (S25)) : List (S25))).bind fun y168 => ((E true (⟨#[]⟩ : ByteArray) y168).bind fun bt172 => ((D (⟨#[40, 49, 58, 97, 49, 58, 40, 40, 48, 58, 41, 41]⟩ : ByteArray)).bind fun bt174 => ((A true (⟨#[]⟩ : ByteArray) y168 (([2, 0] : List Int))).bind fun bt184 => ((D (⟨#[40, 50, 58, 97]⟩ : ByteArray)).bind fun bt191 => ((D (⟨#[48, 50, 58, 97, 98]⟩ : ByteArray)).bind fun bt198 => ((A true (⟨#[]⟩ : ByteArray) y168 (([0, 0] : List Int))).bind fun bt208 => (if bt172.2 = 0 then (if bt172.1.toList = ([40, 49, 58, 97, 49, 58, 40, 40, 48, 58, 41, 41] : List UInt8) then (if bt174.2.2.2 = 0 then ((S bt174.1 bt174.2.1 bt174.2.2.1 true (⟨#[]⟩ : ByteArray) y168).bind fun t215 => (if t215 = true then (if bt184.2.2.2 = 0 then ((L (⟨#[]⟩ : ByteArray)).bind fun bt216 => ((S bt184.1 bt184.2.1 bt184.2.2.1 bt216.1 bt216.2.1 bt216.2.2).bind fun t221 => (if t221 = true then (if bt191.2.2.2 = 4 then (if bt198.2.2.2 = 2 then (some (bt208.2.2.2 == 6)) else (some false)) else (some false)) else (some false)))) else (some false)) else (some false))) else (some false)) else (some false)) else (some false)))))))))))
theorem exGen (L : ByteArray → Option (Bool × ByteArray × List (S25))) (E : Bool → ByteArray → List (S25) → Option (ByteArray × Int)) (D : ByteArray → Option (Bool × ByteArray × List (S25) × Int)) (A : Bool → ByteArray → List (S25) → List Int → Option (Bool × ByteArray × List (S25) × Int)) (S : Bool → ByteArray → List (S25) → Bool → ByteArray → List (S25) → Option (Bool))
    (l0 : L ⟨#[]⟩ = some (false, ⟨#[]⟩, [])) (l1 : L ⟨#[97]⟩ = some (false, ⟨#[97]⟩, [])) (l2 : L ⟨#[40]⟩ = some (false, ⟨#[40]⟩, []))
    (e1 : E true ⟨#[]⟩ [⟨false, ⟨#[97]⟩, []⟩, ⟨false, ⟨#[40]⟩, []⟩, ⟨true, ⟨#[]⟩, [⟨false, ⟨#[]⟩, []⟩]⟩] = some (⟨#[40, 49, 58, 97, 49, 58, 40, 40, 48, 58, 41, 41]⟩, 0)) (d1 : D ⟨#[40, 49, 58, 97, 49, 58, 40, 40, 48, 58, 41, 41]⟩ = some (true, ⟨#[]⟩, [⟨false, ⟨#[97]⟩, []⟩, ⟨false, ⟨#[40]⟩, []⟩, ⟨true, ⟨#[]⟩, [⟨false, ⟨#[]⟩, []⟩]⟩], 0))
    (d2 : D ⟨#[40, 50, 58, 97]⟩ = some (false, ⟨#[]⟩, [], 4)) (d3 : D ⟨#[48, 50, 58, 97, 98]⟩ = some (false, ⟨#[]⟩, [], 2))
    (a1 : A true ⟨#[]⟩ [⟨false, ⟨#[97]⟩, []⟩, ⟨false, ⟨#[40]⟩, []⟩, ⟨true, ⟨#[]⟩, [⟨false, ⟨#[]⟩, []⟩]⟩] [2, 0] = some (false, ⟨#[]⟩, [], 0)) (a2 : A true ⟨#[]⟩ [⟨false, ⟨#[97]⟩, []⟩, ⟨false, ⟨#[40]⟩, []⟩, ⟨true, ⟨#[]⟩, [⟨false, ⟨#[]⟩, []⟩]⟩] [0, 0] = some (false, ⟨#[]⟩, [], 6))
    (s1 : S true ⟨#[]⟩ [⟨false, ⟨#[97]⟩, []⟩, ⟨false, ⟨#[40]⟩, []⟩, ⟨true, ⟨#[]⟩, [⟨false, ⟨#[]⟩, []⟩]⟩] true ⟨#[]⟩ [⟨false, ⟨#[97]⟩, []⟩, ⟨false, ⟨#[40]⟩, []⟩, ⟨true, ⟨#[]⟩, [⟨false, ⟨#[]⟩, []⟩]⟩] = some true) (s2 : S false ⟨#[]⟩ [] false ⟨#[]⟩ [] = some true) : exampleGen L E D A S = some true := by
  unfold exampleGen
  simp only [l0, l1, l2, Option.bind_some]
  simp only [e1, d1, d2, d3, a1, a2, Option.bind_some]
  simp only [s1, s2, Option.bind_some]
  simp only [if_true, exT]
  rfl
theorem exF : exampleFull.f 60 = some true := exGen garmentlaw06_leaf.f (codec_Encode.f 60) (codec_Decode.f 60) (codec_At.f 60) (garmentref06_Same.f 60) exL0 exL1 exL2 exE1 exD1 exD2 exD3 exA1 exA2 exS1 exS2
end Go.Proofs.YtcmlonloiamchaaDoor.Co
