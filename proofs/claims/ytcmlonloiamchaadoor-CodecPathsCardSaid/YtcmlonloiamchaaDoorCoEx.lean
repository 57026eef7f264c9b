-- PRINTED by print.py (a twelfth state) out of the translation. Not trusted: Lean checks it.
import Derived.Test.YtcmlonloiamchaaDoorCo0
import Derived.Test.YtcmlonloiamchaaDoorCo6
import Derived.Test.YtcmlonloiamchaaDoorCo30
import Derived.Test.YtcmlonloiamchaaDoorCo31
import Derived.Test.YtcmlonloiamchaaDoorCoExA
import Derived.Test.YtcmlonloiamchaaDoorCoStub
namespace Go.Proofs.YtcmlonloiamchaaDoor.Co
open Go.RowKit Go.Proofs.YtcmlonloiamchaaDoorW.PrintWords Go.Proofs.YtcmlonloiamchaaDoorW.PrintLast Go.Proofs.YtcmlonloiamchaaDoorW.PrintMore
attribute [local go_sem] max2_int min2_int max_two min_two max_three min_three max_four min_four   -- for this text's walks alone
set_option linter.unusedVariables false
set_option linter.unusedSimpArgs false


set_option maxHeartbeats 8000000 in
set_option maxRecDepth 100000 in
theorem exampleFull.calls (k : Nat) (hk : k = 60) (r : Bool) (w : World) (htab : Laid w) (h : exampleFull.f k  = some r) :
  Calls Tryd.prog 10 #[] w fun e w' => e = .returned (.bool r) ∧ Below w.heap.size w w' := by
 have hu25 := Tryd.underlying25
 have HB := Aside0.mk (Below.refl w.heap.size w)
 have HT := Aside0.mk htab
 clear htab
 have H : ((garmentlaw06_leaf.f (⟨#[]⟩ : ByteArray)).bind fun bt149 => ((garmentlaw06_leaf.f (⟨#[97]⟩ : ByteArray)).bind fun bt158 => ((garmentlaw06_leaf.f (⟨#[40]⟩ : ByteArray)).bind fun bt163 => ((some (([(⟨bt158.1, bt158.2.1, bt158.2.2⟩ : S25), (⟨bt163.1, bt163.2.1, bt163.2.2⟩ : S25), (⟨true, (⟨#[]⟩ : ByteArray), (([(⟨bt149.1, bt149.2.1, bt149.2.2⟩ : S25)] : List (S25)))⟩ : S25)] : List (S25)) : List (S25))).bind fun y168 => ((codec_Encode.f k true (⟨#[]⟩ : ByteArray) y168).bind fun bt172 => ((codec_Decode.f k (⟨#[40, 49, 58, 97, 49, 58, 40, 40, 48, 58, 41, 41]⟩ : ByteArray)).bind fun bt174 => ((codec_At.f k true (⟨#[]⟩ : ByteArray) y168 (([2, 0] : List Int))).bind fun bt184 => ((codec_Decode.f k (⟨#[40, 50, 58, 97]⟩ : ByteArray)).bind fun bt191 => ((codec_Decode.f k (⟨#[48, 50, 58, 97, 98]⟩ : ByteArray)).bind fun bt198 => ((codec_At.f k true (⟨#[]⟩ : ByteArray) y168 (([0, 0] : List Int))).bind fun bt208 => (if bt172.2 = 0 then (if bt172.1.toList = ([40, 49, 58, 97, 49, 58, 40, 40, 48, 58, 41, 41] : List UInt8) then (if bt174.2.2.2 = 0 then ((garmentref06_Same.f k bt174.1 bt174.2.1 bt174.2.2.1 true (⟨#[]⟩ : ByteArray) y168).bind fun t215 => (if t215 = true then (if bt184.2.2.2 = 0 then ((garmentlaw06_leaf.f (⟨#[]⟩ : ByteArray)).bind fun bt216 => ((garmentref06_Same.f k bt184.1 bt184.2.1 bt184.2.2.1 bt216.1 bt216.2.1 bt216.2.2).bind fun t221 => (if t221 = true then (if bt191.2.2.2 = 4 then (if bt198.2.2.2 = 2 then (some (bt208.2.2.2 == 6)) else (some false)) else (some false)) else (some false)))) else (some false)) else (some false))) else (some false)) else (some false)) else (some false)))))))))))) = some r := h
 clear h
 replace H := Option.bind_eq_some_iff.mp H
 obtain ⟨⟨t149, t150, t151⟩, A10, H⟩ := H
 replace H : ((garmentlaw06_leaf.f (⟨#[97]⟩ : ByteArray)).bind fun bt158 => ((garmentlaw06_leaf.f (⟨#[40]⟩ : ByteArray)).bind fun bt163 => ((some (([(⟨bt158.1, bt158.2.1, bt158.2.2⟩ : S25), (⟨bt163.1, bt163.2.1, bt163.2.2⟩ : S25), (⟨true, (⟨#[]⟩ : ByteArray), (([(⟨t149, t150, t151⟩ : S25)] : List (S25)))⟩ : S25)] : List (S25)) : List (S25))).bind fun y168 => ((codec_Encode.f k true (⟨#[]⟩ : ByteArray) y168).bind fun bt172 => ((codec_Decode.f k (⟨#[40, 49, 58, 97, 49, 58, 40, 40, 48, 58, 41, 41]⟩ : ByteArray)).bind fun bt174 => ((codec_At.f k true (⟨#[]⟩ : ByteArray) y168 (([2, 0] : List Int))).bind fun bt184 => ((codec_Decode.f k (⟨#[40, 50, 58, 97]⟩ : ByteArray)).bind fun bt191 => ((codec_Decode.f k (⟨#[48, 50, 58, 97, 98]⟩ : ByteArray)).bind fun bt198 => ((codec_At.f k true (⟨#[]⟩ : ByteArray) y168 (([0, 0] : List Int))).bind fun bt208 => (if bt172.2 = 0 then (if bt172.1.toList = ([40, 49, 58, 97, 49, 58, 40, 40, 48, 58, 41, 41] : List UInt8) then (if bt174.2.2.2 = 0 then ((garmentref06_Same.f k bt174.1 bt174.2.1 bt174.2.2.1 true (⟨#[]⟩ : ByteArray) y168).bind fun t215 => (if t215 = true then (if bt184.2.2.2 = 0 then ((garmentlaw06_leaf.f (⟨#[]⟩ : ByteArray)).bind fun bt216 => ((garmentref06_Same.f k bt184.1 bt184.2.1 bt184.2.2.1 bt216.1 bt216.2.1 bt216.2.2).bind fun t221 => (if t221 = true then (if bt191.2.2.2 = 4 then (if bt198.2.2.2 = 2 then (some (bt208.2.2.2 == 6)) else (some false)) else (some false)) else (some false)))) else (some false)) else (some false))) else (some false)) else (some false)) else (some false))))))))))) = some r := H
 have A1 := Aside0.mk A10
 clear A10
 obtain ⟨y154, hy154⟩ : ∃ y_ : List (S25), y_ = (([(⟨t149, t150, t151⟩ : S25)] : List (S25))) := ⟨_, rfl⟩
 replace H : ((garmentlaw06_leaf.f (⟨#[97]⟩ : ByteArray)).bind fun bt158 => ((garmentlaw06_leaf.f (⟨#[40]⟩ : ByteArray)).bind fun bt163 => ((some (([(⟨bt158.1, bt158.2.1, bt158.2.2⟩ : S25), (⟨bt163.1, bt163.2.1, bt163.2.2⟩ : S25), (⟨true, (⟨#[]⟩ : ByteArray), y154⟩ : S25)] : List (S25)) : List (S25))).bind fun y168 => ((codec_Encode.f k true (⟨#[]⟩ : ByteArray) y168).bind fun bt172 => ((codec_Decode.f k (⟨#[40, 49, 58, 97, 49, 58, 40, 40, 48, 58, 41, 41]⟩ : ByteArray)).bind fun bt174 => ((codec_At.f k true (⟨#[]⟩ : ByteArray) y168 (([2, 0] : List Int))).bind fun bt184 => ((codec_Decode.f k (⟨#[40, 50, 58, 97]⟩ : ByteArray)).bind fun bt191 => ((codec_Decode.f k (⟨#[48, 50, 58, 97, 98]⟩ : ByteArray)).bind fun bt198 => ((codec_At.f k true (⟨#[]⟩ : ByteArray) y168 (([0, 0] : List Int))).bind fun bt208 => (if bt172.2 = 0 then (if bt172.1.toList = ([40, 49, 58, 97, 49, 58, 40, 40, 48, 58, 41, 41] : List UInt8) then (if bt174.2.2.2 = 0 then ((garmentref06_Same.f k bt174.1 bt174.2.1 bt174.2.2.1 true (⟨#[]⟩ : ByteArray) y168).bind fun t215 => (if t215 = true then (if bt184.2.2.2 = 0 then ((garmentlaw06_leaf.f (⟨#[]⟩ : ByteArray)).bind fun bt216 => ((garmentref06_Same.f k bt184.1 bt184.2.1 bt184.2.2.1 bt216.1 bt216.2.1 bt216.2.2).bind fun t221 => (if t221 = true then (if bt191.2.2.2 = 4 then (if bt198.2.2.2 = 2 then (some (bt208.2.2.2 == 6)) else (some false)) else (some false)) else (some false)))) else (some false)) else (some false))) else (some false)) else (some false)) else (some false))))))))))) = some r := by first | (rw [hy154]; with_reducible exact H) | (have H2_ := (Option.bind_some _ _).symm.trans H; rw [hy154]; with_reducible exact H2_) | (have H2_ := (Option.bind_some _ _).symm.trans H; with_reducible exact H2_) | with_reducible exact H | (rw [hy154]; exact H) | exact H
 have Ny154 := Aside0.mk hy154
 clear hy154
 replace H := Option.bind_eq_some_iff.mp H
 obtain ⟨⟨t158, t159, t160⟩, A20, H⟩ := H
 replace H : ((garmentlaw06_leaf.f (⟨#[40]⟩ : ByteArray)).bind fun bt163 => ((some (([(⟨t158, t159, t160⟩ : S25), (⟨bt163.1, bt163.2.1, bt163.2.2⟩ : S25), (⟨true, (⟨#[]⟩ : ByteArray), y154⟩ : S25)] : List (S25)) : List (S25))).bind fun y168 => ((codec_Encode.f k true (⟨#[]⟩ : ByteArray) y168).bind fun bt172 => ((codec_Decode.f k (⟨#[40, 49, 58, 97, 49, 58, 40, 40, 48, 58, 41, 41]⟩ : ByteArray)).bind fun bt174 => ((codec_At.f k true (⟨#[]⟩ : ByteArray) y168 (([2, 0] : List Int))).bind fun bt184 => ((codec_Decode.f k (⟨#[40, 50, 58, 97]⟩ : ByteArray)).bind fun bt191 => ((codec_Decode.f k (⟨#[48, 50, 58, 97, 98]⟩ : ByteArray)).bind fun bt198 => ((codec_At.f k true (⟨#[]⟩ : ByteArray) y168 (([0, 0] : List Int))).bind fun bt208 => (if bt172.2 = 0 then (if bt172.1.toList = ([40, 49, 58, 97, 49, 58, 40, 40, 48, 58, 41, 41] : List UInt8) then (if bt174.2.2.2 = 0 then ((garmentref06_Same.f k bt174.1 bt174.2.1 bt174.2.2.1 true (⟨#[]⟩ : ByteArray) y168).bind fun t215 => (if t215 = true then (if bt184.2.2.2 = 0 then ((garmentlaw06_leaf.f (⟨#[]⟩ : ByteArray)).bind fun bt216 => ((garmentref06_Same.f k bt184.1 bt184.2.1 bt184.2.2.1 bt216.1 bt216.2.1 bt216.2.2).bind fun t221 => (if t221 = true then (if bt191.2.2.2 = 4 then (if bt198.2.2.2 = 2 then (some (bt208.2.2.2 == 6)) else (some false)) else (some false)) else (some false)))) else (some false)) else (some false))) else (some false)) else (some false)) else (some false)))))))))) = some r := H
 have A2 := Aside0.mk A20
 clear A20
 replace H := Option.bind_eq_some_iff.mp H
 obtain ⟨⟨t163, t164, t165⟩, A30, H⟩ := H
 replace H : ((some (([(⟨t158, t159, t160⟩ : S25), (⟨t163, t164, t165⟩ : S25), (⟨true, (⟨#[]⟩ : ByteArray), y154⟩ : S25)] : List (S25)) : List (S25))).bind fun y168 => ((codec_Encode.f k true (⟨#[]⟩ : ByteArray) y168).bind fun bt172 => ((codec_Decode.f k (⟨#[40, 49, 58, 97, 49, 58, 40, 40, 48, 58, 41, 41]⟩ : ByteArray)).bind fun bt174 => ((codec_At.f k true (⟨#[]⟩ : ByteArray) y168 (([2, 0] : List Int))).bind fun bt184 => ((codec_Decode.f k (⟨#[40, 50, 58, 97]⟩ : ByteArray)).bind fun bt191 => ((codec_Decode.f k (⟨#[48, 50, 58, 97, 98]⟩ : ByteArray)).bind fun bt198 => ((codec_At.f k true (⟨#[]⟩ : ByteArray) y168 (([0, 0] : List Int))).bind fun bt208 => (if bt172.2 = 0 then (if bt172.1.toList = ([40, 49, 58, 97, 49, 58, 40, 40, 48, 58, 41, 41] : List UInt8) then (if bt174.2.2.2 = 0 then ((garmentref06_Same.f k bt174.1 bt174.2.1 bt174.2.2.1 true (⟨#[]⟩ : ByteArray) y168).bind fun t215 => (if t215 = true then (if bt184.2.2.2 = 0 then ((garmentlaw06_leaf.f (⟨#[]⟩ : ByteArray)).bind fun bt216 => ((garmentref06_Same.f k bt184.1 bt184.2.1 bt184.2.2.1 bt216.1 bt216.2.1 bt216.2.2).bind fun t221 => (if t221 = true then (if bt191.2.2.2 = 4 then (if bt198.2.2.2 = 2 then (some (bt208.2.2.2 == 6)) else (some false)) else (some false)) else (some false)))) else (some false)) else (some false))) else (some false)) else (some false)) else (some false))))))))) = some r := H
 have A3 := Aside0.mk A30
 clear A30
 obtain ⟨y168, hy168⟩ : ∃ y_ : List (S25), y_ = (([(⟨t158, t159, t160⟩ : S25), (⟨t163, t164, t165⟩ : S25), (⟨true, (⟨#[]⟩ : ByteArray), y154⟩ : S25)] : List (S25))) := ⟨_, rfl⟩
 replace H : ((codec_Encode.f k true (⟨#[]⟩ : ByteArray) y168).bind fun bt172 => ((codec_Decode.f k (⟨#[40, 49, 58, 97, 49, 58, 40, 40, 48, 58, 41, 41]⟩ : ByteArray)).bind fun bt174 => ((codec_At.f k true (⟨#[]⟩ : ByteArray) y168 (([2, 0] : List Int))).bind fun bt184 => ((codec_Decode.f k (⟨#[40, 50, 58, 97]⟩ : ByteArray)).bind fun bt191 => ((codec_Decode.f k (⟨#[48, 50, 58, 97, 98]⟩ : ByteArray)).bind fun bt198 => ((codec_At.f k true (⟨#[]⟩ : ByteArray) y168 (([0, 0] : List Int))).bind fun bt208 => (if bt172.2 = 0 then (if bt172.1.toList = ([40, 49, 58, 97, 49, 58, 40, 40, 48, 58, 41, 41] : List UInt8) then (if bt174.2.2.2 = 0 then ((garmentref06_Same.f k bt174.1 bt174.2.1 bt174.2.2.1 true (⟨#[]⟩ : ByteArray) y168).bind fun t215 => (if t215 = true then (if bt184.2.2.2 = 0 then ((garmentlaw06_leaf.f (⟨#[]⟩ : ByteArray)).bind fun bt216 => ((garmentref06_Same.f k bt184.1 bt184.2.1 bt184.2.2.1 bt216.1 bt216.2.1 bt216.2.2).bind fun t221 => (if t221 = true then (if bt191.2.2.2 = 4 then (if bt198.2.2.2 = 2 then (some (bt208.2.2.2 == 6)) else (some false)) else (some false)) else (some false)))) else (some false)) else (some false))) else (some false)) else (some false)) else (some false)))))))) = some r := by first | (rw [hy168]; with_reducible exact H) | (have H2_ := (Option.bind_some _ _).symm.trans H; rw [hy168]; with_reducible exact H2_) | (have H2_ := (Option.bind_some _ _).symm.trans H; with_reducible exact H2_) | with_reducible exact H | (rw [hy168]; exact H) | exact H
 have Ny168 := Aside0.mk hy168
 clear hy168
 replace H := Option.bind_eq_some_iff.mp H
 obtain ⟨⟨t172, t173⟩, A40, H⟩ := H
 replace H : ((codec_Decode.f k (⟨#[40, 49, 58, 97, 49, 58, 40, 40, 48, 58, 41, 41]⟩ : ByteArray)).bind fun bt174 => ((codec_At.f k true (⟨#[]⟩ : ByteArray) y168 (([2, 0] : List Int))).bind fun bt184 => ((codec_Decode.f k (⟨#[40, 50, 58, 97]⟩ : ByteArray)).bind fun bt191 => ((codec_Decode.f k (⟨#[48, 50, 58, 97, 98]⟩ : ByteArray)).bind fun bt198 => ((codec_At.f k true (⟨#[]⟩ : ByteArray) y168 (([0, 0] : List Int))).bind fun bt208 => (if t173 = 0 then (if t172.toList = ([40, 49, 58, 97, 49, 58, 40, 40, 48, 58, 41, 41] : List UInt8) then (if bt174.2.2.2 = 0 then ((garmentref06_Same.f k bt174.1 bt174.2.1 bt174.2.2.1 true (⟨#[]⟩ : ByteArray) y168).bind fun t215 => (if t215 = true then (if bt184.2.2.2 = 0 then ((garmentlaw06_leaf.f (⟨#[]⟩ : ByteArray)).bind fun bt216 => ((garmentref06_Same.f k bt184.1 bt184.2.1 bt184.2.2.1 bt216.1 bt216.2.1 bt216.2.2).bind fun t221 => (if t221 = true then (if bt191.2.2.2 = 4 then (if bt198.2.2.2 = 2 then (some (bt208.2.2.2 == 6)) else (some false)) else (some false)) else (some false)))) else (some false)) else (some false))) else (some false)) else (some false)) else (some false))))))) = some r := H
 have A4 := Aside0.mk A40
 clear A40
 replace H := Option.bind_eq_some_iff.mp H
 obtain ⟨⟨t174, t175, t176, t179⟩, A50, H⟩ := H
 replace H : ((codec_At.f k true (⟨#[]⟩ : ByteArray) y168 (([2, 0] : List Int))).bind fun bt184 => ((codec_Decode.f k (⟨#[40, 50, 58, 97]⟩ : ByteArray)).bind fun bt191 => ((codec_Decode.f k (⟨#[48, 50, 58, 97, 98]⟩ : ByteArray)).bind fun bt198 => ((codec_At.f k true (⟨#[]⟩ : ByteArray) y168 (([0, 0] : List Int))).bind fun bt208 => (if t173 = 0 then (if t172.toList = ([40, 49, 58, 97, 49, 58, 40, 40, 48, 58, 41, 41] : List UInt8) then (if t179 = 0 then ((garmentref06_Same.f k t174 t175 t176 true (⟨#[]⟩ : ByteArray) y168).bind fun t215 => (if t215 = true then (if bt184.2.2.2 = 0 then ((garmentlaw06_leaf.f (⟨#[]⟩ : ByteArray)).bind fun bt216 => ((garmentref06_Same.f k bt184.1 bt184.2.1 bt184.2.2.1 bt216.1 bt216.2.1 bt216.2.2).bind fun t221 => (if t221 = true then (if bt191.2.2.2 = 4 then (if bt198.2.2.2 = 2 then (some (bt208.2.2.2 == 6)) else (some false)) else (some false)) else (some false)))) else (some false)) else (some false))) else (some false)) else (some false)) else (some false)))))) = some r := H
 have A5 := Aside0.mk A50
 clear A50
 obtain ⟨y181, hy181⟩ : ∃ y_ : List Int, y_ = (([2, 0] : List Int)) := ⟨_, rfl⟩
 replace H : ((codec_At.f k true (⟨#[]⟩ : ByteArray) y168 y181).bind fun bt184 => ((codec_Decode.f k (⟨#[40, 50, 58, 97]⟩ : ByteArray)).bind fun bt191 => ((codec_Decode.f k (⟨#[48, 50, 58, 97, 98]⟩ : ByteArray)).bind fun bt198 => ((codec_At.f k true (⟨#[]⟩ : ByteArray) y168 (([0, 0] : List Int))).bind fun bt208 => (if t173 = 0 then (if t172.toList = ([40, 49, 58, 97, 49, 58, 40, 40, 48, 58, 41, 41] : List UInt8) then (if t179 = 0 then ((garmentref06_Same.f k t174 t175 t176 true (⟨#[]⟩ : ByteArray) y168).bind fun t215 => (if t215 = true then (if bt184.2.2.2 = 0 then ((garmentlaw06_leaf.f (⟨#[]⟩ : ByteArray)).bind fun bt216 => ((garmentref06_Same.f k bt184.1 bt184.2.1 bt184.2.2.1 bt216.1 bt216.2.1 bt216.2.2).bind fun t221 => (if t221 = true then (if bt191.2.2.2 = 4 then (if bt198.2.2.2 = 2 then (some (bt208.2.2.2 == 6)) else (some false)) else (some false)) else (some false)))) else (some false)) else (some false))) else (some false)) else (some false)) else (some false)))))) = some r := by first | (rw [hy181]; with_reducible exact H) | (have H2_ := (Option.bind_some _ _).symm.trans H; rw [hy181]; with_reducible exact H2_) | (have H2_ := (Option.bind_some _ _).symm.trans H; with_reducible exact H2_) | with_reducible exact H | (rw [hy181]; exact H) | exact H
 have Ny181 := Aside0.mk hy181
 clear hy181
 replace H := Option.bind_eq_some_iff.mp H
 obtain ⟨⟨t184, t185, t186, t189⟩, A60, H⟩ := H
 replace H : ((codec_Decode.f k (⟨#[40, 50, 58, 97]⟩ : ByteArray)).bind fun bt191 => ((codec_Decode.f k (⟨#[48, 50, 58, 97, 98]⟩ : ByteArray)).bind fun bt198 => ((codec_At.f k true (⟨#[]⟩ : ByteArray) y168 (([0, 0] : List Int))).bind fun bt208 => (if t173 = 0 then (if t172.toList = ([40, 49, 58, 97, 49, 58, 40, 40, 48, 58, 41, 41] : List UInt8) then (if t179 = 0 then ((garmentref06_Same.f k t174 t175 t176 true (⟨#[]⟩ : ByteArray) y168).bind fun t215 => (if t215 = true then (if t189 = 0 then ((garmentlaw06_leaf.f (⟨#[]⟩ : ByteArray)).bind fun bt216 => ((garmentref06_Same.f k t184 t185 t186 bt216.1 bt216.2.1 bt216.2.2).bind fun t221 => (if t221 = true then (if bt191.2.2.2 = 4 then (if bt198.2.2.2 = 2 then (some (bt208.2.2.2 == 6)) else (some false)) else (some false)) else (some false)))) else (some false)) else (some false))) else (some false)) else (some false)) else (some false))))) = some r := H
 have A6 := Aside0.mk A60
 clear A60
 replace H := Option.bind_eq_some_iff.mp H
 obtain ⟨⟨t191, t192, t193, t196⟩, A70, H⟩ := H
 replace H : ((codec_Decode.f k (⟨#[48, 50, 58, 97, 98]⟩ : ByteArray)).bind fun bt198 => ((codec_At.f k true (⟨#[]⟩ : ByteArray) y168 (([0, 0] : List Int))).bind fun bt208 => (if t173 = 0 then (if t172.toList = ([40, 49, 58, 97, 49, 58, 40, 40, 48, 58, 41, 41] : List UInt8) then (if t179 = 0 then ((garmentref06_Same.f k t174 t175 t176 true (⟨#[]⟩ : ByteArray) y168).bind fun t215 => (if t215 = true then (if t189 = 0 then ((garmentlaw06_leaf.f (⟨#[]⟩ : ByteArray)).bind fun bt216 => ((garmentref06_Same.f k t184 t185 t186 bt216.1 bt216.2.1 bt216.2.2).bind fun t221 => (if t221 = true then (if t196 = 4 then (if bt198.2.2.2 = 2 then (some (bt208.2.2.2 == 6)) else (some false)) else (some false)) else (some false)))) else (some false)) else (some false))) else (some false)) else (some false)) else (some false)))) = some r := H
 have A7 := Aside0.mk A70
 clear A70
 replace H := Option.bind_eq_some_iff.mp H
 obtain ⟨⟨t198, t199, t200, t203⟩, A80, H⟩ := H
 replace H : ((codec_At.f k true (⟨#[]⟩ : ByteArray) y168 (([0, 0] : List Int))).bind fun bt208 => (if t173 = 0 then (if t172.toList = ([40, 49, 58, 97, 49, 58, 40, 40, 48, 58, 41, 41] : List UInt8) then (if t179 = 0 then ((garmentref06_Same.f k t174 t175 t176 true (⟨#[]⟩ : ByteArray) y168).bind fun t215 => (if t215 = true then (if t189 = 0 then ((garmentlaw06_leaf.f (⟨#[]⟩ : ByteArray)).bind fun bt216 => ((garmentref06_Same.f k t184 t185 t186 bt216.1 bt216.2.1 bt216.2.2).bind fun t221 => (if t221 = true then (if t196 = 4 then (if t203 = 2 then (some (bt208.2.2.2 == 6)) else (some false)) else (some false)) else (some false)))) else (some false)) else (some false))) else (some false)) else (some false)) else (some false))) = some r := H
 have A8 := Aside0.mk A80
 clear A80
 obtain ⟨y205, hy205⟩ : ∃ y_ : List Int, y_ = (([0, 0] : List Int)) := ⟨_, rfl⟩
 replace H : ((codec_At.f k true (⟨#[]⟩ : ByteArray) y168 y205).bind fun bt208 => (if t173 = 0 then (if t172.toList = ([40, 49, 58, 97, 49, 58, 40, 40, 48, 58, 41, 41] : List UInt8) then (if t179 = 0 then ((garmentref06_Same.f k t174 t175 t176 true (⟨#[]⟩ : ByteArray) y168).bind fun t215 => (if t215 = true then (if t189 = 0 then ((garmentlaw06_leaf.f (⟨#[]⟩ : ByteArray)).bind fun bt216 => ((garmentref06_Same.f k t184 t185 t186 bt216.1 bt216.2.1 bt216.2.2).bind fun t221 => (if t221 = true then (if t196 = 4 then (if t203 = 2 then (some (bt208.2.2.2 == 6)) else (some false)) else (some false)) else (some false)))) else (some false)) else (some false))) else (some false)) else (some false)) else (some false))) = some r := by first | (rw [hy205]; with_reducible exact H) | (have H2_ := (Option.bind_some _ _).symm.trans H; rw [hy205]; with_reducible exact H2_) | (have H2_ := (Option.bind_some _ _).symm.trans H; with_reducible exact H2_) | with_reducible exact H | (rw [hy205]; exact H) | exact H
 have Ny205 := Aside0.mk hy205
 clear hy205
 replace H := Option.bind_eq_some_iff.mp H
 obtain ⟨⟨t208, t209, t210, t213⟩, A90, H⟩ := H
 replace H : (if t173 = 0 then (if t172.toList = ([40, 49, 58, 97, 49, 58, 40, 40, 48, 58, 41, 41] : List UInt8) then (if t179 = 0 then ((garmentref06_Same.f k t174 t175 t176 true (⟨#[]⟩ : ByteArray) y168).bind fun t215 => (if t215 = true then (if t189 = 0 then ((garmentlaw06_leaf.f (⟨#[]⟩ : ByteArray)).bind fun bt216 => ((garmentref06_Same.f k t184 t185 t186 bt216.1 bt216.2.1 bt216.2.2).bind fun t221 => (if t221 = true then (if t196 = 4 then (if t203 = 2 then (some (t213 == 6)) else (some false)) else (some false)) else (some false)))) else (some false)) else (some false))) else (some false)) else (some false)) else (some false)) = some r := H
 have A9 := Aside0.mk A90
 clear A90
 have c10 : t173 = 0 := by subst hk; have z1 := A1.out; have z2 := A2.out; have z3 := A3.out; have m1 := Ny154.out; have m2 := Ny168.out; rw [exL0] at z1; rw [exL1] at z2; rw [exL2] at z3; simp only [Option.some.injEq, Prod.mk.injEq] at z1 z2 z3; obtain ⟨rfl, rfl, rfl⟩ := z1; obtain ⟨rfl, rfl, rfl⟩ := z2; obtain ⟨rfl, rfl, rfl⟩ := z3; subst m1; subst m2; have x := A4.out; rw [exE1] at x; simp only [Option.some.injEq, Prod.mk.injEq] at x; exact x.2.symm
 rw [if_pos c10] at H
 have c10b0 : (t173 == 0) = true := beq_iff_eq.mpr c10
 have c10b1 : (t173 != 0) = false := bne_eq_false_iff_eq.mpr c10
 clear c10
 have c11 : t172.toList = ([40, 49, 58, 97, 49, 58, 40, 40, 48, 58, 41, 41] : List UInt8) := by subst hk; have z1 := A1.out; have z2 := A2.out; have z3 := A3.out; have m1 := Ny154.out; have m2 := Ny168.out; rw [exL0] at z1; rw [exL1] at z2; rw [exL2] at z3; simp only [Option.some.injEq, Prod.mk.injEq] at z1 z2 z3; obtain ⟨rfl, rfl, rfl⟩ := z1; obtain ⟨rfl, rfl, rfl⟩ := z2; obtain ⟨rfl, rfl, rfl⟩ := z3; subst m1; subst m2; have x := A4.out; rw [exE1] at x; simp only [Option.some.injEq, Prod.mk.injEq] at x; obtain ⟨rfl, rfl⟩ := x; exact exT
 rw [if_pos c11] at H
 have c11b0 : (t172.toList == ([40, 49, 58, 97, 49, 58, 40, 40, 48, 58, 41, 41] : List UInt8)) = true := beq_iff_eq.mpr c11
 have c11b1 : (t172.toList != ([40, 49, 58, 97, 49, 58, 40, 40, 48, 58, 41, 41] : List UInt8)) = false := bne_eq_false_iff_eq.mpr c11
 clear c11
 have c12 : t179 = 0 := by subst hk; have x := A5.out; rw [exD1] at x; simp only [Option.some.injEq, Prod.mk.injEq] at x; exact x.2.2.2.symm
 rw [if_pos c12] at H
 have c12b0 : (t179 == 0) = true := beq_iff_eq.mpr c12
 have c12b1 : (t179 != 0) = false := bne_eq_false_iff_eq.mpr c12
 clear c12
 replace H := Option.bind_eq_some_iff.mp H
 obtain ⟨t215, A130, H⟩ := H
 replace H : (if t215 = true then (if t189 = 0 then ((garmentlaw06_leaf.f (⟨#[]⟩ : ByteArray)).bind fun bt216 => ((garmentref06_Same.f k t184 t185 t186 bt216.1 bt216.2.1 bt216.2.2).bind fun t221 => (if t221 = true then (if t196 = 4 then (if t203 = 2 then (some (t213 == 6)) else (some false)) else (some false)) else (some false)))) else (some false)) else (some false)) = some r := H
 have A13 := Aside0.mk A130
 clear A130
 have c14 : t215 = true := by subst hk; have z1 := A1.out; have z2 := A2.out; have z3 := A3.out; have m1 := Ny154.out; have m2 := Ny168.out; rw [exL0] at z1; rw [exL1] at z2; rw [exL2] at z3; simp only [Option.some.injEq, Prod.mk.injEq] at z1 z2 z3; obtain ⟨rfl, rfl, rfl⟩ := z1; obtain ⟨rfl, rfl, rfl⟩ := z2; obtain ⟨rfl, rfl, rfl⟩ := z3; subst m1; subst m2; have x := A5.out; rw [exD1] at x; simp only [Option.some.injEq, Prod.mk.injEq] at x; obtain ⟨rfl, rfl, rfl, rfl⟩ := x; have x := A13.out; rw [exS1] at x; exact (Option.some.inj x).symm
 subst c14
 have H1 : (if t189 = 0 then ((garmentlaw06_leaf.f (⟨#[]⟩ : ByteArray)).bind fun bt216 => ((garmentref06_Same.f k t184 t185 t186 bt216.1 bt216.2.1 bt216.2.2).bind fun t221 => (if t221 = true then (if t196 = 4 then (if t203 = 2 then (some (t213 == 6)) else (some false)) else (some false)) else (some false)))) else (some false)) = some r := by rw [if_pos rfl] at H; exact H
 clear H
 have H := H1
 clear H1
 have c15 : t189 = 0 := by subst hk; have z1 := A1.out; have z2 := A2.out; have z3 := A3.out; have m1 := Ny154.out; have m2 := Ny168.out; rw [exL0] at z1; rw [exL1] at z2; rw [exL2] at z3; simp only [Option.some.injEq, Prod.mk.injEq] at z1 z2 z3; obtain ⟨rfl, rfl, rfl⟩ := z1; obtain ⟨rfl, rfl, rfl⟩ := z2; obtain ⟨rfl, rfl, rfl⟩ := z3; subst m1; subst m2; have m3 := Ny181.out; subst m3; have x := A6.out; rw [exA1] at x; simp only [Option.some.injEq, Prod.mk.injEq] at x; exact x.2.2.2.symm
 rw [if_pos c15] at H
 have c15b0 : (t189 == 0) = true := beq_iff_eq.mpr c15
 have c15b1 : (t189 != 0) = false := bne_eq_false_iff_eq.mpr c15
 clear c15
 replace H := Option.bind_eq_some_iff.mp H
 obtain ⟨⟨t216, t217, t218⟩, A160, H⟩ := H
 replace H : ((garmentref06_Same.f k t184 t185 t186 t216 t217 t218).bind fun t221 => (if t221 = true then (if t196 = 4 then (if t203 = 2 then (some (t213 == 6)) else (some false)) else (some false)) else (some false))) = some r := H
 have A16 := Aside0.mk A160
 clear A160
 replace H := Option.bind_eq_some_iff.mp H
 obtain ⟨t221, A170, H⟩ := H
 replace H : (if t221 = true then (if t196 = 4 then (if t203 = 2 then (some (t213 == 6)) else (some false)) else (some false)) else (some false)) = some r := H
 have A17 := Aside0.mk A170
 clear A170
 have c18 : t221 = true := by subst hk; have z1 := A1.out; have z2 := A2.out; have z3 := A3.out; have m1 := Ny154.out; have m2 := Ny168.out; rw [exL0] at z1; rw [exL1] at z2; rw [exL2] at z3; simp only [Option.some.injEq, Prod.mk.injEq] at z1 z2 z3; obtain ⟨rfl, rfl, rfl⟩ := z1; obtain ⟨rfl, rfl, rfl⟩ := z2; obtain ⟨rfl, rfl, rfl⟩ := z3; subst m1; subst m2; have m3 := Ny181.out; subst m3; have x := A6.out; rw [exA1] at x; simp only [Option.some.injEq, Prod.mk.injEq] at x; obtain ⟨rfl, rfl, rfl, rfl⟩ := x; have z16 := A16.out; rw [exL0] at z16; simp only [Option.some.injEq, Prod.mk.injEq] at z16; obtain ⟨rfl, rfl, rfl⟩ := z16; have x := A17.out; rw [exS2] at x; exact (Option.some.inj x).symm
 subst c18
 have H1 : (if t196 = 4 then (if t203 = 2 then (some (t213 == 6)) else (some false)) else (some false)) = some r := by rw [if_pos rfl] at H; exact H
 clear H
 have H := H1
 clear H1
 have c19 : t196 = 4 := by subst hk; have x := A7.out; rw [exD2] at x; simp only [Option.some.injEq, Prod.mk.injEq] at x; exact x.2.2.2.symm
 rw [if_pos c19] at H
 have c19b0 : (t196 == 4) = true := beq_iff_eq.mpr c19
 have c19b1 : (t196 != 4) = false := bne_eq_false_iff_eq.mpr c19
 clear c19
 have c20 : t203 = 2 := by subst hk; have x := A8.out; rw [exD3] at x; simp only [Option.some.injEq, Prod.mk.injEq] at x; exact x.2.2.2.symm
 rw [if_pos c20] at H
 have c20b0 : (t203 == 2) = true := beq_iff_eq.mpr c20
 have c20b1 : (t203 != 2) = false := bne_eq_false_iff_eq.mpr c20
 clear c20
 obtain rfl := Option.some.inj H
 go_enter Tryd.func10, Tryd.ntmps10
 try go_wp2_with (first | ((with_reducible refine gate_callee (f := 19) rfl ?_); refine goesL_ (some 15) rfl rfl Tryd.func19 (by kernel_rfl) rfl #[.string (⟨#[]⟩ : ByteArray)] rfl (by (try simp only [List.map_toArray, List.map_cons, List.map_nil]); first | done | rfl | (simp only [List.length_drop, List.length_take]; rfl)) ?_; (with_reducible refine (garmentlaw06_leaf.calls (⟨#[]⟩ : ByteArray) t149 t150 t151 _ A1.out).mono ?_); rintro e w21 ⟨v152, rfl, ho0, hb⟩; refine ⟨_, rfl, ?_⟩; have n0_ := Aside0.mk (Kd.N_lower (Kd.N_mono (ok' := fun k_ => True) (Kd.R_N (Kd.R_bound ho0)) (fun k_ hk_ => trivial)) (below_size (by repeat (first | (with_reducible first | exact HB.out | apply below_alloc | apply pw_below_drewN | apply below_drew1) | exact HB.out)))); have n1_ := Aside0.mk (below_step (by repeat (first | (with_reducible first | exact HB.out | apply below_alloc | apply pw_below_drewN | apply below_drew1) | exact HB.out)) hb); clear HB; have HO153 := n0_; have HB := n1_; clear n0_ n1_; (try clear hb); (try clear hb2); (try clear hk); (try clear hi); (try clear ho0); obtain ⟨Ao22, co22, eo22⟩ := Kd.N_slice HO153.out; subst eo22) | ((with_reducible refine gate_dst (N := 16) rfl ?_); refine Kd.N_lit k25 _ 25 ?hg (N' := 16) ?hd (xs := ([(⟨t149, t150, t151⟩ : S25)] : List (S25))) (inner := [.bool t149, .string t150, .slice Ao22 t151.length co22]) (ok := (fun _ => True)) (okp := (fun _ => True)) ?hr ?hp (fun _ hk => hk) ((show ∀ k_, w21.heap.size ≤ k_ → (fun _ => True) k_ from fun k_ hk => trivial) _ (Nat.le_refl _)) (Below.refl _ _) (Nat.le_refl _) (by simp) ?_; (case hd => rfl); (case hg => rfl); (case hr => first | (go_simp; done) | (go_simp; rfl)); (case hp => exact (Reps.c3 (show Kd.FK k25 _ _ (⟨t149, t150, t151⟩ : S25) [.bool t149, .string t150, .slice Ao22 t151.length co22] from (k25_mkF _ _ (⟨t149, t150, t151⟩ : S25) (Kd.N_reads' (Kd.N_mono (ok' := (fun _ => True)) (HO153.out) (fun k_ hk => trivial))).2.1 (Kd.N_F (Kd.N_mono (ok' := (fun _ => True)) (HO153.out) (fun k_ hk => trivial))))) (Reps.none _ _))); intro v155 w23 ho24 hb hg_ hnew_; clear hg_ hnew_; (first | rw [← Ny154.out] at ho24 | (simp only [Int.reduceToNat] at ho24; rw [← Ny154.out] at ho24)); have n0_ := Aside0.mk (Kd.N_lower ho24 (below_size (by repeat (first | (with_reducible first | exact HB.out | apply below_alloc | apply pw_below_drewN | apply below_drew1) | exact HB.out)))); have n1_ := Aside0.mk (below_step (by repeat (first | (with_reducible first | exact HB.out | apply below_alloc | apply pw_below_drewN | apply below_drew1) | exact HB.out)) hb); clear HB; clear HO153; have HO156 := n0_; have HB := n1_; clear n0_ n1_; clear hb ho24; obtain ⟨Ao25, co25, eo25⟩ := Kd.N_slice HO156.out; subst eo25) | ((with_reducible refine gate_dst (N := 1) rfl ?_); refine box_event ?hg (N := 1) ?hd (cs := #[.bool false, .string (⟨#[]⟩ : ByteArray), .slice none 0 0]) (t := 25) ?hr ?_; (case hd => rfl); (case hg => rfl); (case hr => first | (go_simp; done) | (go_simp; rfl)); intro gb157 hg w26 hbox hb; have n0_ := Aside0.mk (Kd.N_below (Kd.N_elderB (by (with_reducible repeat (first | apply Kd.N_alloc | apply Kd.N_drewN | apply Kd.N_drew)); exact HO156.out) gb157 (Nat.le_of_eq hg.symm)) hb); have n1_ := Aside0.mk (below_step (by repeat (first | (with_reducible first | exact HB.out | apply below_alloc | apply pw_below_drewN | apply below_drew1) | exact HB.out)) hb); have n2_ := Aside0.mk (hbox); have n3_ := Aside0.mk ((by rw [hg]; exact (below_size (by repeat (first | (with_reducible first | exact HB.out | apply below_alloc | apply pw_below_drewN | apply below_drew1) | exact HB.out))) : w.heap.size ≤ gb157)); have n4_ := Aside0.mk ((by rw [hg]; exact (below_size (by repeat (first | (with_reducible first | exact HB.out | apply below_alloc | apply pw_below_drewN | apply below_drew1) | exact HB.out))) : w.heap.size ≤ gb157)); clear HO156; clear HB; have HO156 := n0_; have HB := n1_; have BK157 := n2_; have GW157 := n3_; have GE157 := n4_; clear n0_ n1_ n2_ n3_ n4_; clear hb hbox hg; have hcz27_0 : w26.cell? ⟨gb157, 0, none⟩ = some (.bool false) := (blk_cell BK157.out 0).trans rfl; have hcz27_1 : w26.cell? ⟨gb157, 1, none⟩ = some (.string (⟨#[]⟩ : ByteArray)) := (blk_cell BK157.out 1).trans rfl; have hcz27_2 : w26.cell? ⟨gb157, 2, none⟩ = some (.slice none 0 0) := (blk_cell BK157.out 2).trans rfl; have hfz27_0 := blk_frozen BK157.out 0; have hfz27_1 := blk_frozen BK157.out 1; have hfz27_2 := blk_frozen BK157.out 2))
 have n0_ : Aside0 (Kd.N k25 25 (((w26.setCell ⟨gb157, 0, none⟩ (.bool true)).setCell ⟨gb157, 1, none⟩ (.string (⟨#[]⟩ : ByteArray))).setCell ⟨gb157, 2, none⟩ (.slice Ao25 y154.length co25)) w.heap.size (fun k_ => k_ ≠ gb157) (.slice Ao25 y154.length co25) y154) := ⟨by (with_reducible repeat (first | apply Kd.N_alloc | apply Kd.N_drewN | apply Kd.N_drew)); exact Kd.N_mono (Kd.N_far (p := ⟨gb157, 2, none⟩) (Kd.N_far (p := ⟨gb157, 1, none⟩) (Kd.N_far (p := ⟨gb157, 0, none⟩) (Kd.N_mono HO156.out (fun k_ hk => (⟨hk, hk.2⟩ : _ ∧ k_ ≠ gb157))) (fun _ hk => hk.2) (.bool true)) (fun _ hk => hk.2) (.string (⟨#[]⟩ : ByteArray))) (fun _ hk => hk.2) (.slice Ao25 y154.length co25)) (fun _ hk => hk.1.2)⟩
 have n1_ : Aside0 ((((w26.setCell ⟨gb157, 0, none⟩ (.bool true)).setCell ⟨gb157, 1, none⟩ (.string (⟨#[]⟩ : ByteArray))).setCell ⟨gb157, 2, none⟩ (.slice Ao25 y154.length co25)).heap[gb157]? = some (.cells #[.bool true, .string (⟨#[]⟩ : ByteArray), .slice Ao25 y154.length co25] 25 (0, 0))) := ⟨by (with_reducible repeat (first | refine blk_drewN ?_ _ | refine blk_drew ?_ | refine blk_alloc ?_ _)); refine blk_put (cs := #[.bool true, .string (⟨#[]⟩ : ByteArray), .slice none 0 0]) ?_ 2 _ rfl; (with_reducible repeat (first | refine blk_drewN ?_ _ | refine blk_drew ?_ | refine blk_alloc ?_ _)); refine blk_put (cs := #[.bool true, .string (⟨#[]⟩ : ByteArray), .slice none 0 0]) ?_ 1 _ rfl; (with_reducible repeat (first | refine blk_drewN ?_ _ | refine blk_drew ?_ | refine blk_alloc ?_ _)); refine blk_put (cs := #[.bool false, .string (⟨#[]⟩ : ByteArray), .slice none 0 0]) ?_ 0 _ rfl; (with_reducible repeat (first | refine blk_drewN ?_ _ | refine blk_drew ?_ | refine blk_alloc ?_ _)); exact BK157.out⟩
 have n2_ : Aside0 (Below w.heap.size w (((w26.setCell ⟨gb157, 0, none⟩ (.bool true)).setCell ⟨gb157, 1, none⟩ (.string (⟨#[]⟩ : ByteArray))).setCell ⟨gb157, 2, none⟩ (.slice Ao25 y154.length co25))) := ⟨by repeat (first | (with_reducible first | exact HB.out | apply below_alloc | apply pw_below_drewN | apply below_drew1 | refine below_set ?_ GE157.out) | exact HB.out)⟩
 (try clear HO156)
 (try clear BK157)
 (try clear HB)
 generalize (((w26.setCell ⟨gb157, 0, none⟩ (.bool true)).setCell ⟨gb157, 1, none⟩ (.string (⟨#[]⟩ : ByteArray))).setCell ⟨gb157, 2, none⟩ (.slice Ao25 y154.length co25)) = w28 at n0_ n1_ n2_ ⊢
 have HO156 := n0_
 have BK157 := n1_
 have HB := n2_
 clear n0_ n1_ n2_
 have n0_ := Aside0.mk (Kd.N_drew HO156.out)
 have n1_ := Aside0.mk (blk_drew BK157.out)
 have n2_ := Aside0.mk (below_drew1 HB.out)
 clear HO156
 clear BK157
 clear HB
 have HO156 := n0_
 have BK157 := n1_
 have HB := n2_
 clear n0_ n1_ n2_
 refine start_ (n := 7) (S := fun w' => w'.cell? ⟨gb157, 0, none⟩ = some (.bool true) ∧ w'.cell? ⟨gb157, 1, none⟩ = some (.string (⟨#[]⟩ : ByteArray)) ∧ w'.cell? ⟨gb157, 2, none⟩ = some (.slice Ao25 y154.length co25)) (ds := []) #[false, false, false, false, false, false, false] (by kernel_rfl) rfl rfl ⟨(blk_cell BK157.out 0).trans rfl, (blk_cell BK157.out 1).trans rfl, (blk_cell BK157.out 2).trans rfl⟩ (fun hHeld => ?_)
 generalize w28.drew = w29 at HO156 BK157 HB hHeld ⊢
 refine take_ (i := 2) (N := some 20) (v := ?_) (a' := ?_) #[false, false, true, false, false, false, false] rfl rfl (by kernel_rfl) (fun _ _ _ h => h) (Or.inl ⟨by rfl, ?_⟩) hHeld ?_ ?_
 rotate_left
 ·rintro w' ⟨s0, s1, s2⟩
  go_simp
  with_reducible rfl
 rotate_left
 ·simp only [Act.put, List.setIfInBounds_toArray, List.set_cons_zero, List.set_cons_succ, i64_w, i32_w]
  rfl
 refine join_ (σ := Value × Value × Value × Nat) 1 #[true, true, true, true, true, true, false] (fun s_ => [(18, .agg #[.bool t158, .string t159, s_.1]), (19, .agg #[.bool t163, .string t164, s_.2.1]), (21, s_.2.2.1), (2, .pointer (some ⟨s_.2.2.2, 0, none⟩)), (22, .agg #[.bool true, .string (⟨#[]⟩ : ByteArray), s_.2.2.1])]) (fun s_ w' => (w'.cell? ⟨gb157, 0, none⟩ = some (.bool true) ∧ w'.cell? ⟨gb157, 1, none⟩ = some (.string (⟨#[]⟩ : ByteArray)) ∧ w'.cell? ⟨gb157, 2, none⟩ = some (.slice Ao25 y154.length co25)) ∧ (Kd.N k25 25 w' w.heap.size (fun k_ => k_ ≠ gb157 ∧ k_ ≠ s_.2.2.2) s_.2.2.1 y168) ∧ (w'.heap[gb157]? = some (.cells #[.bool true, .string (⟨#[]⟩ : ByteArray), .slice Ao25 y154.length co25] 25 (0, 0))) ∧ (w'.heap[s_.2.2.2]? = some (.cells #[.bool false, .string (⟨#[]⟩ : ByteArray), .slice none 0 0] 25 (0, 0))) ∧ (w.heap.size ≤ s_.2.2.2) ∧ (w.heap.size ≤ s_.2.2.2) ∧ (gb157 ≠ s_.2.2.2) ∧ (s_.2.2.2 ≠ gb157) ∧ (Below w.heap.size w w')) ?_ ?_
 rotate_left
 ·intro hCont
  refine two_ (i := 0) (j := 5) (Ni := some 18) (Nj := some 2) #[true, false, true, false, false, false, false] #[false, false, true, false, false, true, false] rfl rfl rfl rfl (by kernel_rfl) (by decide) (by decide) (fun K hK => ?_) (fun K hK => ?_)
  ·skip
   refine goes_ Tryd.func19 (by kernel_rfl) rfl #[.string (⟨#[97]⟩ : ByteArray)] (by rfl) rfl rfl (by (try simp only [List.map_toArray, List.map_cons, List.map_nil]); first | done | rfl | (simp only [List.length_drop, List.length_take]; rfl)) ?_
   with_reducible refine (garmentlaw06_leaf.calls (⟨#[97]⟩ : ByteArray) t158 t159 t160 _ A2.out).mono ?_
   rintro e w30 ⟨v161, rfl, ho0, hb⟩
   refine ⟨_, rfl, ?_⟩
   have n0_ := Aside0.mk (Kd.N_elder' (by (with_reducible repeat (first | apply Kd.N_alloc | apply Kd.N_drewN | apply Kd.N_drew)); exact HO156.out) (by first | exact Kd.N_base ho0 | exact Kd.R_base ho0) hb)
   have n1_ := Aside0.mk (Kd.N_lower (Kd.N_mono (ok' := fun k_ => some k_ ≠ (.slice Ao25 y154.length co25 : Value).ownBlock ∧ k_ ≠ gb157) (Kd.R_N (Kd.R_bound ho0)) (fun k_ hk_ => ⟨(Kd.fresh' (Kd.N_lt (by (with_reducible repeat (first | apply Kd.N_alloc | apply Kd.N_drewN | apply Kd.N_drew)); exact HO156.out)) k_ hk_.2.1), (Kd.freshB (g := gb157) (o := .cells #[.bool true, .string (⟨#[]⟩ : ByteArray), .slice Ao25 y154.length co25] 25 (0, 0)) (by (with_reducible repeat (first | refine blk_drewN ?_ _ | refine blk_drew ?_ | refine blk_alloc ?_ _)); exact BK157.out) k_ hk_.2.1)⟩)) (below_size (by repeat (first | (with_reducible first | exact HB.out | apply below_alloc | apply pw_below_drewN | apply below_drew1 | refine below_set ?_ GE157.out) | exact HB.out))))
   have n2_ := Aside0.mk (blk_below (g := gb157) (o := .cells #[.bool true, .string (⟨#[]⟩ : ByteArray), .slice Ao25 y154.length co25] 25 (0, 0)) (by (with_reducible repeat (first | refine blk_drewN ?_ _ | refine blk_drew ?_ | refine blk_alloc ?_ _)); exact BK157.out) hb)
   have n3_ := Aside0.mk (below_step (by repeat (first | (with_reducible first | exact HB.out | apply below_alloc | apply pw_below_drewN | apply below_drew1 | refine below_set ?_ GE157.out) | exact HB.out)) hb)
   clear HO156
   clear BK157
   clear HB
   have HO156 := n0_
   have HO162 := n1_
   have BK157 := n2_
   have HB := n3_
   clear n0_ n1_ n2_ n3_
   (try clear hb)
   (try clear hb2)
   (try clear hk)
   (try clear hi)
   (try clear ho0)
   refine hK.out _ _ ⟨(blk_cell BK157.out 0).trans rfl, (blk_cell BK157.out 1).trans rfl, (blk_cell BK157.out 2).trans rfl⟩ (fun hHeld => ?_)
   clear hK K
   refine norm_ (a' := ?_) ?_ ?_
   rotate_left
   ·show Act.put _ (some 18) _ = _
    simp only [Act.put, List.setIfInBounds_toArray, List.set_cons_zero, List.set_cons_succ, i64_w, i32_w]
    rfl
   refine two_ (i := 1) (j := 5) (Ni := some 19) (Nj := some 2) #[true, true, true, false, false, false, false] #[true, false, true, false, false, true, false] rfl rfl rfl rfl (by kernel_rfl) (by decide) (by decide) (fun K hK => ?_) (fun K hK => ?_)
   ·skip
    refine goes_ Tryd.func19 (by kernel_rfl) rfl #[.string (⟨#[40]⟩ : ByteArray)] (by rfl) rfl rfl (by (try simp only [List.map_toArray, List.map_cons, List.map_nil]); first | done | rfl | (simp only [List.length_drop, List.length_take]; rfl)) ?_
    with_reducible refine (garmentlaw06_leaf.calls (⟨#[40]⟩ : ByteArray) t163 t164 t165 _ A3.out).mono ?_
    rintro e w31 ⟨v166, rfl, ho0, hb⟩
    refine ⟨_, rfl, ?_⟩
    have n0_ := Aside0.mk (Kd.N_elder' (by (with_reducible repeat (first | apply Kd.N_alloc | apply Kd.N_drewN | apply Kd.N_drew)); exact HO156.out) (by first | exact Kd.N_base ho0 | exact Kd.R_base ho0) hb)
    have n1_ := Aside0.mk (Kd.N_elder' (by (with_reducible repeat (first | apply Kd.N_alloc | apply Kd.N_drewN | apply Kd.N_drew)); exact HO162.out) (by first | exact Kd.N_base ho0 | exact Kd.R_base ho0) hb)
    have n2_ := Aside0.mk (Kd.N_lower (Kd.N_mono (ok' := fun k_ => some k_ ≠ (.slice Ao25 y154.length co25 : Value).ownBlock ∧ some k_ ≠ (v161 : Value).ownBlock ∧ k_ ≠ gb157) (Kd.R_N (Kd.R_bound ho0)) (fun k_ hk_ => ⟨(Kd.fresh' (Kd.N_lt (by (with_reducible repeat (first | apply Kd.N_alloc | apply Kd.N_drewN | apply Kd.N_drew)); exact HO156.out)) k_ hk_.2.1), (Kd.fresh' (Kd.N_lt (by (with_reducible repeat (first | apply Kd.N_alloc | apply Kd.N_drewN | apply Kd.N_drew)); exact HO162.out)) k_ hk_.2.1), (Kd.freshB (g := gb157) (o := .cells #[.bool true, .string (⟨#[]⟩ : ByteArray), .slice Ao25 y154.length co25] 25 (0, 0)) (by (with_reducible repeat (first | refine blk_drewN ?_ _ | refine blk_drew ?_ | refine blk_alloc ?_ _)); exact BK157.out) k_ hk_.2.1)⟩)) (below_size (by repeat (first | (with_reducible first | exact HB.out | apply below_alloc | apply pw_below_drewN | apply below_drew1 | refine below_set ?_ GE157.out) | exact HB.out))))
    have n3_ := Aside0.mk (blk_below (g := gb157) (o := .cells #[.bool true, .string (⟨#[]⟩ : ByteArray), .slice Ao25 y154.length co25] 25 (0, 0)) (by (with_reducible repeat (first | refine blk_drewN ?_ _ | refine blk_drew ?_ | refine blk_alloc ?_ _)); exact BK157.out) hb)
    have n4_ := Aside0.mk (below_step (by repeat (first | (with_reducible first | exact HB.out | apply below_alloc | apply pw_below_drewN | apply below_drew1 | refine below_set ?_ GE157.out) | exact HB.out)) hb)
    clear HO156
    clear HO162
    clear BK157
    clear HB
    have HO156 := n0_
    have HO162 := n1_
    have HO167 := n2_
    have BK157 := n3_
    have HB := n4_
    clear n0_ n1_ n2_ n3_ n4_
    (try clear hb)
    (try clear hb2)
    (try clear hk)
    (try clear hi)
    (try clear ho0)
    obtain ⟨Ao32, co32, eo32⟩ := Kd.N_slice HO162.out
    (first | subst eo32 | (injection eo32 with f1_ f2_ f3_; have f4_ := f1_.symm; have f5_ := f3_.symm; clear f1_ f2_ f3_; subst f4_; subst f5_))
    obtain ⟨Ao33, co33, eo33⟩ := Kd.N_slice HO167.out
    (first | subst eo33 | (injection eo33 with f1_ f2_ f3_; have f4_ := f1_.symm; have f5_ := f3_.symm; clear f1_ f2_ f3_; subst f4_; subst f5_))
    refine hK.out _ _ ⟨(blk_cell BK157.out 0).trans rfl, (blk_cell BK157.out 1).trans rfl, (blk_cell BK157.out 2).trans rfl⟩ (fun hHeld => ?_)
    clear hK K
    refine norm_ (a' := ?_) ?_ ?_
    rotate_left
    ·show Act.put _ (some 19) _ = _
     simp only [Act.put, List.setIfInBounds_toArray, List.set_cons_zero, List.set_cons_succ, i64_w, i32_w]
     rfl
    refine two_ (i := 3) (j := 5) (Ni := some 21) (Nj := some 2) #[true, true, true, true, false, false, false] #[true, true, true, false, false, true, false] rfl rfl rfl rfl (by kernel_rfl) (by decide) (by decide) (fun K hK => ?_) (fun K hK => ?_)
    ·skip
     refine Kd.N_lit_step k25 _ 25 ?hg (N' := 21) ?hd (xs := ([(⟨t158, t159, t160⟩ : S25), (⟨t163, t164, t165⟩ : S25), (⟨true, (⟨#[]⟩ : ByteArray), y154⟩ : S25)] : List (S25))) (inner := [.bool t158, .string t159, .slice Ao32 t160.length co32, .bool t163, .string t164, .slice Ao33 t165.length co33, .bool true, .string (⟨#[]⟩ : ByteArray), .slice Ao25 y154.length co25]) (ok := (fun k_ => k_ ≠ gb157)) (okp := (fun k_ => k_ ≠ gb157)) ?hr ?hp (fun _ hk => hk) ((show ∀ k_, w31.heap.size ≤ k_ → (fun k_ => k_ ≠ gb157) k_ from fun k_ hk => Kd.freshB (g := gb157) (o := .cells #[.bool true, .string (⟨#[]⟩ : ByteArray), .slice Ao25 y154.length co25] 25 (0, 0)) (by (with_reducible repeat (first | refine blk_drewN ?_ _ | refine blk_drew ?_ | refine blk_alloc ?_ _)); exact BK157.out) k_ hk) _ (Nat.le_refl _)) (Below.refl _ _) (Nat.le_refl _) (by simp) ?_; (case hd => rfl); (case hg => rfl); (case hr => first | (go_simp; done) | (go_simp; rfl)); (case hp => exact (Reps.c3 (show Kd.FK k25 _ _ (⟨t158, t159, t160⟩ : S25) [.bool t158, .string t159, .slice Ao32 t160.length co32] from (k25_mkF _ _ (⟨t158, t159, t160⟩ : S25) (Kd.N_reads' (Kd.N_mono (ok' := (fun k_ => k_ ≠ gb157)) (HO162.out) (fun k_ hk => hk.1.2))).2.1 (Kd.N_F (Kd.N_mono (ok' := (fun k_ => k_ ≠ gb157)) (HO162.out) (fun k_ hk => hk.1.2))))) (Reps.c3 (show Kd.FK k25 _ _ (⟨t163, t164, t165⟩ : S25) [.bool t163, .string t164, .slice Ao33 t165.length co33] from (k25_mkF _ _ (⟨t163, t164, t165⟩ : S25) (Kd.N_reads' (Kd.N_mono (ok' := (fun k_ => k_ ≠ gb157)) (HO167.out) (fun k_ hk => hk.2.2))).2.1 (Kd.N_F (Kd.N_mono (ok' := (fun k_ => k_ ≠ gb157)) (HO167.out) (fun k_ hk => hk.2.2))))) (Reps.c3 (show Kd.FK k25 _ _ (⟨true, (⟨#[]⟩ : ByteArray), y154⟩ : S25) [.bool true, .string (⟨#[]⟩ : ByteArray), .slice Ao25 y154.length co25] from (k25_mkF _ _ (⟨true, (⟨#[]⟩ : ByteArray), y154⟩ : S25) (Kd.N_reads' (Kd.N_mono (ok' := (fun k_ => k_ ≠ gb157)) (HO156.out) (fun k_ hk => hk.1.1))).2.1 (Kd.N_F (Kd.N_mono (ok' := (fun k_ => k_ ≠ gb157)) (HO156.out) (fun k_ hk => hk.1.1))))) (Reps.none _ _)))))
     intro v169 w34 ho35 hb hg_ hnew_
     clear hg_ hnew_
     (first | rw [← Ny168.out] at ho35 | (simp only [Int.reduceToNat] at ho35; rw [← Ny168.out] at ho35))
     have n0_ := Aside0.mk (Kd.N_lower ho35 (below_size (by repeat (first | (with_reducible first | exact HB.out | apply below_alloc | apply pw_below_drewN | apply below_drew1 | refine below_set ?_ GE157.out) | exact HB.out))))
     have n1_ := Aside0.mk (blk_below (g := gb157) (o := .cells #[.bool true, .string (⟨#[]⟩ : ByteArray), .slice Ao25 y154.length co25] 25 (0, 0)) (by (with_reducible repeat (first | refine blk_drewN ?_ _ | refine blk_drew ?_ | refine blk_alloc ?_ _)); exact BK157.out) hb)
     have n2_ := Aside0.mk (below_step (by repeat (first | (with_reducible first | exact HB.out | apply below_alloc | apply pw_below_drewN | apply below_drew1 | refine below_set ?_ GE157.out) | exact HB.out)) hb)
     clear BK157
     clear HB
     clear HO156
     clear HO162
     clear HO167
     have HO170 := n0_
     have BK157 := n1_
     have HB := n2_
     clear n0_ n1_ n2_
     clear hb ho35
     obtain ⟨Ao36, co36, eo36⟩ := Kd.N_slice HO170.out
     (first | subst eo36 | (injection eo36 with f1_ f2_ f3_; have f4_ := f1_.symm; have f5_ := f3_.symm; clear f1_ f2_ f3_; subst f4_; subst f5_))
     refine hK.out _ _ ⟨(blk_cell BK157.out 0).trans rfl, (blk_cell BK157.out 1).trans rfl, (blk_cell BK157.out 2).trans rfl⟩ (fun hHeld => ?_)
     clear hK K
     refine norm_ (a' := ?_) ?_ ?_
     rotate_left
     ·show Act.put _ (some 21) _ = _
      simp only [Act.put, List.setIfInBounds_toArray, List.set_cons_zero, List.set_cons_succ, i64_w, i32_w]
      rfl
     refine pure_ (i := 4) (N := some 22) (v := ?_) (a' := ?_) #[true, true, true, true, true, false, false] rfl rfl (by kernel_rfl) (fun _ _ _ h => h) (Or.inl ⟨by rfl, ?_⟩) ?_ ?_
     rotate_left
     ·intro w'
      go_simp
      with_reducible rfl
     rotate_left
     ·simp only [Act.put, List.setIfInBounds_toArray, List.set_cons_zero, List.set_cons_succ, i64_w, i32_w]
      rfl
     refine one_ (i := 5) (N := some 2) #[true, true, true, true, true, true, false] rfl rfl (by kernel_rfl) (by decide) (fun K hK => ?_)
     refine box_step ?hg (N := 2) ?hd (cs := #[.bool false, .string (⟨#[]⟩ : ByteArray), .slice none 0 0]) (t := 25) ?hr ?_; (case hd => rfl); (case hg => rfl); (case hr => first | (go_simp; done) | (go_simp; rfl))
     intro gb171 hg w37 hbox hb
     have n0_ := Aside0.mk (Kd.N_below (Kd.N_elderB (by (with_reducible repeat (first | apply Kd.N_alloc | apply Kd.N_drewN | apply Kd.N_drew)); exact HO170.out) gb171 (Nat.le_of_eq hg.symm)) hb)
     have n1_ := Aside0.mk (blk_below (g := gb157) (o := .cells #[.bool true, .string (⟨#[]⟩ : ByteArray), .slice Ao25 y154.length co25] 25 (0, 0)) (by (with_reducible repeat (first | refine blk_drewN ?_ _ | refine blk_drew ?_ | refine blk_alloc ?_ _)); exact BK157.out) hb)
     have n2_ := Aside0.mk (below_step (by repeat (first | (with_reducible first | exact HB.out | apply below_alloc | apply pw_below_drewN | apply below_drew1 | refine below_set ?_ GE157.out) | exact HB.out)) hb)
     have n3_ := Aside0.mk (hbox)
     have n4_ := Aside0.mk ((by rw [hg]; exact (below_size (by repeat (first | (with_reducible first | exact HB.out | apply below_alloc | apply pw_below_drewN | apply below_drew1 | refine below_set ?_ GE157.out) | exact HB.out))) : w.heap.size ≤ gb171))
     have n5_ := Aside0.mk ((by rw [hg]; exact (below_size (by repeat (first | (with_reducible first | exact HB.out | apply below_alloc | apply pw_below_drewN | apply below_drew1 | refine below_set ?_ GE157.out) | exact HB.out))) : w.heap.size ≤ gb171))
     have n6_ := Aside0.mk ((by rw [hg]; exact Nat.ne_of_lt (blk_lt (g := gb157) (o := .cells #[.bool true, .string (⟨#[]⟩ : ByteArray), .slice Ao25 y154.length co25] 25 (0, 0)) (by (with_reducible repeat (first | refine blk_drewN ?_ _ | refine blk_drew ?_ | refine blk_alloc ?_ _)); exact BK157.out)) : gb157 ≠ gb171))
     have n7_ := Aside0.mk ((by rw [hg]; exact Nat.ne_of_gt (blk_lt (g := gb157) (o := .cells #[.bool true, .string (⟨#[]⟩ : ByteArray), .slice Ao25 y154.length co25] 25 (0, 0)) (by (with_reducible repeat (first | refine blk_drewN ?_ _ | refine blk_drew ?_ | refine blk_alloc ?_ _)); exact BK157.out)) : gb171 ≠ gb157))
     clear HO170
     clear BK157
     clear HB
     have HO170 := n0_
     have BK157 := n1_
     have HB := n2_
     have BK171 := n3_
     have GW171 := n4_
     have GE171 := n5_
     have NB157_171 := n6_
     have NB171_157 := n7_
     clear n0_ n1_ n2_ n3_ n4_ n5_ n6_ n7_
     clear hb hbox hg
     refine hK.out _ _ ⟨(blk_cell BK157.out 0).trans rfl, (blk_cell BK157.out 1).trans rfl, (blk_cell BK157.out 2).trans rfl⟩ (fun hHeld => ?_)
     clear hK K
     refine norm_ (a' := ?_) ?_ ?_
     rotate_left
     ·show Act.put _ (some 2) _ = _
      simp only [Act.put, List.setIfInBounds_toArray, List.set_cons_zero, List.set_cons_succ, i64_w, i32_w]
      rfl
     exact norm_ (by simp only [putAll, Act.put, List.setIfInBounds_toArray, List.set_cons_zero, List.set_cons_succ]) (hCont (.slice Ao32 t160.length co32, .slice Ao33 t165.length co33, .slice Ao36 y168.length co36, gb171) _ ⟨hHeld, (by (with_reducible repeat (first | apply Kd.N_alloc | apply Kd.N_drewN | apply Kd.N_drew)); exact HO170.out), (by (with_reducible repeat (first | refine blk_drewN ?_ _ | refine blk_drew ?_ | refine blk_alloc ?_ _)); exact BK157.out), (by (with_reducible repeat (first | refine blk_drewN ?_ _ | refine blk_drew ?_ | refine blk_alloc ?_ _)); exact BK171.out), GW171.out, GE171.out, NB157_171.out, NB171_157.out, (by repeat (first | (with_reducible first | exact HB.out | apply below_alloc | apply pw_below_drewN | apply below_drew1 | refine below_set ?_ GE157.out | refine below_set ?_ GE171.out) | exact HB.out))⟩)
    ·skip
     refine box_step ?hg (N := 2) ?hd (cs := #[.bool false, .string (⟨#[]⟩ : ByteArray), .slice none 0 0]) (t := 25) ?hr ?_; (case hd => rfl); (case hg => rfl); (case hr => first | (go_simp; done) | (go_simp; rfl))
     intro gb171 hg w32 hbox hb
     have n0_ := Aside0.mk (Kd.N_below (Kd.N_elderB (by (with_reducible repeat (first | apply Kd.N_alloc | apply Kd.N_drewN | apply Kd.N_drew)); exact HO156.out) gb171 (Nat.le_of_eq hg.symm)) hb)
     have n1_ := Aside0.mk (Kd.N_below (Kd.N_elderB (by (with_reducible repeat (first | apply Kd.N_alloc | apply Kd.N_drewN | apply Kd.N_drew)); exact HO162.out) gb171 (Nat.le_of_eq hg.symm)) hb)
     have n2_ := Aside0.mk (Kd.N_below (Kd.N_elderB (by (with_reducible repeat (first | apply Kd.N_alloc | apply Kd.N_drewN | apply Kd.N_drew)); exact HO167.out) gb171 (Nat.le_of_eq hg.symm)) hb)
     have n3_ := Aside0.mk (blk_below (g := gb157) (o := .cells #[.bool true, .string (⟨#[]⟩ : ByteArray), .slice Ao25 y154.length co25] 25 (0, 0)) (by (with_reducible repeat (first | refine blk_drewN ?_ _ | refine blk_drew ?_ | refine blk_alloc ?_ _)); exact BK157.out) hb)
     have n4_ := Aside0.mk (below_step (by repeat (first | (with_reducible first | exact HB.out | apply below_alloc | apply pw_below_drewN | apply below_drew1 | refine below_set ?_ GE157.out) | exact HB.out)) hb)
     have n5_ := Aside0.mk (hbox)
     have n6_ := Aside0.mk ((by rw [hg]; exact (below_size (by repeat (first | (with_reducible first | exact HB.out | apply below_alloc | apply pw_below_drewN | apply below_drew1 | refine below_set ?_ GE157.out) | exact HB.out))) : w.heap.size ≤ gb171))
     have n7_ := Aside0.mk ((by rw [hg]; exact (below_size (by repeat (first | (with_reducible first | exact HB.out | apply below_alloc | apply pw_below_drewN | apply below_drew1 | refine below_set ?_ GE157.out) | exact HB.out))) : w.heap.size ≤ gb171))
     have n8_ := Aside0.mk ((by rw [hg]; exact Nat.ne_of_lt (blk_lt (g := gb157) (o := .cells #[.bool true, .string (⟨#[]⟩ : ByteArray), .slice Ao25 y154.length co25] 25 (0, 0)) (by (with_reducible repeat (first | refine blk_drewN ?_ _ | refine blk_drew ?_ | refine blk_alloc ?_ _)); exact BK157.out)) : gb157 ≠ gb171))
     have n9_ := Aside0.mk ((by rw [hg]; exact Nat.ne_of_gt (blk_lt (g := gb157) (o := .cells #[.bool true, .string (⟨#[]⟩ : ByteArray), .slice Ao25 y154.length co25] 25 (0, 0)) (by (with_reducible repeat (first | refine blk_drewN ?_ _ | refine blk_drew ?_ | refine blk_alloc ?_ _)); exact BK157.out)) : gb171 ≠ gb157))
     clear HO156
     clear HO162
     clear HO167
     clear BK157
     clear HB
     have HO156 := n0_
     have HO162 := n1_
     have HO167 := n2_
     have BK157 := n3_
     have HB := n4_
     have BK171 := n5_
     have GW171 := n6_
     have GE171 := n7_
     have NB157_171 := n8_
     have NB171_157 := n9_
     clear n0_ n1_ n2_ n3_ n4_ n5_ n6_ n7_ n8_ n9_
     clear hb hbox hg
     obtain ⟨Ao33, co33, eo33⟩ := Kd.N_slice HO162.out
     (first | subst eo33 | (injection eo33 with f1_ f2_ f3_; have f4_ := f1_.symm; have f5_ := f3_.symm; clear f1_ f2_ f3_; subst f4_; subst f5_))
     obtain ⟨Ao34, co34, eo34⟩ := Kd.N_slice HO167.out
     (first | subst eo34 | (injection eo34 with f1_ f2_ f3_; have f4_ := f1_.symm; have f5_ := f3_.symm; clear f1_ f2_ f3_; subst f4_; subst f5_))
     refine hK.out _ _ ⟨(blk_cell BK157.out 0).trans rfl, (blk_cell BK157.out 1).trans rfl, (blk_cell BK157.out 2).trans rfl⟩ (fun hHeld => ?_)
     clear hK K
     refine norm_ (a' := ?_) ?_ ?_
     rotate_left
     ·show Act.put _ (some 2) _ = _
      simp only [Act.put, List.setIfInBounds_toArray, List.set_cons_zero, List.set_cons_succ, i64_w, i32_w]
      rfl
     refine one_ (i := 3) (N := some 21) #[true, true, true, true, false, true, false] rfl rfl (by kernel_rfl) (by decide) (fun K hK => ?_)
     refine Kd.N_lit_step k25 _ 25 ?hg (N' := 21) ?hd (xs := ([(⟨t158, t159, t160⟩ : S25), (⟨t163, t164, t165⟩ : S25), (⟨true, (⟨#[]⟩ : ByteArray), y154⟩ : S25)] : List (S25))) (inner := [.bool t158, .string t159, .slice Ao33 t160.length co33, .bool t163, .string t164, .slice Ao34 t165.length co34, .bool true, .string (⟨#[]⟩ : ByteArray), .slice Ao25 y154.length co25]) (ok := (fun k_ => k_ ≠ gb157 ∧ k_ ≠ gb171)) (okp := (fun k_ => k_ ≠ gb157 ∧ k_ ≠ gb171)) ?hr ?hp (fun _ hk => hk) ((show ∀ k_, w32.heap.size ≤ k_ → (fun k_ => k_ ≠ gb157 ∧ k_ ≠ gb171) k_ from fun k_ hk => ⟨Kd.freshB (g := gb157) (o := .cells #[.bool true, .string (⟨#[]⟩ : ByteArray), .slice Ao25 y154.length co25] 25 (0, 0)) (by (with_reducible repeat (first | refine blk_drewN ?_ _ | refine blk_drew ?_ | refine blk_alloc ?_ _)); exact BK157.out) k_ hk, Kd.freshB (g := gb171) (o := .cells #[.bool false, .string (⟨#[]⟩ : ByteArray), .slice none 0 0] 25 (0, 0)) (by (with_reducible repeat (first | refine blk_drewN ?_ _ | refine blk_drew ?_ | refine blk_alloc ?_ _)); exact BK171.out) k_ hk⟩) _ (Nat.le_refl _)) (Below.refl _ _) (Nat.le_refl _) (by simp) ?_; (case hd => rfl); (case hg => rfl); (case hr => first | (go_simp; done) | (go_simp; rfl)); (case hp => exact (Reps.c3 (show Kd.FK k25 _ _ (⟨t158, t159, t160⟩ : S25) [.bool t158, .string t159, .slice Ao33 t160.length co33] from (k25_mkF _ _ (⟨t158, t159, t160⟩ : S25) (Kd.N_reads' (Kd.N_mono (ok' := (fun k_ => k_ ≠ gb157 ∧ k_ ≠ gb171)) (HO162.out) (fun k_ hk => ⟨hk.1.1.2, hk.2⟩))).2.1 (Kd.N_F (Kd.N_mono (ok' := (fun k_ => k_ ≠ gb157 ∧ k_ ≠ gb171)) (HO162.out) (fun k_ hk => ⟨hk.1.1.2, hk.2⟩))))) (Reps.c3 (show Kd.FK k25 _ _ (⟨t163, t164, t165⟩ : S25) [.bool t163, .string t164, .slice Ao34 t165.length co34] from (k25_mkF _ _ (⟨t163, t164, t165⟩ : S25) (Kd.N_reads' (Kd.N_mono (ok' := (fun k_ => k_ ≠ gb157 ∧ k_ ≠ gb171)) (HO167.out) (fun k_ hk => ⟨hk.1.2.2, hk.2⟩))).2.1 (Kd.N_F (Kd.N_mono (ok' := (fun k_ => k_ ≠ gb157 ∧ k_ ≠ gb171)) (HO167.out) (fun k_ hk => ⟨hk.1.2.2, hk.2⟩))))) (Reps.c3 (show Kd.FK k25 _ _ (⟨true, (⟨#[]⟩ : ByteArray), y154⟩ : S25) [.bool true, .string (⟨#[]⟩ : ByteArray), .slice Ao25 y154.length co25] from (k25_mkF _ _ (⟨true, (⟨#[]⟩ : ByteArray), y154⟩ : S25) (Kd.N_reads' (Kd.N_mono (ok' := (fun k_ => k_ ≠ gb157 ∧ k_ ≠ gb171)) (HO156.out) (fun k_ hk => ⟨hk.1.1.1, hk.2⟩))).2.1 (Kd.N_F (Kd.N_mono (ok' := (fun k_ => k_ ≠ gb157 ∧ k_ ≠ gb171)) (HO156.out) (fun k_ hk => ⟨hk.1.1.1, hk.2⟩))))) (Reps.none _ _)))))
     intro v169 w35 ho36 hb hg_ hnew_
     clear hg_ hnew_
     (first | rw [← Ny168.out] at ho36 | (simp only [Int.reduceToNat] at ho36; rw [← Ny168.out] at ho36))
     have n0_ := Aside0.mk (Kd.N_lower ho36 (below_size (by repeat (first | (with_reducible first | exact HB.out | apply below_alloc | apply pw_below_drewN | apply below_drew1 | refine below_set ?_ GE157.out | refine below_set ?_ GE171.out) | exact HB.out))))
     have n1_ := Aside0.mk (blk_below (g := gb157) (o := .cells #[.bool true, .string (⟨#[]⟩ : ByteArray), .slice Ao25 y154.length co25] 25 (0, 0)) (by (with_reducible repeat (first | refine blk_drewN ?_ _ | refine blk_drew ?_ | refine blk_alloc ?_ _)); exact BK157.out) hb)
     have n2_ := Aside0.mk (blk_below (g := gb171) (o := .cells #[.bool false, .string (⟨#[]⟩ : ByteArray), .slice none 0 0] 25 (0, 0)) (by (with_reducible repeat (first | refine blk_drewN ?_ _ | refine blk_drew ?_ | refine blk_alloc ?_ _)); exact BK171.out) hb)
     have n3_ := Aside0.mk (below_step (by repeat (first | (with_reducible first | exact HB.out | apply below_alloc | apply pw_below_drewN | apply below_drew1 | refine below_set ?_ GE157.out | refine below_set ?_ GE171.out) | exact HB.out)) hb)
     clear BK157
     clear BK171
     clear HB
     clear HO156
     clear HO162
     clear HO167
     have HO170 := n0_
     have BK157 := n1_
     have BK171 := n2_
     have HB := n3_
     clear n0_ n1_ n2_ n3_
     clear hb ho36
     obtain ⟨Ao37, co37, eo37⟩ := Kd.N_slice HO170.out
     (first | subst eo37 | (injection eo37 with f1_ f2_ f3_; have f4_ := f1_.symm; have f5_ := f3_.symm; clear f1_ f2_ f3_; subst f4_; subst f5_))
     refine hK.out _ _ ⟨(blk_cell BK157.out 0).trans rfl, (blk_cell BK157.out 1).trans rfl, (blk_cell BK157.out 2).trans rfl⟩ (fun hHeld => ?_)
     clear hK K
     refine norm_ (a' := ?_) ?_ ?_
     rotate_left
     ·show Act.put _ (some 21) _ = _
      simp only [Act.put, List.setIfInBounds_toArray, List.set_cons_zero, List.set_cons_succ, i64_w, i32_w]
      rfl
     refine pure_ (i := 4) (N := some 22) (v := ?_) (a' := ?_) #[true, true, true, true, true, true, false] rfl rfl (by kernel_rfl) (fun _ _ _ h => h) (Or.inl ⟨by rfl, ?_⟩) ?_ ?_
     rotate_left
     ·intro w'
      go_simp
      with_reducible rfl
     rotate_left
     ·simp only [Act.put, List.setIfInBounds_toArray, List.set_cons_zero, List.set_cons_succ, i64_w, i32_w]
      rfl
     exact norm_ (by simp only [putAll, Act.put, List.setIfInBounds_toArray, List.set_cons_zero, List.set_cons_succ]) (hCont (.slice Ao33 t160.length co33, .slice Ao34 t165.length co34, .slice Ao37 y168.length co37, gb171) _ ⟨hHeld, (by (with_reducible repeat (first | apply Kd.N_alloc | apply Kd.N_drewN | apply Kd.N_drew)); exact HO170.out), (by (with_reducible repeat (first | refine blk_drewN ?_ _ | refine blk_drew ?_ | refine blk_alloc ?_ _)); exact BK157.out), (by (with_reducible repeat (first | refine blk_drewN ?_ _ | refine blk_drew ?_ | refine blk_alloc ?_ _)); exact BK171.out), GW171.out, GE171.out, NB157_171.out, NB171_157.out, (by repeat (first | (with_reducible first | exact HB.out | apply below_alloc | apply pw_below_drewN | apply below_drew1 | refine below_set ?_ GE157.out | refine below_set ?_ GE171.out) | exact HB.out))⟩)
   ·skip
    refine box_step ?hg (N := 2) ?hd (cs := #[.bool false, .string (⟨#[]⟩ : ByteArray), .slice none 0 0]) (t := 25) ?hr ?_; (case hd => rfl); (case hg => rfl); (case hr => first | (go_simp; done) | (go_simp; rfl))
    intro gb171 hg w31 hbox hb
    have n0_ := Aside0.mk (Kd.N_below (Kd.N_elderB (by (with_reducible repeat (first | apply Kd.N_alloc | apply Kd.N_drewN | apply Kd.N_drew)); exact HO156.out) gb171 (Nat.le_of_eq hg.symm)) hb)
    have n1_ := Aside0.mk (Kd.N_below (Kd.N_elderB (by (with_reducible repeat (first | apply Kd.N_alloc | apply Kd.N_drewN | apply Kd.N_drew)); exact HO162.out) gb171 (Nat.le_of_eq hg.symm)) hb)
    have n2_ := Aside0.mk (blk_below (g := gb157) (o := .cells #[.bool true, .string (⟨#[]⟩ : ByteArray), .slice Ao25 y154.length co25] 25 (0, 0)) (by (with_reducible repeat (first | refine blk_drewN ?_ _ | refine blk_drew ?_ | refine blk_alloc ?_ _)); exact BK157.out) hb)
    have n3_ := Aside0.mk (below_step (by repeat (first | (with_reducible first | exact HB.out | apply below_alloc | apply pw_below_drewN | apply below_drew1 | refine below_set ?_ GE157.out) | exact HB.out)) hb)
    have n4_ := Aside0.mk (hbox)
    have n5_ := Aside0.mk ((by rw [hg]; exact (below_size (by repeat (first | (with_reducible first | exact HB.out | apply below_alloc | apply pw_below_drewN | apply below_drew1 | refine below_set ?_ GE157.out) | exact HB.out))) : w.heap.size ≤ gb171))
    have n6_ := Aside0.mk ((by rw [hg]; exact (below_size (by repeat (first | (with_reducible first | exact HB.out | apply below_alloc | apply pw_below_drewN | apply below_drew1 | refine below_set ?_ GE157.out) | exact HB.out))) : w.heap.size ≤ gb171))
    have n7_ := Aside0.mk ((by rw [hg]; exact Nat.ne_of_lt (blk_lt (g := gb157) (o := .cells #[.bool true, .string (⟨#[]⟩ : ByteArray), .slice Ao25 y154.length co25] 25 (0, 0)) (by (with_reducible repeat (first | refine blk_drewN ?_ _ | refine blk_drew ?_ | refine blk_alloc ?_ _)); exact BK157.out)) : gb157 ≠ gb171))
    have n8_ := Aside0.mk ((by rw [hg]; exact Nat.ne_of_gt (blk_lt (g := gb157) (o := .cells #[.bool true, .string (⟨#[]⟩ : ByteArray), .slice Ao25 y154.length co25] 25 (0, 0)) (by (with_reducible repeat (first | refine blk_drewN ?_ _ | refine blk_drew ?_ | refine blk_alloc ?_ _)); exact BK157.out)) : gb171 ≠ gb157))
    clear HO156
    clear HO162
    clear BK157
    clear HB
    have HO156 := n0_
    have HO162 := n1_
    have BK157 := n2_
    have HB := n3_
    have BK171 := n4_
    have GW171 := n5_
    have GE171 := n6_
    have NB157_171 := n7_
    have NB171_157 := n8_
    clear n0_ n1_ n2_ n3_ n4_ n5_ n6_ n7_ n8_
    clear hb hbox hg
    refine hK.out _ _ ⟨(blk_cell BK157.out 0).trans rfl, (blk_cell BK157.out 1).trans rfl, (blk_cell BK157.out 2).trans rfl⟩ (fun hHeld => ?_)
    clear hK K
    refine norm_ (a' := ?_) ?_ ?_
    rotate_left
    ·show Act.put _ (some 2) _ = _
     simp only [Act.put, List.setIfInBounds_toArray, List.set_cons_zero, List.set_cons_succ, i64_w, i32_w]
     rfl
    refine one_ (i := 1) (N := some 19) #[true, true, true, false, false, true, false] rfl rfl (by kernel_rfl) (by decide) (fun K hK => ?_)
    refine goes_ Tryd.func19 (by kernel_rfl) rfl #[.string (⟨#[40]⟩ : ByteArray)] (by rfl) rfl rfl (by (try simp only [List.map_toArray, List.map_cons, List.map_nil]); first | done | rfl | (simp only [List.length_drop, List.length_take]; rfl)) ?_
    with_reducible refine (garmentlaw06_leaf.calls (⟨#[40]⟩ : ByteArray) t163 t164 t165 _ A3.out).mono ?_
    rintro e w32 ⟨v166, rfl, ho0, hb⟩
    refine ⟨_, rfl, ?_⟩
    have n0_ := Aside0.mk (Kd.N_elder' (by (with_reducible repeat (first | apply Kd.N_alloc | apply Kd.N_drewN | apply Kd.N_drew)); exact HO156.out) (by first | exact Kd.N_base ho0 | exact Kd.R_base ho0) hb)
    have n1_ := Aside0.mk (Kd.N_elder' (by (with_reducible repeat (first | apply Kd.N_alloc | apply Kd.N_drewN | apply Kd.N_drew)); exact HO162.out) (by first | exact Kd.N_base ho0 | exact Kd.R_base ho0) hb)
    have n2_ := Aside0.mk (Kd.N_lower (Kd.N_mono (ok' := fun k_ => some k_ ≠ (.slice Ao25 y154.length co25 : Value).ownBlock ∧ some k_ ≠ (v161 : Value).ownBlock ∧ k_ ≠ gb157 ∧ k_ ≠ gb171) (Kd.R_N (Kd.R_bound ho0)) (fun k_ hk_ => ⟨(Kd.fresh' (Kd.N_lt (by (with_reducible repeat (first | apply Kd.N_alloc | apply Kd.N_drewN | apply Kd.N_drew)); exact HO156.out)) k_ hk_.2.1), (Kd.fresh' (Kd.N_lt (by (with_reducible repeat (first | apply Kd.N_alloc | apply Kd.N_drewN | apply Kd.N_drew)); exact HO162.out)) k_ hk_.2.1), (Kd.freshB (g := gb157) (o := .cells #[.bool true, .string (⟨#[]⟩ : ByteArray), .slice Ao25 y154.length co25] 25 (0, 0)) (by (with_reducible repeat (first | refine blk_drewN ?_ _ | refine blk_drew ?_ | refine blk_alloc ?_ _)); exact BK157.out) k_ hk_.2.1), (Kd.freshB (g := gb171) (o := .cells #[.bool false, .string (⟨#[]⟩ : ByteArray), .slice none 0 0] 25 (0, 0)) (by (with_reducible repeat (first | refine blk_drewN ?_ _ | refine blk_drew ?_ | refine blk_alloc ?_ _)); exact BK171.out) k_ hk_.2.1)⟩)) (below_size (by repeat (first | (with_reducible first | exact HB.out | apply below_alloc | apply pw_below_drewN | apply below_drew1 | refine below_set ?_ GE157.out | refine below_set ?_ GE171.out) | exact HB.out))))
    have n3_ := Aside0.mk (blk_below (g := gb157) (o := .cells #[.bool true, .string (⟨#[]⟩ : ByteArray), .slice Ao25 y154.length co25] 25 (0, 0)) (by (with_reducible repeat (first | refine blk_drewN ?_ _ | refine blk_drew ?_ | refine blk_alloc ?_ _)); exact BK157.out) hb)
    have n4_ := Aside0.mk (blk_below (g := gb171) (o := .cells #[.bool false, .string (⟨#[]⟩ : ByteArray), .slice none 0 0] 25 (0, 0)) (by (with_reducible repeat (first | refine blk_drewN ?_ _ | refine blk_drew ?_ | refine blk_alloc ?_ _)); exact BK171.out) hb)
    have n5_ := Aside0.mk (below_step (by repeat (first | (with_reducible first | exact HB.out | apply below_alloc | apply pw_below_drewN | apply below_drew1 | refine below_set ?_ GE157.out | refine below_set ?_ GE171.out) | exact HB.out)) hb)
    clear HO156
    clear HO162
    clear BK157
    clear BK171
    clear HB
    have HO156 := n0_
    have HO162 := n1_
    have HO167 := n2_
    have BK157 := n3_
    have BK171 := n4_
    have HB := n5_
    clear n0_ n1_ n2_ n3_ n4_ n5_
    (try clear hb)
    (try clear hb2)
    (try clear hk)
    (try clear hi)
    (try clear ho0)
    obtain ⟨Ao33, co33, eo33⟩ := Kd.N_slice HO162.out
    (first | subst eo33 | (injection eo33 with f1_ f2_ f3_; have f4_ := f1_.symm; have f5_ := f3_.symm; clear f1_ f2_ f3_; subst f4_; subst f5_))
    obtain ⟨Ao34, co34, eo34⟩ := Kd.N_slice HO167.out
    (first | subst eo34 | (injection eo34 with f1_ f2_ f3_; have f4_ := f1_.symm; have f5_ := f3_.symm; clear f1_ f2_ f3_; subst f4_; subst f5_))
    refine hK.out _ _ ⟨(blk_cell BK157.out 0).trans rfl, (blk_cell BK157.out 1).trans rfl, (blk_cell BK157.out 2).trans rfl⟩ (fun hHeld => ?_)
    clear hK K
    refine norm_ (a' := ?_) ?_ ?_
    rotate_left
    ·show Act.put _ (some 19) _ = _
     simp only [Act.put, List.setIfInBounds_toArray, List.set_cons_zero, List.set_cons_succ, i64_w, i32_w]
     rfl
    refine one_ (i := 3) (N := some 21) #[true, true, true, true, false, true, false] rfl rfl (by kernel_rfl) (by decide) (fun K hK => ?_)
    refine Kd.N_lit_step k25 _ 25 ?hg (N' := 21) ?hd (xs := ([(⟨t158, t159, t160⟩ : S25), (⟨t163, t164, t165⟩ : S25), (⟨true, (⟨#[]⟩ : ByteArray), y154⟩ : S25)] : List (S25))) (inner := [.bool t158, .string t159, .slice Ao33 t160.length co33, .bool t163, .string t164, .slice Ao34 t165.length co34, .bool true, .string (⟨#[]⟩ : ByteArray), .slice Ao25 y154.length co25]) (ok := (fun k_ => k_ ≠ gb157 ∧ k_ ≠ gb171)) (okp := (fun k_ => k_ ≠ gb157 ∧ k_ ≠ gb171)) ?hr ?hp (fun _ hk => hk) ((show ∀ k_, w32.heap.size ≤ k_ → (fun k_ => k_ ≠ gb157 ∧ k_ ≠ gb171) k_ from fun k_ hk => ⟨Kd.freshB (g := gb157) (o := .cells #[.bool true, .string (⟨#[]⟩ : ByteArray), .slice Ao25 y154.length co25] 25 (0, 0)) (by (with_reducible repeat (first | refine blk_drewN ?_ _ | refine blk_drew ?_ | refine blk_alloc ?_ _)); exact BK157.out) k_ hk, Kd.freshB (g := gb171) (o := .cells #[.bool false, .string (⟨#[]⟩ : ByteArray), .slice none 0 0] 25 (0, 0)) (by (with_reducible repeat (first | refine blk_drewN ?_ _ | refine blk_drew ?_ | refine blk_alloc ?_ _)); exact BK171.out) k_ hk⟩) _ (Nat.le_refl _)) (Below.refl _ _) (Nat.le_refl _) (by simp) ?_; (case hd => rfl); (case hg => rfl); (case hr => first | (go_simp; done) | (go_simp; rfl)); (case hp => exact (Reps.c3 (show Kd.FK k25 _ _ (⟨t158, t159, t160⟩ : S25) [.bool t158, .string t159, .slice Ao33 t160.length co33] from (k25_mkF _ _ (⟨t158, t159, t160⟩ : S25) (Kd.N_reads' (Kd.N_mono (ok' := (fun k_ => k_ ≠ gb157 ∧ k_ ≠ gb171)) (HO162.out) (fun k_ hk => ⟨hk.1.1.2, hk.1.2⟩))).2.1 (Kd.N_F (Kd.N_mono (ok' := (fun k_ => k_ ≠ gb157 ∧ k_ ≠ gb171)) (HO162.out) (fun k_ hk => ⟨hk.1.1.2, hk.1.2⟩))))) (Reps.c3 (show Kd.FK k25 _ _ (⟨t163, t164, t165⟩ : S25) [.bool t163, .string t164, .slice Ao34 t165.length co34] from (k25_mkF _ _ (⟨t163, t164, t165⟩ : S25) (Kd.N_reads' (Kd.N_mono (ok' := (fun k_ => k_ ≠ gb157 ∧ k_ ≠ gb171)) (HO167.out) (fun k_ hk => ⟨hk.2.2.1, hk.2.2.2⟩))).2.1 (Kd.N_F (Kd.N_mono (ok' := (fun k_ => k_ ≠ gb157 ∧ k_ ≠ gb171)) (HO167.out) (fun k_ hk => ⟨hk.2.2.1, hk.2.2.2⟩))))) (Reps.c3 (show Kd.FK k25 _ _ (⟨true, (⟨#[]⟩ : ByteArray), y154⟩ : S25) [.bool true, .string (⟨#[]⟩ : ByteArray), .slice Ao25 y154.length co25] from (k25_mkF _ _ (⟨true, (⟨#[]⟩ : ByteArray), y154⟩ : S25) (Kd.N_reads' (Kd.N_mono (ok' := (fun k_ => k_ ≠ gb157 ∧ k_ ≠ gb171)) (HO156.out) (fun k_ hk => ⟨hk.1.1.1, hk.1.2⟩))).2.1 (Kd.N_F (Kd.N_mono (ok' := (fun k_ => k_ ≠ gb157 ∧ k_ ≠ gb171)) (HO156.out) (fun k_ hk => ⟨hk.1.1.1, hk.1.2⟩))))) (Reps.none _ _)))))
    intro v169 w35 ho36 hb hg_ hnew_
    clear hg_ hnew_
    (first | rw [← Ny168.out] at ho36 | (simp only [Int.reduceToNat] at ho36; rw [← Ny168.out] at ho36))
    have n0_ := Aside0.mk (Kd.N_lower ho36 (below_size (by repeat (first | (with_reducible first | exact HB.out | apply below_alloc | apply pw_below_drewN | apply below_drew1 | refine below_set ?_ GE157.out | refine below_set ?_ GE171.out) | exact HB.out))))
    have n1_ := Aside0.mk (blk_below (g := gb157) (o := .cells #[.bool true, .string (⟨#[]⟩ : ByteArray), .slice Ao25 y154.length co25] 25 (0, 0)) (by (with_reducible repeat (first | refine blk_drewN ?_ _ | refine blk_drew ?_ | refine blk_alloc ?_ _)); exact BK157.out) hb)
    have n2_ := Aside0.mk (blk_below (g := gb171) (o := .cells #[.bool false, .string (⟨#[]⟩ : ByteArray), .slice none 0 0] 25 (0, 0)) (by (with_reducible repeat (first | refine blk_drewN ?_ _ | refine blk_drew ?_ | refine blk_alloc ?_ _)); exact BK171.out) hb)
    have n3_ := Aside0.mk (below_step (by repeat (first | (with_reducible first | exact HB.out | apply below_alloc | apply pw_below_drewN | apply below_drew1 | refine below_set ?_ GE157.out | refine below_set ?_ GE171.out) | exact HB.out)) hb)
    clear BK157
    clear BK171
    clear HB
    clear HO156
    clear HO162
    clear HO167
    have HO170 := n0_
    have BK157 := n1_
    have BK171 := n2_
    have HB := n3_
    clear n0_ n1_ n2_ n3_
    clear hb ho36
    obtain ⟨Ao37, co37, eo37⟩ := Kd.N_slice HO170.out
    (first | subst eo37 | (injection eo37 with f1_ f2_ f3_; have f4_ := f1_.symm; have f5_ := f3_.symm; clear f1_ f2_ f3_; subst f4_; subst f5_))
    refine hK.out _ _ ⟨(blk_cell BK157.out 0).trans rfl, (blk_cell BK157.out 1).trans rfl, (blk_cell BK157.out 2).trans rfl⟩ (fun hHeld => ?_)
    clear hK K
    refine norm_ (a' := ?_) ?_ ?_
    rotate_left
    ·show Act.put _ (some 21) _ = _
     simp only [Act.put, List.setIfInBounds_toArray, List.set_cons_zero, List.set_cons_succ, i64_w, i32_w]
     rfl
    refine pure_ (i := 4) (N := some 22) (v := ?_) (a' := ?_) #[true, true, true, true, true, true, false] rfl rfl (by kernel_rfl) (fun _ _ _ h => h) (Or.inl ⟨by rfl, ?_⟩) ?_ ?_
    rotate_left
    ·intro w'
     go_simp
     with_reducible rfl
    rotate_left
    ·simp only [Act.put, List.setIfInBounds_toArray, List.set_cons_zero, List.set_cons_succ, i64_w, i32_w]
     rfl
    exact norm_ (by simp only [putAll, Act.put, List.setIfInBounds_toArray, List.set_cons_zero, List.set_cons_succ]) (hCont (.slice Ao33 t160.length co33, .slice Ao34 t165.length co34, .slice Ao37 y168.length co37, gb171) _ ⟨hHeld, (by (with_reducible repeat (first | apply Kd.N_alloc | apply Kd.N_drewN | apply Kd.N_drew)); exact HO170.out), (by (with_reducible repeat (first | refine blk_drewN ?_ _ | refine blk_drew ?_ | refine blk_alloc ?_ _)); exact BK157.out), (by (with_reducible repeat (first | refine blk_drewN ?_ _ | refine blk_drew ?_ | refine blk_alloc ?_ _)); exact BK171.out), GW171.out, GE171.out, NB157_171.out, NB171_157.out, (by repeat (first | (with_reducible first | exact HB.out | apply below_alloc | apply pw_below_drewN | apply below_drew1 | refine below_set ?_ GE157.out | refine below_set ?_ GE171.out) | exact HB.out))⟩)
  ·skip
   refine box_step ?hg (N := 2) ?hd (cs := #[.bool false, .string (⟨#[]⟩ : ByteArray), .slice none 0 0]) (t := 25) ?hr ?_; (case hd => rfl); (case hg => rfl); (case hr => first | (go_simp; done) | (go_simp; rfl))
   intro gb171 hg w30 hbox hb
   have n0_ := Aside0.mk (Kd.N_below (Kd.N_elderB (by (with_reducible repeat (first | apply Kd.N_alloc | apply Kd.N_drewN | apply Kd.N_drew)); exact HO156.out) gb171 (Nat.le_of_eq hg.symm)) hb)
   have n1_ := Aside0.mk (blk_below (g := gb157) (o := .cells #[.bool true, .string (⟨#[]⟩ : ByteArray), .slice Ao25 y154.length co25] 25 (0, 0)) (by (with_reducible repeat (first | refine blk_drewN ?_ _ | refine blk_drew ?_ | refine blk_alloc ?_ _)); exact BK157.out) hb)
   have n2_ := Aside0.mk (below_step (by repeat (first | (with_reducible first | exact HB.out | apply below_alloc | apply pw_below_drewN | apply below_drew1 | refine below_set ?_ GE157.out) | exact HB.out)) hb)
   have n3_ := Aside0.mk (hbox)
   have n4_ := Aside0.mk ((by rw [hg]; exact (below_size (by repeat (first | (with_reducible first | exact HB.out | apply below_alloc | apply pw_below_drewN | apply below_drew1 | refine below_set ?_ GE157.out) | exact HB.out))) : w.heap.size ≤ gb171))
   have n5_ := Aside0.mk ((by rw [hg]; exact (below_size (by repeat (first | (with_reducible first | exact HB.out | apply below_alloc | apply pw_below_drewN | apply below_drew1 | refine below_set ?_ GE157.out) | exact HB.out))) : w.heap.size ≤ gb171))
   have n6_ := Aside0.mk ((by rw [hg]; exact Nat.ne_of_lt (blk_lt (g := gb157) (o := .cells #[.bool true, .string (⟨#[]⟩ : ByteArray), .slice Ao25 y154.length co25] 25 (0, 0)) (by (with_reducible repeat (first | refine blk_drewN ?_ _ | refine blk_drew ?_ | refine blk_alloc ?_ _)); exact BK157.out)) : gb157 ≠ gb171))
   have n7_ := Aside0.mk ((by rw [hg]; exact Nat.ne_of_gt (blk_lt (g := gb157) (o := .cells #[.bool true, .string (⟨#[]⟩ : ByteArray), .slice Ao25 y154.length co25] 25 (0, 0)) (by (with_reducible repeat (first | refine blk_drewN ?_ _ | refine blk_drew ?_ | refine blk_alloc ?_ _)); exact BK157.out)) : gb171 ≠ gb157))
   clear HO156
   clear BK157
   clear HB
   have HO156 := n0_
   have BK157 := n1_
   have HB := n2_
   have BK171 := n3_
   have GW171 := n4_
   have GE171 := n5_
   have NB157_171 := n6_
   have NB171_157 := n7_
   clear n0_ n1_ n2_ n3_ n4_ n5_ n6_ n7_
   clear hb hbox hg
   refine hK.out _ _ ⟨(blk_cell BK157.out 0).trans rfl, (blk_cell BK157.out 1).trans rfl, (blk_cell BK157.out 2).trans rfl⟩ (fun hHeld => ?_)
   clear hK K
   refine norm_ (a' := ?_) ?_ ?_
   rotate_left
   ·show Act.put _ (some 2) _ = _
    simp only [Act.put, List.setIfInBounds_toArray, List.set_cons_zero, List.set_cons_succ, i64_w, i32_w]
    rfl
   refine one_ (i := 0) (N := some 18) #[true, false, true, false, false, true, false] rfl rfl (by kernel_rfl) (by decide) (fun K hK => ?_)
   refine goes_ Tryd.func19 (by kernel_rfl) rfl #[.string (⟨#[97]⟩ : ByteArray)] (by rfl) rfl rfl (by (try simp only [List.map_toArray, List.map_cons, List.map_nil]); first | done | rfl | (simp only [List.length_drop, List.length_take]; rfl)) ?_
   with_reducible refine (garmentlaw06_leaf.calls (⟨#[97]⟩ : ByteArray) t158 t159 t160 _ A2.out).mono ?_
   rintro e w31 ⟨v161, rfl, ho0, hb⟩
   refine ⟨_, rfl, ?_⟩
   have n0_ := Aside0.mk (Kd.N_elder' (by (with_reducible repeat (first | apply Kd.N_alloc | apply Kd.N_drewN | apply Kd.N_drew)); exact HO156.out) (by first | exact Kd.N_base ho0 | exact Kd.R_base ho0) hb)
   have n1_ := Aside0.mk (Kd.N_lower (Kd.N_mono (ok' := fun k_ => some k_ ≠ (.slice Ao25 y154.length co25 : Value).ownBlock ∧ k_ ≠ gb157 ∧ k_ ≠ gb171) (Kd.R_N (Kd.R_bound ho0)) (fun k_ hk_ => ⟨(Kd.fresh' (Kd.N_lt (by (with_reducible repeat (first | apply Kd.N_alloc | apply Kd.N_drewN | apply Kd.N_drew)); exact HO156.out)) k_ hk_.2.1), (Kd.freshB (g := gb157) (o := .cells #[.bool true, .string (⟨#[]⟩ : ByteArray), .slice Ao25 y154.length co25] 25 (0, 0)) (by (with_reducible repeat (first | refine blk_drewN ?_ _ | refine blk_drew ?_ | refine blk_alloc ?_ _)); exact BK157.out) k_ hk_.2.1), (Kd.freshB (g := gb171) (o := .cells #[.bool false, .string (⟨#[]⟩ : ByteArray), .slice none 0 0] 25 (0, 0)) (by (with_reducible repeat (first | refine blk_drewN ?_ _ | refine blk_drew ?_ | refine blk_alloc ?_ _)); exact BK171.out) k_ hk_.2.1)⟩)) (below_size (by repeat (first | (with_reducible first | exact HB.out | apply below_alloc | apply pw_below_drewN | apply below_drew1 | refine below_set ?_ GE157.out | refine below_set ?_ GE171.out) | exact HB.out))))
   have n2_ := Aside0.mk (blk_below (g := gb157) (o := .cells #[.bool true, .string (⟨#[]⟩ : ByteArray), .slice Ao25 y154.length co25] 25 (0, 0)) (by (with_reducible repeat (first | refine blk_drewN ?_ _ | refine blk_drew ?_ | refine blk_alloc ?_ _)); exact BK157.out) hb)
   have n3_ := Aside0.mk (blk_below (g := gb171) (o := .cells #[.bool false, .string (⟨#[]⟩ : ByteArray), .slice none 0 0] 25 (0, 0)) (by (with_reducible repeat (first | refine blk_drewN ?_ _ | refine blk_drew ?_ | refine blk_alloc ?_ _)); exact BK171.out) hb)
   have n4_ := Aside0.mk (below_step (by repeat (first | (with_reducible first | exact HB.out | apply below_alloc | apply pw_below_drewN | apply below_drew1 | refine below_set ?_ GE157.out | refine below_set ?_ GE171.out) | exact HB.out)) hb)
   clear HO156
   clear BK157
   clear BK171
   clear HB
   have HO156 := n0_
   have HO162 := n1_
   have BK157 := n2_
   have BK171 := n3_
   have HB := n4_
   clear n0_ n1_ n2_ n3_ n4_
   (try clear hb)
   (try clear hb2)
   (try clear hk)
   (try clear hi)
   (try clear ho0)
   refine hK.out _ _ ⟨(blk_cell BK157.out 0).trans rfl, (blk_cell BK157.out 1).trans rfl, (blk_cell BK157.out 2).trans rfl⟩ (fun hHeld => ?_)
   clear hK K
   refine norm_ (a' := ?_) ?_ ?_
   rotate_left
   ·show Act.put _ (some 18) _ = _
    simp only [Act.put, List.setIfInBounds_toArray, List.set_cons_zero, List.set_cons_succ, i64_w, i32_w]
    rfl
   refine one_ (i := 1) (N := some 19) #[true, true, true, false, false, true, false] rfl rfl (by kernel_rfl) (by decide) (fun K hK => ?_)
   refine goes_ Tryd.func19 (by kernel_rfl) rfl #[.string (⟨#[40]⟩ : ByteArray)] (by rfl) rfl rfl (by (try simp only [List.map_toArray, List.map_cons, List.map_nil]); first | done | rfl | (simp only [List.length_drop, List.length_take]; rfl)) ?_
   with_reducible refine (garmentlaw06_leaf.calls (⟨#[40]⟩ : ByteArray) t163 t164 t165 _ A3.out).mono ?_
   rintro e w32 ⟨v166, rfl, ho0, hb⟩
   refine ⟨_, rfl, ?_⟩
   have n0_ := Aside0.mk (Kd.N_elder' (by (with_reducible repeat (first | apply Kd.N_alloc | apply Kd.N_drewN | apply Kd.N_drew)); exact HO156.out) (by first | exact Kd.N_base ho0 | exact Kd.R_base ho0) hb)
   have n1_ := Aside0.mk (Kd.N_elder' (by (with_reducible repeat (first | apply Kd.N_alloc | apply Kd.N_drewN | apply Kd.N_drew)); exact HO162.out) (by first | exact Kd.N_base ho0 | exact Kd.R_base ho0) hb)
   have n2_ := Aside0.mk (Kd.N_lower (Kd.N_mono (ok' := fun k_ => some k_ ≠ (.slice Ao25 y154.length co25 : Value).ownBlock ∧ some k_ ≠ (v161 : Value).ownBlock ∧ k_ ≠ gb157 ∧ k_ ≠ gb171) (Kd.R_N (Kd.R_bound ho0)) (fun k_ hk_ => ⟨(Kd.fresh' (Kd.N_lt (by (with_reducible repeat (first | apply Kd.N_alloc | apply Kd.N_drewN | apply Kd.N_drew)); exact HO156.out)) k_ hk_.2.1), (Kd.fresh' (Kd.N_lt (by (with_reducible repeat (first | apply Kd.N_alloc | apply Kd.N_drewN | apply Kd.N_drew)); exact HO162.out)) k_ hk_.2.1), (Kd.freshB (g := gb157) (o := .cells #[.bool true, .string (⟨#[]⟩ : ByteArray), .slice Ao25 y154.length co25] 25 (0, 0)) (by (with_reducible repeat (first | refine blk_drewN ?_ _ | refine blk_drew ?_ | refine blk_alloc ?_ _)); exact BK157.out) k_ hk_.2.1), (Kd.freshB (g := gb171) (o := .cells #[.bool false, .string (⟨#[]⟩ : ByteArray), .slice none 0 0] 25 (0, 0)) (by (with_reducible repeat (first | refine blk_drewN ?_ _ | refine blk_drew ?_ | refine blk_alloc ?_ _)); exact BK171.out) k_ hk_.2.1)⟩)) (below_size (by repeat (first | (with_reducible first | exact HB.out | apply below_alloc | apply pw_below_drewN | apply below_drew1 | refine below_set ?_ GE157.out | refine below_set ?_ GE171.out) | exact HB.out))))
   have n3_ := Aside0.mk (blk_below (g := gb157) (o := .cells #[.bool true, .string (⟨#[]⟩ : ByteArray), .slice Ao25 y154.length co25] 25 (0, 0)) (by (with_reducible repeat (first | refine blk_drewN ?_ _ | refine blk_drew ?_ | refine blk_alloc ?_ _)); exact BK157.out) hb)
   have n4_ := Aside0.mk (blk_below (g := gb171) (o := .cells #[.bool false, .string (⟨#[]⟩ : ByteArray), .slice none 0 0] 25 (0, 0)) (by (with_reducible repeat (first | refine blk_drewN ?_ _ | refine blk_drew ?_ | refine blk_alloc ?_ _)); exact BK171.out) hb)
   have n5_ := Aside0.mk (below_step (by repeat (first | (with_reducible first | exact HB.out | apply below_alloc | apply pw_below_drewN | apply below_drew1 | refine below_set ?_ GE157.out | refine below_set ?_ GE171.out) | exact HB.out)) hb)
   clear HO156
   clear HO162
   clear BK157
   clear BK171
   clear HB
   have HO156 := n0_
   have HO162 := n1_
   have HO167 := n2_
   have BK157 := n3_
   have BK171 := n4_
   have HB := n5_
   clear n0_ n1_ n2_ n3_ n4_ n5_
   (try clear hb)
   (try clear hb2)
   (try clear hk)
   (try clear hi)
   (try clear ho0)
   obtain ⟨Ao33, co33, eo33⟩ := Kd.N_slice HO162.out
   (first | subst eo33 | (injection eo33 with f1_ f2_ f3_; have f4_ := f1_.symm; have f5_ := f3_.symm; clear f1_ f2_ f3_; subst f4_; subst f5_))
   obtain ⟨Ao34, co34, eo34⟩ := Kd.N_slice HO167.out
   (first | subst eo34 | (injection eo34 with f1_ f2_ f3_; have f4_ := f1_.symm; have f5_ := f3_.symm; clear f1_ f2_ f3_; subst f4_; subst f5_))
   refine hK.out _ _ ⟨(blk_cell BK157.out 0).trans rfl, (blk_cell BK157.out 1).trans rfl, (blk_cell BK157.out 2).trans rfl⟩ (fun hHeld => ?_)
   clear hK K
   refine norm_ (a' := ?_) ?_ ?_
   rotate_left
   ·show Act.put _ (some 19) _ = _
    simp only [Act.put, List.setIfInBounds_toArray, List.set_cons_zero, List.set_cons_succ, i64_w, i32_w]
    rfl
   refine one_ (i := 3) (N := some 21) #[true, true, true, true, false, true, false] rfl rfl (by kernel_rfl) (by decide) (fun K hK => ?_)
   refine Kd.N_lit_step k25 _ 25 ?hg (N' := 21) ?hd (xs := ([(⟨t158, t159, t160⟩ : S25), (⟨t163, t164, t165⟩ : S25), (⟨true, (⟨#[]⟩ : ByteArray), y154⟩ : S25)] : List (S25))) (inner := [.bool t158, .string t159, .slice Ao33 t160.length co33, .bool t163, .string t164, .slice Ao34 t165.length co34, .bool true, .string (⟨#[]⟩ : ByteArray), .slice Ao25 y154.length co25]) (ok := (fun k_ => k_ ≠ gb157 ∧ k_ ≠ gb171)) (okp := (fun k_ => k_ ≠ gb157 ∧ k_ ≠ gb171)) ?hr ?hp (fun _ hk => hk) ((show ∀ k_, w32.heap.size ≤ k_ → (fun k_ => k_ ≠ gb157 ∧ k_ ≠ gb171) k_ from fun k_ hk => ⟨Kd.freshB (g := gb157) (o := .cells #[.bool true, .string (⟨#[]⟩ : ByteArray), .slice Ao25 y154.length co25] 25 (0, 0)) (by (with_reducible repeat (first | refine blk_drewN ?_ _ | refine blk_drew ?_ | refine blk_alloc ?_ _)); exact BK157.out) k_ hk, Kd.freshB (g := gb171) (o := .cells #[.bool false, .string (⟨#[]⟩ : ByteArray), .slice none 0 0] 25 (0, 0)) (by (with_reducible repeat (first | refine blk_drewN ?_ _ | refine blk_drew ?_ | refine blk_alloc ?_ _)); exact BK171.out) k_ hk⟩) _ (Nat.le_refl _)) (Below.refl _ _) (Nat.le_refl _) (by simp) ?_; (case hd => rfl); (case hg => rfl); (case hr => first | (go_simp; done) | (go_simp; rfl)); (case hp => exact (Reps.c3 (show Kd.FK k25 _ _ (⟨t158, t159, t160⟩ : S25) [.bool t158, .string t159, .slice Ao33 t160.length co33] from (k25_mkF _ _ (⟨t158, t159, t160⟩ : S25) (Kd.N_reads' (Kd.N_mono (ok' := (fun k_ => k_ ≠ gb157 ∧ k_ ≠ gb171)) (HO162.out) (fun k_ hk => ⟨hk.1.2.1, hk.1.2.2⟩))).2.1 (Kd.N_F (Kd.N_mono (ok' := (fun k_ => k_ ≠ gb157 ∧ k_ ≠ gb171)) (HO162.out) (fun k_ hk => ⟨hk.1.2.1, hk.1.2.2⟩))))) (Reps.c3 (show Kd.FK k25 _ _ (⟨t163, t164, t165⟩ : S25) [.bool t163, .string t164, .slice Ao34 t165.length co34] from (k25_mkF _ _ (⟨t163, t164, t165⟩ : S25) (Kd.N_reads' (Kd.N_mono (ok' := (fun k_ => k_ ≠ gb157 ∧ k_ ≠ gb171)) (HO167.out) (fun k_ hk => ⟨hk.2.2.1, hk.2.2.2⟩))).2.1 (Kd.N_F (Kd.N_mono (ok' := (fun k_ => k_ ≠ gb157 ∧ k_ ≠ gb171)) (HO167.out) (fun k_ hk => ⟨hk.2.2.1, hk.2.2.2⟩))))) (Reps.c3 (show Kd.FK k25 _ _ (⟨true, (⟨#[]⟩ : ByteArray), y154⟩ : S25) [.bool true, .string (⟨#[]⟩ : ByteArray), .slice Ao25 y154.length co25] from (k25_mkF _ _ (⟨true, (⟨#[]⟩ : ByteArray), y154⟩ : S25) (Kd.N_reads' (Kd.N_mono (ok' := (fun k_ => k_ ≠ gb157 ∧ k_ ≠ gb171)) (HO156.out) (fun k_ hk => ⟨hk.1.1.1, hk.1.1.2⟩))).2.1 (Kd.N_F (Kd.N_mono (ok' := (fun k_ => k_ ≠ gb157 ∧ k_ ≠ gb171)) (HO156.out) (fun k_ hk => ⟨hk.1.1.1, hk.1.1.2⟩))))) (Reps.none _ _)))))
   intro v169 w35 ho36 hb hg_ hnew_
   clear hg_ hnew_
   (first | rw [← Ny168.out] at ho36 | (simp only [Int.reduceToNat] at ho36; rw [← Ny168.out] at ho36))
   have n0_ := Aside0.mk (Kd.N_lower ho36 (below_size (by repeat (first | (with_reducible first | exact HB.out | apply below_alloc | apply pw_below_drewN | apply below_drew1 | refine below_set ?_ GE157.out | refine below_set ?_ GE171.out) | exact HB.out))))
   have n1_ := Aside0.mk (blk_below (g := gb157) (o := .cells #[.bool true, .string (⟨#[]⟩ : ByteArray), .slice Ao25 y154.length co25] 25 (0, 0)) (by (with_reducible repeat (first | refine blk_drewN ?_ _ | refine blk_drew ?_ | refine blk_alloc ?_ _)); exact BK157.out) hb)
   have n2_ := Aside0.mk (blk_below (g := gb171) (o := .cells #[.bool false, .string (⟨#[]⟩ : ByteArray), .slice none 0 0] 25 (0, 0)) (by (with_reducible repeat (first | refine blk_drewN ?_ _ | refine blk_drew ?_ | refine blk_alloc ?_ _)); exact BK171.out) hb)
   have n3_ := Aside0.mk (below_step (by repeat (first | (with_reducible first | exact HB.out | apply below_alloc | apply pw_below_drewN | apply below_drew1 | refine below_set ?_ GE157.out | refine below_set ?_ GE171.out) | exact HB.out)) hb)
   clear BK157
   clear BK171
   clear HB
   clear HO156
   clear HO162
   clear HO167
   have HO170 := n0_
   have BK157 := n1_
   have BK171 := n2_
   have HB := n3_
   clear n0_ n1_ n2_ n3_
   clear hb ho36
   obtain ⟨Ao37, co37, eo37⟩ := Kd.N_slice HO170.out
   (first | subst eo37 | (injection eo37 with f1_ f2_ f3_; have f4_ := f1_.symm; have f5_ := f3_.symm; clear f1_ f2_ f3_; subst f4_; subst f5_))
   refine hK.out _ _ ⟨(blk_cell BK157.out 0).trans rfl, (blk_cell BK157.out 1).trans rfl, (blk_cell BK157.out 2).trans rfl⟩ (fun hHeld => ?_)
   clear hK K
   refine norm_ (a' := ?_) ?_ ?_
   rotate_left
   ·show Act.put _ (some 21) _ = _
    simp only [Act.put, List.setIfInBounds_toArray, List.set_cons_zero, List.set_cons_succ, i64_w, i32_w]
    rfl
   refine pure_ (i := 4) (N := some 22) (v := ?_) (a' := ?_) #[true, true, true, true, true, true, false] rfl rfl (by kernel_rfl) (fun _ _ _ h => h) (Or.inl ⟨by rfl, ?_⟩) ?_ ?_
   rotate_left
   ·intro w'
    go_simp
    with_reducible rfl
   rotate_left
   ·simp only [Act.put, List.setIfInBounds_toArray, List.set_cons_zero, List.set_cons_succ, i64_w, i32_w]
    rfl
   exact norm_ (by simp only [putAll, Act.put, List.setIfInBounds_toArray, List.set_cons_zero, List.set_cons_succ]) (hCont (.slice Ao33 t160.length co33, .slice Ao34 t165.length co34, .slice Ao37 y168.length co37, gb171) _ ⟨hHeld, (by (with_reducible repeat (first | apply Kd.N_alloc | apply Kd.N_drewN | apply Kd.N_drew)); exact HO170.out), (by (with_reducible repeat (first | refine blk_drewN ?_ _ | refine blk_drew ?_ | refine blk_alloc ?_ _)); exact BK157.out), (by (with_reducible repeat (first | refine blk_drewN ?_ _ | refine blk_drew ?_ | refine blk_alloc ?_ _)); exact BK171.out), GW171.out, GE171.out, NB157_171.out, NB171_157.out, (by repeat (first | (with_reducible first | exact HB.out | apply below_alloc | apply pw_below_drewN | apply below_drew1 | refine below_set ?_ GE157.out | refine below_set ?_ GE171.out) | exact HB.out))⟩)
 rintro ⟨v161, v166, v169, gb171⟩ w38 ⟨hS_, h0_, h1_, h2_, h3_, h4_, h5_, h6_, h7_⟩
 have n0_ : Aside0 (Kd.N k25 25 w38 w.heap.size (fun k_ => k_ ≠ gb157 ∧ k_ ≠ gb171) v169 y168) := ⟨h0_⟩
 have n1_ : Aside0 (w38.heap[gb157]? = some (.cells #[.bool true, .string (⟨#[]⟩ : ByteArray), .slice Ao25 y154.length co25] 25 (0, 0))) := ⟨h1_⟩
 have n2_ : Aside0 (w38.heap[gb171]? = some (.cells #[.bool false, .string (⟨#[]⟩ : ByteArray), .slice none 0 0] 25 (0, 0))) := ⟨h2_⟩
 have n3_ : Aside0 (w.heap.size ≤ gb171) := ⟨h3_⟩
 have n4_ : Aside0 (w.heap.size ≤ gb171) := ⟨h4_⟩
 have n5_ : Aside0 (gb157 ≠ gb171) := ⟨h5_⟩
 have n6_ : Aside0 (gb171 ≠ gb157) := ⟨h6_⟩
 have n7_ : Aside0 (Below w.heap.size w w38) := ⟨h7_⟩
 clear HO156
 clear BK157
 clear HB
 clear h0_ h1_ h2_ h3_ h4_ h5_ h6_ h7_
 have HO170 := n0_
 have BK157 := n1_
 have BK171 := n2_
 have GW171 := n3_
 have GE171 := n4_
 have NB157_171 := n5_
 have NB171_157 := n6_
 have HB := n7_
 clear n0_ n1_ n2_ n3_ n4_ n5_ n6_ n7_
 have hHeld : w38.cell? ⟨gb157, 0, none⟩ = some (.bool true) ∧ w38.cell? ⟨gb157, 1, none⟩ = some (.string (⟨#[]⟩ : ByteArray)) ∧ w38.cell? ⟨gb157, 2, none⟩ = some (.slice Ao25 y154.length co25) := hS_
 obtain ⟨Ao39, co39, eo39⟩ := Kd.N_slice HO170.out
 (first | subst eo39 | (injection eo39 with f1_ f2_ f3_; have f4_ := f1_.symm; have f5_ := f3_.symm; clear f1_ f2_ f3_; subst f4_; subst f5_))
 refine norm_ (a' := ?_) ?_ ?_
 rotate_left
 ·simp only [putAll, Act.put, List.setIfInBounds_toArray, List.set_cons_zero, List.set_cons_succ]
  rfl
 refine one_ (i := 6) (N := none) #[true, true, true, true, true, true, true] rfl rfl (by kernel_rfl) (by decide) (fun K hK => ?_)
 have hs40 : w38.cell? ⟨gb171, 0, none⟩ = some (.bool false) := (blk_cell BK171.out 0).trans rfl
 have hfs40 := blk_frozen BK171.out 0
 have hns40_0 := NB157_171.out
 have hms40_0 := NB171_157.out
 have hs41 : w38.cell? ⟨gb171, 1, none⟩ = some (.string (⟨#[]⟩ : ByteArray)) := (blk_cell BK171.out 1).trans rfl
 have hfs41 := blk_frozen BK171.out 1
 have hns41_0 := NB157_171.out
 have hms41_0 := NB171_157.out
 have hs42 : w38.cell? ⟨gb171, 2, none⟩ = some (.slice none 0 0) := (blk_cell BK171.out 2).trans rfl
 have hfs42 := blk_frozen BK171.out 2
 have hns42_0 := NB157_171.out
 have hms42_0 := NB171_157.out
 refine skip_ (w1 := ?_) (by rfl) rfl ?_ ?_
 rotate_left
 ·go_simp
  rfl
 refine hK.out _ _ ⟨((cell_far (p := ⟨gb171, _, none⟩) NB157_171.out _).trans (((cell_far (p := ⟨gb171, _, none⟩) NB157_171.out _).trans (((cell_far (p := ⟨gb171, _, none⟩) NB157_171.out _).trans (hHeld.1)))))), ((cell_far (p := ⟨gb171, _, none⟩) NB157_171.out _).trans (((cell_far (p := ⟨gb171, _, none⟩) NB157_171.out _).trans (((cell_far (p := ⟨gb171, _, none⟩) NB157_171.out _).trans (hHeld.2.1)))))), ((cell_far (p := ⟨gb171, _, none⟩) NB157_171.out _).trans (((cell_far (p := ⟨gb171, _, none⟩) NB157_171.out _).trans (((cell_far (p := ⟨gb171, _, none⟩) NB157_171.out _).trans (hHeld.2.2))))))⟩ (fun hHeld => ?_)
 clear hK K
 refine done_ (by kernel_rfl) ?_
 have hnb43 := NB171_157.out
 have hnc43 := NB157_171.out
 have hcz44_0 : w38.cell? ⟨gb171, 0, none⟩ = some (.bool false) := (blk_cell BK171.out 0).trans rfl
 have hcz44_1 : w38.cell? ⟨gb171, 1, none⟩ = some (.string (⟨#[]⟩ : ByteArray)) := (blk_cell BK171.out 1).trans rfl
 have hcz44_2 : w38.cell? ⟨gb171, 2, none⟩ = some (.slice none 0 0) := (blk_cell BK171.out 2).trans rfl
 have hfz44_0 := blk_frozen BK171.out 0
 have hfz44_1 := blk_frozen BK171.out 1
 have hfz44_2 := blk_frozen BK171.out 2
 try go_wp2_with (first | ((with_reducible refine gate_callee (f := 15) rfl ?_); refine goesL_ (some 25) rfl rfl Tryd.func15 (by kernel_rfl) rfl #[.agg #[.bool true, .string (⟨#[]⟩ : ByteArray), .slice Ao39 y168.length co39]] rfl (by (try simp only [List.map_toArray, List.map_cons, List.map_nil]); first | done | rfl | (simp only [List.length_drop, List.length_take]; rfl)) ?_; (with_reducible refine (codec_Encode.calls k true (⟨#[]⟩ : ByteArray) _ _ y168 t172 t173 _ ?side1 ?side2 A4.out ?sideT).mono ?_); (case sideT => exact Laid.below HT (by repeat (first | (with_reducible first | exact HB.out | apply below_alloc | apply pw_below_drewN | apply below_drew1 | refine below_set ?_ GE157.out | refine below_set ?_ GE171.out) | exact HB.out))); (case side1 => refine (Kd.N_reads' (e := 25) (base := w.heap.size) (ok := fun k_ => (k_ ≠ gb157 ∧ k_ ≠ gb171)) (n := y168.length) (c := co39) ?_).2.2; exact (by (with_reducible repeat (first | apply Kd.N_alloc | apply Kd.N_drewN | apply Kd.N_drew)); exact (Kd.N_mono (Kd.N_far (p := ⟨gb171, 2, none⟩) (Kd.N_far (p := ⟨gb171, 1, none⟩) (Kd.N_far (p := ⟨gb171, 0, none⟩) (Kd.N_mono HO170.out (fun k_ hk => (⟨hk, hk.2⟩ : _ ∧ k_ ≠ gb171))) (fun _ hk => hk.2) (.bool true)) (fun _ hk => hk.2) (.string (⟨#[]⟩ : ByteArray))) (fun _ hk => hk.2) (.slice Ao39 y168.length co39)) (fun _ h_ => h_.1)))); (case side2 => exact (Kd.N_reads' HO170.out).2.1); rintro e w45 ⟨rfl, hb⟩; refine ⟨_, rfl, ?_⟩; have n0_ := Aside0.mk (Kd.N_below (by (with_reducible repeat (first | apply Kd.N_alloc | apply Kd.N_drewN | apply Kd.N_drew)); exact (Kd.N_mono (Kd.N_far (p := ⟨gb171, 2, none⟩) (Kd.N_far (p := ⟨gb171, 1, none⟩) (Kd.N_far (p := ⟨gb171, 0, none⟩) (Kd.N_mono HO170.out (fun k_ hk => (⟨hk, hk.2⟩ : _ ∧ k_ ≠ gb171))) (fun _ hk => hk.2) (.bool true)) (fun _ hk => hk.2) (.string (⟨#[]⟩ : ByteArray))) (fun _ hk => hk.2) (.slice Ao39 y168.length co39)) (fun _ h_ => h_.1))) hb); have n1_ := Aside0.mk (blk_below (g := gb157) (o := .cells #[.bool true, .string (⟨#[]⟩ : ByteArray), .slice Ao25 y154.length co25] 25 (0, 0)) (by (with_reducible repeat (first | refine blk_drewN ?_ _ | refine blk_drew ?_ | refine blk_alloc ?_ _)); refine blk_far ?_ NB157_171.out _; (with_reducible repeat (first | refine blk_drewN ?_ _ | refine blk_drew ?_ | refine blk_alloc ?_ _)); refine blk_far ?_ NB157_171.out _; (with_reducible repeat (first | refine blk_drewN ?_ _ | refine blk_drew ?_ | refine blk_alloc ?_ _)); refine blk_far ?_ NB157_171.out _; (with_reducible repeat (first | refine blk_drewN ?_ _ | refine blk_drew ?_ | refine blk_alloc ?_ _)); exact BK157.out) hb); have n2_ := Aside0.mk (blk_below (g := gb171) (o := .cells #[.bool true, .string (⟨#[]⟩ : ByteArray), .slice Ao39 y168.length co39] 25 (0, 0)) (by (with_reducible repeat (first | refine blk_drewN ?_ _ | refine blk_drew ?_ | refine blk_alloc ?_ _)); refine blk_put (cs := #[.bool true, .string (⟨#[]⟩ : ByteArray), .slice none 0 0]) ?_ 2 _ rfl; (with_reducible repeat (first | refine blk_drewN ?_ _ | refine blk_drew ?_ | refine blk_alloc ?_ _)); refine blk_put (cs := #[.bool true, .string (⟨#[]⟩ : ByteArray), .slice none 0 0]) ?_ 1 _ rfl; (with_reducible repeat (first | refine blk_drewN ?_ _ | refine blk_drew ?_ | refine blk_alloc ?_ _)); refine blk_put (cs := #[.bool false, .string (⟨#[]⟩ : ByteArray), .slice none 0 0]) ?_ 0 _ rfl; (with_reducible repeat (first | refine blk_drewN ?_ _ | refine blk_drew ?_ | refine blk_alloc ?_ _)); exact BK171.out) hb); have n3_ := Aside0.mk (below_step (by repeat (first | (with_reducible first | exact HB.out | apply below_alloc | apply pw_below_drewN | apply below_drew1 | refine below_set ?_ GE157.out | refine below_set ?_ GE171.out) | exact HB.out)) hb); clear HO170; clear BK157; clear BK171; clear HB; have HO170 := n0_; have BK157 := n1_; have BK171 := n2_; have HB := n3_; clear n0_ n1_ n2_ n3_; (try clear hb); (try clear hb2); (try clear hk); (try clear hi)) | ((with_reducible refine gate_callee (f := 11) rfl ?_); refine goesL_ (some 29) rfl rfl Tryd.func11 (by kernel_rfl) rfl #[.string (⟨#[40, 49, 58, 97, 49, 58, 40, 40, 48, 58, 41, 41]⟩ : ByteArray)] rfl (by (try simp only [List.map_toArray, List.map_cons, List.map_nil]); first | done | rfl | (simp only [List.length_drop, List.length_take]; rfl)) ?_; (with_reducible refine (codec_Decode.calls k (⟨#[40, 49, 58, 97, 49, 58, 40, 40, 48, 58, 41, 41]⟩ : ByteArray) t174 t175 t176 t179 _ A5.out).mono ?_); rintro e w46 ⟨v177, rfl, ho0, hb⟩; refine ⟨_, rfl, ?_⟩; have n0_ := Aside0.mk (Kd.N_elder' (by (with_reducible repeat (first | apply Kd.N_alloc | apply Kd.N_drewN | apply Kd.N_drew)); exact HO170.out) (by first | exact Kd.N_base ho0 | exact Kd.R_base ho0) hb); have n1_ := Aside0.mk (Kd.N_lower (Kd.N_mono (ok' := fun k_ => some k_ ≠ (.slice Ao39 y168.length co39 : Value).ownBlock ∧ k_ ≠ gb157 ∧ k_ ≠ gb171) (Kd.R_N (Kd.R_bound ho0)) (fun k_ hk_ => ⟨(Kd.fresh' (Kd.N_lt (by (with_reducible repeat (first | apply Kd.N_alloc | apply Kd.N_drewN | apply Kd.N_drew)); exact HO170.out)) k_ hk_.2.1), (Kd.freshB (g := gb157) (o := .cells #[.bool true, .string (⟨#[]⟩ : ByteArray), .slice Ao25 y154.length co25] 25 (0, 0)) (by (with_reducible repeat (first | refine blk_drewN ?_ _ | refine blk_drew ?_ | refine blk_alloc ?_ _)); exact BK157.out) k_ hk_.2.1), (Kd.freshB (g := gb171) (o := .cells #[.bool true, .string (⟨#[]⟩ : ByteArray), .slice Ao39 y168.length co39] 25 (0, 0)) (by (with_reducible repeat (first | refine blk_drewN ?_ _ | refine blk_drew ?_ | refine blk_alloc ?_ _)); exact BK171.out) k_ hk_.2.1)⟩)) (below_size (by repeat (first | (with_reducible first | exact HB.out | apply below_alloc | apply pw_below_drewN | apply below_drew1 | refine below_set ?_ GE157.out | refine below_set ?_ GE171.out) | exact HB.out)))); have n2_ := Aside0.mk (blk_below (g := gb157) (o := .cells #[.bool true, .string (⟨#[]⟩ : ByteArray), .slice Ao25 y154.length co25] 25 (0, 0)) (by (with_reducible repeat (first | refine blk_drewN ?_ _ | refine blk_drew ?_ | refine blk_alloc ?_ _)); exact BK157.out) hb); have n3_ := Aside0.mk (blk_below (g := gb171) (o := .cells #[.bool true, .string (⟨#[]⟩ : ByteArray), .slice Ao39 y168.length co39] 25 (0, 0)) (by (with_reducible repeat (first | refine blk_drewN ?_ _ | refine blk_drew ?_ | refine blk_alloc ?_ _)); exact BK171.out) hb); have n4_ := Aside0.mk (below_step (by repeat (first | (with_reducible first | exact HB.out | apply below_alloc | apply pw_below_drewN | apply below_drew1 | refine below_set ?_ GE157.out | refine below_set ?_ GE171.out) | exact HB.out)) hb); clear HO170; clear BK157; clear BK171; clear HB; have HO170 := n0_; have HO178 := n1_; have BK157 := n2_; have BK171 := n3_; have HB := n4_; clear n0_ n1_ n2_ n3_ n4_; (try clear hb); (try clear hb2); (try clear hk); (try clear hi); (try clear ho0)) | ((with_reducible refine gate_dst (N := 5) rfl ?_); refine box_event ?hg (N := 5) ?hd (cs := #[.bool false, .string (⟨#[]⟩ : ByteArray), .slice none 0 0]) (t := 25) ?hr ?_; (case hd => rfl); (case hg => rfl); (case hr => first | (go_simp; done) | (go_simp; rfl)); intro gb180 hg w47 hbox hb; have n0_ := Aside0.mk (Kd.N_below (Kd.N_elderB (by (with_reducible repeat (first | apply Kd.N_alloc | apply Kd.N_drewN | apply Kd.N_drew)); exact HO170.out) gb180 (Nat.le_of_eq hg.symm)) hb); have n1_ := Aside0.mk (Kd.N_below (Kd.N_elderB (by (with_reducible repeat (first | apply Kd.N_alloc | apply Kd.N_drewN | apply Kd.N_drew)); exact HO178.out) gb180 (Nat.le_of_eq hg.symm)) hb); have n2_ := Aside0.mk (blk_below (g := gb157) (o := .cells #[.bool true, .string (⟨#[]⟩ : ByteArray), .slice Ao25 y154.length co25] 25 (0, 0)) (by (with_reducible repeat (first | refine blk_drewN ?_ _ | refine blk_drew ?_ | refine blk_alloc ?_ _)); exact BK157.out) hb); have n3_ := Aside0.mk (blk_below (g := gb171) (o := .cells #[.bool true, .string (⟨#[]⟩ : ByteArray), .slice Ao39 y168.length co39] 25 (0, 0)) (by (with_reducible repeat (first | refine blk_drewN ?_ _ | refine blk_drew ?_ | refine blk_alloc ?_ _)); exact BK171.out) hb); have n4_ := Aside0.mk (below_step (by repeat (first | (with_reducible first | exact HB.out | apply below_alloc | apply pw_below_drewN | apply below_drew1 | refine below_set ?_ GE157.out | refine below_set ?_ GE171.out) | exact HB.out)) hb); have n5_ := Aside0.mk (hbox); have n6_ := Aside0.mk ((by rw [hg]; exact (below_size (by repeat (first | (with_reducible first | exact HB.out | apply below_alloc | apply pw_below_drewN | apply below_drew1 | refine below_set ?_ GE157.out | refine below_set ?_ GE171.out) | exact HB.out))) : w.heap.size ≤ gb180)); have n7_ := Aside0.mk ((by rw [hg]; exact (below_size (by repeat (first | (with_reducible first | exact HB.out | apply below_alloc | apply pw_below_drewN | apply below_drew1 | refine below_set ?_ GE157.out | refine below_set ?_ GE171.out) | exact HB.out))) : w.heap.size ≤ gb180)); have n8_ := Aside0.mk ((by rw [hg]; exact Nat.ne_of_lt (blk_lt (g := gb157) (o := .cells #[.bool true, .string (⟨#[]⟩ : ByteArray), .slice Ao25 y154.length co25] 25 (0, 0)) (by (with_reducible repeat (first | refine blk_drewN ?_ _ | refine blk_drew ?_ | refine blk_alloc ?_ _)); exact BK157.out)) : gb157 ≠ gb180)); have n9_ := Aside0.mk ((by rw [hg]; exact Nat.ne_of_gt (blk_lt (g := gb157) (o := .cells #[.bool true, .string (⟨#[]⟩ : ByteArray), .slice Ao25 y154.length co25] 25 (0, 0)) (by (with_reducible repeat (first | refine blk_drewN ?_ _ | refine blk_drew ?_ | refine blk_alloc ?_ _)); exact BK157.out)) : gb180 ≠ gb157)); have n10_ := Aside0.mk ((by rw [hg]; exact Nat.ne_of_lt (blk_lt (g := gb171) (o := .cells #[.bool true, .string (⟨#[]⟩ : ByteArray), .slice Ao39 y168.length co39] 25 (0, 0)) (by (with_reducible repeat (first | refine blk_drewN ?_ _ | refine blk_drew ?_ | refine blk_alloc ?_ _)); exact BK171.out)) : gb171 ≠ gb180)); have n11_ := Aside0.mk ((by rw [hg]; exact Nat.ne_of_gt (blk_lt (g := gb171) (o := .cells #[.bool true, .string (⟨#[]⟩ : ByteArray), .slice Ao39 y168.length co39] 25 (0, 0)) (by (with_reducible repeat (first | refine blk_drewN ?_ _ | refine blk_drew ?_ | refine blk_alloc ?_ _)); exact BK171.out)) : gb180 ≠ gb171)); clear HO170; clear HO178; clear BK157; clear BK171; clear HB; have HO170 := n0_; have HO178 := n1_; have BK157 := n2_; have BK171 := n3_; have HB := n4_; have BK180 := n5_; have GW180 := n6_; have GE180 := n7_; have NB157_180 := n8_; have NB180_157 := n9_; have NB171_180 := n10_; have NB180_171 := n11_; clear n0_ n1_ n2_ n3_ n4_ n5_ n6_ n7_ n8_ n9_ n10_ n11_; clear hb hbox hg; have hnb48 := NB180_157.out; have hnc48 := NB157_180.out; have hnb49 := NB180_171.out; have hnc49 := NB171_180.out; have hcz50_0 : w47.cell? ⟨gb180, 0, none⟩ = some (.bool false) := (blk_cell BK180.out 0).trans rfl; have hcz50_1 : w47.cell? ⟨gb180, 1, none⟩ = some (.string (⟨#[]⟩ : ByteArray)) := (blk_cell BK180.out 1).trans rfl; have hcz50_2 : w47.cell? ⟨gb180, 2, none⟩ = some (.slice none 0 0) := (blk_cell BK180.out 2).trans rfl; have hfz50_0 := blk_frozen BK180.out 0; have hfz50_1 := blk_frozen BK180.out 1; have hfz50_2 := blk_frozen BK180.out 2; obtain ⟨Ao51, co51, eo51⟩ := Kd.N_slice HO178.out; subst eo51; have hcz52_0 : w47.cell? ⟨gb171, 0, none⟩ = some (.bool true) := (blk_cell BK171.out 0).trans rfl; have hcz52_1 : w47.cell? ⟨gb171, 1, none⟩ = some (.string (⟨#[]⟩ : ByteArray)) := (blk_cell BK171.out 1).trans rfl; have hcz52_2 : w47.cell? ⟨gb171, 2, none⟩ = some (.slice Ao39 y168.length co39) := (blk_cell BK171.out 2).trans rfl; have hfz52_0 := blk_frozen BK171.out 0; have hfz52_1 := blk_frozen BK171.out 1; have hfz52_2 := blk_frozen BK171.out 2) | ((with_reducible refine gate_dst (N := 34) rfl ?_); refine Kd.R_lit (Kd.int .i64) _ 3 ?hg (N := 34) ?hd (xs := ([2, 0] : List Int)) (inner := [.int .i64 2, .int .i64 0]) (ok := fun _ => True) (okp := fun _ => True) ?hr ?hp (fun _ hk => hk) trivial (Below.refl _ _) (Nat.le_refl _) (by simp) ?_; (case hd => rfl); (case hg => rfl); (case hr => first | (go_simp; done) | (go_simp; rfl)); (case hp => exact (Reps.one (show Kd.M (Kd.int .i64) _ _ _ 2 [.int .i64 2] from rfl) (Reps.one (show Kd.M (Kd.int .i64) _ _ _ 0 [.int .i64 0] from rfl) (Reps.none _ _)))); intro v182 w53 ho54 hb hg_ hnew_; clear hg_ hnew_; (first | rw [← Ny181.out] at ho54 | (simp only [Int.reduceToNat] at ho54; rw [← Ny181.out] at ho54)); have n0_ := Aside0.mk (Kd.N_elder' (by (with_reducible repeat (first | apply Kd.N_alloc | apply Kd.N_drewN | apply Kd.N_drew)); exact (Kd.N_mono (Kd.N_far (p := ⟨gb180, 2, none⟩) (Kd.N_far (p := ⟨gb180, 1, none⟩) (Kd.N_far (p := ⟨gb180, 0, none⟩) (Kd.N_mono HO170.out (fun k_ hk => (⟨hk, hk.2⟩ : _ ∧ k_ ≠ gb180))) (fun _ hk => hk.2) (.bool t174)) (fun _ hk => hk.2) (.string t175)) (fun _ hk => hk.2) (.slice Ao51 t176.length co51)) (fun _ h_ => h_.1))) (Kd.R_base ho54) hb); have n1_ := Aside0.mk (Kd.N_elder' (by (with_reducible repeat (first | apply Kd.N_alloc | apply Kd.N_drewN | apply Kd.N_drew)); exact (Kd.N_mono (Kd.N_far (p := ⟨gb180, 2, none⟩) (Kd.N_far (p := ⟨gb180, 1, none⟩) (Kd.N_far (p := ⟨gb180, 0, none⟩) (Kd.N_mono HO178.out (fun k_ hk => (⟨hk, hk.2⟩ : _ ∧ k_ ≠ gb180))) (fun _ hk => hk.2) (.bool t174)) (fun _ hk => hk.2) (.string t175)) (fun _ hk => hk.2) (.slice Ao51 t176.length co51)) (fun _ h_ => h_.1))) (Kd.R_base ho54) hb); have n2_ := Aside0.mk (Kd.R_lower ho54 (below_size (by repeat (first | (with_reducible first | exact HB.out | apply below_alloc | apply pw_below_drewN | apply below_drew1 | refine below_set ?_ GE157.out | refine below_set ?_ GE171.out | refine below_set ?_ GE180.out) | exact HB.out)))); have n3_ := Aside0.mk (blk_below (g := gb157) (o := .cells #[.bool true, .string (⟨#[]⟩ : ByteArray), .slice Ao25 y154.length co25] 25 (0, 0)) (by (with_reducible repeat (first | refine blk_drewN ?_ _ | refine blk_drew ?_ | refine blk_alloc ?_ _)); refine blk_far ?_ NB157_180.out _; (with_reducible repeat (first | refine blk_drewN ?_ _ | refine blk_drew ?_ | refine blk_alloc ?_ _)); refine blk_far ?_ NB157_180.out _; (with_reducible repeat (first | refine blk_drewN ?_ _ | refine blk_drew ?_ | refine blk_alloc ?_ _)); refine blk_far ?_ NB157_180.out _; (with_reducible repeat (first | refine blk_drewN ?_ _ | refine blk_drew ?_ | refine blk_alloc ?_ _)); exact BK157.out) hb); have n4_ := Aside0.mk (blk_below (g := gb171) (o := .cells #[.bool true, .string (⟨#[]⟩ : ByteArray), .slice Ao39 y168.length co39] 25 (0, 0)) (by (with_reducible repeat (first | refine blk_drewN ?_ _ | refine blk_drew ?_ | refine blk_alloc ?_ _)); refine blk_far ?_ NB171_180.out _; (with_reducible repeat (first | refine blk_drewN ?_ _ | refine blk_drew ?_ | refine blk_alloc ?_ _)); refine blk_far ?_ NB171_180.out _; (with_reducible repeat (first | refine blk_drewN ?_ _ | refine blk_drew ?_ | refine blk_alloc ?_ _)); refine blk_far ?_ NB171_180.out _; (with_reducible repeat (first | refine blk_drewN ?_ _ | refine blk_drew ?_ | refine blk_alloc ?_ _)); exact BK171.out) hb); have n5_ := Aside0.mk (blk_below (g := gb180) (o := .cells #[.bool t174, .string t175, .slice Ao51 t176.length co51] 25 (0, 0)) (by (with_reducible repeat (first | refine blk_drewN ?_ _ | refine blk_drew ?_ | refine blk_alloc ?_ _)); refine blk_put (cs := #[.bool t174, .string t175, .slice none 0 0]) ?_ 2 _ rfl; (with_reducible repeat (first | refine blk_drewN ?_ _ | refine blk_drew ?_ | refine blk_alloc ?_ _)); refine blk_put (cs := #[.bool t174, .string (⟨#[]⟩ : ByteArray), .slice none 0 0]) ?_ 1 _ rfl; (with_reducible repeat (first | refine blk_drewN ?_ _ | refine blk_drew ?_ | refine blk_alloc ?_ _)); refine blk_put (cs := #[.bool false, .string (⟨#[]⟩ : ByteArray), .slice none 0 0]) ?_ 0 _ rfl; (with_reducible repeat (first | refine blk_drewN ?_ _ | refine blk_drew ?_ | refine blk_alloc ?_ _)); exact BK180.out) hb); have n6_ := Aside0.mk (below_step (by repeat (first | (with_reducible first | exact HB.out | apply below_alloc | apply pw_below_drewN | apply below_drew1 | refine below_set ?_ GE157.out | refine below_set ?_ GE171.out | refine below_set ?_ GE180.out) | exact HB.out)) hb); clear HO170; clear HO178; clear BK157; clear BK171; clear BK180; clear HB; have HO170 := n0_; have HO178 := n1_; have HO183 := n2_; have BK157 := n3_; have BK171 := n4_; have BK180 := n5_; have HB := n6_; clear n0_ n1_ n2_ n3_ n4_ n5_ n6_; clear hb ho54; obtain ⟨Ao55, co55, eo55⟩ := Kd.R_slice HO183.out; subst eo55) | ((with_reducible refine gate_callee (f := 17) rfl ?_); refine goesL_ (some 35) rfl rfl Tryd.func17 (by kernel_rfl) rfl #[.agg #[.bool true, .string (⟨#[]⟩ : ByteArray), .slice Ao39 y168.length co39], .slice Ao55 y181.length co55] rfl (by (try simp only [List.map_toArray, List.map_cons, List.map_nil]); first | done | rfl | (simp only [List.length_drop, List.length_take]; rfl)) ?_; (with_reducible refine (codec_At.calls k true (⟨#[]⟩ : ByteArray) (fun k_ => ((((k_ ≠ gb157 ∧ k_ ≠ gb171) ∧ some k_ ≠ (.slice Ao51 t176.length co51 : Value).ownBlock) ∧ k_ ≠ gb180) ∧ some k_ ≠ (.slice Ao55 y181.length co55 : Value).ownBlock)) _ _ y168 _ _ y181 t184 t185 t186 t189 _ ?side1 ?side2 ?side3 A6.out).mono ?_); (case side1 => exact Kd.N_V (HO170.out)); (case side2 => repeat (first | exact (Kd.R_reads' HO183.out).2.2 | (with_reducible refine Kd.C_alloc ?_ _) | (with_reducible refine Kd.C_drewN ?_ _) | (with_reducible refine Kd.C_drew ?_))); (case side3 => exact (Kd.R_reads' HO183.out).2.1); rintro e w56 ⟨v187, rfl, ho0, hb⟩; replace ho0 := Kd.N_mono (Kd.R_N ho0) (fun k_ h_ => (Or.inr h_ : (((((k_ ≠ gb157 ∧ k_ ≠ gb171) ∧ some k_ ≠ (.slice Ao51 t176.length co51 : Value).ownBlock) ∧ k_ ≠ gb180) ∧ some k_ ≠ (.slice Ao55 y181.length co55 : Value).ownBlock)) ∨ _)); refine ⟨_, rfl, ?_⟩; have n0_ := Aside0.mk (Kd.N_elder' (by (with_reducible repeat (first | apply Kd.N_alloc | apply Kd.N_drewN | apply Kd.N_drew)); exact HO170.out) (by first | exact Kd.N_base ho0 | exact Kd.R_base ho0) hb); have n1_ := Aside0.mk (Kd.N_elder' (by (with_reducible repeat (first | apply Kd.N_alloc | apply Kd.N_drewN | apply Kd.N_drew)); exact HO178.out) (by first | exact Kd.N_base ho0 | exact Kd.R_base ho0) hb); have n2_ := Aside0.mk (Kd.R_below (by (with_reducible repeat (first | apply Kd.R_alloc | apply Kd.R_drewN | apply Kd.R_drew)); exact HO183.out) hb); have n3_ := Aside0.mk (Kd.N_lower (Kd.N_mono (ok' := fun k_ => some k_ ≠ (.slice Ao51 t176.length co51 : Value).ownBlock ∧ some k_ ≠ (.slice Ao55 y181.length co55 : Value).ownBlock ∧ k_ ≠ gb157 ∧ k_ ≠ gb171 ∧ k_ ≠ gb180) ho0 (fun k_ hk_ => ⟨Or.elim hk_ (fun hs_ => hs_.1.1.2) (fun hn_ => (Kd.fresh' (Kd.N_lt (by (with_reducible repeat (first | apply Kd.N_alloc | apply Kd.N_drewN | apply Kd.N_drew)); exact HO178.out)) k_ hn_)), Or.elim hk_ (fun hs_ => hs_.2) (fun hn_ => (Kd.fresh' (Kd.R_lt (by (with_reducible repeat (first | apply Kd.R_alloc | apply Kd.R_drewN | apply Kd.R_drew)); exact HO183.out)) k_ hn_)), Or.elim hk_ (fun hs_ => hs_.1.1.1.1) (fun hn_ => (Kd.freshB (g := gb157) (o := .cells #[.bool true, .string (⟨#[]⟩ : ByteArray), .slice Ao25 y154.length co25] 25 (0, 0)) (by (with_reducible repeat (first | refine blk_drewN ?_ _ | refine blk_drew ?_ | refine blk_alloc ?_ _)); exact BK157.out) k_ hn_)), Or.elim hk_ (fun hs_ => hs_.1.1.1.2) (fun hn_ => (Kd.freshB (g := gb171) (o := .cells #[.bool true, .string (⟨#[]⟩ : ByteArray), .slice Ao39 y168.length co39] 25 (0, 0)) (by (with_reducible repeat (first | refine blk_drewN ?_ _ | refine blk_drew ?_ | refine blk_alloc ?_ _)); exact BK171.out) k_ hn_)), Or.elim hk_ (fun hs_ => hs_.1.2) (fun hn_ => (Kd.freshB (g := gb180) (o := .cells #[.bool t174, .string t175, .slice Ao51 t176.length co51] 25 (0, 0)) (by (with_reducible repeat (first | refine blk_drewN ?_ _ | refine blk_drew ?_ | refine blk_alloc ?_ _)); exact BK180.out) k_ hn_))⟩)) (below_size (by repeat (first | (with_reducible first | exact HB.out | apply below_alloc | apply pw_below_drewN | apply below_drew1 | refine below_set ?_ GE157.out | refine below_set ?_ GE171.out | refine below_set ?_ GE180.out) | exact HB.out)))); have n4_ := Aside0.mk (blk_below (g := gb157) (o := .cells #[.bool true, .string (⟨#[]⟩ : ByteArray), .slice Ao25 y154.length co25] 25 (0, 0)) (by (with_reducible repeat (first | refine blk_drewN ?_ _ | refine blk_drew ?_ | refine blk_alloc ?_ _)); exact BK157.out) hb); have n5_ := Aside0.mk (blk_below (g := gb171) (o := .cells #[.bool true, .string (⟨#[]⟩ : ByteArray), .slice Ao39 y168.length co39] 25 (0, 0)) (by (with_reducible repeat (first | refine blk_drewN ?_ _ | refine blk_drew ?_ | refine blk_alloc ?_ _)); exact BK171.out) hb); have n6_ := Aside0.mk (blk_below (g := gb180) (o := .cells #[.bool t174, .string t175, .slice Ao51 t176.length co51] 25 (0, 0)) (by (with_reducible repeat (first | refine blk_drewN ?_ _ | refine blk_drew ?_ | refine blk_alloc ?_ _)); exact BK180.out) hb); have n7_ := Aside0.mk (below_step (by repeat (first | (with_reducible first | exact HB.out | apply below_alloc | apply pw_below_drewN | apply below_drew1 | refine below_set ?_ GE157.out | refine below_set ?_ GE171.out | refine below_set ?_ GE180.out) | exact HB.out)) hb); clear HO170; clear HO178; clear HO183; clear BK157; clear BK171; clear BK180; clear HB; have HO170 := n0_; have HO178 := n1_; have HO183 := n2_; have HO188 := n3_; have BK157 := n4_; have BK171 := n5_; have BK180 := n6_; have HB := n7_; clear n0_ n1_ n2_ n3_ n4_ n5_ n6_ n7_; (try clear hb); (try clear hb2); (try clear hk); (try clear hi); (try clear ho0)) | ((with_reducible refine gate_dst (N := 7) rfl ?_); refine box_event ?hg (N := 7) ?hd (cs := #[.bool false, .string (⟨#[]⟩ : ByteArray), .slice none 0 0]) (t := 25) ?hr ?_; (case hd => rfl); (case hg => rfl); (case hr => first | (go_simp; done) | (go_simp; rfl)); intro gb190 hg w57 hbox hb; have n0_ := Aside0.mk (Kd.N_below (Kd.N_elderB (by (with_reducible repeat (first | apply Kd.N_alloc | apply Kd.N_drewN | apply Kd.N_drew)); exact HO170.out) gb190 (Nat.le_of_eq hg.symm)) hb); have n1_ := Aside0.mk (Kd.N_below (Kd.N_elderB (by (with_reducible repeat (first | apply Kd.N_alloc | apply Kd.N_drewN | apply Kd.N_drew)); exact HO178.out) gb190 (Nat.le_of_eq hg.symm)) hb); have n2_ := Aside0.mk (Kd.R_below (by (with_reducible repeat (first | apply Kd.R_alloc | apply Kd.R_drewN | apply Kd.R_drew)); exact HO183.out) hb); have n3_ := Aside0.mk (Kd.N_below (Kd.N_elderB (by (with_reducible repeat (first | apply Kd.N_alloc | apply Kd.N_drewN | apply Kd.N_drew)); exact HO188.out) gb190 (Nat.le_of_eq hg.symm)) hb); have n4_ := Aside0.mk (blk_below (g := gb157) (o := .cells #[.bool true, .string (⟨#[]⟩ : ByteArray), .slice Ao25 y154.length co25] 25 (0, 0)) (by (with_reducible repeat (first | refine blk_drewN ?_ _ | refine blk_drew ?_ | refine blk_alloc ?_ _)); exact BK157.out) hb); have n5_ := Aside0.mk (blk_below (g := gb171) (o := .cells #[.bool true, .string (⟨#[]⟩ : ByteArray), .slice Ao39 y168.length co39] 25 (0, 0)) (by (with_reducible repeat (first | refine blk_drewN ?_ _ | refine blk_drew ?_ | refine blk_alloc ?_ _)); exact BK171.out) hb); have n6_ := Aside0.mk (blk_below (g := gb180) (o := .cells #[.bool t174, .string t175, .slice Ao51 t176.length co51] 25 (0, 0)) (by (with_reducible repeat (first | refine blk_drewN ?_ _ | refine blk_drew ?_ | refine blk_alloc ?_ _)); exact BK180.out) hb); have n7_ := Aside0.mk (below_step (by repeat (first | (with_reducible first | exact HB.out | apply below_alloc | apply pw_below_drewN | apply below_drew1 | refine below_set ?_ GE157.out | refine below_set ?_ GE171.out | refine below_set ?_ GE180.out) | exact HB.out)) hb); have n8_ := Aside0.mk (hbox); have n9_ := Aside0.mk ((by rw [hg]; exact (below_size (by repeat (first | (with_reducible first | exact HB.out | apply below_alloc | apply pw_below_drewN | apply below_drew1 | refine below_set ?_ GE157.out | refine below_set ?_ GE171.out | refine below_set ?_ GE180.out) | exact HB.out))) : w.heap.size ≤ gb190)); have n10_ := Aside0.mk ((by rw [hg]; exact (below_size (by repeat (first | (with_reducible first | exact HB.out | apply below_alloc | apply pw_below_drewN | apply below_drew1 | refine below_set ?_ GE157.out | refine below_set ?_ GE171.out | refine below_set ?_ GE180.out) | exact HB.out))) : w.heap.size ≤ gb190)); have n11_ := Aside0.mk ((by rw [hg]; exact Nat.ne_of_lt (blk_lt (g := gb157) (o := .cells #[.bool true, .string (⟨#[]⟩ : ByteArray), .slice Ao25 y154.length co25] 25 (0, 0)) (by (with_reducible repeat (first | refine blk_drewN ?_ _ | refine blk_drew ?_ | refine blk_alloc ?_ _)); exact BK157.out)) : gb157 ≠ gb190)); have n12_ := Aside0.mk ((by rw [hg]; exact Nat.ne_of_gt (blk_lt (g := gb157) (o := .cells #[.bool true, .string (⟨#[]⟩ : ByteArray), .slice Ao25 y154.length co25] 25 (0, 0)) (by (with_reducible repeat (first | refine blk_drewN ?_ _ | refine blk_drew ?_ | refine blk_alloc ?_ _)); exact BK157.out)) : gb190 ≠ gb157)); have n13_ := Aside0.mk ((by rw [hg]; exact Nat.ne_of_lt (blk_lt (g := gb171) (o := .cells #[.bool true, .string (⟨#[]⟩ : ByteArray), .slice Ao39 y168.length co39] 25 (0, 0)) (by (with_reducible repeat (first | refine blk_drewN ?_ _ | refine blk_drew ?_ | refine blk_alloc ?_ _)); exact BK171.out)) : gb171 ≠ gb190)); have n14_ := Aside0.mk ((by rw [hg]; exact Nat.ne_of_gt (blk_lt (g := gb171) (o := .cells #[.bool true, .string (⟨#[]⟩ : ByteArray), .slice Ao39 y168.length co39] 25 (0, 0)) (by (with_reducible repeat (first | refine blk_drewN ?_ _ | refine blk_drew ?_ | refine blk_alloc ?_ _)); exact BK171.out)) : gb190 ≠ gb171)); have n15_ := Aside0.mk ((by rw [hg]; exact Nat.ne_of_lt (blk_lt (g := gb180) (o := .cells #[.bool t174, .string t175, .slice Ao51 t176.length co51] 25 (0, 0)) (by (with_reducible repeat (first | refine blk_drewN ?_ _ | refine blk_drew ?_ | refine blk_alloc ?_ _)); exact BK180.out)) : gb180 ≠ gb190)); have n16_ := Aside0.mk ((by rw [hg]; exact Nat.ne_of_gt (blk_lt (g := gb180) (o := .cells #[.bool t174, .string t175, .slice Ao51 t176.length co51] 25 (0, 0)) (by (with_reducible repeat (first | refine blk_drewN ?_ _ | refine blk_drew ?_ | refine blk_alloc ?_ _)); exact BK180.out)) : gb190 ≠ gb180)); clear HO170; clear HO178; clear HO183; clear HO188; clear BK157; clear BK171; clear BK180; clear HB; have HO170 := n0_; have HO178 := n1_; have HO183 := n2_; have HO188 := n3_; have BK157 := n4_; have BK171 := n5_; have BK180 := n6_; have HB := n7_; have BK190 := n8_; have GW190 := n9_; have GE190 := n10_; have NB157_190 := n11_; have NB190_157 := n12_; have NB171_190 := n13_; have NB190_171 := n14_; have NB180_190 := n15_; have NB190_180 := n16_; clear n0_ n1_ n2_ n3_ n4_ n5_ n6_ n7_ n8_ n9_ n10_ n11_ n12_ n13_ n14_ n15_ n16_; clear hb hbox hg; have hnb58 := NB190_157.out; have hnc58 := NB157_190.out; have hnb59 := NB190_171.out; have hnc59 := NB171_190.out; have hnb60 := NB190_180.out; have hnc60 := NB180_190.out; have hcz61_0 : w57.cell? ⟨gb190, 0, none⟩ = some (.bool false) := (blk_cell BK190.out 0).trans rfl; have hcz61_1 : w57.cell? ⟨gb190, 1, none⟩ = some (.string (⟨#[]⟩ : ByteArray)) := (blk_cell BK190.out 1).trans rfl; have hcz61_2 : w57.cell? ⟨gb190, 2, none⟩ = some (.slice none 0 0) := (blk_cell BK190.out 2).trans rfl; have hfz61_0 := blk_frozen BK190.out 0; have hfz61_1 := blk_frozen BK190.out 1; have hfz61_2 := blk_frozen BK190.out 2; obtain ⟨Ao62, co62, eo62⟩ := Kd.N_slice HO188.out; subst eo62) | ((with_reducible refine gate_callee (f := 11) rfl ?_); refine goesL_ (some 39) rfl rfl Tryd.func11 (by kernel_rfl) rfl #[.string (⟨#[40, 50, 58, 97]⟩ : ByteArray)] rfl (by (try simp only [List.map_toArray, List.map_cons, List.map_nil]); first | done | rfl | (simp only [List.length_drop, List.length_take]; rfl)) ?_; (with_reducible refine (codec_Decode.calls k (⟨#[40, 50, 58, 97]⟩ : ByteArray) t191 t192 t193 t196 _ A7.out).mono ?_); rintro e w63 ⟨v194, rfl, ho0, hb⟩; refine ⟨_, rfl, ?_⟩; have n0_ := Aside0.mk (Kd.N_elder' (by (with_reducible repeat (first | apply Kd.N_alloc | apply Kd.N_drewN | apply Kd.N_drew)); exact (Kd.N_mono (Kd.N_far (p := ⟨gb190, 2, none⟩) (Kd.N_far (p := ⟨gb190, 1, none⟩) (Kd.N_far (p := ⟨gb190, 0, none⟩) (Kd.N_mono HO170.out (fun k_ hk => (⟨hk, hk.2⟩ : _ ∧ k_ ≠ gb190))) (fun _ hk => hk.2) (.bool t184)) (fun _ hk => hk.2) (.string t185)) (fun _ hk => hk.2) (.slice Ao62 t186.length co62)) (fun _ h_ => h_.1))) (by first | exact Kd.N_base ho0 | exact Kd.R_base ho0) hb); have n1_ := Aside0.mk (Kd.N_elder' (by (with_reducible repeat (first | apply Kd.N_alloc | apply Kd.N_drewN | apply Kd.N_drew)); exact (Kd.N_mono (Kd.N_far (p := ⟨gb190, 2, none⟩) (Kd.N_far (p := ⟨gb190, 1, none⟩) (Kd.N_far (p := ⟨gb190, 0, none⟩) (Kd.N_mono HO178.out (fun k_ hk => (⟨hk, hk.2⟩ : _ ∧ k_ ≠ gb190))) (fun _ hk => hk.2) (.bool t184)) (fun _ hk => hk.2) (.string t185)) (fun _ hk => hk.2) (.slice Ao62 t186.length co62)) (fun _ h_ => h_.1))) (by first | exact Kd.N_base ho0 | exact Kd.R_base ho0) hb); have n2_ := Aside0.mk (Kd.R_below (by (with_reducible repeat (first | apply Kd.R_alloc | apply Kd.R_drewN | apply Kd.R_drew)); exact (Kd.R_mono (Kd.R_far (p := ⟨gb190, 2, none⟩) (Kd.R_far (p := ⟨gb190, 1, none⟩) (Kd.R_far (p := ⟨gb190, 0, none⟩) (Kd.R_types HO183.out BK190.out (by decide)) (fun _ hk => hk.2) (.bool t184)) (fun _ hk => hk.2) (.string t185)) (fun _ hk => hk.2) (.slice Ao62 t186.length co62)) (fun _ h_ => h_.1))) hb); have n3_ := Aside0.mk (Kd.N_elder' (by (with_reducible repeat (first | apply Kd.N_alloc | apply Kd.N_drewN | apply Kd.N_drew)); exact (Kd.N_mono (Kd.N_far (p := ⟨gb190, 2, none⟩) (Kd.N_far (p := ⟨gb190, 1, none⟩) (Kd.N_far (p := ⟨gb190, 0, none⟩) (Kd.N_mono HO188.out (fun k_ hk => (⟨hk, hk.2⟩ : _ ∧ k_ ≠ gb190))) (fun _ hk => hk.2) (.bool t184)) (fun _ hk => hk.2) (.string t185)) (fun _ hk => hk.2) (.slice Ao62 t186.length co62)) (fun _ h_ => h_.1))) (by first | exact Kd.N_base ho0 | exact Kd.R_base ho0) hb); have n4_ := Aside0.mk (Kd.N_lower (Kd.N_mono (ok' := fun k_ => some k_ ≠ (.slice Ao39 y168.length co39 : Value).ownBlock ∧ some k_ ≠ (.slice Ao51 t176.length co51 : Value).ownBlock ∧ some k_ ≠ (.slice Ao55 y181.length co55 : Value).ownBlock ∧ some k_ ≠ (.slice Ao62 t186.length co62 : Value).ownBlock ∧ k_ ≠ gb157 ∧ k_ ≠ gb171 ∧ k_ ≠ gb180 ∧ k_ ≠ gb190) (Kd.R_N (Kd.R_bound ho0)) (fun k_ hk_ => ⟨(Kd.fresh' (Kd.N_lt (by (with_reducible repeat (first | apply Kd.N_alloc | apply Kd.N_drewN | apply Kd.N_drew)); exact (Kd.N_mono (Kd.N_far (p := ⟨gb190, 2, none⟩) (Kd.N_far (p := ⟨gb190, 1, none⟩) (Kd.N_far (p := ⟨gb190, 0, none⟩) (Kd.N_mono HO170.out (fun k_ hk => (⟨hk, hk.2⟩ : _ ∧ k_ ≠ gb190))) (fun _ hk => hk.2) (.bool t184)) (fun _ hk => hk.2) (.string t185)) (fun _ hk => hk.2) (.slice Ao62 t186.length co62)) (fun _ h_ => h_.1)))) k_ hk_.2.1), (Kd.fresh' (Kd.N_lt (by (with_reducible repeat (first | apply Kd.N_alloc | apply Kd.N_drewN | apply Kd.N_drew)); exact (Kd.N_mono (Kd.N_far (p := ⟨gb190, 2, none⟩) (Kd.N_far (p := ⟨gb190, 1, none⟩) (Kd.N_far (p := ⟨gb190, 0, none⟩) (Kd.N_mono HO178.out (fun k_ hk => (⟨hk, hk.2⟩ : _ ∧ k_ ≠ gb190))) (fun _ hk => hk.2) (.bool t184)) (fun _ hk => hk.2) (.string t185)) (fun _ hk => hk.2) (.slice Ao62 t186.length co62)) (fun _ h_ => h_.1)))) k_ hk_.2.1), (Kd.fresh' (Kd.R_lt (by (with_reducible repeat (first | apply Kd.R_alloc | apply Kd.R_drewN | apply Kd.R_drew)); exact (Kd.R_mono (Kd.R_far (p := ⟨gb190, 2, none⟩) (Kd.R_far (p := ⟨gb190, 1, none⟩) (Kd.R_far (p := ⟨gb190, 0, none⟩) (Kd.R_types HO183.out BK190.out (by decide)) (fun _ hk => hk.2) (.bool t184)) (fun _ hk => hk.2) (.string t185)) (fun _ hk => hk.2) (.slice Ao62 t186.length co62)) (fun _ h_ => h_.1)))) k_ hk_.2.1), (Kd.fresh' (Kd.N_lt (by (with_reducible repeat (first | apply Kd.N_alloc | apply Kd.N_drewN | apply Kd.N_drew)); exact (Kd.N_mono (Kd.N_far (p := ⟨gb190, 2, none⟩) (Kd.N_far (p := ⟨gb190, 1, none⟩) (Kd.N_far (p := ⟨gb190, 0, none⟩) (Kd.N_mono HO188.out (fun k_ hk => (⟨hk, hk.2⟩ : _ ∧ k_ ≠ gb190))) (fun _ hk => hk.2) (.bool t184)) (fun _ hk => hk.2) (.string t185)) (fun _ hk => hk.2) (.slice Ao62 t186.length co62)) (fun _ h_ => h_.1)))) k_ hk_.2.1), (Kd.freshB (g := gb157) (o := .cells #[.bool true, .string (⟨#[]⟩ : ByteArray), .slice Ao25 y154.length co25] 25 (0, 0)) (by (with_reducible repeat (first | refine blk_drewN ?_ _ | refine blk_drew ?_ | refine blk_alloc ?_ _)); refine blk_far ?_ NB157_190.out _; (with_reducible repeat (first | refine blk_drewN ?_ _ | refine blk_drew ?_ | refine blk_alloc ?_ _)); refine blk_far ?_ NB157_190.out _; (with_reducible repeat (first | refine blk_drewN ?_ _ | refine blk_drew ?_ | refine blk_alloc ?_ _)); refine blk_far ?_ NB157_190.out _; (with_reducible repeat (first | refine blk_drewN ?_ _ | refine blk_drew ?_ | refine blk_alloc ?_ _)); exact BK157.out) k_ hk_.2.1), (Kd.freshB (g := gb171) (o := .cells #[.bool true, .string (⟨#[]⟩ : ByteArray), .slice Ao39 y168.length co39] 25 (0, 0)) (by (with_reducible repeat (first | refine blk_drewN ?_ _ | refine blk_drew ?_ | refine blk_alloc ?_ _)); refine blk_far ?_ NB171_190.out _; (with_reducible repeat (first | refine blk_drewN ?_ _ | refine blk_drew ?_ | refine blk_alloc ?_ _)); refine blk_far ?_ NB171_190.out _; (with_reducible repeat (first | refine blk_drewN ?_ _ | refine blk_drew ?_ | refine blk_alloc ?_ _)); refine blk_far ?_ NB171_190.out _; (with_reducible repeat (first | refine blk_drewN ?_ _ | refine blk_drew ?_ | refine blk_alloc ?_ _)); exact BK171.out) k_ hk_.2.1), (Kd.freshB (g := gb180) (o := .cells #[.bool t174, .string t175, .slice Ao51 t176.length co51] 25 (0, 0)) (by (with_reducible repeat (first | refine blk_drewN ?_ _ | refine blk_drew ?_ | refine blk_alloc ?_ _)); refine blk_far ?_ NB180_190.out _; (with_reducible repeat (first | refine blk_drewN ?_ _ | refine blk_drew ?_ | refine blk_alloc ?_ _)); refine blk_far ?_ NB180_190.out _; (with_reducible repeat (first | refine blk_drewN ?_ _ | refine blk_drew ?_ | refine blk_alloc ?_ _)); refine blk_far ?_ NB180_190.out _; (with_reducible repeat (first | refine blk_drewN ?_ _ | refine blk_drew ?_ | refine blk_alloc ?_ _)); exact BK180.out) k_ hk_.2.1), (Kd.freshB (g := gb190) (o := .cells #[.bool t184, .string t185, .slice Ao62 t186.length co62] 25 (0, 0)) (by (with_reducible repeat (first | refine blk_drewN ?_ _ | refine blk_drew ?_ | refine blk_alloc ?_ _)); refine blk_put (cs := #[.bool t184, .string t185, .slice none 0 0]) ?_ 2 _ rfl; (with_reducible repeat (first | refine blk_drewN ?_ _ | refine blk_drew ?_ | refine blk_alloc ?_ _)); refine blk_put (cs := #[.bool t184, .string (⟨#[]⟩ : ByteArray), .slice none 0 0]) ?_ 1 _ rfl; (with_reducible repeat (first | refine blk_drewN ?_ _ | refine blk_drew ?_ | refine blk_alloc ?_ _)); refine blk_put (cs := #[.bool false, .string (⟨#[]⟩ : ByteArray), .slice none 0 0]) ?_ 0 _ rfl; (with_reducible repeat (first | refine blk_drewN ?_ _ | refine blk_drew ?_ | refine blk_alloc ?_ _)); exact BK190.out) k_ hk_.2.1)⟩)) (below_size (by repeat (first | (with_reducible first | exact HB.out | apply below_alloc | apply pw_below_drewN | apply below_drew1 | refine below_set ?_ GE157.out | refine below_set ?_ GE171.out | refine below_set ?_ GE180.out | refine below_set ?_ GE190.out) | exact HB.out)))); have n5_ := Aside0.mk (blk_below (g := gb157) (o := .cells #[.bool true, .string (⟨#[]⟩ : ByteArray), .slice Ao25 y154.length co25] 25 (0, 0)) (by (with_reducible repeat (first | refine blk_drewN ?_ _ | refine blk_drew ?_ | refine blk_alloc ?_ _)); refine blk_far ?_ NB157_190.out _; (with_reducible repeat (first | refine blk_drewN ?_ _ | refine blk_drew ?_ | refine blk_alloc ?_ _)); refine blk_far ?_ NB157_190.out _; (with_reducible repeat (first | refine blk_drewN ?_ _ | refine blk_drew ?_ | refine blk_alloc ?_ _)); refine blk_far ?_ NB157_190.out _; (with_reducible repeat (first | refine blk_drewN ?_ _ | refine blk_drew ?_ | refine blk_alloc ?_ _)); exact BK157.out) hb); have n6_ := Aside0.mk (blk_below (g := gb171) (o := .cells #[.bool true, .string (⟨#[]⟩ : ByteArray), .slice Ao39 y168.length co39] 25 (0, 0)) (by (with_reducible repeat (first | refine blk_drewN ?_ _ | refine blk_drew ?_ | refine blk_alloc ?_ _)); refine blk_far ?_ NB171_190.out _; (with_reducible repeat (first | refine blk_drewN ?_ _ | refine blk_drew ?_ | refine blk_alloc ?_ _)); refine blk_far ?_ NB171_190.out _; (with_reducible repeat (first | refine blk_drewN ?_ _ | refine blk_drew ?_ | refine blk_alloc ?_ _)); refine blk_far ?_ NB171_190.out _; (with_reducible repeat (first | refine blk_drewN ?_ _ | refine blk_drew ?_ | refine blk_alloc ?_ _)); exact BK171.out) hb); have n7_ := Aside0.mk (blk_below (g := gb180) (o := .cells #[.bool t174, .string t175, .slice Ao51 t176.length co51] 25 (0, 0)) (by (with_reducible repeat (first | refine blk_drewN ?_ _ | refine blk_drew ?_ | refine blk_alloc ?_ _)); refine blk_far ?_ NB180_190.out _; (with_reducible repeat (first | refine blk_drewN ?_ _ | refine blk_drew ?_ | refine blk_alloc ?_ _)); refine blk_far ?_ NB180_190.out _; (with_reducible repeat (first | refine blk_drewN ?_ _ | refine blk_drew ?_ | refine blk_alloc ?_ _)); refine blk_far ?_ NB180_190.out _; (with_reducible repeat (first | refine blk_drewN ?_ _ | refine blk_drew ?_ | refine blk_alloc ?_ _)); exact BK180.out) hb); have n8_ := Aside0.mk (blk_below (g := gb190) (o := .cells #[.bool t184, .string t185, .slice Ao62 t186.length co62] 25 (0, 0)) (by (with_reducible repeat (first | refine blk_drewN ?_ _ | refine blk_drew ?_ | refine blk_alloc ?_ _)); refine blk_put (cs := #[.bool t184, .string t185, .slice none 0 0]) ?_ 2 _ rfl; (with_reducible repeat (first | refine blk_drewN ?_ _ | refine blk_drew ?_ | refine blk_alloc ?_ _)); refine blk_put (cs := #[.bool t184, .string (⟨#[]⟩ : ByteArray), .slice none 0 0]) ?_ 1 _ rfl; (with_reducible repeat (first | refine blk_drewN ?_ _ | refine blk_drew ?_ | refine blk_alloc ?_ _)); refine blk_put (cs := #[.bool false, .string (⟨#[]⟩ : ByteArray), .slice none 0 0]) ?_ 0 _ rfl; (with_reducible repeat (first | refine blk_drewN ?_ _ | refine blk_drew ?_ | refine blk_alloc ?_ _)); exact BK190.out) hb); have n9_ := Aside0.mk (below_step (by repeat (first | (with_reducible first | exact HB.out | apply below_alloc | apply pw_below_drewN | apply below_drew1 | refine below_set ?_ GE157.out | refine below_set ?_ GE171.out | refine below_set ?_ GE180.out | refine below_set ?_ GE190.out) | exact HB.out)) hb); clear HO170; clear HO178; clear HO183; clear HO188; clear BK157; clear BK171; clear BK180; clear BK190; clear HB; have HO170 := n0_; have HO178 := n1_; have HO183 := n2_; have HO188 := n3_; have HO195 := n4_; have BK157 := n5_; have BK171 := n6_; have BK180 := n7_; have BK190 := n8_; have HB := n9_; clear n0_ n1_ n2_ n3_ n4_ n5_ n6_ n7_ n8_ n9_; (try clear hb); (try clear hb2); (try clear hk); (try clear hi); (try clear ho0)) | ((with_reducible refine gate_dst (N := 9) rfl ?_); refine box_event ?hg (N := 9) ?hd (cs := #[.bool false, .string (⟨#[]⟩ : ByteArray), .slice none 0 0]) (t := 25) ?hr ?_; (case hd => rfl); (case hg => rfl); (case hr => first | (go_simp; done) | (go_simp; rfl)); intro gb197 hg w64 hbox hb; have n0_ := Aside0.mk (Kd.N_below (Kd.N_elderB (by (with_reducible repeat (first | apply Kd.N_alloc | apply Kd.N_drewN | apply Kd.N_drew)); exact HO170.out) gb197 (Nat.le_of_eq hg.symm)) hb); have n1_ := Aside0.mk (Kd.N_below (Kd.N_elderB (by (with_reducible repeat (first | apply Kd.N_alloc | apply Kd.N_drewN | apply Kd.N_drew)); exact HO178.out) gb197 (Nat.le_of_eq hg.symm)) hb); have n2_ := Aside0.mk (Kd.R_below (by (with_reducible repeat (first | apply Kd.R_alloc | apply Kd.R_drewN | apply Kd.R_drew)); exact HO183.out) hb); have n3_ := Aside0.mk (Kd.N_below (Kd.N_elderB (by (with_reducible repeat (first | apply Kd.N_alloc | apply Kd.N_drewN | apply Kd.N_drew)); exact HO188.out) gb197 (Nat.le_of_eq hg.symm)) hb); have n4_ := Aside0.mk (Kd.N_below (Kd.N_elderB (by (with_reducible repeat (first | apply Kd.N_alloc | apply Kd.N_drewN | apply Kd.N_drew)); exact HO195.out) gb197 (Nat.le_of_eq hg.symm)) hb); have n5_ := Aside0.mk (blk_below (g := gb157) (o := .cells #[.bool true, .string (⟨#[]⟩ : ByteArray), .slice Ao25 y154.length co25] 25 (0, 0)) (by (with_reducible repeat (first | refine blk_drewN ?_ _ | refine blk_drew ?_ | refine blk_alloc ?_ _)); exact BK157.out) hb); have n6_ := Aside0.mk (blk_below (g := gb171) (o := .cells #[.bool true, .string (⟨#[]⟩ : ByteArray), .slice Ao39 y168.length co39] 25 (0, 0)) (by (with_reducible repeat (first | refine blk_drewN ?_ _ | refine blk_drew ?_ | refine blk_alloc ?_ _)); exact BK171.out) hb); have n7_ := Aside0.mk (blk_below (g := gb180) (o := .cells #[.bool t174, .string t175, .slice Ao51 t176.length co51] 25 (0, 0)) (by (with_reducible repeat (first | refine blk_drewN ?_ _ | refine blk_drew ?_ | refine blk_alloc ?_ _)); exact BK180.out) hb); have n8_ := Aside0.mk (blk_below (g := gb190) (o := .cells #[.bool t184, .string t185, .slice Ao62 t186.length co62] 25 (0, 0)) (by (with_reducible repeat (first | refine blk_drewN ?_ _ | refine blk_drew ?_ | refine blk_alloc ?_ _)); exact BK190.out) hb); have n9_ := Aside0.mk (below_step (by repeat (first | (with_reducible first | exact HB.out | apply below_alloc | apply pw_below_drewN | apply below_drew1 | refine below_set ?_ GE157.out | refine below_set ?_ GE171.out | refine below_set ?_ GE180.out | refine below_set ?_ GE190.out) | exact HB.out)) hb); have n10_ := Aside0.mk (hbox); have n11_ := Aside0.mk ((by rw [hg]; exact (below_size (by repeat (first | (with_reducible first | exact HB.out | apply below_alloc | apply pw_below_drewN | apply below_drew1 | refine below_set ?_ GE157.out | refine below_set ?_ GE171.out | refine below_set ?_ GE180.out | refine below_set ?_ GE190.out) | exact HB.out))) : w.heap.size ≤ gb197)); have n12_ := Aside0.mk ((by rw [hg]; exact (below_size (by repeat (first | (with_reducible first | exact HB.out | apply below_alloc | apply pw_below_drewN | apply below_drew1 | refine below_set ?_ GE157.out | refine below_set ?_ GE171.out | refine below_set ?_ GE180.out | refine below_set ?_ GE190.out) | exact HB.out))) : w.heap.size ≤ gb197)); have n13_ := Aside0.mk ((by rw [hg]; exact Nat.ne_of_lt (blk_lt (g := gb157) (o := .cells #[.bool true, .string (⟨#[]⟩ : ByteArray), .slice Ao25 y154.length co25] 25 (0, 0)) (by (with_reducible repeat (first | refine blk_drewN ?_ _ | refine blk_drew ?_ | refine blk_alloc ?_ _)); exact BK157.out)) : gb157 ≠ gb197)); have n14_ := Aside0.mk ((by rw [hg]; exact Nat.ne_of_gt (blk_lt (g := gb157) (o := .cells #[.bool true, .string (⟨#[]⟩ : ByteArray), .slice Ao25 y154.length co25] 25 (0, 0)) (by (with_reducible repeat (first | refine blk_drewN ?_ _ | refine blk_drew ?_ | refine blk_alloc ?_ _)); exact BK157.out)) : gb197 ≠ gb157)); have n15_ := Aside0.mk ((by rw [hg]; exact Nat.ne_of_lt (blk_lt (g := gb171) (o := .cells #[.bool true, .string (⟨#[]⟩ : ByteArray), .slice Ao39 y168.length co39] 25 (0, 0)) (by (with_reducible repeat (first | refine blk_drewN ?_ _ | refine blk_drew ?_ | refine blk_alloc ?_ _)); exact BK171.out)) : gb171 ≠ gb197)); have n16_ := Aside0.mk ((by rw [hg]; exact Nat.ne_of_gt (blk_lt (g := gb171) (o := .cells #[.bool true, .string (⟨#[]⟩ : ByteArray), .slice Ao39 y168.length co39] 25 (0, 0)) (by (with_reducible repeat (first | refine blk_drewN ?_ _ | refine blk_drew ?_ | refine blk_alloc ?_ _)); exact BK171.out)) : gb197 ≠ gb171)); have n17_ := Aside0.mk ((by rw [hg]; exact Nat.ne_of_lt (blk_lt (g := gb180) (o := .cells #[.bool t174, .string t175, .slice Ao51 t176.length co51] 25 (0, 0)) (by (with_reducible repeat (first | refine blk_drewN ?_ _ | refine blk_drew ?_ | refine blk_alloc ?_ _)); exact BK180.out)) : gb180 ≠ gb197)); have n18_ := Aside0.mk ((by rw [hg]; exact Nat.ne_of_gt (blk_lt (g := gb180) (o := .cells #[.bool t174, .string t175, .slice Ao51 t176.length co51] 25 (0, 0)) (by (with_reducible repeat (first | refine blk_drewN ?_ _ | refine blk_drew ?_ | refine blk_alloc ?_ _)); exact BK180.out)) : gb197 ≠ gb180)); have n19_ := Aside0.mk ((by rw [hg]; exact Nat.ne_of_lt (blk_lt (g := gb190) (o := .cells #[.bool t184, .string t185, .slice Ao62 t186.length co62] 25 (0, 0)) (by (with_reducible repeat (first | refine blk_drewN ?_ _ | refine blk_drew ?_ | refine blk_alloc ?_ _)); exact BK190.out)) : gb190 ≠ gb197)); have n20_ := Aside0.mk ((by rw [hg]; exact Nat.ne_of_gt (blk_lt (g := gb190) (o := .cells #[.bool t184, .string t185, .slice Ao62 t186.length co62] 25 (0, 0)) (by (with_reducible repeat (first | refine blk_drewN ?_ _ | refine blk_drew ?_ | refine blk_alloc ?_ _)); exact BK190.out)) : gb197 ≠ gb190)); clear HO170; clear HO178; clear HO183; clear HO188; clear HO195; clear BK157; clear BK171; clear BK180; clear BK190; clear HB; have HO170 := n0_; have HO178 := n1_; have HO183 := n2_; have HO188 := n3_; have HO195 := n4_; have BK157 := n5_; have BK171 := n6_; have BK180 := n7_; have BK190 := n8_; have HB := n9_; have BK197 := n10_; have GW197 := n11_; have GE197 := n12_; have NB157_197 := n13_; have NB197_157 := n14_; have NB171_197 := n15_; have NB197_171 := n16_; have NB180_197 := n17_; have NB197_180 := n18_; have NB190_197 := n19_; have NB197_190 := n20_; clear n0_ n1_ n2_ n3_ n4_ n5_ n6_ n7_ n8_ n9_ n10_ n11_ n12_ n13_ n14_ n15_ n16_ n17_ n18_ n19_ n20_; clear hb hbox hg; have hnb65 := NB197_157.out; have hnc65 := NB157_197.out; have hnb66 := NB197_171.out; have hnc66 := NB171_197.out; have hnb67 := NB197_180.out; have hnc67 := NB180_197.out; have hnb68 := NB197_190.out; have hnc68 := NB190_197.out; have hcz69_0 : w64.cell? ⟨gb197, 0, none⟩ = some (.bool false) := (blk_cell BK197.out 0).trans rfl; have hcz69_1 : w64.cell? ⟨gb197, 1, none⟩ = some (.string (⟨#[]⟩ : ByteArray)) := (blk_cell BK197.out 1).trans rfl; have hcz69_2 : w64.cell? ⟨gb197, 2, none⟩ = some (.slice none 0 0) := (blk_cell BK197.out 2).trans rfl; have hfz69_0 := blk_frozen BK197.out 0; have hfz69_1 := blk_frozen BK197.out 1; have hfz69_2 := blk_frozen BK197.out 2; obtain ⟨Ao70, co70, eo70⟩ := Kd.N_slice HO195.out; subst eo70) | ((with_reducible refine gate_callee (f := 11) rfl ?_); refine goesL_ (some 43) rfl rfl Tryd.func11 (by kernel_rfl) rfl #[.string (⟨#[48, 50, 58, 97, 98]⟩ : ByteArray)] rfl (by (try simp only [List.map_toArray, List.map_cons, List.map_nil]); first | done | rfl | (simp only [List.length_drop, List.length_take]; rfl)) ?_; (with_reducible refine (codec_Decode.calls k (⟨#[48, 50, 58, 97, 98]⟩ : ByteArray) t198 t199 t200 t203 _ A8.out).mono ?_); rintro e w71 ⟨v201, rfl, ho0, hb⟩; refine ⟨_, rfl, ?_⟩; have n0_ := Aside0.mk (Kd.N_elder' (by (with_reducible repeat (first | apply Kd.N_alloc | apply Kd.N_drewN | apply Kd.N_drew)); exact (Kd.N_mono (Kd.N_far (p := ⟨gb197, 2, none⟩) (Kd.N_far (p := ⟨gb197, 1, none⟩) (Kd.N_far (p := ⟨gb197, 0, none⟩) (Kd.N_mono HO170.out (fun k_ hk => (⟨hk, hk.2⟩ : _ ∧ k_ ≠ gb197))) (fun _ hk => hk.2) (.bool t191)) (fun _ hk => hk.2) (.string t192)) (fun _ hk => hk.2) (.slice Ao70 t193.length co70)) (fun _ h_ => h_.1))) (by first | exact Kd.N_base ho0 | exact Kd.R_base ho0) hb); have n1_ := Aside0.mk (Kd.N_elder' (by (with_reducible repeat (first | apply Kd.N_alloc | apply Kd.N_drewN | apply Kd.N_drew)); exact (Kd.N_mono (Kd.N_far (p := ⟨gb197, 2, none⟩) (Kd.N_far (p := ⟨gb197, 1, none⟩) (Kd.N_far (p := ⟨gb197, 0, none⟩) (Kd.N_mono HO178.out (fun k_ hk => (⟨hk, hk.2⟩ : _ ∧ k_ ≠ gb197))) (fun _ hk => hk.2) (.bool t191)) (fun _ hk => hk.2) (.string t192)) (fun _ hk => hk.2) (.slice Ao70 t193.length co70)) (fun _ h_ => h_.1))) (by first | exact Kd.N_base ho0 | exact Kd.R_base ho0) hb); have n2_ := Aside0.mk (Kd.R_below (by (with_reducible repeat (first | apply Kd.R_alloc | apply Kd.R_drewN | apply Kd.R_drew)); exact (Kd.R_mono (Kd.R_far (p := ⟨gb197, 2, none⟩) (Kd.R_far (p := ⟨gb197, 1, none⟩) (Kd.R_far (p := ⟨gb197, 0, none⟩) (Kd.R_types HO183.out BK197.out (by decide)) (fun _ hk => hk.2) (.bool t191)) (fun _ hk => hk.2) (.string t192)) (fun _ hk => hk.2) (.slice Ao70 t193.length co70)) (fun _ h_ => h_.1))) hb); have n3_ := Aside0.mk (Kd.N_elder' (by (with_reducible repeat (first | apply Kd.N_alloc | apply Kd.N_drewN | apply Kd.N_drew)); exact (Kd.N_mono (Kd.N_far (p := ⟨gb197, 2, none⟩) (Kd.N_far (p := ⟨gb197, 1, none⟩) (Kd.N_far (p := ⟨gb197, 0, none⟩) (Kd.N_mono HO188.out (fun k_ hk => (⟨hk, hk.2⟩ : _ ∧ k_ ≠ gb197))) (fun _ hk => hk.2) (.bool t191)) (fun _ hk => hk.2) (.string t192)) (fun _ hk => hk.2) (.slice Ao70 t193.length co70)) (fun _ h_ => h_.1))) (by first | exact Kd.N_base ho0 | exact Kd.R_base ho0) hb); have n4_ := Aside0.mk (Kd.N_elder' (by (with_reducible repeat (first | apply Kd.N_alloc | apply Kd.N_drewN | apply Kd.N_drew)); exact (Kd.N_mono (Kd.N_far (p := ⟨gb197, 2, none⟩) (Kd.N_far (p := ⟨gb197, 1, none⟩) (Kd.N_far (p := ⟨gb197, 0, none⟩) (Kd.N_mono HO195.out (fun k_ hk => (⟨hk, hk.2⟩ : _ ∧ k_ ≠ gb197))) (fun _ hk => hk.2) (.bool t191)) (fun _ hk => hk.2) (.string t192)) (fun _ hk => hk.2) (.slice Ao70 t193.length co70)) (fun _ h_ => h_.1))) (by first | exact Kd.N_base ho0 | exact Kd.R_base ho0) hb); have n5_ := Aside0.mk (Kd.N_lower (Kd.N_mono (ok' := fun k_ => some k_ ≠ (.slice Ao39 y168.length co39 : Value).ownBlock ∧ some k_ ≠ (.slice Ao51 t176.length co51 : Value).ownBlock ∧ some k_ ≠ (.slice Ao55 y181.length co55 : Value).ownBlock ∧ some k_ ≠ (.slice Ao62 t186.length co62 : Value).ownBlock ∧ some k_ ≠ (.slice Ao70 t193.length co70 : Value).ownBlock ∧ k_ ≠ gb157 ∧ k_ ≠ gb171 ∧ k_ ≠ gb180 ∧ k_ ≠ gb190 ∧ k_ ≠ gb197) (Kd.R_N (Kd.R_bound ho0)) (fun k_ hk_ => ⟨(Kd.fresh' (Kd.N_lt (by (with_reducible repeat (first | apply Kd.N_alloc | apply Kd.N_drewN | apply Kd.N_drew)); exact (Kd.N_mono (Kd.N_far (p := ⟨gb197, 2, none⟩) (Kd.N_far (p := ⟨gb197, 1, none⟩) (Kd.N_far (p := ⟨gb197, 0, none⟩) (Kd.N_mono HO170.out (fun k_ hk => (⟨hk, hk.2⟩ : _ ∧ k_ ≠ gb197))) (fun _ hk => hk.2) (.bool t191)) (fun _ hk => hk.2) (.string t192)) (fun _ hk => hk.2) (.slice Ao70 t193.length co70)) (fun _ h_ => h_.1)))) k_ hk_.2.1), (Kd.fresh' (Kd.N_lt (by (with_reducible repeat (first | apply Kd.N_alloc | apply Kd.N_drewN | apply Kd.N_drew)); exact (Kd.N_mono (Kd.N_far (p := ⟨gb197, 2, none⟩) (Kd.N_far (p := ⟨gb197, 1, none⟩) (Kd.N_far (p := ⟨gb197, 0, none⟩) (Kd.N_mono HO178.out (fun k_ hk => (⟨hk, hk.2⟩ : _ ∧ k_ ≠ gb197))) (fun _ hk => hk.2) (.bool t191)) (fun _ hk => hk.2) (.string t192)) (fun _ hk => hk.2) (.slice Ao70 t193.length co70)) (fun _ h_ => h_.1)))) k_ hk_.2.1), (Kd.fresh' (Kd.R_lt (by (with_reducible repeat (first | apply Kd.R_alloc | apply Kd.R_drewN | apply Kd.R_drew)); exact (Kd.R_mono (Kd.R_far (p := ⟨gb197, 2, none⟩) (Kd.R_far (p := ⟨gb197, 1, none⟩) (Kd.R_far (p := ⟨gb197, 0, none⟩) (Kd.R_types HO183.out BK197.out (by decide)) (fun _ hk => hk.2) (.bool t191)) (fun _ hk => hk.2) (.string t192)) (fun _ hk => hk.2) (.slice Ao70 t193.length co70)) (fun _ h_ => h_.1)))) k_ hk_.2.1), (Kd.fresh' (Kd.N_lt (by (with_reducible repeat (first | apply Kd.N_alloc | apply Kd.N_drewN | apply Kd.N_drew)); exact (Kd.N_mono (Kd.N_far (p := ⟨gb197, 2, none⟩) (Kd.N_far (p := ⟨gb197, 1, none⟩) (Kd.N_far (p := ⟨gb197, 0, none⟩) (Kd.N_mono HO188.out (fun k_ hk => (⟨hk, hk.2⟩ : _ ∧ k_ ≠ gb197))) (fun _ hk => hk.2) (.bool t191)) (fun _ hk => hk.2) (.string t192)) (fun _ hk => hk.2) (.slice Ao70 t193.length co70)) (fun _ h_ => h_.1)))) k_ hk_.2.1), (Kd.fresh' (Kd.N_lt (by (with_reducible repeat (first | apply Kd.N_alloc | apply Kd.N_drewN | apply Kd.N_drew)); exact (Kd.N_mono (Kd.N_far (p := ⟨gb197, 2, none⟩) (Kd.N_far (p := ⟨gb197, 1, none⟩) (Kd.N_far (p := ⟨gb197, 0, none⟩) (Kd.N_mono HO195.out (fun k_ hk => (⟨hk, hk.2⟩ : _ ∧ k_ ≠ gb197))) (fun _ hk => hk.2) (.bool t191)) (fun _ hk => hk.2) (.string t192)) (fun _ hk => hk.2) (.slice Ao70 t193.length co70)) (fun _ h_ => h_.1)))) k_ hk_.2.1), (Kd.freshB (g := gb157) (o := .cells #[.bool true, .string (⟨#[]⟩ : ByteArray), .slice Ao25 y154.length co25] 25 (0, 0)) (by (with_reducible repeat (first | refine blk_drewN ?_ _ | refine blk_drew ?_ | refine blk_alloc ?_ _)); refine blk_far ?_ NB157_197.out _; (with_reducible repeat (first | refine blk_drewN ?_ _ | refine blk_drew ?_ | refine blk_alloc ?_ _)); refine blk_far ?_ NB157_197.out _; (with_reducible repeat (first | refine blk_drewN ?_ _ | refine blk_drew ?_ | refine blk_alloc ?_ _)); refine blk_far ?_ NB157_197.out _; (with_reducible repeat (first | refine blk_drewN ?_ _ | refine blk_drew ?_ | refine blk_alloc ?_ _)); exact BK157.out) k_ hk_.2.1), (Kd.freshB (g := gb171) (o := .cells #[.bool true, .string (⟨#[]⟩ : ByteArray), .slice Ao39 y168.length co39] 25 (0, 0)) (by (with_reducible repeat (first | refine blk_drewN ?_ _ | refine blk_drew ?_ | refine blk_alloc ?_ _)); refine blk_far ?_ NB171_197.out _; (with_reducible repeat (first | refine blk_drewN ?_ _ | refine blk_drew ?_ | refine blk_alloc ?_ _)); refine blk_far ?_ NB171_197.out _; (with_reducible repeat (first | refine blk_drewN ?_ _ | refine blk_drew ?_ | refine blk_alloc ?_ _)); refine blk_far ?_ NB171_197.out _; (with_reducible repeat (first | refine blk_drewN ?_ _ | refine blk_drew ?_ | refine blk_alloc ?_ _)); exact BK171.out) k_ hk_.2.1), (Kd.freshB (g := gb180) (o := .cells #[.bool t174, .string t175, .slice Ao51 t176.length co51] 25 (0, 0)) (by (with_reducible repeat (first | refine blk_drewN ?_ _ | refine blk_drew ?_ | refine blk_alloc ?_ _)); refine blk_far ?_ NB180_197.out _; (with_reducible repeat (first | refine blk_drewN ?_ _ | refine blk_drew ?_ | refine blk_alloc ?_ _)); refine blk_far ?_ NB180_197.out _; (with_reducible repeat (first | refine blk_drewN ?_ _ | refine blk_drew ?_ | refine blk_alloc ?_ _)); refine blk_far ?_ NB180_197.out _; (with_reducible repeat (first | refine blk_drewN ?_ _ | refine blk_drew ?_ | refine blk_alloc ?_ _)); exact BK180.out) k_ hk_.2.1), (Kd.freshB (g := gb190) (o := .cells #[.bool t184, .string t185, .slice Ao62 t186.length co62] 25 (0, 0)) (by (with_reducible repeat (first | refine blk_drewN ?_ _ | refine blk_drew ?_ | refine blk_alloc ?_ _)); refine blk_far ?_ NB190_197.out _; (with_reducible repeat (first | refine blk_drewN ?_ _ | refine blk_drew ?_ | refine blk_alloc ?_ _)); refine blk_far ?_ NB190_197.out _; (with_reducible repeat (first | refine blk_drewN ?_ _ | refine blk_drew ?_ | refine blk_alloc ?_ _)); refine blk_far ?_ NB190_197.out _; (with_reducible repeat (first | refine blk_drewN ?_ _ | refine blk_drew ?_ | refine blk_alloc ?_ _)); exact BK190.out) k_ hk_.2.1), (Kd.freshB (g := gb197) (o := .cells #[.bool t191, .string t192, .slice Ao70 t193.length co70] 25 (0, 0)) (by (with_reducible repeat (first | refine blk_drewN ?_ _ | refine blk_drew ?_ | refine blk_alloc ?_ _)); refine blk_put (cs := #[.bool t191, .string t192, .slice none 0 0]) ?_ 2 _ rfl; (with_reducible repeat (first | refine blk_drewN ?_ _ | refine blk_drew ?_ | refine blk_alloc ?_ _)); refine blk_put (cs := #[.bool t191, .string (⟨#[]⟩ : ByteArray), .slice none 0 0]) ?_ 1 _ rfl; (with_reducible repeat (first | refine blk_drewN ?_ _ | refine blk_drew ?_ | refine blk_alloc ?_ _)); refine blk_put (cs := #[.bool false, .string (⟨#[]⟩ : ByteArray), .slice none 0 0]) ?_ 0 _ rfl; (with_reducible repeat (first | refine blk_drewN ?_ _ | refine blk_drew ?_ | refine blk_alloc ?_ _)); exact BK197.out) k_ hk_.2.1)⟩)) (below_size (by repeat (first | (with_reducible first | exact HB.out | apply below_alloc | apply pw_below_drewN | apply below_drew1 | refine below_set ?_ GE157.out | refine below_set ?_ GE171.out | refine below_set ?_ GE180.out | refine below_set ?_ GE190.out | refine below_set ?_ GE197.out) | exact HB.out)))); have n6_ := Aside0.mk (blk_below (g := gb157) (o := .cells #[.bool true, .string (⟨#[]⟩ : ByteArray), .slice Ao25 y154.length co25] 25 (0, 0)) (by (with_reducible repeat (first | refine blk_drewN ?_ _ | refine blk_drew ?_ | refine blk_alloc ?_ _)); refine blk_far ?_ NB157_197.out _; (with_reducible repeat (first | refine blk_drewN ?_ _ | refine blk_drew ?_ | refine blk_alloc ?_ _)); refine blk_far ?_ NB157_197.out _; (with_reducible repeat (first | refine blk_drewN ?_ _ | refine blk_drew ?_ | refine blk_alloc ?_ _)); refine blk_far ?_ NB157_197.out _; (with_reducible repeat (first | refine blk_drewN ?_ _ | refine blk_drew ?_ | refine blk_alloc ?_ _)); exact BK157.out) hb); have n7_ := Aside0.mk (blk_below (g := gb171) (o := .cells #[.bool true, .string (⟨#[]⟩ : ByteArray), .slice Ao39 y168.length co39] 25 (0, 0)) (by (with_reducible repeat (first | refine blk_drewN ?_ _ | refine blk_drew ?_ | refine blk_alloc ?_ _)); refine blk_far ?_ NB171_197.out _; (with_reducible repeat (first | refine blk_drewN ?_ _ | refine blk_drew ?_ | refine blk_alloc ?_ _)); refine blk_far ?_ NB171_197.out _; (with_reducible repeat (first | refine blk_drewN ?_ _ | refine blk_drew ?_ | refine blk_alloc ?_ _)); refine blk_far ?_ NB171_197.out _; (with_reducible repeat (first | refine blk_drewN ?_ _ | refine blk_drew ?_ | refine blk_alloc ?_ _)); exact BK171.out) hb); have n8_ := Aside0.mk (blk_below (g := gb180) (o := .cells #[.bool t174, .string t175, .slice Ao51 t176.length co51] 25 (0, 0)) (by (with_reducible repeat (first | refine blk_drewN ?_ _ | refine blk_drew ?_ | refine blk_alloc ?_ _)); refine blk_far ?_ NB180_197.out _; (with_reducible repeat (first | refine blk_drewN ?_ _ | refine blk_drew ?_ | refine blk_alloc ?_ _)); refine blk_far ?_ NB180_197.out _; (with_reducible repeat (first | refine blk_drewN ?_ _ | refine blk_drew ?_ | refine blk_alloc ?_ _)); refine blk_far ?_ NB180_197.out _; (with_reducible repeat (first | refine blk_drewN ?_ _ | refine blk_drew ?_ | refine blk_alloc ?_ _)); exact BK180.out) hb); have n9_ := Aside0.mk (blk_below (g := gb190) (o := .cells #[.bool t184, .string t185, .slice Ao62 t186.length co62] 25 (0, 0)) (by (with_reducible repeat (first | refine blk_drewN ?_ _ | refine blk_drew ?_ | refine blk_alloc ?_ _)); refine blk_far ?_ NB190_197.out _; (with_reducible repeat (first | refine blk_drewN ?_ _ | refine blk_drew ?_ | refine blk_alloc ?_ _)); refine blk_far ?_ NB190_197.out _; (with_reducible repeat (first | refine blk_drewN ?_ _ | refine blk_drew ?_ | refine blk_alloc ?_ _)); refine blk_far ?_ NB190_197.out _; (with_reducible repeat (first | refine blk_drewN ?_ _ | refine blk_drew ?_ | refine blk_alloc ?_ _)); exact BK190.out) hb); have n10_ := Aside0.mk (blk_below (g := gb197) (o := .cells #[.bool t191, .string t192, .slice Ao70 t193.length co70] 25 (0, 0)) (by (with_reducible repeat (first | refine blk_drewN ?_ _ | refine blk_drew ?_ | refine blk_alloc ?_ _)); refine blk_put (cs := #[.bool t191, .string t192, .slice none 0 0]) ?_ 2 _ rfl; (with_reducible repeat (first | refine blk_drewN ?_ _ | refine blk_drew ?_ | refine blk_alloc ?_ _)); refine blk_put (cs := #[.bool t191, .string (⟨#[]⟩ : ByteArray), .slice none 0 0]) ?_ 1 _ rfl; (with_reducible repeat (first | refine blk_drewN ?_ _ | refine blk_drew ?_ | refine blk_alloc ?_ _)); refine blk_put (cs := #[.bool false, .string (⟨#[]⟩ : ByteArray), .slice none 0 0]) ?_ 0 _ rfl; (with_reducible repeat (first | refine blk_drewN ?_ _ | refine blk_drew ?_ | refine blk_alloc ?_ _)); exact BK197.out) hb); have n11_ := Aside0.mk (below_step (by repeat (first | (with_reducible first | exact HB.out | apply below_alloc | apply pw_below_drewN | apply below_drew1 | refine below_set ?_ GE157.out | refine below_set ?_ GE171.out | refine below_set ?_ GE180.out | refine below_set ?_ GE190.out | refine below_set ?_ GE197.out) | exact HB.out)) hb); clear HO170; clear HO178; clear HO183; clear HO188; clear HO195; clear BK157; clear BK171; clear BK180; clear BK190; clear BK197; clear HB; have HO170 := n0_; have HO178 := n1_; have HO183 := n2_; have HO188 := n3_; have HO195 := n4_; have HO202 := n5_; have BK157 := n6_; have BK171 := n7_; have BK180 := n8_; have BK190 := n9_; have BK197 := n10_; have HB := n11_; clear n0_ n1_ n2_ n3_ n4_ n5_ n6_ n7_ n8_ n9_ n10_ n11_; (try clear hb); (try clear hb2); (try clear hk); (try clear hi); (try clear ho0)) | ((with_reducible refine gate_dst (N := 11) rfl ?_); refine box_event ?hg (N := 11) ?hd (cs := #[.bool false, .string (⟨#[]⟩ : ByteArray), .slice none 0 0]) (t := 25) ?hr ?_; (case hd => rfl); (case hg => rfl); (case hr => first | (go_simp; done) | (go_simp; rfl)); intro gb204 hg w72 hbox hb; have n0_ := Aside0.mk (Kd.N_below (Kd.N_elderB (by (with_reducible repeat (first | apply Kd.N_alloc | apply Kd.N_drewN | apply Kd.N_drew)); exact HO170.out) gb204 (Nat.le_of_eq hg.symm)) hb); have n1_ := Aside0.mk (Kd.N_below (Kd.N_elderB (by (with_reducible repeat (first | apply Kd.N_alloc | apply Kd.N_drewN | apply Kd.N_drew)); exact HO178.out) gb204 (Nat.le_of_eq hg.symm)) hb); have n2_ := Aside0.mk (Kd.R_below (by (with_reducible repeat (first | apply Kd.R_alloc | apply Kd.R_drewN | apply Kd.R_drew)); exact HO183.out) hb); have n3_ := Aside0.mk (Kd.N_below (Kd.N_elderB (by (with_reducible repeat (first | apply Kd.N_alloc | apply Kd.N_drewN | apply Kd.N_drew)); exact HO188.out) gb204 (Nat.le_of_eq hg.symm)) hb); have n4_ := Aside0.mk (Kd.N_below (Kd.N_elderB (by (with_reducible repeat (first | apply Kd.N_alloc | apply Kd.N_drewN | apply Kd.N_drew)); exact HO195.out) gb204 (Nat.le_of_eq hg.symm)) hb); have n5_ := Aside0.mk (Kd.N_below (Kd.N_elderB (by (with_reducible repeat (first | apply Kd.N_alloc | apply Kd.N_drewN | apply Kd.N_drew)); exact HO202.out) gb204 (Nat.le_of_eq hg.symm)) hb); have n6_ := Aside0.mk (blk_below (g := gb157) (o := .cells #[.bool true, .string (⟨#[]⟩ : ByteArray), .slice Ao25 y154.length co25] 25 (0, 0)) (by (with_reducible repeat (first | refine blk_drewN ?_ _ | refine blk_drew ?_ | refine blk_alloc ?_ _)); exact BK157.out) hb); have n7_ := Aside0.mk (blk_below (g := gb171) (o := .cells #[.bool true, .string (⟨#[]⟩ : ByteArray), .slice Ao39 y168.length co39] 25 (0, 0)) (by (with_reducible repeat (first | refine blk_drewN ?_ _ | refine blk_drew ?_ | refine blk_alloc ?_ _)); exact BK171.out) hb); have n8_ := Aside0.mk (blk_below (g := gb180) (o := .cells #[.bool t174, .string t175, .slice Ao51 t176.length co51] 25 (0, 0)) (by (with_reducible repeat (first | refine blk_drewN ?_ _ | refine blk_drew ?_ | refine blk_alloc ?_ _)); exact BK180.out) hb); have n9_ := Aside0.mk (blk_below (g := gb190) (o := .cells #[.bool t184, .string t185, .slice Ao62 t186.length co62] 25 (0, 0)) (by (with_reducible repeat (first | refine blk_drewN ?_ _ | refine blk_drew ?_ | refine blk_alloc ?_ _)); exact BK190.out) hb); have n10_ := Aside0.mk (blk_below (g := gb197) (o := .cells #[.bool t191, .string t192, .slice Ao70 t193.length co70] 25 (0, 0)) (by (with_reducible repeat (first | refine blk_drewN ?_ _ | refine blk_drew ?_ | refine blk_alloc ?_ _)); exact BK197.out) hb); have n11_ := Aside0.mk (below_step (by repeat (first | (with_reducible first | exact HB.out | apply below_alloc | apply pw_below_drewN | apply below_drew1 | refine below_set ?_ GE157.out | refine below_set ?_ GE171.out | refine below_set ?_ GE180.out | refine below_set ?_ GE190.out | refine below_set ?_ GE197.out) | exact HB.out)) hb); have n12_ := Aside0.mk (hbox); have n13_ := Aside0.mk ((by rw [hg]; exact (below_size (by repeat (first | (with_reducible first | exact HB.out | apply below_alloc | apply pw_below_drewN | apply below_drew1 | refine below_set ?_ GE157.out | refine below_set ?_ GE171.out | refine below_set ?_ GE180.out | refine below_set ?_ GE190.out | refine below_set ?_ GE197.out) | exact HB.out))) : w.heap.size ≤ gb204)); have n14_ := Aside0.mk ((by rw [hg]; exact (below_size (by repeat (first | (with_reducible first | exact HB.out | apply below_alloc | apply pw_below_drewN | apply below_drew1 | refine below_set ?_ GE157.out | refine below_set ?_ GE171.out | refine below_set ?_ GE180.out | refine below_set ?_ GE190.out | refine below_set ?_ GE197.out) | exact HB.out))) : w.heap.size ≤ gb204)); have n15_ := Aside0.mk ((by rw [hg]; exact Nat.ne_of_lt (blk_lt (g := gb157) (o := .cells #[.bool true, .string (⟨#[]⟩ : ByteArray), .slice Ao25 y154.length co25] 25 (0, 0)) (by (with_reducible repeat (first | refine blk_drewN ?_ _ | refine blk_drew ?_ | refine blk_alloc ?_ _)); exact BK157.out)) : gb157 ≠ gb204)); have n16_ := Aside0.mk ((by rw [hg]; exact Nat.ne_of_gt (blk_lt (g := gb157) (o := .cells #[.bool true, .string (⟨#[]⟩ : ByteArray), .slice Ao25 y154.length co25] 25 (0, 0)) (by (with_reducible repeat (first | refine blk_drewN ?_ _ | refine blk_drew ?_ | refine blk_alloc ?_ _)); exact BK157.out)) : gb204 ≠ gb157)); have n17_ := Aside0.mk ((by rw [hg]; exact Nat.ne_of_lt (blk_lt (g := gb171) (o := .cells #[.bool true, .string (⟨#[]⟩ : ByteArray), .slice Ao39 y168.length co39] 25 (0, 0)) (by (with_reducible repeat (first | refine blk_drewN ?_ _ | refine blk_drew ?_ | refine blk_alloc ?_ _)); exact BK171.out)) : gb171 ≠ gb204)); have n18_ := Aside0.mk ((by rw [hg]; exact Nat.ne_of_gt (blk_lt (g := gb171) (o := .cells #[.bool true, .string (⟨#[]⟩ : ByteArray), .slice Ao39 y168.length co39] 25 (0, 0)) (by (with_reducible repeat (first | refine blk_drewN ?_ _ | refine blk_drew ?_ | refine blk_alloc ?_ _)); exact BK171.out)) : gb204 ≠ gb171)); have n19_ := Aside0.mk ((by rw [hg]; exact Nat.ne_of_lt (blk_lt (g := gb180) (o := .cells #[.bool t174, .string t175, .slice Ao51 t176.length co51] 25 (0, 0)) (by (with_reducible repeat (first | refine blk_drewN ?_ _ | refine blk_drew ?_ | refine blk_alloc ?_ _)); exact BK180.out)) : gb180 ≠ gb204)); have n20_ := Aside0.mk ((by rw [hg]; exact Nat.ne_of_gt (blk_lt (g := gb180) (o := .cells #[.bool t174, .string t175, .slice Ao51 t176.length co51] 25 (0, 0)) (by (with_reducible repeat (first | refine blk_drewN ?_ _ | refine blk_drew ?_ | refine blk_alloc ?_ _)); exact BK180.out)) : gb204 ≠ gb180)); have n21_ := Aside0.mk ((by rw [hg]; exact Nat.ne_of_lt (blk_lt (g := gb190) (o := .cells #[.bool t184, .string t185, .slice Ao62 t186.length co62] 25 (0, 0)) (by (with_reducible repeat (first | refine blk_drewN ?_ _ | refine blk_drew ?_ | refine blk_alloc ?_ _)); exact BK190.out)) : gb190 ≠ gb204)); have n22_ := Aside0.mk ((by rw [hg]; exact Nat.ne_of_gt (blk_lt (g := gb190) (o := .cells #[.bool t184, .string t185, .slice Ao62 t186.length co62] 25 (0, 0)) (by (with_reducible repeat (first | refine blk_drewN ?_ _ | refine blk_drew ?_ | refine blk_alloc ?_ _)); exact BK190.out)) : gb204 ≠ gb190)); have n23_ := Aside0.mk ((by rw [hg]; exact Nat.ne_of_lt (blk_lt (g := gb197) (o := .cells #[.bool t191, .string t192, .slice Ao70 t193.length co70] 25 (0, 0)) (by (with_reducible repeat (first | refine blk_drewN ?_ _ | refine blk_drew ?_ | refine blk_alloc ?_ _)); exact BK197.out)) : gb197 ≠ gb204)); have n24_ := Aside0.mk ((by rw [hg]; exact Nat.ne_of_gt (blk_lt (g := gb197) (o := .cells #[.bool t191, .string t192, .slice Ao70 t193.length co70] 25 (0, 0)) (by (with_reducible repeat (first | refine blk_drewN ?_ _ | refine blk_drew ?_ | refine blk_alloc ?_ _)); exact BK197.out)) : gb204 ≠ gb197)); clear HO170; clear HO178; clear HO183; clear HO188; clear HO195; clear HO202; clear BK157; clear BK171; clear BK180; clear BK190; clear BK197; clear HB; have HO170 := n0_; have HO178 := n1_; have HO183 := n2_; have HO188 := n3_; have HO195 := n4_; have HO202 := n5_; have BK157 := n6_; have BK171 := n7_; have BK180 := n8_; have BK190 := n9_; have BK197 := n10_; have HB := n11_; have BK204 := n12_; have GW204 := n13_; have GE204 := n14_; have NB157_204 := n15_; have NB204_157 := n16_; have NB171_204 := n17_; have NB204_171 := n18_; have NB180_204 := n19_; have NB204_180 := n20_; have NB190_204 := n21_; have NB204_190 := n22_; have NB197_204 := n23_; have NB204_197 := n24_; clear n0_ n1_ n2_ n3_ n4_ n5_ n6_ n7_ n8_ n9_ n10_ n11_ n12_ n13_ n14_ n15_ n16_ n17_ n18_ n19_ n20_ n21_ n22_ n23_ n24_; clear hb hbox hg; have hnb73 := NB204_157.out; have hnc73 := NB157_204.out; have hnb74 := NB204_171.out; have hnc74 := NB171_204.out; have hnb75 := NB204_180.out; have hnc75 := NB180_204.out; have hnb76 := NB204_190.out; have hnc76 := NB190_204.out; have hnb77 := NB204_197.out; have hnc77 := NB197_204.out; have hcz78_0 : w72.cell? ⟨gb204, 0, none⟩ = some (.bool false) := (blk_cell BK204.out 0).trans rfl; have hcz78_1 : w72.cell? ⟨gb204, 1, none⟩ = some (.string (⟨#[]⟩ : ByteArray)) := (blk_cell BK204.out 1).trans rfl; have hcz78_2 : w72.cell? ⟨gb204, 2, none⟩ = some (.slice none 0 0) := (blk_cell BK204.out 2).trans rfl; have hfz78_0 := blk_frozen BK204.out 0; have hfz78_1 := blk_frozen BK204.out 1; have hfz78_2 := blk_frozen BK204.out 2; obtain ⟨Ao79, co79, eo79⟩ := Kd.N_slice HO202.out; subst eo79; have hcz80_0 : w72.cell? ⟨gb171, 0, none⟩ = some (.bool true) := (blk_cell BK171.out 0).trans rfl; have hcz80_1 : w72.cell? ⟨gb171, 1, none⟩ = some (.string (⟨#[]⟩ : ByteArray)) := (blk_cell BK171.out 1).trans rfl; have hcz80_2 : w72.cell? ⟨gb171, 2, none⟩ = some (.slice Ao39 y168.length co39) := (blk_cell BK171.out 2).trans rfl; have hfz80_0 := blk_frozen BK171.out 0; have hfz80_1 := blk_frozen BK171.out 1; have hfz80_2 := blk_frozen BK171.out 2) | ((with_reducible refine gate_dst (N := 48) rfl ?_); refine Kd.R_lit (Kd.int .i64) _ 3 ?hg (N := 48) ?hd (xs := ([0, 0] : List Int)) (inner := [.int .i64 0, .int .i64 0]) (ok := fun _ => True) (okp := fun _ => True) ?hr ?hp (fun _ hk => hk) trivial (Below.refl _ _) (Nat.le_refl _) (by simp) ?_; (case hd => rfl); (case hg => rfl); (case hr => first | (go_simp; done) | (go_simp; rfl)); (case hp => exact (Reps.one (show Kd.M (Kd.int .i64) _ _ _ 0 [.int .i64 0] from rfl) (Reps.one (show Kd.M (Kd.int .i64) _ _ _ 0 [.int .i64 0] from rfl) (Reps.none _ _)))); intro v206 w81 ho82 hb hg_ hnew_; clear hg_ hnew_; (first | rw [← Ny205.out] at ho82 | (simp only [Int.reduceToNat] at ho82; rw [← Ny205.out] at ho82)); have n0_ := Aside0.mk (Kd.N_elder' (by (with_reducible repeat (first | apply Kd.N_alloc | apply Kd.N_drewN | apply Kd.N_drew)); exact (Kd.N_mono (Kd.N_far (p := ⟨gb204, 2, none⟩) (Kd.N_far (p := ⟨gb204, 1, none⟩) (Kd.N_far (p := ⟨gb204, 0, none⟩) (Kd.N_mono HO170.out (fun k_ hk => (⟨hk, hk.2⟩ : _ ∧ k_ ≠ gb204))) (fun _ hk => hk.2) (.bool t198)) (fun _ hk => hk.2) (.string t199)) (fun _ hk => hk.2) (.slice Ao79 t200.length co79)) (fun _ h_ => h_.1))) (Kd.R_base ho82) hb); have n1_ := Aside0.mk (Kd.N_elder' (by (with_reducible repeat (first | apply Kd.N_alloc | apply Kd.N_drewN | apply Kd.N_drew)); exact (Kd.N_mono (Kd.N_far (p := ⟨gb204, 2, none⟩) (Kd.N_far (p := ⟨gb204, 1, none⟩) (Kd.N_far (p := ⟨gb204, 0, none⟩) (Kd.N_mono HO178.out (fun k_ hk => (⟨hk, hk.2⟩ : _ ∧ k_ ≠ gb204))) (fun _ hk => hk.2) (.bool t198)) (fun _ hk => hk.2) (.string t199)) (fun _ hk => hk.2) (.slice Ao79 t200.length co79)) (fun _ h_ => h_.1))) (Kd.R_base ho82) hb); have n2_ := Aside0.mk (Kd.R_elder' (by (with_reducible repeat (first | apply Kd.R_alloc | apply Kd.R_drewN | apply Kd.R_drew)); exact (Kd.R_mono (Kd.R_far (p := ⟨gb204, 2, none⟩) (Kd.R_far (p := ⟨gb204, 1, none⟩) (Kd.R_far (p := ⟨gb204, 0, none⟩) (Kd.R_types HO183.out BK204.out (by decide)) (fun _ hk => hk.2) (.bool t198)) (fun _ hk => hk.2) (.string t199)) (fun _ hk => hk.2) (.slice Ao79 t200.length co79)) (fun _ h_ => h_.1))) (Kd.R_base ho82) hb); have n3_ := Aside0.mk (Kd.N_elder' (by (with_reducible repeat (first | apply Kd.N_alloc | apply Kd.N_drewN | apply Kd.N_drew)); exact (Kd.N_mono (Kd.N_far (p := ⟨gb204, 2, none⟩) (Kd.N_far (p := ⟨gb204, 1, none⟩) (Kd.N_far (p := ⟨gb204, 0, none⟩) (Kd.N_mono HO188.out (fun k_ hk => (⟨hk, hk.2⟩ : _ ∧ k_ ≠ gb204))) (fun _ hk => hk.2) (.bool t198)) (fun _ hk => hk.2) (.string t199)) (fun _ hk => hk.2) (.slice Ao79 t200.length co79)) (fun _ h_ => h_.1))) (Kd.R_base ho82) hb); have n4_ := Aside0.mk (Kd.N_elder' (by (with_reducible repeat (first | apply Kd.N_alloc | apply Kd.N_drewN | apply Kd.N_drew)); exact (Kd.N_mono (Kd.N_far (p := ⟨gb204, 2, none⟩) (Kd.N_far (p := ⟨gb204, 1, none⟩) (Kd.N_far (p := ⟨gb204, 0, none⟩) (Kd.N_mono HO195.out (fun k_ hk => (⟨hk, hk.2⟩ : _ ∧ k_ ≠ gb204))) (fun _ hk => hk.2) (.bool t198)) (fun _ hk => hk.2) (.string t199)) (fun _ hk => hk.2) (.slice Ao79 t200.length co79)) (fun _ h_ => h_.1))) (Kd.R_base ho82) hb); have n5_ := Aside0.mk (Kd.N_elder' (by (with_reducible repeat (first | apply Kd.N_alloc | apply Kd.N_drewN | apply Kd.N_drew)); exact (Kd.N_mono (Kd.N_far (p := ⟨gb204, 2, none⟩) (Kd.N_far (p := ⟨gb204, 1, none⟩) (Kd.N_far (p := ⟨gb204, 0, none⟩) (Kd.N_mono HO202.out (fun k_ hk => (⟨hk, hk.2⟩ : _ ∧ k_ ≠ gb204))) (fun _ hk => hk.2) (.bool t198)) (fun _ hk => hk.2) (.string t199)) (fun _ hk => hk.2) (.slice Ao79 t200.length co79)) (fun _ h_ => h_.1))) (Kd.R_base ho82) hb); have n6_ := Aside0.mk (Kd.R_lower (Kd.R_new' ho82 (Kd.R_lt (by (with_reducible repeat (first | apply Kd.R_alloc | apply Kd.R_drewN | apply Kd.R_drew)); exact (Kd.R_mono (Kd.R_far (p := ⟨gb204, 2, none⟩) (Kd.R_far (p := ⟨gb204, 1, none⟩) (Kd.R_far (p := ⟨gb204, 0, none⟩) (Kd.R_types HO183.out BK204.out (by decide)) (fun _ hk => hk.2) (.bool t198)) (fun _ hk => hk.2) (.string t199)) (fun _ hk => hk.2) (.slice Ao79 t200.length co79)) (fun _ h_ => h_.1))))) (below_size (by repeat (first | (with_reducible first | exact HB.out | apply below_alloc | apply pw_below_drewN | apply below_drew1 | refine below_set ?_ GE157.out | refine below_set ?_ GE171.out | refine below_set ?_ GE180.out | refine below_set ?_ GE190.out | refine below_set ?_ GE197.out | refine below_set ?_ GE204.out) | exact HB.out)))); have n7_ := Aside0.mk (blk_below (g := gb157) (o := .cells #[.bool true, .string (⟨#[]⟩ : ByteArray), .slice Ao25 y154.length co25] 25 (0, 0)) (by (with_reducible repeat (first | refine blk_drewN ?_ _ | refine blk_drew ?_ | refine blk_alloc ?_ _)); refine blk_far ?_ NB157_204.out _; (with_reducible repeat (first | refine blk_drewN ?_ _ | refine blk_drew ?_ | refine blk_alloc ?_ _)); refine blk_far ?_ NB157_204.out _; (with_reducible repeat (first | refine blk_drewN ?_ _ | refine blk_drew ?_ | refine blk_alloc ?_ _)); refine blk_far ?_ NB157_204.out _; (with_reducible repeat (first | refine blk_drewN ?_ _ | refine blk_drew ?_ | refine blk_alloc ?_ _)); exact BK157.out) hb); have n8_ := Aside0.mk (blk_below (g := gb171) (o := .cells #[.bool true, .string (⟨#[]⟩ : ByteArray), .slice Ao39 y168.length co39] 25 (0, 0)) (by (with_reducible repeat (first | refine blk_drewN ?_ _ | refine blk_drew ?_ | refine blk_alloc ?_ _)); refine blk_far ?_ NB171_204.out _; (with_reducible repeat (first | refine blk_drewN ?_ _ | refine blk_drew ?_ | refine blk_alloc ?_ _)); refine blk_far ?_ NB171_204.out _; (with_reducible repeat (first | refine blk_drewN ?_ _ | refine blk_drew ?_ | refine blk_alloc ?_ _)); refine blk_far ?_ NB171_204.out _; (with_reducible repeat (first | refine blk_drewN ?_ _ | refine blk_drew ?_ | refine blk_alloc ?_ _)); exact BK171.out) hb); have n9_ := Aside0.mk (blk_below (g := gb180) (o := .cells #[.bool t174, .string t175, .slice Ao51 t176.length co51] 25 (0, 0)) (by (with_reducible repeat (first | refine blk_drewN ?_ _ | refine blk_drew ?_ | refine blk_alloc ?_ _)); refine blk_far ?_ NB180_204.out _; (with_reducible repeat (first | refine blk_drewN ?_ _ | refine blk_drew ?_ | refine blk_alloc ?_ _)); refine blk_far ?_ NB180_204.out _; (with_reducible repeat (first | refine blk_drewN ?_ _ | refine blk_drew ?_ | refine blk_alloc ?_ _)); refine blk_far ?_ NB180_204.out _; (with_reducible repeat (first | refine blk_drewN ?_ _ | refine blk_drew ?_ | refine blk_alloc ?_ _)); exact BK180.out) hb); have n10_ := Aside0.mk (blk_below (g := gb190) (o := .cells #[.bool t184, .string t185, .slice Ao62 t186.length co62] 25 (0, 0)) (by (with_reducible repeat (first | refine blk_drewN ?_ _ | refine blk_drew ?_ | refine blk_alloc ?_ _)); refine blk_far ?_ NB190_204.out _; (with_reducible repeat (first | refine blk_drewN ?_ _ | refine blk_drew ?_ | refine blk_alloc ?_ _)); refine blk_far ?_ NB190_204.out _; (with_reducible repeat (first | refine blk_drewN ?_ _ | refine blk_drew ?_ | refine blk_alloc ?_ _)); refine blk_far ?_ NB190_204.out _; (with_reducible repeat (first | refine blk_drewN ?_ _ | refine blk_drew ?_ | refine blk_alloc ?_ _)); exact BK190.out) hb); have n11_ := Aside0.mk (blk_below (g := gb197) (o := .cells #[.bool t191, .string t192, .slice Ao70 t193.length co70] 25 (0, 0)) (by (with_reducible repeat (first | refine blk_drewN ?_ _ | refine blk_drew ?_ | refine blk_alloc ?_ _)); refine blk_far ?_ NB197_204.out _; (with_reducible repeat (first | refine blk_drewN ?_ _ | refine blk_drew ?_ | refine blk_alloc ?_ _)); refine blk_far ?_ NB197_204.out _; (with_reducible repeat (first | refine blk_drewN ?_ _ | refine blk_drew ?_ | refine blk_alloc ?_ _)); refine blk_far ?_ NB197_204.out _; (with_reducible repeat (first | refine blk_drewN ?_ _ | refine blk_drew ?_ | refine blk_alloc ?_ _)); exact BK197.out) hb); have n12_ := Aside0.mk (blk_below (g := gb204) (o := .cells #[.bool t198, .string t199, .slice Ao79 t200.length co79] 25 (0, 0)) (by (with_reducible repeat (first | refine blk_drewN ?_ _ | refine blk_drew ?_ | refine blk_alloc ?_ _)); refine blk_put (cs := #[.bool t198, .string t199, .slice none 0 0]) ?_ 2 _ rfl; (with_reducible repeat (first | refine blk_drewN ?_ _ | refine blk_drew ?_ | refine blk_alloc ?_ _)); refine blk_put (cs := #[.bool t198, .string (⟨#[]⟩ : ByteArray), .slice none 0 0]) ?_ 1 _ rfl; (with_reducible repeat (first | refine blk_drewN ?_ _ | refine blk_drew ?_ | refine blk_alloc ?_ _)); refine blk_put (cs := #[.bool false, .string (⟨#[]⟩ : ByteArray), .slice none 0 0]) ?_ 0 _ rfl; (with_reducible repeat (first | refine blk_drewN ?_ _ | refine blk_drew ?_ | refine blk_alloc ?_ _)); exact BK204.out) hb); have n13_ := Aside0.mk (below_step (by repeat (first | (with_reducible first | exact HB.out | apply below_alloc | apply pw_below_drewN | apply below_drew1 | refine below_set ?_ GE157.out | refine below_set ?_ GE171.out | refine below_set ?_ GE180.out | refine below_set ?_ GE190.out | refine below_set ?_ GE197.out | refine below_set ?_ GE204.out) | exact HB.out)) hb); clear HO170; clear HO178; clear HO183; clear HO188; clear HO195; clear HO202; clear BK157; clear BK171; clear BK180; clear BK190; clear BK197; clear BK204; clear HB; have HO170 := n0_; have HO178 := n1_; have HO183 := n2_; have HO188 := n3_; have HO195 := n4_; have HO202 := n5_; have HO207 := n6_; have BK157 := n7_; have BK171 := n8_; have BK180 := n9_; have BK190 := n10_; have BK197 := n11_; have BK204 := n12_; have HB := n13_; clear n0_ n1_ n2_ n3_ n4_ n5_ n6_ n7_ n8_ n9_ n10_ n11_ n12_ n13_; clear hb ho82; obtain ⟨Ao83, co83, eo83⟩ := Kd.R_slice HO207.out; subst eo83) | ((with_reducible refine gate_callee (f := 17) rfl ?_); refine goesL_ (some 49) rfl rfl Tryd.func17 (by kernel_rfl) rfl #[.agg #[.bool true, .string (⟨#[]⟩ : ByteArray), .slice Ao39 y168.length co39], .slice Ao83 y205.length co83] rfl (by (try simp only [List.map_toArray, List.map_cons, List.map_nil]); first | done | rfl | (simp only [List.length_drop, List.length_take]; rfl)) ?_; (with_reducible refine (codec_At.calls k true (⟨#[]⟩ : ByteArray) (fun k_ => (((((((((((k_ ≠ gb157 ∧ k_ ≠ gb171) ∧ some k_ ≠ (.slice Ao51 t176.length co51 : Value).ownBlock) ∧ k_ ≠ gb180) ∧ some k_ ≠ (.slice Ao55 y181.length co55 : Value).ownBlock) ∧ some k_ ≠ (.slice Ao62 t186.length co62 : Value).ownBlock) ∧ k_ ≠ gb190) ∧ some k_ ≠ (.slice Ao70 t193.length co70 : Value).ownBlock) ∧ k_ ≠ gb197) ∧ some k_ ≠ (.slice Ao79 t200.length co79 : Value).ownBlock) ∧ k_ ≠ gb204) ∧ some k_ ≠ (.slice Ao83 y205.length co83 : Value).ownBlock)) _ _ y168 _ _ y205 t208 t209 t210 t213 _ ?side1 ?side2 ?side3 A9.out).mono ?_); (case side1 => exact Kd.N_V (HO170.out)); (case side2 => repeat (first | exact (Kd.R_reads' HO207.out).2.2 | (with_reducible refine Kd.C_alloc ?_ _) | (with_reducible refine Kd.C_drewN ?_ _) | (with_reducible refine Kd.C_drew ?_))); (case side3 => exact (Kd.R_reads' HO207.out).2.1); rintro e w84 ⟨v211, rfl, ho0, hb⟩; replace ho0 := Kd.N_mono (Kd.R_N ho0) (fun k_ h_ => (Or.inr h_ : ((((((((((((k_ ≠ gb157 ∧ k_ ≠ gb171) ∧ some k_ ≠ (.slice Ao51 t176.length co51 : Value).ownBlock) ∧ k_ ≠ gb180) ∧ some k_ ≠ (.slice Ao55 y181.length co55 : Value).ownBlock) ∧ some k_ ≠ (.slice Ao62 t186.length co62 : Value).ownBlock) ∧ k_ ≠ gb190) ∧ some k_ ≠ (.slice Ao70 t193.length co70 : Value).ownBlock) ∧ k_ ≠ gb197) ∧ some k_ ≠ (.slice Ao79 t200.length co79 : Value).ownBlock) ∧ k_ ≠ gb204) ∧ some k_ ≠ (.slice Ao83 y205.length co83 : Value).ownBlock)) ∨ _)); refine ⟨_, rfl, ?_⟩; have n0_ := Aside0.mk (Kd.N_elder' (by (with_reducible repeat (first | apply Kd.N_alloc | apply Kd.N_drewN | apply Kd.N_drew)); exact HO170.out) (by first | exact Kd.N_base ho0 | exact Kd.R_base ho0) hb); have n1_ := Aside0.mk (Kd.N_elder' (by (with_reducible repeat (first | apply Kd.N_alloc | apply Kd.N_drewN | apply Kd.N_drew)); exact HO178.out) (by first | exact Kd.N_base ho0 | exact Kd.R_base ho0) hb); have n2_ := Aside0.mk (Kd.R_below (by (with_reducible repeat (first | apply Kd.R_alloc | apply Kd.R_drewN | apply Kd.R_drew)); exact HO183.out) hb); have n3_ := Aside0.mk (Kd.N_elder' (by (with_reducible repeat (first | apply Kd.N_alloc | apply Kd.N_drewN | apply Kd.N_drew)); exact HO188.out) (by first | exact Kd.N_base ho0 | exact Kd.R_base ho0) hb); have n4_ := Aside0.mk (Kd.N_elder' (by (with_reducible repeat (first | apply Kd.N_alloc | apply Kd.N_drewN | apply Kd.N_drew)); exact HO195.out) (by first | exact Kd.N_base ho0 | exact Kd.R_base ho0) hb); have n5_ := Aside0.mk (Kd.N_elder' (by (with_reducible repeat (first | apply Kd.N_alloc | apply Kd.N_drewN | apply Kd.N_drew)); exact HO202.out) (by first | exact Kd.N_base ho0 | exact Kd.R_base ho0) hb); have n6_ := Aside0.mk (Kd.R_below (by (with_reducible repeat (first | apply Kd.R_alloc | apply Kd.R_drewN | apply Kd.R_drew)); exact HO207.out) hb); have n7_ := Aside0.mk (Kd.N_lower (Kd.N_mono (ok' := fun k_ => some k_ ≠ (.slice Ao51 t176.length co51 : Value).ownBlock ∧ some k_ ≠ (.slice Ao55 y181.length co55 : Value).ownBlock ∧ some k_ ≠ (.slice Ao62 t186.length co62 : Value).ownBlock ∧ some k_ ≠ (.slice Ao70 t193.length co70 : Value).ownBlock ∧ some k_ ≠ (.slice Ao79 t200.length co79 : Value).ownBlock ∧ some k_ ≠ (.slice Ao83 y205.length co83 : Value).ownBlock ∧ k_ ≠ gb157 ∧ k_ ≠ gb171 ∧ k_ ≠ gb180 ∧ k_ ≠ gb190 ∧ k_ ≠ gb197 ∧ k_ ≠ gb204) ho0 (fun k_ hk_ => ⟨Or.elim hk_ (fun hs_ => hs_.1.1.1.1.1.1.1.1.1.2) (fun hn_ => (Kd.fresh' (Kd.N_lt (by (with_reducible repeat (first | apply Kd.N_alloc | apply Kd.N_drewN | apply Kd.N_drew)); exact HO178.out)) k_ hn_)), Or.elim hk_ (fun hs_ => hs_.1.1.1.1.1.1.1.2) (fun hn_ => (Kd.fresh' (Kd.R_lt (by (with_reducible repeat (first | apply Kd.R_alloc | apply Kd.R_drewN | apply Kd.R_drew)); exact HO183.out)) k_ hn_)), Or.elim hk_ (fun hs_ => hs_.1.1.1.1.1.1.2) (fun hn_ => (Kd.fresh' (Kd.N_lt (by (with_reducible repeat (first | apply Kd.N_alloc | apply Kd.N_drewN | apply Kd.N_drew)); exact HO188.out)) k_ hn_)), Or.elim hk_ (fun hs_ => hs_.1.1.1.1.2) (fun hn_ => (Kd.fresh' (Kd.N_lt (by (with_reducible repeat (first | apply Kd.N_alloc | apply Kd.N_drewN | apply Kd.N_drew)); exact HO195.out)) k_ hn_)), Or.elim hk_ (fun hs_ => hs_.1.1.2) (fun hn_ => (Kd.fresh' (Kd.N_lt (by (with_reducible repeat (first | apply Kd.N_alloc | apply Kd.N_drewN | apply Kd.N_drew)); exact HO202.out)) k_ hn_)), Or.elim hk_ (fun hs_ => hs_.2) (fun hn_ => (Kd.fresh' (Kd.R_lt (by (with_reducible repeat (first | apply Kd.R_alloc | apply Kd.R_drewN | apply Kd.R_drew)); exact HO207.out)) k_ hn_)), Or.elim hk_ (fun hs_ => hs_.1.1.1.1.1.1.1.1.1.1.1) (fun hn_ => (Kd.freshB (g := gb157) (o := .cells #[.bool true, .string (⟨#[]⟩ : ByteArray), .slice Ao25 y154.length co25] 25 (0, 0)) (by (with_reducible repeat (first | refine blk_drewN ?_ _ | refine blk_drew ?_ | refine blk_alloc ?_ _)); exact BK157.out) k_ hn_)), Or.elim hk_ (fun hs_ => hs_.1.1.1.1.1.1.1.1.1.1.2) (fun hn_ => (Kd.freshB (g := gb171) (o := .cells #[.bool true, .string (⟨#[]⟩ : ByteArray), .slice Ao39 y168.length co39] 25 (0, 0)) (by (with_reducible repeat (first | refine blk_drewN ?_ _ | refine blk_drew ?_ | refine blk_alloc ?_ _)); exact BK171.out) k_ hn_)), Or.elim hk_ (fun hs_ => hs_.1.1.1.1.1.1.1.1.2) (fun hn_ => (Kd.freshB (g := gb180) (o := .cells #[.bool t174, .string t175, .slice Ao51 t176.length co51] 25 (0, 0)) (by (with_reducible repeat (first | refine blk_drewN ?_ _ | refine blk_drew ?_ | refine blk_alloc ?_ _)); exact BK180.out) k_ hn_)), Or.elim hk_ (fun hs_ => hs_.1.1.1.1.1.2) (fun hn_ => (Kd.freshB (g := gb190) (o := .cells #[.bool t184, .string t185, .slice Ao62 t186.length co62] 25 (0, 0)) (by (with_reducible repeat (first | refine blk_drewN ?_ _ | refine blk_drew ?_ | refine blk_alloc ?_ _)); exact BK190.out) k_ hn_)), Or.elim hk_ (fun hs_ => hs_.1.1.1.2) (fun hn_ => (Kd.freshB (g := gb197) (o := .cells #[.bool t191, .string t192, .slice Ao70 t193.length co70] 25 (0, 0)) (by (with_reducible repeat (first | refine blk_drewN ?_ _ | refine blk_drew ?_ | refine blk_alloc ?_ _)); exact BK197.out) k_ hn_)), Or.elim hk_ (fun hs_ => hs_.1.2) (fun hn_ => (Kd.freshB (g := gb204) (o := .cells #[.bool t198, .string t199, .slice Ao79 t200.length co79] 25 (0, 0)) (by (with_reducible repeat (first | refine blk_drewN ?_ _ | refine blk_drew ?_ | refine blk_alloc ?_ _)); exact BK204.out) k_ hn_))⟩)) (below_size (by repeat (first | (with_reducible first | exact HB.out | apply below_alloc | apply pw_below_drewN | apply below_drew1 | refine below_set ?_ GE157.out | refine below_set ?_ GE171.out | refine below_set ?_ GE180.out | refine below_set ?_ GE190.out | refine below_set ?_ GE197.out | refine below_set ?_ GE204.out) | exact HB.out)))); have n8_ := Aside0.mk (blk_below (g := gb157) (o := .cells #[.bool true, .string (⟨#[]⟩ : ByteArray), .slice Ao25 y154.length co25] 25 (0, 0)) (by (with_reducible repeat (first | refine blk_drewN ?_ _ | refine blk_drew ?_ | refine blk_alloc ?_ _)); exact BK157.out) hb); have n9_ := Aside0.mk (blk_below (g := gb171) (o := .cells #[.bool true, .string (⟨#[]⟩ : ByteArray), .slice Ao39 y168.length co39] 25 (0, 0)) (by (with_reducible repeat (first | refine blk_drewN ?_ _ | refine blk_drew ?_ | refine blk_alloc ?_ _)); exact BK171.out) hb); have n10_ := Aside0.mk (blk_below (g := gb180) (o := .cells #[.bool t174, .string t175, .slice Ao51 t176.length co51] 25 (0, 0)) (by (with_reducible repeat (first | refine blk_drewN ?_ _ | refine blk_drew ?_ | refine blk_alloc ?_ _)); exact BK180.out) hb); have n11_ := Aside0.mk (blk_below (g := gb190) (o := .cells #[.bool t184, .string t185, .slice Ao62 t186.length co62] 25 (0, 0)) (by (with_reducible repeat (first | refine blk_drewN ?_ _ | refine blk_drew ?_ | refine blk_alloc ?_ _)); exact BK190.out) hb); have n12_ := Aside0.mk (blk_below (g := gb197) (o := .cells #[.bool t191, .string t192, .slice Ao70 t193.length co70] 25 (0, 0)) (by (with_reducible repeat (first | refine blk_drewN ?_ _ | refine blk_drew ?_ | refine blk_alloc ?_ _)); exact BK197.out) hb); have n13_ := Aside0.mk (blk_below (g := gb204) (o := .cells #[.bool t198, .string t199, .slice Ao79 t200.length co79] 25 (0, 0)) (by (with_reducible repeat (first | refine blk_drewN ?_ _ | refine blk_drew ?_ | refine blk_alloc ?_ _)); exact BK204.out) hb); have n14_ := Aside0.mk (below_step (by repeat (first | (with_reducible first | exact HB.out | apply below_alloc | apply pw_below_drewN | apply below_drew1 | refine below_set ?_ GE157.out | refine below_set ?_ GE171.out | refine below_set ?_ GE180.out | refine below_set ?_ GE190.out | refine below_set ?_ GE197.out | refine below_set ?_ GE204.out) | exact HB.out)) hb); clear HO170; clear HO178; clear HO183; clear HO188; clear HO195; clear HO202; clear HO207; clear BK157; clear BK171; clear BK180; clear BK190; clear BK197; clear BK204; clear HB; have HO170 := n0_; have HO178 := n1_; have HO183 := n2_; have HO188 := n3_; have HO195 := n4_; have HO202 := n5_; have HO207 := n6_; have HO212 := n7_; have BK157 := n8_; have BK171 := n9_; have BK180 := n10_; have BK190 := n11_; have BK197 := n12_; have BK204 := n13_; have HB := n14_; clear n0_ n1_ n2_ n3_ n4_ n5_ n6_ n7_ n8_ n9_ n10_ n11_ n12_ n13_ n14_; (try clear hb); (try clear hb2); (try clear hk); (try clear hi); (try clear ho0)) | ((with_reducible refine gate_dst (N := 13) rfl ?_); refine box_event ?hg (N := 13) ?hd (cs := #[.bool false, .string (⟨#[]⟩ : ByteArray), .slice none 0 0]) (t := 25) ?hr ?_; (case hd => rfl); (case hg => rfl); (case hr => first | (go_simp; done) | (go_simp; rfl)); intro gb214 hg w85 hbox hb; have n0_ := Aside0.mk (Kd.N_below (Kd.N_elderB (by (with_reducible repeat (first | apply Kd.N_alloc | apply Kd.N_drewN | apply Kd.N_drew)); exact HO170.out) gb214 (Nat.le_of_eq hg.symm)) hb); have n1_ := Aside0.mk (Kd.N_below (Kd.N_elderB (by (with_reducible repeat (first | apply Kd.N_alloc | apply Kd.N_drewN | apply Kd.N_drew)); exact HO178.out) gb214 (Nat.le_of_eq hg.symm)) hb); have n2_ := Aside0.mk (Kd.R_below (by (with_reducible repeat (first | apply Kd.R_alloc | apply Kd.R_drewN | apply Kd.R_drew)); exact HO183.out) hb); have n3_ := Aside0.mk (Kd.N_below (Kd.N_elderB (by (with_reducible repeat (first | apply Kd.N_alloc | apply Kd.N_drewN | apply Kd.N_drew)); exact HO188.out) gb214 (Nat.le_of_eq hg.symm)) hb); have n4_ := Aside0.mk (Kd.N_below (Kd.N_elderB (by (with_reducible repeat (first | apply Kd.N_alloc | apply Kd.N_drewN | apply Kd.N_drew)); exact HO195.out) gb214 (Nat.le_of_eq hg.symm)) hb); have n5_ := Aside0.mk (Kd.N_below (Kd.N_elderB (by (with_reducible repeat (first | apply Kd.N_alloc | apply Kd.N_drewN | apply Kd.N_drew)); exact HO202.out) gb214 (Nat.le_of_eq hg.symm)) hb); have n6_ := Aside0.mk (Kd.R_below (by (with_reducible repeat (first | apply Kd.R_alloc | apply Kd.R_drewN | apply Kd.R_drew)); exact HO207.out) hb); have n7_ := Aside0.mk (Kd.N_below (Kd.N_elderB (by (with_reducible repeat (first | apply Kd.N_alloc | apply Kd.N_drewN | apply Kd.N_drew)); exact HO212.out) gb214 (Nat.le_of_eq hg.symm)) hb); have n8_ := Aside0.mk (blk_below (g := gb157) (o := .cells #[.bool true, .string (⟨#[]⟩ : ByteArray), .slice Ao25 y154.length co25] 25 (0, 0)) (by (with_reducible repeat (first | refine blk_drewN ?_ _ | refine blk_drew ?_ | refine blk_alloc ?_ _)); exact BK157.out) hb); have n9_ := Aside0.mk (blk_below (g := gb171) (o := .cells #[.bool true, .string (⟨#[]⟩ : ByteArray), .slice Ao39 y168.length co39] 25 (0, 0)) (by (with_reducible repeat (first | refine blk_drewN ?_ _ | refine blk_drew ?_ | refine blk_alloc ?_ _)); exact BK171.out) hb); have n10_ := Aside0.mk (blk_below (g := gb180) (o := .cells #[.bool t174, .string t175, .slice Ao51 t176.length co51] 25 (0, 0)) (by (with_reducible repeat (first | refine blk_drewN ?_ _ | refine blk_drew ?_ | refine blk_alloc ?_ _)); exact BK180.out) hb); have n11_ := Aside0.mk (blk_below (g := gb190) (o := .cells #[.bool t184, .string t185, .slice Ao62 t186.length co62] 25 (0, 0)) (by (with_reducible repeat (first | refine blk_drewN ?_ _ | refine blk_drew ?_ | refine blk_alloc ?_ _)); exact BK190.out) hb); have n12_ := Aside0.mk (blk_below (g := gb197) (o := .cells #[.bool t191, .string t192, .slice Ao70 t193.length co70] 25 (0, 0)) (by (with_reducible repeat (first | refine blk_drewN ?_ _ | refine blk_drew ?_ | refine blk_alloc ?_ _)); exact BK197.out) hb); have n13_ := Aside0.mk (blk_below (g := gb204) (o := .cells #[.bool t198, .string t199, .slice Ao79 t200.length co79] 25 (0, 0)) (by (with_reducible repeat (first | refine blk_drewN ?_ _ | refine blk_drew ?_ | refine blk_alloc ?_ _)); exact BK204.out) hb); have n14_ := Aside0.mk (below_step (by repeat (first | (with_reducible first | exact HB.out | apply below_alloc | apply pw_below_drewN | apply below_drew1 | refine below_set ?_ GE157.out | refine below_set ?_ GE171.out | refine below_set ?_ GE180.out | refine below_set ?_ GE190.out | refine below_set ?_ GE197.out | refine below_set ?_ GE204.out) | exact HB.out)) hb); have n15_ := Aside0.mk (hbox); have n16_ := Aside0.mk ((by rw [hg]; exact (below_size (by repeat (first | (with_reducible first | exact HB.out | apply below_alloc | apply pw_below_drewN | apply below_drew1 | refine below_set ?_ GE157.out | refine below_set ?_ GE171.out | refine below_set ?_ GE180.out | refine below_set ?_ GE190.out | refine below_set ?_ GE197.out | refine below_set ?_ GE204.out) | exact HB.out))) : w.heap.size ≤ gb214)); have n17_ := Aside0.mk ((by rw [hg]; exact (below_size (by repeat (first | (with_reducible first | exact HB.out | apply below_alloc | apply pw_below_drewN | apply below_drew1 | refine below_set ?_ GE157.out | refine below_set ?_ GE171.out | refine below_set ?_ GE180.out | refine below_set ?_ GE190.out | refine below_set ?_ GE197.out | refine below_set ?_ GE204.out) | exact HB.out))) : w.heap.size ≤ gb214)); have n18_ := Aside0.mk ((by rw [hg]; exact Nat.ne_of_lt (blk_lt (g := gb157) (o := .cells #[.bool true, .string (⟨#[]⟩ : ByteArray), .slice Ao25 y154.length co25] 25 (0, 0)) (by (with_reducible repeat (first | refine blk_drewN ?_ _ | refine blk_drew ?_ | refine blk_alloc ?_ _)); exact BK157.out)) : gb157 ≠ gb214)); have n19_ := Aside0.mk ((by rw [hg]; exact Nat.ne_of_gt (blk_lt (g := gb157) (o := .cells #[.bool true, .string (⟨#[]⟩ : ByteArray), .slice Ao25 y154.length co25] 25 (0, 0)) (by (with_reducible repeat (first | refine blk_drewN ?_ _ | refine blk_drew ?_ | refine blk_alloc ?_ _)); exact BK157.out)) : gb214 ≠ gb157)); have n20_ := Aside0.mk ((by rw [hg]; exact Nat.ne_of_lt (blk_lt (g := gb171) (o := .cells #[.bool true, .string (⟨#[]⟩ : ByteArray), .slice Ao39 y168.length co39] 25 (0, 0)) (by (with_reducible repeat (first | refine blk_drewN ?_ _ | refine blk_drew ?_ | refine blk_alloc ?_ _)); exact BK171.out)) : gb171 ≠ gb214)); have n21_ := Aside0.mk ((by rw [hg]; exact Nat.ne_of_gt (blk_lt (g := gb171) (o := .cells #[.bool true, .string (⟨#[]⟩ : ByteArray), .slice Ao39 y168.length co39] 25 (0, 0)) (by (with_reducible repeat (first | refine blk_drewN ?_ _ | refine blk_drew ?_ | refine blk_alloc ?_ _)); exact BK171.out)) : gb214 ≠ gb171)); have n22_ := Aside0.mk ((by rw [hg]; exact Nat.ne_of_lt (blk_lt (g := gb180) (o := .cells #[.bool t174, .string t175, .slice Ao51 t176.length co51] 25 (0, 0)) (by (with_reducible repeat (first | refine blk_drewN ?_ _ | refine blk_drew ?_ | refine blk_alloc ?_ _)); exact BK180.out)) : gb180 ≠ gb214)); have n23_ := Aside0.mk ((by rw [hg]; exact Nat.ne_of_gt (blk_lt (g := gb180) (o := .cells #[.bool t174, .string t175, .slice Ao51 t176.length co51] 25 (0, 0)) (by (with_reducible repeat (first | refine blk_drewN ?_ _ | refine blk_drew ?_ | refine blk_alloc ?_ _)); exact BK180.out)) : gb214 ≠ gb180)); have n24_ := Aside0.mk ((by rw [hg]; exact Nat.ne_of_lt (blk_lt (g := gb190) (o := .cells #[.bool t184, .string t185, .slice Ao62 t186.length co62] 25 (0, 0)) (by (with_reducible repeat (first | refine blk_drewN ?_ _ | refine blk_drew ?_ | refine blk_alloc ?_ _)); exact BK190.out)) : gb190 ≠ gb214)); have n25_ := Aside0.mk ((by rw [hg]; exact Nat.ne_of_gt (blk_lt (g := gb190) (o := .cells #[.bool t184, .string t185, .slice Ao62 t186.length co62] 25 (0, 0)) (by (with_reducible repeat (first | refine blk_drewN ?_ _ | refine blk_drew ?_ | refine blk_alloc ?_ _)); exact BK190.out)) : gb214 ≠ gb190)); have n26_ := Aside0.mk ((by rw [hg]; exact Nat.ne_of_lt (blk_lt (g := gb197) (o := .cells #[.bool t191, .string t192, .slice Ao70 t193.length co70] 25 (0, 0)) (by (with_reducible repeat (first | refine blk_drewN ?_ _ | refine blk_drew ?_ | refine blk_alloc ?_ _)); exact BK197.out)) : gb197 ≠ gb214)); have n27_ := Aside0.mk ((by rw [hg]; exact Nat.ne_of_gt (blk_lt (g := gb197) (o := .cells #[.bool t191, .string t192, .slice Ao70 t193.length co70] 25 (0, 0)) (by (with_reducible repeat (first | refine blk_drewN ?_ _ | refine blk_drew ?_ | refine blk_alloc ?_ _)); exact BK197.out)) : gb214 ≠ gb197)); have n28_ := Aside0.mk ((by rw [hg]; exact Nat.ne_of_lt (blk_lt (g := gb204) (o := .cells #[.bool t198, .string t199, .slice Ao79 t200.length co79] 25 (0, 0)) (by (with_reducible repeat (first | refine blk_drewN ?_ _ | refine blk_drew ?_ | refine blk_alloc ?_ _)); exact BK204.out)) : gb204 ≠ gb214)); have n29_ := Aside0.mk ((by rw [hg]; exact Nat.ne_of_gt (blk_lt (g := gb204) (o := .cells #[.bool t198, .string t199, .slice Ao79 t200.length co79] 25 (0, 0)) (by (with_reducible repeat (first | refine blk_drewN ?_ _ | refine blk_drew ?_ | refine blk_alloc ?_ _)); exact BK204.out)) : gb214 ≠ gb204)); clear HO170; clear HO178; clear HO183; clear HO188; clear HO195; clear HO202; clear HO207; clear HO212; clear BK157; clear BK171; clear BK180; clear BK190; clear BK197; clear BK204; clear HB; have HO170 := n0_; have HO178 := n1_; have HO183 := n2_; have HO188 := n3_; have HO195 := n4_; have HO202 := n5_; have HO207 := n6_; have HO212 := n7_; have BK157 := n8_; have BK171 := n9_; have BK180 := n10_; have BK190 := n11_; have BK197 := n12_; have BK204 := n13_; have HB := n14_; have BK214 := n15_; have GW214 := n16_; have GE214 := n17_; have NB157_214 := n18_; have NB214_157 := n19_; have NB171_214 := n20_; have NB214_171 := n21_; have NB180_214 := n22_; have NB214_180 := n23_; have NB190_214 := n24_; have NB214_190 := n25_; have NB197_214 := n26_; have NB214_197 := n27_; have NB204_214 := n28_; have NB214_204 := n29_; clear n0_ n1_ n2_ n3_ n4_ n5_ n6_ n7_ n8_ n9_ n10_ n11_ n12_ n13_ n14_ n15_ n16_ n17_ n18_ n19_ n20_ n21_ n22_ n23_ n24_ n25_ n26_ n27_ n28_ n29_; clear hb hbox hg; have hnb86 := NB214_157.out; have hnc86 := NB157_214.out; have hnb87 := NB214_171.out; have hnc87 := NB171_214.out; have hnb88 := NB214_180.out; have hnc88 := NB180_214.out; have hnb89 := NB214_190.out; have hnc89 := NB190_214.out; have hnb90 := NB214_197.out; have hnc90 := NB197_214.out; have hnb91 := NB214_204.out; have hnc91 := NB204_214.out; have hcz92_0 : w85.cell? ⟨gb214, 0, none⟩ = some (.bool false) := (blk_cell BK214.out 0).trans rfl; have hcz92_1 : w85.cell? ⟨gb214, 1, none⟩ = some (.string (⟨#[]⟩ : ByteArray)) := (blk_cell BK214.out 1).trans rfl; have hcz92_2 : w85.cell? ⟨gb214, 2, none⟩ = some (.slice none 0 0) := (blk_cell BK214.out 2).trans rfl; have hfz92_0 := blk_frozen BK214.out 0; have hfz92_1 := blk_frozen BK214.out 1; have hfz92_2 := blk_frozen BK214.out 2; obtain ⟨Ao93, co93, eo93⟩ := Kd.N_slice HO212.out; subst eo93))
 have n0_ : Aside0 (Kd.N k25 25 (((w85.setCell ⟨gb214, 0, none⟩ (.bool t208)).setCell ⟨gb214, 1, none⟩ (.string t209)).setCell ⟨gb214, 2, none⟩ (.slice Ao93 t210.length co93)) w.heap.size (fun k_ => some k_ ≠ (.slice Ao51 t176.length co51 : Value).ownBlock ∧ some k_ ≠ (.slice Ao55 y181.length co55 : Value).ownBlock ∧ some k_ ≠ (.slice Ao62 t186.length co62 : Value).ownBlock ∧ some k_ ≠ (.slice Ao70 t193.length co70 : Value).ownBlock ∧ some k_ ≠ (.slice Ao79 t200.length co79 : Value).ownBlock ∧ some k_ ≠ (.slice Ao83 y205.length co83 : Value).ownBlock ∧ some k_ ≠ (.slice Ao93 t210.length co93 : Value).ownBlock ∧ k_ ≠ gb157 ∧ k_ ≠ gb171 ∧ k_ ≠ gb180 ∧ k_ ≠ gb190 ∧ k_ ≠ gb197 ∧ k_ ≠ gb204 ∧ k_ ≠ gb214) (.slice Ao39 y168.length co39) y168) := ⟨by (with_reducible repeat (first | apply Kd.N_alloc | apply Kd.N_drewN | apply Kd.N_drew)); exact Kd.N_mono (Kd.N_far (p := ⟨gb214, 2, none⟩) (Kd.N_far (p := ⟨gb214, 1, none⟩) (Kd.N_far (p := ⟨gb214, 0, none⟩) (Kd.N_mono HO170.out (fun k_ hk => (⟨hk, hk.2⟩ : _ ∧ k_ ≠ gb214))) (fun _ hk => hk.2) (.bool t208)) (fun _ hk => hk.2) (.string t209)) (fun _ hk => hk.2) (.slice Ao93 t210.length co93)) (fun _ hk => ⟨hk.1.1.1.1.1.1.1.1.1.1.1.1.2, ⟨hk.1.1.1.1.1.1.1.1.1.1.2, ⟨hk.1.1.1.1.1.1.1.1.1.2, ⟨hk.1.1.1.1.1.1.1.2, ⟨hk.1.1.1.1.1.2, ⟨hk.1.1.1.2, ⟨hk.1.1.2, ⟨hk.1.1.1.1.1.1.1.1.1.1.1.1.1.1, ⟨hk.1.1.1.1.1.1.1.1.1.1.1.1.1.2, ⟨hk.1.1.1.1.1.1.1.1.1.1.1.2, ⟨hk.1.1.1.1.1.1.1.1.2, ⟨hk.1.1.1.1.1.1.2, ⟨hk.1.1.1.1.2, hk.1.2⟩⟩⟩⟩⟩⟩⟩⟩⟩⟩⟩⟩⟩)⟩
 have n1_ : Aside0 (Kd.N k25 25 (((w85.setCell ⟨gb214, 0, none⟩ (.bool t208)).setCell ⟨gb214, 1, none⟩ (.string t209)).setCell ⟨gb214, 2, none⟩ (.slice Ao93 t210.length co93)) w.heap.size (fun k_ => some k_ ≠ (.slice Ao39 y168.length co39 : Value).ownBlock ∧ some k_ ≠ (.slice Ao55 y181.length co55 : Value).ownBlock ∧ some k_ ≠ (.slice Ao62 t186.length co62 : Value).ownBlock ∧ some k_ ≠ (.slice Ao70 t193.length co70 : Value).ownBlock ∧ some k_ ≠ (.slice Ao79 t200.length co79 : Value).ownBlock ∧ some k_ ≠ (.slice Ao83 y205.length co83 : Value).ownBlock ∧ some k_ ≠ (.slice Ao93 t210.length co93 : Value).ownBlock ∧ k_ ≠ gb157 ∧ k_ ≠ gb171 ∧ k_ ≠ gb180 ∧ k_ ≠ gb190 ∧ k_ ≠ gb197 ∧ k_ ≠ gb204 ∧ k_ ≠ gb214) (.slice Ao51 t176.length co51) t176) := ⟨by (with_reducible repeat (first | apply Kd.N_alloc | apply Kd.N_drewN | apply Kd.N_drew)); exact Kd.N_mono (Kd.N_far (p := ⟨gb214, 2, none⟩) (Kd.N_far (p := ⟨gb214, 1, none⟩) (Kd.N_far (p := ⟨gb214, 0, none⟩) (Kd.N_mono HO178.out (fun k_ hk => (⟨hk, hk.2⟩ : _ ∧ k_ ≠ gb214))) (fun _ hk => hk.2) (.bool t208)) (fun _ hk => hk.2) (.string t209)) (fun _ hk => hk.2) (.slice Ao93 t210.length co93)) (fun _ hk => ⟨hk.1.1.1.1.1.1.1.1.1.1.1.1.1, ⟨hk.1.1.1.1.1.1.1.1.1.1.2, ⟨hk.1.1.1.1.1.1.1.1.1.2, ⟨hk.1.1.1.1.1.1.1.2, ⟨hk.1.1.1.1.1.2, ⟨hk.1.1.1.2, ⟨hk.1.1.2, ⟨hk.1.1.1.1.1.1.1.1.1.1.1.1.2.1, ⟨hk.1.1.1.1.1.1.1.1.1.1.1.1.2.2, ⟨hk.1.1.1.1.1.1.1.1.1.1.1.2, ⟨hk.1.1.1.1.1.1.1.1.2, ⟨hk.1.1.1.1.1.1.2, ⟨hk.1.1.1.1.2, hk.1.2⟩⟩⟩⟩⟩⟩⟩⟩⟩⟩⟩⟩⟩)⟩
 have n2_ : Aside0 (Kd.R (Kd.int .i64) 3 (((w85.setCell ⟨gb214, 0, none⟩ (.bool t208)).setCell ⟨gb214, 1, none⟩ (.string t209)).setCell ⟨gb214, 2, none⟩ (.slice Ao93 t210.length co93)) w.heap.size (fun k_ => some k_ ≠ (.slice Ao83 y205.length co83 : Value).ownBlock) (.slice Ao55 y181.length co55) y181) := ⟨by (with_reducible repeat (first | apply Kd.R_alloc | apply Kd.R_drewN | apply Kd.R_drew)); exact Kd.R_mono (Kd.R_far (p := ⟨gb214, 2, none⟩) (Kd.R_far (p := ⟨gb214, 1, none⟩) (Kd.R_far (p := ⟨gb214, 0, none⟩) (Kd.R_types HO183.out BK214.out (by decide)) (fun _ hk => hk.2) (.bool t208)) (fun _ hk => hk.2) (.string t209)) (fun _ hk => hk.2) (.slice Ao93 t210.length co93)) (fun _ hk => hk.1.2)⟩
 have n3_ : Aside0 (Kd.N k25 25 (((w85.setCell ⟨gb214, 0, none⟩ (.bool t208)).setCell ⟨gb214, 1, none⟩ (.string t209)).setCell ⟨gb214, 2, none⟩ (.slice Ao93 t210.length co93)) w.heap.size (fun k_ => some k_ ≠ (.slice Ao51 t176.length co51 : Value).ownBlock ∧ some k_ ≠ (.slice Ao55 y181.length co55 : Value).ownBlock ∧ some k_ ≠ (.slice Ao70 t193.length co70 : Value).ownBlock ∧ some k_ ≠ (.slice Ao79 t200.length co79 : Value).ownBlock ∧ some k_ ≠ (.slice Ao83 y205.length co83 : Value).ownBlock ∧ some k_ ≠ (.slice Ao93 t210.length co93 : Value).ownBlock ∧ k_ ≠ gb157 ∧ k_ ≠ gb171 ∧ k_ ≠ gb180 ∧ k_ ≠ gb190 ∧ k_ ≠ gb197 ∧ k_ ≠ gb204 ∧ k_ ≠ gb214) (.slice Ao62 t186.length co62) t186) := ⟨by (with_reducible repeat (first | apply Kd.N_alloc | apply Kd.N_drewN | apply Kd.N_drew)); exact Kd.N_mono (Kd.N_far (p := ⟨gb214, 2, none⟩) (Kd.N_far (p := ⟨gb214, 1, none⟩) (Kd.N_far (p := ⟨gb214, 0, none⟩) (Kd.N_mono HO188.out (fun k_ hk => (⟨hk, hk.2⟩ : _ ∧ k_ ≠ gb214))) (fun _ hk => hk.2) (.bool t208)) (fun _ hk => hk.2) (.string t209)) (fun _ hk => hk.2) (.slice Ao93 t210.length co93)) (fun _ hk => ⟨hk.1.1.1.1.1.1.1.1.1.1, ⟨hk.1.1.1.1.1.1.1.1.1.2.1, ⟨hk.1.1.1.1.1.1.1.2, ⟨hk.1.1.1.1.1.2, ⟨hk.1.1.1.2, ⟨hk.1.1.2, ⟨hk.1.1.1.1.1.1.1.1.1.2.2.1, ⟨hk.1.1.1.1.1.1.1.1.1.2.2.2.1, ⟨hk.1.1.1.1.1.1.1.1.1.2.2.2.2, ⟨hk.1.1.1.1.1.1.1.1.2, ⟨hk.1.1.1.1.1.1.2, ⟨hk.1.1.1.1.2, hk.1.2⟩⟩⟩⟩⟩⟩⟩⟩⟩⟩⟩⟩)⟩
 have n4_ : Aside0 (Kd.N k25 25 (((w85.setCell ⟨gb214, 0, none⟩ (.bool t208)).setCell ⟨gb214, 1, none⟩ (.string t209)).setCell ⟨gb214, 2, none⟩ (.slice Ao93 t210.length co93)) w.heap.size (fun k_ => some k_ ≠ (.slice Ao39 y168.length co39 : Value).ownBlock ∧ some k_ ≠ (.slice Ao51 t176.length co51 : Value).ownBlock ∧ some k_ ≠ (.slice Ao55 y181.length co55 : Value).ownBlock ∧ some k_ ≠ (.slice Ao62 t186.length co62 : Value).ownBlock ∧ some k_ ≠ (.slice Ao79 t200.length co79 : Value).ownBlock ∧ some k_ ≠ (.slice Ao83 y205.length co83 : Value).ownBlock ∧ some k_ ≠ (.slice Ao93 t210.length co93 : Value).ownBlock ∧ k_ ≠ gb157 ∧ k_ ≠ gb171 ∧ k_ ≠ gb180 ∧ k_ ≠ gb190 ∧ k_ ≠ gb197 ∧ k_ ≠ gb204 ∧ k_ ≠ gb214) (.slice Ao70 t193.length co70) t193) := ⟨by (with_reducible repeat (first | apply Kd.N_alloc | apply Kd.N_drewN | apply Kd.N_drew)); exact Kd.N_mono (Kd.N_far (p := ⟨gb214, 2, none⟩) (Kd.N_far (p := ⟨gb214, 1, none⟩) (Kd.N_far (p := ⟨gb214, 0, none⟩) (Kd.N_mono HO195.out (fun k_ hk => (⟨hk, hk.2⟩ : _ ∧ k_ ≠ gb214))) (fun _ hk => hk.2) (.bool t208)) (fun _ hk => hk.2) (.string t209)) (fun _ hk => hk.2) (.slice Ao93 t210.length co93)) (fun _ hk => ⟨hk.1.1.1.1.1.1.1.1, ⟨hk.1.1.1.1.1.1.1.2.1, ⟨hk.1.1.1.1.1.1.1.2.2.1, ⟨hk.1.1.1.1.1.1.1.2.2.2.1, ⟨hk.1.1.1.1.1.2, ⟨hk.1.1.1.2, ⟨hk.1.1.2, ⟨hk.1.1.1.1.1.1.1.2.2.2.2.1, ⟨hk.1.1.1.1.1.1.1.2.2.2.2.2.1, ⟨hk.1.1.1.1.1.1.1.2.2.2.2.2.2.1, ⟨hk.1.1.1.1.1.1.1.2.2.2.2.2.2.2, ⟨hk.1.1.1.1.1.1.2, ⟨hk.1.1.1.1.2, hk.1.2⟩⟩⟩⟩⟩⟩⟩⟩⟩⟩⟩⟩⟩)⟩
 have n5_ : Aside0 (Kd.N k25 25 (((w85.setCell ⟨gb214, 0, none⟩ (.bool t208)).setCell ⟨gb214, 1, none⟩ (.string t209)).setCell ⟨gb214, 2, none⟩ (.slice Ao93 t210.length co93)) w.heap.size (fun k_ => some k_ ≠ (.slice Ao39 y168.length co39 : Value).ownBlock ∧ some k_ ≠ (.slice Ao51 t176.length co51 : Value).ownBlock ∧ some k_ ≠ (.slice Ao55 y181.length co55 : Value).ownBlock ∧ some k_ ≠ (.slice Ao62 t186.length co62 : Value).ownBlock ∧ some k_ ≠ (.slice Ao70 t193.length co70 : Value).ownBlock ∧ some k_ ≠ (.slice Ao83 y205.length co83 : Value).ownBlock ∧ some k_ ≠ (.slice Ao93 t210.length co93 : Value).ownBlock ∧ k_ ≠ gb157 ∧ k_ ≠ gb171 ∧ k_ ≠ gb180 ∧ k_ ≠ gb190 ∧ k_ ≠ gb197 ∧ k_ ≠ gb204 ∧ k_ ≠ gb214) (.slice Ao79 t200.length co79) t200) := ⟨by (with_reducible repeat (first | apply Kd.N_alloc | apply Kd.N_drewN | apply Kd.N_drew)); exact Kd.N_mono (Kd.N_far (p := ⟨gb214, 2, none⟩) (Kd.N_far (p := ⟨gb214, 1, none⟩) (Kd.N_far (p := ⟨gb214, 0, none⟩) (Kd.N_mono HO202.out (fun k_ hk => (⟨hk, hk.2⟩ : _ ∧ k_ ≠ gb214))) (fun _ hk => hk.2) (.bool t208)) (fun _ hk => hk.2) (.string t209)) (fun _ hk => hk.2) (.slice Ao93 t210.length co93)) (fun _ hk => ⟨hk.1.1.1.1.1.1, ⟨hk.1.1.1.1.1.2.1, ⟨hk.1.1.1.1.1.2.2.1, ⟨hk.1.1.1.1.1.2.2.2.1, ⟨hk.1.1.1.1.1.2.2.2.2.1, ⟨hk.1.1.1.2, ⟨hk.1.1.2, ⟨hk.1.1.1.1.1.2.2.2.2.2.1, ⟨hk.1.1.1.1.1.2.2.2.2.2.2.1, ⟨hk.1.1.1.1.1.2.2.2.2.2.2.2.1, ⟨hk.1.1.1.1.1.2.2.2.2.2.2.2.2.1, ⟨hk.1.1.1.1.1.2.2.2.2.2.2.2.2.2, ⟨hk.1.1.1.1.2, hk.1.2⟩⟩⟩⟩⟩⟩⟩⟩⟩⟩⟩⟩⟩)⟩
 have n6_ : Aside0 (Kd.R (Kd.int .i64) 3 (((w85.setCell ⟨gb214, 0, none⟩ (.bool t208)).setCell ⟨gb214, 1, none⟩ (.string t209)).setCell ⟨gb214, 2, none⟩ (.slice Ao93 t210.length co93)) w.heap.size (fun k_ => some k_ ≠ (.slice Ao55 y181.length co55 : Value).ownBlock) (.slice Ao83 y205.length co83) y205) := ⟨by (with_reducible repeat (first | apply Kd.R_alloc | apply Kd.R_drewN | apply Kd.R_drew)); exact Kd.R_mono (Kd.R_far (p := ⟨gb214, 2, none⟩) (Kd.R_far (p := ⟨gb214, 1, none⟩) (Kd.R_far (p := ⟨gb214, 0, none⟩) (Kd.R_types HO207.out BK214.out (by decide)) (fun _ hk => hk.2) (.bool t208)) (fun _ hk => hk.2) (.string t209)) (fun _ hk => hk.2) (.slice Ao93 t210.length co93)) (fun _ hk => hk.1.2)⟩
 have n7_ : Aside0 (Kd.N k25 25 (((w85.setCell ⟨gb214, 0, none⟩ (.bool t208)).setCell ⟨gb214, 1, none⟩ (.string t209)).setCell ⟨gb214, 2, none⟩ (.slice Ao93 t210.length co93)) w.heap.size (fun k_ => some k_ ≠ (.slice Ao51 t176.length co51 : Value).ownBlock ∧ some k_ ≠ (.slice Ao55 y181.length co55 : Value).ownBlock ∧ some k_ ≠ (.slice Ao62 t186.length co62 : Value).ownBlock ∧ some k_ ≠ (.slice Ao70 t193.length co70 : Value).ownBlock ∧ some k_ ≠ (.slice Ao79 t200.length co79 : Value).ownBlock ∧ some k_ ≠ (.slice Ao83 y205.length co83 : Value).ownBlock ∧ k_ ≠ gb157 ∧ k_ ≠ gb171 ∧ k_ ≠ gb180 ∧ k_ ≠ gb190 ∧ k_ ≠ gb197 ∧ k_ ≠ gb204 ∧ k_ ≠ gb214) (.slice Ao93 t210.length co93) t210) := ⟨by (with_reducible repeat (first | apply Kd.N_alloc | apply Kd.N_drewN | apply Kd.N_drew)); exact Kd.N_mono (Kd.N_far (p := ⟨gb214, 2, none⟩) (Kd.N_far (p := ⟨gb214, 1, none⟩) (Kd.N_far (p := ⟨gb214, 0, none⟩) (Kd.N_mono HO212.out (fun k_ hk => (⟨hk, hk.2⟩ : _ ∧ k_ ≠ gb214))) (fun _ hk => hk.2) (.bool t208)) (fun _ hk => hk.2) (.string t209)) (fun _ hk => hk.2) (.slice Ao93 t210.length co93)) (fun _ hk => ⟨hk.1.1.1, ⟨hk.1.1.2.1, ⟨hk.1.1.2.2.1, ⟨hk.1.1.2.2.2.1, ⟨hk.1.1.2.2.2.2.1, ⟨hk.1.1.2.2.2.2.2.1, ⟨hk.1.1.2.2.2.2.2.2.1, ⟨hk.1.1.2.2.2.2.2.2.2.1, ⟨hk.1.1.2.2.2.2.2.2.2.2.1, ⟨hk.1.1.2.2.2.2.2.2.2.2.2.1, ⟨hk.1.1.2.2.2.2.2.2.2.2.2.2.1, ⟨hk.1.1.2.2.2.2.2.2.2.2.2.2.2, hk.1.2⟩⟩⟩⟩⟩⟩⟩⟩⟩⟩⟩⟩)⟩
 have n8_ : Aside0 ((((w85.setCell ⟨gb214, 0, none⟩ (.bool t208)).setCell ⟨gb214, 1, none⟩ (.string t209)).setCell ⟨gb214, 2, none⟩ (.slice Ao93 t210.length co93)).heap[gb157]? = some (.cells #[.bool true, .string (⟨#[]⟩ : ByteArray), .slice Ao25 y154.length co25] 25 (0, 0))) := ⟨by (with_reducible repeat (first | refine blk_drewN ?_ _ | refine blk_drew ?_ | refine blk_alloc ?_ _)); refine blk_far ?_ NB157_214.out _; (with_reducible repeat (first | refine blk_drewN ?_ _ | refine blk_drew ?_ | refine blk_alloc ?_ _)); refine blk_far ?_ NB157_214.out _; (with_reducible repeat (first | refine blk_drewN ?_ _ | refine blk_drew ?_ | refine blk_alloc ?_ _)); refine blk_far ?_ NB157_214.out _; (with_reducible repeat (first | refine blk_drewN ?_ _ | refine blk_drew ?_ | refine blk_alloc ?_ _)); exact BK157.out⟩
 have n9_ : Aside0 ((((w85.setCell ⟨gb214, 0, none⟩ (.bool t208)).setCell ⟨gb214, 1, none⟩ (.string t209)).setCell ⟨gb214, 2, none⟩ (.slice Ao93 t210.length co93)).heap[gb171]? = some (.cells #[.bool true, .string (⟨#[]⟩ : ByteArray), .slice Ao39 y168.length co39] 25 (0, 0))) := ⟨by (with_reducible repeat (first | refine blk_drewN ?_ _ | refine blk_drew ?_ | refine blk_alloc ?_ _)); refine blk_far ?_ NB171_214.out _; (with_reducible repeat (first | refine blk_drewN ?_ _ | refine blk_drew ?_ | refine blk_alloc ?_ _)); refine blk_far ?_ NB171_214.out _; (with_reducible repeat (first | refine blk_drewN ?_ _ | refine blk_drew ?_ | refine blk_alloc ?_ _)); refine blk_far ?_ NB171_214.out _; (with_reducible repeat (first | refine blk_drewN ?_ _ | refine blk_drew ?_ | refine blk_alloc ?_ _)); exact BK171.out⟩
 have n10_ : Aside0 ((((w85.setCell ⟨gb214, 0, none⟩ (.bool t208)).setCell ⟨gb214, 1, none⟩ (.string t209)).setCell ⟨gb214, 2, none⟩ (.slice Ao93 t210.length co93)).heap[gb180]? = some (.cells #[.bool t174, .string t175, .slice Ao51 t176.length co51] 25 (0, 0))) := ⟨by (with_reducible repeat (first | refine blk_drewN ?_ _ | refine blk_drew ?_ | refine blk_alloc ?_ _)); refine blk_far ?_ NB180_214.out _; (with_reducible repeat (first | refine blk_drewN ?_ _ | refine blk_drew ?_ | refine blk_alloc ?_ _)); refine blk_far ?_ NB180_214.out _; (with_reducible repeat (first | refine blk_drewN ?_ _ | refine blk_drew ?_ | refine blk_alloc ?_ _)); refine blk_far ?_ NB180_214.out _; (with_reducible repeat (first | refine blk_drewN ?_ _ | refine blk_drew ?_ | refine blk_alloc ?_ _)); exact BK180.out⟩
 have n11_ : Aside0 ((((w85.setCell ⟨gb214, 0, none⟩ (.bool t208)).setCell ⟨gb214, 1, none⟩ (.string t209)).setCell ⟨gb214, 2, none⟩ (.slice Ao93 t210.length co93)).heap[gb190]? = some (.cells #[.bool t184, .string t185, .slice Ao62 t186.length co62] 25 (0, 0))) := ⟨by (with_reducible repeat (first | refine blk_drewN ?_ _ | refine blk_drew ?_ | refine blk_alloc ?_ _)); refine blk_far ?_ NB190_214.out _; (with_reducible repeat (first | refine blk_drewN ?_ _ | refine blk_drew ?_ | refine blk_alloc ?_ _)); refine blk_far ?_ NB190_214.out _; (with_reducible repeat (first | refine blk_drewN ?_ _ | refine blk_drew ?_ | refine blk_alloc ?_ _)); refine blk_far ?_ NB190_214.out _; (with_reducible repeat (first | refine blk_drewN ?_ _ | refine blk_drew ?_ | refine blk_alloc ?_ _)); exact BK190.out⟩
 have n12_ : Aside0 ((((w85.setCell ⟨gb214, 0, none⟩ (.bool t208)).setCell ⟨gb214, 1, none⟩ (.string t209)).setCell ⟨gb214, 2, none⟩ (.slice Ao93 t210.length co93)).heap[gb197]? = some (.cells #[.bool t191, .string t192, .slice Ao70 t193.length co70] 25 (0, 0))) := ⟨by (with_reducible repeat (first | refine blk_drewN ?_ _ | refine blk_drew ?_ | refine blk_alloc ?_ _)); refine blk_far ?_ NB197_214.out _; (with_reducible repeat (first | refine blk_drewN ?_ _ | refine blk_drew ?_ | refine blk_alloc ?_ _)); refine blk_far ?_ NB197_214.out _; (with_reducible repeat (first | refine blk_drewN ?_ _ | refine blk_drew ?_ | refine blk_alloc ?_ _)); refine blk_far ?_ NB197_214.out _; (with_reducible repeat (first | refine blk_drewN ?_ _ | refine blk_drew ?_ | refine blk_alloc ?_ _)); exact BK197.out⟩
 have n13_ : Aside0 ((((w85.setCell ⟨gb214, 0, none⟩ (.bool t208)).setCell ⟨gb214, 1, none⟩ (.string t209)).setCell ⟨gb214, 2, none⟩ (.slice Ao93 t210.length co93)).heap[gb204]? = some (.cells #[.bool t198, .string t199, .slice Ao79 t200.length co79] 25 (0, 0))) := ⟨by (with_reducible repeat (first | refine blk_drewN ?_ _ | refine blk_drew ?_ | refine blk_alloc ?_ _)); refine blk_far ?_ NB204_214.out _; (with_reducible repeat (first | refine blk_drewN ?_ _ | refine blk_drew ?_ | refine blk_alloc ?_ _)); refine blk_far ?_ NB204_214.out _; (with_reducible repeat (first | refine blk_drewN ?_ _ | refine blk_drew ?_ | refine blk_alloc ?_ _)); refine blk_far ?_ NB204_214.out _; (with_reducible repeat (first | refine blk_drewN ?_ _ | refine blk_drew ?_ | refine blk_alloc ?_ _)); exact BK204.out⟩
 have n14_ : Aside0 ((((w85.setCell ⟨gb214, 0, none⟩ (.bool t208)).setCell ⟨gb214, 1, none⟩ (.string t209)).setCell ⟨gb214, 2, none⟩ (.slice Ao93 t210.length co93)).heap[gb214]? = some (.cells #[.bool t208, .string t209, .slice Ao93 t210.length co93] 25 (0, 0))) := ⟨by (with_reducible repeat (first | refine blk_drewN ?_ _ | refine blk_drew ?_ | refine blk_alloc ?_ _)); refine blk_put (cs := #[.bool t208, .string t209, .slice none 0 0]) ?_ 2 _ rfl; (with_reducible repeat (first | refine blk_drewN ?_ _ | refine blk_drew ?_ | refine blk_alloc ?_ _)); refine blk_put (cs := #[.bool t208, .string (⟨#[]⟩ : ByteArray), .slice none 0 0]) ?_ 1 _ rfl; (with_reducible repeat (first | refine blk_drewN ?_ _ | refine blk_drew ?_ | refine blk_alloc ?_ _)); refine blk_put (cs := #[.bool false, .string (⟨#[]⟩ : ByteArray), .slice none 0 0]) ?_ 0 _ rfl; (with_reducible repeat (first | refine blk_drewN ?_ _ | refine blk_drew ?_ | refine blk_alloc ?_ _)); exact BK214.out⟩
 have n15_ : Aside0 (Below w.heap.size w (((w85.setCell ⟨gb214, 0, none⟩ (.bool t208)).setCell ⟨gb214, 1, none⟩ (.string t209)).setCell ⟨gb214, 2, none⟩ (.slice Ao93 t210.length co93))) := ⟨by repeat (first | (with_reducible first | exact HB.out | apply below_alloc | apply pw_below_drewN | apply below_drew1 | refine below_set ?_ GE157.out | refine below_set ?_ GE171.out | refine below_set ?_ GE180.out | refine below_set ?_ GE190.out | refine below_set ?_ GE197.out | refine below_set ?_ GE204.out | refine below_set ?_ GE214.out) | exact HB.out)⟩
 (try clear HO170)
 (try clear HO178)
 (try clear HO183)
 (try clear HO188)
 (try clear HO195)
 (try clear HO202)
 (try clear HO207)
 (try clear HO212)
 (try clear BK157)
 (try clear BK171)
 (try clear BK180)
 (try clear BK190)
 (try clear BK197)
 (try clear BK204)
 (try clear BK214)
 (try clear HB)
 generalize (((w85.setCell ⟨gb214, 0, none⟩ (.bool t208)).setCell ⟨gb214, 1, none⟩ (.string t209)).setCell ⟨gb214, 2, none⟩ (.slice Ao93 t210.length co93)) = w94 at n0_ n1_ n2_ n3_ n4_ n5_ n6_ n7_ n8_ n9_ n10_ n11_ n12_ n13_ n14_ n15_ ⊢
 have HO170 := n0_
 have HO178 := n1_
 have HO183 := n2_
 have HO188 := n3_
 have HO195 := n4_
 have HO202 := n5_
 have HO207 := n6_
 have HO212 := n7_
 have BK157 := n8_
 have BK171 := n9_
 have BK180 := n10_
 have BK190 := n11_
 have BK197 := n12_
 have BK204 := n13_
 have BK214 := n14_
 have HB := n15_
 clear n0_ n1_ n2_ n3_ n4_ n5_ n6_ n7_ n8_ n9_ n10_ n11_ n12_ n13_ n14_ n15_
 have n0_ := Aside0.mk (Kd.N_drew HO170.out)
 have n1_ := Aside0.mk (Kd.N_drew HO178.out)
 have n2_ := Aside0.mk (Kd.R_drew HO183.out)
 have n3_ := Aside0.mk (Kd.N_drew HO188.out)
 have n4_ := Aside0.mk (Kd.N_drew HO195.out)
 have n5_ := Aside0.mk (Kd.N_drew HO202.out)
 have n6_ := Aside0.mk (Kd.R_drew HO207.out)
 have n7_ := Aside0.mk (Kd.N_drew HO212.out)
 have n8_ := Aside0.mk (blk_drew BK157.out)
 have n9_ := Aside0.mk (blk_drew BK171.out)
 have n10_ := Aside0.mk (blk_drew BK180.out)
 have n11_ := Aside0.mk (blk_drew BK190.out)
 have n12_ := Aside0.mk (blk_drew BK197.out)
 have n13_ := Aside0.mk (blk_drew BK204.out)
 have n14_ := Aside0.mk (blk_drew BK214.out)
 have n15_ := Aside0.mk (below_drew1 HB.out)
 clear HO170
 clear HO178
 clear HO183
 clear HO188
 clear HO195
 clear HO202
 clear HO207
 clear HO212
 clear BK157
 clear BK171
 clear BK180
 clear BK190
 clear BK197
 clear BK204
 clear BK214
 clear HB
 have HO170 := n0_
 have HO178 := n1_
 have HO183 := n2_
 have HO188 := n3_
 have HO195 := n4_
 have HO202 := n5_
 have HO207 := n6_
 have HO212 := n7_
 have BK157 := n8_
 have BK171 := n9_
 have BK180 := n10_
 have BK190 := n11_
 have BK197 := n12_
 have BK204 := n13_
 have BK214 := n14_
 have HB := n15_
 clear n0_ n1_ n2_ n3_ n4_ n5_ n6_ n7_ n8_ n9_ n10_ n11_ n12_ n13_ n14_ n15_
 refine start_ (n := 37) (S := fun w' => w'.cell? ⟨gb180, 0, none⟩ = some (.bool t174) ∧ w'.cell? ⟨gb180, 1, none⟩ = some (.string t175) ∧ w'.cell? ⟨gb180, 2, none⟩ = some (.slice Ao51 t176.length co51) ∧ w'.cell? ⟨gb171, 0, none⟩ = some (.bool true) ∧ w'.cell? ⟨gb171, 1, none⟩ = some (.string (⟨#[]⟩ : ByteArray)) ∧ w'.cell? ⟨gb171, 2, none⟩ = some (.slice Ao39 y168.length co39) ∧ w'.cell? ⟨gb190, 0, none⟩ = some (.bool t184) ∧ w'.cell? ⟨gb190, 1, none⟩ = some (.string t185) ∧ w'.cell? ⟨gb190, 2, none⟩ = some (.slice Ao62 t186.length co62)) (ds := []) #[false, false, false, false, false, false, false, false, false, false, false, false, false, false, false, false, false, false, false, false, false, false, false, false, false, false, false, false, false, false, false, false, false, false, false, false, false] (by kernel_rfl) rfl rfl ⟨(blk_cell BK180.out 0).trans rfl, (blk_cell BK180.out 1).trans rfl, (blk_cell BK180.out 2).trans rfl, (blk_cell BK171.out 0).trans rfl, (blk_cell BK171.out 1).trans rfl, (blk_cell BK171.out 2).trans rfl, (blk_cell BK190.out 0).trans rfl, (blk_cell BK190.out 1).trans rfl, (blk_cell BK190.out 2).trans rfl⟩ (fun hHeld => ?_); refine with_tabW garmentlaw06_exampleHolds.tab9 garmentlaw06_exampleHolds.bits9 (fun HT_ HW_ => ?_)
 generalize w94.drew = w95 at HO170 HO178 HO183 HO188 HO195 HO202 HO207 HO212 BK157 BK171 BK180 BK190 BK197 BK204 BK214 HB hHeld ⊢
 refine pure_ (i := 0) (N := some 52) (v := ?_) (a' := ?_) #[true, false, false, false, false, false, false, false, false, false, false, false, false, false, false, false, false, false, false, false, false, false, false, false, false, false, false, false, false, false, false, false, false, false, false, false, false] rfl rfl (any_of HT_.out (by kernel_rfl)) (fun _ _ _ h => h) (Or.inl ⟨by rfl, ?_⟩) ?_ ?_
 rotate_left
 ·intro w'
  go_simp
  with_reducible rfl
 rotate_left
 ·simp only [Act.put, List.setIfInBounds_toArray, List.set_cons_zero, List.set_cons_succ, i64_w, i32_w]
  rfl
 refine pure_ (i := 1) (N := some 53) (v := ?_) (a' := ?_) #[true, true, false, false, false, false, false, false, false, false, false, false, false, false, false, false, false, false, false, false, false, false, false, false, false, false, false, false, false, false, false, false, false, false, false, false, false] rfl rfl (any_of HT_.out (by kernel_rfl)) (fun _ _ _ h => h) (Or.inl ⟨by rfl, ?_⟩) ?_ ?_
 rotate_left
 ·intro w'
  go_simp
  with_reducible rfl
 rotate_left
 ·simp only [Act.put, List.setIfInBounds_toArray, List.set_cons_zero, List.set_cons_succ, i64_w, i32_w]
  rfl
 refine pure_ (i := 2) (N := some 54) (v := ?_) (a' := ?_) #[true, true, true, false, false, false, false, false, false, false, false, false, false, false, false, false, false, false, false, false, false, false, false, false, false, false, false, false, false, false, false, false, false, false, false, false, false] rfl rfl (any_of HT_.out (by kernel_rfl)) (fun _ _ _ h => h) (Or.inl ⟨by rfl, ?_⟩) ?_ ?_
 rotate_left
 ·intro w'
  go_simp
  with_reducible rfl
 rotate_left
 ·simp only [Act.put, List.setIfInBounds_toArray, List.set_cons_zero, List.set_cons_succ, i64_w, i32_w]
  rfl
 refine pure_ (i := 3) (N := some 55) (v := ?_) (a' := ?_) #[true, true, true, true, false, false, false, false, false, false, false, false, false, false, false, false, false, false, false, false, false, false, false, false, false, false, false, false, false, false, false, false, false, false, false, false, false] rfl rfl (any_of HT_.out (by kernel_rfl)) (fun _ _ _ h => h) (Or.inl ⟨by rfl, ?_⟩) ?_ ?_
 rotate_left
 ·intro w'
  go_simp
  with_reducible rfl
 rotate_left
 ·simp only [Act.put, List.setIfInBounds_toArray, List.set_cons_zero, List.set_cons_succ, i64_w, i32_w]
  rfl
 refine pure_ (i := 4) (N := some 56) (v := ?_) (a' := ?_) #[true, true, true, true, true, false, false, false, false, false, false, false, false, false, false, false, false, false, false, false, false, false, false, false, false, false, false, false, false, false, false, false, false, false, false, false, false] rfl rfl (any_of HT_.out (by kernel_rfl)) (fun _ _ _ h => h) (Or.inl ⟨by rfl, ?_⟩) ?_ ?_
 rotate_left
 ·intro w'
  go_simp
  with_reducible rfl
 rotate_left
 ·simp only [Act.put, List.setIfInBounds_toArray, List.set_cons_zero, List.set_cons_succ, i64_w, i32_w]
  rfl
 refine pure_ (i := 5) (N := some 57) (v := ?_) (a' := ?_) #[true, true, true, true, true, true, false, false, false, false, false, false, false, false, false, false, false, false, false, false, false, false, false, false, false, false, false, false, false, false, false, false, false, false, false, false, false] rfl rfl (any_of HT_.out (by kernel_rfl)) (fun _ _ _ h => h) (Or.inl ⟨by rfl, ?_⟩) ?_ ?_
 rotate_left
 ·intro w'
  go_simp
  with_reducible rfl
 rotate_left
 ·simp only [Act.put, List.setIfInBounds_toArray, List.set_cons_zero, List.set_cons_succ, i64_w, i32_w]
  rfl
 refine pure_ (i := 6) (N := some 58) (v := ?_) (a' := ?_) #[true, true, true, true, true, true, true, false, false, false, false, false, false, false, false, false, false, false, false, false, false, false, false, false, false, false, false, false, false, false, false, false, false, false, false, false, false] rfl rfl (any_of HT_.out (by kernel_rfl)) (fun _ _ _ h => h) (Or.inl ⟨by rfl, ?_⟩) ?_ ?_
 rotate_left
 ·intro w'
  go_simp
  with_reducible rfl
 rotate_left
 ·simp only [Act.put, List.setIfInBounds_toArray, List.set_cons_zero, List.set_cons_succ, i64_w, i32_w]
  rfl
 refine pure_ (i := 7) (N := some 59) (v := ?_) (a' := ?_) #[true, true, true, true, true, true, true, true, false, false, false, false, false, false, false, false, false, false, false, false, false, false, false, false, false, false, false, false, false, false, false, false, false, false, false, false, false] rfl rfl (any_of HT_.out (by kernel_rfl)) (fun _ _ _ h => h) (Or.inl ⟨by rfl, ?_⟩) ?_ ?_
 rotate_left
 ·intro w'
  go_simp
  with_reducible rfl
 rotate_left
 ·simp only [Act.put, List.setIfInBounds_toArray, List.set_cons_zero, List.set_cons_succ, i64_w, i32_w]
  rfl
 refine pure_ (i := 8) (N := some 60) (v := ?_) (a' := ?_) #[true, true, true, true, true, true, true, true, true, false, false, false, false, false, false, false, false, false, false, false, false, false, false, false, false, false, false, false, false, false, false, false, false, false, false, false, false] rfl rfl (any_of HT_.out (by kernel_rfl)) (fun _ _ _ h => h) (Or.inl ⟨by rfl, ?_⟩) ?_ ?_
 rotate_left
 ·intro w'
  go_simp
  with_reducible rfl
 rotate_left
 ·simp only [Act.put, List.setIfInBounds_toArray, List.set_cons_zero, List.set_cons_succ, i64_w, i32_w]
  rfl
 refine pure_ (i := 9) (N := some 61) (v := ?_) (a' := ?_) #[true, true, true, true, true, true, true, true, true, true, false, false, false, false, false, false, false, false, false, false, false, false, false, false, false, false, false, false, false, false, false, false, false, false, false, false, false] rfl rfl (any_of HT_.out (by kernel_rfl)) (fun _ _ _ h => h) (Or.inl ⟨by rfl, ?_⟩) ?_ ?_
 rotate_left
 ·intro w'
  go_simp
  with_reducible rfl
 rotate_left
 ·simp only [Act.put, List.setIfInBounds_toArray, List.set_cons_zero, List.set_cons_succ, i64_w, i32_w]
  rfl
 refine pure_ (i := 10) (N := some 62) (v := ?_) (a' := ?_) #[true, true, true, true, true, true, true, true, true, true, true, false, false, false, false, false, false, false, false, false, false, false, false, false, false, false, false, false, false, false, false, false, false, false, false, false, false] rfl rfl (any_of HT_.out (by kernel_rfl)) (fun _ _ _ h => h) (Or.inl ⟨by rfl, ?_⟩) ?_ ?_
 rotate_left
 ·intro w'
  go_simp
  with_reducible rfl
 rotate_left
 ·simp only [Act.put, List.setIfInBounds_toArray, List.set_cons_zero, List.set_cons_succ, i64_w, i32_w]
  rfl
 refine take_ (i := 11) (N := some 63) (v := ?_) (a' := ?_) #[true, true, true, true, true, true, true, true, true, true, true, true, false, false, false, false, false, false, false, false, false, false, false, false, false, false, false, false, false, false, false, false, false, false, false, false, false] rfl rfl (take_ofW HT_.out HW_.out (by kernel_rfl)) (fun _ _ _ h => h) (Or.inl ⟨by rfl, ?_⟩) hHeld ?_ ?_
 rotate_left
 ·rintro w' ⟨s0, s1, s2, s3, s4, s5, s6, s7, s8⟩
  go_simp
  with_reducible rfl
 rotate_left
 ·simp only [Act.put, List.setIfInBounds_toArray, List.set_cons_zero, List.set_cons_succ, i64_w, i32_w]
  rfl
 refine take_ (i := 12) (N := some 64) (v := ?_) (a' := ?_) #[true, true, true, true, true, true, true, true, true, true, true, true, true, false, false, false, false, false, false, false, false, false, false, false, false, false, false, false, false, false, false, false, false, false, false, false, false] rfl rfl (take_ofW HT_.out HW_.out (by kernel_rfl)) (fun _ _ _ h => h) (Or.inl ⟨by rfl, ?_⟩) hHeld ?_ ?_
 rotate_left
 ·rintro w' ⟨s0, s1, s2, s3, s4, s5, s6, s7, s8⟩
  go_simp
  with_reducible rfl
 rotate_left
 ·simp only [Act.put, List.setIfInBounds_toArray, List.set_cons_zero, List.set_cons_succ, i64_w, i32_w]
  rfl
 refine one_ (i := 13) (N := some 65) #[true, true, true, true, true, true, true, true, true, true, true, true, true, true, false, false, false, false, false, false, false, false, false, false, false, false, false, false, false, false, false, false, false, false, false, false, false] rfl rfl (one_of HT_.out (by kernel_rfl)) (by decide) (fun K hK => ?_)
 refine goes_ Tryd.func13 (by kernel_rfl) rfl #[.agg #[.bool t174, .string t175, .slice Ao51 t176.length co51], .agg #[.bool true, .string (⟨#[]⟩ : ByteArray), .slice Ao39 y168.length co39]] (by rfl) rfl rfl (by (try simp only [List.map_toArray, List.map_cons, List.map_nil]); first | done | rfl | (simp only [List.length_drop, List.length_take]; rfl)) ?_
 with_reducible refine (garmentref06_Same.calls k t174 t175 _ _ t176 true (⟨#[]⟩ : ByteArray) _ _ y168 true _ ?side1 ?side2 ?side3 ?side4 A13.out).mono ?_
 (case side1 => repeat (first | exact (Kd.N_reads' HO178.out).2.2 | (with_reducible refine Kd.C_alloc ?_ _) | (with_reducible refine Kd.C_drewN ?_ _) | (with_reducible refine Kd.C_drew ?_)))
 (case side2 => exact (Kd.N_reads' HO178.out).2.1)
 (case side3 => repeat (first | exact (Kd.N_reads' HO170.out).2.2 | (with_reducible refine Kd.C_alloc ?_ _) | (with_reducible refine Kd.C_drewN ?_ _) | (with_reducible refine Kd.C_drew ?_)))
 (case side4 => exact (Kd.N_reads' HO170.out).2.1)
 rintro e w96 ⟨rfl, hb⟩
 refine ⟨_, rfl, ?_⟩
 have n0_ := Aside0.mk (Kd.N_below (by (with_reducible repeat (first | apply Kd.N_alloc | apply Kd.N_drewN | apply Kd.N_drew)); exact HO170.out) hb)
 have n1_ := Aside0.mk (Kd.N_below (by (with_reducible repeat (first | apply Kd.N_alloc | apply Kd.N_drewN | apply Kd.N_drew)); exact HO178.out) hb)
 have n2_ := Aside0.mk (Kd.R_below (by (with_reducible repeat (first | apply Kd.R_alloc | apply Kd.R_drewN | apply Kd.R_drew)); exact HO183.out) hb)
 have n3_ := Aside0.mk (Kd.N_below (by (with_reducible repeat (first | apply Kd.N_alloc | apply Kd.N_drewN | apply Kd.N_drew)); exact HO188.out) hb)
 have n4_ := Aside0.mk (Kd.N_below (by (with_reducible repeat (first | apply Kd.N_alloc | apply Kd.N_drewN | apply Kd.N_drew)); exact HO195.out) hb)
 have n5_ := Aside0.mk (Kd.N_below (by (with_reducible repeat (first | apply Kd.N_alloc | apply Kd.N_drewN | apply Kd.N_drew)); exact HO202.out) hb)
 have n6_ := Aside0.mk (Kd.R_below (by (with_reducible repeat (first | apply Kd.R_alloc | apply Kd.R_drewN | apply Kd.R_drew)); exact HO207.out) hb)
 have n7_ := Aside0.mk (Kd.N_below (by (with_reducible repeat (first | apply Kd.N_alloc | apply Kd.N_drewN | apply Kd.N_drew)); exact HO212.out) hb)
 have n8_ := Aside0.mk (blk_below (g := gb157) (o := .cells #[.bool true, .string (⟨#[]⟩ : ByteArray), .slice Ao25 y154.length co25] 25 (0, 0)) (by (with_reducible repeat (first | refine blk_drewN ?_ _ | refine blk_drew ?_ | refine blk_alloc ?_ _)); exact BK157.out) hb)
 have n9_ := Aside0.mk (blk_below (g := gb171) (o := .cells #[.bool true, .string (⟨#[]⟩ : ByteArray), .slice Ao39 y168.length co39] 25 (0, 0)) (by (with_reducible repeat (first | refine blk_drewN ?_ _ | refine blk_drew ?_ | refine blk_alloc ?_ _)); exact BK171.out) hb)
 have n10_ := Aside0.mk (blk_below (g := gb180) (o := .cells #[.bool t174, .string t175, .slice Ao51 t176.length co51] 25 (0, 0)) (by (with_reducible repeat (first | refine blk_drewN ?_ _ | refine blk_drew ?_ | refine blk_alloc ?_ _)); exact BK180.out) hb)
 have n11_ := Aside0.mk (blk_below (g := gb190) (o := .cells #[.bool t184, .string t185, .slice Ao62 t186.length co62] 25 (0, 0)) (by (with_reducible repeat (first | refine blk_drewN ?_ _ | refine blk_drew ?_ | refine blk_alloc ?_ _)); exact BK190.out) hb)
 have n12_ := Aside0.mk (blk_below (g := gb197) (o := .cells #[.bool t191, .string t192, .slice Ao70 t193.length co70] 25 (0, 0)) (by (with_reducible repeat (first | refine blk_drewN ?_ _ | refine blk_drew ?_ | refine blk_alloc ?_ _)); exact BK197.out) hb)
 have n13_ := Aside0.mk (blk_below (g := gb204) (o := .cells #[.bool t198, .string t199, .slice Ao79 t200.length co79] 25 (0, 0)) (by (with_reducible repeat (first | refine blk_drewN ?_ _ | refine blk_drew ?_ | refine blk_alloc ?_ _)); exact BK204.out) hb)
 have n14_ := Aside0.mk (blk_below (g := gb214) (o := .cells #[.bool t208, .string t209, .slice Ao93 t210.length co93] 25 (0, 0)) (by (with_reducible repeat (first | refine blk_drewN ?_ _ | refine blk_drew ?_ | refine blk_alloc ?_ _)); exact BK214.out) hb)
 have n15_ := Aside0.mk (below_step (by repeat (first | (with_reducible first | exact HB.out | apply below_alloc | apply pw_below_drewN | apply below_drew1 | refine below_set ?_ GE157.out | refine below_set ?_ GE171.out | refine below_set ?_ GE180.out | refine below_set ?_ GE190.out | refine below_set ?_ GE197.out | refine below_set ?_ GE204.out | refine below_set ?_ GE214.out) | exact HB.out)) hb)
 clear HO170
 clear HO178
 clear HO183
 clear HO188
 clear HO195
 clear HO202
 clear HO207
 clear HO212
 clear BK157
 clear BK171
 clear BK180
 clear BK190
 clear BK197
 clear BK204
 clear BK214
 clear HB
 have HO170 := n0_
 have HO178 := n1_
 have HO183 := n2_
 have HO188 := n3_
 have HO195 := n4_
 have HO202 := n5_
 have HO207 := n6_
 have HO212 := n7_
 have BK157 := n8_
 have BK171 := n9_
 have BK180 := n10_
 have BK190 := n11_
 have BK197 := n12_
 have BK204 := n13_
 have BK214 := n14_
 have HB := n15_
 clear n0_ n1_ n2_ n3_ n4_ n5_ n6_ n7_ n8_ n9_ n10_ n11_ n12_ n13_ n14_ n15_
 (try clear hb)
 (try clear hb2)
 (try clear hk)
 (try clear hi)
 refine hK.out _ _ ⟨(blk_cell BK180.out 0).trans rfl, (blk_cell BK180.out 1).trans rfl, (blk_cell BK180.out 2).trans rfl, (blk_cell BK171.out 0).trans rfl, (blk_cell BK171.out 1).trans rfl, (blk_cell BK171.out 2).trans rfl, (blk_cell BK190.out 0).trans rfl, (blk_cell BK190.out 1).trans rfl, (blk_cell BK190.out 2).trans rfl⟩ (fun hHeld => ?_)
 clear hK K
 refine norm_ (a' := ?_) ?_ ?_
 rotate_left
 ·show Act.put _ (some 65) _ = _
  simp only [Act.put, List.setIfInBounds_toArray, List.set_cons_zero, List.set_cons_succ, i64_w, i32_w]
  rfl
 refine pure_ (i := 14) (N := some 66) (v := ?_) (a' := ?_) #[true, true, true, true, true, true, true, true, true, true, true, true, true, true, true, false, false, false, false, false, false, false, false, false, false, false, false, false, false, false, false, false, false, false, false, false, false] rfl rfl (any_of HT_.out (by kernel_rfl)) (fun _ _ _ h => h) (Or.inl ⟨by rfl, ?_⟩) ?_ ?_
 rotate_left
 ·intro w'
  go_simp
  with_reducible rfl
 rotate_left
 ·simp only [Act.put, List.setIfInBounds_toArray, List.set_cons_zero, List.set_cons_succ, i64_w, i32_w]
  rfl
 refine pure_ (i := 15) (N := some 67) (v := ?_) (a' := ?_) #[true, true, true, true, true, true, true, true, true, true, true, true, true, true, true, true, false, false, false, false, false, false, false, false, false, false, false, false, false, false, false, false, false, false, false, false, false] rfl rfl (any_of HT_.out (by kernel_rfl)) (fun _ _ _ h => h) (Or.inl ⟨by rfl, ?_⟩) ?_ ?_
 rotate_left
 ·intro w'
  go_simp
  with_reducible rfl
 rotate_left
 ·simp only [Act.put, List.setIfInBounds_toArray, List.set_cons_zero, List.set_cons_succ, i64_w, i32_w]
  rfl
 refine pure_ (i := 16) (N := some 68) (v := ?_) (a' := ?_) #[true, true, true, true, true, true, true, true, true, true, true, true, true, true, true, true, true, false, false, false, false, false, false, false, false, false, false, false, false, false, false, false, false, false, false, false, false] rfl rfl (any_of HT_.out (by kernel_rfl)) (fun _ _ _ h => h) (Or.inl ⟨by rfl, ?_⟩) ?_ ?_
 rotate_left
 ·intro w'
  go_simp
  with_reducible rfl
 rotate_left
 ·simp only [Act.put, List.setIfInBounds_toArray, List.set_cons_zero, List.set_cons_succ, i64_w, i32_w]
  rfl
 refine pure_ (i := 17) (N := some 69) (v := ?_) (a' := ?_) #[true, true, true, true, true, true, true, true, true, true, true, true, true, true, true, true, true, true, false, false, false, false, false, false, false, false, false, false, false, false, false, false, false, false, false, false, false] rfl rfl (any_of HT_.out (by kernel_rfl)) (fun _ _ _ h => h) (Or.inl ⟨by rfl, ?_⟩) ?_ ?_
 rotate_left
 ·intro w'
  go_simp
  with_reducible rfl
 rotate_left
 ·simp only [Act.put, List.setIfInBounds_toArray, List.set_cons_zero, List.set_cons_succ, i64_w, i32_w]
  rfl
 refine pure_ (i := 18) (N := some 70) (v := ?_) (a' := ?_) #[true, true, true, true, true, true, true, true, true, true, true, true, true, true, true, true, true, true, true, false, false, false, false, false, false, false, false, false, false, false, false, false, false, false, false, false, false] rfl rfl (any_of HT_.out (by kernel_rfl)) (fun _ _ _ h => h) (Or.inl ⟨by rfl, ?_⟩) ?_ ?_
 rotate_left
 ·intro w'
  go_simp
  with_reducible rfl
 rotate_left
 ·simp only [Act.put, List.setIfInBounds_toArray, List.set_cons_zero, List.set_cons_succ, i64_w, i32_w]
  rfl
 refine pure_ (i := 19) (N := some 71) (v := ?_) (a' := ?_) #[true, true, true, true, true, true, true, true, true, true, true, true, true, true, true, true, true, true, true, true, false, false, false, false, false, false, false, false, false, false, false, false, false, false, false, false, false] rfl rfl (any_of HT_.out (by kernel_rfl)) (fun _ _ _ h => h) (Or.inl ⟨by rfl, ?_⟩) ?_ ?_
 rotate_left
 ·intro w'
  go_simp
  with_reducible rfl
 rotate_left
 ·simp only [Act.put, List.setIfInBounds_toArray, List.set_cons_zero, List.set_cons_succ, i64_w, i32_w]
  rfl
 refine take_ (i := 20) (N := some 72) (v := ?_) (a' := ?_) #[true, true, true, true, true, true, true, true, true, true, true, true, true, true, true, true, true, true, true, true, true, false, false, false, false, false, false, false, false, false, false, false, false, false, false, false, false] rfl rfl (take_ofW HT_.out HW_.out (by kernel_rfl)) (fun _ _ _ h => h) (Or.inl ⟨by rfl, ?_⟩) hHeld ?_ ?_
 rotate_left
 ·rintro w' ⟨s0, s1, s2, s3, s4, s5, s6, s7, s8⟩
  go_simp
  with_reducible rfl
 rotate_left
 ·simp only [Act.put, List.setIfInBounds_toArray, List.set_cons_zero, List.set_cons_succ, i64_w, i32_w]
  rfl
 refine one_ (i := 21) (N := some 73) #[true, true, true, true, true, true, true, true, true, true, true, true, true, true, true, true, true, true, true, true, true, true, false, false, false, false, false, false, false, false, false, false, false, false, false, false, false] rfl rfl (one_of HT_.out (by kernel_rfl)) (by decide) (fun K hK => ?_)
 refine goes_ Tryd.func19 (by kernel_rfl) rfl #[.string (⟨#[]⟩ : ByteArray)] (by rfl) rfl rfl (by (try simp only [List.map_toArray, List.map_cons, List.map_nil]); first | done | rfl | (simp only [List.length_drop, List.length_take]; rfl)) ?_
 with_reducible refine (garmentlaw06_leaf.calls (⟨#[]⟩ : ByteArray) t216 t217 t218 _ A16.out).mono ?_
 rintro e w97 ⟨v219, rfl, ho0, hb⟩
 refine ⟨_, rfl, ?_⟩
 have n0_ := Aside0.mk (Kd.N_elder' (by (with_reducible repeat (first | apply Kd.N_alloc | apply Kd.N_drewN | apply Kd.N_drew)); exact HO170.out) (by first | exact Kd.N_base ho0 | exact Kd.R_base ho0) hb)
 have n1_ := Aside0.mk (Kd.N_elder' (by (with_reducible repeat (first | apply Kd.N_alloc | apply Kd.N_drewN | apply Kd.N_drew)); exact HO178.out) (by first | exact Kd.N_base ho0 | exact Kd.R_base ho0) hb)
 have n2_ := Aside0.mk (Kd.R_below (by (with_reducible repeat (first | apply Kd.R_alloc | apply Kd.R_drewN | apply Kd.R_drew)); exact HO183.out) hb)
 have n3_ := Aside0.mk (Kd.N_elder' (by (with_reducible repeat (first | apply Kd.N_alloc | apply Kd.N_drewN | apply Kd.N_drew)); exact HO188.out) (by first | exact Kd.N_base ho0 | exact Kd.R_base ho0) hb)
 have n4_ := Aside0.mk (Kd.N_elder' (by (with_reducible repeat (first | apply Kd.N_alloc | apply Kd.N_drewN | apply Kd.N_drew)); exact HO195.out) (by first | exact Kd.N_base ho0 | exact Kd.R_base ho0) hb)
 have n5_ := Aside0.mk (Kd.N_elder' (by (with_reducible repeat (first | apply Kd.N_alloc | apply Kd.N_drewN | apply Kd.N_drew)); exact HO202.out) (by first | exact Kd.N_base ho0 | exact Kd.R_base ho0) hb)
 have n6_ := Aside0.mk (Kd.R_below (by (with_reducible repeat (first | apply Kd.R_alloc | apply Kd.R_drewN | apply Kd.R_drew)); exact HO207.out) hb)
 have n7_ := Aside0.mk (Kd.N_elder' (by (with_reducible repeat (first | apply Kd.N_alloc | apply Kd.N_drewN | apply Kd.N_drew)); exact HO212.out) (by first | exact Kd.N_base ho0 | exact Kd.R_base ho0) hb)
 have n8_ := Aside0.mk (Kd.N_lower (Kd.N_mono (ok' := fun k_ => some k_ ≠ (.slice Ao39 y168.length co39 : Value).ownBlock ∧ some k_ ≠ (.slice Ao51 t176.length co51 : Value).ownBlock ∧ some k_ ≠ (.slice Ao55 y181.length co55 : Value).ownBlock ∧ some k_ ≠ (.slice Ao62 t186.length co62 : Value).ownBlock ∧ some k_ ≠ (.slice Ao70 t193.length co70 : Value).ownBlock ∧ some k_ ≠ (.slice Ao79 t200.length co79 : Value).ownBlock ∧ some k_ ≠ (.slice Ao83 y205.length co83 : Value).ownBlock ∧ some k_ ≠ (.slice Ao93 t210.length co93 : Value).ownBlock ∧ k_ ≠ gb157 ∧ k_ ≠ gb171 ∧ k_ ≠ gb180 ∧ k_ ≠ gb190 ∧ k_ ≠ gb197 ∧ k_ ≠ gb204 ∧ k_ ≠ gb214) (Kd.R_N (Kd.R_bound ho0)) (fun k_ hk_ => ⟨(Kd.fresh' (Kd.N_lt (by (with_reducible repeat (first | apply Kd.N_alloc | apply Kd.N_drewN | apply Kd.N_drew)); exact HO170.out)) k_ hk_.2.1), (Kd.fresh' (Kd.N_lt (by (with_reducible repeat (first | apply Kd.N_alloc | apply Kd.N_drewN | apply Kd.N_drew)); exact HO178.out)) k_ hk_.2.1), (Kd.fresh' (Kd.R_lt (by (with_reducible repeat (first | apply Kd.R_alloc | apply Kd.R_drewN | apply Kd.R_drew)); exact HO183.out)) k_ hk_.2.1), (Kd.fresh' (Kd.N_lt (by (with_reducible repeat (first | apply Kd.N_alloc | apply Kd.N_drewN | apply Kd.N_drew)); exact HO188.out)) k_ hk_.2.1), (Kd.fresh' (Kd.N_lt (by (with_reducible repeat (first | apply Kd.N_alloc | apply Kd.N_drewN | apply Kd.N_drew)); exact HO195.out)) k_ hk_.2.1), (Kd.fresh' (Kd.N_lt (by (with_reducible repeat (first | apply Kd.N_alloc | apply Kd.N_drewN | apply Kd.N_drew)); exact HO202.out)) k_ hk_.2.1), (Kd.fresh' (Kd.R_lt (by (with_reducible repeat (first | apply Kd.R_alloc | apply Kd.R_drewN | apply Kd.R_drew)); exact HO207.out)) k_ hk_.2.1), (Kd.fresh' (Kd.N_lt (by (with_reducible repeat (first | apply Kd.N_alloc | apply Kd.N_drewN | apply Kd.N_drew)); exact HO212.out)) k_ hk_.2.1), (Kd.freshB (g := gb157) (o := .cells #[.bool true, .string (⟨#[]⟩ : ByteArray), .slice Ao25 y154.length co25] 25 (0, 0)) (by (with_reducible repeat (first | refine blk_drewN ?_ _ | refine blk_drew ?_ | refine blk_alloc ?_ _)); exact BK157.out) k_ hk_.2.1), (Kd.freshB (g := gb171) (o := .cells #[.bool true, .string (⟨#[]⟩ : ByteArray), .slice Ao39 y168.length co39] 25 (0, 0)) (by (with_reducible repeat (first | refine blk_drewN ?_ _ | refine blk_drew ?_ | refine blk_alloc ?_ _)); exact BK171.out) k_ hk_.2.1), (Kd.freshB (g := gb180) (o := .cells #[.bool t174, .string t175, .slice Ao51 t176.length co51] 25 (0, 0)) (by (with_reducible repeat (first | refine blk_drewN ?_ _ | refine blk_drew ?_ | refine blk_alloc ?_ _)); exact BK180.out) k_ hk_.2.1), (Kd.freshB (g := gb190) (o := .cells #[.bool t184, .string t185, .slice Ao62 t186.length co62] 25 (0, 0)) (by (with_reducible repeat (first | refine blk_drewN ?_ _ | refine blk_drew ?_ | refine blk_alloc ?_ _)); exact BK190.out) k_ hk_.2.1), (Kd.freshB (g := gb197) (o := .cells #[.bool t191, .string t192, .slice Ao70 t193.length co70] 25 (0, 0)) (by (with_reducible repeat (first | refine blk_drewN ?_ _ | refine blk_drew ?_ | refine blk_alloc ?_ _)); exact BK197.out) k_ hk_.2.1), (Kd.freshB (g := gb204) (o := .cells #[.bool t198, .string t199, .slice Ao79 t200.length co79] 25 (0, 0)) (by (with_reducible repeat (first | refine blk_drewN ?_ _ | refine blk_drew ?_ | refine blk_alloc ?_ _)); exact BK204.out) k_ hk_.2.1), (Kd.freshB (g := gb214) (o := .cells #[.bool t208, .string t209, .slice Ao93 t210.length co93] 25 (0, 0)) (by (with_reducible repeat (first | refine blk_drewN ?_ _ | refine blk_drew ?_ | refine blk_alloc ?_ _)); exact BK214.out) k_ hk_.2.1)⟩)) (below_size (by repeat (first | (with_reducible first | exact HB.out | apply below_alloc | apply pw_below_drewN | apply below_drew1 | refine below_set ?_ GE157.out | refine below_set ?_ GE171.out | refine below_set ?_ GE180.out | refine below_set ?_ GE190.out | refine below_set ?_ GE197.out | refine below_set ?_ GE204.out | refine below_set ?_ GE214.out) | exact HB.out))))
 have n9_ := Aside0.mk (blk_below (g := gb157) (o := .cells #[.bool true, .string (⟨#[]⟩ : ByteArray), .slice Ao25 y154.length co25] 25 (0, 0)) (by (with_reducible repeat (first | refine blk_drewN ?_ _ | refine blk_drew ?_ | refine blk_alloc ?_ _)); exact BK157.out) hb)
 have n10_ := Aside0.mk (blk_below (g := gb171) (o := .cells #[.bool true, .string (⟨#[]⟩ : ByteArray), .slice Ao39 y168.length co39] 25 (0, 0)) (by (with_reducible repeat (first | refine blk_drewN ?_ _ | refine blk_drew ?_ | refine blk_alloc ?_ _)); exact BK171.out) hb)
 have n11_ := Aside0.mk (blk_below (g := gb180) (o := .cells #[.bool t174, .string t175, .slice Ao51 t176.length co51] 25 (0, 0)) (by (with_reducible repeat (first | refine blk_drewN ?_ _ | refine blk_drew ?_ | refine blk_alloc ?_ _)); exact BK180.out) hb)
 have n12_ := Aside0.mk (blk_below (g := gb190) (o := .cells #[.bool t184, .string t185, .slice Ao62 t186.length co62] 25 (0, 0)) (by (with_reducible repeat (first | refine blk_drewN ?_ _ | refine blk_drew ?_ | refine blk_alloc ?_ _)); exact BK190.out) hb)
 have n13_ := Aside0.mk (blk_below (g := gb197) (o := .cells #[.bool t191, .string t192, .slice Ao70 t193.length co70] 25 (0, 0)) (by (with_reducible repeat (first | refine blk_drewN ?_ _ | refine blk_drew ?_ | refine blk_alloc ?_ _)); exact BK197.out) hb)
 have n14_ := Aside0.mk (blk_below (g := gb204) (o := .cells #[.bool t198, .string t199, .slice Ao79 t200.length co79] 25 (0, 0)) (by (with_reducible repeat (first | refine blk_drewN ?_ _ | refine blk_drew ?_ | refine blk_alloc ?_ _)); exact BK204.out) hb)
 have n15_ := Aside0.mk (blk_below (g := gb214) (o := .cells #[.bool t208, .string t209, .slice Ao93 t210.length co93] 25 (0, 0)) (by (with_reducible repeat (first | refine blk_drewN ?_ _ | refine blk_drew ?_ | refine blk_alloc ?_ _)); exact BK214.out) hb)
 have n16_ := Aside0.mk (below_step (by repeat (first | (with_reducible first | exact HB.out | apply below_alloc | apply pw_below_drewN | apply below_drew1 | refine below_set ?_ GE157.out | refine below_set ?_ GE171.out | refine below_set ?_ GE180.out | refine below_set ?_ GE190.out | refine below_set ?_ GE197.out | refine below_set ?_ GE204.out | refine below_set ?_ GE214.out) | exact HB.out)) hb)
 clear HO170
 clear HO178
 clear HO183
 clear HO188
 clear HO195
 clear HO202
 clear HO207
 clear HO212
 clear BK157
 clear BK171
 clear BK180
 clear BK190
 clear BK197
 clear BK204
 clear BK214
 clear HB
 have HO170 := n0_
 have HO178 := n1_
 have HO183 := n2_
 have HO188 := n3_
 have HO195 := n4_
 have HO202 := n5_
 have HO207 := n6_
 have HO212 := n7_
 have HO220 := n8_
 have BK157 := n9_
 have BK171 := n10_
 have BK180 := n11_
 have BK190 := n12_
 have BK197 := n13_
 have BK204 := n14_
 have BK214 := n15_
 have HB := n16_
 clear n0_ n1_ n2_ n3_ n4_ n5_ n6_ n7_ n8_ n9_ n10_ n11_ n12_ n13_ n14_ n15_ n16_
 (try clear hb)
 (try clear hb2)
 (try clear hk)
 (try clear hi)
 (try clear ho0)
 obtain ⟨Ao98, co98, eo98⟩ := Kd.N_slice HO220.out
 (first | subst eo98 | (injection eo98 with f1_ f2_ f3_; have f4_ := f1_.symm; have f5_ := f3_.symm; clear f1_ f2_ f3_; subst f4_; subst f5_))
 refine hK.out _ _ ⟨(blk_cell BK180.out 0).trans rfl, (blk_cell BK180.out 1).trans rfl, (blk_cell BK180.out 2).trans rfl, (blk_cell BK171.out 0).trans rfl, (blk_cell BK171.out 1).trans rfl, (blk_cell BK171.out 2).trans rfl, (blk_cell BK190.out 0).trans rfl, (blk_cell BK190.out 1).trans rfl, (blk_cell BK190.out 2).trans rfl⟩ (fun hHeld => ?_)
 clear hK K
 refine norm_ (a' := ?_) ?_ ?_
 rotate_left
 ·show Act.put _ (some 73) _ = _
  simp only [Act.put, List.setIfInBounds_toArray, List.set_cons_zero, List.set_cons_succ, i64_w, i32_w]
  rfl
 refine one_ (i := 22) (N := some 74) #[true, true, true, true, true, true, true, true, true, true, true, true, true, true, true, true, true, true, true, true, true, true, true, false, false, false, false, false, false, false, false, false, false, false, false, false, false] rfl rfl (one_of HT_.out (by kernel_rfl)) (by decide) (fun K hK => ?_)
 refine goes_ Tryd.func13 (by kernel_rfl) rfl #[.agg #[.bool t184, .string t185, .slice Ao62 t186.length co62], .agg #[.bool t216, .string t217, .slice Ao98 t218.length co98]] (by rfl) rfl rfl (by (try simp only [List.map_toArray, List.map_cons, List.map_nil]); first | done | rfl | (simp only [List.length_drop, List.length_take]; rfl)) ?_
 with_reducible refine (garmentref06_Same.calls k t184 t185 _ _ t186 t216 t217 _ _ t218 true _ ?side1 ?side2 ?side3 ?side4 A17.out).mono ?_
 (case side1 => repeat (first | exact (Kd.N_reads' HO188.out).2.2 | (with_reducible refine Kd.C_alloc ?_ _) | (with_reducible refine Kd.C_drewN ?_ _) | (with_reducible refine Kd.C_drew ?_)))
 (case side2 => exact (Kd.N_reads' HO188.out).2.1)
 (case side3 => repeat (first | exact (Kd.N_reads' HO220.out).2.2 | (with_reducible refine Kd.C_alloc ?_ _) | (with_reducible refine Kd.C_drewN ?_ _) | (with_reducible refine Kd.C_drew ?_)))
 (case side4 => exact (Kd.N_reads' HO220.out).2.1)
 rintro e w99 ⟨rfl, hb⟩
 refine ⟨_, rfl, ?_⟩
 have n0_ := Aside0.mk (Kd.N_below (by (with_reducible repeat (first | apply Kd.N_alloc | apply Kd.N_drewN | apply Kd.N_drew)); exact HO170.out) hb)
 have n1_ := Aside0.mk (Kd.N_below (by (with_reducible repeat (first | apply Kd.N_alloc | apply Kd.N_drewN | apply Kd.N_drew)); exact HO178.out) hb)
 have n2_ := Aside0.mk (Kd.R_below (by (with_reducible repeat (first | apply Kd.R_alloc | apply Kd.R_drewN | apply Kd.R_drew)); exact HO183.out) hb)
 have n3_ := Aside0.mk (Kd.N_below (by (with_reducible repeat (first | apply Kd.N_alloc | apply Kd.N_drewN | apply Kd.N_drew)); exact HO188.out) hb)
 have n4_ := Aside0.mk (Kd.N_below (by (with_reducible repeat (first | apply Kd.N_alloc | apply Kd.N_drewN | apply Kd.N_drew)); exact HO195.out) hb)
 have n5_ := Aside0.mk (Kd.N_below (by (with_reducible repeat (first | apply Kd.N_alloc | apply Kd.N_drewN | apply Kd.N_drew)); exact HO202.out) hb)
 have n6_ := Aside0.mk (Kd.R_below (by (with_reducible repeat (first | apply Kd.R_alloc | apply Kd.R_drewN | apply Kd.R_drew)); exact HO207.out) hb)
 have n7_ := Aside0.mk (Kd.N_below (by (with_reducible repeat (first | apply Kd.N_alloc | apply Kd.N_drewN | apply Kd.N_drew)); exact HO212.out) hb)
 have n8_ := Aside0.mk (Kd.N_below (by (with_reducible repeat (first | apply Kd.N_alloc | apply Kd.N_drewN | apply Kd.N_drew)); exact HO220.out) hb)
 have n9_ := Aside0.mk (blk_below (g := gb157) (o := .cells #[.bool true, .string (⟨#[]⟩ : ByteArray), .slice Ao25 y154.length co25] 25 (0, 0)) (by (with_reducible repeat (first | refine blk_drewN ?_ _ | refine blk_drew ?_ | refine blk_alloc ?_ _)); exact BK157.out) hb)
 have n10_ := Aside0.mk (blk_below (g := gb171) (o := .cells #[.bool true, .string (⟨#[]⟩ : ByteArray), .slice Ao39 y168.length co39] 25 (0, 0)) (by (with_reducible repeat (first | refine blk_drewN ?_ _ | refine blk_drew ?_ | refine blk_alloc ?_ _)); exact BK171.out) hb)
 have n11_ := Aside0.mk (blk_below (g := gb180) (o := .cells #[.bool t174, .string t175, .slice Ao51 t176.length co51] 25 (0, 0)) (by (with_reducible repeat (first | refine blk_drewN ?_ _ | refine blk_drew ?_ | refine blk_alloc ?_ _)); exact BK180.out) hb)
 have n12_ := Aside0.mk (blk_below (g := gb190) (o := .cells #[.bool t184, .string t185, .slice Ao62 t186.length co62] 25 (0, 0)) (by (with_reducible repeat (first | refine blk_drewN ?_ _ | refine blk_drew ?_ | refine blk_alloc ?_ _)); exact BK190.out) hb)
 have n13_ := Aside0.mk (blk_below (g := gb197) (o := .cells #[.bool t191, .string t192, .slice Ao70 t193.length co70] 25 (0, 0)) (by (with_reducible repeat (first | refine blk_drewN ?_ _ | refine blk_drew ?_ | refine blk_alloc ?_ _)); exact BK197.out) hb)
 have n14_ := Aside0.mk (blk_below (g := gb204) (o := .cells #[.bool t198, .string t199, .slice Ao79 t200.length co79] 25 (0, 0)) (by (with_reducible repeat (first | refine blk_drewN ?_ _ | refine blk_drew ?_ | refine blk_alloc ?_ _)); exact BK204.out) hb)
 have n15_ := Aside0.mk (blk_below (g := gb214) (o := .cells #[.bool t208, .string t209, .slice Ao93 t210.length co93] 25 (0, 0)) (by (with_reducible repeat (first | refine blk_drewN ?_ _ | refine blk_drew ?_ | refine blk_alloc ?_ _)); exact BK214.out) hb)
 have n16_ := Aside0.mk (below_step (by repeat (first | (with_reducible first | exact HB.out | apply below_alloc | apply pw_below_drewN | apply below_drew1 | refine below_set ?_ GE157.out | refine below_set ?_ GE171.out | refine below_set ?_ GE180.out | refine below_set ?_ GE190.out | refine below_set ?_ GE197.out | refine below_set ?_ GE204.out | refine below_set ?_ GE214.out) | exact HB.out)) hb)
 clear HO170
 clear HO178
 clear HO183
 clear HO188
 clear HO195
 clear HO202
 clear HO207
 clear HO212
 clear HO220
 clear BK157
 clear BK171
 clear BK180
 clear BK190
 clear BK197
 clear BK204
 clear BK214
 clear HB
 have HO170 := n0_
 have HO178 := n1_
 have HO183 := n2_
 have HO188 := n3_
 have HO195 := n4_
 have HO202 := n5_
 have HO207 := n6_
 have HO212 := n7_
 have HO220 := n8_
 have BK157 := n9_
 have BK171 := n10_
 have BK180 := n11_
 have BK190 := n12_
 have BK197 := n13_
 have BK204 := n14_
 have BK214 := n15_
 have HB := n16_
 clear n0_ n1_ n2_ n3_ n4_ n5_ n6_ n7_ n8_ n9_ n10_ n11_ n12_ n13_ n14_ n15_ n16_
 (try clear hb)
 (try clear hb2)
 (try clear hk)
 (try clear hi)
 refine hK.out _ _ ⟨(blk_cell BK180.out 0).trans rfl, (blk_cell BK180.out 1).trans rfl, (blk_cell BK180.out 2).trans rfl, (blk_cell BK171.out 0).trans rfl, (blk_cell BK171.out 1).trans rfl, (blk_cell BK171.out 2).trans rfl, (blk_cell BK190.out 0).trans rfl, (blk_cell BK190.out 1).trans rfl, (blk_cell BK190.out 2).trans rfl⟩ (fun hHeld => ?_)
 clear hK K
 refine norm_ (a' := ?_) ?_ ?_
 rotate_left
 ·show Act.put _ (some 74) _ = _
  simp only [Act.put, List.setIfInBounds_toArray, List.set_cons_zero, List.set_cons_succ, i64_w, i32_w]
  rfl
 refine pure_ (i := 23) (N := some 75) (v := ?_) (a' := ?_) #[true, true, true, true, true, true, true, true, true, true, true, true, true, true, true, true, true, true, true, true, true, true, true, true, false, false, false, false, false, false, false, false, false, false, false, false, false] rfl rfl (any_of HT_.out (by kernel_rfl)) (fun _ _ _ h => h) (Or.inl ⟨by rfl, ?_⟩) ?_ ?_
 rotate_left
 ·intro w'
  go_simp
  with_reducible rfl
 rotate_left
 ·simp only [Act.put, List.setIfInBounds_toArray, List.set_cons_zero, List.set_cons_succ, i64_w, i32_w]
  rfl
 refine pure_ (i := 24) (N := some 76) (v := ?_) (a' := ?_) #[true, true, true, true, true, true, true, true, true, true, true, true, true, true, true, true, true, true, true, true, true, true, true, true, true, false, false, false, false, false, false, false, false, false, false, false, false] rfl rfl (any_of HT_.out (by kernel_rfl)) (fun _ _ _ h => h) (Or.inl ⟨by rfl, ?_⟩) ?_ ?_
 rotate_left
 ·intro w'
  go_simp
  with_reducible rfl
 rotate_left
 ·simp only [Act.put, List.setIfInBounds_toArray, List.set_cons_zero, List.set_cons_succ, i64_w, i32_w]
  rfl
 refine pure_ (i := 25) (N := some 77) (v := ?_) (a' := ?_) #[true, true, true, true, true, true, true, true, true, true, true, true, true, true, true, true, true, true, true, true, true, true, true, true, true, true, false, false, false, false, false, false, false, false, false, false, false] rfl rfl (any_of HT_.out (by kernel_rfl)) (fun _ _ _ h => h) (Or.inl ⟨by rfl, ?_⟩) ?_ ?_
 rotate_left
 ·intro w'
  go_simp
  with_reducible rfl
 rotate_left
 ·simp only [Act.put, List.setIfInBounds_toArray, List.set_cons_zero, List.set_cons_succ, i64_w, i32_w]
  rfl
 refine pure_ (i := 26) (N := some 78) (v := ?_) (a' := ?_) #[true, true, true, true, true, true, true, true, true, true, true, true, true, true, true, true, true, true, true, true, true, true, true, true, true, true, true, false, false, false, false, false, false, false, false, false, false] rfl rfl (any_of HT_.out (by kernel_rfl)) (fun _ _ _ h => h) (Or.inl ⟨by rfl, ?_⟩) ?_ ?_
 rotate_left
 ·intro w'
  go_simp
  with_reducible rfl
 rotate_left
 ·simp only [Act.put, List.setIfInBounds_toArray, List.set_cons_zero, List.set_cons_succ, i64_w, i32_w]
  rfl
 refine pure_ (i := 27) (N := some 79) (v := ?_) (a' := ?_) #[true, true, true, true, true, true, true, true, true, true, true, true, true, true, true, true, true, true, true, true, true, true, true, true, true, true, true, true, false, false, false, false, false, false, false, false, false] rfl rfl (any_of HT_.out (by kernel_rfl)) (fun _ _ _ h => h) (Or.inl ⟨by rfl, ?_⟩) ?_ ?_
 rotate_left
 ·intro w'
  go_simp
  with_reducible rfl
 rotate_left
 ·simp only [Act.put, List.setIfInBounds_toArray, List.set_cons_zero, List.set_cons_succ, i64_w, i32_w]
  rfl
 refine pure_ (i := 28) (N := some 80) (v := ?_) (a' := ?_) #[true, true, true, true, true, true, true, true, true, true, true, true, true, true, true, true, true, true, true, true, true, true, true, true, true, true, true, true, true, false, false, false, false, false, false, false, false] rfl rfl (any_of HT_.out (by kernel_rfl)) (fun _ _ _ h => h) (Or.inl ⟨by rfl, ?_⟩) ?_ ?_
 rotate_left
 ·intro w'
  go_simp
  with_reducible rfl
 rotate_left
 ·simp only [Act.put, List.setIfInBounds_toArray, List.set_cons_zero, List.set_cons_succ, i64_w, i32_w]
  rfl
 refine pure_ (i := 29) (N := some 81) (v := ?_) (a' := ?_) #[true, true, true, true, true, true, true, true, true, true, true, true, true, true, true, true, true, true, true, true, true, true, true, true, true, true, true, true, true, true, false, false, false, false, false, false, false] rfl rfl (any_of HT_.out (by kernel_rfl)) (fun _ _ _ h => h) (Or.inl ⟨by rfl, ?_⟩) ?_ ?_
 rotate_left
 ·intro w'
  go_simp
  with_reducible rfl
 rotate_left
 ·simp only [Act.put, List.setIfInBounds_toArray, List.set_cons_zero, List.set_cons_succ, i64_w, i32_w]
  rfl
 refine pure_ (i := 30) (N := some 82) (v := ?_) (a' := ?_) #[true, true, true, true, true, true, true, true, true, true, true, true, true, true, true, true, true, true, true, true, true, true, true, true, true, true, true, true, true, true, true, false, false, false, false, false, false] rfl rfl (any_of HT_.out (by kernel_rfl)) (fun _ _ _ h => h) (Or.inl ⟨by rfl, ?_⟩) ?_ ?_
 rotate_left
 ·intro w'
  go_simp
  with_reducible rfl
 rotate_left
 ·simp only [Act.put, List.setIfInBounds_toArray, List.set_cons_zero, List.set_cons_succ, i64_w, i32_w]
  rfl
 refine pure_ (i := 31) (N := some 83) (v := ?_) (a' := ?_) #[true, true, true, true, true, true, true, true, true, true, true, true, true, true, true, true, true, true, true, true, true, true, true, true, true, true, true, true, true, true, true, true, false, false, false, false, false] rfl rfl (any_of HT_.out (by kernel_rfl)) (fun _ _ _ h => h) (Or.inl ⟨by rfl, ?_⟩) ?_ ?_
 rotate_left
 ·intro w'
  go_simp
  with_reducible rfl
 rotate_left
 ·simp only [Act.put, List.setIfInBounds_toArray, List.set_cons_zero, List.set_cons_succ, i64_w, i32_w]
  rfl
 refine pure_ (i := 32) (N := some 84) (v := ?_) (a' := ?_) #[true, true, true, true, true, true, true, true, true, true, true, true, true, true, true, true, true, true, true, true, true, true, true, true, true, true, true, true, true, true, true, true, true, false, false, false, false] rfl rfl (any_of HT_.out (by kernel_rfl)) (fun _ _ _ h => h) (Or.inl ⟨by rfl, ?_⟩) ?_ ?_
 rotate_left
 ·intro w'
  go_simp
  with_reducible rfl
 rotate_left
 ·simp only [Act.put, List.setIfInBounds_toArray, List.set_cons_zero, List.set_cons_succ, i64_w, i32_w]
  rfl
 refine pure_ (i := 33) (N := some 85) (v := ?_) (a' := ?_) #[true, true, true, true, true, true, true, true, true, true, true, true, true, true, true, true, true, true, true, true, true, true, true, true, true, true, true, true, true, true, true, true, true, true, false, false, false] rfl rfl (any_of HT_.out (by kernel_rfl)) (fun _ _ _ h => h) (Or.inl ⟨by rfl, ?_⟩) ?_ ?_
 rotate_left
 ·intro w'
  go_simp
  with_reducible rfl
 rotate_left
 ·simp only [Act.put, List.setIfInBounds_toArray, List.set_cons_zero, List.set_cons_succ, i64_w, i32_w]
  rfl
 refine pure_ (i := 34) (N := some 86) (v := ?_) (a' := ?_) #[true, true, true, true, true, true, true, true, true, true, true, true, true, true, true, true, true, true, true, true, true, true, true, true, true, true, true, true, true, true, true, true, true, true, true, false, false] rfl rfl (any_of HT_.out (by kernel_rfl)) (fun _ _ _ h => h) (Or.inl ⟨by rfl, ?_⟩) ?_ ?_
 rotate_left
 ·intro w'
  go_simp
  with_reducible rfl
 rotate_left
 ·simp only [Act.put, List.setIfInBounds_toArray, List.set_cons_zero, List.set_cons_succ, i64_w, i32_w]
  rfl
 refine pure_ (i := 35) (N := some 87) (v := ?_) (a' := ?_) #[true, true, true, true, true, true, true, true, true, true, true, true, true, true, true, true, true, true, true, true, true, true, true, true, true, true, true, true, true, true, true, true, true, true, true, true, false] rfl rfl (any_of HT_.out (by kernel_rfl)) (fun _ _ _ h => h) (Or.inl ⟨by rfl, ?_⟩) ?_ ?_
 rotate_left
 ·intro w'
  go_simp
  with_reducible rfl
 rotate_left
 ·simp only [Act.put, List.setIfInBounds_toArray, List.set_cons_zero, List.set_cons_succ, i64_w, i32_w]
  rfl
 refine pure_ (i := 36) (N := some 0) (v := ?_) (a' := ?_) #[true, true, true, true, true, true, true, true, true, true, true, true, true, true, true, true, true, true, true, true, true, true, true, true, true, true, true, true, true, true, true, true, true, true, true, true, true] rfl rfl (any_of HT_.out (by kernel_rfl)) (fun _ _ _ h => h) (Or.inl ⟨by rfl, ?_⟩) ?_ ?_
 rotate_left
 ·intro w'
  go_simp
  with_reducible rfl
 rotate_left
 ·simp only [Act.put, List.setIfInBounds_toArray, List.set_cons_zero, List.set_cons_succ, i64_w, i32_w]
  rfl
 refine done_ (done_of HT_.out (by kernel_rfl)) ?_
 try go_wp2
 go_ret
 exact ⟨by first | rfl | (simp [errW_none, errW_some] <;> rfl) | (simp [*, errW_none, errW_some] <;> rfl), by repeat (first | (with_reducible first | exact HB.out | apply below_alloc | apply pw_below_drewN | apply below_drew1 | refine below_set ?_ GE157.out | refine below_set ?_ GE171.out | refine below_set ?_ GE180.out | refine below_set ?_ GE190.out | refine below_set ?_ GE197.out | refine below_set ?_ GE204.out | refine below_set ?_ GE214.out) | exact HB.out)⟩
def garmentlaw06_exampleHolds.f (k : Nat) : Option (Bool) := some true
theorem garmentlaw06_exampleHolds.mono : ∀ k, LeO (garmentlaw06_exampleHolds.f k) (garmentlaw06_exampleHolds.f (k + 1)) := fun _ => LeO.refl _
theorem garmentlaw06_exampleHolds.calls (k : Nat) (r : Bool) (w : World) (h : garmentlaw06_exampleHolds.f k = some r) (htab : Laid w) :
  Calls Tryd.prog 10 #[] w fun e w' => e = .returned (.bool r) ∧ Below w.heap.size w w' := by
 obtain rfl := Option.some.inj h
 exact exampleFull.calls 60 rfl true w htab exF
end Go.Proofs.YtcmlonloiamchaaDoor.Co
