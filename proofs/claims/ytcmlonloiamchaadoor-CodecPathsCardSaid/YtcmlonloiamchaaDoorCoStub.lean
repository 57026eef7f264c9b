/- Layer 6's Encode and Decode in the form that printed callers ask for. -/
import Derived.Test.YtcmlonloiamchaaDoorCoDecode
import Derived.Test.YtcmlonloiamchaaDoorCoEncodeTop
namespace Go.Proofs.YtcmlonloiamchaaDoor.Co
open Go.RowKit Go.Proofs.YtcmlonloiamchaaDoorW.PrintWords Go.Proofs.YtcmlonloiamchaaDoorW.PrintLast Go.Proofs.YtcmlonloiamchaaDoorW.PrintMore
set_option linter.unusedVariables false
set_option linter.unusedSimpArgs false

/-- The library's table of powers of ten is as it was laid. -/
def Laid (w : World) : Prop := Lib.TabIs Tryd.prog w "internal/strconv.uint64pow10" .u64 Lib.pow10Tab
theorem Laid.below {w w' : World} (h : Aside0 (Laid w)) (hb : Below w.heap.size w w') : Laid w' := CoHand.tab_below h.out hb

def codec_Decode.f (k : Nat) (a0 : ByteArray) : Option (Bool × ByteArray × List (S25) × Int) := CoHand.decodeD k a0
def codec_Encode.f (k : Nat) (n0 : Bool) (n1 : ByteArray) (n2 : List (S25)) : Option (ByteArray × Int) := CoHand.encodeD k n0 n1 n2

theorem node_mono (s : ByteArray) : ∀ k, (∀ lv i r, CoHand.nodeD s k lv i = some r → CoHand.nodeD s (k + 1) lv i = some r) ∧ (∀ lv i acc r, CoHand.kidsD s k lv i acc = some r → CoHand.kidsD s (k + 1) lv i acc = some r)
  | 0 => ⟨fun _ _ _ h => by simp [CoHand.nodeD] at h, fun _ _ _ _ h => by simp [CoHand.kidsD] at h⟩
  | k + 1 => by
    obtain ⟨h1, h2⟩ := node_mono s k
    refine ⟨fun lv i => ?_, fun lv i acc => ?_⟩
    · show LeO (CoHand.nodeD s (k + 1) lv i) (CoHand.nodeD s (k + 1 + 1) lv i)
      unfold CoHand.nodeD
      refine LeO.ite (LeO.refl _) (LeO.ite (LeO.refl _) (LeO.ite (LeO.refl _) (LeO.ite (LeO.refl _) ?_)))
      exact h2 _ _ _
    · show LeO (CoHand.kidsD s (k + 1) lv i acc) (CoHand.kidsD s (k + 1 + 1) lv i acc)
      unfold CoHand.kidsD
      refine LeO.ite (LeO.refl _) (LeO.ite (LeO.refl _) (LeO.ite (LeO.refl _) ?_))
      intro r h
      cases hT : CoHand.nodeD s k (lv + 1) i with
      | none => rw [hT] at h; simp at h
      | some T =>
        rw [hT] at h
        rw [h1 _ _ _ hT]
        cases T with
        | error c => exact h
        | ok T => exact h2 _ _ _ _ h
theorem codec_Decode.mono : ∀ a0 k, LeO (codec_Decode.f k a0) (codec_Decode.f (k + 1) a0) := by
  intro a0 k r h
  unfold codec_Decode.f CoHand.decodeD at h ⊢
  split at h
  · rename_i a; rw [if_pos a]; exact h
  · rename_i a
    rw [if_neg a]
    cases hT : CoHand.nodeD a0 k 1 0 with
    | none => rw [hT] at h; simp at h
    | some T => rw [hT] at h; rw [(node_mono a0 k).1 _ _ _ hT]; exact h

theorem enc_mono : ∀ k, (∀ lv n o r, CoHand.encD k lv n o = some r → CoHand.encD (k + 1) lv n o = some r) ∧ (∀ lv l o r, CoHand.encsD k lv l o = some r → CoHand.encsD (k + 1) lv l o = some r)
  | 0 => ⟨fun _ _ _ _ h => by simp [CoHand.encD] at h, fun _ _ _ _ h => by simp [CoHand.encsD] at h⟩
  | k + 1 => by
    obtain ⟨h1, h2⟩ := enc_mono k
    refine ⟨fun lv n o => ?_, fun lv l o r h => ?_⟩
    · show LeO (CoHand.encD (k + 1) lv n o) (CoHand.encD (k + 1 + 1) lv n o)
      unfold CoHand.encD
      refine LeO.ite (LeO.refl _) (LeO.ite (LeO.refl _) (LeO.ite (LeO.refl _) (LeO.ite (LeO.refl _) ?_)))
      intro r h
      cases hT : CoHand.encsD k lv n.f2 (o ++ [40]) with
      | none => rw [hT] at h; simp at h
      | some T => rw [hT] at h; rw [h2 _ _ _ _ hT]; exact h
    · cases l with
      | nil => unfold CoHand.encsD at h ⊢; exact h
      | cons x xs =>
        unfold CoHand.encsD at h ⊢
        cases hT : CoHand.encD k (lv + 1) x o with
        | none => rw [hT] at h; simp at h
        | some T =>
          rw [hT] at h
          rw [h1 _ _ _ _ hT]
          cases T with
          | error c => exact h
          | ok o2 => exact h2 _ _ _ _ h
theorem codec_Encode.mono : ∀ a0 a1 a2 k, LeO (codec_Encode.f k a0 a1 a2) (codec_Encode.f (k + 1) a0 a1 a2) := by
  intro a0 a1 a2 k r h
  unfold codec_Encode.f CoHand.encodeD at h ⊢
  cases hT : CoHand.encD k 1 ⟨a0, a1, a2⟩ [] with
  | none => rw [hT] at h; simp at h
  | some T => rw [hT] at h; rw [(enc_mono k).1 _ _ _ _ hT]; exact h

theorem codec_Decode.calls (k : Nat) (a0 : ByteArray) (r1 : Bool) (r2 : ByteArray) (r3 : List (S25)) (r4 : Int) (w : World) (h : codec_Decode.f k a0 = some (r1, r2, r3, r4)) :
    Calls Tryd.prog 11 #[.string a0] w fun e w' => ∃ v2_ : Value, e = .returned (.tuple #[.agg #[.bool r1, .string r2, v2_], .int .i64 r4]) ∧ Kd.R k25 25 w' w.heap.size (fun _ => True) v2_ r3 ∧ Below w.heap.size w w' := CoHand.decode_calls k a0 r1 r2 r3 r4 w h
theorem codec_Encode.calls (k : Nat) (a0_0 : Bool) (a0_1 : ByteArray) (A0_2 : Option Addr) (c0_2 : Nat) (l0_2 : List (S25)) (r1 : ByteArray) (r2 : Int) (w : World) (hr0_2 : Kd.C k25 w A0_2 l0_2.length l0_2) (hc0_2 : l0_2.length ≤ c0_2) (h : codec_Encode.f k a0_0 a0_1 l0_2 = some (r1, r2)) (htab : Laid w) :
    Calls Tryd.prog 15 #[.agg #[.bool a0_0, .string a0_1, .slice A0_2 l0_2.length c0_2]] w fun e w' => e = .returned (.tuple #[.string r1, .int .i64 r2]) ∧ Below w.heap.size w w' := CoHand.encodeTop_calls k a0_0 a0_1 A0_2 c0_2 l0_2 r1 r2 w htab hr0_2 hc0_2 h
end Go.Proofs.YtcmlonloiamchaaDoor.Co
