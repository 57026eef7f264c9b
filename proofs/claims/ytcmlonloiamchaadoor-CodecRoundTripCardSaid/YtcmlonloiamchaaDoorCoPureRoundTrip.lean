/- CodecRoundTrip comes true for every tree. -/
import Derived.Test.YtcmlonloiamchaaDoorCoPureAll
import Derived.Test.YtcmlonloiamchaaDoorCo40
namespace Go.Proofs.YtcmlonloiamchaaDoor.CoPure
open Go.RowKit Go.Proofs.YtcmlonloiamchaaDoorW.PrintWords Go.Proofs.YtcmlonloiamchaaDoorW.PrintLast Go.Proofs.YtcmlonloiamchaaDoorW.PrintMore Go.Proofs.YtcmlonloiamchaaDoor.Co Go.Proofs.YtcmlonloiamchaaDoor.CoHand
set_option linter.unusedVariables false
set_option linter.unusedSimpArgs false

theorem roundTrip_pure (a : Bool) (t : ByteArray) (l : List S25) : ∃ k, garmentlaw06_CodecRoundTrip.f k a t l = some true := by
  refine Ev.rounds (g := fun k => garmentlaw06_CodecRoundTrip.f k a t l) ?_
  unfold garmentlaw06_CodecRoundTrip.f
  refine Ev.bind (small_ok ⟨a, t, l⟩) ?_
  by_cases h : sz ⟨a, t, l⟩ ≤ 21000
  · rw [decide_eq_true h]
    simp only [if_true]
    rcases encode_cases ⟨a, t, l⟩ h with ⟨c, hc, e⟩ | ⟨E, hE, hl, e⟩
    · refine Ev.bind e ?_
      simp only [if_neg hc]
      have h0 : (⟨#[]⟩ : ByteArray).toList = ([] : List UInt8) := by rw [ByteArray.toList_eq]
      simp only [if_pos h0]
      exact example_ev
    · refine Ev.bind e ?_
      simp only [if_true]
      refine Ev.bind (decode_enc hE hl) ?_
      simp only [if_true]
      refine Ev.bind (same_refl (tb_of 21000 ⟨a, t, l⟩ h (by omega))) ?_
      simp only [if_true]
      exact example_ev
  · rw [decide_eq_false h]
    simp only [Bool.false_eq_true, if_false]
    exact example_ev
end Go.Proofs.YtcmlonloiamchaaDoor.CoPure
