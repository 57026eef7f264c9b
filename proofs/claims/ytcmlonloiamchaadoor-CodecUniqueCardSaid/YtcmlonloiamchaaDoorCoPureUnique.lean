/- CodecUnique comes true for every text. -/
import Derived.Test.YtcmlonloiamchaaDoorCoPureAll
import Derived.Test.YtcmlonloiamchaaDoorCo41
namespace Go.Proofs.YtcmlonloiamchaaDoor.CoPure
open Go.RowKit Go.Proofs.YtcmlonloiamchaaDoorW.PrintWords Go.Proofs.YtcmlonloiamchaaDoorW.PrintLast Go.Proofs.YtcmlonloiamchaaDoorW.PrintMore Go.Proofs.YtcmlonloiamchaaDoor.Co Go.Proofs.YtcmlonloiamchaaDoor.CoHand
set_option linter.unusedVariables false
set_option linter.unusedSimpArgs false

theorem unique_pure (s : ByteArray) : ∃ k, garmentlaw06_CodecUnique.f k s = some true := by
  refine Ev.rounds (g := fun k => garmentlaw06_CodecUnique.f k s) ?_
  unfold garmentlaw06_CodecUnique.f
  by_cases c : (s.size : Int) > 21000
  · simp only [if_pos c]
    exact example_ev
  · simp only [if_neg c]
    obtain ⟨r, e, h⟩ := decode_tells s
    refine Ev.bind e ?_
    by_cases h0 : r.2.2.2 = 0
    · simp only [if_pos h0]
      obtain ⟨hs, hE⟩ := h h0
      have hlen : s.data.toList.length = s.size := Array.length_toList
      have e2 := encode_of hE (by omega)
      simp only at e2
      refine Ev.bind e2 ?_
      simp only [if_true]
      exact example_ev
    · simp only [if_neg h0]
      exact example_ev
end Go.Proofs.YtcmlonloiamchaaDoor.CoPure
