/- CodecPrefixes comes true for every tree, number and text. -/
import Derived.Test.YtcmlonloiamchaaDoorCoPureAll
import Derived.Test.YtcmlonloiamchaaDoorCo42
namespace Go.Proofs.YtcmlonloiamchaaDoor.CoPure
open Go.RowKit Go.Proofs.YtcmlonloiamchaaDoorW.PrintWords Go.Proofs.YtcmlonloiamchaaDoorW.PrintLast Go.Proofs.YtcmlonloiamchaaDoorW.PrintMore Go.Proofs.YtcmlonloiamchaaDoor.Co Go.Proofs.YtcmlonloiamchaaDoor.CoHand
set_option linter.unusedVariables false
set_option linter.unusedSimpArgs false

theorem by_data (s : ByteArray) : By s.data.toList = s := by cases s; simp
theorem prefixes_pure (a : Bool) (t : ByteArray) (l : List S25) (x : Int) (s : ByteArray) : ∃ k, garmentlaw06_CodecPrefixes.f k a t l x s = some true := by
  refine Ev.rounds (g := fun k => garmentlaw06_CodecPrefixes.f k a t l x s) ?_
  unfold garmentlaw06_CodecPrefixes.f
  have out : Ev (fun k => garmentlaw06_CodecPrefixes.j0 k x s true a t l) true := by
    refine ev_succ ?_
    simp only [garmentlaw06_CodecPrefixes.j0, if_true]
    exact example_ev
  refine Ev.bind (small_ok ⟨a, t, l⟩) ?_
  by_cases h : sz ⟨a, t, l⟩ ≤ 21000
  · rw [decide_eq_true h]
    simp only [if_true]
    by_cases hm : (s.size : Int) > 100
    · rw [decide_eq_true hm]; exact out
    rw [decide_eq_false hm]
    refine ev_succ ?_
    simp only [garmentlaw06_CodecPrefixes.j0, Bool.false_eq_true, if_false]
    rcases encode_cases ⟨a, t, l⟩ h with ⟨c, hc, e⟩ | ⟨E, hE, hl, e⟩
    · refine Ev.bind e ?_
      simp only [if_neg hc]
      exact example_ev
    · refine Ev.bind e ?_
      simp only [if_true]
      have hsz : (By E).size = E.length := by_size E
      -- what is added
      have key2 : Ev (fun k => garmentlaw06_CodecPrefixes.j2 k s (By E)) true := by
        refine ev_succ ?_
        have out3 : Ev (fun k => garmentlaw06_CodecPrefixes.j3 k s (By E) true) true := by
          refine ev_succ ?_
          simp only [garmentlaw06_CodecPrefixes.j3, if_true]
          exact example_ev
        simp only [garmentlaw06_CodecPrefixes.j2]
        by_cases h0 : s.toList = ([] : List UInt8)
        · simp only [if_pos h0]; exact out3
        simp only [if_neg h0]
        have w : wrap64 (((By E).size : Int) + (s.size : Int)) = (E.length : Int) + s.size := by rw [hsz, wrap64_of (by omega)]
        rw [w]
        by_cases h1 : (E.length : Int) + s.size > 20000
        · rw [decide_eq_true h1]; exact out3
        rw [decide_eq_false h1]
        refine ev_succ ?_
        simp only [garmentlaw06_CodecPrefixes.j3, Bool.false_eq_true, if_false]
        have ha : (By E).size + s.size ≤ 9223372036854775807 := by omega
        simp only [if_pos ha]
        have hslen : s.data.toList.length = s.size := Array.length_toList
        have hne : s.data.toList ≠ [] := by rw [ByteArray.toList_eq] at h0; exact h0
        have hd := decode_more (rest := s.data.toList) hE (by omega) hne
        have es : By (E ++ s.data.toList) = By E ++ s := by
          apply ByteArray.ext
          rw [ByteArray.data_append]
          simp
        rw [es] at hd
        refine Ev.bind hd ?_
        simp only [if_true]
        exact example_ev
      -- what is cut off
      have key1 : ∀ b : Bool, (b = true → 0 ≤ x ∧ x < E.length) → Ev (fun k => garmentlaw06_CodecPrefixes.j1 k x s (By E) b) true := by
        intro b hb
        refine ev_succ ?_
        cases b with
        | false => simp only [garmentlaw06_CodecPrefixes.j1, Bool.false_eq_true, if_false]; exact key2
        | true =>
          obtain ⟨x0, x1⟩ := hb rfl
          obtain ⟨m, rfl⟩ : ∃ m : Nat, x = m := ⟨x.toNat, by omega⟩
          simp only [garmentlaw06_CodecPrefixes.j1, if_true]
          have hx2 : ((m : Nat) : Int) ≤ ((By E).size : Int) := by omega
          simp only [if_pos x0, if_pos hx2]
          have ec : (By E).extract 0 (m : Int).toNat = By (E.take m) := by
            rw [by_cut, List.drop_zero, Int.toNat_natCast]; rfl
          rw [ec]
          have hd := decode_short (E' := E.take m) (F := E.drop m) hE hl (List.take_append_drop m E).symm (by
            intro e0
            have := congrArg List.length e0
            rw [List.length_drop] at this
            simp only [List.length_nil] at this
            omega)
          refine Ev.bind hd ?_
          simp only [if_true]
          exact key2
      by_cases hx : x ≥ 0
      · simp only [if_pos hx]
        refine key1 _ (fun hb => ⟨hx, ?_⟩)
        have := of_decide_eq_true hb
        omega
      · simp only [if_neg hx]
        exact key1 false (fun hb => by cases hb)
  · rw [decide_eq_false h]
    simp only [Bool.false_eq_true, if_false]
    exact out
end Go.Proofs.YtcmlonloiamchaaDoor.CoPure
