/- CodecApart comes true for every two trees. -/
import Derived.Test.YtcmlonloiamchaaDoorCoPureAll
import Derived.Test.YtcmlonloiamchaaDoorCo43
namespace Go.Proofs.YtcmlonloiamchaaDoor.CoPure
open Go.RowKit Go.Proofs.YtcmlonloiamchaaDoorW.PrintWords Go.Proofs.YtcmlonloiamchaaDoorW.PrintLast Go.Proofs.YtcmlonloiamchaaDoorW.PrintMore Go.Proofs.YtcmlonloiamchaaDoor.Co Go.Proofs.YtcmlonloiamchaaDoor.CoHand
set_option linter.unusedVariables false
set_option linter.unusedSimpArgs false

theorem apart_pure (a : Bool) (t : ByteArray) (l : List S25) (b : Bool) (u : ByteArray) (m : List S25) : ∃ k, garmentlaw06_CodecApart.f k a t l b u m = some true := by
  refine Ev.rounds (g := fun k => garmentlaw06_CodecApart.f k a t l b u m) ?_
  unfold garmentlaw06_CodecApart.f
  have out : Ev (fun k => garmentlaw06_CodecApart.j0 k true a t l b u m) true := by
    refine ev_succ ?_
    simp only [garmentlaw06_CodecApart.j0, if_true]
    exact example_ev
  refine Ev.bind (small_ok ⟨a, t, l⟩) ?_
  by_cases h : sz ⟨a, t, l⟩ ≤ 21000
  · rw [decide_eq_true h]
    simp only [if_true]
    refine Ev.bind (small_ok ⟨b, u, m⟩) ?_
    by_cases g : sz ⟨b, u, m⟩ ≤ 21000
    · rw [decide_eq_true g]
      refine ev_succ ?_
      have out1 : ∀ x y : ByteArray, Ev (fun k => garmentlaw06_CodecApart.j1 k x y true a t l b u m) true := by
        intro x y
        refine ev_succ ?_
        simp only [garmentlaw06_CodecApart.j1, if_true]
        exact example_ev
      simp only [garmentlaw06_CodecApart.j0, Bool.not_true, Bool.false_eq_true, if_false]
      rcases encode_cases ⟨a, t, l⟩ h with ⟨c, hc, e⟩ | ⟨E, hE, hl, e⟩
      · refine Ev.bind e ?_
        rcases encode_cases ⟨b, u, m⟩ g with ⟨d, hd, e2⟩ | ⟨F, hF, hm, e2⟩
        · refine Ev.bind e2 ?_
          simp only [if_neg hc]
          exact out1 _ _
        · refine Ev.bind e2 ?_
          simp only [if_neg hc]
          exact out1 _ _
      · refine Ev.bind e ?_
        rcases encode_cases ⟨b, u, m⟩ g with ⟨d, hd, e2⟩ | ⟨F, hF, hm, e2⟩
        · refine Ev.bind e2 ?_
          simp only [if_true]
          have : (d != 0) = true := by simpa using hd
          rw [this]
          exact out1 _ _
        · refine Ev.bind e2 ?_
          simp only [if_true]
          have : ((0 : Int) != 0) = false := rfl
          rw [this]
          refine ev_succ ?_
          simp only [garmentlaw06_CodecApart.j1, Bool.false_eq_true, if_false]
          have hsE : (By E).size = E.length := by_size E
          have hsF : (By F).size = F.length := by_size F
          obtain ⟨r, eS, hS⟩ := same_ok 21000 ⟨a, t, l⟩ ⟨b, u, m⟩ (tb_of 21000 _ h (by omega))
          simp only at eS
          by_cases hle : ((By E).size : Int) ≤ ((By F).size : Int)
          · have h0 : (0 : Int) ≤ ((By E).size : Int) := by omega
            simp only [if_pos hle, if_pos h0]
            refine Ev.bind eS ?_
            have key : ((((By F).extract 0 (((By E).size : Int)).toNat).toList == (By E).toList) == r) = true := by
              rw [hsE, Int.toNat_natCast, by_cut, List.drop_zero]
              have e1 : (By (F.take (E.length - 0))).toList = F.take E.length := by rw [ByteArray.toList_eq, Nat.sub_zero]
              have e3 : (By E).toList = E := by rw [ByteArray.toList_eq]
              rw [e1, e3]
              by_cases hp : F.take E.length = E
              · have := enc_apart hE hF hm (rest := F.drop E.length) (by
                  have h' := (List.take_append_drop E.length F).symm
                  rw [hp] at h'
                  exact h')
                rw [hS.2 this, hp]
                simp
              · have hr : r = false := by
                  cases r with
                  | false => rfl
                  | true =>
                    exfalso
                    have e0 := hS.1 rfl
                    rw [← e0] at hF
                    have := enc_det hE 1 F hF
                    subst this
                    exact hp (List.take_length ..)
                rw [hr]
                have : (F.take E.length == E) = false := by simpa using hp
                rw [this]
                rfl
            rw [key]
            simp only [if_true]
            exact example_ev
          · simp only [if_neg hle]
            refine Ev.bind eS ?_
            have hr : r = false := by
              cases r with
              | false => rfl
              | true =>
                exfalso
                have e0 := hS.1 rfl
                rw [← e0] at hF
                have := enc_det hE 1 F hF
                subst this
                omega
            rw [hr]
            simp only [beq_self_eq_true, if_true]
            exact example_ev
    · rw [decide_eq_false g]
      exact out
  · rw [decide_eq_false h]
    simp only [Bool.false_eq_true, if_false]
    exact out
end Go.Proofs.YtcmlonloiamchaaDoor.CoPure
