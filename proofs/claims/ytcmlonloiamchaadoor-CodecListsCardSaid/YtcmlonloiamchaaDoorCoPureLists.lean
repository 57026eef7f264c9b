/- CodecLists comes true for every list of trees. -/
import Derived.Test.YtcmlonloiamchaaDoorCoPureAll
import Derived.Test.YtcmlonloiamchaaDoorCo44
namespace Go.Proofs.YtcmlonloiamchaaDoor.CoPure
open Go.RowKit Go.Proofs.YtcmlonloiamchaaDoorW.PrintWords Go.Proofs.YtcmlonloiamchaaDoorW.PrintLast Go.Proofs.YtcmlonloiamchaaDoorW.PrintMore Go.Proofs.YtcmlonloiamchaaDoor.Co Go.Proofs.YtcmlonloiamchaaDoor.CoHand
set_option linter.unusedVariables false
set_option linter.unusedSimpArgs false

theorem lists_loop (S : ByteArray) (l : List S25) (Es : List (List UInt8)) (hk : F2 (Enc 2) l Es) (hs : S.toList = [40] ++ Es.flatten ++ [41]) (hl : Es.flatten.length ≤ 20000) (hn : l.length ≤ 20) : ∀ (d : Nat) (i : Nat) (t : List UInt8), i + d = l.length → t = [40] ++ (Es.take i).flatten →
    Ev (fun k => garmentlaw06_CodecLists.l0 k S (By t) l (l.length : Int) (i : Int)) true := by
  intro d
  have hlen := hk.len
  induction d with
  | zero =>
    intro i t hi ht
    refine ev_succ ?_
    have e : Es.take i = Es := List.take_of_length_le (by omega)
    rw [e] at ht
    have hsz : (By t).size = 1 + Es.flatten.length := by rw [by_size, ht, List.length_append]; rfl
    have h1 : ¬ ((i : Int) < (l.length : Int)) := by omega
    have h2 : (By t).size + 1 ≤ 9223372036854775807 := by omega
    have h3 : S.toList = (By t ++ (⟨#[41]⟩ : ByteArray)).toList := by
      rw [hs, ByteArray.toList_eq, ByteArray.data_append, ht]
      simp
    simp only [garmentlaw06_CodecLists.l0, if_neg h1, if_pos h2, if_pos h3]
    exact example_ev
  | succ d ih =>
    intro i t hi ht
    refine ev_succ ?_
    have h1 : (i : Int) < (l.length : Int) := by omega
    have h0 : (0 : Int) ≤ (i : Int) := by omega
    have hE := hk.at i (by omega) (by omega)
    have hle : Es[i].length ≤ Es.flatten.length := by
      have := List.sublist_flatten_of_mem (List.getElem_mem (l := Es) (by omega : i < Es.length))
      exact this.length_le
    have hg : rd_T25 l (i : Int) = l[i] := by
      rw [rd25, List.getD_eq_getElem?_getD, List.getElem?_eq_getElem (by omega), Option.getD_some]
    have e1 := encode_of (enc_up hE 1 (by omega)) (by omega)
    have w1 : wrap64 ((i : Int) + 1) = ((i + 1 : Nat) : Int) := by rw [wrap64_of (by omega)]; omega
    simp only [garmentlaw06_CodecLists.l0, if_pos h1, if_pos h0, hg, w1]
    refine Ev.bind e1 ?_
    have ht2 : (Es.take i).flatten.length ≤ Es.flatten.length := by
      have : Es.flatten = (Es.take i).flatten ++ (Es.drop i).flatten := by rw [← List.flatten_append, List.take_append_drop]
      rw [this, List.length_append]; omega
    have h2 : (By t).size + (By Es[i]).size ≤ 9223372036854775807 := by
      rw [by_size, by_size, ht, List.length_append]
      simp only [List.length_cons, List.length_nil]
      omega
    simp only [if_true, if_pos h2]
    have eb : By t ++ By Es[i] = By (t ++ Es[i]) := by
      apply ByteArray.ext
      rw [ByteArray.data_append]
      simp
    rw [eb]
    refine ih (i + 1) (t ++ Es[i]) (by omega) ?_
    rw [ht, List.take_succ_eq_append_getElem (by omega), List.flatten_append]
    simp
theorem lists_pure (l : List S25) : ∃ k, garmentlaw06_CodecLists.f k l = some true := by
  refine Ev.rounds (g := fun k => garmentlaw06_CodecLists.f k l) ?_
  unfold garmentlaw06_CodecLists.f
  have out : Ev (fun k => garmentlaw06_CodecLists.j0 k l true true (⟨#[]⟩ : ByteArray) l) true := by
    refine ev_succ ?_
    simp only [garmentlaw06_CodecLists.j0, if_true]
    exact example_ev
  by_cases h20 : (l.length : Int) > 20
  · simp only [if_pos h20]; exact out
  simp only [if_neg h20]
  have hsz := size_ok (sz ⟨true, ⟨#[]⟩, l⟩) ⟨true, ⟨#[]⟩, l⟩ 10000 (Nat.le_refl _) (by omega)
  simp only at hsz
  refine Ev.bind hsz ?_
  by_cases h : sz ⟨true, ⟨#[]⟩, l⟩ ≤ 10000
  · rw [decide_eq_false (by omega)]
    refine ev_succ ?_
    simp only [garmentlaw06_CodecLists.j0, Bool.false_eq_true, if_false]
    rcases encode_cases ⟨true, ⟨#[]⟩, l⟩ (by omega) with ⟨c, hc, e⟩ | ⟨E, hE, hl, e⟩
    · refine Ev.bind e ?_
      simp only [if_neg hc]
      exact example_ev
    · refine Ev.bind e ?_
      simp only [if_true]
      cases hE with
      | list _ _ Es hlv hll hEl ih =>
        have hfl : Es.flatten.length ≤ 20000 := by
          have := hl
          simp only [List.length_append] at this
          omega
        have hz : ((0 : Nat) : Int) = 0 := rfl
        have := lists_loop (By ([40] ++ Es.flatten ++ [41])) l Es (F2.of hEl ih) (by rw [ByteArray.toList_eq]) hfl (by omega) l.length 0 [40] (by omega) (by simp)
        rw [hz] at this
        exact this
  · rw [decide_eq_true (by omega)]
    exact out
end Go.Proofs.YtcmlonloiamchaaDoor.CoPure
