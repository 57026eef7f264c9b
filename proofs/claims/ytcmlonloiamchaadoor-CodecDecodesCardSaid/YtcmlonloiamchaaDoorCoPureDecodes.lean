/- CodecDecodes comes true for every text. -/
import Derived.Test.YtcmlonloiamchaaDoorCoPureSame
namespace Go.Proofs.YtcmlonloiamchaaDoor.CoPure
open Go.RowKit Go.Proofs.YtcmlonloiamchaaDoorW.PrintWords Go.Proofs.YtcmlonloiamchaaDoorW.PrintLast Go.Proofs.YtcmlonloiamchaaDoorW.PrintMore Go.Proofs.YtcmlonloiamchaaDoor.Co Go.Proofs.YtcmlonloiamchaaDoor.CoHand
set_option linter.unusedVariables false
set_option linter.unusedSimpArgs false

theorem node_tb (s : ByteArray) (hs : s.size ≤ 100000) : ∀ k, (∀ (lv i : Int) n j, 0 ≤ i → i ≤ s.size → nodeD s k lv i = some (.ok (n, j)) → ∀ D : Nat, 13 ≤ lv + D → Tb D n) ∧
    (∀ (lv i : Int) acc n j, 0 ≤ i → i ≤ s.size → (acc.length : Int) ≤ i → kidsD s k lv i acc = some (.ok (n, j)) → ∀ D : Nat, 13 ≤ lv + 1 + D → (∀ x ∈ acc, Tb D x) → Tb (D + 1) n)
  | 0 => ⟨fun _ _ _ _ _ _ h => by simp [nodeD] at h, fun _ _ _ _ _ _ _ _ h => by simp [kidsD] at h⟩
  | k + 1 => by
    obtain ⟨h1, h2⟩ := node_tb s hs k
    refine ⟨fun lv i n j h0 hi h D hD => ?_, fun lv i acc n j h0 hi ha h D hD hx => ?_⟩
    · unfold nodeD at h
      by_cases c0 : i = s.size
      · rw [if_pos c0] at h; simp at h
      rw [if_neg c0] at h
      by_cases c1 : bt s i ≠ 40 ∧ (bt s i < 48 ∨ 57 < bt s i)
      · rw [if_pos c1] at h; simp at h
      rw [if_neg c1] at h
      by_cases c2 : lv > 12
      · rw [if_pos c2] at h; simp at h
      rw [if_neg c2] at h
      obtain ⟨D, rfl⟩ : ∃ E, D = E + 1 := ⟨D - 1, by omega⟩
      by_cases c3 : bt s i ≠ 40
      · rw [if_pos c3] at h
        cases hT : textD s i with
        | error c => rw [hT] at h; simp at h
        | ok T =>
          obtain ⟨t, j'⟩ := T
          rw [hT] at h
          simp only [Option.some.injEq, Except.ok.injEq, Prod.mk.injEq] at h
          obtain ⟨rfl, rfl⟩ := h
          exact ⟨by simp, by simp⟩
      · rw [if_neg c3] at h
        exact h2 lv (i + 1) [] n j (by omega) (by omega) (by simp; omega) h D (by omega) (by simp)
    · unfold kidsD at h
      by_cases c0 : i = s.size
      · rw [if_pos c0] at h; simp at h
      rw [if_neg c0] at h
      by_cases c1 : bt s i = 41
      · rw [if_pos c1] at h
        simp only [Option.some.injEq, Except.ok.injEq, Prod.mk.injEq] at h
        obtain ⟨rfl, rfl⟩ := h
        exact ⟨by simp only; omega, hx⟩
      rw [if_neg c1] at h
      by_cases c2 : acc.length = 256 ∧ (bt s i = 40 ∨ (48 ≤ bt s i ∧ bt s i ≤ 57))
      · rw [if_pos c2] at h; simp at h
      rw [if_neg c2] at h
      cases hT : nodeD s k (lv + 1) i with
      | none => rw [hT] at h; simp at h
      | some T =>
        cases T with
        | error c => rw [hT] at h; simp at h
        | ok T =>
          obtain ⟨m, j'⟩ := T
          have f := ((node_facts s hs k).1 _ _ _ h0 hi hT).2 m j' rfl
          have g := h1 _ _ _ _ h0 hi hT D (by omega)
          rw [hT] at h
          refine h2 lv j' (acc ++ [m]) n j (by omega) (by omega) (by simp; omega) h D hD (fun x hxx => ?_)
          rcases List.mem_append.1 hxx with h' | h'
          · exact hx x h'
          · rw [List.mem_singleton.1 h']; exact g

theorem decode_tb {s : ByteArray} {k : Nat} {r : Bool × ByteArray × List S25 × Int} (h : decodeD k s = some r) : Tb 12 ⟨r.1, r.2.1, r.2.2.1⟩ := by
  have e : Tb 12 ⟨false, ⟨#[]⟩, []⟩ := ⟨by simp, by simp⟩
  unfold decodeD at h
  by_cases c : s.size > 20000
  · rw [if_pos c] at h
    obtain rfl := Option.some.inj h
    exact e
  · rw [if_neg c] at h
    cases hT : nodeD s k 1 0 with
    | none => rw [hT] at h; simp at h
    | some T =>
      rw [hT] at h
      cases T with
      | error c2 => obtain rfl := Option.some.inj h; exact e
      | ok T =>
        obtain ⟨⟨n0, n1, n2⟩, j⟩ := T
        have g := (node_tb s (by omega) k).1 _ _ _ _ (by omega) (by omega) hT 12 (by omega)
        simp only at h
        by_cases c3 : j < (s.size : Int)
        · rw [if_pos c3] at h; obtain rfl := Option.some.inj h; exact e
        · rw [if_neg c3] at h; obtain rfl := Option.some.inj h; exact g
theorem same_refl {d : Nat} {a0 : Bool} {a1 : ByteArray} {a2 : List S25} (h : Tb d ⟨a0, a1, a2⟩) : Ev (fun k => garmentref06_Same.f k a0 a1 a2 a0 a1 a2) true := by
  obtain ⟨r, e, f⟩ := same_ok d ⟨a0, a1, a2⟩ ⟨a0, a1, a2⟩ h
  have := f.2 rfl
  subst this
  exact e
end Go.Proofs.YtcmlonloiamchaaDoor.CoPure
