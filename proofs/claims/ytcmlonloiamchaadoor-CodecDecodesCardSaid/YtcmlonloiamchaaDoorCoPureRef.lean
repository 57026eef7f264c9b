/- What Decode computes is what the reference's Decode computes. -/
import Derived.Test.YtcmlonloiamchaaDoorCoStub
import Derived.Test.YtcmlonloiamchaaDoorCo34
import Derived.Test.YtcmlonloiamchaaDoorCo35
import Derived.Test.YtcmlonloiamchaaDoorCo36
namespace Go.Proofs.YtcmlonloiamchaaDoor.CoPure
open Go.RowKit Go.Proofs.YtcmlonloiamchaaDoorW.PrintWords Go.Proofs.YtcmlonloiamchaaDoorW.PrintLast Go.Proofs.YtcmlonloiamchaaDoorW.PrintMore Go.Proofs.YtcmlonloiamchaaDoor.Co Go.Proofs.YtcmlonloiamchaaDoor.CoHand
set_option linter.unusedVariables false
set_option linter.unusedSimpArgs false

theorem wrap64_of {x : Int} (h : -9223372036854775808 ≤ x ∧ x ≤ 9223372036854775807) : wrap64 x = x := by unfold wrap64; omega
theorem ev_succ {α : Type} {g : Nat → Option α} {r : α} (h : Ev (fun k => g (k + 1)) r) : Ev g r := Ev.step (fun _ => rfl) h

abbrev RT := Bool × ByteArray × (List (S25)) × Int × Int
def textOut (s : ByteArray) : Except Int (Int × Int) → RT
  | .error c => (false, ⟨#[]⟩, [], 0, c)
  | .ok (n, j) => if s.size - (j + 1) < n then (false, ⟨#[]⟩, [], 0, 4) else (false, cut s (j + 1) n, [], j + 1 + n, 0)

theorem ref_text (s : ByteArray) (hs : s.size ≤ 100000) (f : Int) (hf : 0 ≤ f ∧ f < s.size) (d : Nat) : ∀ n i : Int, i + d = s.size → f ≤ i → 0 ≤ n ∧ n ≤ 20000 →
    Ev (fun k => garmentref06_text.l0 k s f n i) (textOut s (tl s f d n i)) := by
  induction d with
  | zero =>
    intro n i hd hi hn
    refine ev_succ ?_
    simp (disch := omega) only [garmentref06_text.l0, if_neg]
    refine ev_succ ?_
    simp (disch := first | omega | decide) only [garmentref06_text.j1, if_neg, if_pos]
    exact Ev.now _
  | succ d ih =>
    intro n i hd hi hn
    have hb := bt_range s i
    refine ev_succ ?_
    have key : Ev (fun k => garmentref06_text.j1 k s f n i (decide (48 ≤ bt s i ∧ bt s i ≤ 57))) (textOut s (tl s f (d + 1) n i)) := by
      refine ev_succ ?_
      unfold tl
      by_cases c1 : bt s i = 58
      · have e1 : decide (48 ≤ bt s i ∧ bt s i ≤ 57) = false := decide_eq_false (by omega)
        rw [if_pos c1]
        have w1 : wrap64 ((s.size : Int) - i) = s.size - i := wrap64_of (by omega)
        have w2 : wrap64 ((s.size : Int) - i - 1) = s.size - i - 1 := wrap64_of (by omega)
        have w3 : wrap64 (i + 1) = i + 1 := wrap64_of (by omega)
        have w4 : wrap64 (i + 1 + n) = i + 1 + n := wrap64_of (by omega)
        simp only [garmentref06_text.j1, e1, w1, w2, w3, w4]
        simp (disch := first | omega | decide) only [if_neg, if_pos, c1]
        unfold textOut
        by_cases c2 : (s.size : Int) - i - 1 < n
        · simp (disch := first | omega | decide) only [if_pos]
          exact Ev.now _
        · simp (disch := first | omega | decide) only [if_neg, if_pos]
          exact Ev.now _
      · rw [if_neg c1]
        by_cases c2 : 48 ≤ bt s i ∧ bt s i ≤ 57
        · have e1 : decide (48 ≤ bt s i ∧ bt s i ≤ 57) = true := decide_eq_true c2
          have w3 : wrap64 (f + 1) = f + 1 := wrap64_of (by omega)
          simp only [garmentref06_text.j1, e1, w3, if_true]
          have key2 : ∀ b : Bool, (b = true ↔ (i = f + 1 ∧ bt s f = 48)) → Ev (fun k => garmentref06_text.j2 k s f n i b) (textOut s (if bt s i < 48 ∨ 57 < bt s i ∨ (i = f + 1 ∧ bt s f = 48) then .error 2 else if 10 * n + (bt s i - 48) > 20000 then .error 5 else tl s f d (10 * n + (bt s i - 48)) (i + 1))) := by
            intro b hb2
            refine ev_succ ?_
            cases b with
            | true =>
              rw [if_pos (.inr (.inr (hb2.1 rfl)))]
              simp only [garmentref06_text.j2, if_true]
              exact Ev.now _
            | false =>
              have h3 : ¬ (i = f + 1 ∧ bt s f = 48) := fun h => by have := hb2.2 h; simp at this
              rw [if_neg (by rintro (h | h | h); · omega
                             · omega
                             · exact h3 h)]
              have w5 : (bt s i - 48) % 256 = bt s i - 48 := by omega
              have w6 : wrap64 (10 * n) = 10 * n := wrap64_of (by omega)
              have w7 : wrap64 (10 * n + (bt s i - 48)) = 10 * n + (bt s i - 48) := wrap64_of (by omega)
              have w8 : wrap64 (i + 1) = i + 1 := wrap64_of (by omega)
              simp only [garmentref06_text.j2, w5, w6, w7, w8]
              by_cases c3 : 10 * n + (bt s i - 48) > 20000
              · simp (disch := first | omega | decide) only [if_neg, if_pos]
                exact Ev.now _
              · simp (disch := first | omega | decide) only [if_neg, if_pos]
                exact ih _ _ (by omega) (by omega) (by omega)
          by_cases c3 : i = f + 1
          · simp (disch := first | omega | decide) only [if_pos]
            exact key2 _ (by simp [c3])
          · refine Ev.congr (f := fun k => garmentref06_text.j2 k s f n i false) (fun k => by rw [if_neg c3]) ?_
            exact key2 false (by simp [c3])
        · have e1 : decide (48 ≤ bt s i ∧ bt s i ≤ 57) = false := decide_eq_false c2
          rw [if_pos (by omega)]
          simp only [garmentref06_text.j1, e1]
          simp (disch := first | omega | decide | assumption) only [if_neg, if_pos]
          exact Ev.now _
    simp (disch := omega) only [garmentref06_text.l0, if_pos]
    by_cases c1 : bt s i ≥ 48
    · simp (disch := omega) only [if_pos]
      have e : decide (bt s i ≤ 57) = decide (48 ≤ bt s i ∧ bt s i ≤ 57) := by simp [c1]
      rw [e]
      exact key
    · simp (disch := omega) only [if_neg]
      have e : false = decide (48 ≤ bt s i ∧ bt s i ≤ 57) := (decide_eq_false (by omega)).symm
      rw [e]
      exact key

theorem begins_at (x : Int) : garmentref06_begins.f x = some (decide (x = 40 ∨ (48 ≤ x ∧ x ≤ 57))) := by
  unfold garmentref06_begins.f
  by_cases h1 : x = 40
  · simp [h1]
  · by_cases h2 : x ≥ 48
    · simp [h1, h2]
    · have : ¬ (48 ≤ x) := by omega
      simp [h1, h2, this]

theorem tl_error (s : ByteArray) (f : Int) (d : Nat) : ∀ n i : Int, ∀ c, tl s f d n i = .error c → c = 2 ∨ c = 4 ∨ c = 5 := by
  induction d with
  | zero => intro n i c h; simp [tl] at h; omega
  | succ d ih =>
    intro n i c h
    unfold tl at h
    split at h
    · simp at h
    · split at h
      · simp at h; omega
      · split at h
        · simp at h; omega
        · exact ih _ _ _ h
theorem text_error (s : ByteArray) (i : Int) (c : Int) (h : textD s i = .error c) : c = 2 ∨ c = 4 ∨ c = 5 := by
  unfold textD at h
  cases hT : tl s i (s.size - i.toNat) 0 i with
  | error c' => rw [hT] at h; simp at h; subst h; exact tl_error _ _ _ _ _ _ hT
  | ok T =>
    obtain ⟨n, j⟩ := T
    rw [hT] at h
    simp only at h
    split at h
    · simp at h; omega
    · simp at h

def nodeOut : Except Int (S25 × Int) → RT
  | .error c => (false, ⟨#[]⟩, [], 0, c)
  | .ok (n, j) => (n.f0, n.f1, n.f2, j, 0)

/-- What nodeD and kidsD give lies within the text; an error is no OK. -/
theorem node_facts (s : ByteArray) (hs : s.size ≤ 100000) : ∀ k, (∀ (lv i : Int) r, 0 ≤ i → i ≤ s.size → nodeD s k lv i = some r → (∀ c, r = .error c → c = 2 ∨ c = 4 ∨ c = 5) ∧ ∀ n j, r = .ok (n, j) → i < j ∧ j ≤ s.size) ∧
    (∀ (lv i : Int) acc r, 0 ≤ i → i ≤ s.size → kidsD s k lv i acc = some r → (∀ c, r = .error c → c = 2 ∨ c = 4 ∨ c = 5) ∧ ∀ n j, r = .ok (n, j) → i < j ∧ j ≤ s.size)
  | 0 => ⟨fun _ _ _ _ _ h => by simp [nodeD] at h, fun _ _ _ _ _ _ h => by simp [kidsD] at h⟩
  | k + 1 => by
    obtain ⟨h1, h2⟩ := node_facts s hs k
    refine ⟨fun lv i r h0 hi h => ?_, fun lv i acc r h0 hi h => ?_⟩
    · unfold nodeD at h
      by_cases c0 : i = s.size
      · rw [if_pos c0] at h; obtain rfl := Option.some.inj h; exact ⟨fun c e => by simp at e; omega, fun n j e => by simp at e⟩
      rw [if_neg c0] at h
      by_cases c1 : bt s i ≠ 40 ∧ (bt s i < 48 ∨ 57 < bt s i)
      · rw [if_pos c1] at h; obtain rfl := Option.some.inj h; exact ⟨fun c e => by simp at e; omega, fun n j e => by simp at e⟩
      rw [if_neg c1] at h
      by_cases c2 : lv > 12
      · rw [if_pos c2] at h; obtain rfl := Option.some.inj h; exact ⟨fun c e => by simp at e; omega, fun n j e => by simp at e⟩
      rw [if_neg c2] at h
      by_cases c3 : bt s i ≠ 40
      · rw [if_pos c3] at h
        cases hT : textD s i with
        | error c =>
          rw [hT] at h; obtain rfl := Option.some.inj h
          exact ⟨fun c' e => by simp at e; subst e; exact text_error s i _ hT, fun n j e => by simp at e⟩
        | ok T =>
          obtain ⟨t, j⟩ := T
          rw [hT] at h; obtain rfl := Option.some.inj h
          refine ⟨fun c e => by simp at e, fun n j' e => ?_⟩
          simp only [Except.ok.injEq, Prod.mk.injEq] at e
          obtain ⟨rfl, rfl⟩ := e
          exact text_bounds s i h0 (by omega) hs hT
      · rw [if_neg c3] at h
        have := h2 lv (i + 1) [] r (by omega) (by omega) h
        exact ⟨this.1, fun n j e => by have := this.2 n j e; omega⟩
    · unfold kidsD at h
      by_cases c0 : i = s.size
      · rw [if_pos c0] at h; obtain rfl := Option.some.inj h; exact ⟨fun c e => by simp at e; omega, fun n j e => by simp at e⟩
      rw [if_neg c0] at h
      by_cases c1 : bt s i = 41
      · rw [if_pos c1] at h; obtain rfl := Option.some.inj h
        refine ⟨fun c e => by simp at e, fun n j e => ?_⟩
        simp only [Except.ok.injEq, Prod.mk.injEq] at e
        omega
      rw [if_neg c1] at h
      by_cases c2 : acc.length = 256 ∧ (bt s i = 40 ∨ (48 ≤ bt s i ∧ bt s i ≤ 57))
      · rw [if_pos c2] at h; obtain rfl := Option.some.inj h; exact ⟨fun c e => by simp at e; omega, fun n j e => by simp at e⟩
      rw [if_neg c2] at h
      cases hT : nodeD s k (lv + 1) i with
      | none => rw [hT] at h; simp at h
      | some T =>
        have f1 := h1 _ _ _ h0 hi hT
        rw [hT] at h
        cases T with
        | error c => obtain rfl := Option.some.inj h; exact ⟨fun c' e => by simp at e; subst e; exact f1.1 _ rfl, fun n j e => by simp at e⟩
        | ok T =>
          obtain ⟨n, j⟩ := T
          have f2 := f1.2 n j rfl
          have f3 := h2 lv j (acc ++ [n]) r (by omega) (by omega) h
          exact ⟨f3.1, fun n' j' e => by have := f3.2 n' j' e; omega⟩

theorem ref_node (s : ByteArray) (hs : s.size ≤ 100000) : ∀ k, (∀ (lv i : Int) r, 0 ≤ i → i ≤ s.size → 0 ≤ lv → lv ≤ 100 → nodeD s k lv i = some r → Ev (fun k => garmentref06_node.f k s i lv) (nodeOut r)) ∧
    (∀ (lv i : Int) acc r, 0 ≤ i → i ≤ s.size → 0 ≤ lv → lv ≤ 12 → (acc.length : Int) ≤ i → kidsD s k lv i acc = some r → Ev (fun k => garmentref06_node.l0 k s lv i true ⟨#[]⟩ acc) (nodeOut r))
  | 0 => ⟨fun _ _ _ _ _ _ _ h => by simp [nodeD] at h, fun _ _ _ _ _ _ _ _ _ h => by simp [kidsD] at h⟩
  | k + 1 => by
    obtain ⟨h1, h2⟩ := ref_node s hs k
    refine ⟨fun lv i r h0 hi l0 l1 h => ?_, fun lv i acc r h0 hi l0 l1 ha h => ?_⟩
    · unfold nodeD at h
      have hb := bt_range s i
      refine ev_succ ?_
      simp only [garmentref06_node.f, begins_at, Option.bind_some]
      by_cases c0 : i = s.size
      · rw [if_pos c0] at h; obtain rfl := Option.some.inj h
        simp only [if_pos c0]
        exact Ev.now _
      rw [if_neg c0] at h
      by_cases c1 : bt s i ≠ 40 ∧ (bt s i < 48 ∨ 57 < bt s i)
      · rw [if_pos c1] at h; obtain rfl := Option.some.inj h
        have e1 : decide (bt s i = 40 ∨ (48 ≤ bt s i ∧ bt s i ≤ 57)) = false := decide_eq_false (by omega)
        simp (disch := first | omega | decide) only [if_neg, if_pos, e1]
        exact Ev.now _
      rw [if_neg c1] at h
      have e1 : decide (bt s i = 40 ∨ (48 ≤ bt s i ∧ bt s i ≤ 57)) = true := decide_eq_true (by omega)
      by_cases c2 : lv > 12
      · rw [if_pos c2] at h; obtain rfl := Option.some.inj h
        simp (disch := first | omega | decide) only [if_neg, if_pos, e1]
        exact Ev.now _
      rw [if_neg c2] at h
      by_cases c3 : bt s i ≠ 40
      · rw [if_pos c3] at h
        simp (disch := first | omega | decide) only [if_neg, if_pos, e1]
        have hx : Ev (fun k => garmentref06_text.f k s i) (nodeOut r) := by
          have ht := ref_text s hs i ⟨h0, by omega⟩ (s.size - i.toNat) 0 i (by omega) (by omega) (by omega)
          unfold textD at h
          unfold garmentref06_text.f
          cases hT : tl s i (s.size - i.toNat) 0 i with
          | error c => rw [hT] at ht h; obtain rfl := Option.some.inj h; exact ht
          | ok T =>
            obtain ⟨n, j⟩ := T
            rw [hT] at ht h
            simp only at h
            unfold textOut at ht
            by_cases c4 : (s.size : Int) - (j + 1) < n
            · simp only [if_pos c4] at ht h; obtain rfl := Option.some.inj h; exact ht
            · simp only [if_neg c4] at ht h; obtain rfl := Option.some.inj h; exact ht
        exact Ev.bind hx (Ev.now _)
      · rw [if_neg c3] at h
        have w1 : wrap64 (i + 1) = i + 1 := wrap64_of (by omega)
        simp (disch := first | omega | decide) only [if_neg, if_pos, e1, w1]
        exact h2 lv (i + 1) [] r (by omega) (by omega) l0 (by omega) (by simp; omega) h
    · unfold kidsD at h
      have hb := bt_range s i
      refine ev_succ ?_
      simp only [garmentref06_node.l0]
      by_cases c0 : i = s.size
      · rw [if_pos c0] at h; obtain rfl := Option.some.inj h
        simp (disch := first | omega | decide) only [if_neg]
        refine ev_succ ?_
        simp (disch := first | omega | decide) only [garmentref06_node.j1, if_neg, if_pos]
        exact Ev.now _
      rw [if_neg c0] at h
      simp (disch := first | omega | decide) only [if_pos]
      by_cases c1 : bt s i = 41
      · rw [if_pos c1] at h; obtain rfl := Option.some.inj h
        have e1 : (bt s i != 41) = false := by simp [c1]
        have w1 : wrap64 (i + 1) = i + 1 := wrap64_of (by omega)
        rw [e1]
        refine ev_succ ?_
        simp (disch := first | omega | decide) only [garmentref06_node.j1, if_neg, w1]
        exact Ev.now _
      rw [if_neg c1] at h
      have e1 : (bt s i != 41) = true := by simp [c1]
      rw [e1]
      refine ev_succ ?_
      simp only [garmentref06_node.j1, begins_at, Option.bind_some, if_true]
      simp (disch := first | omega | decide) only [if_pos]
      have key : ∀ b : Bool, (b = true ↔ (acc.length = 256 ∧ (bt s i = 40 ∨ (48 ≤ bt s i ∧ bt s i ≤ 57)))) → Ev (fun k => garmentref06_node.j2 k s lv i b true ⟨#[]⟩ acc) (nodeOut r) := by
        intro b hb2
        refine ev_succ ?_
        by_cases c2 : acc.length = 256 ∧ (bt s i = 40 ∨ (48 ≤ bt s i ∧ bt s i ≤ 57))
        · rw [if_pos c2] at h; obtain rfl := Option.some.inj h
          obtain rfl := hb2.2 c2
          simp only [garmentref06_node.j2, if_true]
          exact Ev.now _
        rw [if_neg c2] at h
        have hb3 : b = false := by cases b with
          | true => exact absurd (hb2.1 rfl) c2
          | false => rfl
        subst hb3
        have w1 : wrap64 (lv + 1) = lv + 1 := wrap64_of (by omega)
        simp (disch := first | omega | decide) only [garmentref06_node.j2, if_neg, w1]
        cases hT : nodeD s k (lv + 1) i with
        | none => rw [hT] at h; simp at h
        | some T =>
          have f1 := (node_facts s hs k).1 _ _ _ h0 hi hT
          have g1 := h1 _ _ _ h0 hi (by omega) (by omega) hT
          rw [hT] at h
          refine Ev.bind g1 ?_
          cases T with
          | error c =>
            obtain rfl := Option.some.inj h
            have := f1.1 c rfl
            have hc : ¬ c = 0 := by omega
            refine Ev.congr (f := fun _ => some (nodeOut (.error c))) (fun k => ?_) (Ev.now _)
            show (if c = 0 then _ else some ((false, (⟨#[]⟩ : ByteArray), ([] : List (S25)), (0 : Int), c) : RT)) = _
            rw [if_neg hc]
            rfl
          | ok T =>
            obtain ⟨⟨n0, n1, n2⟩, j⟩ := T
            have f2 := f1.2 _ j rfl
            have hl : acc.length < 2932031007402 := by omega
            refine Ev.congr (f := fun k => garmentref06_node.l0 k s lv j true ⟨#[]⟩ (acc ++ [⟨n0, n1, n2⟩])) (fun k => by simp only [nodeOut, if_true, if_pos hl]) ?_
            exact h2 lv j (acc ++ [⟨n0, n1, n2⟩]) r (by omega) (by omega) l0 l1 (by simp; omega) h
      by_cases c4 : bt s i = 40 ∨ (48 ≤ bt s i ∧ bt s i ≤ 57)
      · rw [decide_eq_true c4]
        simp only [if_true]
        exact key _ (by simp [c4]; omega)
      · rw [decide_eq_false c4]
        simp (disch := decide) only [if_neg]
        exact key false (by simp [c4])

/-- There is always an answer. -/
theorem node_total (s : ByteArray) (hs : s.size ≤ 100000) : ∀ k : Nat, (∀ lv i : Int, 0 ≤ i → i ≤ s.size → 2 * (s.size - i) + 2 ≤ k → ∃ r, nodeD s k lv i = some r) ∧ (∀ (lv i : Int) acc, 0 ≤ i → i ≤ s.size → 2 * (s.size - i) + 3 ≤ k → ∃ r, kidsD s k lv i acc = some r)
  | 0 => ⟨fun _ _ _ _ h => by omega, fun _ _ _ _ _ h => by omega⟩
  | k + 1 => by
    obtain ⟨h1, h2⟩ := node_total s hs k
    refine ⟨fun lv i h0 hi hk => ?_, fun lv i acc h0 hi hk => ?_⟩
    · unfold nodeD
      by_cases c0 : i = s.size
      · exact ⟨_, if_pos c0⟩
      rw [if_neg c0]
      by_cases c1 : bt s i ≠ 40 ∧ (bt s i < 48 ∨ 57 < bt s i)
      · exact ⟨_, if_pos c1⟩
      rw [if_neg c1]
      by_cases c2 : lv > 12
      · exact ⟨_, if_pos c2⟩
      rw [if_neg c2]
      by_cases c3 : bt s i ≠ 40
      · exact ⟨_, if_pos c3⟩
      rw [if_neg c3]
      exact h2 lv (i + 1) [] (by omega) (by omega) (by omega)
    · unfold kidsD
      by_cases c0 : i = s.size
      · exact ⟨_, if_pos c0⟩
      rw [if_neg c0]
      by_cases c1 : bt s i = 41
      · exact ⟨_, if_pos c1⟩
      rw [if_neg c1]
      by_cases c2 : acc.length = 256 ∧ (bt s i = 40 ∨ (48 ≤ bt s i ∧ bt s i ≤ 57))
      · exact ⟨_, if_pos c2⟩
      rw [if_neg c2]
      obtain ⟨T, hT⟩ := h1 (lv + 1) i h0 hi (by omega)
      rw [hT]
      cases T with
      | error c => exact ⟨_, rfl⟩
      | ok T =>
        obtain ⟨n, j⟩ := T
        have f := ((node_facts s hs k).1 _ _ _ h0 hi hT).2 n j rfl
        exact h2 lv j _ (by omega) (by omega) (by omega)
theorem decode_total (s : ByteArray) : ∃ k r, decodeD k s = some r := by
  by_cases h : s.size > 20000
  · exact ⟨0, _, by unfold decodeD; rw [if_pos h]⟩
  · obtain ⟨T, hT⟩ := (node_total s (by omega) (2 * s.size + 2)).1 1 0 (by omega) (by omega) (by omega)
    refine ⟨2 * s.size + 2, ?_⟩
    unfold decodeD
    rw [if_neg h, hT]
    cases T with
    | error c => exact ⟨_, rfl⟩
    | ok T =>
      obtain ⟨n, j⟩ := T
      by_cases c : j < s.size
      · exact ⟨_, if_pos c⟩
      · exact ⟨_, if_neg c⟩
theorem decode_ev {s : ByteArray} {k : Nat} {r : Bool × ByteArray × List S25 × Int} (h : decodeD k s = some r) : Ev (fun k => codec_Decode.f k s) r := Ev.of (k := k) (codec_Decode.mono s) h
theorem decode_ref {s : ByteArray} {k : Nat} {r : Bool × ByteArray × List S25 × Int} (h : decodeD k s = some r) : Ev (fun k => garmentref06_Decode.f k s) r := by
  unfold decodeD at h
  unfold garmentref06_Decode.f
  by_cases c : s.size > 20000
  · rw [if_pos c] at h
    obtain rfl := Option.some.inj h
    have c' : (s.size : Int) > 20000 := by omega
    simp only [if_pos c']
    exact Ev.now _
  · rw [if_neg c] at h
    have c' : ¬ (s.size : Int) > 20000 := by omega
    simp only [if_neg c']
    cases hT : nodeD s k 1 0 with
    | none => rw [hT] at h; simp at h
    | some T =>
      rw [hT] at h
      have f1 := (node_facts s (by omega) k).1 _ _ _ (by omega) (by omega) hT
      refine Ev.bind ((ref_node s (by omega) k).1 1 0 _ (by omega) (by omega) (by omega) (by omega) hT) ?_
      cases T with
      | error c2 =>
        obtain rfl := Option.some.inj h
        have := f1.1 c2 rfl
        have hc : ¬ c2 = 0 := by omega
        refine Ev.congr (f := fun _ => some (false, (⟨#[]⟩ : ByteArray), ([] : List (S25)), c2)) (fun k => ?_) (Ev.now _)
        show (if c2 = 0 then _ else some (false, (⟨#[]⟩ : ByteArray), ([] : List (S25)), c2)) = _
        rw [if_neg hc]
      | ok T =>
        obtain ⟨n, j⟩ := T
        simp only at h
        refine Ev.congr (f := fun _ => some r) (fun k => ?_) (Ev.now _)
        by_cases c3 : j < (s.size : Int)
        · simp only [if_pos c3] at h
          simp only [nodeOut, if_true, ← h]
          exact if_pos c3
        · simp only [if_neg c3] at h
          simp only [nodeOut, if_true, ← h]
          exact if_neg c3
end Go.Proofs.YtcmlonloiamchaaDoor.CoPure
