/- The plain law of the codec: reading an encoding, writing what was read, sizes, equality of trees. No program is in sight. -/
import Derived.Test.YtcmlonloiamchaaDoorCoStub
import Derived.Test.YtcmlonloiamchaaDoorCoEx
import Derived.Test.YtcmlonloiamchaaDoorCo6
import Derived.Test.YtcmlonloiamchaaDoorCo39
namespace Go.Proofs.YtcmlonloiamchaaDoor.CoPure
open Go.RowKit Go.Proofs.YtcmlonloiamchaaDoorW.PrintWords Go.Proofs.YtcmlonloiamchaaDoorW.PrintLast Go.Proofs.YtcmlonloiamchaaDoorW.PrintMore Go.Proofs.YtcmlonloiamchaaDoor.Co Go.Proofs.YtcmlonloiamchaaDoor.CoHand
set_option linter.unusedVariables false
set_option linter.unusedSimpArgs false
theorem wrap64_of {x : Int} (h : -9223372036854775808 ≤ x ∧ x ≤ 9223372036854775807) : wrap64 x = x := by unfold wrap64; omega
theorem ev_succ {α : Type} {g : Nat → Option α} {r : α} (h : Ev (fun k => g (k + 1)) r) : Ev g r := Ev.step (fun _ => rfl) h

theorem tl_error (s : ByteArray) (f : Int) (d : Nat) : ∀ n i : Int, ∀ c, tl s f d n i = .error c → c = 2 ∨ c = 4 ∨ c = 5 := by
  induction d with
  | zero => intro n i c h; simp [tl] at h; omega
  | succ d ih =>
    intro n i c h
    unfold tl at h
    split at h
    · simp at h
    · split at h
      · simp at h; omega
      · split at h
        · simp at h; omega
        · exact ih _ _ _ h
theorem text_error (s : ByteArray) (i : Int) (c : Int) (h : textD s i = .error c) : c = 2 ∨ c = 4 ∨ c = 5 := by
  unfold textD at h
  cases hT : tl s i (s.size - i.toNat) 0 i with
  | error c' => rw [hT] at h; simp at h; subst h; exact tl_error _ _ _ _ _ _ hT
  | ok T =>
    obtain ⟨n, j⟩ := T
    rw [hT] at h
    simp only at h
    split at h
    · simp at h; omega
    · simp at h

theorem node_facts (s : ByteArray) (hs : s.size ≤ 100000) : ∀ k, (∀ (lv i : Int) r, 0 ≤ i → i ≤ s.size → nodeD s k lv i = some r → (∀ c, r = .error c → c = 2 ∨ c = 4 ∨ c = 5) ∧ ∀ n j, r = .ok (n, j) → i < j ∧ j ≤ s.size) ∧
    (∀ (lv i : Int) acc r, 0 ≤ i → i ≤ s.size → kidsD s k lv i acc = some r → (∀ c, r = .error c → c = 2 ∨ c = 4 ∨ c = 5) ∧ ∀ n j, r = .ok (n, j) → i < j ∧ j ≤ s.size)
  | 0 => ⟨fun _ _ _ _ _ h => by simp [nodeD] at h, fun _ _ _ _ _ _ h => by simp [kidsD] at h⟩
  | k + 1 => by
    obtain ⟨h1, h2⟩ := node_facts s hs k
    refine ⟨fun lv i r h0 hi h => ?_, fun lv i acc r h0 hi h => ?_⟩
    · unfold nodeD at h
      by_cases c0 : i = s.size
      · rw [if_pos c0] at h; obtain rfl := Option.some.inj h; exact ⟨fun c e => by simp at e; omega, fun n j e => by simp at e⟩
      rw [if_neg c0] at h
      by_cases c1 : bt s i ≠ 40 ∧ (bt s i < 48 ∨ 57 < bt s i)
      · rw [if_pos c1] at h; obtain rfl := Option.some.inj h; exact ⟨fun c e => by simp at e; omega, fun n j e => by simp at e⟩
      rw [if_neg c1] at h
      by_cases c2 : lv > 12
      · rw [if_pos c2] at h; obtain rfl := Option.some.inj h; exact ⟨fun c e => by simp at e; omega, fun n j e => by simp at e⟩
      rw [if_neg c2] at h
      by_cases c3 : bt s i ≠ 40
      · rw [if_pos c3] at h
        cases hT : textD s i with
        | error c =>
          rw [hT] at h; obtain rfl := Option.some.inj h
          exact ⟨fun c' e => by simp at e; subst e; exact text_error s i _ hT, fun n j e => by simp at e⟩
        | ok T =>
          obtain ⟨t, j⟩ := T
          rw [hT] at h; obtain rfl := Option.some.inj h
          refine ⟨fun c e => by simp at e, fun n j' e => ?_⟩
          simp only [Except.ok.injEq, Prod.mk.injEq] at e
          obtain ⟨rfl, rfl⟩ := e
          exact text_bounds s i h0 (by omega) hs hT
      · rw [if_neg c3] at h
        have := h2 lv (i + 1) [] r (by omega) (by omega) h
        exact ⟨this.1, fun n j e => by have := this.2 n j e; omega⟩
    · unfold kidsD at h
      by_cases c0 : i = s.size
      · rw [if_pos c0] at h; obtain rfl := Option.some.inj h; exact ⟨fun c e => by simp at e; omega, fun n j e => by simp at e⟩
      rw [if_neg c0] at h
      by_cases c1 : bt s i = 41
      · rw [if_pos c1] at h; obtain rfl := Option.some.inj h
        refine ⟨fun c e => by simp at e, fun n j e => ?_⟩
        simp only [Except.ok.injEq, Prod.mk.injEq] at e
        omega
      rw [if_neg c1] at h
      by_cases c2 : acc.length = 256 ∧ (bt s i = 40 ∨ (48 ≤ bt s i ∧ bt s i ≤ 57))
      · rw [if_pos c2] at h; obtain rfl := Option.some.inj h; exact ⟨fun c e => by simp at e; omega, fun n j e => by simp at e⟩
      rw [if_neg c2] at h
      cases hT : nodeD s k (lv + 1) i with
      | none => rw [hT] at h; simp at h
      | some T =>
        have f1 := h1 _ _ _ h0 hi hT
        rw [hT] at h
        cases T with
        | error c => obtain rfl := Option.some.inj h; exact ⟨fun c' e => by simp at e; subst e; exact f1.1 _ rfl, fun n j e => by simp at e⟩
        | ok T =>
          obtain ⟨n, j⟩ := T
          have f2 := f1.2 n j rfl
          have f3 := h2 lv j (acc ++ [n]) r (by omega) (by omega) h
          exact ⟨f3.1, fun n' j' e => by have := f3.2 n' j' e; omega⟩

theorem node_total (s : ByteArray) (hs : s.size ≤ 100000) : ∀ k : Nat, (∀ lv i : Int, 0 ≤ i → i ≤ s.size → 2 * (s.size - i) + 2 ≤ k → ∃ r, nodeD s k lv i = some r) ∧ (∀ (lv i : Int) acc, 0 ≤ i → i ≤ s.size → 2 * (s.size - i) + 3 ≤ k → ∃ r, kidsD s k lv i acc = some r)
  | 0 => ⟨fun _ _ _ _ h => by omega, fun _ _ _ _ _ h => by omega⟩
  | k + 1 => by
    obtain ⟨h1, h2⟩ := node_total s hs k
    refine ⟨fun lv i h0 hi hk => ?_, fun lv i acc h0 hi hk => ?_⟩
    · unfold nodeD
      by_cases c0 : i = s.size
      · exact ⟨_, if_pos c0⟩
      rw [if_neg c0]
      by_cases c1 : bt s i ≠ 40 ∧ (bt s i < 48 ∨ 57 < bt s i)
      · exact ⟨_, if_pos c1⟩
      rw [if_neg c1]
      by_cases c2 : lv > 12
      · exact ⟨_, if_pos c2⟩
      rw [if_neg c2]
      by_cases c3 : bt s i ≠ 40
      · exact ⟨_, if_pos c3⟩
      rw [if_neg c3]
      exact h2 lv (i + 1) [] (by omega) (by omega) (by omega)
    · unfold kidsD
      by_cases c0 : i = s.size
      · exact ⟨_, if_pos c0⟩
      rw [if_neg c0]
      by_cases c1 : bt s i = 41
      · exact ⟨_, if_pos c1⟩
      rw [if_neg c1]
      by_cases c2 : acc.length = 256 ∧ (bt s i = 40 ∨ (48 ≤ bt s i ∧ bt s i ≤ 57))
      · exact ⟨_, if_pos c2⟩
      rw [if_neg c2]
      obtain ⟨T, hT⟩ := h1 (lv + 1) i h0 hi (by omega)
      rw [hT]
      cases T with
      | error c => exact ⟨_, rfl⟩
      | ok T =>
        obtain ⟨n, j⟩ := T
        have f := ((node_facts s hs k).1 _ _ _ h0 hi hT).2 n j rfl
        exact h2 lv j _ (by omega) (by omega) (by omega)
theorem decode_total (s : ByteArray) : ∃ k r, decodeD k s = some r := by
  by_cases h : s.size > 20000
  · exact ⟨0, _, by unfold decodeD; rw [if_pos h]⟩
  · obtain ⟨T, hT⟩ := (node_total s (by omega) (2 * s.size + 2)).1 1 0 (by omega) (by omega) (by omega)
    refine ⟨2 * s.size + 2, ?_⟩
    unfold decodeD
    rw [if_neg h, hT]
    cases T with
    | error c => exact ⟨_, rfl⟩
    | ok T =>
      obtain ⟨n, j⟩ := T
      by_cases c : j < s.size
      · exact ⟨_, if_pos c⟩
      · exact ⟨_, if_neg c⟩
theorem decode_ev {s : ByteArray} {k : Nat} {r : Bool × ByteArray × List S25 × Int} (h : decodeD k s = some r) : Ev (fun k => codec_Decode.f k s) r := Ev.of (k := k) (codec_Decode.mono s) h

/-- A tree of this depth, whose nodes have at most 100,000 elements. -/
def Tb : Nat → S25 → Prop
  | 0, _ => False
  | d + 1, n => n.f2.length ≤ 100000 ∧ ∀ x ∈ n.f2, Tb d x
theorem Tb.mono : ∀ d n, Tb d n → Tb (d + 1) n
  | 0, _, h => h.elim
  | d + 1, n, h => ⟨h.1, fun x hx => Tb.mono d x (h.2 x hx)⟩
theorem Tb.le {d e : Nat} (h : d ≤ e) {n : S25} (hn : Tb d n) : Tb e n := by
  induction e with
  | zero => obtain rfl : d = 0 := by omega
            exact hn
  | succ e ih =>
    by_cases c : d = e + 1
    · subst c; exact hn
    · exact Tb.mono _ _ (ih (by omega))

theorem rd25 (xs : List S25) (i : Nat) : rd_T25 xs (i : Int) = xs.getD i z25 := rfl
theorem drop_cons (xs : List S25) (i : Nat) (h : i < xs.length) : xs.drop i = xs.getD i z25 :: xs.drop (i + 1) := by
  rw [List.drop_eq_getElem_cons h, List.getD_eq_getElem?_getD, List.getElem?_eq_getElem h, Option.getD_some]
theorem getD_mem {α : Type} (xs : List α) (d : α) (i : Nat) (h : i < xs.length) : xs.getD i d ∈ xs := by
  rw [List.getD_eq_getElem?_getD, List.getElem?_eq_getElem h]; exact List.getElem_mem h

theorem same_loop (a0 : Bool) (a1 : ByteArray) (la : List S25) (b0 : Bool) (b1 : ByteArray) (lb : List S25) (hl : la.length = lb.length) (hb : la.length ≤ 100000)
    (ih : ∀ x ∈ la, ∀ y : S25, ∃ r : Bool, Ev (fun k => garmentref06_Same.f k x.f0 x.f1 x.f2 y.f0 y.f1 y.f2) r ∧ (r = true ↔ x = y)) (m : Nat) :
    ∀ i : Nat, i + m = la.length → ∃ r : Bool, Ev (fun k => garmentref06_Same.l0 k (i : Int) a0 a1 la b0 b1 lb) r ∧ (r = true ↔ la.drop i = lb.drop i) := by
  induction m with
  | zero =>
    intro i hi
    refine ⟨true, ?_, ?_⟩
    · refine ev_succ ?_
      simp (disch := omega) only [garmentref06_Same.l0, if_neg]
      exact Ev.now _
    · rw [List.drop_eq_nil_of_le (by omega), List.drop_eq_nil_of_le (by omega)]
      simp
  | succ m im =>
    intro i hi
    obtain ⟨r1, e1, f1⟩ := ih (la.getD i z25) (getD_mem _ _ _ (by omega)) (lb.getD i z25)
    have w1 : wrap64 ((i : Int) + 1) = ((i + 1 : Nat) : Int) := by rw [wrap64_of (by omega)]; omega
    have key : ∀ r, Ev (fun k => if r1 = true then (garmentref06_Same.l0 k ((i + 1 : Nat) : Int) a0 a1 la b0 b1 lb) else (some false)) r → Ev (fun k => garmentref06_Same.l0 k (i : Int) a0 a1 la b0 b1 lb) r := by
      intro r hr
      refine ev_succ ?_
      simp (disch := omega) only [garmentref06_Same.l0, if_pos, rd25, w1]
      exact Ev.bind e1 hr
    cases r1 with
    | false =>
      refine ⟨false, key _ ?_, ?_⟩
      · simp (disch := decide) only [if_neg]
        exact Ev.now _
      · rw [drop_cons _ _ (by omega), drop_cons lb _ (by omega)]
        have : ¬ la.getD i z25 = lb.getD i z25 := fun e => by have := f1.2 e; simp at this
        constructor
        · intro h; simp at h
        · intro h; exact absurd (List.cons.inj h).1 this
    | true =>
      obtain ⟨r, e2, f2⟩ := im (i + 1) (by omega)
      refine ⟨r, key _ ?_, ?_⟩
      · simp only [if_true]
        exact e2
      · rw [drop_cons _ _ (by omega), drop_cons lb _ (by omega), f2]
        have := f1.1 rfl
        rw [this]
        constructor
        · intro h; rw [h]
        · intro h; exact (List.cons.inj h).2

theorem ba_ext {a b : ByteArray} (h : a.toList = b.toList) : a = b := by
  rw [ByteArray.toList_eq, ByteArray.toList_eq] at h
  cases a; cases b
  congr
  exact Array.toList_inj.1 h

theorem same_ok (d : Nat) : ∀ a b : S25, Tb d a → ∃ r : Bool, Ev (fun k => garmentref06_Same.f k a.f0 a.f1 a.f2 b.f0 b.f1 b.f2) r ∧ (r = true ↔ a = b) := by
  induction d with
  | zero => intro a b h; exact h.elim
  | succ d ih =>
    intro a b h
    obtain ⟨a0, a1, a2⟩ := a
    obtain ⟨b0, b1, b2⟩ := b
    obtain ⟨hl, hx⟩ := h
    simp only at hl hx ⊢
    have no : ∀ {p : Prop}, ¬ p → ∃ r : Bool, Ev (fun k => garmentref06_Same.j0 k true a0 a1 a2 b0 b1 b2) r ∧ (r = true ↔ p) := by
      intro p hp
      refine ⟨false, ?_, by simp [hp]⟩
      refine ev_succ ?_
      simp only [garmentref06_Same.j0, if_true]
      exact Ev.now _
    have up : ∀ {g : Nat → Option Bool} {p : Prop}, (∀ k, garmentref06_Same.f (k + 1) a0 a1 a2 b0 b1 b2 = g k) → (∃ r : Bool, Ev g r ∧ (r = true ↔ p)) → ∃ r : Bool, Ev (fun k => garmentref06_Same.f k a0 a1 a2 b0 b1 b2) r ∧ (r = true ↔ p) := by
      rintro g p hg ⟨r, h1, h2⟩
      exact ⟨r, Ev.step hg h1, h2⟩
    by_cases c0 : a0 = b0
    · subst c0
      by_cases c1 : a1.toList = b1.toList
      · have := ba_ext c1
        subst this
        by_cases c2 : a2.length = b2.length
        · refine up (g := fun k => garmentref06_Same.j0 k false a0 a1 a2 a0 a1 b2) (fun k => by simp only [garmentref06_Same.f]; simp [c2]) ?_
          obtain ⟨r, e, f⟩ := same_loop a0 a1 a2 a0 a1 b2 c2 hl (fun x hx' y => ih x y (hx x hx')) a2.length 0 (by omega)
          refine ⟨r, ?_, ?_⟩
          · refine ev_succ ?_
            simp (disch := decide) only [garmentref06_Same.j0, if_neg]
            exact e
          · rw [f]; simp
        · refine up (g := fun k => garmentref06_Same.j0 k true a0 a1 a2 a0 a1 b2) (fun k => by
            simp only [garmentref06_Same.f]
            have : ((a2.length : Int) != (b2.length : Int)) = true := by simp; omega
            simp [this]) (no (fun e => c2 (by simp at e; rw [e])))
      · refine up (g := fun k => garmentref06_Same.j0 k true a0 a1 a2 a0 b1 b2) (fun k => by
          simp only [garmentref06_Same.f]
          simp [c1]) (no (fun e => c1 (by simp at e; rw [e.1])))
    · refine up (g := fun k => garmentref06_Same.j0 k true a0 a1 a2 b0 b1 b2) (fun k => by
        simp only [garmentref06_Same.f]
        have : (a0 != b0) = true := by simpa using c0
        simp [this]) (no (fun e => c0 (by simp at e; exact e.1)))
theorem same_refl {d : Nat} {a0 : Bool} {a1 : ByteArray} {a2 : List S25} (h : Tb d ⟨a0, a1, a2⟩) : Ev (fun k => garmentref06_Same.f k a0 a1 a2 a0 a1 a2) true := by
  obtain ⟨r, e, f⟩ := same_ok d ⟨a0, a1, a2⟩ ⟨a0, a1, a2⟩ h
  have := f.2 rfl
  subst this
  exact e


/-- n is written as E on this level. -/
inductive Enc : Int → S25 → List UInt8 → Prop
  | text (lv : Int) (t : ByteArray) (h : lv ≤ 12) : Enc lv ⟨false, t, []⟩ (Lib.decDigits t.size ++ [58] ++ t.data.toList)
  | list (lv : Int) (l : List S25) (Es : List (List UInt8)) (h : lv ≤ 12) (hl : l.length ≤ 256) (hE : Es.length = l.length) (ih : ∀ i (h1 : i < l.length) (h2 : i < Es.length), Enc (lv + 1) l[i] Es[i]) : Enc lv ⟨true, ⟨#[]⟩, l⟩ ([40] ++ Es.flatten ++ [41])

theorem ba_empty {t : ByteArray} (h : t.size = 0) : t = ⟨#[]⟩ := by
  cases t with
  | mk d => congr; exact Array.eq_empty_of_size_eq_zero h

theorem enc_of (k : Nat) : (∀ lv n out o, encD k lv n out = some (.ok o) → ∃ E, o = out ++ E ∧ Enc lv n E) ∧
    (∀ lv l out o, encsD k lv l out = some (.ok o) → ∃ Es : List (List UInt8), o = out ++ Es.flatten ∧ Es.length = l.length ∧ ∀ i (h1 : i < l.length) (h2 : i < Es.length), Enc (lv + 1) l[i] Es[i]) := by
  induction k with
  | zero => exact ⟨fun _ _ _ _ h => by simp [encD] at h, fun _ _ _ _ h => by simp [encsD] at h⟩
  | succ k ih =>
    obtain ⟨h1, h2⟩ := ih
    refine ⟨fun lv n out o h => ?_, fun lv l out o h => ?_⟩
    · obtain ⟨n0, n1, n2⟩ := n
      unfold encD at h
      simp only at h
      split at h
      · simp at h
      split at h
      · simp at h
      rename_i c1
      split at h
      · simp at h
      rename_i c2
      cases n0 with
      | false =>
        rw [if_pos rfl] at h
        simp only [Option.some.injEq, Except.ok.injEq] at h
        have hn : n2 = [] := by
          cases n2 with
          | nil => rfl
          | cons x xs => exact absurd (.inr ⟨rfl, by simp⟩) c1
        subst hn
        exact ⟨_, by rw [← h]; simp only [List.append_assoc], Enc.text lv n1 (by omega)⟩
      | true =>
        rw [if_neg (by simp)] at h
        have ht : n1 = ⟨#[]⟩ := ba_empty (Decidable.byContradiction fun e => c1 (.inl ⟨rfl, e⟩))
        subst ht
        cases hT : encsD k lv n2 (out ++ [40]) with
        | none => rw [hT] at h; simp at h
        | some T =>
          rw [hT] at h
          cases T with
          | error c => simp at h
          | ok o2 =>
            simp only [Option.some.injEq, Except.ok.injEq] at h
            obtain ⟨Es, e1, e2, e3⟩ := h2 _ _ _ _ hT
            refine ⟨[40] ++ Es.flatten ++ [41], ?_, Enc.list lv n2 Es (by omega) (by omega) e2 e3⟩
            rw [← h, e1]
            simp only [List.append_assoc]
    · cases l with
      | nil =>
        unfold encsD at h
        split at h
        · simp at h
        · simp only [Option.some.injEq, Except.ok.injEq] at h
          exact ⟨[], by simp [h], rfl, fun i h1 => by simp at h1⟩
      | cons x xs =>
        unfold encsD at h
        cases hT : encD k (lv + 1) x out with
        | none => rw [hT] at h; simp at h
        | some T =>
          rw [hT] at h
          cases T with
          | error c => simp at h
          | ok o2 =>
            obtain ⟨E, e1, e2⟩ := h1 _ _ _ _ hT
            obtain ⟨Es, f1, f2, f3⟩ := h2 _ _ _ _ h
            refine ⟨E :: Es, ?_, by simp [f2], fun i g1 g2 => ?_⟩
            · rw [f1, e1]; simp
            · cases i with
              | zero => exact e2
              | succ i => exact f3 i (by simpa using g1) (by simpa using g2)

abbrev By (l : List UInt8) : ByteArray := ⟨l.toArray⟩
theorem by_size (l : List UInt8) : (By l).size = l.length := List.size_toArray ..
theorem by_bt (l : List UInt8) (i : Nat) (h : i < l.length) : bt (By l) (i : Int) = (l[i].toNat : Int) := by
  have h' : ((i : Nat) : Int).toNat < (By l).size := by rw [by_size]; omega
  rw [← bt_at (By l) i h']
  rfl
theorem by_bt_app (pre : List UInt8) (c : UInt8) (r : List UInt8) : bt (By (pre ++ c :: r)) (pre.length : Int) = c.toNat := by
  rw [by_bt _ _ (by simp)]
  simp
theorem by_cut (l : List UInt8) (a b : Nat) : (By l).extract a b = By ((l.drop a).take (b - a)) := by
  apply ByteArray.ext
  rw [ByteArray.data_extract]
  simp only [List.extract_toArray]

/-- A number, read on over digits. -/
def step10 (n : Nat) (c : UInt8) : Nat := 10 * n + (c.toNat - 48)
def valFrom (n : Nat) (D : List UInt8) : Nat := D.foldl step10 n
theorem vf_nil (n : Nat) : valFrom n [] = n := List.foldl_nil
theorem vf_cons (n : Nat) (c : UInt8) (D : List UInt8) : valFrom n (c :: D) = valFrom (10 * n + (c.toNat - 48)) D := List.foldl_cons ..
theorem valFrom_app (A C : List UInt8) : ∀ n, valFrom n (A ++ C) = valFrom (valFrom n A) C := by
  induction A with
  | nil => intro n; rw [vf_nil]; rfl
  | cons c A ih => intro n; rw [List.cons_append, vf_cons, vf_cons]; exact ih _
theorem valFrom_le (D : List UInt8) : ∀ n, n ≤ valFrom n D := by
  induction D with
  | nil => intro n; rw [vf_nil]; exact Nat.le_refl _
  | cons c D ih => intro n; rw [vf_cons]; exact Nat.le_trans (by omega) (ih _)
def Digits (D : List UInt8) : Prop := ∀ c ∈ D, 48 ≤ c.toNat ∧ c.toNat ≤ 57
theorem Digits.tail {c : UInt8} {D : List UInt8} (h : Digits (c :: D)) : Digits D := fun x hx => h x (List.mem_cons_of_mem _ hx)
theorem dig_toNat {d : Nat} (h : d < 10) : (UInt8.ofNat (48 + d)).toNat = 48 + d := by
  rw [UInt8.toNat_ofNat']; omega
theorem dd_ind {P : Nat → Prop} (h0 : ∀ m, m < 10 → P m) (h1 : ∀ m, 10 ≤ m → P (m / 10) → P m) (m : Nat) : P m := by
  induction m using Nat.strongRecOn with
  | _ m ih =>
  by_cases h : m < 10
  · exact h0 m h
  · exact h1 m (by omega) (ih _ (by omega))
theorem dd_small {m : Nat} (h : m < 10) : Lib.decDigits m = [UInt8.ofNat (48 + m)] := by rw [Lib.decDigits, dif_pos h]
theorem dd_big {m : Nat} (h : 10 ≤ m) : Lib.decDigits m = Lib.decDigits (m / 10) ++ [UInt8.ofNat (48 + m % 10)] := by rw [Lib.decDigits, dif_neg (by omega)]
theorem dd_digits (m : Nat) : Digits (Lib.decDigits m) := by
  induction m using dd_ind with
  | h0 m h => rw [dd_small h]; intro c hc; rw [List.mem_singleton.1 hc, dig_toNat h]; omega
  | h1 m h ih =>
    rw [dd_big h]
    intro c hc
    rcases List.mem_append.1 hc with h' | h'
    · exact ih c h'
    · rw [List.mem_singleton.1 h', dig_toNat (by omega)]; omega
theorem dd_val (m : Nat) : valFrom 0 (Lib.decDigits m) = m := by
  induction m using dd_ind with
  | h0 m h => rw [dd_small h]; simp only [vf_nil, vf_cons]; rw [dig_toNat h]; omega
  | h1 m h ih =>
    rw [dd_big h, valFrom_app, ih]
    simp only [vf_nil, vf_cons]
    rw [dig_toNat (by omega)]
    omega
/-- No numeral of two digits begins with a nought. -/
def Lead (D : List UInt8) : Prop := ∀ c d r, D = c :: d :: r → c.toNat ≠ 48
theorem dd_head (m : Nat) : 1 ≤ m → ∃ c r, Lib.decDigits m = c :: r ∧ 49 ≤ c.toNat := by
  induction m using dd_ind with
  | h0 m h => intro h1; exact ⟨_, _, dd_small h, by rw [dig_toNat h]; omega⟩
  | h1 m h ih =>
    intro _
    obtain ⟨c, r, e, hc⟩ := ih (by omega)
    exact ⟨c, r ++ [UInt8.ofNat (48 + m % 10)], by rw [dd_big h, e]; rfl, hc⟩
theorem dd_ne (m : Nat) : Lib.decDigits m ≠ [] := by
  by_cases h : m < 10
  · rw [dd_small h]; simp
  · rw [dd_big (by omega)]; simp
theorem dd_lead (m : Nat) : Lead (Lib.decDigits m) := by
  intro c d r e
  by_cases h : m < 10
  · rw [dd_small h] at e; simp at e
  · obtain ⟨c', r', e', hc⟩ := dd_head m (by omega)
    rw [e'] at e
    obtain ⟨rfl, _⟩ := List.cons.inj e
    omega
theorem dd_unique (D : List UInt8) : D ≠ [] → Digits D → Lead D → Lib.decDigits (valFrom 0 D) = D ∧ (∀ c r, D = c :: r → c.toNat ≠ 48 → 1 ≤ valFrom 0 D) := by
  -- from the last digit on
  suffices h : ∀ (n : Nat) (D : List UInt8), D.length = n → D ≠ [] → Digits D → Lead D → Lib.decDigits (valFrom 0 D) = D ∧ (∀ c r, D = c :: r → c.toNat ≠ 48 → 1 ≤ valFrom 0 D) from h _ D rfl
  intro n
  induction n with
  | zero => intro D hl hn; exact absurd (List.eq_nil_of_length_eq_zero hl) hn
  | succ n ih =>
    intro D hl hn hd hz
    obtain ⟨A, c, rfl⟩ : ∃ A c, D = A ++ [c] := ⟨D.dropLast, D.getLast hn, (List.dropLast_concat_getLast hn).symm⟩
    have hc := hd c (by simp)
    have ofc : UInt8.ofNat (48 + (c.toNat - 48)) = c := by
      rw [show 48 + (c.toNat - 48) = c.toNat by omega]; exact UInt8.ofNat_toNat
    cases A with
    | nil =>
      have e : valFrom 0 ([] ++ [c]) = c.toNat - 48 := by simp only [List.nil_append, List.append_nil, vf_nil, vf_cons, List.length_nil, Nat.add_zero, Nat.zero_add, Nat.mul_zero]
      refine ⟨?_, fun c' r' e' h' => ?_⟩
      · rw [e, dd_small (by omega), ofc]; rfl
      · obtain ⟨rfl, _⟩ := List.cons.inj e'
        rw [e]; omega
    | cons a A =>
      have e : valFrom 0 ((a :: A) ++ [c]) = 10 * valFrom 0 (a :: A) + (c.toNat - 48) := by rw [valFrom_app, vf_cons, vf_nil]
      have ha : a.toNat ≠ 48 := by
        cases A with
        | nil => exact hz a c [] rfl
        | cons b A => exact hz a b (A ++ [c]) rfl
      obtain ⟨i1, i2⟩ := ih (a :: A) (by simpa using hl) (by simp) (fun x hx => hd x (by simp only [List.mem_append]; exact .inl hx)) (fun x y r e' => by
        obtain ⟨rfl, _⟩ := List.cons.inj e'; exact ha)
      have h1 := i2 a A rfl ha
      refine ⟨?_, fun _ _ _ _ => by rw [e]; omega⟩
      rw [e, dd_big (by omega), show (10 * valFrom 0 (a :: A) + (c.toNat - 48)) / 10 = valFrom 0 (a :: A) by omega, show (10 * valFrom 0 (a :: A) + (c.toNat - 48)) % 10 = c.toNat - 48 by omega, i1, ofc]

/-- Digits are read to their end. -/
theorem tl_digits (rest : List UInt8) (f : Int) (D : List UInt8) : ∀ (pre : List UInt8) (n : Nat) (d : Nat), Digits D → valFrom n D ≤ 20000 → (∀ j : Nat, pre.length ≤ j → j < pre.length + D.length → (j : Int) = f + 1 → bt (By (pre ++ D ++ rest)) f ≠ 48) →
    tl (By (pre ++ D ++ rest)) f (D.length + d) n pre.length = tl (By (pre ++ D ++ rest)) f d (valFrom n D) ((pre.length + D.length : Nat) : Int) := by
  induction D with
  | nil => intro pre n d _ _ _; simp only [List.nil_append, List.append_nil, vf_nil, vf_cons, List.length_nil, Nat.add_zero, Nat.zero_add, Nat.mul_zero]
  | cons c D ih =>
    intro pre n d hd hv hz
    have hc := hd c (by simp)
    have e0 : bt (By (pre ++ c :: D ++ rest)) (pre.length : Int) = c.toNat := by
      rw [List.append_assoc, List.cons_append]; exact by_bt_app _ _ _
    rw [show (c :: D).length + d = (D.length + d) + 1 by simp; omega]
    have key : tl (By (pre ++ c :: D ++ rest)) f ((D.length + d) + 1) n pre.length = tl (By (pre ++ c :: D ++ rest)) f (D.length + d) (10 * (n : Int) + (bt (By (pre ++ c :: D ++ rest)) pre.length - 48)) ((pre.length : Int) + 1) := by
      have hv' := valFrom_le D (10 * n + (c.toNat - 48))
      rw [vf_cons] at hv
      rw [tl, if_neg (by rw [e0]; omega), if_neg ?_, if_neg (by rw [e0]; omega)]
      rintro (h | h | ⟨h1, h2⟩)
      · rw [e0] at h; omega
      · rw [e0] at h; omega
      · exact hz pre.length (by omega) (by simp) h1 h2
    rw [key, e0]
    have e1 : pre ++ c :: D ++ rest = (pre ++ [c]) ++ D ++ rest := by simp
    have := ih (pre ++ [c]) (10 * n + (c.toNat - 48)) d hd.tail (by rw [← vf_cons]; exact hv) (fun j h1 h2 h3 => by
      rw [← e1]; exact hz j (by simp at h1; omega) (by simp at h2 ⊢; omega) h3)
    rw [← e1] at this
    rw [show (10 * (n : Int) + ((c.toNat : Int) - 48)) = ((10 * n + (c.toNat - 48) : Nat) : Int) by omega, show ((pre.length : Int) + 1) = (((pre ++ [c]).length : Nat) : Int) by simp, this]
    simp only [vf_nil, vf_cons]
    congr 1
    simp
    omega

/-- What is read as a number is digits. -/
theorem tl_inv (s : ByteArray) (f : Nat) (d : Nat) : ∀ (n i : Nat) (m j : Int), i + d = s.size → f ≤ i → tl s f d n i = .ok (m, j) →
    ∃ D : List UInt8, s.data.toList.drop i = D ++ 58 :: s.data.toList.drop (i + D.length + 1) ∧ j = ((i + D.length : Nat) : Int) ∧ i + D.length < s.size ∧ Digits D ∧ m = ((valFrom n D : Nat) : Int) ∧ valFrom n D ≤ max n 20000 ∧
      (i ≤ f + 1 → f + 1 < i + D.length → bt s f ≠ 48) := by
  induction d with
  | zero => intro n i m j _ _ h; simp [tl] at h
  | succ d ih =>
    intro n i m j hi hf h
    have hlt : i < s.data.toList.length := by have : s.data.toList.length = s.size := Array.length_toList
                                              omega
    have hb : bt s (i : Int) = (s.data.toList[i].toNat : Int) := by
      rw [← bt_at s i (by simpa using (by omega : i < s.size))]; rfl
    rw [tl] at h
    by_cases c1 : bt s (i : Int) = 58
    · rw [if_pos c1] at h
      simp only [Except.ok.injEq, Prod.mk.injEq] at h
      obtain ⟨rfl, rfl⟩ := h
      refine ⟨[], ?_, by simp, by simp; omega, by intro c hc; simp at hc, by rw [vf_nil], by simp only [vf_nil, vf_cons]; omega, by intro _ h; simp at h; omega⟩
      simp only [List.nil_append, List.length_nil, Nat.add_zero]
      rw [List.drop_eq_getElem_cons hlt]
      congr 1
      apply UInt8.toNat_inj.1
      have : (58 : UInt8).toNat = 58 := rfl
      omega
    rw [if_neg c1] at h
    split at h
    · simp at h
    rename_i c2
    split at h
    · simp at h
    rename_i c3
    have hr : 48 ≤ bt s (i : Int) ∧ bt s (i : Int) ≤ 57 := ⟨Int.not_lt.1 fun h => c2 (.inl h), Int.not_lt.1 fun h => c2 (.inr (.inl h))⟩
    rw [show 10 * (n : Int) + (bt s (i : Int) - 48) = ((10 * n + (s.data.toList[i].toNat - 48) : Nat) : Int) by omega, show ((i : Int) + 1) = ((i + 1 : Nat) : Int) by omega] at h
    obtain ⟨D, g1, g2, g3, g4, g5, g6, g7⟩ := ih _ _ _ _ (by omega) (by omega) h
    refine ⟨s.data.toList[i] :: D, ?_, by rw [g2]; simp; omega, by simp; omega, ?_, by rw [vf_cons]; exact g5, by rw [vf_cons]; omega, ?_⟩
    · rw [List.drop_eq_getElem_cons hlt, g1, show i + (s.data.toList[i] :: D).length + 1 = i + 1 + D.length + 1 by simp; omega]
      rfl
    · intro c hc
      rcases List.mem_cons.1 hc with rfl | hc
      · omega
      · exact g4 c hc
    · intro h1 h2
      simp only [List.length_cons] at h2
      by_cases e : i = f + 1
      · intro h; exact c2 (.inr (.inr ⟨by omega, h⟩))
      · exact g7 (by omega) (by omega)

/-- Two lists, element by element. -/
inductive F2 {α β : Type} (R : α → β → Prop) : List α → List β → Prop
  | nil : F2 R [] []
  | cons {a : α} {b : β} {xs : List α} {ys : List β} (h : R a b) (t : F2 R xs ys) : F2 R (a :: xs) (b :: ys)
theorem F2.of {α β : Type} {R : α → β → Prop} : ∀ {xs : List α} {ys : List β}, ys.length = xs.length → (∀ i (h1 : i < xs.length) (h2 : i < ys.length), R xs[i] ys[i]) → F2 R xs ys
  | [], [], _, _ => .nil
  | [], b :: ys, h, _ => by simp at h
  | a :: xs, [], h, _ => by simp at h
  | a :: xs, b :: ys, h, k => .cons (k 0 (by simp) (by simp)) (F2.of (by simpa using h) (fun i h1 h2 => k (i + 1) (by simpa using h1) (by simpa using h2)))
theorem F2.len {α β : Type} {R : α → β → Prop} {xs : List α} {ys : List β} (h : F2 R xs ys) : ys.length = xs.length := by
  induction h with
  | nil => rfl
  | cons _ _ ih => simp [ih]
theorem F2.at {α β : Type} {R : α → β → Prop} {xs : List α} {ys : List β} (h : F2 R xs ys) : ∀ i (h1 : i < xs.length) (h2 : i < ys.length), R xs[i] ys[i] := by
  induction h with
  | nil => intro i h1; simp at h1
  | cons h t ih =>
    intro i h1 h2
    cases i with
    | zero => exact h
    | succ i => exact ih i (by simpa using h1) (by simpa using h2)
theorem F2.mono {α β : Type} {R S : α → β → Prop} {xs : List α} {ys : List β} (h : F2 R xs ys) (k : ∀ a b, a ∈ xs → R a b → S a b) : F2 S xs ys := by
  induction h with
  | nil => exact .nil
  | cons h t ih => exact .cons (k _ _ (by simp) h) (ih fun a b m r => k a b (List.mem_cons_of_mem _ m) r)
theorem F2.app {α β : Type} {R : α → β → Prop} {xs xs' : List α} {ys ys' : List β} (h : F2 R xs ys) (h' : F2 R xs' ys') : F2 R (xs ++ xs') (ys ++ ys') := by
  induction h with
  | nil => exact h'
  | cons h t ih => exact .cons h ih
theorem Enc.kids {lv : Int} {l : List S25} {Es : List (List UInt8)} (h : lv ≤ 12) (hl : l.length ≤ 256) (k : F2 (Enc (lv + 1)) l Es) : Enc lv ⟨true, ⟨#[]⟩, l⟩ ([40] ++ Es.flatten ++ [41]) :=
  .list lv l Es h hl k.len k.at
theorem enc_ind {P : Int → S25 → List UInt8 → Prop} (ht : ∀ (lv : Int) (t : ByteArray), lv ≤ 12 → P lv ⟨false, t, []⟩ (Lib.decDigits t.size ++ [58] ++ t.data.toList))
    (hl : ∀ (lv : Int) (l : List S25) (Es : List (List UInt8)), lv ≤ 12 → l.length ≤ 256 → F2 (Enc (lv + 1)) l Es → F2 (P (lv + 1)) l Es → P lv ⟨true, ⟨#[]⟩, l⟩ ([40] ++ Es.flatten ++ [41])) {lv : Int} {n : S25} {E : List UInt8} (h : Enc lv n E) : P lv n E := by
  induction h with
  | text lv t h => exact ht lv t h
  | list lv l Es h hk hE ih ih2 => exact hl lv l Es h hk (F2.of hE ih) (F2.of hE ih2)

theorem enc_first {lv : Int} {n : S25} {E : List UInt8} (h : Enc lv n E) : ∃ c r, E = c :: r ∧ (c.toNat = 40 ∨ (48 ≤ c.toNat ∧ c.toNat ≤ 57)) := by
  cases h with
  | text _ t h =>
    cases hD : Lib.decDigits t.size with
    | nil => exact absurd hD (dd_ne _)
    | cons c r => exact ⟨c, _, rfl, .inr (dd_digits t.size c (by rw [hD]; simp))⟩
  | list _ l Es h hl hE ih => exact ⟨40, _, rfl, .inl rfl⟩
theorem enc_up {lv : Int} {n : S25} {E : List UInt8} (h : Enc lv n E) : ∀ lv', lv' ≤ lv → Enc lv' n E := by
  refine enc_ind (P := fun lv n E => ∀ lv', lv' ≤ lv → Enc lv' n E) ?_ ?_ h
  · intro lv t h lv' h'; exact .text lv' t (by omega)
  · intro lv l Es h hl _ ih lv' h'
    exact .kids (by omega) hl (ih.mono fun a b _ r => r _ (by omega))
theorem f2_det {R : S25 → List UInt8 → Prop} {l : List S25} {Es : List (List UInt8)} (h : F2 (fun n E => ∀ F, R n F → F = E) l Es) : ∀ Fs, F2 R l Fs → Fs = Es := by
  induction h with
  | nil => intro Fs k; cases k; rfl
  | cons h t ih =>
    intro Fs k
    cases k with
    | cons h' t' => rw [h _ h', ih _ t']
theorem enc_det {lv : Int} {n : S25} {E : List UInt8} (h : Enc lv n E) : ∀ lv' F, Enc lv' n F → F = E := by
  refine enc_ind (P := fun lv n E => ∀ lv' F, Enc lv' n F → F = E) ?_ ?_ h
  · intro lv t h lv' F k
    cases k; rfl
  · intro lv l Es h hl _ ih lv' F k
    cases k with
    | list _ _ Fs _ _ hF kF => rw [f2_det (R := Enc (lv' + 1)) (ih.mono fun a b _ r F k => r _ F k) Fs (F2.of hF kF)]

theorem node_ev {s : ByteArray} {k : Nat} {lv i : Int} {r : Except Int (S25 × Int)} (h : nodeD s k lv i = some r) : Ev (fun k => nodeD s k lv i) r := Ev.of (fun k => (node_mono s k).1 lv i) h
theorem kids_ev {s : ByteArray} {k : Nat} {lv i : Int} {acc : List S25} {r : Except Int (S25 × Int)} (h : kidsD s k lv i acc = some r) : Ev (fun k => kidsD s k lv i acc) r := Ev.of (fun k => (node_mono s k).2 lv i acc) h
theorem ev_fun {α : Type} {g : Nat → Option α} {a b : α} (h : Ev g a) (k : Ev g b) : a = b := by
  obtain ⟨n, h⟩ := h
  obtain ⟨m, k⟩ := k
  have e1 := h (n + m) (by omega)
  have e2 := k (n + m) (by omega)
  rw [e1] at e2
  exact Option.some.inj e2

/-- A text, or what is left of it, is read. -/
theorem text_read (t rest pre : List UInt8) (m : Nat) (hm : m ≤ 20000) : let s := By (pre ++ Lib.decDigits m ++ rest)
    tl s pre.length (s.size - pre.length) 0 pre.length = tl s pre.length rest.length (m : Int) ((pre.length + (Lib.decDigits m).length : Nat) : Int) := by
  intro s
  have e := tl_digits rest (pre.length : Int) (Lib.decDigits m) pre 0 rest.length (dd_digits m) (by rw [dd_val]; exact hm) (fun j h1 h2 h3 => by
    have hj : j = pre.length + 1 := by omega
    cases hD : Lib.decDigits m with
    | nil => exact absurd hD (dd_ne _)
    | cons c r =>
      cases r with
      | nil => rw [hD] at h2; simp at h2; omega
      | cons d r =>
        have hc := dd_lead m c d r hD
        rw [List.append_assoc, List.cons_append, by_bt_app]
        omega)
  rw [dd_val] at e
  rw [show s.size - pre.length = (Lib.decDigits m).length + rest.length by rw [by_size]; simp only [List.length_append]; omega]
  exact e
theorem text_dec (t pre rest : List UInt8) (hm : t.length ≤ 20000) : textD (By (pre ++ (Lib.decDigits t.length ++ [58] ++ t) ++ rest)) pre.length = .ok (By t, ((pre.length + (Lib.decDigits t.length ++ [58] ++ t).length : Nat) : Int)) := by
  have e0 : pre ++ (Lib.decDigits t.length ++ [58] ++ t) ++ rest = pre ++ Lib.decDigits t.length ++ (58 :: (t ++ rest)) := by simp
  rw [e0]
  have e := text_read t (58 :: (t ++ rest)) pre t.length hm
  simp only at e
  unfold textD
  rw [Int.toNat_natCast, e]
  have h58 : bt (By (pre ++ Lib.decDigits t.length ++ 58 :: (t ++ rest))) ((pre.length + (Lib.decDigits t.length).length : Nat) : Int) = 58 := by
    have := by_bt_app (pre ++ Lib.decDigits t.length) 58 (t ++ rest)
    rw [List.length_append] at this
    exact this
  rw [List.length_cons, tl, if_pos h58]
  simp only
  have hs : (By (pre ++ Lib.decDigits t.length ++ 58 :: (t ++ rest))).size = pre.length + (Lib.decDigits t.length).length + 1 + t.length + rest.length := by rw [by_size]; simp; omega
  rw [if_neg (by rw [hs]; omega)]
  have hc : cut (By (pre ++ Lib.decDigits t.length ++ 58 :: (t ++ rest))) (((pre.length + (Lib.decDigits t.length).length : Nat) : Int) + 1) (t.length : Int) = By t := by
    unfold cut
    rw [by_cut]
    congr 2
    rw [show (((pre.length + (Lib.decDigits t.length).length : Nat) : Int) + 1).toNat = (pre ++ Lib.decDigits t.length ++ [58]).length by simp; omega,
      show pre ++ Lib.decDigits t.length ++ 58 :: (t ++ rest) = (pre ++ Lib.decDigits t.length ++ [58]) ++ (t ++ rest) by simp, List.drop_left]
    refine (congrArg (fun n => List.take n (t ++ rest)) ?_).trans (List.take_left ..)
    simp only [List.length_append, List.length_cons, List.length_nil]
    omega
  rw [hc]
  congr 2
  simp
  omega

theorem begins_of {c : Int} (h : c = 40 ∨ (48 ≤ c ∧ c ≤ 57)) : ¬ (c ≠ 40 ∧ (c < 48 ∨ 57 < c)) := by omega
/-- One round of reading a node that begins as it should. -/
theorem node_step {s : ByteArray} {lv i : Int} {r : Except Int (S25 × Int)} (hi : i ≠ s.size) (hb : bt s i = 40 ∨ (48 ≤ bt s i ∧ bt s i ≤ 57)) (hlv : lv ≤ 12)
    (h : Ev (fun k => if bt s i ≠ 40 then some (match textD s i with | .error c => .error c | .ok (t, j) => .ok (⟨false, t, []⟩, j)) else kidsD s k lv (i + 1) []) r) : Ev (fun k => nodeD s k lv i) r := by
  refine Ev.step (fun k => ?_) h
  rw [nodeD, if_neg hi, if_neg (begins_of hb), if_neg (by omega)]
  rfl

/-- What is written is read back, whatever stands before and behind. -/
def Back (lv : Int) (n : S25) (E : List UInt8) : Prop := ∀ pre rest : List UInt8, E.length ≤ 20000 → Ev (fun k => nodeD (By (pre ++ E ++ rest)) k lv pre.length) (.ok (n, ((pre.length + E.length : Nat) : Int)))
theorem kids_back (lv : Int) (hlv : lv ≤ 12) {l : List S25} {Es : List (List UInt8)} (hE : F2 (Enc (lv + 1)) l Es) (hB : F2 (Back (lv + 1)) l Es) : ∀ (acc : List S25) (pre rest : List UInt8), acc.length + l.length ≤ 256 → Es.flatten.length ≤ 20000 →
    Ev (fun k => kidsD (By (pre ++ (Es.flatten ++ [41]) ++ rest)) k lv pre.length acc) (.ok (⟨true, ⟨#[]⟩, acc ++ l⟩, ((pre.length + Es.flatten.length + 1 : Nat) : Int))) := by
  induction hE with
  | nil =>
    intro acc pre rest ha hl
    refine Ev.step (f := fun _ => some (.ok (⟨true, ⟨#[]⟩, acc ++ []⟩, ((pre.length + ([] : List (List UInt8)).flatten.length + 1 : Nat) : Int)))) (fun k => ?_) (Ev.now _)
    have e : pre ++ (([] : List (List UInt8)).flatten ++ [41]) ++ rest = pre ++ 41 :: rest := by simp
    rw [e, kidsD, if_neg (by rw [by_size]; simp; omega), if_pos (by rw [by_bt_app]; rfl)]
    simp
  | @cons x E xs Fs h t ih =>
    cases hB with
    | cons b bs =>
    intro acc pre rest ha hl
    have hl' : E.length ≤ 20000 ∧ Fs.flatten.length ≤ 20000 := by rw [List.flatten_cons, List.length_append] at hl; omega
    have e : pre ++ ((E :: Fs).flatten ++ [41]) ++ rest = pre ++ E ++ (Fs.flatten ++ [41] ++ rest) := by simp
    have e2 : pre ++ E ++ (Fs.flatten ++ [41] ++ rest) = (pre ++ E) ++ (Fs.flatten ++ [41]) ++ rest := by simp
    have h1 := b pre (Fs.flatten ++ [41] ++ rest) hl'.1
    have h2 := ih bs (acc ++ [x]) (pre ++ E) rest (by simp at ha ⊢; omega) hl'.2
    obtain ⟨c, r, hc, hc2⟩ := enc_first h
    have hbt : bt (By (pre ++ E ++ (Fs.flatten ++ [41] ++ rest))) pre.length = c.toNat := by
      rw [hc, List.append_assoc, List.cons_append]; exact by_bt_app _ _ _
    rw [e]
    rw [← e2] at h2
    refine Ev.step (f := fun k => (nodeD (By (pre ++ E ++ (Fs.flatten ++ [41] ++ rest))) k (lv + 1) pre.length).bind fun
        | .error c => some (.error c)
        | .ok (n, j) => kidsD (By (pre ++ E ++ (Fs.flatten ++ [41] ++ rest))) k lv j (acc ++ [n])) (fun k => ?_) (Ev.bind h1 ?_)
    · rw [kidsD, if_neg (by rw [by_size, hc]; simp; omega), if_neg (by rw [hbt]; omega), if_neg (by simp at ha; omega)]
      cases nodeD (By (pre ++ E ++ (Fs.flatten ++ [41] ++ rest))) k (lv + 1) pre.length with
      | none => rfl
      | some T => cases T <;> rfl
    · simp only [List.length_append, List.append_assoc, List.singleton_append] at h2 ⊢
      simp only [List.flatten_cons, List.length_append]
      rw [← Nat.add_assoc]
      exact h2
theorem enc_back {lv : Int} {n : S25} {E : List UInt8} (h : Enc lv n E) : Back lv n E := by
  refine enc_ind (P := Back) ?_ ?_ h
  · intro lv t hlv pre rest hl
    have ht : t.data.toList.length = t.size := Array.length_toList
    have hte : t = By t.data.toList := by cases t; simp
    obtain ⟨c, r, hc, hc2⟩ := enc_first (Enc.text lv t hlv)
    have hbt : bt (By (pre ++ (Lib.decDigits t.size ++ [58] ++ t.data.toList) ++ rest)) pre.length = c.toNat := by
      rw [hc, List.append_assoc, List.cons_append]; exact by_bt_app _ _ _
    have hn : c.toNat ≠ 40 := by
      cases hD : Lib.decDigits t.size with
      | nil => exact absurd hD (dd_ne _)
      | cons d u =>
        rw [hD] at hc
        have := dd_digits t.size d (by rw [hD]; simp)
        obtain ⟨rfl, _⟩ := List.cons.inj hc
        omega
    refine node_step (by rw [by_size, hc]; simp; omega) (by rw [hbt]; omega) hlv ?_
    have e := text_dec t.data.toList pre rest (by simp at hl; omega)
    rw [ht] at e
    rw [e]
    refine Ev.congr (f := fun _ => some (.ok ((⟨false, t, []⟩ : S25), ((pre.length + (Lib.decDigits t.size ++ [58] ++ t.data.toList).length : Nat) : Int)))) (fun k => ?_) (Ev.now _)
    rw [if_pos (by rw [hbt]; omega)]
  · intro lv l Es hlv hl hE hB pre rest hlen
    have e : pre ++ ([40] ++ Es.flatten ++ [41]) ++ rest = (pre ++ [40]) ++ (Es.flatten ++ [41]) ++ rest := by simp
    have hbt : bt (By (pre ++ ([40] ++ Es.flatten ++ [41]) ++ rest)) pre.length = 40 := by
      rw [show pre ++ ([40] ++ Es.flatten ++ [41]) ++ rest = pre ++ 40 :: (Es.flatten ++ [41] ++ rest) by simp]; exact by_bt_app _ _ _
    refine node_step (by rw [by_size]; simp; omega) (.inl hbt) hlv ?_
    have hk := kids_back lv hlv hE hB [] (pre ++ [40]) rest (by simpa using hl) (by simp only [List.length_append] at hlen; omega)
    rw [← e] at hk
    refine Ev.congr (f := fun k => kidsD (By (pre ++ ([40] ++ Es.flatten ++ [41]) ++ rest)) k lv ((pre ++ [40]).length : Nat) []) (fun k => ?_) ?_
    · rw [if_neg (by rw [hbt]; simp)]
      simp
    · have e2 : ((pre.length + ([40] ++ Es.flatten ++ [41]).length : Nat) : Int) = (((pre ++ [40]).length + Es.flatten.length + 1 : Nat) : Int) := by simp; omega
      rw [e2]
      exact hk

/-- A proper beginning of what is written is cut off. -/
def Short (lv : Int) (n : S25) (E : List UInt8) : Prop := ∀ pre E' F : List UInt8, E.length ≤ 20000 → E = E' ++ F → F ≠ [] → Ev (fun k => nodeD (By (pre ++ E')) k lv pre.length) (.error 4)
theorem node_end {pre : List UInt8} {lv : Int} : Ev (fun k => nodeD (By pre) k lv pre.length) (.error 4) := by
  refine Ev.step (f := fun _ => some (.error 4)) (fun k => ?_) (Ev.now _)
  rw [nodeD, if_pos (by rw [by_size])]
theorem kids_end {pre : List UInt8} {lv : Int} {acc : List S25} : Ev (fun k => kidsD (By pre) k lv pre.length acc) (.error 4) := by
  refine Ev.step (f := fun _ => some (.error 4)) (fun k => ?_) (Ev.now _)
  rw [kidsD, if_pos (by rw [by_size])]
theorem kids_short (lv : Int) (hlv : lv ≤ 12) {l : List S25} {Es : List (List UInt8)} (hE : F2 (Enc (lv + 1)) l Es) (hS : F2 (Short (lv + 1)) l Es) : ∀ (acc : List S25) (pre E' F : List UInt8), acc.length + l.length ≤ 256 → Es.flatten.length ≤ 20000 → Es.flatten = E' ++ F →
    Ev (fun k => kidsD (By (pre ++ E')) k lv pre.length acc) (.error 4) := by
  induction hE with
  | nil =>
    intro acc pre E' F ha hl e
    have : E' = [] := by
      simp only [List.flatten_nil] at e
      exact (List.append_eq_nil_iff.1 e.symm).1
    subst this
    rw [List.append_nil]
    exact kids_end
  | @cons x E xs Fs h t ih =>
    cases hS with
    | cons b bs =>
    intro acc pre E' F ha hl e
    rw [List.flatten_cons] at e
    have hl' : E.length ≤ 20000 ∧ Fs.flatten.length ≤ 20000 := by rw [List.flatten_cons, List.length_append] at hl; omega
    obtain ⟨c, r, hc, hc2⟩ := enc_first h
    have key : ∀ (E'' : List UInt8) (T : Except Int (S25 × Int)), E'' ≠ [] → (∃ u, E'' = c :: u) → Ev (fun k => nodeD (By (pre ++ E'')) k (lv + 1) pre.length) T → ∀ R, Ev (fun k => match (generalizing := false) T with
        | .error c => some (.error c)
        | .ok (n, j) => kidsD (By (pre ++ E'')) k lv j (acc ++ [n])) R → Ev (fun k => kidsD (By (pre ++ E'')) k lv pre.length acc) R := by
      rintro E'' T hne ⟨u, rfl⟩ hT R hR
      have hbt : bt (By (pre ++ c :: u)) pre.length = c.toNat := by_bt_app _ _ _
      refine Ev.step (f := fun k => (nodeD (By (pre ++ c :: u)) k (lv + 1) pre.length).bind fun
        | .error c => some (.error c)
        | .ok (n, j) => kidsD (By (pre ++ c :: u)) k lv j (acc ++ [n])) (fun k => ?_) (Ev.bind hT hR)
      rw [kidsD, if_neg (by rw [by_size]; simp; omega), if_neg (by rw [hbt]; omega), if_neg (by simp at ha; omega)]
      cases nodeD (By (pre ++ c :: u)) k (lv + 1) pre.length with
      | none => rfl
      | some T => cases T <;> rfl
    rcases List.append_eq_append_iff.1 e with ⟨G, h1, h2⟩ | ⟨G, h1, h2⟩
    · -- the whole element stands there
      subst h1
      have hk := ih bs (acc ++ [x]) (pre ++ E) G F (by simp at ha ⊢; omega) hl'.2 h2
      have hn := enc_back h pre G hl'.1
      rw [List.append_assoc] at hn
      rw [List.append_assoc] at hk
      refine key (E ++ G) _ (by rw [hc]; simp) ⟨r ++ G, by rw [hc]; rfl⟩ hn _ ?_
      rw [List.length_append] at hk
      exact hk
    · by_cases hG : G = []
      · -- just the whole element
        subst hG
        rw [List.append_nil] at h1
        subst h1
        have hk := ih bs (acc ++ [x]) (pre ++ E) [] Fs.flatten (by simp at ha ⊢; omega) hl'.2 rfl
        have hn := enc_back h pre [] hl'.1
        rw [List.append_nil] at hn hk
        refine key E _ (by rw [hc]; simp) ⟨r, hc⟩ hn _ ?_
        rw [List.length_append] at hk
        exact hk
      · by_cases hE' : E' = []
        · subst hE'
          rw [List.append_nil]
          exact kids_end
        · obtain ⟨d, u, hu⟩ : ∃ d u, E' = d :: u := by
            cases E' with
            | nil => exact absurd rfl hE'
            | cons d u => exact ⟨d, u, rfl⟩
          have hd : d = c := by
            rw [hc, hu] at h1
            exact (List.cons.inj h1).1.symm
          refine key E' _ hE' ⟨u, by rw [hu, hd]⟩ (b pre E' G hl'.1 h1 hG) _ (Ev.now _)
theorem enc_short {lv : Int} {n : S25} {E : List UInt8} (h : Enc lv n E) : Short lv n E := by
  refine enc_ind (P := Short) ?_ ?_ h
  · intro lv t hlv pre E' F hl e hF
    have ht : t.data.toList.length = t.size := Array.length_toList
    by_cases hE' : E' = []
    · subst hE'; rw [List.append_nil]; exact node_end
    obtain ⟨c, u, hu⟩ : ∃ c u, E' = c :: u := by
      cases E' with
      | nil => exact absurd rfl hE'
      | cons d u => exact ⟨d, u, rfl⟩
    have hbt : bt (By (pre ++ E')) pre.length = c.toNat := by rw [hu]; exact by_bt_app _ _ _
    have hcd : 48 ≤ c.toNat ∧ c.toNat ≤ 57 := by
      cases hD : Lib.decDigits t.size with
      | nil => exact absurd hD (dd_ne _)
      | cons d v =>
        rw [hD, hu] at e
        have := dd_digits t.size d (by rw [hD]; simp)
        obtain ⟨rfl, _⟩ := List.cons.inj e
        exact this
    refine node_step (by rw [by_size, hu]; simp; omega) (by rw [hbt]; omega) hlv ?_
    suffices hx : textD (By (pre ++ E')) pre.length = .error 4 by
      rw [hx]
      refine Ev.congr (f := fun _ => some (.error 4)) (fun k => ?_) (Ev.now _)
      rw [if_pos (by rw [hbt]; omega)]
    have hm : t.size ≤ 20000 := by simp only [List.length_append] at hl; omega
    unfold textD
    rw [Int.toNat_natCast]
    rw [List.append_assoc] at e
    rcases List.append_eq_append_iff.1 e with ⟨G, h1, h2⟩ | ⟨G, h1, h2⟩
    · -- all digits stand there
      subst h1
      have er := text_read [] G pre t.size hm
      simp only [List.append_assoc] at er
      rw [er]
      cases G with
      | nil =>
        simp [tl]
      | cons g G =>
        have hg : g = 58 := by simp only [List.cons_append, List.nil_append] at h2; exact (List.cons.inj h2).1.symm
        subst hg
        have hlt : G.length < t.size := by
          have := congrArg List.length h2
          have hF' : 0 < F.length := List.length_pos_iff.2 hF
          simp only [List.cons_append, List.nil_append, List.length_cons, List.length_append] at this
          omega
        have h58 : bt (By (pre ++ (Lib.decDigits t.size ++ 58 :: G))) ((pre.length + (Lib.decDigits t.size).length : Nat) : Int) = 58 := by
          have := by_bt_app (pre ++ Lib.decDigits t.size) 58 G
          rw [List.length_append, List.append_assoc] at this
          exact this
        rw [List.length_cons, tl, if_pos h58]
        simp only
        have hs : (By (pre ++ (Lib.decDigits t.size ++ 58 :: G))).size = pre.length + (Lib.decDigits t.size).length + 1 + G.length := by rw [by_size]; simp; omega
        rw [if_pos (by rw [hs]; omega)]
    · -- some digits stand there
      have hv : valFrom 0 E' ≤ 20000 := by
        have := dd_val t.size
        rw [h1, valFrom_app] at this
        have := valFrom_le G (valFrom 0 E')
        omega
      have hdg : Digits E' := fun x hx => dd_digits t.size x (by rw [h1]; exact List.mem_append_left _ hx)
      have et := tl_digits [] (pre.length : Int) E' pre 0 0 hdg hv (fun j j1 j2 j3 => by
        rw [List.append_nil, hbt]
        cases u with
        | nil => rw [hu] at j2; simp at j2; omega
        | cons d u =>
          have := dd_lead t.size c d (u ++ G) (by rw [h1, hu]; rfl)
          omega)
      rw [List.append_nil] at et
      rw [show (By (pre ++ E')).size - pre.length = E'.length + 0 by rw [by_size]; simp]
      have e0 : ((0 : Nat) : Int) = 0 := rfl
      rw [e0] at et
      rw [et]
      simp [tl]
  · intro lv l Es hlv hl hE hS pre E' F hlen e hF
    by_cases hE' : E' = []
    · subst hE'; rw [List.append_nil]; exact node_end
    obtain ⟨c, u, hu⟩ : ∃ c u, E' = c :: u := by
      cases E' with
      | nil => exact absurd rfl hE'
      | cons d u => exact ⟨d, u, rfl⟩
    subst hu
    simp only [List.append_assoc, List.cons_append, List.nil_append] at e
    obtain ⟨rfl, e2⟩ := List.cons.inj e
    have hbt : bt (By (pre ++ 40 :: u)) pre.length = 40 := by_bt_app _ _ _
    refine node_step (by rw [by_size]; simp; omega) (.inl hbt) hlv ?_
    obtain ⟨F', hF'⟩ : ∃ F', Es.flatten = u ++ F' := by
      rcases List.append_eq_append_iff.1 e2 with ⟨G, h1, h2⟩ | ⟨G, h1, h2⟩
      · cases G with
        | nil => exact ⟨[], by rw [h1]; simp⟩
        | cons g G =>
          simp only [List.cons_append, List.nil_append] at h2
          have := congrArg List.length h2
          have hF'' : 0 < F.length := List.length_pos_iff.2 hF
          simp only [List.length_cons, List.length_nil, List.length_append] at this
          omega
      · exact ⟨G, h1⟩
    have hk := kids_short lv hlv hE hS [] (pre ++ [40]) u F' (by simpa using hl) (by simp only [List.length_append] at hlen; omega) hF'
    rw [List.append_assoc, List.length_append] at hk
    refine Ev.congr (f := fun k => kidsD (By (pre ++ 40 :: u)) k lv ((pre.length : Int) + 1) []) (fun k => ?_) ?_
    · rw [if_neg (by rw [hbt]; simp)]
    · exact hk

theorem take_drop_app (l : List UInt8) (a v : Nat) : l.drop a = (l.drop a).take v ++ l.drop (a + v) := by
  rw [← List.drop_drop, List.take_append_drop]
theorem drop_app {l : List UInt8} {i : Nat} {A : List UInt8} {j : Nat} (h : l.drop i = A ++ l.drop j) (hj : j ≤ l.length) (hi : i ≤ l.length) : j = i + A.length := by
  have := congrArg List.length h
  simp only [List.length_append, List.length_drop] at this
  omega
/-- What was read is written so. -/
theorem dec_enc (s : ByteArray) (hs : s.size ≤ 20000) (k : Nat) : (∀ (lv : Int) (i : Nat) n j, i ≤ s.size → nodeD s k lv i = some (.ok (n, j)) → ∃ E, Enc lv n E ∧ s.data.toList.drop i = E ++ s.data.toList.drop (i + E.length) ∧ j = ((i + E.length : Nat) : Int) ∧ i + E.length ≤ s.size) ∧
    (∀ (lv : Int) (i : Nat) acc n j, i ≤ s.size → acc.length ≤ 256 → kidsD s k lv i acc = some (.ok (n, j)) → ∃ l Es, n = ⟨true, ⟨#[]⟩, acc ++ l⟩ ∧ F2 (Enc (lv + 1)) l Es ∧ (acc ++ l).length ≤ 256 ∧ s.data.toList.drop i = (Es.flatten ++ [41]) ++ s.data.toList.drop (i + Es.flatten.length + 1) ∧ j = ((i + Es.flatten.length + 1 : Nat) : Int) ∧ i + Es.flatten.length + 1 ≤ s.size) := by
  have hlen : s.data.toList.length = s.size := Array.length_toList
  induction k with
  | zero => exact ⟨fun _ _ _ _ _ h => by simp [nodeD] at h, fun _ _ _ _ _ _ _ h => by simp [kidsD] at h⟩
  | succ k ih =>
    obtain ⟨h1, h2⟩ := ih
    refine ⟨fun lv i n j hi h => ?_, fun lv i acc n j hi ha h => ?_⟩
    · unfold nodeD at h
      by_cases c0 : (i : Int) = s.size
      · rw [if_pos c0] at h; simp at h
      rw [if_neg c0] at h
      by_cases c1 : bt s i ≠ 40 ∧ (bt s i < 48 ∨ 57 < bt s i)
      · rw [if_pos c1] at h; simp at h
      rw [if_neg c1] at h
      by_cases c2 : lv > 12
      · rw [if_pos c2] at h; simp at h
      rw [if_neg c2] at h
      have hlt : i < s.data.toList.length := by omega
      have hb : bt s (i : Int) = (s.data.toList[i].toNat : Int) := by
        rw [← bt_at s i (by simpa using (by omega : i < s.size))]; rfl
      by_cases c3 : bt s i ≠ 40
      · rw [if_pos c3] at h
        have hdig : 48 ≤ bt s i ∧ bt s i ≤ 57 := by omega
        unfold textD at h
        rw [Int.toNat_natCast] at h
        cases hT : tl s i (s.size - i) 0 i with
        | error c => rw [hT] at h; simp at h
        | ok T =>
          obtain ⟨m, j'⟩ := T
          rw [hT] at h
          obtain ⟨D, g1, g2, g3, g4, g5, g6, g7⟩ := tl_inv s i (s.size - i) 0 i m j' (by omega) (Nat.le_refl _) hT
          simp only at h
          by_cases c4 : (s.size : Int) - (j' + 1) < m
          · rw [if_pos c4] at h; simp at h
          rw [if_neg c4] at h
          simp only [Option.some.injEq, Except.ok.injEq, Prod.mk.injEq] at h
          obtain ⟨rfl, rfl⟩ := h
          have hne : D ≠ [] := by
            rintro rfl
            rw [List.drop_eq_getElem_cons hlt] at g1
            have := (List.cons.inj g1).1
            rw [this] at hb
            have h58 : (58 : UInt8).toNat = 58 := rfl
            omega
          have hlead : Lead D := by
            rintro c d r rfl
            have hz := g7 (by omega) (by simp)
            rw [List.drop_eq_getElem_cons hlt] at g1
            have := (List.cons.inj g1).1
            rw [this] at hb
            intro e; rw [e] at hb; exact hz hb
          have hu := (dd_unique D hne g4 hlead).1
          have hv0 : ((0 : Nat) : Int) = 0 := rfl
          have hm2 : valFrom 0 D ≤ 20000 := by omega
          -- the text behind the colon
          have hcut : cut s (j' + 1) m = By ((s.data.toList.drop (i + D.length + 1)).take (valFrom 0 D)) := by
            have es : s = By s.data.toList := by cases s; simp
            unfold cut
            rw [g2, g5]
            conv => lhs; rw [es]
            rw [by_cut]
            congr 3
            omega
          have hsz : (cut s (j' + 1) m).size = valFrom 0 D := by
            rw [hcut, by_size, List.length_take, List.length_drop]; omega
          refine ⟨Lib.decDigits (cut s (j' + 1) m).size ++ [58] ++ (cut s (j' + 1) m).data.toList, .text lv _ (by omega), ?_, ?_, ?_⟩
          · rw [hsz, hu, hcut]
            have e2 : (D ++ [58] ++ (By ((s.data.toList.drop (i + D.length + 1)).take (valFrom 0 D))).data.toList).length = D.length + 1 + valFrom 0 D := by
              simp only [List.length_append, List.length_cons, List.length_nil, List.length_take, List.length_drop]; omega
            rw [e2, g1]
            simp only [List.append_assoc, List.cons_append, List.nil_append]
            congr 2
            rw [show i + (D.length + 1 + valFrom 0 D) = (i + D.length + 1) + valFrom 0 D by omega]
            exact take_drop_app _ _ _
          · rw [List.length_append, List.length_append, hsz, hu]
            have this : (cut s (j' + 1) m).data.toList.length = valFrom 0 D := Array.length_toList.trans hsz
            rw [this, g2, g5]
            simp only [List.length_cons, List.length_nil]
            omega
          · rw [List.length_append, List.length_append, hsz, hu]
            have this : (cut s (j' + 1) m).data.toList.length = valFrom 0 D := Array.length_toList.trans hsz
            rw [this]
            simp only [List.length_cons, List.length_nil]
            omega
      · rw [if_neg c3] at h
        have e1 : (i : Int) + 1 = ((i + 1 : Nat) : Int) := by omega
        rw [e1] at h
        obtain ⟨l, Es, rfl, hE, hl, g1, g2, g3⟩ := h2 lv (i + 1) [] n j (by omega) (by simp) h
        rw [List.nil_append] at hl
        refine ⟨[40] ++ Es.flatten ++ [41], by rw [List.nil_append]; exact .kids (by omega) hl hE, ?_, ?_, ?_⟩
        · rw [List.drop_eq_getElem_cons hlt, g1]
          have e40 : s.data.toList[i] = 40 := by
            apply UInt8.toNat_inj.1
            have : (40 : UInt8).toNat = 40 := rfl
            omega
          rw [e40]
          simp only [List.append_assoc, List.cons_append, List.nil_append, List.length_append, List.length_cons, List.length_nil]
          congr 4
          omega
        · rw [g2]; simp only [List.length_append, List.length_cons, List.length_nil]; omega
        · simp only [List.length_append, List.length_cons, List.length_nil]; omega
    · unfold kidsD at h
      by_cases c0 : (i : Int) = s.size
      · rw [if_pos c0] at h; simp at h
      rw [if_neg c0] at h
      have hlt : i < s.data.toList.length := by omega
      have hb : bt s (i : Int) = (s.data.toList[i].toNat : Int) := by
        rw [← bt_at s i (by simpa using (by omega : i < s.size))]; rfl
      by_cases c1 : bt s i = 41
      · rw [if_pos c1] at h
        simp only [Option.some.injEq, Except.ok.injEq, Prod.mk.injEq] at h
        obtain ⟨rfl, rfl⟩ := h
        refine ⟨[], [], by simp, .nil, by simpa using ha, ?_, by simp, by simp; omega⟩
        rw [List.drop_eq_getElem_cons hlt]
        have e41 : s.data.toList[i] = 41 := by
          apply UInt8.toNat_inj.1
          have : (41 : UInt8).toNat = 41 := rfl
          omega
        rw [e41]
        simp
      rw [if_neg c1] at h
      by_cases c2 : acc.length = 256 ∧ (bt s i = 40 ∨ (48 ≤ bt s i ∧ bt s i ≤ 57))
      · rw [if_pos c2] at h; simp at h
      rw [if_neg c2] at h
      cases hT : nodeD s k (lv + 1) i with
      | none => rw [hT] at h; simp at h
      | some T =>
        cases T with
        | error c => rw [hT] at h; simp at h
        | ok T =>
          obtain ⟨x, j'⟩ := T
          rw [hT] at h
          obtain ⟨E, k1, k2, k3, k4⟩ := h1 _ _ _ _ hi hT
          subst k3
          obtain ⟨c, r, hc, hc2⟩ := enc_first k1
          have hfirst : s.data.toList[i] = c := by
            rw [List.drop_eq_getElem_cons hlt, hc] at k2
            exact (List.cons.inj k2).1
          have ha' : acc.length < 256 := by
            have : acc.length ≠ 256 := fun e => c2 ⟨e, by rw [hb, hfirst]; omega⟩
            omega
          obtain ⟨l, Es, g1, g2, g3, g4, g5, g6⟩ := h2 lv (i + E.length) (acc ++ [x]) n j k4 (by simp; omega) h
          refine ⟨x :: l, E :: Es, by rw [g1]; simp, .cons k1 g2, by simpa using g3, ?_, by rw [g5]; simp; omega, by rw [List.flatten_cons, List.length_append]; omega⟩
          rw [k2, g4, List.flatten_cons]
          simp only [List.append_assoc, List.length_append]
          congr 4
          omega

mutual
def sz : S25 → Nat
  | ⟨_, t, l⟩ => 1 + t.size + szs l
def szs : List S25 → Nat
  | [] => 0
  | x :: xs => sz x + szs xs
end
theorem sz_mk (a : Bool) (t : ByteArray) (l : List S25) : sz ⟨a, t, l⟩ = 1 + t.size + szs l := by rw [sz]
theorem szs_nil : szs [] = 0 := by rw [szs]
theorem szs_cons (x : S25) (xs : List S25) : szs (x :: xs) = sz x + szs xs := by rw [szs]
theorem sz_pos (n : S25) : 1 ≤ sz n := by obtain ⟨a, t, l⟩ := n; rw [sz_mk]; omega
theorem sz_mem {l : List S25} {x : S25} (h : x ∈ l) : sz x ≤ szs l := by
  induction l with
  | nil => simp at h
  | cons y ys ih =>
    rw [szs_cons]
    rcases List.mem_cons.1 h with rfl | h
    · omega
    · have := ih h; omega
theorem szs_len (l : List S25) : l.length ≤ szs l := by
  induction l with
  | nil => simp
  | cons y ys ih => rw [szs_cons, List.length_cons]; have := sz_pos y; omega
theorem tb_of (N : Nat) : ∀ n, sz n ≤ N → N ≤ 100000 → Tb N n := by
  induction N with
  | zero => intro n h; have := sz_pos n; omega
  | succ N ih =>
    intro n h hN
    obtain ⟨a, t, l⟩ := n
    rw [sz_mk] at h
    have := szs_len l
    exact ⟨by simp only; omega, fun x hx => ih x (by simp only at hx; have := sz_mem hx; omega) (by omega)⟩

theorem size_loop (a : Bool) (t : ByteArray) (l : List S25) (L : Nat) (hL : L ≤ 1000000)
    (ih : ∀ x ∈ l, ∀ M : Nat, M ≤ 1000000 → Ev (fun k => garmentref06_Size.f k x.f0 x.f1 x.f2 (M : Int)) ((min (sz x) (M + 1) : Nat) : Int)) (d : Nat) :
    ∀ i c : Nat, i + d = l.length → i < c → c ≤ L + 1 → Ev (fun k => garmentref06_Size.l0 k (L : Int) (c : Int) (i : Int) a t l) ((min (c + szs (l.drop i)) (L + 1) : Nat) : Int) := by
  induction d with
  | zero =>
    intro i c hi hc hcL
    refine ev_succ ?_
    simp (disch := omega) only [garmentref06_Size.l0, if_neg]
    rw [List.drop_eq_nil_of_le (by omega), szs_nil]
    rw [show min (c + 0) (L + 1) = c by omega]
    exact Ev.now _
  | succ d id =>
    intro i c hi hc hcL
    rw [drop_cons _ _ (by omega : i < l.length), szs_cons]
    by_cases h : c ≤ L
    · have hx := ih (l.getD i z25) (getD_mem _ _ _ (by omega)) (L - c) (by omega)
      have hp := sz_pos (l.getD i z25)
      have h2 := id (i + 1) (c + min (sz (l.getD i z25)) (L - c + 1)) (by omega) (by omega) (by omega)
      refine ev_succ ?_
      have w1 : wrap64 ((i : Int) + 1) = ((i + 1 : Nat) : Int) := by rw [wrap64_of (by omega)]; omega
      have w2 : wrap64 ((L : Int) - c) = ((L - c : Nat) : Int) := by rw [wrap64_of (by omega)]; omega
      have w3 : wrap64 ((c : Int) + ((min (sz (l.getD i z25)) (L - c + 1) : Nat) : Int)) = ((c + min (sz (l.getD i z25)) (L - c + 1) : Nat) : Int) := by rw [wrap64_of (by omega)]; omega
      simp (disch := omega) only [garmentref06_Size.l0, if_pos, rd25, w1, w2]
      refine Ev.bind hx ?_
      rw [w3, show min (c + (sz (l.getD i z25) + szs (l.drop (i + 1)))) (L + 1) = min (c + min (sz (l.getD i z25)) (L - c + 1) + szs (l.drop (i + 1))) (L + 1) by omega]
      exact h2
    · refine ev_succ ?_
      simp (disch := omega) only [garmentref06_Size.l0, if_pos, if_neg]
      rw [show min (c + (sz (l.getD i z25) + szs (l.drop (i + 1)))) (L + 1) = c by omega]
      exact Ev.now _
theorem size_ok (N : Nat) : ∀ (n : S25) (L : Nat), sz n ≤ N → L ≤ 1000000 → Ev (fun k => garmentref06_Size.f k n.f0 n.f1 n.f2 (L : Int)) ((min (sz n) (L + 1) : Nat) : Int) := by
  induction N with
  | zero => intro n L h; have := sz_pos n; omega
  | succ N ih =>
    intro n L h hL
    obtain ⟨a, t, l⟩ := n
    rw [sz_mk] at h
    simp only
    have h2 := size_loop a t l L hL (fun x hx M hM => ih x M (by have := sz_mem hx; omega) hM) l.length 0 (1 + min t.size L) (by omega) (by omega) (by omega)
    rw [List.drop_zero] at h2
    rw [sz_mk, show min (1 + t.size + szs l) (L + 1) = min (1 + min t.size L + szs l) (L + 1) by omega]
    refine ev_succ ?_
    have w1 : wrap64 (1 + (mn (t.size : Int) (L : Int))) = ((1 + min t.size L : Nat) : Int) := by
      unfold mn
      rw [wrap64_of (by split <;> omega)]
      split <;> omega
    simp only [garmentref06_Size.f, w1]
    exact h2
theorem small_ok (n : S25) : Ev (fun k => garmentlaw06_small.f k n.f0 n.f1 n.f2) (decide (sz n ≤ 21000)) := by
  have h := size_ok (sz n) n 21000 (Nat.le_refl _) (by omega)
  unfold garmentlaw06_small.f
  refine Ev.bind h ?_
  have e : decide (((min (sz n) (21000 + 1) : Nat) : Int) ≤ 21000) = decide (sz n ≤ 21000) := decide_eq_decide.2 (by omega)
  rw [e]
  exact Ev.now _

/-- Encode has an answer; what it writes grows by a bounded amount. -/
theorem dd_len (m : Nat) (h : m < 100000) : (Lib.decDigits m).length ≤ 5 := by
  by_cases h1 : m < 10
  · rw [dd_small h1]; simp
  rw [dd_big (by omega), List.length_append]
  by_cases h2 : m / 10 < 10
  · rw [dd_small h2]; simp
  rw [dd_big (by omega), List.length_append]
  by_cases h3 : m / 10 / 10 < 10
  · rw [dd_small h3]; simp
  rw [dd_big (by omega), List.length_append]
  by_cases h4 : m / 10 / 10 / 10 < 10
  · rw [dd_small h4]; simp
  rw [dd_big (by omega), List.length_append]
  rw [dd_small (by omega)]; simp
theorem enc_ev {k : Nat} {lv : Int} {n : S25} {o : List UInt8} {r : Except Int (List UInt8)} (h : encD k lv n o = some r) : Ev (fun k => encD k lv n o) r := Ev.of (fun k => (enc_mono k).1 lv n o) h
theorem encs_ev {k : Nat} {lv : Int} {l : List S25} {o : List UInt8} {r : Except Int (List UInt8)} (h : encsD k lv l o = some r) : Ev (fun k => encsD k lv l o) r := Ev.of (fun k => (enc_mono k).2 lv l o) h
theorem encs_total (lv : Int) (l : List S25) (hl : szs l ≤ 21000) (ih : ∀ x ∈ l, ∀ out : List UInt8, out.length + 8 * sz x ≤ 1000000 → ∃ r, Ev (fun k => encD k (lv + 1) x out) r ∧ ∀ o, r = .ok o → o.length ≤ out.length + 8 * sz x) :
    ∀ out : List UInt8, out.length + 8 * szs l ≤ 1000000 → ∃ r, Ev (fun k => encsD k lv l out) r ∧ ∀ o, r = .ok o → o.length ≤ out.length + 8 * szs l := by
  induction l with
  | nil =>
    intro out h
    refine ⟨.ok out, ev_succ ?_, fun o e => by cases e; omega⟩
    refine Ev.congr (f := fun _ => some (.ok out)) (fun k => ?_) (Ev.now _)
    rw [encsD, if_neg (by omega)]
  | cons x xs ih2 =>
    intro out h
    rw [szs_cons] at h hl
    obtain ⟨r1, e1, b1⟩ := ih x (by simp) out (by omega)
    have stepE : ∀ r, Ev (fun k => match (generalizing := false) r1 with
        | .error c => some (.error c)
        | .ok o => encsD k lv xs o) r → Ev (fun k => encsD k lv (x :: xs) out) r := by
      intro r hr
      refine Ev.step (f := fun k => (encD k (lv + 1) x out).bind fun
        | .error c => some (.error c)
        | .ok o => encsD k lv xs o) (fun k => ?_) (Ev.bind e1 hr)
      rw [encsD]
      cases encD k (lv + 1) x out with
      | none => rfl
      | some T => cases T <;> rfl
    cases r1 with
    | error c => exact ⟨.error c, stepE _ (Ev.now _), fun o e => by cases e⟩
    | ok o =>
      have ho := b1 o rfl
      obtain ⟨r2, e2, b2⟩ := ih2 (by omega) (fun y hy => ih y (List.mem_cons_of_mem _ hy)) o (by omega)
      exact ⟨r2, stepE _ e2, fun o' e' => by have := b2 o' e'; rw [szs_cons]; omega⟩
theorem enc_total (N : Nat) : ∀ (n : S25) (lv : Int) (out : List UInt8), sz n ≤ N → N ≤ 21000 → out.length + 8 * sz n ≤ 1000000 → ∃ r, Ev (fun k => encD k lv n out) r ∧ ∀ o, r = .ok o → o.length ≤ out.length + 8 * sz n := by
  induction N with
  | zero => intro n lv out h; have := sz_pos n; omega
  | succ N ih =>
    intro n lv out h hN ho
    obtain ⟨a, t, l⟩ := n
    have hsz := sz_mk a t l
    rw [hsz] at h ho
    have stepE : ∀ (r : Except Int (List UInt8)), (∀ k, encD (k + 1) lv ⟨a, t, l⟩ out = some r) → Ev (fun k => encD k lv ⟨a, t, l⟩ out) r := fun r hr => Ev.step (f := fun _ => some r) hr (Ev.now _)
    have c0 : ¬ (1000000000 < out.length ∨ 1000000000 < t.size) := by omega
    by_cases c1 : (a = true ∧ ¬ t.size = 0) ∨ (a = false ∧ 0 < l.length)
    · exact ⟨.error 1, stepE _ fun k => by rw [encD, if_neg c0, if_pos c1], fun o e => by cases e⟩
    by_cases c2 : 12 < lv ∨ 256 < l.length
    · exact ⟨.error 5, stepE _ fun k => by rw [encD, if_neg c0, if_neg c1, if_pos c2], fun o e => by cases e⟩
    cases a with
    | false =>
      refine ⟨_, stepE (.ok (out ++ Lib.decDigits t.size ++ [58] ++ t.data.toList)) fun k => by rw [encD, if_neg c0, if_neg c1, if_neg c2, if_pos rfl], fun o e => ?_⟩
      cases e
      have := dd_len t.size (by omega)
      have ht : t.data.toList.length = t.size := Array.length_toList
      rw [hsz]
      simp only [List.length_append, List.length_cons, List.length_nil]
      omega
    | true =>
      obtain ⟨r, e, b⟩ := encs_total lv l (by omega) (fun x hx out' ho' => ih x (lv + 1) out' (by have := sz_mem hx; omega) (by omega) ho') (out ++ [40]) (by simp; omega)
      have stepK : ∀ r', Ev (fun k => match (generalizing := false) r with
          | .error c => some (.error c)
          | .ok o => some (.ok (o ++ [41]))) r' → Ev (fun k => encD k lv ⟨true, t, l⟩ out) r' := by
        intro r' hr
        refine Ev.step (f := fun k => (encsD k lv l (out ++ [40])).bind fun
          | .error c => some (.error c)
          | .ok o => some (.ok (o ++ [41]))) (fun k => ?_) (Ev.bind e hr)
        rw [encD, if_neg c0, if_neg c1, if_neg c2, if_neg (by simp)]
        simp only
        cases encsD k lv l (out ++ [40]) with
        | none => rfl
        | some T => cases T <;> rfl
      cases r with
      | error c => exact ⟨.error c, stepK _ (Ev.now _), fun o e => by cases e⟩
      | ok o =>
        refine ⟨.ok (o ++ [41]), stepK _ (Ev.now _), fun o' e' => ?_⟩
        cases e'
        have := b o rfl
        rw [hsz]
        simp only [List.length_append, List.length_cons, List.length_nil] at this ⊢
        omega

/-- What has an encoding that is no longer than a text may be is written so. -/
def Writes (lv : Int) (n : S25) (E : List UInt8) : Prop := E.length ≤ 20000 → ∀ out : List UInt8, out.length + E.length ≤ 1000000 → Ev (fun k => encD k lv n out) (.ok (out ++ E))
theorem kids_write (lv : Int) {l : List S25} {Es : List (List UInt8)} (h : F2 (Writes (lv + 1)) l Es) : Es.flatten.length ≤ 20000 → ∀ out : List UInt8, out.length + Es.flatten.length ≤ 1000000 → Ev (fun k => encsD k lv l out) (.ok (out ++ Es.flatten)) := by
  induction h with
  | nil =>
    intro _ out h
    refine ev_succ ?_
    refine Ev.congr (f := fun _ => some (.ok (out ++ []))) (fun k => ?_) (Ev.now _)
    rw [encsD, if_neg (by omega), List.append_nil]
  | @cons x E xs Fs h t ih =>
    intro hl out ho
    rw [List.flatten_cons, List.length_append] at hl ho
    have e1 := h (by omega) out (by omega)
    have e2 := ih (by omega) (out ++ E) (by rw [List.length_append]; omega)
    rw [List.flatten_cons, ← List.append_assoc]
    refine Ev.step (f := fun k => (encD k (lv + 1) x out).bind fun
        | .error c => some (.error c)
        | .ok o => encsD k lv xs o) (fun k => ?_) (Ev.bind e1 e2)
    rw [encsD]
    cases encD k (lv + 1) x out with
    | none => rfl
    | some T => cases T <;> rfl
theorem enc_write {lv : Int} {n : S25} {E : List UInt8} (h : Enc lv n E) : Writes lv n E := by
  refine enc_ind (P := Writes) ?_ ?_ h
  · intro lv t hlv hl out ho
    have ht : t.data.toList.length = t.size := Array.length_toList
    have hts : t.size ≤ 20000 := by simp only [List.length_append] at hl; omega
    refine Ev.step (f := fun _ => some (.ok (out ++ (Lib.decDigits t.size ++ [58] ++ t.data.toList)))) (fun k => ?_) (Ev.now _)
    rw [encD, if_neg (by simp only; omega), if_neg (by simp), if_neg (by simp; omega), if_pos rfl]
    simp only [List.append_assoc]
  · intro lv l Es hlv hl hE hW hlen out ho
    simp only [List.length_append, List.length_cons, List.length_nil] at hlen ho
    have e := kids_write lv hW (by omega) (out ++ [40]) (by simp only [List.length_append, List.length_cons, List.length_nil]; omega)
    refine Ev.step (f := fun k => (encsD k lv l (out ++ [40])).bind fun
          | .error c => some (.error c)
          | .ok o => some (.ok (o ++ [41]))) (fun k => ?_) (Ev.bind e ?_)
    · rw [encD, if_neg (by simp only; have : (⟨#[]⟩ : ByteArray).size = 0 := rfl
                           omega), if_neg (by simp; rfl), if_neg (by simp only; omega), if_neg (by simp)]
      simp only
      cases encsD k lv l (out ++ [40]) with
      | none => rfl
      | some T => cases T <;> rfl
    · simp only [List.append_assoc]
      exact Ev.now _

theorem example_ev : Ev (fun k => (garmentlaw06_exampleHolds.f k).bind fun t => (some t)) true := Ev.now _
theorem enc_err (k : Nat) : (∀ lv n out c, encD k lv n out = some (.error c) → c = 1 ∨ c = 5) ∧ (∀ lv l out c, encsD k lv l out = some (.error c) → c = 1 ∨ c = 5) := by
  induction k with
  | zero => exact ⟨fun _ _ _ _ h => by simp [encD] at h, fun _ _ _ _ h => by simp [encsD] at h⟩
  | succ k ih =>
    obtain ⟨h1, h2⟩ := ih
    refine ⟨fun lv n out c h => ?_, fun lv l out c h => ?_⟩
    · unfold encD at h
      split at h
      · simp at h
      split at h
      · simp at h; omega
      split at h
      · simp at h; omega
      split at h
      · simp at h
      cases hT : encsD k lv n.f2 (out ++ [40]) with
      | none => rw [hT] at h; simp at h
      | some T =>
        rw [hT] at h
        cases T with
        | error c' => simp at h; subst h; exact h2 _ _ _ _ hT
        | ok o => simp at h
    · cases l with
      | nil =>
        unfold encsD at h
        split at h <;> simp at h
      | cons x xs =>
        unfold encsD at h
        cases hT : encD k (lv + 1) x out with
        | none => rw [hT] at h; simp at h
        | some T =>
          rw [hT] at h
          cases T with
          | error c' => simp at h; subst h; exact h1 _ _ _ _ hT
          | ok o => exact h2 _ _ _ _ h

theorem eta25 (n : S25) : (⟨n.f0, n.f1, n.f2⟩ : S25) = n := by cases n; rfl
theorem encode_of {n : S25} {E : List UInt8} (h : Enc 1 n E) (hl : E.length ≤ 20000) : Ev (fun k => codec_Encode.f k n.f0 n.f1 n.f2) (By E, 0) := by
  have e := enc_write h hl [] (by simp; omega)
  rw [List.nil_append] at e
  obtain ⟨K, e⟩ := e
  refine ⟨K, fun k hk => ?_⟩
  have this : encD k 1 ⟨n.f0, n.f1, n.f2⟩ [] = some (.ok E) := by rw [eta25]; exact e k hk
  show encodeD k n.f0 n.f1 n.f2 = _
  unfold encodeD
  rw [this]
  simp only
  rw [if_neg (by omega)]
/-- Encode's answer: an error, or the encoding. -/
theorem encode_cases (n : S25) (h : sz n ≤ 21000) : (∃ c : Int, c ≠ 0 ∧ Ev (fun k => codec_Encode.f k n.f0 n.f1 n.f2) (⟨#[]⟩, c)) ∨ (∃ E, Enc 1 n E ∧ E.length ≤ 20000 ∧ Ev (fun k => codec_Encode.f k n.f0 n.f1 n.f2) (By E, 0)) := by
  obtain ⟨r, e, b⟩ := enc_total 21000 n 1 [] h (Nat.le_refl _) (by simp; omega)
  obtain ⟨K, e⟩ := e
  replace e : ∀ k, K ≤ k → encD k 1 ⟨n.f0, n.f1, n.f2⟩ [] = some r := by rw [eta25]; exact e
  cases r with
  | error c =>
    have hc := (enc_err K).1 _ _ _ _ (e K (Nat.le_refl _))
    refine .inl ⟨c, by omega, K, fun k hk => ?_⟩
    show encodeD k n.f0 n.f1 n.f2 = _
    unfold encodeD
    rw [e k hk]
  | ok o =>
    obtain ⟨E, hE2, hE⟩ := (enc_of K).1 _ _ _ _ (e K (Nat.le_refl _))
    rw [List.nil_append] at hE2
    subst hE2
    rw [eta25] at hE
    by_cases hl : o.length ≤ 20000
    · exact .inr ⟨o, hE, hl, encode_of hE hl⟩
    · refine .inl ⟨5, by omega, K, fun k hk => ?_⟩
      show encodeD k n.f0 n.f1 n.f2 = _
      unfold encodeD
      rw [e k hk]
      simp only
      rw [if_pos (by omega)]
theorem decode_of {s : ByteArray} (hs : s.size ≤ 20000) {r : Except Int (S25 × Int)} (h : Ev (fun k => nodeD s k 1 0) r) : Ev (fun k => codec_Decode.f k s) (match r with
    | .error c => (false, ⟨#[]⟩, [], c)
    | .ok (n, j) => if j < (s.size : Int) then (false, ⟨#[]⟩, [], 2) else (n.f0, n.f1, n.f2, 0)) := by
  obtain ⟨K, h⟩ := h
  refine ⟨K, fun k hk => ?_⟩
  show decodeD k s = _
  unfold decodeD
  have h := h k hk
  simp only at h
  rw [if_neg (by omega), h]
  cases r with
  | error c => rfl
  | ok T =>
    obtain ⟨n, j⟩ := T
    simp only
    split <;> rfl
theorem decode_enc {n : S25} {E : List UInt8} (h : Enc 1 n E) (hl : E.length ≤ 20000) : Ev (fun k => codec_Decode.f k (By E)) (n.f0, n.f1, n.f2, 0) := by
  have e := enc_back h [] [] hl
  rw [List.nil_append, List.append_nil] at e
  have := decode_of (s := By E) (by rw [by_size]; omega) e
  simp only [List.length_nil, Nat.zero_add] at this
  rw [if_neg (by rw [by_size]; omega)] at this
  exact this
theorem decode_more {n : S25} {E rest : List UInt8} (h : Enc 1 n E) (hl : E.length + rest.length ≤ 20000) (hr : rest ≠ []) : Ev (fun k => codec_Decode.f k (By (E ++ rest))) (false, ⟨#[]⟩, [], 2) := by
  have e := enc_back h [] rest (by omega)
  rw [List.nil_append] at e
  have := decode_of (s := By (E ++ rest)) (by rw [by_size, List.length_append]; omega) e
  simp only [List.length_nil, Nat.zero_add] at this
  have hp : 0 < rest.length := List.length_pos_iff.2 hr
  rw [if_pos (by rw [by_size, List.length_append]; omega)] at this
  exact this
theorem decode_short {n : S25} {E E' F : List UInt8} (h : Enc 1 n E) (hl : E.length ≤ 20000) (he : E = E' ++ F) (hF : F ≠ []) : Ev (fun k => codec_Decode.f k (By E')) (false, ⟨#[]⟩, [], 4) := by
  have e := enc_short h [] E' F hl he hF
  rw [List.nil_append] at e
  exact decode_of (s := By E') (by rw [by_size]; have := congrArg List.length he; rw [List.length_append] at this; omega) e
/-- Two encodings of which one begins the other are of one tree. -/
theorem enc_apart {a b : S25} {E F rest : List UInt8} (ha : Enc 1 a E) (hb : Enc 1 b F) (hl : F.length ≤ 20000) (he : F = E ++ rest) : a = b := by
  have e1 := enc_back ha [] rest (by have := congrArg List.length he; rw [List.length_append] at this; omega)
  have e2 := enc_back hb [] [] hl
  rw [List.nil_append] at e1 e2
  rw [List.append_nil, he] at e2
  have := ev_fun e1 e2
  simp only [Except.ok.injEq, Prod.mk.injEq] at this
  exact this.1
/-- What Decode tells. -/
theorem decode_tells (s : ByteArray) : ∃ r, Ev (fun k => codec_Decode.f k s) r ∧ (r.2.2.2 = 0 → s.size ≤ 20000 ∧ Enc 1 ⟨r.1, r.2.1, r.2.2.1⟩ s.data.toList) := by
  obtain ⟨k, r, h⟩ := decode_total s
  refine ⟨r, decode_ev h, fun h0 => ?_⟩
  unfold decodeD at h
  by_cases c : s.size > 20000
  · rw [if_pos c] at h
    obtain rfl := Option.some.inj h
    simp at h0
  rw [if_neg c] at h
  have hs : s.size ≤ 20000 := by omega
  refine ⟨hs, ?_⟩
  cases hT : nodeD s k 1 0 with
  | none => rw [hT] at h; simp at h
  | some T =>
    rw [hT] at h
    cases T with
    | error c2 =>
      obtain rfl := Option.some.inj h
      have := ((node_facts s (by omega) k).1 1 0 _ (by omega) (by omega) hT).1 c2 rfl
      simp only at h0
      omega
    | ok T =>
      obtain ⟨n, j⟩ := T
      simp only at h
      by_cases c3 : j < (s.size : Int)
      · rw [if_pos c3] at h; obtain rfl := Option.some.inj h; simp at h0
      · rw [if_neg c3] at h
        obtain rfl := Option.some.inj h
        obtain ⟨E, h1, h2, h3, h4⟩ := (dec_enc s hs k).1 1 0 n j (by omega) hT
        have hlen : s.data.toList.length = s.size := Array.length_toList
        have e : s.data.toList = E := by
          rw [List.drop_zero, List.drop_eq_nil_of_le (by omega), List.append_nil] at h2
          exact h2
        rw [e]
        simp only
        rw [eta25]
        exact h1
end Go.Proofs.YtcmlonloiamchaaDoor.CoPure
