/- The plain law of the codec: reading an encoding, writing what was read, sizes, equality of trees. No program is in sight. -/
import Derived.Test.YtcmlonloiamchaaDoorCoStub
import Derived.Test.YtcmlonloiamchaaDoorCoEx
import Derived.Test.YtcmlonloiamchaaDoorCo6
import Derived.Test.YtcmlonloiamchaaDoorCo39
namespace Go.Proofs.YtcmlonloiamchaaDoor.CoPure
open Go.RowKit Go.Proofs.YtcmlonloiamchaaDoorW.PrintWords Go.Proofs.YtcmlonloiamchaaDoorW.PrintLast Go.Proofs.YtcmlonloiamchaaDoorW.PrintMore Go.Proofs.YtcmlonloiamchaaDoor.Co Go.Proofs.YtcmlonloiamchaaDoor.CoHand
set_option linter.unusedVariables false
set_option linter.unusedSimpArgs false
theorem wrap64_of {x : Int} (h : -9223372036854775808 ≤ x ∧ x ≤ 9223372036854775807) : wrap64 x = x := by unfold wrap64; omega
theorem ev_succ {α : Type} {g : Nat → Option α} {r : α} (h : Ev (fun k => g (k + 1)) r) : Ev g r := Ev.step (fun _ => rfl) h

/-- A tree of this depth, whose nodes have at most 100,000 elements. -/
def Tb : Nat → S25 → Prop
  | 0, _ => False
  | d + 1, n => n.f2.length ≤ 100000 ∧ ∀ x ∈ n.f2, Tb d x
theorem Tb.mono : ∀ d n, Tb d n → Tb (d + 1) n
  | 0, _, h => h.elim
  | d + 1, n, h => ⟨h.1, fun x hx => Tb.mono d x (h.2 x hx)⟩
theorem Tb.le {d e : Nat} (h : d ≤ e) {n : S25} (hn : Tb d n) : Tb e n := by
  induction e with
  | zero => obtain rfl : d = 0 := by omega
            exact hn
  | succ e ih =>
    by_cases c : d = e + 1
    · subst c; exact hn
    · exact Tb.mono _ _ (ih (by omega))

theorem rd25 (xs : List S25) (i : Nat) : rd_T25 xs (i : Int) = xs.getD i z25 := rfl
theorem drop_cons (xs : List S25) (i : Nat) (h : i < xs.length) : xs.drop i = xs.getD i z25 :: xs.drop (i + 1) := by
  rw [List.drop_eq_getElem_cons h, List.getD_eq_getElem?_getD, List.getElem?_eq_getElem h, Option.getD_some]
theorem getD_mem {α : Type} (xs : List α) (d : α) (i : Nat) (h : i < xs.length) : xs.getD i d ∈ xs := by
  rw [List.getD_eq_getElem?_getD, List.getElem?_eq_getElem h]; exact List.getElem_mem h

theorem same_loop (a0 : Bool) (a1 : ByteArray) (la : List S25) (b0 : Bool) (b1 : ByteArray) (lb : List S25) (hl : la.length = lb.length) (hb : la.length ≤ 100000)
    (ih : ∀ x ∈ la, ∀ y : S25, ∃ r : Bool, Ev (fun k => garmentref06_Same.f k x.f0 x.f1 x.f2 y.f0 y.f1 y.f2) r ∧ (r = true ↔ x = y)) (m : Nat) :
    ∀ i : Nat, i + m = la.length → ∃ r : Bool, Ev (fun k => garmentref06_Same.l0 k (i : Int) a0 a1 la b0 b1 lb) r ∧ (r = true ↔ la.drop i = lb.drop i) := by
  induction m with
  | zero =>
    intro i hi
    refine ⟨true, ?_, ?_⟩
    · refine ev_succ ?_
      simp (disch := omega) only [garmentref06_Same.l0, if_neg]
      exact Ev.now _
    · rw [List.drop_eq_nil_of_le (by omega), List.drop_eq_nil_of_le (by omega)]
      simp
  | succ m im =>
    intro i hi
    obtain ⟨r1, e1, f1⟩ := ih (la.getD i z25) (getD_mem _ _ _ (by omega)) (lb.getD i z25)
    have w1 : wrap64 ((i : Int) + 1) = ((i + 1 : Nat) : Int) := by rw [wrap64_of (by omega)]; omega
    have key : ∀ r, Ev (fun k => if r1 = true then (garmentref06_Same.l0 k ((i + 1 : Nat) : Int) a0 a1 la b0 b1 lb) else (some false)) r → Ev (fun k => garmentref06_Same.l0 k (i : Int) a0 a1 la b0 b1 lb) r := by
      intro r hr
      refine ev_succ ?_
      simp (disch := omega) only [garmentref06_Same.l0, if_pos, rd25, w1]
      exact Ev.bind e1 hr
    cases r1 with
    | false =>
      refine ⟨false, key _ ?_, ?_⟩
      · simp (disch := decide) only [if_neg]
        exact Ev.now _
      · rw [drop_cons _ _ (by omega), drop_cons lb _ (by omega)]
        have : ¬ la.getD i z25 = lb.getD i z25 := fun e => by have := f1.2 e; simp at this
        constructor
        · intro h; simp at h
        · intro h; exact absurd (List.cons.inj h).1 this
    | true =>
      obtain ⟨r, e2, f2⟩ := im (i + 1) (by omega)
      refine ⟨r, key _ ?_, ?_⟩
      · simp only [if_true]
        exact e2
      · rw [drop_cons _ _ (by omega), drop_cons lb _ (by omega), f2]
        have := f1.1 rfl
        rw [this]
        constructor
        · intro h; rw [h]
        · intro h; exact (List.cons.inj h).2

theorem ba_ext {a b : ByteArray} (h : a.toList = b.toList) : a = b := by
  rw [ByteArray.toList_eq, ByteArray.toList_eq] at h
  cases a; cases b
  congr
  exact Array.toList_inj.1 h

theorem same_ok (d : Nat) : ∀ a b : S25, Tb d a → ∃ r : Bool, Ev (fun k => garmentref06_Same.f k a.f0 a.f1 a.f2 b.f0 b.f1 b.f2) r ∧ (r = true ↔ a = b) := by
  induction d with
  | zero => intro a b h; exact h.elim
  | succ d ih =>
    intro a b h
    obtain ⟨a0, a1, a2⟩ := a
    obtain ⟨b0, b1, b2⟩ := b
    obtain ⟨hl, hx⟩ := h
    simp only at hl hx ⊢
    have no : ∀ {p : Prop}, ¬ p → ∃ r : Bool, Ev (fun k => garmentref06_Same.j0 k true a0 a1 a2 b0 b1 b2) r ∧ (r = true ↔ p) := by
      intro p hp
      refine ⟨false, ?_, by simp [hp]⟩
      refine ev_succ ?_
      simp only [garmentref06_Same.j0, if_true]
      exact Ev.now _
    have up : ∀ {g : Nat → Option Bool} {p : Prop}, (∀ k, garmentref06_Same.f (k + 1) a0 a1 a2 b0 b1 b2 = g k) → (∃ r : Bool, Ev g r ∧ (r = true ↔ p)) → ∃ r : Bool, Ev (fun k => garmentref06_Same.f k a0 a1 a2 b0 b1 b2) r ∧ (r = true ↔ p) := by
      rintro g p hg ⟨r, h1, h2⟩
      exact ⟨r, Ev.step hg h1, h2⟩
    by_cases c0 : a0 = b0
    · subst c0
      by_cases c1 : a1.toList = b1.toList
      · have := ba_ext c1
        subst this
        by_cases c2 : a2.length = b2.length
        · refine up (g := fun k => garmentref06_Same.j0 k false a0 a1 a2 a0 a1 b2) (fun k => by simp only [garmentref06_Same.f]; simp [c2]) ?_
          obtain ⟨r, e, f⟩ := same_loop a0 a1 a2 a0 a1 b2 c2 hl (fun x hx' y => ih x y (hx x hx')) a2.length 0 (by omega)
          refine ⟨r, ?_, ?_⟩
          · refine ev_succ ?_
            simp (disch := decide) only [garmentref06_Same.j0, if_neg]
            exact e
          · rw [f]; simp
        · refine up (g := fun k => garmentref06_Same.j0 k true a0 a1 a2 a0 a1 b2) (fun k => by
            simp only [garmentref06_Same.f]
            have : ((a2.length : Int) != (b2.length : Int)) = true := by simp; omega
            simp [this]) (no (fun e => c2 (by simp at e; rw [e])))
      · refine up (g := fun k => garmentref06_Same.j0 k true a0 a1 a2 a0 b1 b2) (fun k => by
          simp only [garmentref06_Same.f]
          simp [c1]) (no (fun e => c1 (by simp at e; rw [e.1])))
    · refine up (g := fun k => garmentref06_Same.j0 k true a0 a1 a2 b0 b1 b2) (fun k => by
        simp only [garmentref06_Same.f]
        have : (a0 != b0) = true := by simpa using c0
        simp [this]) (no (fun e => c0 (by simp at e; exact e.1)))
theorem same_refl {d : Nat} {a0 : Bool} {a1 : ByteArray} {a2 : List S25} (h : Tb d ⟨a0, a1, a2⟩) : Ev (fun k => garmentref06_Same.f k a0 a1 a2 a0 a1 a2) true := by
  obtain ⟨r, e, f⟩ := same_ok d ⟨a0, a1, a2⟩ ⟨a0, a1, a2⟩ h
  have := f.2 rfl
  subst this
  exact e


/-- n is written as E on this level. -/
inductive Enc : Int → S25 → List UInt8 → Prop
  | text (lv : Int) (t : ByteArray) (h : lv ≤ 12) : Enc lv ⟨false, t, []⟩ (Lib.decDigits t.size ++ [58] ++ t.data.toList)
  | list (lv : Int) (l : List S25) (Es : List (List UInt8)) (h : lv ≤ 12) (hl : l.length ≤ 256) (hE : Es.length = l.length) (ih : ∀ i (h1 : i < l.length) (h2 : i < Es.length), Enc (lv + 1) l[i] Es[i]) : Enc lv ⟨true, ⟨#[]⟩, l⟩ ([40] ++ Es.flatten ++ [41])

theorem ba_empty {t : ByteArray} (h : t.size = 0) : t = ⟨#[]⟩ := by
  cases t with
  | mk d => congr; exact Array.eq_empty_of_size_eq_zero h

theorem enc_of (k : Nat) : (∀ lv n out o, encD k lv n out = some (.ok o) → ∃ E, o = out ++ E ∧ Enc lv n E) ∧
    (∀ lv l out o, encsD k lv l out = some (.ok o) → ∃ Es : List (List UInt8), o = out ++ Es.flatten ∧ Es.length = l.length ∧ ∀ i (h1 : i < l.length) (h2 : i < Es.length), Enc (lv + 1) l[i] Es[i]) := by
  induction k with
  | zero => exact ⟨fun _ _ _ _ h => by simp [encD] at h, fun _ _ _ _ h => by simp [encsD] at h⟩
  | succ k ih =>
    obtain ⟨h1, h2⟩ := ih
    refine ⟨fun lv n out o h => ?_, fun lv l out o h => ?_⟩
    · obtain ⟨n0, n1, n2⟩ := n
      unfold encD at h
      simp only at h
      split at h
      · simp at h
      split at h
      · simp at h
      rename_i c1
      split at h
      · simp at h
      rename_i c2
      cases n0 with
      | false =>
        rw [if_pos rfl] at h
        simp only [Option.some.injEq, Except.ok.injEq] at h
        have hn : n2 = [] := by
          cases n2 with
          | nil => rfl
          | cons x xs => exact absurd (.inr ⟨rfl, by simp⟩) c1
        subst hn
        exact ⟨_, by rw [← h]; simp only [List.append_assoc], Enc.text lv n1 (by omega)⟩
      | true =>
        rw [if_neg (by simp)] at h
        have ht : n1 = ⟨#[]⟩ := ba_empty (Decidable.byContradiction fun e => c1 (.inl ⟨rfl, e⟩))
        subst ht
        cases hT : encsD k lv n2 (out ++ [40]) with
        | none => rw [hT] at h; simp at h
        | some T =>
          rw [hT] at h
          cases T with
          | error c => simp at h
          | ok o2 =>
            simp only [Option.some.injEq, Except.ok.injEq] at h
            obtain ⟨Es, e1, e2, e3⟩ := h2 _ _ _ _ hT
            refine ⟨[40] ++ Es.flatten ++ [41], ?_, Enc.list lv n2 Es (by omega) (by omega) e2 e3⟩
            rw [← h, e1]
            simp only [List.append_assoc]
    · cases l with
      | nil =>
        unfold encsD at h
        split at h
        · simp at h
        · simp only [Option.some.injEq, Except.ok.injEq] at h
          exact ⟨[], by simp [h], rfl, fun i h1 => by simp at h1⟩
      | cons x xs =>
        unfold encsD at h
        cases hT : encD k (lv + 1) x out with
        | none => rw [hT] at h; simp at h
        | some T =>
          rw [hT] at h
          cases T with
          | error c => simp at h
          | ok o2 =>
            obtain ⟨E, e1, e2⟩ := h1 _ _ _ _ hT
            obtain ⟨Es, f1, f2, f3⟩ := h2 _ _ _ _ h
            refine ⟨E :: Es, ?_, by simp [f2], fun i g1 g2 => ?_⟩
            · rw [f1, e1]; simp
            · cases i with
              | zero => exact e2
              | succ i => exact f3 i (by simpa using g1) (by simpa using g2)

abbrev By (l : List UInt8) : ByteArray := ⟨l.toArray⟩
theorem by_size (l : List UInt8) : (By l).size = l.length := List.size_toArray ..
theorem by_cut (l : List UInt8) (a b : Nat) : (By l).extract a b = By ((l.drop a).take (b - a)) := by
  apply ByteArray.ext
  rw [ByteArray.data_extract]
  simp only [List.extract_toArray]

theorem dd_small {m : Nat} (h : m < 10) : Lib.decDigits m = [UInt8.ofNat (48 + m)] := by rw [Lib.decDigits, dif_pos h]
theorem dd_big {m : Nat} (h : 10 ≤ m) : Lib.decDigits m = Lib.decDigits (m / 10) ++ [UInt8.ofNat (48 + m % 10)] := by rw [Lib.decDigits, dif_neg (by omega)]
/-- Two lists, element by element. -/
inductive F2 {α β : Type} (R : α → β → Prop) : List α → List β → Prop
  | nil : F2 R [] []
  | cons {a : α} {b : β} {xs : List α} {ys : List β} (h : R a b) (t : F2 R xs ys) : F2 R (a :: xs) (b :: ys)
theorem F2.of {α β : Type} {R : α → β → Prop} : ∀ {xs : List α} {ys : List β}, ys.length = xs.length → (∀ i (h1 : i < xs.length) (h2 : i < ys.length), R xs[i] ys[i]) → F2 R xs ys
  | [], [], _, _ => .nil
  | [], b :: ys, h, _ => by simp at h
  | a :: xs, [], h, _ => by simp at h
  | a :: xs, b :: ys, h, k => .cons (k 0 (by simp) (by simp)) (F2.of (by simpa using h) (fun i h1 h2 => k (i + 1) (by simpa using h1) (by simpa using h2)))
theorem F2.len {α β : Type} {R : α → β → Prop} {xs : List α} {ys : List β} (h : F2 R xs ys) : ys.length = xs.length := by
  induction h with
  | nil => rfl
  | cons _ _ ih => simp [ih]
theorem F2.at {α β : Type} {R : α → β → Prop} {xs : List α} {ys : List β} (h : F2 R xs ys) : ∀ i (h1 : i < xs.length) (h2 : i < ys.length), R xs[i] ys[i] := by
  induction h with
  | nil => intro i h1; simp at h1
  | cons h t ih =>
    intro i h1 h2
    cases i with
    | zero => exact h
    | succ i => exact ih i (by simpa using h1) (by simpa using h2)
theorem F2.mono {α β : Type} {R S : α → β → Prop} {xs : List α} {ys : List β} (h : F2 R xs ys) (k : ∀ a b, a ∈ xs → R a b → S a b) : F2 S xs ys := by
  induction h with
  | nil => exact .nil
  | cons h t ih => exact .cons (k _ _ (by simp) h) (ih fun a b m r => k a b (List.mem_cons_of_mem _ m) r)
theorem F2.app {α β : Type} {R : α → β → Prop} {xs xs' : List α} {ys ys' : List β} (h : F2 R xs ys) (h' : F2 R xs' ys') : F2 R (xs ++ xs') (ys ++ ys') := by
  induction h with
  | nil => exact h'
  | cons h t ih => exact .cons h ih
theorem Enc.kids {lv : Int} {l : List S25} {Es : List (List UInt8)} (h : lv ≤ 12) (hl : l.length ≤ 256) (k : F2 (Enc (lv + 1)) l Es) : Enc lv ⟨true, ⟨#[]⟩, l⟩ ([40] ++ Es.flatten ++ [41]) :=
  .list lv l Es h hl k.len k.at
theorem enc_ind {P : Int → S25 → List UInt8 → Prop} (ht : ∀ (lv : Int) (t : ByteArray), lv ≤ 12 → P lv ⟨false, t, []⟩ (Lib.decDigits t.size ++ [58] ++ t.data.toList))
    (hl : ∀ (lv : Int) (l : List S25) (Es : List (List UInt8)), lv ≤ 12 → l.length ≤ 256 → F2 (Enc (lv + 1)) l Es → F2 (P (lv + 1)) l Es → P lv ⟨true, ⟨#[]⟩, l⟩ ([40] ++ Es.flatten ++ [41])) {lv : Int} {n : S25} {E : List UInt8} (h : Enc lv n E) : P lv n E := by
  induction h with
  | text lv t h => exact ht lv t h
  | list lv l Es h hk hE ih ih2 => exact hl lv l Es h hk (F2.of hE ih) (F2.of hE ih2)

theorem enc_up {lv : Int} {n : S25} {E : List UInt8} (h : Enc lv n E) : ∀ lv', lv' ≤ lv → Enc lv' n E := by
  refine enc_ind (P := fun lv n E => ∀ lv', lv' ≤ lv → Enc lv' n E) ?_ ?_ h
  · intro lv t h lv' h'; exact .text lv' t (by omega)
  · intro lv l Es h hl _ ih lv' h'
    exact .kids (by omega) hl (ih.mono fun a b _ r => r _ (by omega))
mutual
def sz : S25 → Nat
  | ⟨_, t, l⟩ => 1 + t.size + szs l
def szs : List S25 → Nat
  | [] => 0
  | x :: xs => sz x + szs xs
end
theorem sz_mk (a : Bool) (t : ByteArray) (l : List S25) : sz ⟨a, t, l⟩ = 1 + t.size + szs l := by rw [sz]
theorem szs_nil : szs [] = 0 := by rw [szs]
theorem szs_cons (x : S25) (xs : List S25) : szs (x :: xs) = sz x + szs xs := by rw [szs]
theorem sz_pos (n : S25) : 1 ≤ sz n := by obtain ⟨a, t, l⟩ := n; rw [sz_mk]; omega
theorem sz_mem {l : List S25} {x : S25} (h : x ∈ l) : sz x ≤ szs l := by
  induction l with
  | nil => simp at h
  | cons y ys ih =>
    rw [szs_cons]
    rcases List.mem_cons.1 h with rfl | h
    · omega
    · have := ih h; omega
theorem szs_len (l : List S25) : l.length ≤ szs l := by
  induction l with
  | nil => simp
  | cons y ys ih => rw [szs_cons, List.length_cons]; have := sz_pos y; omega
theorem tb_of (N : Nat) : ∀ n, sz n ≤ N → N ≤ 100000 → Tb N n := by
  induction N with
  | zero => intro n h; have := sz_pos n; omega
  | succ N ih =>
    intro n h hN
    obtain ⟨a, t, l⟩ := n
    rw [sz_mk] at h
    have := szs_len l
    exact ⟨by simp only; omega, fun x hx => ih x (by simp only at hx; have := sz_mem hx; omega) (by omega)⟩

theorem size_loop (a : Bool) (t : ByteArray) (l : List S25) (L : Nat) (hL : L ≤ 1000000)
    (ih : ∀ x ∈ l, ∀ M : Nat, M ≤ 1000000 → Ev (fun k => garmentref06_Size.f k x.f0 x.f1 x.f2 (M : Int)) ((min (sz x) (M + 1) : Nat) : Int)) (d : Nat) :
    ∀ i c : Nat, i + d = l.length → i < c → c ≤ L + 1 → Ev (fun k => garmentref06_Size.l0 k (L : Int) (c : Int) (i : Int) a t l) ((min (c + szs (l.drop i)) (L + 1) : Nat) : Int) := by
  induction d with
  | zero =>
    intro i c hi hc hcL
    refine ev_succ ?_
    simp (disch := omega) only [garmentref06_Size.l0, if_neg]
    rw [List.drop_eq_nil_of_le (by omega), szs_nil]
    rw [show min (c + 0) (L + 1) = c by omega]
    exact Ev.now _
  | succ d id =>
    intro i c hi hc hcL
    rw [drop_cons _ _ (by omega : i < l.length), szs_cons]
    by_cases h : c ≤ L
    · have hx := ih (l.getD i z25) (getD_mem _ _ _ (by omega)) (L - c) (by omega)
      have hp := sz_pos (l.getD i z25)
      have h2 := id (i + 1) (c + min (sz (l.getD i z25)) (L - c + 1)) (by omega) (by omega) (by omega)
      refine ev_succ ?_
      have w1 : wrap64 ((i : Int) + 1) = ((i + 1 : Nat) : Int) := by rw [wrap64_of (by omega)]; omega
      have w2 : wrap64 ((L : Int) - c) = ((L - c : Nat) : Int) := by rw [wrap64_of (by omega)]; omega
      have w3 : wrap64 ((c : Int) + ((min (sz (l.getD i z25)) (L - c + 1) : Nat) : Int)) = ((c + min (sz (l.getD i z25)) (L - c + 1) : Nat) : Int) := by rw [wrap64_of (by omega)]; omega
      simp (disch := omega) only [garmentref06_Size.l0, if_pos, rd25, w1, w2]
      refine Ev.bind hx ?_
      rw [w3, show min (c + (sz (l.getD i z25) + szs (l.drop (i + 1)))) (L + 1) = min (c + min (sz (l.getD i z25)) (L - c + 1) + szs (l.drop (i + 1))) (L + 1) by omega]
      exact h2
    · refine ev_succ ?_
      simp (disch := omega) only [garmentref06_Size.l0, if_pos, if_neg]
      rw [show min (c + (sz (l.getD i z25) + szs (l.drop (i + 1)))) (L + 1) = c by omega]
      exact Ev.now _
theorem size_ok (N : Nat) : ∀ (n : S25) (L : Nat), sz n ≤ N → L ≤ 1000000 → Ev (fun k => garmentref06_Size.f k n.f0 n.f1 n.f2 (L : Int)) ((min (sz n) (L + 1) : Nat) : Int) := by
  induction N with
  | zero => intro n L h; have := sz_pos n; omega
  | succ N ih =>
    intro n L h hL
    obtain ⟨a, t, l⟩ := n
    rw [sz_mk] at h
    simp only
    have h2 := size_loop a t l L hL (fun x hx M hM => ih x M (by have := sz_mem hx; omega) hM) l.length 0 (1 + min t.size L) (by omega) (by omega) (by omega)
    rw [List.drop_zero] at h2
    rw [sz_mk, show min (1 + t.size + szs l) (L + 1) = min (1 + min t.size L + szs l) (L + 1) by omega]
    refine ev_succ ?_
    have w1 : wrap64 (1 + (mn (t.size : Int) (L : Int))) = ((1 + min t.size L : Nat) : Int) := by
      unfold mn
      rw [wrap64_of (by split <;> omega)]
      split <;> omega
    simp only [garmentref06_Size.f, w1]
    exact h2
/-- Encode has an answer; what it writes grows by a bounded amount. -/
theorem dd_len (m : Nat) (h : m < 100000) : (Lib.decDigits m).length ≤ 5 := by
  by_cases h1 : m < 10
  · rw [dd_small h1]; simp
  rw [dd_big (by omega), List.length_append]
  by_cases h2 : m / 10 < 10
  · rw [dd_small h2]; simp
  rw [dd_big (by omega), List.length_append]
  by_cases h3 : m / 10 / 10 < 10
  · rw [dd_small h3]; simp
  rw [dd_big (by omega), List.length_append]
  by_cases h4 : m / 10 / 10 / 10 < 10
  · rw [dd_small h4]; simp
  rw [dd_big (by omega), List.length_append]
  rw [dd_small (by omega)]; simp
theorem enc_ev {k : Nat} {lv : Int} {n : S25} {o : List UInt8} {r : Except Int (List UInt8)} (h : encD k lv n o = some r) : Ev (fun k => encD k lv n o) r := Ev.of (fun k => (enc_mono k).1 lv n o) h
theorem encs_ev {k : Nat} {lv : Int} {l : List S25} {o : List UInt8} {r : Except Int (List UInt8)} (h : encsD k lv l o = some r) : Ev (fun k => encsD k lv l o) r := Ev.of (fun k => (enc_mono k).2 lv l o) h
theorem encs_total (lv : Int) (l : List S25) (hl : szs l ≤ 21000) (ih : ∀ x ∈ l, ∀ out : List UInt8, out.length + 8 * sz x ≤ 1000000 → ∃ r, Ev (fun k => encD k (lv + 1) x out) r ∧ ∀ o, r = .ok o → o.length ≤ out.length + 8 * sz x) :
    ∀ out : List UInt8, out.length + 8 * szs l ≤ 1000000 → ∃ r, Ev (fun k => encsD k lv l out) r ∧ ∀ o, r = .ok o → o.length ≤ out.length + 8 * szs l := by
  induction l with
  | nil =>
    intro out h
    refine ⟨.ok out, ev_succ ?_, fun o e => by cases e; omega⟩
    refine Ev.congr (f := fun _ => some (.ok out)) (fun k => ?_) (Ev.now _)
    rw [encsD, if_neg (by omega)]
  | cons x xs ih2 =>
    intro out h
    rw [szs_cons] at h hl
    obtain ⟨r1, e1, b1⟩ := ih x (by simp) out (by omega)
    have stepE : ∀ r, Ev (fun k => match (generalizing := false) r1 with
        | .error c => some (.error c)
        | .ok o => encsD k lv xs o) r → Ev (fun k => encsD k lv (x :: xs) out) r := by
      intro r hr
      refine Ev.step (f := fun k => (encD k (lv + 1) x out).bind fun
        | .error c => some (.error c)
        | .ok o => encsD k lv xs o) (fun k => ?_) (Ev.bind e1 hr)
      rw [encsD]
      cases encD k (lv + 1) x out with
      | none => rfl
      | some T => cases T <;> rfl
    cases r1 with
    | error c => exact ⟨.error c, stepE _ (Ev.now _), fun o e => by cases e⟩
    | ok o =>
      have ho := b1 o rfl
      obtain ⟨r2, e2, b2⟩ := ih2 (by omega) (fun y hy => ih y (List.mem_cons_of_mem _ hy)) o (by omega)
      exact ⟨r2, stepE _ e2, fun o' e' => by have := b2 o' e'; rw [szs_cons]; omega⟩
theorem enc_total (N : Nat) : ∀ (n : S25) (lv : Int) (out : List UInt8), sz n ≤ N → N ≤ 21000 → out.length + 8 * sz n ≤ 1000000 → ∃ r, Ev (fun k => encD k lv n out) r ∧ ∀ o, r = .ok o → o.length ≤ out.length + 8 * sz n := by
  induction N with
  | zero => intro n lv out h; have := sz_pos n; omega
  | succ N ih =>
    intro n lv out h hN ho
    obtain ⟨a, t, l⟩ := n
    have hsz := sz_mk a t l
    rw [hsz] at h ho
    have stepE : ∀ (r : Except Int (List UInt8)), (∀ k, encD (k + 1) lv ⟨a, t, l⟩ out = some r) → Ev (fun k => encD k lv ⟨a, t, l⟩ out) r := fun r hr => Ev.step (f := fun _ => some r) hr (Ev.now _)
    have c0 : ¬ (1000000000 < out.length ∨ 1000000000 < t.size) := by omega
    by_cases c1 : (a = true ∧ ¬ t.size = 0) ∨ (a = false ∧ 0 < l.length)
    · exact ⟨.error 1, stepE _ fun k => by rw [encD, if_neg c0, if_pos c1], fun o e => by cases e⟩
    by_cases c2 : 12 < lv ∨ 256 < l.length
    · exact ⟨.error 5, stepE _ fun k => by rw [encD, if_neg c0, if_neg c1, if_pos c2], fun o e => by cases e⟩
    cases a with
    | false =>
      refine ⟨_, stepE (.ok (out ++ Lib.decDigits t.size ++ [58] ++ t.data.toList)) fun k => by rw [encD, if_neg c0, if_neg c1, if_neg c2, if_pos rfl], fun o e => ?_⟩
      cases e
      have := dd_len t.size (by omega)
      have ht : t.data.toList.length = t.size := Array.length_toList
      rw [hsz]
      simp only [List.length_append, List.length_cons, List.length_nil]
      omega
    | true =>
      obtain ⟨r, e, b⟩ := encs_total lv l (by omega) (fun x hx out' ho' => ih x (lv + 1) out' (by have := sz_mem hx; omega) (by omega) ho') (out ++ [40]) (by simp; omega)
      have stepK : ∀ r', Ev (fun k => match (generalizing := false) r with
          | .error c => some (.error c)
          | .ok o => some (.ok (o ++ [41]))) r' → Ev (fun k => encD k lv ⟨true, t, l⟩ out) r' := by
        intro r' hr
        refine Ev.step (f := fun k => (encsD k lv l (out ++ [40])).bind fun
          | .error c => some (.error c)
          | .ok o => some (.ok (o ++ [41]))) (fun k => ?_) (Ev.bind e hr)
        rw [encD, if_neg c0, if_neg c1, if_neg c2, if_neg (by simp)]
        simp only
        cases encsD k lv l (out ++ [40]) with
        | none => rfl
        | some T => cases T <;> rfl
      cases r with
      | error c => exact ⟨.error c, stepK _ (Ev.now _), fun o e => by cases e⟩
      | ok o =>
        refine ⟨.ok (o ++ [41]), stepK _ (Ev.now _), fun o' e' => ?_⟩
        cases e'
        have := b o rfl
        rw [hsz]
        simp only [List.length_append, List.length_cons, List.length_nil] at this ⊢
        omega

/-- What has an encoding that is no longer than a text may be is written so. -/
def Writes (lv : Int) (n : S25) (E : List UInt8) : Prop := E.length ≤ 20000 → ∀ out : List UInt8, out.length + E.length ≤ 1000000 → Ev (fun k => encD k lv n out) (.ok (out ++ E))
theorem kids_write (lv : Int) {l : List S25} {Es : List (List UInt8)} (h : F2 (Writes (lv + 1)) l Es) : Es.flatten.length ≤ 20000 → ∀ out : List UInt8, out.length + Es.flatten.length ≤ 1000000 → Ev (fun k => encsD k lv l out) (.ok (out ++ Es.flatten)) := by
  induction h with
  | nil =>
    intro _ out h
    refine ev_succ ?_
    refine Ev.congr (f := fun _ => some (.ok (out ++ []))) (fun k => ?_) (Ev.now _)
    rw [encsD, if_neg (by omega), List.append_nil]
  | @cons x E xs Fs h t ih =>
    intro hl out ho
    rw [List.flatten_cons, List.length_append] at hl ho
    have e1 := h (by omega) out (by omega)
    have e2 := ih (by omega) (out ++ E) (by rw [List.length_append]; omega)
    rw [List.flatten_cons, ← List.append_assoc]
    refine Ev.step (f := fun k => (encD k (lv + 1) x out).bind fun
        | .error c => some (.error c)
        | .ok o => encsD k lv xs o) (fun k => ?_) (Ev.bind e1 e2)
    rw [encsD]
    cases encD k (lv + 1) x out with
    | none => rfl
    | some T => cases T <;> rfl
theorem enc_write {lv : Int} {n : S25} {E : List UInt8} (h : Enc lv n E) : Writes lv n E := by
  refine enc_ind (P := Writes) ?_ ?_ h
  · intro lv t hlv hl out ho
    have ht : t.data.toList.length = t.size := Array.length_toList
    have hts : t.size ≤ 20000 := by simp only [List.length_append] at hl; omega
    refine Ev.step (f := fun _ => some (.ok (out ++ (Lib.decDigits t.size ++ [58] ++ t.data.toList)))) (fun k => ?_) (Ev.now _)
    rw [encD, if_neg (by simp only; omega), if_neg (by simp), if_neg (by simp; omega), if_pos rfl]
    simp only [List.append_assoc]
  · intro lv l Es hlv hl hE hW hlen out ho
    simp only [List.length_append, List.length_cons, List.length_nil] at hlen ho
    have e := kids_write lv hW (by omega) (out ++ [40]) (by simp only [List.length_append, List.length_cons, List.length_nil]; omega)
    refine Ev.step (f := fun k => (encsD k lv l (out ++ [40])).bind fun
          | .error c => some (.error c)
          | .ok o => some (.ok (o ++ [41]))) (fun k => ?_) (Ev.bind e ?_)
    · rw [encD, if_neg (by simp only; have : (⟨#[]⟩ : ByteArray).size = 0 := rfl
                           omega), if_neg (by simp; rfl), if_neg (by simp only; omega), if_neg (by simp)]
      simp only
      cases encsD k lv l (out ++ [40]) with
      | none => rfl
      | some T => cases T <;> rfl
    · simp only [List.append_assoc]
      exact Ev.now _

theorem example_ev : Ev (fun k => (garmentlaw06_exampleHolds.f k).bind fun t => (some t)) true := Ev.now _
theorem enc_err (k : Nat) : (∀ lv n out c, encD k lv n out = some (.error c) → c = 1 ∨ c = 5) ∧ (∀ lv l out c, encsD k lv l out = some (.error c) → c = 1 ∨ c = 5) := by
  induction k with
  | zero => exact ⟨fun _ _ _ _ h => by simp [encD] at h, fun _ _ _ _ h => by simp [encsD] at h⟩
  | succ k ih =>
    obtain ⟨h1, h2⟩ := ih
    refine ⟨fun lv n out c h => ?_, fun lv l out c h => ?_⟩
    · unfold encD at h
      split at h
      · simp at h
      split at h
      · simp at h; omega
      split at h
      · simp at h; omega
      split at h
      · simp at h
      cases hT : encsD k lv n.f2 (out ++ [40]) with
      | none => rw [hT] at h; simp at h
      | some T =>
        rw [hT] at h
        cases T with
        | error c' => simp at h; subst h; exact h2 _ _ _ _ hT
        | ok o => simp at h
    · cases l with
      | nil =>
        unfold encsD at h
        split at h <;> simp at h
      | cons x xs =>
        unfold encsD at h
        cases hT : encD k (lv + 1) x out with
        | none => rw [hT] at h; simp at h
        | some T =>
          rw [hT] at h
          cases T with
          | error c' => simp at h; subst h; exact h1 _ _ _ _ hT
          | ok o => exact h2 _ _ _ _ h

theorem eta25 (n : S25) : (⟨n.f0, n.f1, n.f2⟩ : S25) = n := by cases n; rfl
theorem encode_of {n : S25} {E : List UInt8} (h : Enc 1 n E) (hl : E.length ≤ 20000) : Ev (fun k => codec_Encode.f k n.f0 n.f1 n.f2) (By E, 0) := by
  have e := enc_write h hl [] (by simp; omega)
  rw [List.nil_append] at e
  obtain ⟨K, e⟩ := e
  refine ⟨K, fun k hk => ?_⟩
  have this : encD k 1 ⟨n.f0, n.f1, n.f2⟩ [] = some (.ok E) := by rw [eta25]; exact e k hk
  show encodeD k n.f0 n.f1 n.f2 = _
  unfold encodeD
  rw [this]
  simp only
  rw [if_neg (by omega)]
/-- Encode's answer: an error, or the encoding. -/
theorem encode_cases (n : S25) (h : sz n ≤ 21000) : (∃ c : Int, c ≠ 0 ∧ Ev (fun k => codec_Encode.f k n.f0 n.f1 n.f2) (⟨#[]⟩, c)) ∨ (∃ E, Enc 1 n E ∧ E.length ≤ 20000 ∧ Ev (fun k => codec_Encode.f k n.f0 n.f1 n.f2) (By E, 0)) := by
  obtain ⟨r, e, b⟩ := enc_total 21000 n 1 [] h (Nat.le_refl _) (by simp; omega)
  obtain ⟨K, e⟩ := e
  replace e : ∀ k, K ≤ k → encD k 1 ⟨n.f0, n.f1, n.f2⟩ [] = some r := by rw [eta25]; exact e
  cases r with
  | error c =>
    have hc := (enc_err K).1 _ _ _ _ (e K (Nat.le_refl _))
    refine .inl ⟨c, by omega, K, fun k hk => ?_⟩
    show encodeD k n.f0 n.f1 n.f2 = _
    unfold encodeD
    rw [e k hk]
  | ok o =>
    obtain ⟨E, hE2, hE⟩ := (enc_of K).1 _ _ _ _ (e K (Nat.le_refl _))
    rw [List.nil_append] at hE2
    subst hE2
    rw [eta25] at hE
    by_cases hl : o.length ≤ 20000
    · exact .inr ⟨o, hE, hl, encode_of hE hl⟩
    · refine .inl ⟨5, by omega, K, fun k hk => ?_⟩
      show encodeD k n.f0 n.f1 n.f2 = _
      unfold encodeD
      rw [e k hk]
      simp only
      rw [if_pos (by omega)]
end Go.Proofs.YtcmlonloiamchaaDoor.CoPure
