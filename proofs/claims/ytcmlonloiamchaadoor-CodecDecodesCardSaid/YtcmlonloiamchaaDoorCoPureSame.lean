/- The reference's Same tells whether two trees are equal; CodecDecodes comes true. -/
import Derived.Test.YtcmlonloiamchaaDoorCoPureRef
import Derived.Test.YtcmlonloiamchaaDoorCo6
namespace Go.Proofs.YtcmlonloiamchaaDoor.CoPure
open Go.RowKit Go.Proofs.YtcmlonloiamchaaDoorW.PrintWords Go.Proofs.YtcmlonloiamchaaDoorW.PrintLast Go.Proofs.YtcmlonloiamchaaDoorW.PrintMore Go.Proofs.YtcmlonloiamchaaDoor.Co Go.Proofs.YtcmlonloiamchaaDoor.CoHand
set_option linter.unusedVariables false
set_option linter.unusedSimpArgs false

/-- A tree of this depth, whose nodes have at most 100,000 elements. -/
def Tb : Nat → S25 → Prop
  | 0, _ => False
  | d + 1, n => n.f2.length ≤ 100000 ∧ ∀ x ∈ n.f2, Tb d x
theorem Tb.mono : ∀ d n, Tb d n → Tb (d + 1) n
  | 0, _, h => h.elim
  | d + 1, n, h => ⟨h.1, fun x hx => Tb.mono d x (h.2 x hx)⟩
theorem Tb.le {d e : Nat} (h : d ≤ e) {n : S25} (hn : Tb d n) : Tb e n := by
  induction e with
  | zero => obtain rfl : d = 0 := by omega
            exact hn
  | succ e ih =>
    by_cases c : d = e + 1
    · subst c; exact hn
    · exact Tb.mono _ _ (ih (by omega))

theorem rd25 (xs : List S25) (i : Nat) : rd_T25 xs (i : Int) = xs.getD i z25 := rfl
theorem drop_cons (xs : List S25) (i : Nat) (h : i < xs.length) : xs.drop i = xs.getD i z25 :: xs.drop (i + 1) := by
  rw [List.drop_eq_getElem_cons h, List.getD_eq_getElem?_getD, List.getElem?_eq_getElem h, Option.getD_some]
theorem getD_mem {α : Type} (xs : List α) (d : α) (i : Nat) (h : i < xs.length) : xs.getD i d ∈ xs := by
  rw [List.getD_eq_getElem?_getD, List.getElem?_eq_getElem h]; exact List.getElem_mem h

theorem same_loop (a0 : Bool) (a1 : ByteArray) (la : List S25) (b0 : Bool) (b1 : ByteArray) (lb : List S25) (hl : la.length = lb.length) (hb : la.length ≤ 100000)
    (ih : ∀ x ∈ la, ∀ y : S25, ∃ r : Bool, Ev (fun k => garmentref06_Same.f k x.f0 x.f1 x.f2 y.f0 y.f1 y.f2) r ∧ (r = true ↔ x = y)) (m : Nat) :
    ∀ i : Nat, i + m = la.length → ∃ r : Bool, Ev (fun k => garmentref06_Same.l0 k (i : Int) a0 a1 la b0 b1 lb) r ∧ (r = true ↔ la.drop i = lb.drop i) := by
  induction m with
  | zero =>
    intro i hi
    refine ⟨true, ?_, ?_⟩
    · refine ev_succ ?_
      simp (disch := omega) only [garmentref06_Same.l0, if_neg]
      exact Ev.now _
    · rw [List.drop_eq_nil_of_le (by omega), List.drop_eq_nil_of_le (by omega)]
      simp
  | succ m im =>
    intro i hi
    obtain ⟨r1, e1, f1⟩ := ih (la.getD i z25) (getD_mem _ _ _ (by omega)) (lb.getD i z25)
    have w1 : wrap64 ((i : Int) + 1) = ((i + 1 : Nat) : Int) := by rw [wrap64_of (by omega)]; omega
    have key : ∀ r, Ev (fun k => if r1 = true then (garmentref06_Same.l0 k ((i + 1 : Nat) : Int) a0 a1 la b0 b1 lb) else (some false)) r → Ev (fun k => garmentref06_Same.l0 k (i : Int) a0 a1 la b0 b1 lb) r := by
      intro r hr
      refine ev_succ ?_
      simp (disch := omega) only [garmentref06_Same.l0, if_pos, rd25, w1]
      exact Ev.bind e1 hr
    cases r1 with
    | false =>
      refine ⟨false, key _ ?_, ?_⟩
      · simp (disch := decide) only [if_neg]
        exact Ev.now _
      · rw [drop_cons _ _ (by omega), drop_cons lb _ (by omega)]
        have : ¬ la.getD i z25 = lb.getD i z25 := fun e => by have := f1.2 e; simp at this
        constructor
        · intro h; simp at h
        · intro h; exact absurd (List.cons.inj h).1 this
    | true =>
      obtain ⟨r, e2, f2⟩ := im (i + 1) (by omega)
      refine ⟨r, key _ ?_, ?_⟩
      · simp only [if_true]
        exact e2
      · rw [drop_cons _ _ (by omega), drop_cons lb _ (by omega), f2]
        have := f1.1 rfl
        rw [this]
        constructor
        · intro h; rw [h]
        · intro h; exact (List.cons.inj h).2

theorem ba_ext {a b : ByteArray} (h : a.toList = b.toList) : a = b := by
  rw [ByteArray.toList_eq, ByteArray.toList_eq] at h
  cases a; cases b
  congr
  exact Array.toList_inj.1 h

theorem same_ok (d : Nat) : ∀ a b : S25, Tb d a → ∃ r : Bool, Ev (fun k => garmentref06_Same.f k a.f0 a.f1 a.f2 b.f0 b.f1 b.f2) r ∧ (r = true ↔ a = b) := by
  induction d with
  | zero => intro a b h; exact h.elim
  | succ d ih =>
    intro a b h
    obtain ⟨a0, a1, a2⟩ := a
    obtain ⟨b0, b1, b2⟩ := b
    obtain ⟨hl, hx⟩ := h
    simp only at hl hx ⊢
    have no : ∀ {p : Prop}, ¬ p → ∃ r : Bool, Ev (fun k => garmentref06_Same.j0 k true a0 a1 a2 b0 b1 b2) r ∧ (r = true ↔ p) := by
      intro p hp
      refine ⟨false, ?_, by simp [hp]⟩
      refine ev_succ ?_
      simp only [garmentref06_Same.j0, if_true]
      exact Ev.now _
    have up : ∀ {g : Nat → Option Bool} {p : Prop}, (∀ k, garmentref06_Same.f (k + 1) a0 a1 a2 b0 b1 b2 = g k) → (∃ r : Bool, Ev g r ∧ (r = true ↔ p)) → ∃ r : Bool, Ev (fun k => garmentref06_Same.f k a0 a1 a2 b0 b1 b2) r ∧ (r = true ↔ p) := by
      rintro g p hg ⟨r, h1, h2⟩
      exact ⟨r, Ev.step hg h1, h2⟩
    by_cases c0 : a0 = b0
    · subst c0
      by_cases c1 : a1.toList = b1.toList
      · have := ba_ext c1
        subst this
        by_cases c2 : a2.length = b2.length
        · refine up (g := fun k => garmentref06_Same.j0 k false a0 a1 a2 a0 a1 b2) (fun k => by simp only [garmentref06_Same.f]; simp [c2]) ?_
          obtain ⟨r, e, f⟩ := same_loop a0 a1 a2 a0 a1 b2 c2 hl (fun x hx' y => ih x y (hx x hx')) a2.length 0 (by omega)
          refine ⟨r, ?_, ?_⟩
          · refine ev_succ ?_
            simp (disch := decide) only [garmentref06_Same.j0, if_neg]
            exact e
          · rw [f]; simp
        · refine up (g := fun k => garmentref06_Same.j0 k true a0 a1 a2 a0 a1 b2) (fun k => by
            simp only [garmentref06_Same.f]
            have : ((a2.length : Int) != (b2.length : Int)) = true := by simp; omega
            simp [this]) (no (fun e => c2 (by simp at e; rw [e])))
      · refine up (g := fun k => garmentref06_Same.j0 k true a0 a1 a2 a0 b1 b2) (fun k => by
          simp only [garmentref06_Same.f]
          simp [c1]) (no (fun e => c1 (by simp at e; rw [e.1])))
    · refine up (g := fun k => garmentref06_Same.j0 k true a0 a1 a2 b0 b1 b2) (fun k => by
        simp only [garmentref06_Same.f]
        have : (a0 != b0) = true := by simpa using c0
        simp [this]) (no (fun e => c0 (by simp at e; exact e.1)))
end Go.Proofs.YtcmlonloiamchaaDoor.CoPure
