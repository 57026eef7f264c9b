/- CodecPaths comes true for every tree and every two paths. -/
import Derived.Test.YtcmlonloiamchaaDoorCoPureFew
import Derived.Test.YtcmlonloiamchaaDoorCo46
namespace Go.Proofs.YtcmlonloiamchaaDoor.CoPure
open Go.RowKit Go.Proofs.YtcmlonloiamchaaDoorW.PrintWords Go.Proofs.YtcmlonloiamchaaDoorW.PrintLast Go.Proofs.YtcmlonloiamchaaDoorW.PrintMore Go.Proofs.YtcmlonloiamchaaDoor.Co Go.Proofs.YtcmlonloiamchaaDoor.CoHand
set_option linter.unusedVariables false
set_option linter.unusedSimpArgs false

theorem copied_loop (a : Bool) (t : ByteArray) (l : List S25) (hl : l.length ≤ 100000) (ih : ∀ x ∈ l, Ev (fun k => codec_copied.f k x.f0 x.f1 x.f2) (x.f0, x.f1, x.f2)) (d : Nat) :
    ∀ i : Nat, i + d = l.length → Ev (fun k => codec_copied.l0 k (l.take i) l (l.length : Int) (i : Int) a t l) (a, t, l) := by
  induction d with
  | zero =>
    intro i hi
    refine ev_succ ?_
    have h1 : ¬ ((i : Int) < (l.length : Int)) := by omega
    simp only [codec_copied.l0, if_neg h1]
    rw [List.take_of_length_le (by omega)]
    exact Ev.now _
  | succ d id =>
    intro i hi
    refine ev_succ ?_
    have h1 : (i : Int) < (l.length : Int) := by omega
    have h0 : (0 : Int) ≤ (i : Int) := by omega
    have hg : rd_T25 l (i : Int) = l[i] := by
      rw [rd25, List.getD_eq_getElem?_getD, List.getElem?_eq_getElem (by omega), Option.getD_some]
    have w1 : wrap64 ((i : Int) + 1) = ((i + 1 : Nat) : Int) := by rw [wrap64_of (by omega)]; omega
    have h2 : (l.take i).length < 2932031007402 := by rw [List.length_take]; omega
    simp only [codec_copied.l0, if_pos h1, if_pos h0, hg, w1, if_pos h2]
    refine Ev.bind (ih l[i] (List.getElem_mem (by omega))) ?_
    have e : l.take i ++ [(⟨(l[i].f0, l[i].f1, l[i].f2).1, (l[i].f0, l[i].f1, l[i].f2).2.1, (l[i].f0, l[i].f1, l[i].f2).2.2⟩ : S25)] = l.take (i + 1) := by
      rw [List.take_succ_eq_append_getElem (by omega)]
      simp only
      rw [eta25]
    simp only at e ⊢
    rw [e]
    exact id (i + 1) (by omega)
theorem copied_ok (N : Nat) : ∀ n, sz n ≤ N → N ≤ 100000 → Ev (fun k => codec_copied.f k n.f0 n.f1 n.f2) (n.f0, n.f1, n.f2) := by
  induction N with
  | zero => intro n h; have := sz_pos n; omega
  | succ N ih =>
    intro n h hN
    obtain ⟨a, t, l⟩ := n
    rw [sz_mk] at h
    have := szs_len l
    have h2 := copied_loop a t l (by omega) (fun x hx => ih x (by have := sz_mem hx; omega) (by omega)) l.length 0 (by omega)
    rw [List.take_zero] at h2
    refine ev_succ ?_
    simp only [codec_copied.f]
    exact h2

/-- Where a path leads. -/
def atD (n : S25) : List Int → Option S25
  | [] => some n
  | i :: p => if n.f0 = true ∧ 0 ≤ i ∧ i < (n.f2.length : Int) then atD (n.f2.getD i.toNat z25) p else none
theorem atD_nil (n : S25) : atD n [] = some n := by rw [atD]
theorem atD_app (p q : List Int) : ∀ n, atD n (p ++ q) = (atD n p).bind fun m => atD m q := by
  induction p with
  | nil => intro n; rw [List.nil_append, atD_nil]; rfl
  | cons i p ih =>
    intro n
    rw [List.cons_append, atD, atD]
    split
    · exact ih _
    · rfl
theorem atD_sz (p : List Int) : ∀ n m, atD n p = some m → sz m ≤ sz n := by
  induction p with
  | nil => intro n m h; rw [atD_nil] at h; obtain rfl := Option.some.inj h; exact Nat.le_refl _
  | cons i p ih =>
    intro n m h
    obtain ⟨a, t, l⟩ := n
    rw [atD] at h
    split at h
    · rename_i c
      simp only at c h
      have h1 := ih _ _ h
      have h2 := sz_mem (getD_mem l z25 i.toNat (by omega))
      rw [sz_mk]
      omega
    · simp at h
theorem infix_flatten (Es : List (List UInt8)) (i : Nat) (h : i < Es.length) : ∃ A B, Es.flatten = A ++ Es[i] ++ B := by
  refine ⟨(Es.take i).flatten, (Es.drop (i + 1)).flatten, ?_⟩
  have e : Es = Es.take i ++ [Es[i]] ++ Es.drop (i + 1) := by
    rw [← List.take_succ_eq_append_getElem h, List.take_append_drop]
  conv => lhs; rw [e]
  rw [List.flatten_append, List.flatten_append, List.flatten_cons, List.flatten_nil, List.append_nil]
theorem atD_enc (p : List Int) : ∀ n m lv E, atD n p = some m → Enc lv n E → ∃ lv' E' A B, lv ≤ lv' ∧ Enc lv' m E' ∧ E = A ++ E' ++ B := by
  induction p with
  | nil => intro n m lv E h k; rw [atD_nil] at h; obtain rfl := Option.some.inj h; exact ⟨lv, E, [], [], Int.le_refl _, k, by simp⟩
  | cons i p ih =>
    intro n m lv E h k
    rw [atD] at h
    split at h
    · rename_i c
      cases k with
      | text _ t h' => simp at c
      | list _ l Es h1 h2 hE hk =>
        simp only at c h
        have hi : i.toNat < l.length := by omega
        have hg : l.getD i.toNat z25 = l[i.toNat] := by rw [List.getD_eq_getElem?_getD, List.getElem?_eq_getElem hi, Option.getD_some]
        rw [hg] at h
        obtain ⟨lv', E', A, B, g1, g2, g3⟩ := ih _ _ _ _ h (hk i.toNat hi (by omega))
        obtain ⟨A', B', g4⟩ := infix_flatten Es i.toNat (by omega)
        refine ⟨lv', E', [40] ++ A' ++ A, B ++ B' ++ [41], by omega, g2, ?_⟩
        rw [g4, g3]
        simp
    · simp at h

def atOut : Option S25 → Bool × ByteArray × List S25 × Int
  | none => (false, ⟨#[]⟩, [], 6)
  | some m => (m.f0, m.f1, m.f2, 0)
theorem atOut_none : atOut none = (false, ⟨#[]⟩, [], 6) := rfl
theorem atOut_some (m : S25) : atOut (some m) = (m.f0, m.f1, m.f2, 0) := rfl
theorem at_loop (p : List Int) (hp : p.length ≤ 1000) (d : Nat) : ∀ (i : Nat) (n : S25), i + d = p.length → sz n ≤ 21000 →
    Ev (fun k => codec_At.l0 k p (p.length : Int) (i : Int) n.f0 n.f1 n.f2) (atOut (atD n (p.drop i))) := by
  induction d with
  | zero =>
    intro i n hi hn
    refine ev_succ ?_
    have h1 : ¬ ((i : Int) < (p.length : Int)) := by omega
    simp only [codec_At.l0, if_neg h1]
    refine Ev.bind (copied_ok 21000 n hn (by omega)) ?_
    rw [List.drop_eq_nil_of_le (by omega), atD_nil]
    exact Ev.now _
  | succ d id =>
    intro i n hi hn
    refine ev_succ ?_
    have h1 : (i : Int) < (p.length : Int) := by omega
    have h0 : (0 : Int) ≤ (i : Int) := by omega
    have hg : rd p (i : Int) = p[i] := by
      unfold rd
      rw [Int.toNat_natCast, List.getD_eq_getElem?_getD, List.getElem?_eq_getElem (by omega), Option.getD_some]
    have w1 : wrap64 ((i : Int) + 1) = ((i + 1 : Nat) : Int) := by rw [wrap64_of (by omega)]; omega
    rw [List.drop_eq_getElem_cons (by omega : i < p.length), atD]
    simp only [codec_At.l0, if_pos h1, if_pos h0, hg, w1]
    obtain ⟨a, t, l⟩ := n
    simp only
    by_cases c1 : a = true
    · simp only [if_pos c1]
      by_cases c2 : p[i] < 0
      · simp only [if_pos c2]
        rw [if_neg (by omega)]
        exact Ev.now _
      simp only [if_neg c2]
      by_cases c3 : p[i] ≥ (l.length : Int)
      · simp only [if_pos c3]
        rw [if_neg (by omega)]
        exact Ev.now _
      have c4 : 0 ≤ p[i] := by omega
      have c5 : p[i] < (l.length : Int) := by omega
      simp only [if_neg c3, if_pos c4, if_pos c5]
      rw [if_pos ⟨c1, c4, c5⟩]
      have hx := sz_mem (getD_mem l z25 p[i].toNat (by omega))
      rw [sz_mk] at hn
      have := id (i + 1) (l.getD p[i].toNat z25) (by omega) (by omega)
      exact this
    · simp only [if_neg c1]
      rw [if_neg (by simp [c1])]
      exact Ev.now _
theorem at_ok (p : List Int) (hp : p.length ≤ 1000) (n : S25) (hn : sz n ≤ 21000) : Ev (fun k => codec_At.f k n.f0 n.f1 n.f2 p) (atOut (atD n p)) := by
  have h := at_loop p hp p.length 0 n (by omega) hn
  rw [List.drop_zero] at h
  exact h

theorem occurs_ok (A E B : List UInt8) (hl : (A ++ E ++ B).length ≤ 100000) (d : Nat) : ∀ i : Nat, i + d = A.length → Ev (fun k => garmentlaw06_occurs.l0 k (By (A ++ E ++ B)) (By E) (i : Int)) true := by
  have hs : (By (A ++ E ++ B)).size = (A ++ E ++ B).length := by_size _
  have hE : (By E).size = E.length := by_size E
  have hlen : (A ++ E ++ B).length = A.length + E.length + B.length := by simp only [List.length_append]
  have hEl : (By E).toList = E := by rw [ByteArray.toList_eq]
  have step : ∀ i : Nat, i ≤ A.length → ∀ k, garmentlaw06_occurs.l0 (k + 1) (By (A ++ E ++ B)) (By E) (i : Int) = if ((A ++ E ++ B).drop i).take E.length = E then some true else garmentlaw06_occurs.l0 k (By (A ++ E ++ B)) (By E) ((i + 1 : Nat) : Int) := by
    intro i hi k
    have w0 : wrap64 ((i : Int) + ((By E).size : Int)) = ((i + E.length : Nat) : Int) := by rw [hE, wrap64_of (by omega)]; omega
    have w1 : wrap64 ((i : Int) + 1) = ((i + 1 : Nat) : Int) := by rw [wrap64_of (by omega)]; omega
    have h1 : ((i + E.length : Nat) : Int) ≤ ((By (A ++ E ++ B)).size : Int) := by rw [hs, hlen]; omega
    have h2 : (0 : Int) ≤ (i : Int) := by omega
    have h3 : (i : Int) ≤ ((i + E.length : Nat) : Int) := by omega
    have hc : ((By (A ++ E ++ B)).extract (i : Int).toNat (((i + E.length : Nat) : Int)).toNat).toList = ((A ++ E ++ B).drop i).take E.length := by
      rw [Int.toNat_natCast, Int.toNat_natCast, by_cut, ByteArray.toList_eq, show i + E.length - i = E.length by omega]
    simp only [garmentlaw06_occurs.l0, w0, w1, if_pos h1, if_pos h2, if_pos h3, hc, hEl]
  induction d with
  | zero =>
    intro i hi
    refine Ev.step (f := fun _ => some true) (fun k => ?_) (Ev.now _)
    rw [step i (by omega), if_pos]
    rw [show i = A.length by omega, List.append_assoc, List.drop_left, List.take_left]
  | succ d id =>
    intro i hi
    by_cases c : ((A ++ E ++ B).drop i).take E.length = E
    · refine Ev.step (f := fun _ => some true) (fun k => ?_) (Ev.now _)
      rw [step i (by omega), if_pos c]
    · refine Ev.step (fun k => ?_) (id (i + 1) (by omega))
      rw [step i (by omega), if_neg c]

theorem paths_pure (a : Bool) (t : ByteArray) (l : List S25) (p q : List Int) : ∃ k, garmentlaw06_CodecPaths.f k a t l p q = some true := by
  refine Ev.rounds (g := fun k => garmentlaw06_CodecPaths.f k a t l p q) ?_
  unfold garmentlaw06_CodecPaths.f
  have out : Ev (fun k => garmentlaw06_CodecPaths.j0 k p q true a t l) true := by
    refine ev_succ ?_
    simp only [garmentlaw06_CodecPaths.j0, if_true]
    exact example_ev
  have hsz := size_ok (sz ⟨a, t, l⟩) ⟨a, t, l⟩ 5000 (Nat.le_refl _) (by omega)
  simp only at hsz
  refine Ev.bind hsz ?_
  by_cases h : sz ⟨a, t, l⟩ ≤ 5000
  · have hn : ¬ (((min (sz ⟨a, t, l⟩) (5000 + 1) : Nat) : Int) > 5000) := by omega
    simp only [if_neg hn]
    by_cases hp : (p.length : Int) > 20
    · simp only [if_pos hp]; exact out
    simp only [if_neg hp]
    by_cases hq : (q.length : Int) > 20
    · rw [decide_eq_true hq]; exact out
    rw [decide_eq_false hq]
    refine ev_succ ?_
    have b1 : ([] : List Int).length + p.length < 17592186044416 := by simp; omega
    have b2 : ([] ++ p).length + q.length < 17592186044416 := by simp; omega
    simp only [garmentlaw06_CodecPaths.j0, Bool.false_eq_true, if_false, Option.bind_some, if_pos b1, if_pos b2]
    rw [List.nil_append]
    have e1 := at_ok (p ++ q) (by rw [List.length_append]; omega) ⟨a, t, l⟩ (by omega)
    have e2 := at_ok p (by omega) ⟨a, t, l⟩ (by omega)
    simp only at e1 e2
    refine Ev.bind e1 (Ev.bind e2 ?_)
    rw [atD_app]
    cases hb : atD ⟨a, t, l⟩ p with
    | none =>
      have z6 : ¬ ((6 : Int) = 0) := by decide
      simp only [Option.bind_none, atOut_none, if_neg z6, if_true]
      exact example_ev
    | some m =>
      have hm := atD_sz _ _ _ hb
      have e3 := at_ok q (by omega) m (by omega)
      simp only [Option.bind_some, atOut_some, if_true]
      refine Ev.bind e3 ?_
      have hS : Ev (fun k => garmentref06_Same.f k (atOut (atD m q)).1 (atOut (atD m q)).2.1 (atOut (atD m q)).2.2.1 (atOut (atD m q)).1 (atOut (atD m q)).2.1 (atOut (atD m q)).2.2.1) true := by
        refine same_refl (d := 21000) ?_
        cases hc : atD m q with
        | none => exact ⟨by simp [atOut], by simp [atOut]⟩
        | some c =>
          have := atD_sz _ _ _ hc
          simp only [atOut]
          rw [eta25]
          exact tb_of 21000 c (by omega) (by omega)
      have key : Ev (fun k => garmentlaw06_CodecPaths.j1 k (!true) a t l m.f0 m.f1 m.f2) true := by
        refine ev_succ ?_
        simp only [garmentlaw06_CodecPaths.j1, Bool.not_true, Bool.false_eq_true, if_false]
        rcases encode_cases ⟨a, t, l⟩ (by omega) with ⟨c, hc, e⟩ | ⟨E, hE, hl, e⟩
        · refine Ev.bind e ?_
          rcases encode_cases m (by omega) with ⟨c2, hc2, e4⟩ | ⟨F, hF, hl2, e4⟩
          · refine Ev.bind e4 ?_
            simp only [if_neg hc]
            exact example_ev
          · refine Ev.bind e4 ?_
            simp only [if_neg hc]
            exact example_ev
        · refine Ev.bind e ?_
          obtain ⟨lv', E', A, B, g1, g2, g3⟩ := atD_enc _ _ _ _ _ hb hE
          have hlE : E.length = A.length + E'.length + B.length := by rw [g3]; simp only [List.length_append]
          have e4 := encode_of (enc_up g2 1 g1) (by omega)
          refine Ev.bind e4 ?_
          simp only [if_true]
          subst g3
          have h00 : ((0 : Nat) : Int) = 0 := rfl
          have ho := occurs_ok A E' B (by omega) A.length 0 (by omega)
          rw [h00] at ho
          refine Ev.bind ho ?_
          simp only [if_true]
          exact example_ev
      simp only [if_true]
      exact Ev.bind hS key
  · have hn : ((min (sz ⟨a, t, l⟩) (5000 + 1) : Nat) : Int) > 5000 := by omega
    simp only [if_pos hn]
    exact out
end Go.Proofs.YtcmlonloiamchaaDoor.CoPure
