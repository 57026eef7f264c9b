/- Lots are the connected parts of the tones within the tolerance, numbered in the order of their first tones. -/
import Derived.Test.YtoekbmgcfinfmaaShBase
import Derived.Test.YtoekbmgcfinfmaaSh18
namespace Go.Proofs.Ytoekbmgcfinfmaa.ShBase
open Go.RowKit Go.Proofs.YtoekbmgcfinfmaaW.PrintWords Go.Proofs.YtoekbmgcfinfmaaW.PrintLast Go.Proofs.YtoekbmgcfinfmaaW.PrintMore Go.Proofs.Ytoekbmgcfinfmaa.Sh Go.Proofs.Ytoekbmgcfinfmaa.Graph
set_option linter.unusedVariables false
set_option linter.unusedSimpArgs false

theorem rdB_nat (xs : List Bool) (i : Nat) : rdOf false xs (i : Int) = xs.getD i false := rfl

section
variable (l : List S23) (t : Int) (lots : List Int)
/-- What has been reached after r rounds from the places that F holds of. -/
structure Rch (F : Nat → Prop) (r : Nat) (cur : List Bool) : Prop where
  len : cur.length = l.length
  got : ∀ f j, F f → Near l.length (Adj l t) f r j → cur.getD j false = true
structure RMid (F : Nat → Prop) (r i x : Nat) (cur : List Bool) : Prop where
  at_ : Rch l t F r cur
  before : ∀ a k f, a < i → k < l.length → F f → Near l.length (Adj l t) f r a → Adj l t a k → cur.getD k false = true
  here : ∀ k f, k < x → F f → Near l.length (Adj l t) f r i → Adj l t i k → cur.getD k false = true
end
theorem getD_set_true (xs : List Bool) (i j : Nat) (h : xs.getD j false = true) : (xs.set i true).getD j false = true := by
  rw [getD_set]; split
  · rfl
  · exact h
theorem rmid_set {l : List S23} {t : Int} {F : Nat → Prop} {r i x : Nat} {cur : List Bool} (h : RMid l t F r i x cur) (hx : x < l.length) : RMid l t F r i (x + 1) (cur.set x true) := by
  have hlen := h.at_.len
  refine ⟨⟨by simpa using hlen, fun f j hf hn => getD_set_true _ _ _ (h.at_.got f j hf hn)⟩, fun a k f ha hk hf hn hA => getD_set_true _ _ _ (h.before a k f ha hk hf hn hA), fun k f hk hf hn hA => ?_⟩
  by_cases e : k = x
  · subst e; rw [getD_set, if_pos ⟨rfl, by omega⟩]
  · exact getD_set_true _ _ _ (h.here k f (by omega) hf hn hA)
theorem rmid_skip {l : List S23} {t : Int} {F : Nat → Prop} {r i x : Nat} {cur : List Bool} (h : RMid l t F r i x cur) (hs : ∀ f, F f → Near l.length (Adj l t) f r i → ¬ Adj l t i x) : RMid l t F r i (x + 1) cur :=
  ⟨h.at_, h.before, fun k f hk hf hn hA => by
    by_cases e : k = x
    · subst e; exact absurd hA (hs f hf hn)
    · exact h.here k f (by omega) hf hn hA⟩
theorem rmid_row {l : List S23} {t : Int} {F : Nat → Prop} {r i : Nat} {cur : List Bool} (h : RMid l t F r i l.length cur) : RMid l t F r (i + 1) 0 cur :=
  ⟨h.at_, fun a k f ha hk hf hn hA => by
    by_cases e : a = i
    · subst e; exact h.here k f hk hf hn hA
    · exact h.before a k f (by omega) hk hf hn hA, fun k f hk => by omega⟩

theorem c_in (l : List S23) (t : Int) (lots : List Int) (hl : l.length ≤ 20) (hp : Parts l.length (Adj l t) lots) (F : Nat → Prop) (hF : ∀ f, F f → f < l.length) (r i : Nat) (hi : i < l.length) (n y : Int) (d : Nat) : ∀ (x : Nat) (cur : List Bool), x + d = l.length → RMid l t F r i x cur →
    (∀ c', RMid l t F r (i + 1) 0 c' → Ev (fun k => garmentlaw29_connected.l2 k l lots t c' (i + 1 : Nat) n y) true) → Ev (fun k => garmentlaw29_connected.l3 k l lots t cur i x n y) true := by
  induction d with
  | zero =>
    intro x cur hd h hk
    obtain rfl : x = l.length := by omega
    have e1 : ((i : Int) + 1) = ((i + 1 : Nat) : Int) := by omega
    refine ev_succ ?_
    simp (disch := omega) only [garmentlaw29_connected.l3, if_neg, wrap64_of, e1]
    exact hk cur (rmid_row h)
  | succ d ih =>
    intro x cur hd h hk
    have hlen := h.at_.len
    have hpl := hp.len
    have e1 : ((x : Int) + 1) = ((x + 1 : Nat) : Int) := by omega
    refine ev_succ ?_
    by_cases hr : cur.getD i false = true
    · by_cases he : lots.getD i 0 = lots.getD x 0
      · by_cases hA : D (l.getD i z23) (l.getD x z23) ≤ t
        · simp (disch := first | omega | assumption) only [garmentlaw29_connected.l3, if_pos, rd_nat, rdB_nat, rdT_nat, D_eq, Option.bind_some, wrap64_of, e1, Int.toNat_natCast]
          exact ih (x + 1) _ (by omega) (rmid_set h (by omega)) hk
        · simp (disch := first | omega | assumption) only [garmentlaw29_connected.l3, if_pos, if_neg, rd_nat, rdB_nat, rdT_nat, D_eq, Option.bind_some, wrap64_of, e1, Int.toNat_natCast]
          exact ih (x + 1) _ (by omega) (rmid_skip h (fun _ _ _ => hA)) hk
      · simp (disch := first | omega | assumption) only [garmentlaw29_connected.l3, if_pos, if_neg, rd_nat, rdB_nat, rdT_nat, D_eq, Option.bind_some, wrap64_of, e1, Int.toNat_natCast]
        exact ih (x + 1) _ (by omega) (rmid_skip h (fun _ _ _ hA => he ((hp.same i x hi (by omega)).2 (conn_one hi (by omega) hA)))) hk
    · simp (disch := first | omega | assumption) only [garmentlaw29_connected.l3, if_pos, if_neg, rd_nat, rdB_nat, rdT_nat, D_eq, Option.bind_some, wrap64_of, e1, Int.toNat_natCast]
      exact ih (x + 1) _ (by omega) (rmid_skip h (fun f hf hn => absurd (h.at_.got f i hf hn) hr)) hk
theorem c_round (l : List S23) (t : Int) (lots : List Int) (hl : l.length ≤ 20) (hp : Parts l.length (Adj l t) lots) (F : Nat → Prop) (hF : ∀ f, F f → f < l.length) (r : Nat) (n : Int) (y : Nat) (hy : y ≤ 100) (d : Nat) : ∀ (i : Nat) (cur : List Bool), i + d = l.length → RMid l t F r i 0 cur →
    (∀ c', Rch l t F (r + 1) c' → Ev (fun k => garmentlaw29_connected.l1 k l lots t c' n (y + 1 : Nat)) true) → Ev (fun k => garmentlaw29_connected.l2 k l lots t cur i n y) true := by
  induction d with
  | zero =>
    intro i cur hd h hk
    obtain rfl : i = l.length := by omega
    have e1 : ((y : Int) + 1) = ((y + 1 : Nat) : Int) := by omega
    refine ev_succ ?_
    simp (disch := omega) only [garmentlaw29_connected.l2, if_neg, wrap64_of, e1]
    refine hk cur ⟨h.at_.len, fun f j hf hn => ?_⟩
    obtain ⟨k, hnk, hj, e | e⟩ := hn
    · rw [e]; exact h.at_.got f k hf hnk
    · exact h.before k j f (near_lt hnk) hj hf hnk e
  | succ d ih =>
    intro i cur hd h hk
    refine ev_succ ?_
    simp (disch := omega) only [garmentlaw29_connected.l2, if_pos]
    exact c_in l t lots hl hp F hF r i (by omega) n y l.length 0 cur (by omega) h (fun c' h' => ih (i + 1) c' (by omega) h' hk)
theorem c_all (l : List S23) (hl : l.length ≤ 20) (cur : List Bool) (hlen : cur.length = l.length) (h : ∀ j, j < l.length → cur.getD j false = true) (d : Nat) : ∀ x : Nat, x + d = l.length → Ev (fun k => garmentlaw29_connected.l4 k l cur x) true := by
  induction d with
  | zero =>
    intro x hd
    refine ev_succ ?_
    simp (disch := omega) only [garmentlaw29_connected.l4, if_neg]
    exact Ev.now _
  | succ d ih =>
    intro x hd
    have e1 : ((x : Int) + 1) = ((x + 1 : Nat) : Int) := by omega
    have e2 := h x (by omega)
    refine ev_succ ?_
    simp (disch := first | omega | assumption) only [garmentlaw29_connected.l4, if_pos, rdB_nat, wrap64_of, e1]
    exact ih (x + 1) (by omega)
theorem c_rounds (l : List S23) (t : Int) (lots : List Int) (hl : l.length ≤ 20) (hp : Parts l.length (Adj l t) lots) (F : Nat → Prop) (hF : ∀ f, F f → f < l.length) (hall : ∀ j, j < l.length → ∃ f, F f ∧ lots.getD f 0 = lots.getD j 0) (d : Nat) : ∀ (r : Nat) (cur : List Bool), r + d = l.length → Rch l t F r cur →
    Ev (fun k => garmentlaw29_connected.l1 k l lots t cur l.length r) true := by
  induction d with
  | zero =>
    intro r cur hd h
    obtain rfl : r = l.length := by omega
    refine ev_succ ?_
    simp (disch := omega) only [garmentlaw29_connected.l1, if_neg]
    refine c_all l hl cur h.len (fun j hj => ?_) l.length 0 (by omega)
    obtain ⟨f, hf, e⟩ := hall j hj
    exact h.got f j hf (near_le (near_all ((hp.same f j (hF f hf) hj).1 e)) (by omega))
  | succ d ih =>
    intro r cur hd h
    refine ev_succ ?_
    simp (disch := omega) only [garmentlaw29_connected.l1, if_pos]
    exact c_round l t lots hl hp F hF r _ r (by omega) l.length 0 cur (by omega) ⟨h, fun a k f ha => by omega, fun k f hk => by omega⟩ (fun c' h' => ih (r + 1) c' (by omega) h')
/-- The first tones of the lots. -/
theorem c_first (l : List S23) (t : Int) (lots : List Int) (hl : l.length ≤ 20) (hp : Parts l.length (Adj l t) lots) (next : Int) (hnext : ∀ j, j < l.length → lots.getD j 0 < next) (d : Nat) : ∀ (x : Nat) (cur seen : List Bool), x + d = l.length → cur.length = l.length → (seen.length : Int) = next →
    (∀ c : Nat, seen.getD c false = true → ∃ j, j < x ∧ lots.getD j 0 = c) → (∀ j, j < x → ∃ f, f ≤ j ∧ cur.getD f false = true ∧ lots.getD f 0 = lots.getD j 0) →
    Ev (fun k => garmentlaw29_connected.l0 k l lots t cur seen x) true := by
  induction d with
  | zero =>
    intro x cur seen hd hc hs h1 h2
    obtain rfl : x = l.length := by omega
    refine ev_succ ?_
    simp (disch := omega) only [garmentlaw29_connected.l0, if_neg]
    refine c_rounds l t lots hl hp (fun f => f < l.length ∧ cur.getD f false = true) (fun f hf => hf.1) (fun j hj => ?_) l.length 0 cur (by omega) ⟨hc, fun f j hf hn => ?_⟩
    · obtain ⟨f, hf, g1, g2⟩ := h2 j hj
      exact ⟨f, ⟨by omega, g1⟩, g2⟩
    · rw [← hn.1]; exact hf.2
  | succ d ih =>
    intro x cur seen hd hc hs h1 h2
    have hpl := hp.len
    have e1 : ((x : Int) + 1) = ((x + 1 : Nat) : Int) := by omega
    have h0 := hp.nonneg x (by omega)
    have h3 := hnext x (by omega)
    obtain ⟨c, ec⟩ : ∃ c : Nat, lots.getD x 0 = c := ⟨(lots.getD x 0).toNat, by omega⟩
    refine ev_succ ?_
    simp (disch := omega) only [garmentlaw29_connected.l0, if_pos, rd_nat, ec, rdB_nat, wrap64_of, e1, Int.toNat_natCast]
    refine ih (x + 1) _ _ (by omega) (by simpa using hc) (by simpa using hs) (fun c' hc' => ?_) (fun j hj => ?_)
    · rw [getD_set] at hc'
      by_cases e : c = c'
      · exact ⟨x, by omega, by rw [ec, e]⟩
      · rw [if_neg (fun h => e h.1)] at hc'
        obtain ⟨j, hj, ej⟩ := h1 c' hc'
        exact ⟨j, by omega, ej⟩
    · have old : ∀ f, f < x → (cur.set x (!(seen.getD c false))).getD f false = cur.getD f false := fun f hf => by rw [getD_set, if_neg (by omega)]
      by_cases e : j = x
      · subst e
        cases hsn : seen.getD c false with
        | false => exact ⟨j, by omega, by rw [getD_set, if_pos ⟨rfl, by omega⟩]; rfl, rfl⟩
        | true =>
          obtain ⟨j', hj', ej'⟩ := h1 c hsn
          obtain ⟨f, hf, g1, g2⟩ := h2 j' hj'
          rw [hsn] at old
          exact ⟨f, by omega, by rw [old f (by omega)]; exact g1, by rw [g2, ej', ec]⟩
      · obtain ⟨f, hf, g1, g2⟩ := h2 j (by omega)
        exact ⟨f, by omega, by rw [old f (by omega)]; exact g1, g2⟩
theorem connected_ok (l : List S23) (t : Int) (lots : List Int) (hl : l.length ≤ 20) (hp : Parts l.length (Adj l t) lots) (next : Int) (h0 : 0 ≤ next ∧ next ≤ 20) (hnext : ∀ j, j < l.length → lots.getD j 0 < next) : Ev (fun k => garmentlaw29_connected.f k l lots t next) true := by
  simp (disch := omega) only [garmentlaw29_connected.f, if_pos, Int.toNat_natCast]
  exact c_first l t lots hl hp next hnext l.length 0 _ _ (by omega) (by simp) (by simp; omega) (fun c hc => by rw [List.getD_eq_getElem?_getD, List.getElem?_replicate] at hc; split at hc <;> simp at hc) (fun j hj => by omega)

theorem p_in (l : List S23) (t : Int) (lots : List Int) (hl : l.length ≤ 20) (hp : Parts l.length (Adj l t) lots) (next : Int) (i : Nat) (hi : i < l.length) (d : Nat) : ∀ x : Nat, x + d = i →
    Ev (fun k => garmentlaw29_ShadeParts.l0 k l t lots next (i + 1 : Nat)) true → Ev (fun k => garmentlaw29_ShadeParts.l1 k l t lots next i x) true := by
  induction d with
  | zero =>
    intro x hd hk
    have e1 : ((i : Int) + 1) = ((i + 1 : Nat) : Int) := by omega
    refine ev_succ ?_
    simp (disch := omega) only [garmentlaw29_ShadeParts.l1, if_neg, wrap64_of, e1]
    exact hk
  | succ d ih =>
    intro x hd hk
    have hpl := hp.len
    have e1 : ((x : Int) + 1) = ((x + 1 : Nat) : Int) := by omega
    refine ev_succ ?_
    by_cases e : lots.getD x 0 = lots.getD i 0
    · simp (disch := first | omega | assumption) only [garmentlaw29_ShadeParts.l1, if_pos, rd_nat, wrap64_of, e1]
      exact ih (x + 1) (by omega) hk
    · have hA : ¬ D (l.getD x z23) (l.getD i z23) ≤ t := fun hA => e ((hp.same x i (by omega) hi).2 (conn_one (by omega) hi hA))
      simp (disch := first | omega | assumption) only [garmentlaw29_ShadeParts.l1, if_pos, if_neg, rd_nat, rdT_nat, D_eq, Option.bind_some, wrap64_of, e1]
      exact ih (x + 1) (by omega) hk
theorem p_out (l : List S23) (t : Int) (lots : List Int) (hl : l.length ≤ 20) (hp : Parts l.length (Adj l t) lots) (d : Nat) : ∀ (x : Nat) (next : Int), x + d = l.length → 0 ≤ next → next ≤ x → (∀ j, j < x → lots.getD j 0 < next) →
    Ev (fun k => garmentlaw29_ShadeParts.l0 k l t lots next x) true := by
  induction d with
  | zero =>
    intro x next hd h0 h1 h2
    obtain rfl : x = l.length := by omega
    refine ev_succ ?_
    simp (disch := omega) only [garmentlaw29_ShadeParts.l0, if_neg]
    refine Ev.bind (connected_ok l t lots hl hp next (by omega) h2) ?_
    simp only [if_true]
    exact Ev.bind awake_ok (Ev.now _)
  | succ d ih =>
    intro x next hd h0 h1 h2
    have hpl := hp.len
    have g0 := hp.nonneg x (by omega)
    have g1 : lots.getD x 0 ≤ next := by
      rcases Int.lt_or_le next (lots.getD x 0) with h | h
      · obtain ⟨j, hj, ej⟩ := hp.first x (by omega) next h0 h
        have := h2 j hj
        omega
      · exact h
    have e2 : decide (rd lots x > next) = false := by rw [rd_nat]; simp only [decide_eq_false_iff_not]; omega
    have e3 : ¬ rd lots x < 0 := by rw [rd_nat]; omega
    refine ev_succ ?_
    simp (disch := omega) only [garmentlaw29_ShadeParts.l0, if_pos, if_neg e3, e2]
    refine ev_succ ?_
    by_cases e : lots.getD x 0 = next
    · simp (disch := first | omega | assumption) only [garmentlaw29_ShadeParts.j2, Bool.false_eq_true, if_false, if_pos, rd_nat, wrap64_of]
      refine ev_succ ?_
      simp only [garmentlaw29_ShadeParts.j3]
      refine p_in l t lots hl hp _ x (by omega) x 0 (by omega) (ih (x + 1) (next + 1) (by omega) (by omega) (by omega) (fun j hj => ?_))
      by_cases ej : j = x
      · subst ej; omega
      · have := h2 j (by omega); omega
    · simp (disch := first | omega | assumption) only [garmentlaw29_ShadeParts.j2, Bool.false_eq_true, if_false, if_pos, if_neg, rd_nat, wrap64_of]
      refine ev_succ ?_
      simp only [garmentlaw29_ShadeParts.j3]
      refine p_in l t lots hl hp _ x (by omega) x 0 (by omega) (ih (x + 1) next (by omega) (by omega) (by omega) (fun j hj => ?_))
      by_cases ej : j = x
      · subst ej; omega
      · exact h2 j (by omega)
theorem parts_pure (l : List S23) (_ : l.length ≤ maxLen) (_ : ∀ y ∈ l, (Lit.int .i64 y.f0).wf = true ∧ (Lit.int .i64 y.f1).wf = true ∧ (Lit.int .i64 y.f2).wf = true) (t : Int) (_ : (Lit.int .i64 t).wf = true) :
    ∃ k, garmentlaw29_ShadeParts.f k l t = some true := by
  refine Ev.rounds (g := fun k => garmentlaw29_ShadeParts.f k l t) ?_
  by_cases h1 : l.length ≤ 30
  · simp (disch := omega) only [garmentlaw29_ShadeParts.f, if_neg]
    by_cases h2 : l.length ≤ 20
    · by_cases h3 : 0 ≤ t
      · obtain ⟨a, ea, pa⟩ := lots_ok l t h2 h3
        have la := pa.len
        refine Ev.bind ea ?_
        have e : decide (t < 0) = false := by simp; omega
        simp (disch := omega) only [if_true, if_pos, if_neg, e]
        refine ev_succ ?_
        simp only [garmentlaw29_ShadeParts.j0, Bool.false_eq_true, if_false]
        exact p_out l t a h2 pa l.length 0 0 (by omega) (by omega) (by omega) (fun j hj => by omega)
      · refine Ev.bind (lots_neg l t h2 (by omega)) ?_
        simp (disch := first | omega | decide) only [if_pos, if_neg]
        exact Ev.bind awake_ok (Ev.now _)
    · refine Ev.bind (lots_long l t (by omega)) ?_
      simp (disch := first | omega | decide) only [if_pos, if_neg]
      exact Ev.bind awake_ok (Ev.now _)
  · simp (disch := omega) only [garmentlaw29_ShadeParts.f, if_pos]
    exact Ev.bind awake_ok (Ev.now _)
end Go.Proofs.Ytoekbmgcfinfmaa.ShBase
