/- What the reference's functions of layer 29 come to: the same distances, worst distances and lots. -/
import Derived.Test.YtoekbmgcfinfmaaShBase
import Derived.Test.YtoekbmgcfinfmaaSh12
import Derived.Test.YtoekbmgcfinfmaaSh13
import Derived.Test.YtoekbmgcfinfmaaSh15
namespace Go.Proofs.Ytoekbmgcfinfmaa.ShBase
open Go.RowKit Go.Proofs.YtoekbmgcfinfmaaW.PrintWords Go.Proofs.YtoekbmgcfinfmaaW.PrintLast Go.Proofs.YtoekbmgcfinfmaaW.PrintMore Go.Proofs.Ytoekbmgcfinfmaa.Sh Go.Proofs.Ytoekbmgcfinfmaa.Graph
set_option linter.unusedVariables false
set_option linter.unusedSimpArgs false

theorem rlim_eq (a : Int) : garmentref29_limited.f a = some (lim a) := by
  unfold garmentref29_limited.f lim mn mx
  split <;> split <;> (try split) <;> first | rfl | omega | (simp; omega) | skip
theorem rap_eq (a b : Int) : garmentref29_apart.f a b = some (ap a b) := by
  unfold garmentref29_apart.f ap
  simp only [rlim_eq, Option.bind_some]
  have := lim_rng a
  have := lim_rng b
  simp only [mx]
  rw [wrap64_of (x := lim a - lim b) (by omega), wrap64_of (x := lim b - lim a) (by omega)]
  congr 1
  split <;> split <;> omega
theorem rD_eq (a b : S23) : garmentref29_Distance.f a.f0 a.f1 a.f2 b.f0 b.f1 b.f2 = some (D a b) := by
  unfold garmentref29_Distance.f D
  rw [rap_eq, rap_eq, rap_eq]
  rfl

theorem rworst_in (l : List S23) (lots : List Int) (hl : l.length ≤ 100) (hn : lots.length = l.length) (i : Nat) (hi : i < l.length) (r : Int × Int) (d : Nat) : ∀ (x : Nat) (m : Int), x + d = i →
    Ev (fun k => garmentref29_Worst.l0 k l lots (wI l lots i d x m) (wrap64 (i + 1))) r → Ev (fun k => garmentref29_Worst.l1 k l lots m i x) r := by
  induction d with
  | zero =>
    intro x m hd h
    refine ev_succ ?_
    simp (disch := omega) only [garmentref29_Worst.l1, if_neg]
    exact h
  | succ d ih =>
    intro x m hd h
    have e1 : ((x : Int) + 1) = ((x + 1 : Nat) : Int) := by omega
    refine ev_succ ?_
    by_cases he : lots.getD i 0 = lots.getD x 0
    · simp (disch := first | omega | assumption) only [garmentref29_Worst.l1, if_pos, rd_nat, rdT_nat, rD_eq, Option.bind_some, wrap64_of, e1]
      refine ih (x + 1) _ (by omega) ?_
      unfold wI at h
      rw [if_pos he] at h
      exact h
    · simp (disch := first | omega | assumption) only [garmentref29_Worst.l1, if_pos, if_neg, rd_nat, rdT_nat, rD_eq, Option.bind_some, wrap64_of, e1]
      refine ih (x + 1) _ (by omega) ?_
      unfold wI at h
      rw [if_neg he] at h
      exact h
theorem rworst_out (l : List S23) (lots : List Int) (hl : l.length ≤ 100) (hn : lots.length = l.length) (d : Nat) : ∀ (i : Nat) (m : Int), i + d = l.length →
    Ev (fun k => garmentref29_Worst.l0 k l lots m i) (wO l lots d i m, 0) := by
  induction d with
  | zero =>
    intro i m hd
    refine ev_succ ?_
    simp (disch := omega) only [garmentref29_Worst.l0, if_neg]
    exact Ev.now _
  | succ d ih =>
    intro i m hd
    have e1 : ((i : Int) + 1) = ((i + 1 : Nat) : Int) := by omega
    refine ev_succ ?_
    simp (disch := omega) only [garmentref29_Worst.l0, if_pos]
    refine rworst_in l lots hl hn i (by omega) _ i 0 m (by omega) ?_
    rw [wrap64_of (by omega), e1]
    exact ih (i + 1) _ (by omega)
theorem rworst_ok (l : List S23) (lots : List Int) (hl : l.length ≤ 100) (hn : lots.length = l.length) : Ev (fun k => garmentref29_Worst.f k l lots) (worst l lots, 0) := by
  simp (disch := omega) only [garmentref29_Worst.f, if_pos]
  exact rworst_out l lots hl hn l.length 0 0 (by omega)
theorem rworst_other (l : List S23) (lots : List Int) (hn : lots.length ≠ l.length) : Ev (fun k => garmentref29_Worst.f k l lots) (0, 1) := by
  simp (disch := omega) only [garmentref29_Worst.f, if_neg]
  exact Ev.now _

/-! ### lots: each tone takes the least number of a neighbour -/
/-- After r rounds: each number is of a place that is joined with its own, and no more than any place's that r steps lead to. -/
structure Inv2 (l : List S23) (t : Int) (r : Nat) (cur : List Int) : Prop where
  len : cur.length = l.length
  of : ∀ i, i < l.length → ∃ j : Nat, cur.getD i 0 = j ∧ Conn l.length (Adj l t) i j
  le : ∀ i j, i < l.length → Near l.length (Adj l t) j r i → cur.getD i 0 ≤ j

/-- Within a round, at (i, x): what lies before i is told, and of i what its neighbours before x have told. -/
structure Mid (l : List S23) (t : Int) (r i x : Nat) (cur : List Int) : Prop where
  at_ : Inv2 l t r cur
  before : ∀ a j, a < i → Near l.length (Adj l t) j (r + 1) a → cur.getD a 0 ≤ j
  here : ∀ k j, k < x → Adj l t i k → Near l.length (Adj l t) j r k → cur.getD i 0 ≤ j

theorem mid_set {l : List S23} {t : Int} {r i x : Nat} {cur : List Int} (h : Mid l t r i x cur) (hi : i < l.length) (hx : x < l.length) (hA : Adj l t i x) :
    Mid l t r i (x + 1) (cur.set i (mn (cur.getD i 0) (cur.getD x 0))) := by
  have hlen := h.at_.len
  have hm : mn (cur.getD i 0) (cur.getD x 0) ≤ cur.getD i 0 ∧ mn (cur.getD i 0) (cur.getD x 0) ≤ cur.getD x 0 := by unfold mn; split <;> omega
  have hg : ∀ a, (cur.set i (mn (cur.getD i 0) (cur.getD x 0))).getD a 0 ≤ cur.getD a 0 := by
    intro a
    rw [getD_set]
    split
    · rename_i e; rw [← e.1]; exact hm.1
    · exact Int.le_refl _
  refine ⟨⟨by simpa using hlen, fun a ha => ?_, fun a j ha hn => Int.le_trans (hg a) (h.at_.le a j ha hn)⟩, fun a j ha hn => Int.le_trans (hg a) (h.before a j ha hn), fun k j hk hAk hn => ?_⟩
  · rw [getD_set]
    split
    · rename_i e
      obtain ⟨e, _⟩ := e
      subst e
      obtain ⟨j, ej, hj⟩ := h.at_.of i hi
      obtain ⟨j2, ej2, hj2⟩ := h.at_.of x hx
      have : mn (cur.getD i 0) (cur.getD x 0) = cur.getD i 0 ∨ mn (cur.getD i 0) (cur.getD x 0) = cur.getD x 0 := by unfold mn; split <;> simp
      rcases this with e | e
      · exact ⟨j, by rw [e, ej], hj⟩
      · exact ⟨j2, by rw [e, ej2], conn_trans (conn_one hi hx hA) hj2⟩
    · exact h.at_.of a ha
  · by_cases e : k = x
    · subst e
      rw [getD_set, if_pos ⟨rfl, by omega⟩]
      exact Int.le_trans hm.2 (h.at_.le k j hx hn)
    · exact Int.le_trans (hg i) (h.here k j (by omega) hAk hn)
theorem mid_skip {l : List S23} {t : Int} {r i x : Nat} {cur : List Int} (h : Mid l t r i x cur) (hA : ¬ Adj l t i x) : Mid l t r i (x + 1) cur :=
  ⟨h.at_, h.before, fun k j hk hAk hn => by
    by_cases e : k = x
    · subst e; exact absurd hAk hA
    · exact h.here k j (by omega) hAk hn⟩
theorem mid_row {l : List S23} {t : Int} {r i : Nat} {cur : List Int} (h : Mid l t r i l.length cur) : Mid l t r (i + 1) 0 cur :=
  ⟨h.at_, fun a j ha hn => by
    by_cases e : a = i
    · subst e
      obtain ⟨k, hk, hai, e | e⟩ := hn
      · exact h.at_.le a j hai (e ▸ hk)
      · exact h.here k j (near_lt hk) (adj_symm _ _ e) hk
    · exact h.before a j (by omega) hn, fun k j hk => by omega⟩

theorem rin (l : List S23) (t : Int) (hl : l.length ≤ 100) (r i : Nat) (hi : i < l.length) (n y : Int) (res : List Int × Int) (d : Nat) : ∀ (x : Nat) (cur : List Int), x + d = l.length → Mid l t r i x cur →
    (∀ c', Mid l t r (i + 1) 0 c' → Ev (fun k => garmentref29_Lots.l2 k l t c' (i + 1 : Nat) n y) res) → Ev (fun k => garmentref29_Lots.l3 k l t cur i x n y) res := by
  induction d with
  | zero =>
    intro x cur hd h hk
    obtain rfl : x = l.length := by omega
    have e1 : ((i : Int) + 1) = ((i + 1 : Nat) : Int) := by omega
    refine ev_succ ?_
    simp (disch := omega) only [garmentref29_Lots.l3, if_neg, wrap64_of, e1]
    exact hk cur (mid_row h)
  | succ d ih =>
    intro x cur hd h hk
    have hlen := h.at_.len
    have e1 : ((x : Int) + 1) = ((x + 1 : Nat) : Int) := by omega
    refine ev_succ ?_
    by_cases hA : D (l.getD i z23) (l.getD x z23) ≤ t
    · simp (disch := first | omega | assumption) only [garmentref29_Lots.l3, if_pos, rd_nat, rdT_nat, rD_eq, Option.bind_some, wrap64_of, e1, Int.toNat_natCast]
      exact ih (x + 1) _ (by omega) (mid_set h hi (by omega) hA) hk
    · simp (disch := first | omega | assumption) only [garmentref29_Lots.l3, if_pos, if_neg, rd_nat, rdT_nat, rD_eq, Option.bind_some, wrap64_of, e1]
      exact ih (x + 1) _ (by omega) (mid_skip h hA) hk
theorem rround (l : List S23) (t : Int) (hl : l.length ≤ 100) (r : Nat) (n : Int) (y : Nat) (hy : y ≤ 200) (res : List Int × Int) (d : Nat) : ∀ (i : Nat) (cur : List Int), i + d = l.length → Mid l t r i 0 cur →
    (∀ c', Inv2 l t (r + 1) c' → Ev (fun k => garmentref29_Lots.l1 k l t c' n (y + 1 : Nat)) res) → Ev (fun k => garmentref29_Lots.l2 k l t cur i n y) res := by
  induction d with
  | zero =>
    intro i cur hd h hk
    obtain rfl : i = l.length := by omega
    have e1 : ((y : Int) + 1) = ((y + 1 : Nat) : Int) := by omega
    refine ev_succ ?_
    simp (disch := omega) only [garmentref29_Lots.l2, if_neg, wrap64_of, e1]
    exact hk cur ⟨h.at_.len, h.at_.of, fun i j hi hn => h.before i j hi hn⟩
  | succ d ih =>
    intro i cur hd h hk
    refine ev_succ ?_
    simp (disch := omega) only [garmentref29_Lots.l2, if_pos]
    exact rin l t hl r i (by omega) n y res l.length 0 cur (by omega) h (fun c' h' => ih (i + 1) c' (by omega) h' hk)
theorem rrounds (l : List S23) (t : Int) (hl : l.length ≤ 100) (res : List Int × Int) (d : Nat) : ∀ (r : Nat) (cur : List Int), r + d = l.length → Inv2 l t r cur →
    (∀ c', Inv2 l t l.length c' → Ev (fun k => garmentref29_Lots.l4 k l c' (List.replicate l.length 0) 0 0) res) → Ev (fun k => garmentref29_Lots.l1 k l t cur l.length r) res := by
  induction d with
  | zero =>
    intro r cur hd h hk
    obtain rfl : r = l.length := by omega
    refine ev_succ ?_
    simp (disch := omega) only [garmentref29_Lots.l1, if_pos, if_neg, Int.toNat_natCast]
    exact hk cur h
  | succ d ih =>
    intro r cur hd h hk
    refine ev_succ ?_
    simp (disch := omega) only [garmentref29_Lots.l1, if_pos]
    exact rround l t hl r _ r (by omega) res l.length 0 cur (by omega) ⟨h, fun a j ha => by omega, fun k j hk => by omega⟩ (fun c' h' => ih (r + 1) c' (by omega) h' hk)

/-- The numbers that are left, counted. -/
structure Cnt (l : List S23) (t : Int) (x : Nat) (lot : Int) (out : List Int) : Prop where
  len : out.length = l.length
  lot0 : 0 ≤ lot ∧ lot ≤ x
  rng : ∀ j, j < x → 0 ≤ out.getD j 0 ∧ out.getD j 0 < lot
  p : ∀ j k, j < x → k < x → (out.getD j 0 = out.getD k 0 ↔ Conn l.length (Adj l t) j k)
  f : ∀ c, 0 ≤ c → c < lot → ∃ j, j < x ∧ out.getD j 0 = c
  g : ∀ i, i < x → ∀ c, 0 ≤ c → c < out.getD i 0 → ∃ j, j < i ∧ out.getD j 0 = c

theorem least {l : List S23} {t : Int} {fs : List Int} (h : Inv2 l t l.length fs) (i j : Nat) (hi : i < l.length) (hc : Conn l.length (Adj l t) j i) : fs.getD i 0 ≤ j := h.le i j hi (near_le (near_all hc) (by omega))

theorem cnt_new {l : List S23} {t : Int} {fs : List Int} {x : Nat} {lot : Int} {out : List Int} (hf : Inv2 l t l.length fs) (h : Cnt l t x lot out) (hx : x < l.length) (e : fs.getD x 0 = x) : Cnt l t (x + 1) (lot + 1) (out.set x lot) := by
  have hl0 := h.lot0
  have hlen := h.len
  have old : ∀ j, j < x → (out.set x lot).getD j 0 = out.getD j 0 := fun j hj => by rw [getD_set, if_neg (by omega)]
  have new : (out.set x lot).getD x 0 = lot := by rw [getD_set, if_pos ⟨rfl, by omega⟩]
  have far : ∀ j, j < x → ¬ Conn l.length (Adj l t) j x := fun j hj hc => by have := least hf x j hx hc; omega
  refine ⟨by simpa using h.len, by omega, fun j hj => ?_, fun j k hj hk => ?_, fun c h0 h1 => ?_, fun i hi c h0 h1 => ?_⟩
  · by_cases e : j = x
    · subst e; rw [new]; omega
    · rw [old j (by omega)]; have := h.rng j (by omega); omega
  · by_cases e1 : j = x <;> by_cases e2 : k = x
    · subst e1; subst e2; exact ⟨fun _ => conn_refl hx, fun _ => rfl⟩
    · subst e1
      rw [new, old k (by omega)]
      have := h.rng k (by omega)
      exact ⟨fun e => by omega, fun hc => absurd (conn_symm adj_symm hc) (far k (by omega))⟩
    · subst e2
      rw [new, old j (by omega)]
      have := h.rng j (by omega)
      exact ⟨fun e => by omega, fun hc => absurd hc (far j (by omega))⟩
    · rw [old j (by omega), old k (by omega)]; exact h.p j k (by omega) (by omega)
  · by_cases e : c = lot
    · exact ⟨x, by omega, by rw [new, e]⟩
    · obtain ⟨j, hj, ej⟩ := h.f c h0 (by omega)
      exact ⟨j, by omega, by rw [old j hj]; exact ej⟩
  · by_cases e : i = x
    · subst e
      rw [new] at h1
      obtain ⟨j, hj, ej⟩ := h.f c h0 h1
      exact ⟨j, hj, by rw [old j hj]; exact ej⟩
    · rw [old i (by omega)] at h1
      obtain ⟨j, hj, ej⟩ := h.g i (by omega) c h0 h1
      exact ⟨j, hj, by rw [old j (by omega)]; exact ej⟩
theorem cnt_old {l : List S23} {t : Int} {fs : List Int} {x y : Nat} {lot : Int} {out : List Int} (hf : Inv2 l t l.length fs) (h : Cnt l t x lot out) (hx : x < l.length) (ey : fs.getD x 0 = y) (hy : y < x) : Cnt l t (x + 1) lot (out.set x (out.getD y 0)) := by
  have hl0 := h.lot0
  have hlen := h.len
  have old : ∀ j, j < x → (out.set x (out.getD y 0)).getD j 0 = out.getD j 0 := fun j hj => by rw [getD_set, if_neg (by omega)]
  have new : (out.set x (out.getD y 0)).getD x 0 = out.getD y 0 := by rw [getD_set, if_pos ⟨rfl, by omega⟩]
  have hc : Conn l.length (Adj l t) x y := by
    obtain ⟨j, ej, hj⟩ := hf.of x hx
    rw [ey] at ej
    obtain rfl : y = j := by omega
    exact hj
  have ry := h.rng y hy
  refine ⟨by simpa using h.len, by omega, fun j hj => ?_, fun j k hj hk => ?_, fun c h0 h1 => ?_, fun i hi c h0 h1 => ?_⟩
  · by_cases e : j = x
    · subst e; rw [new]; omega
    · rw [old j (by omega)]; exact h.rng j (by omega)
  · by_cases e1 : j = x <;> by_cases e2 : k = x
    · subst e1; subst e2; exact ⟨fun _ => conn_refl hx, fun _ => rfl⟩
    · subst e1
      rw [new, old k (by omega), h.p y k hy (by omega)]
      exact ⟨fun h => conn_trans hc h, fun h => conn_trans (conn_symm adj_symm hc) h⟩
    · subst e2
      rw [new, old j (by omega), h.p j y (by omega) hy]
      exact ⟨fun h => conn_trans h (conn_symm adj_symm hc), fun h => conn_trans h hc⟩
    · rw [old j (by omega), old k (by omega)]; exact h.p j k (by omega) (by omega)
  · obtain ⟨j, hj, ej⟩ := h.f c h0 (by omega)
    exact ⟨j, by omega, by rw [old j hj]; exact ej⟩
  · by_cases e : i = x
    · subst e
      rw [new] at h1
      obtain ⟨j, hj, ej⟩ := h.g y hy c h0 h1
      exact ⟨j, by omega, by rw [old j (by omega)]; exact ej⟩
    · rw [old i (by omega)] at h1
      obtain ⟨j, hj, ej⟩ := h.g i (by omega) c h0 h1
      exact ⟨j, hj, by rw [old j (by omega)]; exact ej⟩

theorem rcount (l : List S23) (t : Int) (hl : l.length ≤ 100) (fs : List Int) (hf : Inv2 l t l.length fs) (d : Nat) : ∀ (x : Nat) (lot : Int) (out : List Int), x + d = l.length → Cnt l t x lot out →
    ∃ o, Ev (fun k => garmentref29_Lots.l4 k l fs out lot x) (o, 0) ∧ Parts l.length (Adj l t) o := by
  induction d with
  | zero =>
    intro x lot out hd h
    obtain rfl : x = l.length := by omega
    refine ⟨out, ?_, h.len, fun i hi => (h.rng i hi).1, fun i j hi hj => h.p i j hi hj, h.g⟩
    refine ev_succ ?_
    simp (disch := omega) only [garmentref29_Lots.l4, if_neg]
    exact Ev.now _
  | succ d ih =>
    intro x lot out hd h
    have hxl : x < l.length := by omega
    have hlen := h.len
    have hflen := hf.len
    have hl0 := h.lot0
    have e1 : ((x : Int) + 1) = ((x + 1 : Nat) : Int) := by omega
    by_cases e : fs.getD x 0 = x
    · obtain ⟨o, hev, hp⟩ := ih (x + 1) (lot + 1) _ (by omega) (cnt_new hf h hxl e)
      refine ⟨o, ?_, hp⟩
      refine ev_succ ?_
      simp (disch := first | omega | assumption) only [garmentref29_Lots.l4, if_pos, rd_nat, wrap64_of, e1, Int.toNat_natCast]
      exact hev
    · obtain ⟨y, ey, _⟩ := hf.of x hxl
      have hle := hf.le x x hxl (near_le (near_all (conn_refl hxl)) (by omega))
      have hy : y < x := by omega
      obtain ⟨o, hev, hp⟩ := ih (x + 1) lot _ (by omega) (cnt_old hf h hxl ey hy)
      refine ⟨o, ?_, hp⟩
      refine ev_succ ?_
      have ne : ¬ ((y : Int) = (x : Int)) := by omega
      simp (disch := first | omega | assumption) only [garmentref29_Lots.l4, if_pos, if_neg, rd_nat, ey, wrap64_of, e1, Int.toNat_natCast]
      exact hev

theorem rstart (l : List S23) (t : Int) (hl : l.length ≤ 100) (res : List Int × Int) (d : Nat) : ∀ (x : Nat) (cur : List Int), x + d = l.length → cur.length = l.length → (∀ j : Nat, j < x → (cur.getD j 0 : Int) = (j : Int)) →
    (∀ c', c'.length = l.length → (∀ j : Nat, j < l.length → (c'.getD j 0 : Int) = (j : Int)) → Ev (fun k => garmentref29_Lots.l1 k l t c' l.length 0) res) → Ev (fun k => garmentref29_Lots.l0 k l t cur x) res := by
  induction d with
  | zero =>
    intro x cur hd hc h hk
    obtain rfl : x = l.length := by omega
    refine ev_succ ?_
    simp (disch := omega) only [garmentref29_Lots.l0, if_neg]
    exact hk cur hc h
  | succ d ih =>
    intro x cur hd hc h hk
    have e1 : ((x : Int) + 1) = ((x + 1 : Nat) : Int) := by omega
    refine ev_succ ?_
    simp (disch := omega) only [garmentref29_Lots.l0, if_pos, wrap64_of, e1, Int.toNat_natCast]
    refine ih (x + 1) _ (by omega) (by simpa using hc) (fun j hj => ?_) hk
    rw [getD_set]
    by_cases e : x = j
    · rw [if_pos ⟨e, by omega⟩, e]
    · rw [if_neg (fun h => e h.1)]; exact h j (by omega)

theorem rlots_ok (l : List S23) (t : Int) (hl : l.length ≤ 20) (ht : 0 ≤ t) : ∃ out, Ev (fun k => garmentref29_Lots.f k l t) (out, 0) ∧ Parts l.length (Adj l t) out := by
  have h0 : ∀ c' : List Int, c'.length = l.length → (∀ j : Nat, j < l.length → (c'.getD j 0 : Int) = (j : Int)) → Inv2 l t 0 c' := fun c' hc h =>
    ⟨hc, fun i hi => ⟨i, h i hi, conn_refl hi⟩, fun i j hi hn => by rw [h i hi, hn.1]; exact Int.le_refl _⟩
  -- the answer is the same whatever the rounds came to: choose it by the parts' uniqueness
  obtain ⟨o, _, hp⟩ := lots_ok l t hl ht
  refine ⟨o, ?_, hp⟩
  simp (disch := omega) only [garmentref29_Lots.f, if_pos, if_neg, Int.toNat_natCast]
  refine rstart l t (by omega) _ l.length 0 _ (by omega) (by simp) (fun j hj => by omega) (fun c' hc h => ?_)
  refine rrounds l t (by omega) _ l.length 0 c' (by omega) (h0 c' hc h) (fun fs hf => ?_)
  obtain ⟨o', hev, hp'⟩ := rcount l t (by omega) fs hf l.length 0 0 (List.replicate l.length 0) (by omega) ⟨by simp, by omega, fun j hj => by omega, fun j k hj => by omega, fun c h0 h1 => by omega, fun i hi => by omega⟩
  rw [parts_unique hp hp']
  exact hev
theorem rlots_long (l : List S23) (t : Int) (hl : 20 < l.length) : Ev (fun k => garmentref29_Lots.f k l t) ([], 5) := by
  simp (disch := omega) only [garmentref29_Lots.f, if_pos]
  exact Ev.now _
theorem rlots_neg (l : List S23) (t : Int) (hl : l.length ≤ 20) (ht : t < 0) : Ev (fun k => garmentref29_Lots.f k l t) ([], 3) := by
  simp (disch := omega) only [garmentref29_Lots.f, if_pos, if_neg]
  exact Ev.now _
end Go.Proofs.Ytoekbmgcfinfmaa.ShBase
