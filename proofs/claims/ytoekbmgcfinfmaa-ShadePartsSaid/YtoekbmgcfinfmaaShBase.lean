/- What the functions of layer 29 come to, in numbers and lists: distances, worst distances, lots. -/
import Derived.Test.YtoekbmgcfinfmaaGraph
import Derived.Test.YtoekbmgcfinfmaaSh5
import Derived.Test.YtoekbmgcfinfmaaSh7
import Derived.Test.YtoekbmgcfinfmaaSh9
namespace Go.Proofs.Ytoekbmgcfinfmaa.ShBase
open Go.RowKit Go.Proofs.YtoekbmgcfinfmaaW.PrintWords Go.Proofs.YtoekbmgcfinfmaaW.PrintLast Go.Proofs.YtoekbmgcfinfmaaW.PrintMore Go.Proofs.Ytoekbmgcfinfmaa.Sh Go.Proofs.Ytoekbmgcfinfmaa.Graph
set_option linter.unusedVariables false
set_option linter.unusedSimpArgs false

theorem wrap64_of {x : Int} (h : -9223372036854775808 ≤ x ∧ x ≤ 9223372036854775807) : wrap64 x = x := by unfold wrap64; omega
theorem ev_succ {α : Type} {g : Nat → Option α} {r : α} (h : Ev (fun k => g (k + 1)) r) : Ev g r := Ev.step (fun _ => rfl) h
theorem rd_nat (xs : List Int) (i : Nat) : rd xs (i : Int) = xs.getD i 0 := rfl
theorem rdT_nat (xs : List S23) (i : Nat) : rd_T23 xs (i : Int) = xs.getD i z23 := rfl

def lim (n : Int) : Int := if n < -1000 then -1000 else if 1000 < n then 1000 else n
def ap (a b : Int) : Int := if lim a - lim b < 0 then lim b - lim a else lim a - lim b
def D (a b : S23) : Int := mx (mx (ap a.f0 b.f0) (ap a.f1 b.f1)) (ap a.f2 b.f2)
theorem lim_eq (a : Int) : shade_limited.f a = some (lim a) := by
  unfold shade_limited.f lim mn mx
  split <;> split <;> (try split) <;> first | rfl | omega | (simp; omega) | skip
theorem lim_rng (a : Int) : -1000 ≤ lim a ∧ lim a ≤ 1000 := by unfold lim; split <;> (try split) <;> omega
theorem ap_eq (a b : Int) : shade_apart.f a b = some (ap a b) := by
  unfold shade_apart.f ap
  rw [lim_eq, lim_eq]
  have := lim_rng a
  have := lim_rng b
  simp only [Option.bind_some, mx]
  rw [wrap64_of (x := lim a - lim b) (by omega), wrap64_of (x := -(lim a - lim b)) (by omega)]
  congr 1
  split <;> split <;> omega
theorem D_eq (a b : S23) : shade_Distance.f a.f0 a.f1 a.f2 b.f0 b.f1 b.f2 = some (D a b) := by
  unfold shade_Distance.f D
  rw [ap_eq, ap_eq, ap_eq]
  rfl
theorem ap_rng (a b : Int) : 0 ≤ ap a b ∧ ap a b ≤ 2000 := by
  have := lim_rng a
  have := lim_rng b
  unfold ap; split <;> omega
theorem ap_comm (a b : Int) : ap a b = ap b a := by unfold ap; split <;> split <;> omega
theorem ap_self (a : Int) : ap a a = 0 := by unfold ap; split <;> omega
theorem ap_tri (a b c : Int) : ap a c ≤ ap a b + ap b c := by unfold ap; split <;> split <;> split <;> omega
theorem D_rng (a b : S23) : 0 ≤ D a b ∧ D a b ≤ 2000 := by
  have := ap_rng a.f0 b.f0
  have := ap_rng a.f1 b.f1
  have := ap_rng a.f2 b.f2
  unfold D mx; split <;> split <;> omega
theorem D_comm (a b : S23) : D a b = D b a := by unfold D; rw [ap_comm a.f0, ap_comm a.f1, ap_comm a.f2]
theorem D_self (a : S23) : D a a = 0 := by unfold D; rw [ap_self, ap_self, ap_self]; rfl
theorem D_tri (a b c : S23) : D a c ≤ D a b + D b c := by
  have h0 := ap_tri a.f0 b.f0 c.f0
  have h1 := ap_tri a.f1 b.f1 c.f1
  have h2 := ap_tri a.f2 b.f2 c.f2
  unfold D mx
  repeat' split
  all_goals omega

/-- Two tones of the list are within the tolerance. -/
def Adj (l : List S23) (t : Int) (i j : Nat) : Prop := D (l.getD i z23) (l.getD j z23) ≤ t
theorem adj_symm {l : List S23} {t : Int} : ∀ a b, Adj l t a b → Adj l t b a := fun a b h => by unfold Adj at *; rwa [D_comm]

/-! ### spread -/
/-- How many have no number. -/
def U (xs : List Int) : Nat := (List.range xs.length).countP (fun j => decide (xs.getD j 0 < 0))
theorem U_lt {xs ys : List Int} (hl : ys.length = xs.length) (h : ∀ j, j < xs.length → 0 ≤ xs.getD j 0 → 0 ≤ ys.getD j 0) {i : Nat} (hi : i < xs.length) (h0 : xs.getD i 0 < 0) (h1 : 0 ≤ ys.getD i 0) : U ys < U xs := by
  unfold U
  rw [hl]
  refine countP_lt (fun j hj hy => ?_) ⟨i, List.mem_range.2 hi, by simpa using h0, by simp; exact h1⟩
  simp at hy hj ⊢
  have := h j hj
  simp only [List.getD_eq_getElem?_getD] at this
  omega

structure Spread (l : List S23) (t : Int) (lot : Int) (i : Nat) (out out' : List Int) : Prop where
  len : out'.length = l.length
  old : ∀ j, j < l.length → 0 ≤ out.getD j 0 → out'.getD j 0 = out.getD j 0
  new : ∀ j, j < l.length → out.getD j 0 < 0 → out'.getD j 0 < 0 ∨ (out'.getD j 0 = lot ∧ Conn l.length (Adj l t) i j)
  self : out'.getD i 0 = lot
  shut : ∀ j k, j < l.length → k < l.length → out.getD j 0 < 0 → 0 ≤ out'.getD j 0 → Adj l t j k → 0 ≤ out'.getD k 0

theorem spread_ok (l : List S23) (t lot : Int) (hl : l.length ≤ 100) (hlot : 0 ≤ lot) (u : Nat) : ∀ (i : Nat) (out : List Int), out.length = l.length → i < l.length → out.getD i 0 < 0 → U out = u →
    ∃ out', Ev (fun k => shade_spread.f k l t out i lot) out' ∧ Spread l t lot i out out' := by
  induction u using Nat.strongRecOn with
  | _ u ih =>
  intro i out ho hi hneg hu
  have h1l : (out.set i lot).length = l.length := by simpa using ho
  have h1 : ∀ j, j < l.length → (out.set i lot).getD j 0 = if i = j then lot else out.getD j 0 := by
    intro j hj
    rw [getD_set]
    by_cases e : i = j
    · subst e; simp [ho, hi]
    · simp [e]
  -- the loop over k
  have loop : ∀ (d : Nat) (x : Nat) (cur : List Int), l.length - x = d → x ≤ l.length → cur.length = l.length →
      (∀ j, j < l.length → 0 ≤ out.getD j 0 → cur.getD j 0 = out.getD j 0) → cur.getD i 0 = lot →
      (∀ j, j < l.length → out.getD j 0 < 0 → cur.getD j 0 < 0 ∨ (cur.getD j 0 = lot ∧ Conn l.length (Adj l t) i j)) →
      (∀ j k, j < l.length → k < l.length → j ≠ i → out.getD j 0 < 0 → 0 ≤ cur.getD j 0 → Adj l t j k → 0 ≤ cur.getD k 0) →
      (∀ k, k < x → Adj l t i k → 0 ≤ cur.getD k 0) →
      ∃ out', Ev (fun k => shade_spread.l0 k l t cur i lot l.length x) out' ∧ Spread l t lot i out out' := by
    intro d
    induction d with
    | zero =>
      intro x cur hd hx hcl hold hself hnew hshut hdone
      obtain rfl : x = l.length := by omega
      refine ⟨cur, ?_, hcl, hold, hnew, hself, ?_⟩
      · refine ev_succ ?_
        simp (disch := omega) only [shade_spread.l0, if_neg]
        exact Ev.now _
      · intro j k hj hk hn hp hA
        by_cases e : j = i
        · subst e; exact hdone k hk hA
        · exact hshut j k hj hk e hn hp hA
    | succ d ihd =>
      intro x cur hd hx hcl hold hself hnew hshut hdone
      have hxl : x < l.length := by omega
      by_cases hc : cur.getD x 0 < 0
      · by_cases hA : Adj l t i x
        · have hUlt : U cur < u := by
            rw [← hu]
            exact U_lt (by omega) (fun j hj h => by rw [hold j (by omega) h]; exact h) (by omega) hneg (by rw [hself]; exact hlot)
          obtain ⟨c', hev, hs⟩ := ih (U cur) hUlt x cur hcl hxl hc rfl
          have hmono : ∀ j, j < l.length → 0 ≤ cur.getD j 0 → 0 ≤ c'.getD j 0 := fun j hj h => by rw [hs.old j hj h]; exact h
          obtain ⟨out', hev', hs'⟩ := ihd (x + 1) c' (by omega) (by omega) hs.len
            (fun j hj h => by rw [hs.old j hj (by rw [hold j hj h]; exact h)]; exact hold j hj h)
            (by rw [hs.old i hi (by rw [hself]; exact hlot)]; exact hself)
            (fun j hj h => by
              rcases hnew j hj h with h2 | ⟨h2, h3⟩
              · rcases hs.new j hj h2 with h4 | ⟨h4, h5⟩
                · exact .inl h4
                · exact .inr ⟨h4, conn_trans (conn_one hi hxl hA) h5⟩
              · exact .inr ⟨by rw [hs.old j hj (by rw [h2]; exact hlot)]; exact h2, h3⟩)
            (fun j k hj hk e hn hp hA' => by
              by_cases hcj : cur.getD j 0 < 0
              · exact hs.shut j k hj hk hcj hp hA'
              · exact hmono k hk (hshut j k hj hk e hn (by omega) hA'))
            (fun k hk hA' => by
              by_cases e : k = x
              · subst e; rw [hs.self]; exact hlot
              · exact hmono k (by omega) (hdone k (by omega) hA'))
          refine ⟨out', ?_, hs'⟩
          refine ev_succ ?_
          have e1 : ((x : Int) + 1) = ((x + 1 : Nat) : Int) := by omega
          have hA' : D (l.getD i z23) (l.getD x z23) ≤ t := hA
          simp (disch := omega) only [shade_spread.l0, if_pos, rd_nat, rdT_nat, D_eq, Option.bind_some, wrap64_of, e1]
          exact Ev.bind hev hev'
        · obtain ⟨out', hev', hs'⟩ := ihd (x + 1) cur (by omega) (by omega) hcl hold hself hnew hshut (fun k hk hA' => by
            by_cases e : k = x
            · subst e; exact absurd hA' hA
            · exact hdone k (by omega) hA')
          refine ⟨out', ?_, hs'⟩
          refine ev_succ ?_
          have e1 : ((x : Int) + 1) = ((x + 1 : Nat) : Int) := by omega
          have hA' : ¬ D (l.getD i z23) (l.getD x z23) ≤ t := hA
          simp (disch := omega) only [shade_spread.l0, if_pos, if_neg, rd_nat, rdT_nat, D_eq, Option.bind_some, wrap64_of, e1]
          exact hev'
      · obtain ⟨out', hev', hs'⟩ := ihd (x + 1) cur (by omega) (by omega) hcl hold hself hnew hshut (fun k hk hA' => by
          by_cases e : k = x
          · subst e; omega
          · exact hdone k (by omega) hA')
        refine ⟨out', ?_, hs'⟩
        refine ev_succ ?_
        have e1 : ((x : Int) + 1) = ((x + 1 : Nat) : Int) := by omega
        simp (disch := omega) only [shade_spread.l0, if_pos, if_neg, rd_nat, wrap64_of, e1]
        exact hev'
  obtain ⟨out', hev, hs⟩ := loop l.length 0 (out.set i lot) (by omega) (by omega) h1l
    (fun j hj h => by
      rw [h1 j hj]
      split
      · subst_vars; omega
      · rfl)
    (by rw [h1 i hi]; simp)
    (fun j hj h => by
      rw [h1 j hj]
      split
      · subst_vars; exact .inr ⟨rfl, conn_refl hi⟩
      · exact .inl h)
    (fun j k hj hk e hn hp hA => by
      rw [h1 j hj, if_neg (Ne.symm e)] at hp
      omega)
    (fun k hk => absurd hk (Nat.not_lt_zero _))
  refine ⟨out', ?_, hs⟩
  refine ev_succ ?_
  simp (disch := omega) only [shade_spread.f, if_pos]
  exact hev

/-! ### lots -/
structure Inv (l : List S23) (t : Int) (x : Nat) (lot : Int) (cur : List Int) : Prop where
  len : cur.length = l.length
  lot0 : 0 ≤ lot ∧ lot ≤ x
  v : ∀ j, j < l.length → cur.getD j 0 < lot
  p : ∀ j k, j < l.length → k < l.length → 0 ≤ cur.getD j 0 → 0 ≤ cur.getD k 0 → (cur.getD j 0 = cur.getD k 0 ↔ Conn l.length (Adj l t) j k)
  s : ∀ j k, j < l.length → k < l.length → 0 ≤ cur.getD j 0 → Adj l t j k → 0 ≤ cur.getD k 0
  d : ∀ j, j < x → 0 ≤ cur.getD j 0
  f : ∀ c, 0 ≤ c → c < lot → ∃ j, j < x ∧ cur.getD j 0 = c
  g : ∀ i, i < l.length → 0 ≤ cur.getD i 0 → ∀ c, 0 ≤ c → c < cur.getD i 0 → ∃ j, j < i ∧ cur.getD j 0 = c

theorem inv_next {l : List S23} {t : Int} {x : Nat} {lot : Int} {cur c' : List Int} (h : Inv l t x lot cur) (hx : x < l.length) (hc : cur.getD x 0 < 0) (hs : Spread l t lot x cur c') : Inv l t (x + 1) (lot + 1) c' := by
  have hl0 := h.lot0
  have old : ∀ j, j < l.length → 0 ≤ cur.getD j 0 → 0 ≤ c'.getD j 0 := fun j hj h0 => by rw [hs.old j hj h0]; exact h0
  have shut : ∀ j k, Conn l.length (Adj l t) j k → 0 ≤ cur.getD j 0 → 0 ≤ cur.getD k 0 := fun j k hcn h0 => conn_ind (P := fun y => 0 ≤ cur.getD y 0) hcn h0 (fun a b ha hb h1 hA => h.s a b ha hb h1 hA)
  refine ⟨hs.len, by omega, ?_, ?_, ?_, ?_, ?_, ?_⟩
  · intro j hj
    by_cases h0 : 0 ≤ cur.getD j 0
    · rw [hs.old j hj h0]; have := h.v j hj; omega
    · rcases hs.new j hj (by omega) with h1 | ⟨h1, _⟩ <;> omega
  · intro j k hj hk pj pk
    by_cases h0 : 0 ≤ cur.getD j 0 <;> by_cases h1 : 0 ≤ cur.getD k 0
    · rw [hs.old j hj h0, hs.old k hk h1]; exact h.p j k hj hk h0 h1
    · rw [hs.old j hj h0]
      rcases hs.new k hk (by omega) with h2 | ⟨h2, h3⟩
      · omega
      · rw [h2]
        have := h.v j hj
        exact ⟨fun e => by omega, fun e => absurd (shut j k e h0) h1⟩
    · rw [hs.old k hk h1]
      rcases hs.new j hj (by omega) with h2 | ⟨h2, h3⟩
      · omega
      · rw [h2]
        have := h.v k hk
        exact ⟨fun e => by omega, fun e => absurd (shut k j (conn_symm adj_symm e) h1) h0⟩
    · rcases hs.new j hj (by omega) with h2 | ⟨h2, h3⟩
      · omega
      · rcases hs.new k hk (by omega) with h4 | ⟨h4, h5⟩
        · omega
        · rw [h2, h4]
          exact ⟨fun _ => conn_trans (conn_symm adj_symm h3) h5, fun _ => rfl⟩
  · intro j k hj hk pj hA
    by_cases h0 : 0 ≤ cur.getD j 0
    · exact old k hk (h.s j k hj hk h0 hA)
    · exact hs.shut j k hj hk (by omega) pj hA
  · intro j hj
    by_cases e : j = x
    · subst e; rw [hs.self]; omega
    · exact old j (by omega) (h.d j (by omega))
  · intro c h0 h1
    by_cases e : c = lot
    · exact ⟨x, by omega, by rw [hs.self, e]⟩
    · obtain ⟨j, hj, e2⟩ := h.f c h0 (by omega)
      exact ⟨j, by omega, by rw [hs.old j (by omega) (by omega)]; exact e2⟩
  · intro i hi pi c h0 h1
    by_cases hp : 0 ≤ cur.getD i 0
    · rw [hs.old i hi hp] at h1
      obtain ⟨j, hj, e2⟩ := h.g i hi hp c h0 h1
      exact ⟨j, hj, by rw [hs.old j (by omega) (by omega)]; exact e2⟩
    · rcases hs.new i hi (by omega) with h2 | ⟨h2, _⟩
      · omega
      · obtain ⟨j, hj, e2⟩ := h.f c h0 (by omega)
        have : x ≤ i := by
          rcases Nat.lt_or_ge i x with h3 | h3
          · exact absurd (h.d i h3) hp
          · exact h3
        exact ⟨j, by omega, by rw [hs.old j (by omega) (by omega)]; exact e2⟩

theorem inv_skip {l : List S23} {t : Int} {x : Nat} {lot : Int} {cur : List Int} (h : Inv l t x lot cur) (hx : x < l.length) (hc : ¬ cur.getD x 0 < 0) : Inv l t (x + 1) lot cur := by
  have hl0 := h.lot0
  refine ⟨h.len, by omega, h.v, h.p, h.s, ?_, ?_, h.g⟩
  · intro j hj
    by_cases e : j = x
    · subst e; omega
    · exact h.d j (by omega)
  · intro c h0 h1
    obtain ⟨j, hj, e2⟩ := h.f c h0 h1
    exact ⟨j, by omega, e2⟩

theorem lots_loop (l : List S23) (t : Int) (hl : l.length ≤ 100) (d : Nat) : ∀ (x : Nat) (lot : Int) (cur : List Int), l.length - x = d → x ≤ l.length → Inv l t x lot cur →
    ∃ out, Ev (fun k => shade_Lots.l1 k l t cur lot l.length x) (out, 0) ∧ Parts l.length (Adj l t) out := by
  induction d with
  | zero =>
    intro x lot cur hd hx h
    obtain rfl : x = l.length := by omega
    refine ⟨cur, ?_, h.len, fun i hi => h.d i hi, fun i j hi hj => h.p i j hi hj (h.d i hi) (h.d j hj), fun i hi c h0 h1 => h.g i hi (h.d i hi) c h0 h1⟩
    refine ev_succ ?_
    simp (disch := omega) only [shade_Lots.l1, if_neg]
    exact Ev.now _
  | succ d ih =>
    intro x lot cur hd hx h
    have hxl : x < l.length := by omega
    have hcl := h.len
    have hl0 := h.lot0
    have e1 : ((x : Int) + 1) = ((x + 1 : Nat) : Int) := by omega
    by_cases hc : cur.getD x 0 < 0
    · obtain ⟨c', hev, hs⟩ := spread_ok l t lot hl hl0.1 _ x cur h.len hxl hc rfl
      obtain ⟨out, hev', hp⟩ := ih (x + 1) (lot + 1) c' (by omega) (by omega) (inv_next h hxl hc hs)
      refine ⟨out, ?_, hp⟩
      refine ev_succ ?_
      simp (disch := omega) only [shade_Lots.l1, if_pos, rd_nat, wrap64_of, e1]
      exact Ev.bind hev hev'
    · obtain ⟨out, hev', hp⟩ := ih (x + 1) lot cur (by omega) (by omega) (inv_skip h hxl hc)
      refine ⟨out, ?_, hp⟩
      refine ev_succ ?_
      simp (disch := omega) only [shade_Lots.l1, if_pos, if_neg, rd_nat, wrap64_of, e1]
      exact hev'

theorem lots_start (l : List S23) (t : Int) (hl : l.length ≤ 100) (d : Nat) : ∀ (x : Nat) (cur : List Int), l.length - x = d → x ≤ l.length → cur.length = l.length → (∀ j, j < x → cur.getD j 0 = -1) →
    ∃ out, Ev (fun k => shade_Lots.l0 k l t cur l.length x) (out, 0) ∧ Parts l.length (Adj l t) out := by
  induction d with
  | zero =>
    intro x cur hd hx hcl h
    obtain rfl : x = l.length := by omega
    obtain ⟨out, hev, hp⟩ := lots_loop l t hl l.length 0 0 cur (by omega) (by omega)
      ⟨hcl, by omega, fun j hj => by rw [h j hj]; omega, fun j k hj _ h0 => by rw [h j hj] at h0; omega, fun j k hj _ h0 => by rw [h j hj] at h0; omega, fun j hj => by omega, fun c h0 h1 => by omega, fun i hi h0 => by rw [h i hi] at h0; omega⟩
    refine ⟨out, ?_, hp⟩
    refine ev_succ ?_
    simp (disch := omega) only [shade_Lots.l0, if_neg]
    exact hev
  | succ d ih =>
    intro x cur hd hx hcl h
    have hxl : x < l.length := by omega
    have e1 : ((x : Int) + 1) = ((x + 1 : Nat) : Int) := by omega
    obtain ⟨out, hev, hp⟩ := ih (x + 1) (cur.set x (-1)) (by omega) (by omega) (by simpa using hcl) (fun j hj => by
      rw [getD_set]
      by_cases e : x = j
      · rw [if_pos ⟨e, by omega⟩]
      · rw [if_neg (fun h => e h.1)]; exact h j (by omega))
    refine ⟨out, ?_, hp⟩
    refine ev_succ ?_
    simp (disch := omega) only [shade_Lots.l0, if_pos, wrap64_of, e1, Int.toNat_natCast]
    exact hev

theorem lots_ok (l : List S23) (t : Int) (hl : l.length ≤ 20) (ht : 0 ≤ t) : ∃ out, Ev (fun k => shade_Lots.f k l t) (out, 0) ∧ Parts l.length (Adj l t) out := by
  obtain ⟨out, hev, hp⟩ := lots_start l t (by omega) l.length 0 (List.replicate l.length 0) (by omega) (by omega) (by simp) (fun j hj => by omega)
  refine ⟨out, ?_, hp⟩
  simp (disch := omega) only [shade_Lots.f, if_pos, if_neg, Option.bind_some, Int.toNat_natCast, List.length_replicate]
  exact hev
theorem lots_long (l : List S23) (t : Int) (hl : 20 < l.length) : Ev (fun k => shade_Lots.f k l t) ([], 5) := by
  simp (disch := omega) only [shade_Lots.f, if_pos]
  exact Ev.now _
theorem lots_neg (l : List S23) (t : Int) (hl : l.length ≤ 20) (ht : t < 0) : Ev (fun k => shade_Lots.f k l t) ([], 3) := by
  simp (disch := omega) only [shade_Lots.f, if_pos, if_neg]
  exact Ev.now _

/-! ### the worst distance -/
def wI (l : List S23) (lots : List Int) (i : Nat) : Nat → Nat → Int → Int
  | 0, _, m => m
  | d + 1, x, m => wI l lots i d (x + 1) (if lots.getD i 0 = lots.getD x 0 then mx m (D (l.getD i z23) (l.getD x z23)) else m)
def wO (l : List S23) (lots : List Int) : Nat → Nat → Int → Int
  | 0, _, m => m
  | d + 1, i, m => wO l lots d (i + 1) (wI l lots i i 0 m)
def worst (l : List S23) (lots : List Int) : Int := wO l lots l.length 0 0

theorem worst_in (l : List S23) (lots : List Int) (hl : l.length ≤ 100) (hn : lots.length = l.length) (i : Nat) (hi : i < l.length) (n y : Int) (r : Int × Int) (d : Nat) : ∀ (x : Nat) (m : Int), x + d = i →
    Ev (fun k => shade_Worst.l0 k l lots (wI l lots i d x m) n (wrap64 (y + 1))) r → Ev (fun k => shade_Worst.l1 k l lots m i n y i x) r := by
  induction d with
  | zero =>
    intro x m hd h
    refine ev_succ ?_
    simp (disch := omega) only [shade_Worst.l1, if_neg]
    exact h
  | succ d ih =>
    intro x m hd h
    have e1 : ((x : Int) + 1) = ((x + 1 : Nat) : Int) := by omega
    refine ev_succ ?_
    by_cases he : lots.getD i 0 = lots.getD x 0
    · simp (disch := first | omega | assumption) only [shade_Worst.l1, if_pos, rd_nat, rdT_nat, D_eq, Option.bind_some, wrap64_of, e1]
      refine ih (x + 1) _ (by omega) ?_
      unfold wI at h
      rw [if_pos he] at h
      exact h
    · simp (disch := first | omega | assumption) only [shade_Worst.l1, if_pos, if_neg, rd_nat, rdT_nat, D_eq, Option.bind_some, wrap64_of, e1]
      refine ih (x + 1) _ (by omega) ?_
      unfold wI at h
      rw [if_neg he] at h
      exact h
theorem worst_out (l : List S23) (lots : List Int) (hl : l.length ≤ 100) (hn : lots.length = l.length) (d : Nat) : ∀ (i : Nat) (m : Int), i + d = l.length →
    Ev (fun k => shade_Worst.l0 k l lots m l.length i) (wO l lots d i m, 0) := by
  induction d with
  | zero =>
    intro i m hd
    refine ev_succ ?_
    simp (disch := omega) only [shade_Worst.l0, if_neg]
    exact Ev.now _
  | succ d ih =>
    intro i m hd
    have e1 : ((i : Int) + 1) = ((i + 1 : Nat) : Int) := by omega
    refine ev_succ ?_
    simp (disch := omega) only [shade_Worst.l0, if_pos]
    refine worst_in l lots hl hn i (by omega) _ _ _ i 0 m (by omega) ?_
    rw [wrap64_of (by omega), e1]
    exact ih (i + 1) _ (by omega)
theorem worst_ok (l : List S23) (lots : List Int) (hl : l.length ≤ 100) (hn : lots.length = l.length) : Ev (fun k => shade_Worst.f k l lots) (worst l lots, 0) := by
  simp (disch := omega) only [shade_Worst.f, if_pos]
  exact worst_out l lots hl hn l.length 0 0 (by omega)
theorem worst_other (l : List S23) (lots : List Int) (hn : lots.length ≠ l.length) : Ev (fun k => shade_Worst.f k l lots) (0, 1) := by
  simp (disch := omega) only [shade_Worst.f, if_neg]
  exact Ev.now _

/-- What the worst distance is of: no pair of one lot is farther apart, and it is 0 or a pair's. -/
theorem wI_of (l : List S23) (lots : List Int) (i : Nat) (d : Nat) : ∀ (x : Nat) (m : Int), m ≤ wI l lots i d x m ∧ (∀ k, x ≤ k → k < x + d → lots.getD i 0 = lots.getD k 0 → D (l.getD i z23) (l.getD k z23) ≤ wI l lots i d x m) ∧
    (wI l lots i d x m = m ∨ ∃ k, x ≤ k ∧ k < x + d ∧ lots.getD i 0 = lots.getD k 0 ∧ wI l lots i d x m = D (l.getD i z23) (l.getD k z23)) := by
  induction d with
  | zero => exact fun x m => ⟨Int.le_refl _, fun k h1 h2 => by omega, .inl rfl⟩
  | succ d ih =>
    intro x m
    obtain ⟨h1, h2, h3⟩ := ih (x + 1) (if lots.getD i 0 = lots.getD x 0 then mx m (D (l.getD i z23) (l.getD x z23)) else m)
    have e : wI l lots i (d + 1) x m = wI l lots i d (x + 1) (if lots.getD i 0 = lots.getD x 0 then mx m (D (l.getD i z23) (l.getD x z23)) else m) := rfl
    rw [← e] at h1 h2 h3
    generalize wI l lots i (d + 1) x m = W at *
    by_cases he : lots.getD i 0 = lots.getD x 0
    · rw [if_pos he] at h1 h3
      have hm : m ≤ mx m (D (l.getD i z23) (l.getD x z23)) ∧ D (l.getD i z23) (l.getD x z23) ≤ mx m (D (l.getD i z23) (l.getD x z23)) := by unfold mx; split <;> omega
      refine ⟨by omega, fun k g1 g2 g3 => ?_, ?_⟩
      · by_cases ek : k = x
        · subst ek; omega
        · exact h2 k (by omega) (by omega) g3
      · rcases h3 with h3 | ⟨k, g1, g2, g3, g4⟩
        · have hm2 : mx m (D (l.getD i z23) (l.getD x z23)) = m ∨ mx m (D (l.getD i z23) (l.getD x z23)) = D (l.getD i z23) (l.getD x z23) := by unfold mx; split <;> simp
          rcases hm2 with hm2 | hm2
          · left; omega
          · right; exact ⟨x, by omega, by omega, he, by omega⟩
        · right; exact ⟨k, by omega, by omega, g3, g4⟩
    · rw [if_neg he] at h1 h3
      refine ⟨h1, fun k g1 g2 g3 => ?_, ?_⟩
      · by_cases ek : k = x
        · subst ek; exact absurd g3 he
        · exact h2 k (by omega) (by omega) g3
      · rcases h3 with h3 | ⟨k, g1, g2, g3, g4⟩
        · exact .inl h3
        · right; exact ⟨k, by omega, by omega, g3, g4⟩
theorem wO_of (l : List S23) (lots : List Int) (d : Nat) : ∀ (i : Nat) (m : Int), m ≤ wO l lots d i m ∧ (∀ j k, i ≤ j → j < i + d → k < j → lots.getD j 0 = lots.getD k 0 → D (l.getD j z23) (l.getD k z23) ≤ wO l lots d i m) ∧
    (wO l lots d i m = m ∨ ∃ j k, i ≤ j ∧ j < i + d ∧ k < j ∧ lots.getD j 0 = lots.getD k 0 ∧ wO l lots d i m = D (l.getD j z23) (l.getD k z23)) := by
  induction d with
  | zero => exact fun i m => ⟨Int.le_refl _, fun j k h1 h2 => by omega, .inl rfl⟩
  | succ d ih =>
    intro i m
    obtain ⟨h1, h2, h3⟩ := ih (i + 1) (wI l lots i i 0 m)
    obtain ⟨g1, g2, g3⟩ := wI_of l lots i i 0 m
    have e : wO l lots (d + 1) i m = wO l lots d (i + 1) (wI l lots i i 0 m) := rfl
    rw [← e] at h1 h2 h3
    generalize wO l lots (d + 1) i m = W at *
    generalize wI l lots i i 0 m = V at *
    refine ⟨by omega, fun j k a1 a2 a3 a4 => ?_, ?_⟩
    · by_cases ej : j = i
      · subst ej
        have := g2 k (by omega) (by omega) a4
        omega
      · exact h2 j k (by omega) (by omega) a3 a4
    · rcases h3 with h3 | ⟨j, k, a1, a2, a3, a4, a5⟩
      · rcases g3 with g3 | ⟨k, b1, b2, b3, b4⟩
        · left; omega
        · right; exact ⟨i, k, by omega, by omega, by omega, b3, by omega⟩
      · right; exact ⟨j, k, by omega, by omega, a3, a4, a5⟩

theorem awake_ok : Ev (fun k => garmentlaw29_awake.f k) true := by
  refine Ev.of (fun k => garmentlaw29_awake.mono k) (k := 60) ?_
  decide +kernel
end Go.Proofs.Ytoekbmgcfinfmaa.ShBase
