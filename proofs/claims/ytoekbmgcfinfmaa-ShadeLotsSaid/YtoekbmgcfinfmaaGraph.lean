/- Plain facts on finite graphs, counts and lists: how many steps lead from a place to all that are joined with it; two numberings of parts agree. -/
namespace Go.Proofs.Ytoekbmgcfinfmaa.Graph

theorem getD_set {α : Type} (xs : List α) (i j : Nat) (v d : α) : (xs.set i v).getD j d = if i = j ∧ i < xs.length then v else xs.getD j d := by
  rw [List.getD_eq_getElem?_getD, List.getD_eq_getElem?_getD, List.getElem?_set]
  by_cases h : i = j
  · subst h
    by_cases h2 : i < xs.length
    · simp [h2]
    · simp [h2]
  · simp [h]

theorem countP_lt {α : Type} {p q : α → Bool} : ∀ {l : List α}, (∀ x ∈ l, p x = true → q x = true) → (∃ x ∈ l, q x = true ∧ p x = false) → l.countP p < l.countP q
  | [], _, h => by obtain ⟨x, hx, _⟩ := h; simp at hx
  | a :: l, h1, h2 => by
    have hle : l.countP p ≤ l.countP q := List.countP_mono_left (fun x hx => h1 x (List.mem_cons_of_mem _ hx))
    obtain ⟨x, hx, hq, hp⟩ := h2
    rw [List.countP_cons, List.countP_cons]
    rcases List.mem_cons.1 hx with rfl | hx
    · simp [hq, hp]; omega
    · have := countP_lt (fun x hx => h1 x (List.mem_cons_of_mem _ hx)) ⟨x, hx, hq, hp⟩
      have ha := h1 a List.mem_cons_self
      cases e1 : p a <;> cases e2 : q a <;> simp_all <;> omega

/-- At most m steps lead from i to j. -/
def Near (n : Nat) (R : Nat → Nat → Prop) (i : Nat) : Nat → Nat → Prop
  | 0, j => i = j ∧ i < n
  | m + 1, j => ∃ k, Near n R i m k ∧ j < n ∧ (j = k ∨ R k j)
def Conn (n : Nat) (R : Nat → Nat → Prop) (i j : Nat) : Prop := ∃ m, Near n R i m j

section
variable {n : Nat} {R : Nat → Nat → Prop} {i j k m : Nat}
theorem near_lt : ∀ {m j}, Near n R i m j → j < n
  | 0, _, h => h.1 ▸ h.2
  | _ + 1, _, ⟨_, _, h, _⟩ => h
theorem near_lt0 : ∀ {m j}, Near n R i m j → i < n
  | 0, _, h => h.2
  | _ + 1, _, ⟨_, h, _, _⟩ => near_lt0 h
theorem near_succ (h : Near n R i m j) : Near n R i (m + 1) j := ⟨j, h, near_lt h, .inl rfl⟩
theorem near_le {m' : Nat} (h : Near n R i m j) (hm : m ≤ m') : Near n R i m' j := by
  induction hm with
  | refl => exact h
  | step _ ih => exact near_succ ih
theorem conn_refl (h : i < n) : Conn n R i i := ⟨0, rfl, h⟩
theorem conn_step (h : Conn n R i j) (hk : k < n) (hR : R j k) : Conn n R i k := by
  obtain ⟨m, h⟩ := h
  exact ⟨m + 1, j, h, hk, .inr hR⟩
theorem conn_one (hi : i < n) (hk : k < n) (hR : R i k) : Conn n R i k := conn_step (conn_refl hi) hk hR
theorem conn_lt (h : Conn n R i j) : j < n := by obtain ⟨m, h⟩ := h; exact near_lt h
theorem conn_lt0 (h : Conn n R i j) : i < n := by obtain ⟨m, h⟩ := h; exact near_lt0 h
theorem conn_ind {P : Nat → Prop} (h : Conn n R i j) (h0 : P i) (hs : ∀ a b, a < n → b < n → P a → R a b → P b) : P j := by
  obtain ⟨m, h⟩ := h
  induction m generalizing j with
  | zero => exact h.1 ▸ h0
  | succ m ih =>
    obtain ⟨k, hk, hj, e | e⟩ := h
    · exact e ▸ ih hk
    · exact hs k j (near_lt hk) hj (ih hk) e
theorem conn_trans (h : Conn n R i j) (h' : Conn n R j k) : Conn n R i k := conn_ind (P := fun x => Conn n R i x) h' h (fun _ _ _ hb h hR => conn_step h hb hR)
theorem conn_symm (hs : ∀ a b, R a b → R b a) (h : Conn n R i j) : Conn n R j i := by
  have hi := conn_lt0 h
  exact conn_ind (P := fun x => Conn n R x i) h (conn_refl hi) (fun a b ha hb h hR => conn_trans (conn_one hb ha (hs _ _ hR)) h)
theorem conn_mono {R' : Nat → Nat → Prop} (h : Conn n R i j) (hR : ∀ a b, R a b → R' a b) : Conn n R' i j := by
  have hi := conn_lt0 h
  exact conn_ind (P := fun x => Conn n R' i x) h (conn_refl hi) (fun a b ha hb h' hR' => conn_step h' hb (hR _ _ hR'))

/-- What is joined at all is joined by fewer than n steps. -/
theorem near_all (h : Conn n R i j) : Near n R i (n - 1) j := by
  classical
  have hi := conn_lt0 h
  let cnt : Nat → Nat := fun m => (List.range n).countP (fun j => decide (Near n R i m j))
  have key : ∀ m, (∃ m', m' ≤ m ∧ ∀ j, Near n R i (m' + 1) j → Near n R i m' j) ∨ m + 1 ≤ cnt m := by
    intro m
    induction m with
    | zero =>
      right
      have : 0 < (List.range n).countP (fun j => decide (Near n R i 0 j)) := List.countP_pos_iff.2 ⟨i, List.mem_range.2 hi, by simp [Near, hi]⟩
      exact this
    | succ m ih =>
      rcases ih with ⟨m', hm', hc⟩ | hc
      · exact .inl ⟨m', by omega, hc⟩
      · by_cases hcl : ∀ j, Near n R i (m + 1) j → Near n R i m j
        · exact .inl ⟨m, by omega, hcl⟩
        · right
          obtain ⟨x, hx⟩ := Classical.not_forall.1 hcl
          obtain ⟨hx1, hx2⟩ := Classical.not_imp.1 hx
          have : cnt m < cnt (m + 1) := countP_lt (fun y _ hy => by simp at hy ⊢; exact near_succ hy) ⟨x, List.mem_range.2 (near_lt hx1), by simp [hx1], by simp [hx2]⟩
          omega
  rcases key (n - 1) with ⟨m', hm', hc⟩ | hc
  · obtain ⟨m, hm⟩ := h
    have cl : ∀ m j, Near n R i m j → Near n R i m' j := by
      intro m
      induction m with
      | zero => exact fun j h => near_le h (Nat.zero_le _)
      | succ m ih =>
        rintro j ⟨k, hk, hj, e⟩
        exact hc j ⟨k, ih k hk, hj, e⟩
    exact near_le (cl m j hm) hm'
  · have hl : cnt (n - 1) ≤ n := by
      have := List.countP_le_length (p := fun j => decide (Near n R i (n - 1) j)) (l := List.range n)
      simpa using this
    have heq : (List.range n).countP (fun j => decide (Near n R i (n - 1) j)) = (List.range n).length := by
      have e : (List.range n).countP (fun j => decide (Near n R i (n - 1) j)) = cnt (n - 1) := rfl
      rw [List.length_range]; omega
    have := List.countP_eq_length.1 heq j (List.mem_range.2 (conn_lt h))
    simpa using this
end

/-- A numbering of the parts of a graph, in the order of their first members. -/
structure Parts (n : Nat) (R : Nat → Nat → Prop) (out : List Int) : Prop where
  len : out.length = n
  nonneg : ∀ i, i < n → 0 ≤ out.getD i 0
  same : ∀ i j, i < n → j < n → (out.getD i 0 = out.getD j 0 ↔ Conn n R i j)
  first : ∀ i, i < n → ∀ c, 0 ≤ c → c < out.getD i 0 → ∃ j, j < i ∧ out.getD j 0 = c

theorem parts_unique {n : Nat} {R : Nat → Nat → Prop} {a b : List Int} (ha : Parts n R a) (hb : Parts n R b) : a = b := by
  have key : ∀ i, i < n → a.getD i 0 = b.getD i 0 := by
    intro i
    induction i using Nat.strongRecOn with
    | _ i ih =>
    intro hi
    by_cases hc : ∃ j, j < i ∧ Conn n R j i
    · obtain ⟨j, hj, hcn⟩ := hc
      rw [← (ha.same j i (by omega) hi).2 hcn, ← (hb.same j i (by omega) hi).2 hcn]
      exact ih j hj (by omega)
    · rcases Int.lt_trichotomy (a.getD i 0) (b.getD i 0) with h | h | h
      · obtain ⟨j, hj, e⟩ := hb.first i hi _ (ha.nonneg i hi) h
        exact absurd ⟨j, hj, (ha.same j i (by omega) hi).1 (by rw [ih j hj (by omega), e])⟩ hc
      · exact h
      · obtain ⟨j, hj, e⟩ := ha.first i hi _ (hb.nonneg i hi) h
        exact absurd ⟨j, hj, (hb.same j i (by omega) hi).1 (by rw [← ih j hj (by omega), e])⟩ hc
  apply List.ext_getElem (by rw [ha.len, hb.len])
  intro i h1 h2
  have := key i (by rw [← ha.len]; exact h1)
  simpa [List.getD_eq_getElem?_getD, h1, h2] using this
end Go.Proofs.Ytoekbmgcfinfmaa.Graph
