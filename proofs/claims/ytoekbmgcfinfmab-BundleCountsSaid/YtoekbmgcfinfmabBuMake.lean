/- What making bundles comes to. -/
import Derived.Test.YtoekbmgcfinfmabBuBase
namespace Go.Proofs.Ytoekbmgcfinfmab.BuBase
open Go.RowKit Go.Proofs.YtoekbmgcfinfmabW.PrintWords Go.Proofs.YtoekbmgcfinfmabW.PrintLast Go.Proofs.YtoekbmgcfinfmabW.PrintMore Go.Proofs.Ytoekbmgcfinfmab.Bu
set_option linter.unusedVariables false
set_option linter.unusedSimpArgs false

def lot (plies : List S45) (p : Nat) : Int := (plies.getD p z45).f0
/-- A bundle that begins at a ply goes as far as another one. -/
def Step (plies : List S45) (most : Int) (f t : Nat) : Prop :=
  f < t ∧ t ≤ plies.length ∧ (∀ p, f ≤ p → p < t → lot plies p = lot plies f) ∧ (t : Int) - f ≤ most ∧ (t = plies.length ∨ most ≤ (t : Int) - f ∨ lot plies t ≠ lot plies f)
theorem step_le {plies : List S45} {most : Int} {f t t' : Nat} (h : Step plies most f t) (h' : Step plies most f t') : t' ≤ t := by
  rcases Nat.lt_or_ge t t' with hlt | hge
  · obtain ⟨h1, h2, h3, h4, h5⟩ := h
    obtain ⟨g1, g2, g3, g4, g5⟩ := h'
    rcases h5 with h5 | h5 | h5
    · omega
    · omega
    · exact absurd (g3 t (by omega) hlt) h5
  · exact hge
/-- How many bundles there are from a ply on. -/
inductive Runs (plies : List S45) (most : Int) : Nat → Nat → Prop
  | nil : Runs plies most plies.length 0
  | cons {f t c : Nat} : Step plies most f t → Runs plies most t c → Runs plies most f (c + 1)
theorem runs_unique {plies : List S45} {most : Int} {f c : Nat} (h : Runs plies most f c) : ∀ c', Runs plies most f c' → c = c' := by
  induction h with
  | nil =>
    intro c' h'
    cases h' with
    | nil => rfl
    | cons s _ => exact absurd s.1 (by have := s.2.1; omega)
  | cons s _ ih =>
    intro c' h'
    cases h' with
    | nil => exact absurd s.1 (by have := s.2.1; omega)
    | cons s' r' =>
      have e := Nat.le_antisymm (step_le s' s) (step_le s s')
      subst e
      rw [ih _ r']

def sumG (l : List S42) (g : Int) : Int := l.foldl (fun a b => a + if b.f1 = g then b.f5 - b.f4 else 0) 0
def cntG (l : List S42) (g : Int) : Nat := l.countP (fun b => decide (b.f1 = g))
theorem sumG_snoc (l : List S42) (b : S42) (g : Int) : sumG (l ++ [b]) g = sumG l g + if b.f1 = g then b.f5 - b.f4 else 0 := by simp [sumG]
theorem cntG_snoc (l : List S42) (b : S42) (g : Int) : cntG (l ++ [b]) g = cntG l g + if b.f1 = g then 1 else 0 := by
  simp [cntG, List.countP_append, List.countP_cons]

structure MI (sizes : List Int) (plies : List S45) (most : Int) (out : List S42) (g fr : Nat) : Prop where
  len : out.length ≤ 60
  tick : ∀ i, i < out.length → (out.getD i z42).f0 = (i : Int) + 1
  ok : ∀ b, b ∈ out → 0 ≤ b.f1 ∧ b.f1 ≤ g ∧ b.f1 < sizes.length ∧ b.f2 = rd sizes b.f1 ∧ ∃ f t : Nat, b.f4 = f ∧ b.f5 = t ∧ Step plies most f t ∧ b.f3 = lot plies f
  here : ∀ b, b ∈ out → b.f1 = g → b.f5 ≤ fr
  pw : out.Pairwise Apart
  cover : ∀ g' p : Nat, p < plies.length → (g' < g ∨ (g' = g ∧ p < fr)) → ∃ b, b ∈ out ∧ Has b g' p
  sum : ∀ g' : Nat, sumG out g' = if g' < g then (plies.length : Int) else if g' = g then (fr : Int) else 0
  done : ∀ g' : Nat, g' < g → Runs plies most 0 (cntG out g')
  now : ∀ c', Runs plies most fr c' → Runs plies most 0 (cntG out g + c')

theorem mi_next {sizes : List Int} {plies : List S45} {most : Int} {out : List S42} {g : Nat} (h : MI sizes plies most out g plies.length) : MI sizes plies most out (g + 1) 0 := by
  have zero : cntG out ((g + 1 : Nat) : Int) = 0 := by
    unfold cntG
    rw [List.countP_eq_zero]
    intro b hb
    have := (h.ok b hb).2.1
    simp; omega
  refine ⟨h.len, h.tick, fun b hb => ?_, fun b hb e => ?_, h.pw, fun g' p hp hg => ?_, fun g' => ?_, fun g' hg => ?_, fun c' hc => ?_⟩
  · obtain ⟨h1, h2, h3⟩ := h.ok b hb
    exact ⟨h1, by omega, h3⟩
  · have := (h.ok b hb).2.1
    omega
  · exact h.cover g' p hp (by omega)
  · rw [h.sum g']
    repeat' split
    all_goals omega
  · by_cases e : g' = g
    · subst e
      have := h.now 0 Runs.nil
      simpa using this
    · exact h.done g' (by omega)
  · rw [zero, Nat.zero_add]; exact hc
theorem mi_snoc {sizes : List Int} {plies : List S45} {most : Int} {out : List S42} {g fr t : Nat} (h : MI sizes plies most out g fr) (hg : g < sizes.length) (hs : Step plies most fr t) (hl : out.length < 60) :
    MI sizes plies most (out ++ [⟨(out.length : Int) + 1, g, rd sizes g, lot plies fr, fr, t⟩]) g t := by
  have hs1 := hs.1
  have hs2 := hs.2.1
  refine ⟨by simp; omega, fun i hi => ?_, fun b hb => ?_, fun b hb e => ?_, ?_, fun g' p hp hg' => ?_, fun g' => ?_, fun g' hg' => ?_, fun c' hc => ?_⟩
  · simp at hi
    by_cases e : i = out.length
    · subst e; rw [getD_append_at]
    · rw [getD_append_lt _ _ _ _ (by omega)]; exact h.tick i (by omega)
  · rcases List.mem_append.1 hb with hb | hb
    · exact h.ok b hb
    · rw [List.mem_singleton.1 hb]
      exact ⟨by simp only; omega, by simp, by simp only; omega, rfl, fr, t, rfl, rfl, hs, rfl⟩
  · rcases List.mem_append.1 hb with hb | hb
    · have := h.here b hb e; omega
    · rw [List.mem_singleton.1 hb]; simp
  · rw [List.pairwise_append]
    refine ⟨h.pw, List.pairwise_singleton _ _, fun y hy b hb => ?_⟩
    rw [List.mem_singleton.1 hb]
    obtain ⟨i, hi, ei⟩ := mem_getD out z42 hy
    refine ⟨?_, fun hh => ?_⟩
    · rw [← ei, h.tick i hi]; simp; omega
    · have := h.here y hy hh.1
      have h3 := hh.2.2
      simp at h3
      omega
  · by_cases e : g' < g ∨ (g' = g ∧ p < fr)
    · obtain ⟨b, hb, hh⟩ := h.cover g' p hp e
      exact ⟨b, by simp [hb], hh⟩
    · have : g' = g := by omega
      subst this
      exact ⟨_, List.mem_append_right _ (List.mem_singleton.2 rfl), rfl, by simp; omega, by simp; omega⟩
  · rw [sumG_snoc, h.sum g']
    simp only
    repeat' split
    all_goals omega
  · rw [cntG_snoc, if_neg (by simp; omega), Nat.add_zero]; exact h.done g' hg'
  · rw [cntG_snoc, if_pos rfl, Nat.add_assoc, Nat.add_comm 1 c']
    exact h.now _ (Runs.cons hs hc)

section
variable (a0 a1 a2 a3 : Int) (sizes : List Int) (places : List S71) (plies : List S45) (most : Int)
def MR (r : List S42 × Int) : Prop := r = ([], 5) ∨ ∃ out, r = (out, 0) ∧ MI sizes plies most out sizes.length 0

theorem make_to (hs : sizes.length ≤ 900) (hp : plies.length ≤ 900) (hm : 1 ≤ most) (g fr : Nat) (out : List S42) (hg : g < sizes.length) (hfr : fr < plies.length) (h : MI sizes plies most out g fr) (d : Nat) : ∀ t : Nat, t + d = plies.length → fr < t → (∀ p, fr ≤ p → p < t → lot plies p = lot plies fr) → (t : Int) - fr ≤ most →
    (∀ (t' : Nat) (out' : List S42), fr < t' → t' ≤ plies.length → MI sizes plies most out' g t' → ∃ r, Ev (fun k => bundle_Make.l1 k most out' g (rd sizes g) t' sizes sizes.length g a0 a1 a2 a3 sizes places plies) r ∧ MR sizes plies most r) →
    ∃ r, Ev (fun k => bundle_Make.l2 k most out g (rd sizes g) fr t sizes sizes.length g a0 a1 a2 a3 sizes places plies) r ∧ MR sizes plies most r := by
  have cut : ∀ t : Nat, Step plies most fr t → (∀ (t' : Nat) (out' : List S42), fr < t' → t' ≤ plies.length → MI sizes plies most out' g t' → ∃ r, Ev (fun k => bundle_Make.l1 k most out' g (rd sizes g) t' sizes sizes.length g a0 a1 a2 a3 sizes places plies) r ∧ MR sizes plies most r) →
      ∃ r, (out.length = 60 → r = ([], 5)) ∧ (out.length < 60 → Ev (fun k => bundle_Make.l1 k most (out ++ [⟨(out.length : Int) + 1, g, rd sizes g, lot plies fr, fr, t⟩]) g (rd sizes g) t sizes sizes.length g a0 a1 a2 a3 sizes places plies) r) ∧ MR sizes plies most r := by
    intro t hst K
    have hlen := h.len
    by_cases e : out.length = 60
    · exact ⟨([], 5), fun _ => rfl, fun hl => by omega, .inl rfl⟩
    · obtain ⟨r, ev, hr⟩ := K t _ hst.1 hst.2.1 (mi_snoc h hg hst (by omega))
      exact ⟨r, fun hl => by omega, fun _ => ev, hr⟩
  induction d with
  | zero =>
    intro t hd h1 h2 h3 K
    obtain rfl : t = plies.length := by omega
    have hst : Step plies most fr plies.length := ⟨h1, Nat.le_refl _, h2, h3, .inl rfl⟩
    obtain ⟨r, r1, r2, hr⟩ := cut _ hst K
    refine ⟨r, ?_, hr⟩
    have hlen := h.len
    refine ev_succ ?_
    by_cases e : out.length = 60
    · rw [r1 e]
      simp (disch := omega) only [bundle_Make.l2, if_neg, if_pos]
      exact Ev.now _
    · have := r2 (by omega)
      simp (disch := omega) only [bundle_Make.l2, if_neg, if_pos, wrap64_of]
      exact this
  | succ d ih =>
    intro t hd h1 h2 h3 K
    have e1 : ((t : Int) + 1) = ((t + 1 : Nat) : Int) := by omega
    have hlen := h.len
    by_cases c1 : (t : Int) - fr < most
    · by_cases c2 : (rd_T45 plies (t : Int)).f0 = (rd_T45 plies (fr : Int)).f0
      · obtain ⟨r, ev, hr⟩ := ih (t + 1) (by omega) (by omega) (fun p hp1 hp2 => by
          by_cases e : p = t
          · subst e; exact c2
          · exact h2 p hp1 (by omega)) (by omega) K
        refine ⟨r, ?_, hr⟩
        refine ev_succ ?_
        simp (disch := first | omega | assumption) only [bundle_Make.l2, if_pos, wrap64_of, e1]
        exact ev
      · have hst : Step plies most fr t := ⟨h1, by omega, h2, h3, .inr (.inr c2)⟩
        obtain ⟨r, r1, r2, hr⟩ := cut t hst K
        refine ⟨r, ?_, hr⟩
        refine ev_succ ?_
        by_cases e : out.length = 60
        · rw [r1 e]
          simp (disch := first | omega | assumption) only [bundle_Make.l2, if_neg, if_pos, wrap64_of]
          exact Ev.now _
        · have := r2 (by omega)
          simp (disch := first | omega | assumption) only [bundle_Make.l2, if_neg, if_pos, wrap64_of]
          exact this
    · have hst : Step plies most fr t := ⟨h1, by omega, h2, h3, .inr (.inl (by omega))⟩
      obtain ⟨r, r1, r2, hr⟩ := cut t hst K
      refine ⟨r, ?_, hr⟩
      refine ev_succ ?_
      by_cases e : out.length = 60
      · rw [r1 e]
        simp (disch := first | omega | assumption) only [bundle_Make.l2, if_neg, if_pos, wrap64_of]
        exact Ev.now _
      · have := r2 (by omega)
        simp (disch := first | omega | assumption) only [bundle_Make.l2, if_neg, if_pos, wrap64_of]
        exact this
theorem make_from (hs : sizes.length ≤ 900) (hp : plies.length ≤ 900) (hm : 1 ≤ most) (g : Nat) (hg : g < sizes.length)
    (K : ∀ out', MI sizes plies most out' (g + 1) 0 → ∃ r, Ev (fun k => bundle_Make.l0 k most out' sizes sizes.length (g + 1 : Nat) a0 a1 a2 a3 sizes places plies) r ∧ MR sizes plies most r) (d : Nat) : ∀ (fr : Nat) (out : List S42), plies.length - fr = d → fr ≤ plies.length → MI sizes plies most out g fr →
    ∃ r, Ev (fun k => bundle_Make.l1 k most out g (rd sizes g) fr sizes sizes.length g a0 a1 a2 a3 sizes places plies) r ∧ MR sizes plies most r := by
  induction d using Nat.strongRecOn with
  | _ d ih =>
  intro fr out hd hfr h
  by_cases e : fr = plies.length
  · subst e
    obtain ⟨r, ev, hr⟩ := K out (mi_next h)
    refine ⟨r, ?_, hr⟩
    have e1 : ((g : Int) + 1) = ((g + 1 : Nat) : Int) := by omega
    refine ev_succ ?_
    simp (disch := omega) only [bundle_Make.l1, if_neg, wrap64_of, e1]
    exact ev
  · have e1 : ((fr : Int) + 1) = ((fr + 1 : Nat) : Int) := by omega
    obtain ⟨r, ev, hr⟩ := make_to a0 a1 a2 a3 sizes places plies most hs hp hm g fr out hg (by omega) h (plies.length - (fr + 1)) (fr + 1) (by omega) (by omega) (fun p hp1 hp2 => by
      have : p = fr := by omega
      rw [this]) (by omega) (fun t' out' ht ht2 h' => ih (plies.length - t') (by omega) t' out' rfl ht2 h')
    refine ⟨r, ?_, hr⟩
    refine ev_succ ?_
    simp (disch := omega) only [bundle_Make.l1, if_pos, wrap64_of, e1]
    exact ev
theorem make_all (hs : sizes.length ≤ 900) (hp : plies.length ≤ 900) (hm : 1 ≤ most) (d : Nat) : ∀ (g : Nat) (out : List S42), g + d = sizes.length → MI sizes plies most out g 0 →
    ∃ r, Ev (fun k => bundle_Make.l0 k most out sizes sizes.length g a0 a1 a2 a3 sizes places plies) r ∧ MR sizes plies most r := by
  induction d with
  | zero =>
    intro g out hd h
    obtain rfl : g = sizes.length := by omega
    refine ⟨(out, 0), ?_, .inr ⟨out, rfl, h⟩⟩
    refine ev_succ ?_
    simp (disch := omega) only [bundle_Make.l0, if_neg]
    exact Ev.now _
  | succ d ih =>
    intro g out hd h
    obtain ⟨r, ev, hr⟩ := make_from a0 a1 a2 a3 sizes places plies most hs hp hm g (by omega) (fun out' h' => ih (g + 1) out' (by omega) h') plies.length 0 out (by omega) (by omega) h
    refine ⟨r, ?_, hr⟩
    refine ev_succ ?_
    simp (disch := omega) only [bundle_Make.l0, if_pos]
    exact ev
theorem make_ok (hs : sizes.length ≤ 900) (hp : plies.length ≤ 900) (hm : 1 ≤ most) : ∃ r, Ev (fun k => bundle_Make.f k a0 a1 a2 a3 sizes places plies most) r ∧ MR sizes plies most r := by
  obtain ⟨r, ev, hr⟩ := make_all a0 a1 a2 a3 sizes places plies most hs hp hm sizes.length 0 [] (by omega)
    ⟨by simp, fun i hi => by simp at hi, fun b hb => by simp at hb, fun b hb => by simp at hb, by simp, fun g' p _ hg => by omega, fun g' => by
      simp only [sumG, List.foldl_nil]
      repeat' split
      all_goals omega, fun g' hg => by omega, fun c' hc => by simpa [cntG] using hc⟩
  refine ⟨r, ?_, hr⟩
  simp (disch := omega) only [bundle_Make.f, if_neg]
  exact ev
theorem make_no (hm : most < 1) : Ev (fun k => bundle_Make.f k a0 a1 a2 a3 sizes places plies most) ([], 3) := by
  simp (disch := omega) only [bundle_Make.f, if_pos]
  exact Ev.now _

variable {sizes plies most}
theorem mi_goods {out : List S42} (h : MI sizes plies most out sizes.length 0) : Goods sizes plies out := by
  refine ⟨fun b hb => ?_, h.pw⟩
  obtain ⟨h1, h2, h3, h4, f, t, e1, e2, hst, e3⟩ := h.ok b hb
  have hst1 := hst.1
  have hst2 := hst.2.1
  refine ⟨⟨h1, h3, by omega, by omega, by omega⟩, h4, fun p hp1 hp2 => ?_⟩
  rw [e3]; exact hst.2.2.1 p (by omega) (by omega)
theorem mi_cover {out : List S42} (h : MI sizes plies most out sizes.length 0) : Cover sizes plies out := fun g p hg hp => h.cover g p hp (.inl hg)
end
end Go.Proofs.Ytoekbmgcfinfmab.BuBase
