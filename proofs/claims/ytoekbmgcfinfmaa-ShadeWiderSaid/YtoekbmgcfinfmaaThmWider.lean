/- A greater tolerance joins lots and never divides one; from 2000 on there is one lot. -/
import Derived.Test.YtoekbmgcfinfmaaShBase
import Derived.Test.YtoekbmgcfinfmaaSh21
namespace Go.Proofs.Ytoekbmgcfinfmaa.ShBase
open Go.RowKit Go.Proofs.YtoekbmgcfinfmaaW.PrintWords Go.Proofs.YtoekbmgcfinfmaaW.PrintLast Go.Proofs.YtoekbmgcfinfmaaW.PrintMore Go.Proofs.Ytoekbmgcfinfmaa.Sh Go.Proofs.Ytoekbmgcfinfmaa.Graph
set_option linter.unusedVariables false
set_option linter.unusedSimpArgs false

theorem wider_in (l : List S23) (hl : l.length ≤ 20) (t u : Int) (a b : List Int) (ha : a.length = l.length) (hb : b.length = l.length) (i : Nat) (hi : i < l.length)
    (h : ∀ k, k < i → (a.getD i 0 = a.getD k 0 → b.getD i 0 = b.getD k 0) ∧ (2000 ≤ u → b.getD i 0 = b.getD k 0)) (d : Nat) : ∀ x : Nat, x + d = i →
    Ev (fun k => garmentlaw29_ShadeWider.l0 k l u a b (i + 1 : Nat)) true → Ev (fun k => garmentlaw29_ShadeWider.l1 k l u a b i x) true := by
  induction d with
  | zero =>
    intro x hd hk
    have e1 : ((i : Int) + 1) = ((i + 1 : Nat) : Int) := by omega
    refine ev_succ ?_
    simp (disch := omega) only [garmentlaw29_ShadeWider.l1, if_neg, wrap64_of, e1]
    exact hk
  | succ d ih =>
    intro x hd hk
    have e1 : ((x : Int) + 1) = ((x + 1 : Nat) : Int) := by omega
    obtain ⟨h1, h2⟩ := h x (by omega)
    refine ev_succ ?_
    by_cases e : a.getD i 0 = a.getD x 0
    · have e2 := h1 e
      simp (disch := first | omega | assumption) only [garmentlaw29_ShadeWider.l1, if_pos, rd_nat, wrap64_of, e1, ite_self]
      exact ih (x + 1) (by omega) hk
    · by_cases hu : 2000 ≤ u
      · have e2 := h2 hu
        simp (disch := first | omega | assumption) only [garmentlaw29_ShadeWider.l1, if_pos, if_neg, rd_nat, wrap64_of, e1]
        exact ih (x + 1) (by omega) hk
      · simp (disch := first | omega | assumption) only [garmentlaw29_ShadeWider.l1, if_pos, if_neg, rd_nat, wrap64_of, e1]
        exact ih (x + 1) (by omega) hk
theorem wider_out (l : List S23) (hl : l.length ≤ 20) (t u : Int) (a b : List Int) (ha : a.length = l.length) (hb : b.length = l.length)
    (h : ∀ i k, i < l.length → k < i → (a.getD i 0 = a.getD k 0 → b.getD i 0 = b.getD k 0) ∧ (2000 ≤ u → b.getD i 0 = b.getD k 0)) (d : Nat) : ∀ x : Nat, x + d = l.length →
    Ev (fun k => garmentlaw29_ShadeWider.l0 k l u a b x) true := by
  induction d with
  | zero =>
    intro x hd
    refine ev_succ ?_
    simp (disch := omega) only [garmentlaw29_ShadeWider.l0, if_neg]
    exact Ev.bind awake_ok (Ev.now _)
  | succ d ih =>
    intro x hd
    refine ev_succ ?_
    simp (disch := omega) only [garmentlaw29_ShadeWider.l0, if_pos]
    exact wider_in l hl t u a b ha hb x (by omega) (fun k hk => h x k (by omega) hk) x 0 (by omega) (ih (x + 1) (by omega))
theorem wider_pure (l : List S23) (_ : l.length ≤ maxLen) (_ : ∀ y ∈ l, (Lit.int .i64 y.f0).wf = true ∧ (Lit.int .i64 y.f1).wf = true ∧ (Lit.int .i64 y.f2).wf = true) (t : Int) (_ : (Lit.int .i64 t).wf = true) (u : Int) (_ : (Lit.int .i64 u).wf = true) :
    ∃ k, garmentlaw29_ShadeWider.f k l t u = some true := by
  refine Ev.rounds (g := fun k => garmentlaw29_ShadeWider.f k l t u) ?_
  have idle : Ev (fun k => garmentlaw29_ShadeWider.j0 k l t u true) true := by
    refine ev_succ ?_
    simp only [garmentlaw29_ShadeWider.j0, if_true]
    exact Ev.bind awake_ok (Ev.now _)
  by_cases h1 : l.length ≤ 20
  · by_cases h2 : 0 ≤ t
    · by_cases h3 : t ≤ u
      · have e : decide (u < t) = false := by simp; omega
        simp (disch := omega) only [garmentlaw29_ShadeWider.f, if_neg, e]
        obtain ⟨a, ea, pa⟩ := lots_ok l t h1 h2
        obtain ⟨b, eb, pb⟩ := lots_ok l u h1 (by omega)
        refine ev_succ ?_
        simp only [garmentlaw29_ShadeWider.j0, Bool.false_eq_true, if_false]
        refine Ev.bind ea (Ev.bind eb ?_)
        have la := pa.len
        have lb := pb.len
        have e2 : ((b.length : Int) != (l.length : Int)) = false := by simp; omega
        simp (disch := omega) only [if_true, if_pos, e2]
        refine ev_succ ?_
        simp only [garmentlaw29_ShadeWider.j1, Bool.false_eq_true, if_false]
        refine wider_out l h1 t u a b la lb (fun i k hi hk => ⟨fun e => ?_, fun hu => ?_⟩) l.length 0 (by omega)
        · exact (pb.same i k hi (by omega)).2 (conn_mono ((pa.same i k hi (by omega)).1 e) (fun x y hxy => by unfold Adj at *; omega))
        · exact (pb.same i k hi (by omega)).2 (conn_one hi (by omega) (by have := D_rng (l.getD i z23) (l.getD k z23); unfold Adj; omega))
      · have e : decide (u < t) = true := by simp; omega
        simp (disch := omega) only [garmentlaw29_ShadeWider.f, if_neg, e]
        exact idle
    · simp (disch := omega) only [garmentlaw29_ShadeWider.f, if_neg, if_pos]
      exact idle
  · simp (disch := omega) only [garmentlaw29_ShadeWider.f, if_pos]
    exact idle
end Go.Proofs.Ytoekbmgcfinfmaa.ShBase
