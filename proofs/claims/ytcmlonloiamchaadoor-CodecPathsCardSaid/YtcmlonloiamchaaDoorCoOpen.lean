/- Trees, lists of trees and lists of numbers, as arguments read them. -/
import Derived.Test.YtcmlonloiamchaaDoorOpens
import Derived.Test.YtcmlonloiamchaaDoorCo0
namespace Go.Proofs.YtcmlonloiamchaaDoor.Opens
open Go.RowKit Go.Proofs.YtcmlonloiamchaaDoorW.PrintWords Go.Proofs.YtcmlonloiamchaaDoor.Co
set_option linter.unusedVariables false

/-- Whatever of type t reads as data within so many rounds is of kind k. -/
def OpensTo (P : Program) {α : Type} (k : Kd α) (t : TypeId) (N : Nat) : Prop :=
  ∀ {H : Type} (enc : TypeId × Value → H) (w : World) (held : Bool) (fuel : Nat) (cs : List Value) (x : DataW H × List MemPlace), fuel ≤ N →
    DataW.trod enc P w 0 (fun _ => true) held fuel t cs = some x → ∃ y, k.K w y cs
variable {P : Program}
theorem OpensTo.all {α : Type} {k : Kd α} {t : TypeId} (h : ∀ N, OpensTo P k t N) : Opens P k (fun _ => True) t := by
  intro H enc w held fuel cs x hx
  obtain ⟨y, hy⟩ := h fuel enc w held fuel cs x (Nat.le_refl _) hx
  exact ⟨y, trivial, hy⟩
theorem slice_to {α : Type} {k : Kd α} {t e : TypeId} {N : Nat} (ht : P.underlying t = some (.slice e)) (hc : P.cellsOf e = k.sz) (h : OpensTo P k e N) : OpensTo P (Kd.slice e k) t (N + 1) := by
  intro H enc w held fuel cs x hN hx
  rcases DataW.trod_slice ht hx with ⟨rfl, _⟩ | ⟨a, len, cap, elems, rest, n, rfl, rfl, _, _, hl, hm, hlen, hel, _, _⟩
  · exact ⟨[], none, 0, rfl, by simp, rfl, by simp, fun h => by simp at h⟩
  · have key : ∀ i, i < len → ∃ y, ∃ c, c.length = k.sz ∧ k.K w y c ∧ ∀ j u, c[j]? = some u → w.cell? (a.add (i * k.sz + j)) = some u := by
      intro i hi
      have h0 := hel i hi
      rw [List.getElem?_eq_getElem (by omega)] at h0
      obtain ⟨cs', h1, h2⟩ := Option.bind_eq_some_iff.1 h0
      obtain ⟨y, hk⟩ := h enc w held n cs' _ (by omega) h2
      rw [hc] at h1
      obtain ⟨_, hlen', hcell⟩ := World.cells?_some h1
      refine ⟨y, cs', hlen', hk, fun j u hj => ?_⟩
      have hjl : j < k.sz := by
        have := (List.getElem?_eq_some_iff.1 hj).1
        omega
      have := hcell j hjl
      rw [Deep.add_add] at this
      rw [this, hj]
    have build : ∀ d, d ≤ len → ∃ ys : List α, ys.length = d ∧ ∀ j p, ys[j]? = some p → ∃ c, c.length = k.sz ∧ k.K w p c ∧ ∀ i u, c[i]? = some u → w.cell? (a.add (j * k.sz + i)) = some u := by
      intro d
      induction d with
      | zero => exact fun _ => ⟨[], rfl, fun j p h => by simp at h⟩
      | succ d ih =>
        intro hd
        obtain ⟨ys, hy1, hy3⟩ := ih (by omega)
        obtain ⟨y, c, hc1, hc2, hc3⟩ := key d (by omega)
        refine ⟨ys ++ [y], by simp [hy1], fun j p hj => ?_⟩
        rcases Nat.lt_or_ge j ys.length with hj' | hj'
        · rw [List.getElem?_append_left hj'] at hj
          exact hy3 j p hj
        · rw [List.getElem?_append_right hj'] at hj
          have hj0 : j - ys.length = 0 := by
            have := (List.getElem?_eq_some_iff.1 hj).1
            simp at this
            omega
          rw [hj0] at hj
          simp at hj
          subst hj
          have : j = d := by omega
          subst this
          exact ⟨c, hc1, hc2, hc3⟩
    obtain ⟨ys, hy1, hy3⟩ := build len (Nat.le_refl _)
    refine ⟨ys, some a, cap, by rw [hy1], by omega, rfl, ?_, fun _ => ⟨a, rfl, hy3⟩⟩
    rw [hy1]
    have : maxLen ≤ 9223372036854775807 := by decide
    omega
theorem OpensTo.le {α : Type} {k : Kd α} {t : TypeId} {M N : Nat} (h : OpensTo P k t N) (hM : M ≤ N) : OpensTo P k t M := fun enc w held fuel cs x hf hx => h enc w held fuel cs x (by omega) hx
theorem tree_to (N : Nat) : OpensTo Tryd.prog k25 25 N := by
  induction N using Nat.strongRecOn with
  | _ N ih =>
  intro H enc w held fuel cs x hN hx
  obtain ⟨xs, n, rfl, _, hl, hn, hf⟩ := DataW.trod_struct Tryd.underlying25 hx
  have hc25 : Tryd.prog.cellsOf 25 = 3 := by kernel_rfl
  have hc4 : Tryd.prog.cellsOf 4 = 1 := by kernel_rfl
  have hc9 : Tryd.prog.cellsOf 9 = 1 := by kernel_rfl
  have hc23 : Tryd.prog.cellsOf 23 = 1 := by kernel_rfl
  rw [hc25] at hl
  obtain ⟨u0, u1, u2, rfl⟩ : ∃ a b c, cs = [a, b, c] := by
    match cs, hl with
    | [a, b, c], _ => exact ⟨a, b, c, rfl⟩
  have hs : xs.length = 3 := hn
  have f0 : DataW.trod enc Tryd.prog w 0 (fun _ => true) held n 4 (([u0, u1, u2].drop 0).take (Tryd.prog.cellsOf 4)) = xs[0]? := hf 0 _ rfl
  have f1 : DataW.trod enc Tryd.prog w 0 (fun _ => true) held n 9 (([u0, u1, u2].drop 1).take (Tryd.prog.cellsOf 9)) = xs[1]? := hf 1 _ rfl
  have f2 : DataW.trod enc Tryd.prog w 0 (fun _ => true) held n 23 (([u0, u1, u2].drop 2).take (Tryd.prog.cellsOf 23)) = xs[2]? := hf 2 _ rfl
  rw [hc4, List.getElem?_eq_getElem (by omega)] at f0
  rw [hc9, List.getElem?_eq_getElem (by omega)] at f1
  rw [hc23, List.getElem?_eq_getElem (by omega)] at f2
  obtain ⟨b, hb, _⟩ := DataW.trod_bool Tryd.underlying4 f0
  obtain ⟨s, hs', _⟩ := DataW.trod_string Tryd.underlying9 f1
  simp only [List.drop_zero, List.take_succ_cons, List.take_zero, List.drop_succ_cons] at hb hs' f2
  obtain rfl := (List.cons.inj hb).1
  obtain rfl := (List.cons.inj hs').1
  have hsl : OpensTo Tryd.prog (Kd.slice 25 k25) 23 n := by
    cases n with
    | zero =>
      intro H enc w held fuel cs x hN hx
      obtain rfl : fuel = 0 := by omega
      simp [DataW.trod] at hx
    | succ m => exact slice_to Tryd.underlying23 (by kernel_rfl) (ih m (by omega))
  obtain ⟨l, A, c, e, hle, hC⟩ := hsl enc w held n _ _ (Nat.le_refl _) f2
  obtain rfl := (List.cons.inj e).1
  exact ⟨⟨b, s, l⟩, k25_mk w ⟨b, s, l⟩ hle hC⟩
theorem open25 : Opens Tryd.prog k25 (fun _ => True) 25 := OpensTo.all tree_to
theorem open23 : Opens Tryd.prog (Kd.slice 25 k25) (fun l => l.length ≤ maxLen ∧ ∀ y ∈ l, True) 23 := opens_slice Tryd.underlying23 (by kernel_rfl) open25
theorem openInts {t : TypeId} (ht : Tryd.prog.underlying t = some (.slice 3)) : Opens Tryd.prog (Kd.slice 3 (Kd.int .i64)) (fun l => l.length ≤ maxLen ∧ ∀ y ∈ l, (Lit.int .i64 y).wf = true) t := opens_slice ht (by kernel_rfl) (opens_int Tryd.underlying3)
end Go.Proofs.YtcmlonloiamchaaDoor.Opens
