/- From what a parameter reads as to the kind of its value: every value of a type that reads as data has the kind that the printed contracts ask for. -/
import Derived.Test.YtcmlonloiamchaaDoorWWords
import Derived.Deep.Slices
import Derived.Lib.SmallJoins
namespace Go.Proofs.YtcmlonloiamchaaDoor.Opens
open Go.RowKit Go.Proofs.YtcmlonloiamchaaDoorW.PrintWords
set_option linter.unusedVariables false

/-- Whatever of type t reads as data is of kind k, and its value is well formed. -/
def Opens (P : Program) {α : Type} (k : Kd α) (wf : α → Prop) (t : TypeId) : Prop :=
  ∀ {H : Type} (enc : TypeId × Value → H) (w : World) (held : Bool) (fuel : Nat) (cs : List Value) (x : DataW H × List MemPlace),
    DataW.trod enc P w 0 (fun _ => true) held fuel t cs = some x → ∃ y, wf y ∧ k.K w y cs
/-- The same for some fields of a struct, which lie from a place on. -/
def OpensF (P : Program) {α : Type} (k : Kd α) (wf : α → Prop) (off : Nat) (fs : List Field) : Prop :=
  ∀ {H : Type} (enc : TypeId × Value → H) (w : World) (held : Bool) (fuel : Nat) (cs : List Value),
    (∀ f ∈ fs, ∃ x, DataW.trod enc P w 0 (fun _ => true) held fuel f.type ((cs.drop f.offset).take (P.cellsOf f.type)) = some x) → ∃ y, wf y ∧ k.K w y ((cs.drop off).take k.sz)

variable {P : Program}

theorem opens_int {t : TypeId} {k : IntKind} (ht : P.underlying t = some (.int k)) : Opens P (Kd.int k) (fun n => (Lit.int k n).wf = true) t := by
  intro H enc w held fuel cs x h
  obtain ⟨n, rfl, _, hw⟩ := DataW.trod_int ht h
  exact ⟨n, hw, rfl⟩
theorem opens_bool {t : TypeId} (ht : P.underlying t = some .bool) : Opens P Kd.bool (fun _ => True) t := by
  intro H enc w held fuel cs x h
  obtain ⟨b, rfl, _⟩ := DataW.trod_bool ht h
  exact ⟨b, trivial, rfl⟩
theorem opens_string {t : TypeId} (ht : P.underlying t = some .string) : Opens P Kd.string (fun s => s.size ≤ maxLen) t := by
  intro H enc w held fuel cs x h
  obtain ⟨s, rfl, _, hs⟩ := DataW.trod_string ht h
  exact ⟨s, hs, rfl⟩
theorem opens_iso {α β : Type} {k : Kd α} {wf : α → Prop} {t : TypeId} (h : Opens P k wf t) (f : β → α) (g : α → β) (hg : ∀ a, f (g a) = a) : Opens P (Kd.iso k f) (fun y => wf (f y)) t := by
  intro H enc w held fuel cs x hx
  obtain ⟨y, hy, hk⟩ := h enc w held fuel cs x hx
  exact ⟨g y, by show wf (f (g y)); rw [hg]; exact hy, by show k.K w (f (g y)) cs; rw [hg]; exact hk⟩
theorem opens_wf {α : Type} {k : Kd α} {wf wf' : α → Prop} {t : TypeId} (h : Opens P k wf t) (hi : ∀ a, wf a → wf' a) : Opens P k wf' t := by
  intro H enc w held fuel cs x hx
  obtain ⟨y, hy, hk⟩ := h enc w held fuel cs x hx
  exact ⟨y, hi y hy, hk⟩
theorem opensF_one {α : Type} {k : Kd α} {wf : α → Prop} {t : TypeId} {off : Nat} {f : Field} (h : Opens P k wf t) (hf : f.type = t) (ho : f.offset = off) (hc : P.cellsOf t = k.sz) : OpensF P k wf off [f] := by
  intro H enc w held fuel cs hx
  obtain ⟨x, hx⟩ := hx f (by simp)
  rw [hf, ho, hc] at hx
  exact h enc w held fuel _ x hx
theorem opensF_cons {α β : Type} {k : Kd α} {kr : Kd β} {wf : α → Prop} {wr : β → Prop} {t : TypeId} {off : Nat} {f : Field} {fs : List Field} (h : Opens P k wf t) (hf : f.type = t) (ho : f.offset = off) (hc : P.cellsOf t = k.sz)
    (hr : OpensF P kr wr (off + k.sz) fs) : OpensF P (Kd.pair k kr) (fun y => wf y.1 ∧ wr y.2) off (f :: fs) := by
  intro H enc w held fuel cs hx
  obtain ⟨x, hx0⟩ := hx f (by simp)
  rw [hf, ho, hc] at hx0
  obtain ⟨y, hy, hk⟩ := h enc w held fuel _ x hx0
  obtain ⟨z, hz, hkz⟩ := hr enc w held fuel cs (fun f' hf' => hx f' (by simp [hf']))
  refine ⟨(y, z), ⟨hy, hz⟩, (cs.drop off).take k.sz, (cs.drop (off + k.sz)).take kr.sz, ?_, hk, hkz⟩
  show (cs.drop off).take (k.sz + kr.sz) = _
  rw [List.take_add, List.drop_drop]
theorem opens_struct {α : Type} {k : Kd α} {wf : α → Prop} {t : TypeId} {fs : Array Field} (ht : P.underlying t = some (.struct fs)) (hc : P.cellsOf t = k.sz) (h : OpensF P k wf 0 fs.toList) : Opens P k wf t := by
  intro H enc w held fuel cs x hx
  obtain ⟨xs, n, rfl, _, hl, hn, hf⟩ := DataW.trod_struct ht hx
  have := h enc w held n cs (fun f hf' => by
    obtain ⟨i, hi, e⟩ := List.mem_iff_getElem.1 hf'
    have hi' : i < fs.size := by simpa using hi
    have e' : fs[i]? = some f := by rw [Array.getElem?_eq_getElem hi']; rw [← e]; simp
    exact ⟨xs[i]'(by omega), by rw [hf i f e', List.getElem?_eq_getElem (by omega)]⟩)
  rw [List.drop_zero, List.take_of_length_le (by omega)] at this
  exact this
theorem opens_slice {α : Type} {k : Kd α} {wf : α → Prop} {t e : TypeId} (ht : P.underlying t = some (.slice e)) (hc : P.cellsOf e = k.sz) (h : Opens P k wf e) :
    Opens P (Kd.slice e k) (fun xs => xs.length ≤ maxLen ∧ ∀ x ∈ xs, wf x) t := by
  intro H enc w held fuel cs x hx
  rcases Deep.open_slice ht hx with ⟨rfl, _⟩ | ⟨a, len, cap, m, n, D, Pl, rfl, _, hl, hm, hmm, _, hel⟩
  · exact ⟨[], ⟨by simp, by simp⟩, none, 0, rfl, by simp, rfl, by simp, fun h => by simp at h⟩
  · have key : ∀ i, i < len → ∃ y, wf y ∧ ∃ c, c.length = k.sz ∧ k.K w y c ∧ ∀ j u, c[j]? = some u → w.cell? (a.add (i * k.sz + j)) = some u := by
      intro i hi
      obtain ⟨cs', h1, h2⟩ := hel i (by rw [hmm]; simp; omega)
      obtain ⟨y, hy, hk⟩ := h enc w held n cs' _ h2
      rw [hc] at h1
      obtain ⟨_, hlen, hcell⟩ := World.cells?_some h1
      refine ⟨y, hy, cs', hlen, hk, fun j u hj => ?_⟩
      have hjl : j < k.sz := by
        have := (List.getElem?_eq_some_iff.1 hj).1
        omega
      have := hcell j hjl
      rw [Deep.add_add] at this
      rw [this, hj]
    have build : ∀ d, d ≤ len → ∃ ys : List α, ys.length = d ∧ (∀ y ∈ ys, wf y) ∧ ∀ j p, ys[j]? = some p → ∃ c, c.length = k.sz ∧ k.K w p c ∧ ∀ i u, c[i]? = some u → w.cell? (a.add (j * k.sz + i)) = some u := by
      intro d
      induction d with
      | zero => exact fun _ => ⟨[], rfl, by simp, fun j p h => by simp at h⟩
      | succ d ih =>
        intro hd
        obtain ⟨ys, hy1, hy2, hy3⟩ := ih (by omega)
        obtain ⟨y, hy, c, hc1, hc2, hc3⟩ := key d (by omega)
        refine ⟨ys ++ [y], by simp [hy1], fun z hz => ?_, fun j p hj => ?_⟩
        · rcases List.mem_append.1 hz with hz | hz
          · exact hy2 z hz
          · rw [List.mem_singleton.1 hz]; exact hy
        · rcases Nat.lt_or_ge j ys.length with hj' | hj'
          · rw [List.getElem?_append_left hj'] at hj
            exact hy3 j p hj
          · rw [List.getElem?_append_right hj'] at hj
            have hj0 : j - ys.length = 0 := by
              have := (List.getElem?_eq_some_iff.1 hj).1
              simp at this
              omega
            rw [hj0] at hj
            simp at hj
            subst hj
            have : j = d := by omega
            subst this
            exact ⟨c, hc1, hc2, hc3⟩
    obtain ⟨ys, hy1, hy2, hy3⟩ := build len (Nat.le_refl _)
    refine ⟨ys, ⟨by omega, hy2⟩, some a, cap, by rw [hy1], by omega, rfl, ?_, fun _ => ⟨a, rfl, hy3⟩⟩
    rw [hy1]
    have : maxLen ≤ 9223372036854775807 := by decide
    omega

end Go.Proofs.YtcmlonloiamchaaDoor.Opens
