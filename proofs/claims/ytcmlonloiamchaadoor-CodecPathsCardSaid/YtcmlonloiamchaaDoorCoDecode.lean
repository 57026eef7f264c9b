/- Layer 6's Decode, by the reader's contracts and its deferred closure's. -/
import Derived.Test.YtcmlonloiamchaaDoorCoNode
import Derived.Test.YtcmlonloiamchaaDoorCoClose
namespace Go.Proofs.YtcmlonloiamchaaDoor.CoHand
open Go.RowKit Go.Proofs.YtcmlonloiamchaaDoorW.PrintWords Go.Proofs.YtcmlonloiamchaaDoorW.PrintLast Go.Proofs.YtcmlonloiamchaaDoorW.PrintMore Go.Proofs.YtcmlonloiamchaaDoor.Co
set_option linter.unusedVariables false
set_option linter.unusedSimpArgs false

def decodeD (k : Nat) (s : ByteArray) : Option (Bool × ByteArray × List S25 × Int) :=
  if s.size > 20000 then some (false, ⟨#[]⟩, [], 5)
  else match nodeD s k 1 0 with
    | none => none
    | some (.error c) => some (false, ⟨#[]⟩, [], c)
    | some (.ok (n, j)) => if j < s.size then some (false, ⟨#[]⟩, [], 2) else some (n.f0, n.f1, n.f2, 0)

theorem results_d {P : Program} {fn : Func} {p q : Tmp} {ty te : TypeId} (h : fn.results = #[.cell p ty, .cell q te]) (tmps : Array Value) (w : World) (g e : Nat) (cs : Array Value) (x : Value) (d : TypeDesc)
    (hp : tmps.getD p undef = .pointer (some ⟨g, 0, none⟩)) (hq : tmps.getD q undef = .pointer (some ⟨e, 0, none⟩)) (hg : w.heap[g]? = some (.cells cs ty (0, 0))) (he : w.heap[e]? = some (.cells #[x] te (0, 0)))
    (hu : P.underlying ty = some d) (hd : (match d with | .struct _ | .array _ _ => true | _ => false) = true) (hi : (P.info? ty).map (·.size) = some cs.size)
    (hl : (loadVar te ⟨e, 0, none⟩).run P w = .ok x w) :
    (results fn tmps).run P w = .ok (.tuple #[.agg cs, x]) w := by
  have hp' : tmps[p]?.getD undef = .pointer (some ⟨g, 0, none⟩) := by simpa using hp
  have hq' : tmps[q]?.getD undef = .pointer (some ⟨e, 0, none⟩) := by simpa using hq
  simp [results, h, hp', hq', asAddr, run_loadVar_row w g ty ty cs (0, 0) d hg hu hd hi, hl]

set_option maxRecDepth 100000 in
set_option maxHeartbeats 2000000 in
theorem decode_calls (k : Nat) (s : ByteArray) (r1 : Bool) (r2 : ByteArray) (r3 : List S25) (r4 : Int) (w : World) (h : decodeD k s = some (r1, r2, r3, r4)) :
    Calls Tryd.prog 11 #[.string s] w fun e w' => ∃ v2_ : Value, e = .returned (.tuple #[.agg #[.bool r1, .string r2, v2_], .int .i64 r4]) ∧ Kd.R k25 25 w' w.heap.size (fun _ => True) v2_ r3 ∧ Below w.heap.size w w' := by
  have hmf : ∀ (fn : Fn) (first cap : Array Value) (w : World), (Instr.makeFunc fn first cap).run Tryd.prog w = .ok (.func fn first cap) w := fun _ _ _ _ => rfl
  unfold decodeD at h
  by_cases c0 : s.size > 20000
  · rw [if_pos c0] at h
    simp only [Option.some.injEq, Prod.mk.injEq] at h
    obtain ⟨rfl, rfl, rfl, rfl⟩ := h
    have e1 : decide (20000 < (s.size : Int)) = true := decide_eq_true (by omega)
    go_enter_defers Tryd.func11, Tryd.ntmps11
    go_wp2
    exact ⟨_, results_d rfl _ _ w.heap.size (w.heap.size + 1) _ _ _ rfl rfl (blk_alloc (blk_new w _) _) (by have := blk_new (w.alloc (.cells #[.bool false, .string { data := #[] }, .slice none 0 0] 25)) (.cells #[.int .i64 5] 26); simpa using this) Tryd.underlying25 rfl (by kernel_rfl) (by simp [go_sem]), _, rfl, Kd.R_nil _ _ _ _ _, below_alloc (below_alloc (Below.refl _ _) _) _⟩
  · rw [if_neg c0] at h
    have e1 : decide (20000 < (s.size : Int)) = false := decide_eq_false (by omega)
    cases hT : nodeD s k 1 0 with
    | none => rw [hT] at h; simp at h
    | some T =>
      rw [hT] at h
      have HT := Lib.hid hT
      clear hT
      have A0 : At (((w.alloc (.cells #[.bool false, .string { data := #[] }, .slice none 0 0] 25)).alloc (.cells #[.int .i64 0] 26)).alloc (.cells #[.string s, .int .i64 0] 47)) (w.heap.size + 2) s 0 := by
        have := blk_new ((w.alloc (.cells #[.bool false, .string { data := #[] }, .slice none 0 0] 25)).alloc (.cells #[.int .i64 0] 26)) (.cells #[.string s, .int .i64 0] 47)
        simpa [At] using this
      have N0 : (((w.alloc (.cells #[.bool false, .string { data := #[] }, .slice none 0 0] 25)).alloc (.cells #[.int .i64 0] 26)).alloc (.cells #[.string s, .int .i64 0] 47)).heap[w.heap.size]? = some (.cells #[.bool false, .string { data := #[] }, .slice none 0 0] 25 (0, 0)) := blk_alloc (blk_alloc (blk_new w _) _) _
      have E0 : (((w.alloc (.cells #[.bool false, .string { data := #[] }, .slice none 0 0] 25)).alloc (.cells #[.int .i64 0] 26)).alloc (.cells #[.string s, .int .i64 0] 47)).heap[w.heap.size + 1]? = some (.cells #[.int .i64 0] 26 (0, 0)) := by
        have := blk_new (w.alloc (.cells #[.bool false, .string { data := #[] }, .slice none 0 0] 25)) (.cells #[.int .i64 0] 26)
        exact blk_alloc (by simpa using this) _
      have B0 : Below w.heap.size w (((w.alloc (.cells #[.bool false, .string { data := #[] }, .slice none 0 0] 25)).alloc (.cells #[.int .i64 0] 26)).alloc (.cells #[.string s, .int .i64 0] 47)) := below_alloc (below_alloc (below_alloc (Below.refl _ _) _) _) _
      have HA := Lib.hid A0
      have HN := Lib.hid N0
      have HE := Lib.hid E0
      have HB := Lib.hid B0
      clear A0 N0 E0 B0
      cases T with
      | error c =>
        simp only [Option.some.injEq, Prod.mk.injEq] at h
        obtain ⟨rfl, rfl, rfl, rfl⟩ := h
        go_enter_defers Tryd.func11, Tryd.ntmps11
        go_wp2_with (go_at_call 21; refine (node_calls s (by omega) k 1 0 _ (w.heap.size + 2) (.error c) HA.out (by omega) (by omega) (by omega) HT.out).mono ?_; rintro e w' ⟨rfl, hh⟩)
        have hN1 := hh.keep.blk (HN.out : (_ : World).heap[w.heap.size]? = _) (by omega) (by simp)
        have hE1 := hh.keep.blk (HE.out : (_ : World).heap[w.heap.size + 1]? = _) (by omega) (by simp)
        refine leaves_cons (f := 20) (args := #[.pointer (some ⟨w.heap.size, 0, none⟩), .pointer (some ⟨w.heap.size + 1, 0, none⟩)]) (by simp) (by simp [go_sem]) ?_
        refine (dclose_panic c [] w.heap.size (w.heap.size + 1) _ _ _ hN1 rfl hE1 (by omega)).mono ?_
        rintro e u' w'' ⟨rfl, rfl, gN, gE, gB⟩
        refine ⟨_, results_d rfl _ _ w.heap.size (w.heap.size + 1) _ _ _ rfl rfl gN gE Tryd.underlying25 rfl (by kernel_rfl) ?_, _, rfl, Kd.R_nil _ _ _ _ _, gB w.heap.size (Nat.le_refl _) (Nat.le_succ _) w (HB.out.trans (hh.below.mono (by omega)))⟩
        have c0 := (blk_cell gE 0).trans rfl
        simp [go_sem, c0]
      | ok T =>
        obtain ⟨n, j⟩ := T
        simp only at h
        have a0 : ¬ w.heap.size + 2 = w.heap.size := by omega
        have a1 : ¬ w.heap.size + 1 = w.heap.size := by omega
        have a2 : ¬ w.heap.size = w.heap.size + 2 := by omega
        have a3 : ¬ w.heap.size = w.heap.size + 1 := by omega
        by_cases c1 : j < s.size
        · rw [if_pos c1] at h
          simp only [Option.some.injEq, Prod.mk.injEq] at h
          obtain ⟨rfl, rfl, rfl, rfl⟩ := h
          have e2 : decide (j < (s.size : Int)) = true := decide_eq_true c1
          go_enter_defers Tryd.func11, Tryd.ntmps11
          go_wp2_with (first | (go_at_call 21; refine (node_calls s (by omega) k 1 0 _ (w.heap.size + 2) (.ok (n, j)) HA.out (by omega) (by omega) (by omega) HT.out).mono ?_; rintro e w' ⟨v2, rfl, hv, ha, hh, hj1, hj2⟩; obtain ⟨Av, cv, ev⟩ := Kd.R_slice hv; subst ev; have HV := Lib.hid hv; have HA2 := Lib.hid ha; have HH := Lib.hid hh; have HN1 := Lib.hid (hh.keep.blk (HN.out : (_ : World).heap[w.heap.size]? = _) (by omega) (by simp)); have HE1 := Lib.hid (hh.keep.blk (HE.out : (_ : World).heap[w.heap.size + 1]? = _) (by omega) (by simp)); clear hv hh; have r0 := ha.c0; have r1 := ha.c1; clear ha; have n0 := (blk_cell HN1.out 0).trans rfl; have n1 := (blk_cell HN1.out 1).trans rfl; have n2 := (blk_cell HN1.out 2).trans rfl; have e0 := (blk_cell HE1.out 0).trans rfl; have f0 := blk_frozen HN1.out 0; have f1 := blk_frozen HN1.out 1; have f2 := blk_frozen HN1.out 2; have f3 := blk_frozen HE1.out 0) | (go_at_call 22; refine (fail_calls _ _).mono ?_; rintro e w' ⟨rfl, rfl⟩))
          refine leaves_cons (f := 20) (args := #[.pointer (some ⟨w.heap.size, 0, none⟩), .pointer (some ⟨w.heap.size + 1, 0, none⟩)]) (by simp) (by simp [go_sem]) ?_
          refine (dclose_panic 2 [] w.heap.size (w.heap.size + 1) _ _ _ (blk_put (blk_put (blk_put HN1.out 0 _ rfl) 1 _ rfl) 2 _ rfl) rfl (blk_far (p := ⟨w.heap.size, 2, none⟩) (blk_far (p := ⟨w.heap.size, 1, none⟩) (blk_far (p := ⟨w.heap.size, 0, none⟩) HE1.out a1 _) a1 _) a1 _) (by omega)).mono ?_
          rintro e u' w'' ⟨rfl, rfl, gN, gE, gB⟩
          refine ⟨_, results_d rfl _ _ w.heap.size (w.heap.size + 1) _ _ _ rfl rfl gN gE Tryd.underlying25 rfl (by kernel_rfl) ?_, _, rfl, Kd.R_nil _ _ _ _ _, gB w.heap.size (Nat.le_refl _) (Nat.le_succ _) w ((((HB.out.trans (HH.out.below.mono (by omega))).setCell (Nat.le_refl _) _).setCell (Nat.le_refl _) _).setCell (Nat.le_refl _) _)⟩
          have c0 := (blk_cell gE 0).trans rfl
          simp [go_sem, c0]
        · rw [if_neg c1] at h
          simp only [Option.some.injEq, Prod.mk.injEq] at h
          obtain ⟨rfl, rfl, rfl, rfl⟩ := h
          have e2 : decide (j < (s.size : Int)) = false := decide_eq_false c1
          go_enter_defers Tryd.func11, Tryd.ntmps11
          go_wp2_with (first | (go_at_call 21; refine (node_calls s (by omega) k 1 0 _ (w.heap.size + 2) (.ok (n, j)) HA.out (by omega) (by omega) (by omega) HT.out).mono ?_; rintro e w' ⟨v2, rfl, hv, ha, hh, hj1, hj2⟩; obtain ⟨Av, cv, ev⟩ := Kd.R_slice hv; subst ev; have HV := Lib.hid hv; have HA2 := Lib.hid ha; have HH := Lib.hid hh; have HN1 := Lib.hid (hh.keep.blk (HN.out : (_ : World).heap[w.heap.size]? = _) (by omega) (by simp)); have HE1 := Lib.hid (hh.keep.blk (HE.out : (_ : World).heap[w.heap.size + 1]? = _) (by omega) (by simp)); clear hv hh; have r0 := ha.c0; have r1 := ha.c1; clear ha; have n0 := (blk_cell HN1.out 0).trans rfl; have n1 := (blk_cell HN1.out 1).trans rfl; have n2 := (blk_cell HN1.out 2).trans rfl; have e0 := (blk_cell HE1.out 0).trans rfl; have f0 := blk_frozen HN1.out 0; have f1 := blk_frozen HN1.out 1; have f2 := blk_frozen HN1.out 2; have f3 := blk_frozen HE1.out 0) | (go_at_call 22; refine (fail_calls _ _).mono ?_; rintro e w' ⟨rfl, rfl⟩))
          refine leaves_cons (f := 20) (args := #[.pointer (some ⟨w.heap.size, 0, none⟩), .pointer (some ⟨w.heap.size + 1, 0, none⟩)]) (by simp) (by simp [go_sem]) ?_
          refine (dclose_idle _ _ _).mono ?_
          rintro e u' w'' ⟨rfl, rfl, rfl⟩
          have a4 : ∀ k, (((w.alloc (.cells #[.bool false, .string { data := #[] }, .slice none 0 0] 25)).alloc (.cells #[.int .i64 0] 26)).alloc (.cells #[.string s, .int .i64 0] 47)).heap.size ≤ k → True → k ≠ w.heap.size := fun k hk _ => by simp at hk; omega
          have a5 : ∀ k, (((w.alloc (.cells #[.bool false, .string { data := #[] }, .slice none 0 0] 25)).alloc (.cells #[.int .i64 0] 26)).alloc (.cells #[.string s, .int .i64 0] 47)).heap.size ≤ k → True → k ≠ w.heap.size + 1 := fun k hk _ => by simp at hk; omega
          have gN := blk_alloc (blk_far (p := ⟨w.heap.size + 1, 0, none⟩) (blk_put (blk_put (blk_put (blk_put (blk_put (blk_put HN1.out 0 (.bool n.f0) rfl) 1 (.string n.f1) rfl) 2 (.slice Av n.f2.length cv) rfl) 0 (.bool n.f0) rfl) 1 (.string n.f1) rfl) 2 (.slice Av n.f2.length cv) rfl) a3 (.int .i64 0)) (.cells #[.int .i64 0] 43)
          have gE := blk_alloc (blk_put (blk_far (p := ⟨w.heap.size, 2, none⟩) (blk_far (p := ⟨w.heap.size, 1, none⟩) (blk_far (p := ⟨w.heap.size, 0, none⟩) (blk_far (p := ⟨w.heap.size, 2, none⟩) (blk_far (p := ⟨w.heap.size, 1, none⟩) (blk_far (p := ⟨w.heap.size, 0, none⟩) HE1.out a1 (.bool n.f0)) a1 (.string n.f1)) a1 (.slice Av n.f2.length cv)) a1 (.bool n.f0)) a1 (.string n.f1)) a1 (.slice Av n.f2.length cv)) 0 (.int .i64 0) rfl) (.cells #[.int .i64 0] 43)
          have c0 := (blk_cell gE 0).trans rfl
          refine ⟨_, results_d rfl _ _ w.heap.size (w.heap.size + 1) _ _ _ rfl rfl gN gE Tryd.underlying25 rfl (by kernel_rfl) ?_, _, rfl, Kd.R_lower (Kd.R_alloc (row_set (row_set (row_set (row_set (row_set (row_set (row_set HV.out a4 0 _) a4 1 _) a4 2 _) a4 0 _) a4 1 _) a4 2 _) a5 0 _) _) (by simp; omega), ?_⟩
          · simp [go_sem, c0]
          · refine below_alloc (below_set ?_ (Nat.le_succ _)) _
            refine below_set (below_set (below_set (below_set (below_set (below_set (HB.out.trans (HH.out.below.mono (by omega))) ?_) ?_) ?_) ?_) ?_) ?_ <;> exact Nat.le_refl _
end Go.Proofs.YtcmlonloiamchaaDoor.CoHand
