/- The deferred closure of layer 6's Decode: it finds a panic and lays the results, or finds none. -/
import Derived.Test.YtcmlonloiamchaaDoorCoReader
import Derived.Defers
import Derived.Recover
import Derived.BigRegion
namespace Go.Proofs.YtcmlonloiamchaaDoor.CoHand
open Go.RowKit Go.Proofs.YtcmlonloiamchaaDoorW.PrintWords Go.Proofs.YtcmlonloiamchaaDoorW.PrintLast Go.Proofs.YtcmlonloiamchaaDoorW.PrintMore Go.Proofs.YtcmlonloiamchaaDoor.Co
set_option linter.unusedVariables false
set_option linter.unusedSimpArgs false

theorem ta_nil (w : World) : (Instr.typeAssert Value.nilIface 20 43 true).run Tryd.prog w = .ok (.tuple #[.agg #[.int .i64 0], .bool false]) w := by kernel_rfl
theorem ta_some (c : Int) (w : World) : (Instr.typeAssert (.iface 43 (.agg #[.int .i64 c])) 20 43 true).run Tryd.prog w = .ok (.tuple #[.agg #[.int .i64 c], .bool true]) w := by kernel_rfl

theorem dclose_idle (p q : Addr) (w : World) :
    CallsD Tryd.prog 20 #[.pointer (some p), .pointer (some q)] .returning w fun e u' w' => e = .returned (.tuple #[]) ∧ u' = .returning ∧ w' = w.alloc (.cells #[.int .i64 0] 43) := by
  refine callsD_of_wpS Tryd.func20 rfl fun c₀ cs hu => ?_
  apply wpS_seq
  apply wpS_region
  simp [wpOpsS, go_sem, recoverD, hu, Tryd.ntmps20, Exit.thenS, ta_nil]
  apply wpS_seq
  apply wpS_region
  simp [wpOpsS, go_sem, Exit.thenS]
  refine wpS_cond (t := false) (by simp [Act.eval, Array.replicate]) ?_
  simp only [Bool.false_eq_true, if_false]
  refine wpS_of_wp (wp_skip ?_)
  cases c₀
  simp_all [bodyPostS, results, Tryd.results20]

set_option maxHeartbeats 1000000 in
theorem dclose_panic (c : Int) (older : List PanicEntry) (N E : Nat) (cs_ : Array Value) (x : Value) (w : World) (hN : w.heap[N]? = some (.cells cs_ 25 (0, 0))) (h3 : cs_.size = 3) (hE : w.heap[E]? = some (.cells #[x] 26 (0, 0))) (hNE : ¬ N = E) :
    CallsD Tryd.prog 20 #[.pointer (some ⟨N, 0, none⟩), .pointer (some ⟨E, 0, none⟩)] (.panicking ({ v := .iface 43 (.agg #[.int .i64 c]), recovered := false } :: older)) w fun e u' w' =>
      e = .returned (.tuple #[]) ∧ u' = .panicking ({ v := .iface 43 (.agg #[.int .i64 c]), recovered := true } :: older) ∧
      w'.heap[N]? = some (.cells #[.bool false, .string ⟨#[]⟩, .slice none 0 0] 25 (0, 0)) ∧ w'.heap[E]? = some (.cells #[.int .i64 c] 26 (0, 0)) ∧ (∀ B, B ≤ N → B ≤ E → ∀ w0 : World, Below B w0 w → Below B w0 w') := by
  refine callsD_of_wpS Tryd.func20 rfl fun c₀ cs hu => ?_
  apply wpS_seq
  apply wpS_region
  simp [wpOpsS, go_sem, recoverD, hu, Tryd.ntmps20, Exit.thenS, ta_some]
  apply wpS_seq
  apply wpS_region
  simp [wpOpsS, go_sem, Exit.thenS]
  refine wpS_cond (t := true) (by simp [Act.eval, Array.replicate]) ?_
  simp only [if_true]
  refine wpS_of_wp ?_
  simp [Array.replicate]
  have hNl := blk_lt hN
  have hEl := blk_lt hE
  have hNW := blk_alloc hN (.cells #[.int .i64 c] 43)
  have hEW := blk_alloc hE (.cells #[.int .i64 c] 43)
  have hVW := blk_new w (.cells #[.int .i64 c] 43)
  have hBW : Hid (∀ B, B ≤ N → ∀ w0 : World, Below B w0 w → Below B w0 (w.alloc (.cells #[.int .i64 c] 43))) := Lib.hid (fun B hB w0 h => h.alloc (by omega) _)
  have a1 : ¬ w.heap.size = N := by omega
  have a2 : ¬ w.heap.size = E := by omega
  have a1' : ¬ N = w.heap.size := by omega
  have a2' : ¬ E = w.heap.size := by omega
  have hEN : ¬ E = N := fun e => hNE e.symm
  generalize w.alloc (.cells #[.int .i64 c] 43) = W at hNW hEW hVW hBW ⊢
  generalize w.heap.size = V at *
  obtain ⟨x0, x1, x2, rfl⟩ : ∃ x0 x1 x2, cs_ = #[x0, x1, x2] := by
    match cs_, h3 with
    | ⟨[x0, x1, x2]⟩, _ => exact ⟨x0, x1, x2, rfl⟩
  have HN := Lib.hid hNW
  have HE := Lib.hid hEW
  have n0 : W.cell? ⟨N, 0, none⟩ = some x0 := (blk_cell hNW 0).trans rfl
  have n1 : W.cell? ⟨N, 1, none⟩ = some x1 := (blk_cell hNW 1).trans rfl
  have n2 : W.cell? ⟨N, 2, none⟩ = some x2 := (blk_cell hNW 2).trans rfl
  have e0 : W.cell? ⟨E, 0, none⟩ = some x := (blk_cell hEW 0).trans rfl
  have v0 : W.cell? ⟨V, 0, none⟩ = some (.int .i64 c) := (blk_cell hVW 0).trans rfl
  have f0 := blk_frozen hNW 0
  have f1 := blk_frozen hNW 1
  have f2 := blk_frozen hNW 2
  have f3 := blk_frozen hEW 0
  clear hN hE hNW hEW hVW h3
  go_wp2
  go_region
  refine ⟨rfl, _, rfl, .tuple #[], by simp [results, Tryd.results20], rfl, rfl, ?_, ?_, ?_⟩
  · exact blk_drew (blk_far (p := ⟨E, 0, none⟩) (blk_put (blk_put (blk_put HN.out 0 _ rfl) 1 _ rfl) 2 _ rfl) (fun e => hNE e) _)
  · exact blk_drew (blk_put (blk_far (p := ⟨N, 2, none⟩) (blk_far (p := ⟨N, 1, none⟩) (blk_far (p := ⟨N, 0, none⟩) HE.out (fun e => hEN e) _) (fun e => hEN e) _) (fun e => hEN e) _) 0 _ rfl)
  · intro B b1 b2 w0 h
    exact ((((hBW.out B b1 w0 h).setCell b1 _).setCell b1 _).setCell b1 _ |>.setCell b2 _).drew
end Go.Proofs.YtcmlonloiamchaaDoor.CoHand
