/- The deferred closure of layer 6's Encode, and Encode itself. -/
import Derived.Test.YtcmlonloiamchaaDoorCoEncode
import Derived.Test.YtcmlonloiamchaaDoorCoClose
import Derived.Defers
import Derived.Recover
import Derived.BigRegion
namespace Go.Proofs.YtcmlonloiamchaaDoor.CoHand
open Go.RowKit Go.Proofs.YtcmlonloiamchaaDoorW.PrintWords Go.Proofs.YtcmlonloiamchaaDoorW.PrintLast Go.Proofs.YtcmlonloiamchaaDoorW.PrintMore Go.Proofs.YtcmlonloiamchaaDoor.Co
set_option linter.unusedVariables false
set_option linter.unusedSimpArgs false

theorem eclose_idle (p q : Addr) (w : World) :
    CallsD Tryd.prog 24 #[.pointer (some p), .pointer (some q)] .returning w fun e u' w' => e = .returned (.tuple #[]) ∧ u' = .returning ∧ w' = w.alloc (.cells #[.int .i64 0] 43) := by
  refine callsD_of_wpS Tryd.func24 rfl fun c₀ cs hu => ?_
  apply wpS_seq
  apply wpS_region
  simp [wpOpsS, go_sem, recoverD, hu, Tryd.ntmps24, Exit.thenS, ta_nil]
  apply wpS_seq
  apply wpS_region
  simp [wpOpsS, go_sem, Exit.thenS]
  refine wpS_cond (t := false) (by simp [Act.eval, Array.replicate]) ?_
  simp only [Bool.false_eq_true, if_false]
  refine wpS_of_wp (wp_skip ?_)
  cases c₀
  simp_all [bodyPostS, results, Tryd.results24]

set_option maxHeartbeats 1000000 in
theorem eclose_panic (c : Int) (older : List PanicEntry) (N E : Nat) (x0 : Value) (x : Value) (w : World) (hN : w.heap[N]? = some (.cells #[x0] 9 (0, 0))) (hE : w.heap[E]? = some (.cells #[x] 26 (0, 0))) (hNE : ¬ N = E) :
    CallsD Tryd.prog 24 #[.pointer (some ⟨N, 0, none⟩), .pointer (some ⟨E, 0, none⟩)] (.panicking ({ v := .iface 43 (.agg #[.int .i64 c]), recovered := false } :: older)) w fun e u' w' =>
      e = .returned (.tuple #[]) ∧ u' = .panicking ({ v := .iface 43 (.agg #[.int .i64 c]), recovered := true } :: older) ∧
      w'.heap[N]? = some (.cells #[.string ⟨#[]⟩] 9 (0, 0)) ∧ w'.heap[E]? = some (.cells #[.int .i64 c] 26 (0, 0)) ∧ (∀ B, B ≤ N → B ≤ E → ∀ w0 : World, Below B w0 w → Below B w0 w') := by
  refine callsD_of_wpS Tryd.func24 rfl fun c₀ cs hu => ?_
  apply wpS_seq
  apply wpS_region
  simp [wpOpsS, go_sem, recoverD, hu, Tryd.ntmps24, Exit.thenS, ta_some]
  apply wpS_seq
  apply wpS_region
  simp [wpOpsS, go_sem, Exit.thenS]
  refine wpS_cond (t := true) (by simp [Act.eval, Array.replicate]) ?_
  simp only [if_true]
  refine wpS_of_wp ?_
  simp [Array.replicate]
  have hNl := blk_lt hN
  have hEl := blk_lt hE
  have hNW := blk_alloc hN (.cells #[.int .i64 c] 43)
  have hEW := blk_alloc hE (.cells #[.int .i64 c] 43)
  have hVW := blk_new w (.cells #[.int .i64 c] 43)
  have hBW : Hid (∀ B, B ≤ N → ∀ w0 : World, Below B w0 w → Below B w0 (w.alloc (.cells #[.int .i64 c] 43))) := Lib.hid (fun B hB w0 h => h.alloc (by omega) _)
  have a1 : ¬ w.heap.size = N := by omega
  have a2 : ¬ w.heap.size = E := by omega
  have a1' : ¬ N = w.heap.size := by omega
  have a2' : ¬ E = w.heap.size := by omega
  have hEN : ¬ E = N := fun e => hNE e.symm
  generalize w.alloc (.cells #[.int .i64 c] 43) = W at hNW hEW hVW hBW ⊢
  generalize w.heap.size = V at *
  have HN := Lib.hid hNW
  have HE := Lib.hid hEW
  have n0 : W.cell? ⟨N, 0, none⟩ = some x0 := (blk_cell hNW 0).trans rfl
  have e0 : W.cell? ⟨E, 0, none⟩ = some x := (blk_cell hEW 0).trans rfl
  have v0 : W.cell? ⟨V, 0, none⟩ = some (.int .i64 c) := (blk_cell hVW 0).trans rfl
  have f0 := blk_frozen hNW 0
  have f3 := blk_frozen hEW 0
  clear hN hE hNW hEW hVW
  go_wp2
  go_region
  refine ⟨rfl, _, rfl, .tuple #[], by simp [results, Tryd.results24], rfl, rfl, ?_, ?_, ?_⟩
  · exact blk_drew (blk_far (p := ⟨E, 0, none⟩) (blk_put HN.out 0 _ rfl) (fun e => hNE e) _)
  · exact blk_drew (blk_put (blk_far (p := ⟨N, 0, none⟩) HE.out (fun e => hEN e) _) 0 _ rfl)
  · intro B b1 b2 w0 h
    exact ((hBW.out B b1 w0 h).setCell b1 _ |>.setCell b2 _).drew

def encodeD (k : Nat) (n0 : Bool) (n1 : ByteArray) (n2 : List S25) : Option (ByteArray × Int) :=
  match encD k 1 ⟨n0, n1, n2⟩ [] with
  | none => none
  | some (.error c) => some (⟨#[]⟩, c)
  | some (.ok o) => if 20000 < o.length then some (⟨#[]⟩, 5) else some (⟨o.toArray⟩, 0)

theorem results_e {P : Program} {fn : Func} {p q : Tmp} {ty te : TypeId} (h : fn.results = #[.cell p ty, .cell q te]) (tmps : Array Value) (w : World) (g e : Nat) (x y : Value)
    (hp : tmps.getD p undef = .pointer (some ⟨g, 0, none⟩)) (hq : tmps.getD q undef = .pointer (some ⟨e, 0, none⟩))
    (hk : (loadVar ty ⟨g, 0, none⟩).run P w = .ok y w) (hl : (loadVar te ⟨e, 0, none⟩).run P w = .ok x w) :
    (results fn tmps).run P w = .ok (.tuple #[y, x]) w := by
  have hp' : tmps[p]?.getD undef = .pointer (some ⟨g, 0, none⟩) := by simpa using hp
  have hq' : tmps[q]?.getD undef = .pointer (some ⟨e, 0, none⟩) := by simpa using hq
  simp [results, h, hp', hq', asAddr, hk, hl]

set_option maxRecDepth 100000 in
set_option maxHeartbeats 2000000 in
theorem encodeTop_calls (k : Nat) (n0 : Bool) (n1 : ByteArray) (A : Option Addr) (c : Nat) (n2 : List S25) (r1 : ByteArray) (r2 : Int) (w : World) (htab : Lib.TabIs Tryd.prog w "internal/strconv.uint64pow10" .u64 Lib.pow10Tab)
    (hC : Kd.C k25 w A n2.length n2) (hc : n2.length ≤ c) (h : encodeD k n0 n1 n2 = some (r1, r2)) :
    Calls Tryd.prog 15 #[.agg #[.bool n0, .string n1, .slice A n2.length c]] w fun e w' => e = .returned (.tuple #[.string r1, .int .i64 r2]) ∧ Below w.heap.size w w' := by
  have hmf : ∀ (fn : Fn) (first cap : Array Value) (w : World), (Instr.makeFunc fn first cap).run Tryd.prog w = .ok (.func fn first cap) w := fun _ _ _ _ => rfl
  unfold encodeD at h
  cases hT : encD k 1 ⟨n0, n1, n2⟩ [] with
  | none => rw [hT] at h; simp at h
  | some T =>
    rw [hT] at h
    have HT := Lib.hid hT
    have HC := Lib.hid hC
    clear hT hC
    obtain ⟨W, hW⟩ : ∃ W, ((w.alloc (.cells #[.bool n0, .string n1, .slice A n2.length c] 25)).alloc (.cells #[.string { data := #[] }] 9)).alloc (.cells #[.int .i64 0] 26) = W := ⟨_, rfl⟩
    have N0 : W.heap[w.heap.size + 1]? = some (.cells #[.string { data := #[] }] 9 (0, 0)) := by
      rw [← hW]
      have := blk_new (w.alloc (.cells #[.bool n0, .string n1, .slice A n2.length c] 25)) (.cells #[.string { data := #[] }] 9)
      exact blk_alloc (by simpa using this) _
    have E0 : W.heap[w.heap.size + 2]? = some (.cells #[.int .i64 0] 26 (0, 0)) := by
      rw [← hW]
      have := blk_new ((w.alloc (.cells #[.bool n0, .string n1, .slice A n2.length c] 25)).alloc (.cells #[.string { data := #[] }] 9)) (.cells #[.int .i64 0] 26)
      simpa using this
    have B0 : Below w.heap.size w W := by rw [← hW]; exact below_alloc (below_alloc (below_alloc (Below.refl _ _) _) _) _
    have z0 : W.heap.size = w.heap.size + 3 := by rw [← hW]; simp
    have B1 : Below w.heap.size w (W.alloc (.cells #[.pointer none, .slice none 0 0] 55)) := below_alloc B0 _
    have I0 : Lib.IsBuilder 55 5 W.heap.size W.heap.size (Lib.byteCells []) (W.alloc (.cells #[.pointer none, .slice none 0 0] 55)) := Lib.fresh_isBuilder 55 5 W
    have N1 := blk_alloc N0 (.cells #[.pointer none, .slice none 0 0] 55)
    have E1 := blk_alloc E0 (.cells #[.pointer none, .slice none 0 0] 55)
    have hne : ¬ w.heap.size + 1 = w.heap.size + 2 := by omega
    rw [z0] at I0
    have EC := encode_calls w htab (w.heap.size + 3) (by omega) k 1 ⟨n0, n1, n2⟩ A c [] _ T HC.out hc B1 I0 (by omega) HT.out
    subst hW
    have HN := Lib.hid N1
    have HE := Lib.hid E1
    have HB := Lib.hid B1
    have HEC := Lib.hid EC
    clear N0 E0 N1 E1 B0 B1 I0 z0 EC
    cases T with
    | error c3 =>
      simp only [Option.some.injEq, Prod.mk.injEq] at h
      obtain ⟨rfl, rfl⟩ := h
      go_enter_defers Tryd.func15, Tryd.ntmps15
      go_wp2_with (go_at_call 25; refine (HEC.out).mono ?_; rintro e w' ⟨rfl, hh⟩)
      have gN1 := (hh.below.block _ (by omega)).trans HN.out
      have gE1 := (hh.below.block _ (by omega)).trans HE.out
      refine leaves_cons (f := 24) (args := #[.pointer (some ⟨w.heap.size + 1, 0, none⟩), .pointer (some ⟨w.heap.size + 2, 0, none⟩)]) (by simp) (by simp [go_sem]) ?_
      refine (eclose_panic c3 [] (w.heap.size + 1) (w.heap.size + 2) _ _ _ gN1 gE1 hne).mono ?_
      rintro e u' w'' ⟨rfl, rfl, gN, gE, gB⟩
      have c0 := (blk_cell gN 0).trans rfl
      have c1 := (blk_cell gE 0).trans rfl
      exact ⟨_, results_e rfl _ _ (w.heap.size + 1) (w.heap.size + 2) _ _ rfl rfl (by simp [go_sem, c0]) (by simp [go_sem, c1]), rfl, gB w.heap.size (by omega) (by omega) w (HB.out.trans (hh.below.mono (by omega)))⟩
    | ok o =>
      by_cases c1 : 20000 < o.length
      · simp only [if_pos c1, Option.some.injEq, Prod.mk.injEq] at h
        obtain ⟨rfl, rfl⟩ := h
        have e1 : decide (20000 < (o.length : Int)) = true := decide_eq_true (by omega)
        go_enter_defers Tryd.func15, Tryd.ntmps15
        go_wp2_with (go_at_call 25; refine (HEC.out).mono ?_)
        rintro e w' ⟨rfl, o1, hh⟩
        have O1 := Lib.hid o1
        have HH := Lib.hid hh
        clear o1 hh
        go_wp2_with (first | (go_at_call 26; refine (Tryd.Builder_Len _ _ (Lib.byteCells o) _ (.inr O1.out)).mono ?_; rintro e w2 ⟨rfl, rfl⟩; rw [byte_cells_len]) | (go_at_call 22; refine (fail_calls _ _).mono ?_; rintro e w' ⟨rfl, rfl⟩))
        have gN1 := (HH.out.below.block _ (by omega)).trans HN.out
        have gE1 := (HH.out.below.block _ (by omega)).trans HE.out
        refine leaves_cons (f := 24) (args := #[.pointer (some ⟨w.heap.size + 1, 0, none⟩), .pointer (some ⟨w.heap.size + 2, 0, none⟩)]) (by simp) (by simp [go_sem]) ?_
        refine (eclose_panic 5 [] (w.heap.size + 1) (w.heap.size + 2) _ _ _ gN1 gE1 hne).mono ?_
        rintro e u' w'' ⟨rfl, rfl, gN, gE, gB⟩
        have c0 := (blk_cell gN 0).trans rfl
        have c1 := (blk_cell gE 0).trans rfl
        exact ⟨_, results_e rfl _ _ (w.heap.size + 1) (w.heap.size + 2) _ _ rfl rfl (by simp [go_sem, c0]) (by simp [go_sem, c1]), rfl, gB w.heap.size (by omega) (by omega) w (HB.out.trans (HH.out.below.mono (by omega)))⟩
      · simp only [if_neg c1, Option.some.injEq, Prod.mk.injEq] at h
        obtain ⟨rfl, rfl⟩ := h
        have e1 : decide (20000 < (o.length : Int)) = false := decide_eq_false (by omega)
        go_enter_defers Tryd.func15, Tryd.ntmps15
        go_wp2_with (go_at_call 25; refine (HEC.out).mono ?_)
        rintro e w' ⟨rfl, o1, hh⟩
        have O1 := Lib.hid o1
        have HH := Lib.hid hh
        clear o1 hh
        go_wp2_with (first | (go_at_call 26; refine (Tryd.Builder_Len _ _ (Lib.byteCells o) _ (.inr O1.out)).mono ?_; rintro e w2 ⟨rfl, rfl⟩; rw [byte_cells_len]) | (go_at_call 27; refine (Tryd.Builder_String_any _ _ o _ (.inr O1.out) (Nat.le_of_lt O1.out.lt)).mono ?_; rintro e w2 ⟨rfl, hb2⟩; have gN1 := ((hb2.block _ (by omega)).trans (HH.out.below.block _ (by omega))).trans HN.out; have gE1 := ((hb2.block _ (by omega)).trans (HH.out.below.block _ (by omega))).trans HE.out; have HN1 := Lib.hid gN1; have HE1 := Lib.hid gE1; have HB2 := Lib.hid hb2; clear hb2; have n0 := (blk_cell gN1 0).trans rfl; have e0 := (blk_cell gE1 0).trans rfl; have f0 := blk_frozen gN1 0; have f1 := blk_frozen gE1 0; clear gN1 gE1))
        have hne' : ¬ w.heap.size + 2 = w.heap.size + 1 := by omega
        refine leaves_cons (f := 24) (args := #[.pointer (some ⟨w.heap.size + 1, 0, none⟩), .pointer (some ⟨w.heap.size + 2, 0, none⟩)]) (by simp) (by simp [go_sem]) ?_
        refine (eclose_idle _ _ _).mono ?_
        rintro e u' w'' ⟨rfl, rfl, rfl⟩
        have gN := blk_alloc (blk_far (p := ⟨w.heap.size + 2, 0, none⟩) (blk_put HN1.out 0 (.string ⟨o.toArray⟩) rfl) hne (.int .i64 0)) (.cells #[.int .i64 0] 43)
        have gE := blk_alloc (blk_put (blk_far (p := ⟨w.heap.size + 1, 0, none⟩) HE1.out hne' (.string ⟨o.toArray⟩)) 0 (.int .i64 0) rfl) (.cells #[.int .i64 0] 43)
        have c0 := (blk_cell gN 0).trans rfl
        have c1 := (blk_cell gE 0).trans rfl
        refine ⟨_, results_e rfl _ _ (w.heap.size + 1) (w.heap.size + 2) (.int .i64 0) (.string ⟨o.toArray⟩) rfl rfl (by simp [go_sem, c0]) (by simp [go_sem, c1]), rfl, ?_⟩
        refine below_alloc (below_set (below_set ?_ ?_) ?_) _
        · exact HB.out.trans ((HH.out.below.mono (by omega)).trans (HB2.out.mono (by omega)))
        · omega
        · omega
end Go.Proofs.YtcmlonloiamchaaDoor.CoHand
