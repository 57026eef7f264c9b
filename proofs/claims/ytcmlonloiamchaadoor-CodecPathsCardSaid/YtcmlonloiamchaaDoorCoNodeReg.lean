/- A node of the encoding, read by the program: the element that is read and appended. -/
import Derived.Test.YtcmlonloiamchaaDoorCoReader
import Derived.Deep.RegionHeld3
import Derived.WalkSpells
namespace Go.Proofs.YtcmlonloiamchaaDoor.CoHand
open Go.RowKit Go.Proofs.YtcmlonloiamchaaDoorW.PrintWords Go.Proofs.YtcmlonloiamchaaDoorW.PrintLast Go.Proofs.YtcmlonloiamchaaDoorW.PrintMore Go.Proofs.YtcmlonloiamchaaDoor.Co
set_option linter.unusedVariables false
set_option linter.unusedSimpArgs false

mutual
def nodeD (s : ByteArray) : Nat → Int → Int → Option (Except Int (S25 × Int))
  | 0, _, _ => none
  | k + 1, lv, i => if i = s.size then some (.error 4) else if bt s i ≠ 40 ∧ (bt s i < 48 ∨ 57 < bt s i) then some (.error 2) else if lv > 12 then some (.error 5)
      else if bt s i ≠ 40 then some (match textD s i with | .error c => .error c | .ok (t, j) => .ok (⟨false, t, []⟩, j)) else kidsD s k lv (i + 1) []
def kidsD (s : ByteArray) : Nat → Int → Int → List S25 → Option (Except Int (S25 × Int))
  | 0, _, _, _ => none
  | k + 1, lv, i, acc => if i = s.size then some (.error 4) else if bt s i = 41 then some (.ok (⟨true, ⟨#[]⟩, acc⟩, i + 1))
      else if acc.length = 256 ∧ (bt s i = 40 ∨ (48 ≤ bt s i ∧ bt s i ≤ 57)) then some (.error 5)
      else match nodeD s k (lv + 1) i with
        | none => none
        | some (.error c) => some (.error c)
        | some (.ok (n, j)) => kidsD s k lv j (acc ++ [n])
end
def NodePost (w : World) (R : Nat) (s : ByteArray) (i : Int) (r : Except Int (S25 × Int)) (e : Ending) (w' : World) : Prop :=
  match r with
  | .error c => Fails c e ∧ Held w R w'
  | .ok (n, j) => ∃ v2, e = .returned (.agg #[.bool n.f0, .string n.f1, v2]) ∧ Kd.R k25 25 w' w.heap.size (fun _ => True) v2 n.f2 ∧ At w' R s j ∧ Held w R w' ∧ i < j ∧ j ≤ s.size
theorem tl_bounds (s : ByteArray) (f : Int) (hs : s.size ≤ 100000) (d : Nat) : ∀ n i m j : Int, i + d = s.size → 0 ≤ n → tl s f d n i = .ok (m, j) → i ≤ j ∧ j < s.size ∧ 0 ≤ m := by
  induction d with
  | zero => intro n i m j _ _ h; simp [tl] at h
  | succ d ih =>
    intro n i m j hd hn h
    unfold tl at h
    have hb := bt_range s i
    by_cases c1 : bt s i = 58
    · rw [if_pos c1] at h
      simp only [Except.ok.injEq, Prod.mk.injEq] at h
      omega
    · rw [if_neg c1] at h
      split at h
      · simp at h
      · split at h
        · simp at h
        · have := ih _ _ m j (by omega) (by omega) h
          omega
theorem text_bounds (s : ByteArray) (i : Int) (h0 : 0 ≤ i) (hi : i < s.size) (hs : s.size ≤ 100000) {t : ByteArray} {j : Int} (h : textD s i = .ok (t, j)) : i < j ∧ j ≤ s.size := by
  unfold textD at h
  cases hT : tl s i (s.size - i.toNat) 0 i with
  | error c => rw [hT] at h; simp at h
  | ok T =>
    obtain ⟨m, q⟩ := T
    rw [hT] at h
    simp only at h
    have := tl_bounds s i hs _ 0 i m q (by omega) (by omega) hT
    split at h
    · simp at h
    · simp only [Except.ok.injEq, Prod.mk.injEq] at h
      omega
theorem row_set {W : World} {B : Nat} {ok : Nat → Prop} {v : Value} {xs : List S25} (h : Kd.R k25 25 W B ok v xs) {b : Nat} (hb : ∀ k, B ≤ k → ok k → k ≠ b) (j : Nat) (u : Value) : Kd.R k25 25 (W.setCell ⟨b, j, none⟩ u) B ok v xs :=
  Kd.R_mono (Kd.R_far (p := ⟨b, j, none⟩) (Kd.R_bound h) (fun k hk => hb k hk.2.1 hk.1) u) (fun _ hk => hk.1)
/-- What the loop over the elements holds: the reader, the two variables and the row of elements. -/
structure Mid (w : World) (R : Nat) (s : ByteArray) (wr : World) (j : Int) (acc : List S25) (v2 : Value) : Prop where
  at_ : At wr R s j
  held : Held w R wr
  out : wr.heap[w.heap.size]? = some (.cells #[.bool false, .string { data := #[] }, .slice none 0 0] 25 (0, 0))
  var : wr.heap[w.heap.size + 1]? = some (.cells #[.bool true, .string { data := #[] }, v2] 25 (0, 0))
  row : Kd.R k25 25 wr w.heap.size (fun k => k ≠ w.heap.size ∧ k ≠ w.heap.size + 1) v2 acc

theorem Mid.drewN {w : World} {R : Nat} {s : ByteArray} {wr : World} {j : Int} {acc : List S25} {v2 : Value} (h : Mid w R s wr j acc v2) (n : Nat) : Mid w R s (wr.drewN n) j acc v2 := ⟨h.at_, h.held.drewN n, h.out, h.var, Kd.R_drewN h.row n⟩


theorem goesP_ {P : Program} {ops : Array Oper} {Q : Exit → Act → World → Prop} {oi : Oper} {N : Option Tmp} {a : Act} {w : World} {K : Act → World → Prop} {f : FuncId} {fn : Func} {as_ : Array Operand} {ts : Array TypeId} (hf : P.funcs[f]? = some fn) (hname : (fn.name == "runtime.NumGoroutine") = false) (hb : fn.body.isSome = true) (args : Array Value)
    (hw : Region.wanted oi (yielded ops a.tmps) = true) (hN : oi.dst = N) (hop : oi.op = .call { callee := .value (.func f), args := as_, argTypes := ts }) (hargs : as_.map a.eval = args)
    (h : Calls P f args w fun e w' => (∃ v, e = .returned v ∧ K (a.put N v) w') ∨ ∃ c, e = .panicked c ∧ Q (.panic c) a w') : if Region.wanted oi (yielded ops a.tmps) = true then Oper.wp P oi a w K Q else K (a.put N undef) w := by
  rw [if_pos hw]
  subst hN
  have he := enters_ hf hname hb args w
  have hrun : (execOp a.eval oi).run P w = .ok (.enter f args) w := by
    unfold execOp
    simp [hop, resolve, Deferred.ofValue, invoke, Act.eval, hargs, he]
  unfold Oper.wp
  rw [hrun, Oper.upon_enter]
  refine h.mono fun e w'' hh => ?_
  rcases hh with ⟨v, rfl, hk⟩ | ⟨c, rfl, hk⟩
  · exact hk
  · exact hk

set_option maxRecDepth 100000 in
set_option maxHeartbeats 1000000 in
theorem region14 (s : ByteArray) (w W3 : World) (R : Nat) (lv j : Int) (T : Except Int (S25 × Int)) (acc : List S25) (Av : Option Addr) (cv : Nat) (u2 u3 u5 u7 u8 u9 u10 u11 u12 u13 u14 u15 u16 u17 u18 u19 u20 u21 u22 u23 u24 u25 u26 u27 u28 u29 u30 u31 u32 u33 u34 u35 u36 u37 u38 u39 u40 u41 u42 u43 u44 u45 u46 u47 u48 u49 u50 u51 u52 u53 u54 u55 u56 u57 u58 u59 u60 u61 u62 u63 u64 u65 u66 u67 u68 u69 u70 u71 u72 u73 u74 : Value) (Q : Exit → Act → World → Prop) (hlv : 0 ≤ lv ∧ lv ≤ 100) (hlt : R < w.heap.size)
    (HL : Hid (acc.length ≤ 100000))
    (HM3 : Hid (Mid w R s W3 j acc (.slice Av acc.length cv)))
    (HI : Hid (∀ W, At W R s j → Calls Tryd.prog 21 #[.pointer (some ⟨R, 0, none⟩), .int .i64 (lv + 1)] W (NodePost W R s j T)))
    (HQp : Hid (∀ c a w d v, Q (.panic c) (a.put d v) w → Q (.panic c) a w))
    (HE : Hid (∀ c, T = .error c → ∀ a' w', a'.defers = [] → Held w R w' → Q (.panic [{ v := .iface 43 (.agg #[.int .i64 c]), recovered := false }]) a' w'))
    (HO : Hid (∀ n j', T = .ok (n, j') → ∀ (x58 x59 x60 x61 x62 x63 x64 x65 x66 : Value) w' v', Mid w R s w' j' (acc ++ [n]) v' → j < j' → j' ≤ s.size → Q .normal ⟨(.pointer (some ⟨R, 0, none⟩) :: .int .i64 lv :: u2 :: u3 :: .pointer (some ⟨w.heap.size, 0, none⟩) :: u5 :: .pointer (some ⟨w.heap.size + 1, 0, none⟩) :: u7 :: u8 :: u9 :: u10 :: u11 :: u12 :: u13 :: u14 :: u15 :: u16 :: u17 :: u18 :: u19 :: u20 :: u21 :: u22 :: u23 :: u24 :: u25 :: u26 :: u27 :: u28 :: u29 :: u30 :: u31 :: u32 :: u33 :: u34 :: u35 :: u36 :: u37 :: u38 :: u39 :: u40 :: u41 :: u42 :: u43 :: u44 :: u45 :: u46 :: u47 :: u48 :: u49 :: u50 :: u51 :: u52 :: u53 :: u54 :: u55 :: u56 :: u57 :: x58 :: x59 :: x60 :: x61 :: x62 :: x63 :: x64 :: x65 :: x66 :: u67 :: u68 :: u69 :: u70 :: u71 :: u72 :: u73 :: u74 :: [] : List Value).toArray, []⟩ w')) :
    Code.wp Tryd.prog (Code.region 14 #[{ dst := some 58, op := Op.fieldAddr 25 (Operand.tmp 6) 2, type := 0, pos := "codec.go:109", after := #[], guard := none }, { dst := some 59, op := Op.load 23 (Operand.tmp 58), type := 23, pos := "codec.go:109", after := #[{ on := 0, ground := Ground.data }], guard := none }, { dst := some 60, op := Op.move (Operand.tmp 0), type := 45, pos := "codec.go:109", after := #[], guard := none }, { dst := some 61, op := Op.move (Operand.tmp 1), type := 3, pos := "codec.go:109", after := #[], guard := none }, { dst := some 62, op := Op.binOp BinOp.add 3 (Operand.tmp 61) (Operand.const (Value.int IntKind.i64 1)) 3, type := 3, pos := "codec.go:109", after := #[{ on := 3, ground := Ground.data }], guard := none }, { dst := some 63, op := Op.call { callee := Callee.value (Operand.func 21), args := #[Operand.tmp 60, Operand.tmp 62], argTypes := #[45, 3] }, type := 25, pos := "codec.go:109", after := #[{ on := 2, ground := Ground.data }, { on := 4, ground := Ground.data }], guard := none }, { dst := some 64, op := Op.buildSlice 23 1 #[(0, Operand.tmp 63)], type := 23, pos := "codec.go:109", after := #[{ on := 5, ground := Ground.data }], guard := none }, { dst := some 65, op := Op.call { callee := Callee.builtin Builtin.append, args := #[Operand.tmp 59, Operand.tmp 64], argTypes := #[23, 23] }, type := 23, pos := "codec.go:109", after := #[{ on := 1, ground := Ground.data }, { on := 6, ground := Ground.data }, { on := 5, ground := Ground.chain }], guard := none }, { dst := some 66, op := Op.fieldAddr 25 (Operand.tmp 6) 2, type := 0, pos := "codec.go:109", after := #[{ on := 0, ground := Ground.phase }, { on := 1, ground := Ground.phase }, { on := 2, ground := Ground.phase }, { on := 3, ground := Ground.phase }, { on := 4, ground := Ground.phase }, { on := 5, ground := Ground.phase }, { on := 6, ground := Ground.phase }, { on := 7, ground := Ground.phase }], guard := none }, { dst := none, op := Op.store 23 (Operand.tmp 66) (Operand.tmp 65), type := 0, pos := "codec.go:109", after := #[{ on := 8, ground := Ground.data }, { on := 7, ground := Ground.data }, { on := 7, ground := Ground.chain }, { on := 0, ground := Ground.phase }, { on := 1, ground := Ground.phase }, { on := 2, ground := Ground.phase }, { on := 3, ground := Ground.phase }, { on := 4, ground := Ground.phase }, { on := 5, ground := Ground.phase }, { on := 6, ground := Ground.phase }, { on := 7, ground := Ground.phase }], guard := none }] true) Q ⟨(.pointer (some ⟨R, 0, none⟩) :: .int .i64 lv :: u2 :: u3 :: .pointer (some ⟨w.heap.size, 0, none⟩) :: u5 :: .pointer (some ⟨w.heap.size + 1, 0, none⟩) :: u7 :: u8 :: u9 :: u10 :: u11 :: u12 :: u13 :: u14 :: u15 :: u16 :: u17 :: u18 :: u19 :: u20 :: u21 :: u22 :: u23 :: u24 :: u25 :: u26 :: u27 :: u28 :: u29 :: u30 :: u31 :: u32 :: u33 :: u34 :: u35 :: u36 :: u37 :: u38 :: u39 :: u40 :: u41 :: u42 :: u43 :: u44 :: u45 :: u46 :: u47 :: u48 :: u49 :: u50 :: u51 :: u52 :: u53 :: u54 :: u55 :: u56 :: u57 :: u58 :: u59 :: u60 :: u61 :: u62 :: u63 :: u64 :: u65 :: u66 :: u67 :: u68 :: u69 :: u70 :: u71 :: u72 :: u73 :: u74 :: [] : List Value).toArray, []⟩ W3 := by
  have hne : ¬ R = w.heap.size := by omega
  have hne1 : ¬ R = w.heap.size + 1 := by omega
  have hw : IntKind.i64.wrap (lv + 1) = lv + 1 := IntWalk.i64_in _ (by omega)
  have HM4' : Hid (Mid w R s W3.drew j acc (.slice Av acc.length cv)) := Lib.hid (HM3.out.drewN 1)
  have hszW : w.heap.size < W3.heap.size := blk_lt HM3.out.out
  refine start_ (n := 10) (S := fun w' => w'.cell? ⟨w.heap.size + 1, 2, none⟩ = some (.slice Av acc.length cv)) (ds := [9]) #[false, false, false, false, false, false, false, false, false, false] (by kernel_rfl) rfl rfl ((blk_cell HM4'.out.var 2).trans rfl) (fun hHeld => ?_)
  generalize hW4 : W3.drew = W4 at HM4' hHeld ⊢
  have HM4 := HM4'
  clear HM4'
  have hsz4 : w.heap.size + 1 < W4.heap.size := blk_lt HM4.out.var
  clear hW4
  refine pure_ (i := 0) (N := some 58) (v := ?_) (a' := ?_) #[true, false, false, false, false, false, false, false, false, false] rfl rfl (by kernel_rfl) (fun c a w h => HQp.out c a w _ _ h) (Or.inl ⟨by rfl, ?_⟩) ?_ ?_
  rotate_left
  · intro w'
    go_simp
    with_reducible rfl
  rotate_left
  · simp only [Act.put, List.setIfInBounds_toArray, List.set_cons_zero, List.set_cons_succ]
    rfl
  refine pure_ (i := 2) (N := some 60) (v := ?_) (a' := ?_) #[true, false, true, false, false, false, false, false, false, false] rfl rfl (by kernel_rfl) (fun c a w h => HQp.out c a w _ _ h) (Or.inl ⟨by rfl, ?_⟩) ?_ ?_
  rotate_left
  · intro w'
    go_simp
    with_reducible rfl
  rotate_left
  · simp only [Act.put, List.setIfInBounds_toArray, List.set_cons_zero, List.set_cons_succ]
    rfl
  refine pure_ (i := 3) (N := some 61) (v := ?_) (a' := ?_) #[true, false, true, true, false, false, false, false, false, false] rfl rfl (by kernel_rfl) (fun c a w h => HQp.out c a w _ _ h) (Or.inl ⟨by rfl, ?_⟩) ?_ ?_
  rotate_left
  · intro w'
    go_simp
    with_reducible rfl
  rotate_left
  · simp only [Act.put, List.setIfInBounds_toArray, List.set_cons_zero, List.set_cons_succ]
    rfl
  refine pure_ (i := 4) (N := some 62) (v := ?_) (a' := ?_) #[true, false, true, true, true, false, false, false, false, false] rfl rfl (by kernel_rfl) (fun c a w h => HQp.out c a w _ _ h) (Or.inl ⟨by rfl, ?_⟩) ?_ ?_
  rotate_left
  · intro w'
    go_simp
    with_reducible rfl
  rotate_left
  · simp only [Act.put, List.setIfInBounds_toArray, List.set_cons_zero, List.set_cons_succ]
    rfl
  refine take_ (i := 1) (N := some 59) (v := ?_) (a' := ?_) #[true, true, true, true, true, false, false, false, false, false] rfl rfl (by kernel_rfl) (fun c a w h => HQp.out c a w _ _ h) (Or.inl ⟨by rfl, ?_⟩) hHeld ?_ ?_
  rotate_left
  · rintro w' s0
    go_simp
    with_reducible rfl
  rotate_left
  · simp only [Act.put, List.setIfInBounds_toArray, List.set_cons_zero, List.set_cons_succ]
    rfl
  refine one_ (i := 5) (N := some 63) #[true, true, true, true, true, true, false, false, false, false] rfl rfl (by kernel_rfl) (by decide) (fun K hK => ?_)
  refine goesP_ Tryd.func21 (by kernel_rfl) rfl #[.pointer (some ⟨R, 0, none⟩), .int .i64 (lv + 1)] (by rfl) rfl rfl (by (try simp only [List.map_toArray, List.map_cons, List.map_nil]); first | done | rfl) ?_
  refine (HI.out _ HM4.out.at_).mono ?_
  intro e W5 hpost
  cases T with
  | error c =>
    obtain ⟨rfl, hh⟩ := hpost
    exact .inr ⟨_, rfl, HE.out c rfl _ _ rfl (HM4.out.held.trans hh)⟩
  | ok T =>
  obtain ⟨n, j'⟩ := T
  obtain ⟨v2, rfl, ho, ha, hh, hj1, hj2⟩ := hpost
  refine .inl ⟨_, rfl, ?_⟩
  have kM := hh.keep.blk HM4.out.var (fun e => hne1 e.symm) (by simp)
  have kN := hh.keep.blk HM4.out.out (fun e => hne e.symm) (by simp)
  have hszle : W4.heap.size ≤ W5.heap.size := hh.keep.1
  have hrow : Kd.R k25 25 W5 w.heap.size (fun k => k ≠ w.heap.size ∧ k ≠ w.heap.size + 1) (.slice Av acc.length cv) acc :=
    Kd.R_mono (Kd.R_keep (Kd.R_bound HM4.out.row) hh.keep (fun k hk => by have := hk.2.1; omega)) (fun _ hk => hk.1)
  have hnew : Kd.M k25 W5 w.heap.size (fun k => (k ≠ w.heap.size ∧ k ≠ w.heap.size + 1) ∧ some k ≠ (Value.slice Av acc.length cv).ownBlock) n [.bool n.f0, .string n.f1, v2] := by
    refine k25_mkM _ _ _ n ?_
    have hlt4 := Kd.R_lt HM4.out.row
    exact Kd.R_mono (Kd.R_lower (Kd.R_bound ho) (by omega)) (fun k hk => ⟨⟨by have := hk.2.1; omega, by have := hk.2.1; omega⟩, fun e => by have := hlt4 k e.symm; have := hk.2.1; omega⟩)
  obtain ⟨Aw, cw, ew⟩ := Kd.R_slice ho
  subst ew
  have HA5 := Lib.hid ha
  have HH5 := Lib.hid (HM4.out.held.trans hh)
  have HKM := Lib.hid kM
  have HKN := Lib.hid kN
  have HRow := Lib.hid hrow
  have HNew := Lib.hid hnew
  have HJ := Lib.hid (And.intro hj1 hj2)
  clear ha hh kM kN hrow hnew ho hj1 hj2
  refine hK.out _ _ ((blk_cell HKM.out 2).trans rfl) (fun hHeld5 => ?_)
  clear hK K
  refine norm_ (a' := ?_) ?_ ?_
  rotate_left
  · show Act.put _ (some 63) _ = _
    simp only [Act.put, List.setIfInBounds_toArray, List.set_cons_zero, List.set_cons_succ]
    rfl
  refine one_ (i := 6) (N := some 64) #[true, true, true, true, true, true, true, false, false, false] rfl rfl (by kernel_rfl) (by decide) (fun K hK => ?_)
  refine value_ (v := .slice (some ⟨W5.heap.size, 0, none⟩) 1 1) (w1 := W5.alloc (.cells #[.bool n.f0, .string n.f1, .slice Aw n.f2.length cw] 25)) (by rfl) rfl (by go_simp) ?_
  refine hK.out _ _ ((blk_cell (blk_alloc HKM.out _) 2).trans rfl) (fun hHeld6 => ?_)
  clear hK K
  refine norm_ (a' := ?_) ?_ ?_
  rotate_left
  · show Act.put _ (some 64) _ = _
    simp only [Act.put, List.setIfInBounds_toArray, List.set_cons_zero, List.set_cons_succ]
    rfl
  refine one_ (i := 7) (N := some 65) #[true, true, true, true, true, true, true, true, false, false] rfl rfl (by kernel_rfl) (by decide) (fun K hK => ?_)
  refine Kd.R_append_step (w0 := W5) k25 w.heap.size (by rfl) (.tmp 59) (.tmp 64) 23 25 _ 48 rfl Tryd.underlying23 info25 rfl (by decide) (by decide) (.slice Av acc.length cv) acc n [.bool n.f0, .string n.f1, .slice Aw n.f2.length cw] (fun k => k ≠ w.heap.size ∧ k ≠ w.heap.size + 1) _ (by rfl) (by rfl) HNew.out (fun k hk => hk) (fun k hk => ⟨by omega, by omega⟩) HRow.out (Below.refl _ _) (by omega) (by have := HL.out; omega) ?_
  intro v7 W7 hR7 hB7 hG7 hat7
  have hoM : ∀ b, (b = w.heap.size ∨ b = w.heap.size + 1 ∨ b = R) → some b ≠ (Value.slice Av acc.length cv).ownBlock := fun b hb e => by
    have h1 := HRow.out.1 b e.symm
    have h2 := Kd.R_base HRow.out b e.symm
    omega
  have kM7 := blk_grown HKM.out hG7 (hoM _ (by simp))
  have kN7 := blk_grown HKN.out hG7 (hoM _ (by simp))
  have kR7 : At W7 R s j' := blk_grown HA5.out hG7 (hoM _ (by simp))
  have hH7 : Held w R W7 := ⟨HH5.out.below.trans ⟨hB7.os, hB7.tape, hB7.output, hB7.size, fun k hk => hB7.block k (by omega)⟩, by
    refine ⟨Nat.le_trans HH5.out.keep.1 hB7.size, fun i hi hne _ => ?_⟩
    refine (hG7.block i (Nat.lt_of_lt_of_le hi HH5.out.keep.1) (fun e => ?_)).trans (HH5.out.keep.2 i hi hne (by simp))
    have := Kd.R_base HRow.out i e.symm
    omega⟩
  have HM7 := Lib.hid kM7
  have HN7 := Lib.hid kN7
  have HAt7 := Lib.hid kR7
  have HH7 := Lib.hid hH7
  have HR7 := Lib.hid hR7
  clear kM7 kN7 kR7 hH7 hR7 hoM hB7 hG7 hat7
  refine hK.out _ _ ((blk_cell HM7.out 2).trans rfl) (fun hHeld7 => ?_)
  clear hK K
  obtain ⟨A7, c7, e7⟩ := Kd.R_slice HR7.out
  subst e7
  refine norm_ (a' := ?_) ?_ ?_
  rotate_left
  · show Act.put _ (some 65) _ = _
    simp only [Act.put, List.setIfInBounds_toArray, List.set_cons_zero, List.set_cons_succ]
    rfl
  refine pure_ (i := 8) (N := some 66) (v := ?_) (a' := ?_) #[true, true, true, true, true, true, true, true, true, false] rfl rfl (by kernel_rfl) (fun c a w h => HQp.out c a w _ _ h) (Or.inl ⟨by rfl, ?_⟩) ?_ ?_
  rotate_left
  · intro w'
    go_simp
    with_reducible rfl
  rotate_left
  · simp only [Act.put, List.setIfInBounds_toArray, List.set_cons_zero, List.set_cons_succ]
    rfl
  have fM := blk_frozen HM7.out 2
  have cM : W7.cell? ⟨w.heap.size + 1, 2, none⟩ = some (.slice Av acc.length cv) := (blk_cell HM7.out 2).trans rfl
  refine last_ (i := 9) (N := none) #[true, true, true, true, true, true, true, true, true, true] rfl rfl (by kernel_rfl) (by decide) (fun K hK => ?_)
  refine skip_ (w1 := W7.setCell ⟨w.heap.size + 1, 2, none⟩ (.slice A7 (acc ++ [n]).length c7)) (by rfl) rfl (by go_simp) ?_
  refine hK.out _ _ ?_
  clear hK K
  refine done_ (by kernel_rfl) ?_
  refine HO.out n j' rfl _ _ _ _ _ _ _ _ _ _ _ ⟨HAt7.out.far (fun e => hne1 e.symm) 2 _, HH7.out.far (p := ⟨w.heap.size + 1, 2, none⟩) (Nat.le_succ _) (by simp only; omega) _, blk_far (p := ⟨w.heap.size + 1, 2, none⟩) HN7.out (by simp) _, blk_put HM7.out 2 _ rfl, row_set HR7.out (fun k _ hk => hk.2) 2 _⟩ HJ.out.1 HJ.out.2
end Go.Proofs.YtcmlonloiamchaaDoor.CoHand
