/- The reader of layer 6: what its methods do, with a panic where the text ends too early or is wrong. -/
import Derived.Test.YtcmlonloiamchaaDoorCo0
import Derived.WalkSmall
import Derived.Lib.Hide
import Derived.IntWalk
namespace Go.Proofs.YtcmlonloiamchaaDoor.CoHand
open Go.RowKit Go.Proofs.YtcmlonloiamchaaDoorW.PrintWords Go.Proofs.YtcmlonloiamchaaDoorW.PrintLast Go.Proofs.YtcmlonloiamchaaDoorW.PrintMore Go.Proofs.YtcmlonloiamchaaDoor.Co
set_option linter.unusedVariables false
set_option linter.unusedSimpArgs false

/-- The panic by which the nested functions are left. -/
def Fails (c : Int) (e : Ending) : Prop := e = .panicked [{ v := .iface 43 (.agg #[.int .i64 c]), recovered := false }]

set_option maxHeartbeats 400000 in
theorem fail_calls (c : Int) (w : World) : Calls Tryd.prog 22 #[.int .i64 c] w fun e w' => Fails c e ∧ w' = w := by
  go_enter Tryd.func22, Tryd.ntmps22
  go_wp2
  exact ⟨rfl, rfl, rfl⟩

/-- The reader lies in block R: its text, and how far it was read. -/
def At (w : World) (R : Nat) (s : ByteArray) (i : Int) : Prop := w.heap[R]? = some (.cells #[.string s, .int .i64 i] 47 (0, 0))
theorem At.c0 {w : World} {R : Nat} {s : ByteArray} {i : Int} (h : At w R s i) : w.cell? ⟨R, 0, none⟩ = some (.string s) := (blk_cell h 0).trans rfl
theorem At.c1 {w : World} {R : Nat} {s : ByteArray} {i : Int} (h : At w R s i) : w.cell? ⟨R, 1, none⟩ = some (.int .i64 i) := (blk_cell h 1).trans rfl

set_option maxHeartbeats 400000 in
theorem byte_end (w : World) (R : Nat) (s : ByteArray) (i : Int) (h : At w R s i) (hi : i = s.size) :
    Calls Tryd.prog 29 #[.pointer (some ⟨R, 0, none⟩)] w fun e w' => Fails 4 e ∧ ∃ n, w' = w.drewN n := by
  have h0 := h.c0
  have h1 := h.c1
  have e1 : ((i : Int) == (s.size : Int)) = true := by simpa using hi
  clear h hi
  go_enter Tryd.func29, Tryd.ntmps29
  go_wp2_with fail
  go_quiet (fail)
  go_wp2_with (go_at_call 22; refine (fail_calls _ _).mono ?_; rintro e w' ⟨rfl, rfl⟩)
  exact ⟨rfl, rfl, nq, rfl⟩

set_option maxHeartbeats 400000 in
theorem byte_ok (w : World) (R : Nat) (s : ByteArray) (i : Int) (h : At w R s i) (h0 : 0 ≤ i) (hi : i < s.size) :
    Calls Tryd.prog 29 #[.pointer (some ⟨R, 0, none⟩)] w fun e w' => e = .returned (.int .u8 (bt s i)) ∧ ∃ n, w' = w.drewN n := by
  have g0 := h.c0
  have g1 := h.c1
  have e1 : ((i : Int) == (s.size : Int)) = false := by simp; omega
  have hb := bt_at s i
  clear h
  go_enter Tryd.func29, Tryd.ntmps29
  go_wp2_with fail
  go_quiet (fail)
  go_wp2_with fail
  go_quiet (fail)
  go_wp2_with fail
  go_ret
  exact ⟨rfl, _, World.drewN_drewN ..⟩

/-- What lies below the reader, and what is not the reader, is kept. -/
structure Held (w : World) (R : Nat) (w' : World) : Prop where
  below : Below R w w'
  keep : KeepBut w w' R none
theorem Held.refl (w : World) (R : Nat) : Held w R w := ⟨Below.refl _ _, KeepBut.refl _ _ _⟩
theorem Held.trans {w w1 w2 : World} {R : Nat} (h : Held w R w1) (k : Held w1 R w2) : Held w R w2 := ⟨h.below.trans k.below, h.keep.trans k.keep (.inl rfl)⟩
theorem Held.drewN {w w1 : World} {R : Nat} (h : Held w R w1) (n : Nat) : Held w R (w1.drewN n) := ⟨below_drewN h.below n, h.keep⟩
theorem Held.set {w w1 : World} {R : Nat} (h : Held w R w1) (j : Nat) (u : Value) : Held w R (w1.setCell ⟨R, j, none⟩ u) := ⟨h.below.setCell (Nat.le_refl _) _, h.keep.set_ j u⟩
theorem Held.alloc {w w1 : World} {R : Nat} (h : Held w R w1) (hR : R ≤ w1.heap.size) (o : Obj) : Held w R (w1.alloc o) := ⟨h.below.alloc hR _, keep_alloc h.keep o⟩
theorem Held.far {w w1 : World} {R : Nat} (h : Held w R w1) {p : Addr} (hp : w.heap.size ≤ p.block) (hR : R ≤ p.block) (u : Value) : Held w R (w1.setCell p u) := ⟨h.below.setCell hR _, keep_far h.keep hp u⟩
theorem At.drewN {w : World} {R : Nat} {s : ByteArray} {i : Int} (h : At w R s i) (n : Nat) : At (w.drewN n) R s i := h
theorem At.set {w : World} {R : Nat} {s : ByteArray} {i : Int} (h : At w R s i) (j : Int) : At (w.setCell ⟨R, 1, none⟩ (.int .i64 j)) R s j := blk_put h 1 _ rfl
theorem At.far {w : World} {R : Nat} {s : ByteArray} {i : Int} (h : At w R s i) {b : Nat} (hb : ¬ b = R) (j : Nat) (u : Value) : At (w.setCell ⟨b, j, none⟩ u) R s i := blk_far (p := ⟨b, j, none⟩) h (fun e => hb e.symm) u
theorem At.alloc {w : World} {R : Nat} {s : ByteArray} {i : Int} (h : At w R s i) (o : Obj) : At (w.alloc o) R s i := blk_alloc h o
theorem At.lt {w : World} {R : Nat} {s : ByteArray} {i : Int} (h : At w R s i) : R < w.heap.size := blk_lt h

theorem results_c {P : Program} {fn : Func} {p : Tmp} {ty : TypeId} (h : fn.results = #[.cell p ty]) (tmps : Array Value) (w : World) (g : Nat) (t : TypeId) (cs : Array Value) (fr : Nat × Nat) (d : TypeDesc)
    (hp : tmps.getD p undef = .pointer (some ⟨g, 0, none⟩)) (hg : w.heap[g]? = some (.cells cs t fr))
    (hu : P.underlying ty = some d) (hd : (match d with | .struct _ | .array _ _ => true | _ => false) = true) (hi : (P.info? ty).map (·.size) = some cs.size) :
    (results fn tmps).run P w = .ok (.agg cs) w := by
  have hp' : tmps[p]?.getD undef = .pointer (some ⟨g, 0, none⟩) := by simpa using hp
  simp [results, h, hp', asAddr, run_loadVar_row w g t ty cs fr d hg hu hd hi]

/-! ### a text -/
def tl (s : ByteArray) (first : Int) : Nat → Int → Int → Except Int (Int × Int)
  | 0, _, _ => .error 4
  | d + 1, n, i => if bt s i = 58 then .ok (n, i) else if bt s i < 48 ∨ 57 < bt s i ∨ (i = first + 1 ∧ bt s first = 48) then .error 2 else if 10 * n + (bt s i - 48) > 20000 then .error 5 else tl s first d (10 * n + (bt s i - 48)) (i + 1)
/-- The bytes from i on, n of them. -/
def cut (s : ByteArray) (i n : Int) : ByteArray := s.extract i.toNat (i + n).toNat
def textD (s : ByteArray) (i : Int) : Except Int (ByteArray × Int) :=
  match tl s i (s.size - i.toNat) 0 i with
  | .error c => .error c
  | .ok (n, j) => if s.size - (j + 1) < n then .error 4 else .ok (cut s (j + 1) n, j + 1 + n)
def TextPost (w : World) (R : Nat) (s : ByteArray) (r : Except Int (ByteArray × Int)) (e : Ending) (w' : World) : Prop :=
  match r with
  | .error c => Fails c e ∧ Held w R w'
  | .ok (t, j) => e = .returned (.agg #[.bool false, .string t, .slice none 0 0]) ∧ At w' R s j ∧ Held w R w'

set_option maxHeartbeats 1000000 in
theorem text_calls (w : World) (R : Nat) (s : ByteArray) (i : Int) (h : At w R s i) (h0 : 0 ≤ i) (hi : i ≤ s.size) (hs : s.size ≤ 100000) :
    Calls Tryd.prog 30 #[.pointer (some ⟨R, 0, none⟩)] w (TextPost w R s (textD s i)) := by
  have hlt := h.lt
  have hne : ¬ R = w.heap.size := by omega
  have HT : Hid (∃ T, tl s i (s.size - i.toNat) 0 i = T ∧ (match T with | .error c => .error c | .ok (n, j) => if s.size - (j + 1) < n then .error 4 else .ok (cut s (j + 1) n, j + 1 + n)) = textD s i) := Lib.hid ⟨_, rfl, rfl⟩
  have HA := Lib.hid h
  have g0 := h.c0
  have g1 := h.c1
  clear h
  go_enter Tryd.func30, Tryd.ntmps30
  go_wp2_with fail
  generalize hW0 : w.alloc (.cells #[.bool false, .string { data := #[] }, .slice none 0 0] 25) = W0
  have HW0 := Lib.hid hW0
  clear hW0
  obtain ⟨T, hT, hTD⟩ := HT.out
  have HTD := Lib.hid hTD
  clear hTD
  have HT1 := Lib.hid hT
  clear hT HT
  have B0 : Hid (w.heap[w.heap.size]? = none) := Lib.hid (by simp)
  have R0 : Hid (W0.heap[w.heap.size]? = some (.cells #[.bool false, .string { data := #[] }, .slice none 0 0] 25 (0, 0))) := Lib.hid (by rw [← HW0.out]; exact blk_new w _)
  have A0 : Hid (At W0 R s i) := Lib.hid (by rw [← HW0.out]; exact At.alloc HA.out _)
  have H0 : Hid (Held w R W0) := Lib.hid (by rw [← HW0.out]; exact (Held.refl w R).alloc (by omega) _)
  clear HW0 B0
  go_loopg [3] (s.size - i.toNat) (fun d v3 wr => ∃ n j : Int, v3 = .int .i64 n ∧ Hid (At wr R s j ∧ Held w R wr ∧ wr.heap[w.heap.size]? = some (.cells #[.bool false, .string { data := #[] }, .slice none 0 0] 25 (0, 0))) ∧ Hid (tl s i d n j = T) ∧ Hid (j + d = s.size) ∧ (0 ≤ n ∧ n ≤ 20000) ∧ (i ≤ j))
  case atStart => exact ⟨0, i, rfl, Lib.hid ⟨A0.out, H0.out, R0.out⟩, HT1, Lib.hid (by omega), by omega, by omega⟩
  case round =>
    obtain ⟨n, j, rfl, HQ, HK, HD, hn, hj⟩ := hrel
    have hA := HQ.out.1
    have hcj := hA.c1
    have hcs := hA.c0
    have hltr := hA.lt
    have hfr := blk_frozen hA 1
    clear hA
    have hD := HD.out
    cases gk with
    | zero =>
      have hfin : textD s i = .error 4 := by rw [← HTD.out, ← HK.out]; rfl
      have HF := Lib.hid hfin
      clear hfin hD
      have he := HD.out
      go_wp2_with (go_at_call 29; refine (byte_end _ R s j HQ.out.1 (by have := HD.out; omega)).mono ?_; rintro e w' ⟨rfl, m, rfl⟩)
      refine ⟨rfl, ?_⟩
      show TextPost w R s (textD s i) _ _
      rw [HF.out]
      exact ⟨rfl, HQ.out.2.1.drewN m⟩
    | succ d =>
      have hj1 : j < s.size := by omega
      clear hD
      have hbr := bt_range s j
      by_cases c1 : bt s j = 58
      · have e1 : ((bt s j) == 58) = true := by simpa using c1
        clear c1
        go_wp2_with (go_at_call 29; refine (byte_ok _ R s j HQ.out.1 (by omega) hj1).mono ?_; rintro e w' ⟨rfl, m, rfl⟩)
        generalize hW1 : (wr.drewN m).setCell ⟨R, 1, none⟩ (.int .i64 (j + 1)) = W1
        have A1 : At W1 R s (j + 1) := by rw [← hW1]; exact (HQ.out.1.drewN m).set _
        have H1 : Hid (Held w R W1) := Lib.hid (by rw [← hW1]; exact (HQ.out.2.1.drewN m).set _ _)
        have R1 : W1.heap[w.heap.size]? = some (.cells #[.bool false, .string { data := #[] }, .slice none 0 0] 25 (0, 0)) := by
          rw [← hW1]; exact blk_far (p := ⟨R, 1, none⟩) (HQ.out.2.2) (fun e => hne e.symm) _
        clear hW1 hcj hcs hfr hltr
        have p0 := A1.c0
        have p1 := A1.c1
        have pf := blk_frozen A1 1
        have HA1 := Lib.hid A1
        have HR1 := Lib.hid R1
        clear A1 R1
        have hw1 : IntKind.i64.wrap ((s.size : Int) - (j + 1)) = (s.size : Int) - (j + 1) := IntWalk.i64_in _ (by omega)
        by_cases c2 : (s.size : Int) - (j + 1) < n
        · have e2 : decide ((s.size : Int) - (j + 1) < n) = true := decide_eq_true c2
          have hfin : textD s i = .error 4 := by rw [← HTD.out, ← HK.out]; unfold tl; rw [if_pos (by simpa using e1)]; simp only; rw [if_pos c2]
          have HF := Lib.hid hfin
          clear hfin c2
          go_quiet (fail)
          go_wp2_with (go_at_call 22; refine (fail_calls _ _).mono ?_; rintro e w' ⟨rfl, rfl⟩)
          refine ⟨rfl, ?_⟩
          show TextPost w R s (textD s i) _ _
          rw [HF.out]
          exact ⟨rfl, H1.out.drewN _⟩
        · have e2 : decide ((s.size : Int) - (j + 1) < n) = false := decide_eq_false c2
          have hfin : textD s i = .ok (cut s (j + 1) n, j + 1 + n) := by rw [← HTD.out, ← HK.out]; unfold tl; rw [if_pos (by simpa using e1)]; simp only; rw [if_neg c2]
          have HF := Lib.hid hfin
          clear hfin
          go_quiet (fail)
          clear hw1
          go_wp2_with fail
          generalize hW2 : (W1.drewN nq).setCell ⟨R, 1, none⟩ (.int .i64 (j + 1 + n)) = W2
          have A2 : At W2 R s (j + 1 + n) := by rw [← hW2]; exact (HA1.out.drewN _).set _
          have H2 : Hid (Held w R W2) := Lib.hid (by rw [← hW2]; exact (H1.out.drewN _).set _ _)
          have R2 : W2.heap[w.heap.size]? = some (.cells #[.bool false, .string { data := #[] }, .slice none 0 0] 25 (0, 0)) := by
            rw [← hW2]; exact blk_far (p := ⟨R, 1, none⟩) (HR1.out) (fun e => hne e.symm) _
          clear hW2 p0 p1 pf
          have p0 := A2.c0
          have p1 := A2.c1
          have q0 := blk_cell R2 0
          have q1 := blk_cell R2 1
          have q2 := blk_cell R2 2
          have qf0 := blk_frozen R2 0
          have qf1 := blk_frozen R2 1
          have qf2 := blk_frozen R2 2
          have HA2 := Lib.hid A2
          have HR2 := Lib.hid R2
          clear A2 R2
          have hw2 : IntKind.i64.wrap (j + 1 + n - n) = j + 1 := by rw [Int.add_sub_cancel]; exact IntWalk.i64_in _ (by omega)
          have b1 : 0 ≤ j + 1 := by omega
          have b2 : j + 1 ≤ j + 1 + n := by omega
          have b3 : j + 1 + n ≤ s.size := by omega
          go_region
          go_wp2
          have hn2 : ¬ w.heap.size = R := fun e => hne e.symm
          refine bodyPost_ret (v := .agg #[.bool false, .string (cut s (j + 1) n), .slice none 0 0]) (results_c rfl _ _ w.heap.size 25 _ (0, 0) _ rfl (((blk_put (blk_put (blk_put HR2.out 0 _ rfl) 1 _ rfl) 2 _ rfl))) Tryd.underlying25 rfl (by kernel_rfl)) rfl ?_
          show TextPost w R s (textD s i) _ _
          rw [HF.out]
          refine ⟨rfl, ?_, ?_⟩
          · exact (((HA2.out.far hn2 0 _).far hn2 1 _).far hn2 2 _).drewN 1
          · exact (((H2.out.far (p := ⟨w.heap.size, 0, none⟩) (Nat.le_refl _) (Nat.le_of_lt hlt) _).far (p := ⟨w.heap.size, 1, none⟩) (Nat.le_refl _) (Nat.le_of_lt hlt) _).far (p := ⟨w.heap.size, 2, none⟩) (Nat.le_refl _) (Nat.le_of_lt hlt) _).drewN 1
      · have e1 : ((bt s j) == 58) = false := by simpa using c1
        have hbad : (bt s j < 48 ∨ 57 < bt s j ∨ (j = i + 1 ∧ bt s i = 48)) → Hid (textD s i = .error 2) := fun hb => Lib.hid (by rw [← HTD.out, ← HK.out]; unfold tl; rw [if_neg c1, if_pos hb])
        have HBAD := Lib.hid hbad
        clear hbad
        have hbti := bt_at s i
        have i1 : i < s.size := by omega
        by_cases cA : bt s j < 48
        · have HF := (HBAD.out (.inl cA))
          have a1 : decide (bt s j < 48) = true := decide_eq_true cA
          clear c1 hbti
          go_wp2_with (first | (go_at_call 29; refine (byte_ok _ R s j HQ.out.1 (by omega) hj1).mono ?_; rintro e w' ⟨rfl, m, rfl⟩) | (go_at_call 22; refine (fail_calls _ _).mono ?_; rintro e w' ⟨rfl, rfl⟩))
          refine ⟨rfl, ?_⟩
          show TextPost w R s (textD s i) _ _
          rw [HF.out]
          exact ⟨rfl, HQ.out.2.1.drewN m⟩
        · have a1 : decide (bt s j < 48) = false := decide_eq_false cA
          by_cases cB : 57 < bt s j
          · have HF := (HBAD.out (.inr (.inl cB)))
            have a2 : decide (57 < bt s j) = true := decide_eq_true cB
            clear c1 hbti
            go_wp2_with (first | (go_at_call 29; refine (byte_ok _ R s j HQ.out.1 (by omega) hj1).mono ?_; rintro e w' ⟨rfl, m, rfl⟩) | (go_at_call 22; refine (fail_calls _ _).mono ?_; rintro e w' ⟨rfl, rfl⟩))
            refine ⟨rfl, ?_⟩
            show TextPost w R s (textD s i) _ _
            rw [HF.out]
            exact ⟨rfl, HQ.out.2.1.drewN m⟩
          · have a2 : decide (57 < bt s j) = false := decide_eq_false cB
            by_cases cC : j = i + 1 ∧ bt s i = 48
            · have HF := (HBAD.out (.inr (.inr cC)))
              obtain ⟨cC1, cC2⟩ := cC
              have a3 : (j == i + 1) = true := by simpa using cC1
              have a4 : (bt s i == 48) = true := by simpa using cC2
              have HC1 := Lib.hid cC1
              clear c1 cC1 cC2
              go_wp2_with (first | (go_at_call 29; refine (byte_ok _ R s j HQ.out.1 (by omega) hj1).mono ?_; rintro e w' ⟨rfl, m, rfl⟩) | (go_at_call 22; refine (fail_calls _ _).mono ?_; rintro e w' ⟨rfl, rfl⟩))
              refine ⟨rfl, ?_⟩
              show TextPost w R s (textD s i) _ _
              rw [HF.out]
              exact ⟨rfl, HQ.out.2.1.drewN m⟩
            · have hnb : ¬ (bt s j < 48 ∨ 57 < bt s j ∨ (j = i + 1 ∧ bt s i = 48)) := by omega
              have HNB := Lib.hid hnb
              have HC1 := Lib.hid c1
              have hbits : Hid (((j == i + 1) = false) ∨ ((j == i + 1) = true ∧ (bt s i == 48) = false)) := Lib.hid (by
                by_cases x : j = i + 1
                · right; exact ⟨by simpa using x, by simp; omega⟩
                · left; simpa using x)
              clear hnb cC c1
              by_cases cD : 10 * n + (bt s j - 48) > 20000
              · have HF : Hid (textD s i = .error 5) := Lib.hid (by rw [← HTD.out, ← HK.out]; unfold tl; rw [if_neg HC1.out, if_neg HNB.out, if_pos cD])
                have a5 : decide (20000 < 10 * n + (bt s j - 48)) = true := decide_eq_true cD
                rcases hbits.out with a3 | ⟨a3, a4⟩
                all_goals
                  go_wp2_with (first | (go_at_call 29; refine (byte_ok _ R s j HQ.out.1 (by omega) hj1).mono ?_; rintro e w' ⟨rfl, m, rfl⟩) | (go_at_call 22; refine (fail_calls _ _).mono ?_; rintro e w' ⟨rfl, rfl⟩))
                  refine ⟨rfl, ?_⟩
                  show TextPost w R s (textD s i) _ _
                  rw [HF.out]
                  exact ⟨rfl, HQ.out.2.1.drewN m⟩
              · have HN : Hid (tl s i d (10 * n + (bt s j - 48)) (j + 1) = T) := Lib.hid (by rw [← HK.out]; conv => rhs; unfold tl; rw [if_neg HC1.out, if_neg HNB.out, if_neg cD])
                have a5 : decide (20000 < 10 * n + (bt s j - 48)) = false := decide_eq_false cD
                rcases hbits.out with a3 | ⟨a3, a4⟩
                all_goals
                  go_wp2_with (first | (go_at_call 29; refine (byte_ok _ R s j HQ.out.1 (by omega) hj1).mono ?_; rintro e w' ⟨rfl, m, rfl⟩) | (go_at_call 22; refine (fail_calls _ _).mono ?_; rintro e w' ⟨rfl, rfl⟩))
                  go_roundg d
                  case measure => omega
                  case rel => exact ⟨_, j + 1, rfl, Lib.hid ⟨(HQ.out.1.drewN m).set _, (HQ.out.2.1.drewN m).set _ _, blk_far (p := ⟨R, 1, none⟩) (HQ.out.2.2) (fun e => hne e.symm) _⟩, HN, Lib.hid (by have := HD.out; omega), by omega, by omega⟩
end Go.Proofs.YtcmlonloiamchaaDoor.CoHand
