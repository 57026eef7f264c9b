/- Layer 6's encode: a node's encoding is written behind what the builder holds, or a panic leaves it. -/
import Derived.Test.YtcmlonloiamchaaDoorCoOut
import Derived.Test.YtcmlonloiamchaaDoorShelf
import Derived.Lib.ItoaLen
namespace Go.Proofs.YtcmlonloiamchaaDoor.CoHand
open Go.RowKit Go.Proofs.YtcmlonloiamchaaDoorW.PrintWords Go.Proofs.YtcmlonloiamchaaDoorW.PrintLast Go.Proofs.YtcmlonloiamchaaDoorW.PrintMore Go.Proofs.YtcmlonloiamchaaDoor.Co
set_option linter.unusedVariables false
set_option linter.unusedSimpArgs false

mutual
def encD : Nat → Int → S25 → List UInt8 → Option (Except Int (List UInt8))
  | 0, _, _, _ => none
  | k + 1, lv, n, out =>
    if 1000000000 < out.length ∨ 1000000000 < n.f1.size then none
    else if (n.f0 = true ∧ ¬ n.f1.size = 0) ∨ (n.f0 = false ∧ 0 < n.f2.length) then some (.error 1)
    else if 12 < lv ∨ 256 < n.f2.length then some (.error 5)
    else if n.f0 = false then some (.ok (out ++ Lib.decDigits n.f1.size ++ [58] ++ n.f1.data.toList))
    else match encsD k lv n.f2 (out ++ [40]) with
      | none => none
      | some (.error c) => some (.error c)
      | some (.ok o) => some (.ok (o ++ [41]))
def encsD : Nat → Int → List S25 → List UInt8 → Option (Except Int (List UInt8))
  | 0, _, _, _ => none
  | _ + 1, _, [], out => if 1000000000 < out.length then none else some (.ok out)
  | k + 1, lv, x :: xs, out =>
    match encD k (lv + 1) x out with
    | none => none
    | some (.error c) => some (.error c)
    | some (.ok o) => encsD k lv xs o
end

def EncPost (b : Nat) (w : World) (r : Except Int (List UInt8)) (e : Ending) (w' : World) : Prop :=
  match r with
  | .error c => Fails c e ∧ Wrote b w w'
  | .ok o => e = .returned (.tuple #[]) ∧ Out b (.pointer (some ⟨b, 0, none⟩)) (Lib.byteCells o) w' ∧ Wrote b w w'

theorem tab_held {w w' : World} {g : Nat} (hg : Tryd.prog.globalNamed "internal/strconv.uint64pow10" = some g) (h : Lib.TabIs Tryd.prog w "internal/strconv.uint64pow10" .u64 Lib.pow10Tab) (hw : w'.heap[g]? = w.heap[g]?) :
    Lib.TabIs Tryd.prog w' "internal/strconv.uint64pow10" .u64 Lib.pow10Tab := by
  unfold Lib.TabIs World.var? at h ⊢
  rw [hg] at h ⊢
  simp only [Option.bind_some] at h ⊢
  rw [hw]
  exact h
theorem tab_lt {w : World} {g : Nat} (hg : Tryd.prog.globalNamed "internal/strconv.uint64pow10" = some g) (h : Lib.TabIs Tryd.prog w "internal/strconv.uint64pow10" .u64 Lib.pow10Tab) : g < w.heap.size := by
  unfold Lib.TabIs World.var? at h
  rw [hg] at h
  simp only [Option.bind_some] at h
  cases hx : w.heap[g]? with
  | none => rw [hx] at h; simp at h
  | some o => exact (Array.getElem?_eq_some_iff.1 hx).1
theorem tab_global : ∃ g, Tryd.prog.globalNamed "internal/strconv.uint64pow10" = some g := by
  have h : (Tryd.prog.globalNamed "internal/strconv.uint64pow10").isSome = true := by kernel_rfl
  exact Option.isSome_iff_exists.1 h
theorem tab_below {w w' : World} (h : Lib.TabIs Tryd.prog w "internal/strconv.uint64pow10" .u64 Lib.pow10Tab) (hb : Below w.heap.size w w') : Lib.TabIs Tryd.prog w' "internal/strconv.uint64pow10" .u64 Lib.pow10Tab := by
  obtain ⟨g, hg⟩ := tab_global
  exact tab_held hg h (hb.block g (tab_lt hg h))

theorem Wrote.after {b : Nat} {w w1 w2 : World} (h : Wrote b w w1) (hb : b ≤ w1.heap.size) (k : Below w1.heap.size w1 w2) : Wrote b w w2 :=
  h.trans ⟨k.mono hb, fun i o hi _ _ => (k.block i (Array.getElem?_eq_some_iff.1 hi).1).trans hi⟩
theorem Wrote.alloc {b : Nat} {w w1 : World} (h : Wrote b w w1) (hb : b ≤ w1.heap.size) (o : Obj) : Wrote b w (w1.alloc o) := h.after hb (below_alloc (Below.refl _ _) o)
theorem out_after {b : Nat} {p : Value} {bs : List Value} {w w1 : World} (h : Out b p bs w) (k : Below w.heap.size w w1) : Out b p bs w1 := by
  obtain ⟨hB, v, hb, hown, hne⟩ := h
  exact ⟨hB, v, (k.block b (blk_lt hb)).trans hb, hown.kept (row := none) ⟨k.os, k.tape, k.output, k.size, fun i hi _ => k.block i hi⟩ (by cases h : v.ownBlock <;> simp), hne⟩
theorem is_after {b : Nat} {bs : List Value} {w w1 : World} (h : Lib.IsBuilder 55 5 b b bs w) (k : Below w.heap.size w w1) : Lib.IsBuilder 55 5 b b bs w1 := h.elim (fun x => .inl (out_after x k)) (fun x => .inr (out_after x k))
theorem is_lt {b : Nat} {bs : List Value} {w : World} (h : Lib.IsBuilder 55 5 b b bs w) : b < w.heap.size := h.elim (fun x => x.lt) (fun x => x.lt)

theorem itoa_calls (n : Nat) (hn : n ≤ 1000000000) (w : World) (htab : Lib.TabIs Tryd.prog w "internal/strconv.uint64pow10" .u64 Lib.pow10Tab) :
    Calls Tryd.prog 34 #[.int .i64 n] w fun e w' => e = .returned (.string ⟨(Lib.decDigits n).toArray⟩) ∧ Below w.heap.size w w' := by
  refine (Tryd.strconv_Itoa n (by omega) (by omega) w htab).mono ?_
  rintro e w' ⟨rfl, k, os, rfl⟩
  refine ⟨?_, rfl, rfl, rfl, ?_, fun i hi => ?_⟩
  · have e1 : Lib.itoa (n : Int) = Lib.decDigits n := by
      unfold Lib.itoa
      rw [if_neg (by omega)]
      simp
    rw [e1]
  · simp
  · rw [Sort.heap_grow_old _ _ (by simpa using hi)]
    rfl

theorem str_cells (l : List UInt8) : Lib.strCells ⟨l.toArray⟩ = Lib.byteCells l := by
  first | rfl | simp [Lib.strCells, Lib.byteCells]
theorem str_cells' (s : ByteArray) : Lib.strCells s = Lib.byteCells s.data.toList := by
  first | rfl | simp [Lib.strCells, Lib.byteCells]
theorem byte_cells_app (a c : List UInt8) : Lib.byteCells (a ++ c) = Lib.byteCells a ++ Lib.byteCells c := by simp [Lib.byteCells]
theorem byte_cells_len (a : List UInt8) : (Lib.byteCells a).length = a.length := by simp [Lib.byteCells]

theorem str_size (l : List UInt8) : (⟨l.toArray⟩ : ByteArray).size = l.length := List.size_toArray ..
set_option maxRecDepth 100000 in
set_option maxHeartbeats 2000000 in
theorem encode_calls (w0 : World) (htab : Lib.TabIs Tryd.prog w0 "internal/strconv.uint64pow10" .u64 Lib.pow10Tab) (b : Nat) (hb0 : w0.heap.size ≤ b) (k : Nat) :
    ∀ (lv : Int) (n : S25) (A : Option Addr) (c : Nat) (out : List UInt8) (w : World) (r : Except Int (List UInt8)), Kd.C k25 w0 A n.f2.length n.f2 → n.f2.length ≤ c → Below w0.heap.size w0 w →
      Lib.IsBuilder 55 5 b b (Lib.byteCells out) w → (0 ≤ lv ∧ lv ≤ 100) → encD k lv n out = some r →
      Calls Tryd.prog 25 #[.pointer (some ⟨b, 0, none⟩), .agg #[.bool n.f0, .string n.f1, .slice A n.f2.length c], .int .i64 lv] w (EncPost b w r) := by
  induction k using Nat.strongRecOn with
  | _ k ih0 =>
  intro lv n A c out w r hC hc hw0 hB hlv hr
  have IH := Lib.hid ih0
  clear ih0
  cases k with
  | zero => simp [encD] at hr
  | succ k =>
  have hbl := is_lt hB
  have hne : ¬ b = w.heap.size := by omega
  have hne' : ¬ w.heap.size = b := by omega
  have B0 : Lib.IsBuilder 55 5 b b (Lib.byteCells out) (w.alloc (.cells #[.bool n.f0, .string n.f1, .slice A n.f2.length c] 25)) := is_after hB (below_alloc (Below.refl _ _) _)
  have M0 : (w.alloc (.cells #[.bool n.f0, .string n.f1, .slice A n.f2.length c] 25)).heap[w.heap.size]? = some (.cells #[.bool n.f0, .string n.f1, .slice A n.f2.length c] 25 (0, 0)) := blk_new w _
  have W0 : Wrote b w (w.alloc (.cells #[.bool n.f0, .string n.f1, .slice A n.f2.length c] 25)) := (Wrote.refl b w).alloc (by omega) _
  have HB := Lib.hid B0
  have HM := Lib.hid M0
  have HW := Lib.hid W0
  have HC := Lib.hid hC
  have Hw0 := Lib.hid hw0
  clear B0 M0 W0 hC hw0 hB
  unfold encD at hr
  split at hr
  · simp at hr
  rename_i hlen
  have Hlen := Lib.hid hlen
  clear hlen
  obtain ⟨nf, nt, nk⟩ := n
  simp only at *
  by_cases c1 : (nf = true ∧ ¬ nt.size = 0) ∨ (nf = false ∧ 0 < nk.length)
  · rw [if_pos c1] at hr
    obtain rfl := Option.some.inj hr
    clear hr
    rcases c1 with ⟨rfl, c1⟩ | ⟨rfl, c1⟩
    · have e1 : nt.toList.isEmpty = false := by
        rw [ByteArray.toList_eq, ← Bool.not_eq_true, List.isEmpty_iff]
        intro e
        exact c1 (by rw [← ByteArray.size_data, ← Array.length_toList, e]; rfl)
      go_enter Tryd.func25, Tryd.ntmps25
      go_wp2_with (go_at_call 22; refine (fail_calls _ _).mono ?_; rintro e w' ⟨rfl, rfl⟩)
      exact ⟨rfl, rfl, HW.out⟩
    · have e1 : decide (0 < (nk.length : Int)) = true := decide_eq_true (by omega)
      go_enter Tryd.func25, Tryd.ntmps25
      go_wp2_with (go_at_call 22; refine (fail_calls _ _).mono ?_; rintro e w' ⟨rfl, rfl⟩)
      exact ⟨rfl, rfl, HW.out⟩
  · rw [if_neg c1] at hr
    by_cases c2 : 12 < lv ∨ 256 < nk.length
    · rw [if_pos c2] at hr
      obtain rfl := Option.some.inj hr
      clear hr
      have e0 : Hid ((nf = true ∧ nt.toList = []) ∨ (nf = false ∧ ¬ 0 < nk.length)) := Lib.hid (by
        cases nf with
        | true => left; refine ⟨rfl, ?_⟩; rw [ByteArray.toList_eq, ← List.length_eq_zero_iff, Array.length_toList, ByteArray.size_data]; simpa using c1
        | false => right; refine ⟨rfl, ?_⟩; simpa using c1)
      have e2 : Hid (decide (12 < lv) = true ∨ (decide (12 < lv) = false ∧ decide (256 < (nk.length : Int)) = true)) := Lib.hid (by
        by_cases x : 12 < lv
        · left; exact decide_eq_true x
        · right; exact ⟨decide_eq_false x, decide_eq_true (by omega)⟩)
      clear c1 c2
      rcases e0.out with ⟨rfl, e1⟩ | ⟨rfl, e1⟩
      all_goals rcases e2.out with e3 | ⟨e3, e4⟩
      all_goals
        go_enter Tryd.func25, Tryd.ntmps25
        go_wp2_with (go_at_call 22; refine (fail_calls _ _).mono ?_; rintro e w' ⟨rfl, rfl⟩)
        exact ⟨rfl, rfl, HW.out⟩
    · rw [if_neg c2] at hr
      have e3 : decide (12 < lv) = false := decide_eq_false (by omega)
      have e4 : decide (256 < (nk.length : Int)) = false := decide_eq_false (by omega)
      clear c2
      cases nf with
      | false =>
        have e1 : ¬ 0 < nk.length := by simpa using c1
        rw [if_pos rfl] at hr
        obtain rfl := Option.some.inj hr
        clear hr c1
        go_enter Tryd.func25, Tryd.ntmps25
        have hT1 : Lib.TabIs Tryd.prog (w.alloc (.cells #[.bool false, .string nt, .slice A nk.length c] 25)) "internal/strconv.uint64pow10" .u64 Lib.pow10Tab := tab_below htab (Hw0.out.trans (below_alloc (Below.refl _ _) _ |>.mono (by have := Hw0.out.size; omega)))
        have HT1 := Lib.hid hT1
        clear hT1
        have hs := Hlen.out
        have hs1 : nt.size ≤ 1000000000 := by omega
        have hs2 : out.length ≤ 1000000000 := by omega
        have hs3 : (Lib.decDigits nt.size).length ≤ 20 := by
          rw [Lib.decDigits_length]
          exact Lib.nDigits_le20 _ (by omega)
        clear hs
        go_wp2_with (go_at_call 34; refine (itoa_calls nt.size hs1 _ HT1.out).mono ?_)
        rintro e w1 ⟨rfl, hb1⟩
        have H1 := Lib.hid (is_after HB.out hb1)
        have M1 := Lib.hid ((hb1.block _ (blk_lt HM.out)).trans HM.out)
        have Wr1 := Lib.hid (HW.out.after (by have := blk_lt HM.out; omega) hb1)
        clear hb1
        go_wp2_with (go_at_call 33; refine (string_calls b (Lib.byteCells out) ⟨(Lib.decDigits nt.size).toArray⟩ w1 H1.out (by rw [byte_cells_len, str_size]; omega) (is_lt H1.out)).mono ?_)
        rintro e w2 ⟨rfl, o2, k2⟩
        have M2 := Lib.hid (k2.kept _ _ M1.out (by simpa using hne') (by simp))
        have Wr2 := Lib.hid (Wr1.out.trans k2)
        have O2 := Lib.hid o2
        clear o2 k2
        go_wp2_with (go_at_call 35; refine (wbyte_calls b _ 58 w2 (.inr O2.out) (by rw [List.length_append, byte_cells_len, Lib.strCells_length, str_size]; omega) O2.out.lt).mono ?_)
        rintro e w3 ⟨rfl, o3, k3⟩
        have M3 := Lib.hid (k3.kept _ _ M2.out (by simpa using hne') (by simp))
        have Wr3 := Lib.hid (Wr2.out.trans k3)
        have O3 := Lib.hid o3
        have q1 := (blk_cell M3.out 1).trans rfl
        clear o3 k3
        go_wp2_with (go_at_call 33; refine (string_calls b _ nt w3 (.inr O3.out) (by rw [List.length_append, List.length_append, byte_cells_len, Lib.strCells_length, str_size, List.length_singleton]; omega) O3.out.lt).mono ?_)
        rintro e w4 ⟨rfl, o4, k4⟩
        go_wp2
        refine bodyPost_ret (results_none rfl _ _ _) rfl ⟨rfl, ?_, Wr3.out.trans k4⟩
        rw [str_cells, str_cells'] at o4
        have e : Lib.byteCells (out ++ Lib.decDigits nt.size ++ [58] ++ nt.data.toList) = Lib.byteCells out ++ Lib.byteCells (Lib.decDigits nt.size) ++ [.int .u8 58] ++ Lib.byteCells nt.data.toList := by
          simp only [byte_cells_app]
          rfl
        rw [e]
        exact o4
      | true =>
        have e1 : nt.toList = [] := by
          rw [ByteArray.toList_eq, ← List.length_eq_zero_iff, Array.length_toList, ByteArray.size_data]
          simpa using c1
        rw [if_neg (by simp)] at hr
        have hs2 : out.length ≤ 1000000000 := by have := Hlen.out; omega
        have hwl : IntKind.i64.wrap (lv + 1) = lv + 1 := IntWalk.i64_in _ (by omega)
        obtain ⟨R, hR⟩ : ∃ R, encsD k lv nk (out ++ [40]) = R := ⟨_, rfl⟩
        rw [hR] at hr
        cases R with
        | none => simp at hr
        | some R =>
        have HR := Lib.hid hR
        have Hr := Lib.hid hr
        clear hr hR c1
        have hlv12 : lv ≤ 12 := by have := of_decide_eq_false e3; omega
        go_enter Tryd.func25, Tryd.ntmps25
        go_wp2_with (go_at_call 35; refine (wbyte_calls b _ 40 _ HB.out (by rw [byte_cells_len]; omega) (is_lt HB.out)).mono ?_)
        rintro e w1 ⟨rfl, o1, k1⟩
        have M1 := Lib.hid (k1.kept _ _ HM.out (by simpa using hne') (by simp))
        have Wr1 := Lib.hid (HW.out.trans k1)
        have O1 : Hid (Out b (.pointer (some ⟨b, 0, none⟩)) (Lib.byteCells (out ++ [40])) w1) := Lib.hid (by rw [byte_cells_app]; exact o1)
        have q2 := (blk_cell M1.out 2).trans rfl
        clear o1 k1
        go_wp2_with fail
        go_loopg [56] k (fun kq v56 wr => ∃ (i : Int) (o : List UInt8), v56 = .int .i64 i ∧ Hid (encsD kq lv (nk.drop i.toNat) o = some R) ∧ (0 ≤ i ∧ i ≤ nk.length) ∧ Hid (Out b (.pointer (some ⟨b, 0, none⟩)) (Lib.byteCells o) wr) ∧ Hid (Wrote b w wr) ∧ Hid (kq ≤ k))
        case atStart => exact ⟨0, out ++ [40], rfl, HR, by omega, O1, Wr1, Lib.hid (Nat.le_refl _)⟩
        case round =>
          obtain ⟨i, o, rfl, HE, hi, HO, HWr, HK⟩ := hrel
          clear O1 M1 Wr1 HR q2
          cases gk with
          | zero => exact absurd HE.out (by simp [encsD])
          | succ kq =>
          have hE := HE.out
          clear HE
          by_cases d0 : i = nk.length
          · have e5 : decide (i < (nk.length : Int)) = false := decide_eq_false (by omega)
            rw [List.drop_eq_nil_of_le (by omega)] at hE
            unfold encsD at hE
            split at hE
            · simp at hE
            rename_i hlo
            obtain rfl := Option.some.inj hE
            obtain rfl := Option.some.inj Hr.out
            clear hE
            have Hlo := Lib.hid hlo
            clear hlo
            go_wp2_with (go_at_call 35; refine (wbyte_calls b _ 41 _ (.inr HO.out) (by rw [byte_cells_len]; have := Hlo.out; omega) HO.out.lt).mono ?_; rintro e w2 ⟨rfl, o2, k2⟩; have O3 := Lib.hid o2; have K3 := Lib.hid k2; clear o2 k2)
            refine bodyPost_ret (results_none rfl _ _ _) rfl ⟨rfl, ?_, HWr.out.trans K3.out⟩
            rw [byte_cells_app]
            exact O3.out
          · have p1 : 0 ≤ i := hi.1
            have q1 : i < (nk.length : Int) := by omega
            have e5 : decide (i < (nk.length : Int)) = true := decide_eq_true q1
            have hlt : i.toNat < nk.length := by omega
            rw [List.drop_eq_getElem_cons hlt] at hE
            have hrd : nk[i.toNat] = rd_T25 nk i := by
              unfold rd_T25
              rw [List.getD_eq_getElem?_getD, List.getElem?_eq_getElem hlt, Option.getD_some]
            rw [hrd] at hE
            unfold encsD at hE
            obtain ⟨ad, A2, c2, rfl, hx0, hx1, hx2, hl2, hC2⟩ := at_T25 HC.out i p1 q1
            have hBw : Below w0.heap.size w0 wr := Hw0.out.trans (HWr.out.below.mono hb0)
            replace hx0 := (hBw.cell (World.block_lt_of_cell? w0 _ hx0)).trans hx0
            replace hx1 := (hBw.cell (World.block_lt_of_cell? w0 _ hx1)).trans hx1
            replace hx2 := (hBw.cell (World.block_lt_of_cell? w0 _ hx2)).trans hx2
            have HC2 := Lib.hid hC2
            have HL2 := Lib.hid hl2
            have HBw := Lib.hid hBw
            clear hBw hC2 hl2 hrd d0
            cases hT : encD kq (lv + 1) (rd_T25 nk i) o with
            | none => rw [hT] at hE; simp at hE
            | some T =>
              rw [hT] at hE
              have HT := Lib.hid hT
              have HE := Lib.hid hE
              clear hT hE
              have hBl := HO.out.lt
              have hB2 : Below w0.heap.size w0 (wr.alloc (.cells #[.bool (rd_T25 nk i).f0, .string (rd_T25 nk i).f1, .slice A2 (rd_T25 nk i).f2.length c2] 25)) := HBw.out.alloc (by have := HBw.out.size; omega) _
              have HB2 := Lib.hid hB2
              clear hB2
              have HO2 := Lib.hid (out_after HO.out (below_alloc (Below.refl wr.heap.size wr) (.cells #[.bool (rd_T25 nk i).f0, .string (rd_T25 nk i).f1, .slice A2 (rd_T25 nk i).f2.length c2] 25)))
              go_wp2_with (go_at_call 25; refine (IH.out kq (by have := HK.out; omega) (lv + 1) (rd_T25 nk i) A2 c2 o (wr.alloc (.cells #[.bool (rd_T25 nk i).f0, .string (rd_T25 nk i).f1, .slice A2 (rd_T25 nk i).f2.length c2] 25)) T HC2.out HL2.out HB2.out (.inr HO2.out) (by omega) HT.out).mono ?_)
              intro e w2 hp
              cases T with
              | error c3 =>
                obtain ⟨he, k2⟩ := hp
                have he : e = _ := he
                subst he
                obtain rfl := Option.some.inj HE.out
                obtain rfl := Option.some.inj Hr.out
                exact ⟨rfl, rfl, (HWr.out.alloc (Nat.le_of_lt HO.out.lt) _).trans k2⟩
              | ok o3 =>
                obtain ⟨rfl, o2, k2⟩ := hp
                have HE2 := Lib.hid (show encsD kq lv (nk.drop (i.toNat + 1)) o3 = some R from HE.out)
                have HO3 := Lib.hid o2
                have HW3 := Lib.hid ((HWr.out.alloc (Nat.le_of_lt HO.out.lt) _).trans k2)
                clear o2 k2
                have hwi : IntKind.i64.wrap (i + 1) = i + 1 := IntWalk.i64_in _ (by have := of_decide_eq_false e4; omega)
                go_wp2
                go_roundg kq
                case measure => omega
                case rel => exact ⟨i + 1, o3, rfl, Lib.hid (by have h1 : (i + 1).toNat = i.toNat + 1 := by omega
                                                               rw [h1]; exact HE2.out), by omega, HO3, HW3, Lib.hid (by have := HK.out; omega)⟩
end Go.Proofs.YtcmlonloiamchaaDoor.CoHand
