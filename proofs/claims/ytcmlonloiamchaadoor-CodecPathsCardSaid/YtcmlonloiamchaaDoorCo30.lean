-- PRINTED by print.py (a twelfth state) out of the translation. Not trusted: Lean checks it.
import Derived.Test.YtcmlonloiamchaaDoorCo0
import Derived.Test.YtcmlonloiamchaaDoorCo29
namespace Go.Proofs.YtcmlonloiamchaaDoor.Co
open Go.RowKit Go.Proofs.YtcmlonloiamchaaDoorW.PrintWords Go.Proofs.YtcmlonloiamchaaDoorW.PrintLast Go.Proofs.YtcmlonloiamchaaDoorW.PrintMore
attribute [local go_sem] max2_int min2_int max_two min_two max_three min_three max_four min_four   -- for this text's walks alone
set_option linter.unusedVariables false
set_option linter.unusedSimpArgs false

/-! ### codec_At: function 17 -/
def codec_At.l0 : Nat → List Int → Int → Int → Bool → ByteArray → List (S25) → Option (Bool × ByteArray × (List (S25)) × Int)
  | 0, _, _, _, _, _, _ => none
  | k + 1, x8, x9, x10, x140000, x140001, x140002 => if x10 < x9 then (if 0 ≤ x10 then (if x10 < (x8.length : Int) then (if x140000 = true then (if (rd x8 x10) < 0 then (some (false, (⟨#[]⟩ : ByteArray), ([] : List (S25)), 6)) else (if (rd x8 x10) ≥ (x140002.length : Int) then (some (false, (⟨#[]⟩ : ByteArray), ([] : List (S25)), 6)) else (if 0 ≤ (rd x8 x10) then (if (rd x8 x10) < (x140002.length : Int) then (codec_At.l0 k x8 x9 (wrap64 (x10 + 1)) ((rd_T25 x140002 (rd x8 x10)).f0) ((rd_T25 x140002 (rd x8 x10)).f1) ((rd_T25 x140002 (rd x8 x10)).f2)) else (none)) else (none)))) else (some (false, (⟨#[]⟩ : ByteArray), ([] : List (S25)), 6))) else (none)) else (none)) else ((codec_copied.f k x140000 x140001 x140002).bind fun bt143 => (some (bt143.1, bt143.2.1, bt143.2.2, 0)))
def codec_At.f (k : Nat) (a0_0 : Bool) (a0_1 : ByteArray) (l0_2 : List (S25)) (l1 : List Int) : Option (Bool × ByteArray × (List (S25)) × Int) := codec_At.l0 k l1 (l1.length : Int) 0 a0_0 a0_1 l0_2
theorem codec_At.mono_l : ∀ k, (∀ y0 y1 y2 y3 y4 y5, LeO (codec_At.l0 k y0 y1 y2 y3 y4 y5) (codec_At.l0 (k + 1) y0 y1 y2 y3 y4 y5))
  | 0 => fun _ _ _ _ _ _ r h => by simp [codec_At.l0] at h
  | k + 1 => by
    have ih0 := codec_At.mono_l k
    · intro y0 y1 y2 y3 y4 y5
      unfold codec_At.l0
      repeat' first
      | (with_reducible exact ih0 _ _ _ _ _ _)
      | (with_reducible exact codec_copied.mono _ _ _ _)
      | (with_reducible exact LeO.refl _)
      | (with_reducible exact LeO.none _)
      | (with_reducible refine LeO.ite ?_ ?_)
      | (with_reducible refine LeO.bind ?_ (fun _ => ?_))
      | exact ih0 _ _ _ _ _ _
      | exact codec_copied.mono _ _ _ _
      | exact LeO.none _
      | refine LeO.ite ?_ ?_
      | refine LeO.bind ?_ (fun _ => ?_)
theorem codec_At.mono : ∀ a0 a1 a2 a3 k, LeO (codec_At.f k a0 a1 a2 a3) (codec_At.f (k + 1) a0 a1 a2 a3) := by
  intro a0 a1 a2 a3 k
  have ih0 := codec_At.mono_l k
  unfold codec_At.f
  repeat' first
      | (with_reducible exact ih0 _ _ _ _ _ _)
      | (with_reducible exact codec_copied.mono _ _ _ _)
      | (with_reducible exact LeO.refl _)
      | (with_reducible exact LeO.none _)
      | (with_reducible refine LeO.ite ?_ ?_)
      | (with_reducible refine LeO.bind ?_ (fun _ => ?_))
      | exact ih0 _ _ _ _ _ _
      | exact codec_copied.mono _ _ _ _
      | exact LeO.none _
      | refine LeO.ite ?_ ?_
      | refine LeO.bind ?_ (fun _ => ?_)
set_option maxHeartbeats 8000000 in
set_option maxRecDepth 100000 in
theorem codec_At.calls (k : Nat) (a0_0 : Bool) (a0_1 : ByteArray) (P0_2_ : Nat → Prop) (A0_2 : Option Addr) (c0_2 : Nat) (l0_2 : List (S25)) (A1 : Option Addr) (c1 : Nat) (l1 : List Int) (r1 : Bool) (r2 : ByteArray) (r3 : List (S25)) (r4 : Int) (w : World) (hs0_2 : Kd.V k25 25 w w.heap.size (fun k_ => P0_2_ k_) (.slice A0_2 l0_2.length c0_2) l0_2) (hr1 : Kd.C (Kd.int .i64) w A1 l1.length l1) (hc1 : l1.length ≤ c1) (h : codec_At.f k a0_0 a0_1 l0_2 l1 = some (r1, r2, r3, r4)) :
    Calls Tryd.prog 17 #[.agg #[.bool a0_0, .string a0_1, .slice A0_2 l0_2.length c0_2], .slice A1 l1.length c1] w fun e w' => ∃ v2_ : Value, e = .returned (.tuple #[.agg #[.bool r1, .string r2, v2_], .int .i64 r4]) ∧ Kd.R k25 25 w' w.heap.size (fun k_ => (w.heap.size ≤ k_)) v2_ r3 ∧ Below w.heap.size w w' := by
  have hu25 := Tryd.underlying25
  have HO0_2 := Aside0.mk (show Kd.V k25 25 w w.heap.size (fun k_ => (P0_2_ k_ ∨ w.heap.size ≤ k_)) (.slice A0_2 l0_2.length c0_2) l0_2 from Kd.V_mono hs0_2 (fun k_ hk => .inl hk))
  have HR1 := Aside0.mk hr1
  have HC1 := Aside0.mk hc1
  clear hr1 hc1
  have HB := Aside0.mk (Below.refl w.heap.size w)
  have H : (codec_At.l0 k l1 (l1.length : Int) 0 a0_0 a0_1 l0_2) = some (r1, r2, r3, r4) := h
  clear h
  have H' := Aside0.mk H
  clear H
  go_enter Tryd.func17, Tryd.ntmps17
  go_wp2_with (first | ((with_reducible refine gate_dst (N := 2) rfl ?_); (try (refine gate_guard (by rfl) ?_; dsimp only)); refine box_event ?hg (N := 2) ?hd (cs := #[.bool a0_0, .string a0_1, .slice A0_2 l0_2.length c0_2]) (t := 25) ?hr ?_; (case hd => rfl); (case hg => rfl); (case hr => first | (go_simp; done) | (go_simp; rfl)); intro gb139 hg w3 hbox hb; have n0_ := Aside0.mk (Kd.V_below (Kd.V_elderB (by (with_reducible repeat (first | apply Kd.V_alloc | apply Kd.V_drewN | apply Kd.V_drew)); exact HO0_2.out) gb139 (Nat.le_of_eq hg.symm)) hb); have n1_ := Aside0.mk (below_step (by repeat (first | (with_reducible first | exact HB.out | apply below_alloc | apply pw_below_drewN | apply below_drew1) | exact HB.out)) hb); have n2_ := Aside0.mk (hbox); have n3_ := Aside0.mk ((by rw [hg]; exact (below_size (by repeat (first | (with_reducible first | exact HB.out | apply below_alloc | apply pw_below_drewN | apply below_drew1) | exact HB.out))) : w.heap.size ≤ gb139)); have n4_ := Aside0.mk ((by rw [hg]; exact (below_size (by repeat (first | (with_reducible first | exact HB.out | apply below_alloc | apply pw_below_drewN | apply below_drew1) | exact HB.out))) : w.heap.size ≤ gb139)); clear HO0_2; clear HB; have HO0_2 := n0_; have HB := n1_; have BK139 := n2_; have GW139 := n3_; have GE139 := n4_; clear n0_ n1_ n2_ n3_ n4_; clear hb hbox hg) | ((with_reducible refine gate_dst (N := 4) rfl ?_); (try (refine gate_guard (by rfl) ?_; dsimp only)); refine box_event ?hg (N := 4) ?hd (cs := #[.bool false, .string (⟨#[]⟩ : ByteArray), .slice none 0 0]) (t := 25) ?hr ?_; (case hd => rfl); (case hg => rfl); (case hr => first | (go_simp; done) | (go_simp; rfl)); intro gb140 hg w4 hbox hb; have n0_ := Aside0.mk (Kd.V_below (Kd.V_elderB (by (with_reducible repeat (first | apply Kd.V_alloc | apply Kd.V_drewN | apply Kd.V_drew)); exact HO0_2.out) gb140 (Nat.le_of_eq hg.symm)) hb); have n1_ := Aside0.mk (blk_below (g := gb139) (o := .cells #[.bool a0_0, .string a0_1, .slice A0_2 l0_2.length c0_2] 25 (0, 0)) (by (with_reducible repeat (first | refine blk_drewN ?_ _ | refine blk_drew ?_ | refine blk_alloc ?_ _)); exact BK139.out) hb); have n2_ := Aside0.mk (below_step (by repeat (first | (with_reducible first | exact HB.out | apply below_alloc | apply pw_below_drewN | apply below_drew1 | refine below_set ?_ GE139.out) | exact HB.out)) hb); have n3_ := Aside0.mk (hbox); have n4_ := Aside0.mk ((by rw [hg]; exact (below_size (by repeat (first | (with_reducible first | exact HB.out | apply below_alloc | apply pw_below_drewN | apply below_drew1 | refine below_set ?_ GE139.out) | exact HB.out))) : w.heap.size ≤ gb140)); have n5_ := Aside0.mk ((by rw [hg]; exact (below_size (by repeat (first | (with_reducible first | exact HB.out | apply below_alloc | apply pw_below_drewN | apply below_drew1 | refine below_set ?_ GE139.out) | exact HB.out))) : w.heap.size ≤ gb140)); have n6_ := Aside0.mk ((by rw [hg]; exact Nat.ne_of_lt (blk_lt (g := gb139) (o := .cells #[.bool a0_0, .string a0_1, .slice A0_2 l0_2.length c0_2] 25 (0, 0)) (by (with_reducible repeat (first | refine blk_drewN ?_ _ | refine blk_drew ?_ | refine blk_alloc ?_ _)); exact BK139.out)) : gb139 ≠ gb140)); have n7_ := Aside0.mk ((by rw [hg]; exact Nat.ne_of_gt (blk_lt (g := gb139) (o := .cells #[.bool a0_0, .string a0_1, .slice A0_2 l0_2.length c0_2] 25 (0, 0)) (by (with_reducible repeat (first | refine blk_drewN ?_ _ | refine blk_drew ?_ | refine blk_alloc ?_ _)); exact BK139.out)) : gb140 ≠ gb139)); clear HO0_2; clear BK139; clear HB; have HO0_2 := n0_; have BK139 := n1_; have HB := n2_; have BK140 := n3_; have GW140 := n4_; have GE140 := n5_; have NB139_140 := n6_; have NB140_139 := n7_; clear n0_ n1_ n2_ n3_ n4_ n5_ n6_ n7_; clear hb hbox hg))
  go_loopg [10] k (fun kq v10 w' => ∃ (x10_1 : Int) (x140000_1 : Bool) (x140001_1 : ByteArray) (x140002_1 : List (S25)) (x141000_1 : Bool) (x141001_1 : ByteArray) (u140002 : Value), v10 = .int .i64 x10_1 ∧ Aside0 (codec_At.l0 kq l1 (l1.length : Int) x10_1 x140000_1 x140001_1 x140002_1 = some (r1, r2, r3, r4)) ∧ Aside0 (kq ≤ k) ∧ Aside0 (Kd.V k25 25 w' w.heap.size (fun k_ => (P0_2_ k_ ∨ w.heap.size ≤ k_) ∧ k_ ≠ gb139 ∧ k_ ≠ gb140) u140002 x140002_1) ∧ Aside0 (w'.heap[gb139]? = some (.cells #[.bool x140000_1, .string x140001_1, u140002] 25 (0, 0))) ∧ Aside0 (w'.heap[gb140]? = some (.cells #[.bool x141000_1, .string x141001_1, (.slice none 0 0)] 25 (0, 0))) ∧ Aside0 (Below w.heap.size w w'))
  case atStart => exact ⟨(0), (a0_0), (a0_1), (l0_2), (false), ((⟨#[]⟩ : ByteArray)), (.slice A0_2 l0_2.length c0_2), (by first | rfl | (simp; done) | (simp [*]; done)), H', ⟨Nat.le_refl _⟩, ⟨by (with_reducible repeat (first | apply Kd.V_alloc | apply Kd.V_drewN | apply Kd.V_drew)); exact Kd.V_mono HO0_2.out (fun _ hk => ⟨hk.1.1, ⟨hk.1.2, hk.2⟩⟩)⟩, ⟨by (with_reducible repeat (first | refine blk_drewN ?_ _ | refine blk_drew ?_ | refine blk_alloc ?_ _)); exact BK139.out⟩, ⟨by (with_reducible repeat (first | refine blk_drewN ?_ _ | refine blk_drew ?_ | refine blk_alloc ?_ _)); exact BK140.out⟩, ⟨by repeat (first | (with_reducible first | exact HB.out | apply below_alloc | apply pw_below_drewN | apply below_drew1 | refine below_set ?_ GE139.out | refine below_set ?_ GE140.out) | exact HB.out)⟩⟩
  case round =>
    clear H'
    try clear c1
    try clear p2
    obtain ⟨x10_1, x140000_1, x140001_1, x140002_1, x141000_1, x141001_1, u140002, rfl, HA, HK1, HO_140002, BK139, BK140, HB⟩ := hrel
    cases gk with
    | zero => exact absurd HA.out (by simp [codec_At.l0])
    | succ k1 =>
      have H := HA.out
      clear HA
      simp only [codec_At.l0] at H
      by_cases c5 : x10_1 < (l1.length : Int)
      · rw [if_pos c5] at H
        have c5b0 : decide (x10_1 < (l1.length : Int)) = true := decide_eq_true c5
        clear c5
        by_cases c6 : 0 ≤ x10_1
        · rw [if_pos c6] at H
          have c6b0 : decide (0 ≤ x10_1) = true := decide_eq_true c6
          clear c6
          by_cases c7 : x10_1 < (l1.length : Int)
          · rw [if_pos c7] at H
            have c7b0 : decide (x10_1 < (l1.length : Int)) = true := decide_eq_true c7
            clear c7
            by_cases c8 : x140000_1 = true
            · subst c8
              have H1 : (if (rd l1 x10_1) < 0 then (some (false, (⟨#[]⟩ : ByteArray), ([] : List (S25)), 6)) else (if (rd l1 x10_1) ≥ (x140002_1.length : Int) then (some (false, (⟨#[]⟩ : ByteArray), ([] : List (S25)), 6)) else (if 0 ≤ (rd l1 x10_1) then (if (rd l1 x10_1) < (x140002_1.length : Int) then (codec_At.l0 k1 l1 (l1.length : Int) (wrap64 (x10_1 + 1)) ((rd_T25 x140002_1 (rd l1 x10_1)).f0) ((rd_T25 x140002_1 (rd l1 x10_1)).f1) ((rd_T25 x140002_1 (rd l1 x10_1)).f2)) else (none)) else (none)))) = some (r1, r2, r3, r4) := by rw [if_pos rfl] at H; exact H
              clear H
              have H := H1
              clear H1
              by_cases c9 : (rd l1 x10_1) < 0
              · rw [if_pos c9] at H
                have c9b0 : decide ((rd l1 x10_1) < 0) = true := decide_eq_true c9
                clear c9
                simp only [Option.some.injEq, Prod.mk.injEq] at H
                obtain ⟨rfl, rfl, rfl, rfl⟩ := H
                have p141 : 0 ≤ (x10_1 : Int) := of_decide_eq_true (by first | (with_reducible assumption) | assumption)
                have q141 : x10_1 < (l1.length : Int) := of_decide_eq_true (by first | (with_reducible assumption) | assumption)
                obtain ⟨ad141, e141, hx141_0⟩ := Kd.at_int HR1.out x10_1 p141 q141
                cases e141
                replace hx141_0 := (HB.out.cell (World.block_lt_of_cell? w _ hx141_0)).trans hx141_0
                replace p141 := eq_true p141
                replace q141 := eq_true q141
                have hnb10 := NB139_140.out
                have hnc10 := NB140_139.out
                have hcz11_0 : wr.cell? ⟨gb139, 0, none⟩ = some (.bool true) := (blk_cell BK139.out 0).trans rfl
                have hcz11_1 : wr.cell? ⟨gb139, 1, none⟩ = some (.string x140001_1) := (blk_cell BK139.out 1).trans rfl
                have hcz11_2 : wr.cell? ⟨gb139, 2, none⟩ = some (u140002) := (blk_cell BK139.out 2).trans rfl
                have hfz11_0 := blk_frozen BK139.out 0
                have hfz11_1 := blk_frozen BK139.out 1
                have hfz11_2 := blk_frozen BK139.out 2
                have hcz12_0 : wr.cell? ⟨gb140, 0, none⟩ = some (.bool x141000_1) := (blk_cell BK140.out 0).trans rfl
                have hcz12_1 : wr.cell? ⟨gb140, 1, none⟩ = some (.string x141001_1) := (blk_cell BK140.out 1).trans rfl
                have hcz12_2 : wr.cell? ⟨gb140, 2, none⟩ = some (.slice none 0 0) := (blk_cell BK140.out 2).trans rfl
                have hfz12_0 := blk_frozen BK140.out 0
                have hfz12_1 := blk_frozen BK140.out 1
                have hfz12_2 := blk_frozen BK140.out 2
                go_wp2
                refine bodyPost_ret (results_ct rfl _ _ gb140 25 #[.bool false, .string (⟨#[]⟩ : ByteArray), .slice none 0 0] (0, 0) _ rfl (by (with_reducible repeat (first | refine blk_drewN ?_ _ | refine blk_drew ?_ | refine blk_alloc ?_ _)); refine blk_put (cs := #[.bool false, .string (⟨#[]⟩ : ByteArray), .slice none 0 0]) ?_ 2 _ rfl; (with_reducible repeat (first | refine blk_drewN ?_ _ | refine blk_drew ?_ | refine blk_alloc ?_ _)); refine blk_put (cs := #[.bool false, .string x141001_1, .slice none 0 0]) ?_ 1 _ rfl; (with_reducible repeat (first | refine blk_drewN ?_ _ | refine blk_drew ?_ | refine blk_alloc ?_ _)); refine blk_put (cs := #[.bool x141000_1, .string x141001_1, .slice none 0 0]) ?_ 0 _ rfl; (with_reducible repeat (first | refine blk_drewN ?_ _ | refine blk_drew ?_ | refine blk_alloc ?_ _)); exact BK140.out) Tryd.underlying25 rfl (by kernel_rfl)) rfl ?_
                exact ⟨_, by first | rfl | (simp [errW_none, errW_some] <;> rfl) | (simp [*, errW_none, errW_some] <;> rfl), by first | exact Kd.R_nil _ _ _ _ _ | exact Kd.N_nil _ _ _ _ _ | exact Kd.V_nil _ _ _ _ _ | exact Kd.Q_nil _ _ _ _ _ | exact Kd.S_nil _ _ _ _ _, by repeat (first | (with_reducible first | exact HB.out | apply below_alloc | apply pw_below_drewN | apply below_drew1 | refine below_set ?_ GE139.out | refine below_set ?_ GE140.out) | exact HB.out)⟩
              · rw [if_neg c9] at H
                have c9b0 : decide ((rd l1 x10_1) < 0) = false := decide_eq_false c9
                clear c9
                by_cases c13 : (rd l1 x10_1) ≥ (x140002_1.length : Int)
                · rw [if_pos c13] at H
                  have c13b0 : decide ((x140002_1.length : Int) ≤ (rd l1 x10_1)) = true := decide_eq_true c13
                  clear c13
                  simp only [Option.some.injEq, Prod.mk.injEq] at H
                  obtain ⟨rfl, rfl, rfl, rfl⟩ := H
                  have p141 : 0 ≤ (x10_1 : Int) := of_decide_eq_true (by first | (with_reducible assumption) | assumption)
                  have q141 : x10_1 < (l1.length : Int) := of_decide_eq_true (by first | (with_reducible assumption) | assumption)
                  obtain ⟨ad141, e141, hx141_0⟩ := Kd.at_int HR1.out x10_1 p141 q141
                  cases e141
                  replace hx141_0 := (HB.out.cell (World.block_lt_of_cell? w _ hx141_0)).trans hx141_0
                  replace p141 := eq_true p141
                  replace q141 := eq_true q141
                  have hnb14 := NB139_140.out
                  have hnc14 := NB140_139.out
                  have hcz15_0 : wr.cell? ⟨gb139, 0, none⟩ = some (.bool true) := (blk_cell BK139.out 0).trans rfl
                  have hcz15_1 : wr.cell? ⟨gb139, 1, none⟩ = some (.string x140001_1) := (blk_cell BK139.out 1).trans rfl
                  have hcz15_2 : wr.cell? ⟨gb139, 2, none⟩ = some (u140002) := (blk_cell BK139.out 2).trans rfl
                  have hfz15_0 := blk_frozen BK139.out 0
                  have hfz15_1 := blk_frozen BK139.out 1
                  have hfz15_2 := blk_frozen BK139.out 2
                  obtain ⟨Ao16, co16, eo16⟩ := Kd.V_slice HO_140002.out
                  subst eo16
                  have hcz17_0 : wr.cell? ⟨gb140, 0, none⟩ = some (.bool x141000_1) := (blk_cell BK140.out 0).trans rfl
                  have hcz17_1 : wr.cell? ⟨gb140, 1, none⟩ = some (.string x141001_1) := (blk_cell BK140.out 1).trans rfl
                  have hcz17_2 : wr.cell? ⟨gb140, 2, none⟩ = some (.slice none 0 0) := (blk_cell BK140.out 2).trans rfl
                  have hfz17_0 := blk_frozen BK140.out 0
                  have hfz17_1 := blk_frozen BK140.out 1
                  have hfz17_2 := blk_frozen BK140.out 2
                  go_wp2
                  refine bodyPost_ret (results_ct rfl _ _ gb140 25 #[.bool false, .string (⟨#[]⟩ : ByteArray), .slice none 0 0] (0, 0) _ rfl (by (with_reducible repeat (first | refine blk_drewN ?_ _ | refine blk_drew ?_ | refine blk_alloc ?_ _)); refine blk_put (cs := #[.bool false, .string (⟨#[]⟩ : ByteArray), .slice none 0 0]) ?_ 2 _ rfl; (with_reducible repeat (first | refine blk_drewN ?_ _ | refine blk_drew ?_ | refine blk_alloc ?_ _)); refine blk_put (cs := #[.bool false, .string x141001_1, .slice none 0 0]) ?_ 1 _ rfl; (with_reducible repeat (first | refine blk_drewN ?_ _ | refine blk_drew ?_ | refine blk_alloc ?_ _)); refine blk_put (cs := #[.bool x141000_1, .string x141001_1, .slice none 0 0]) ?_ 0 _ rfl; (with_reducible repeat (first | refine blk_drewN ?_ _ | refine blk_drew ?_ | refine blk_alloc ?_ _)); exact BK140.out) Tryd.underlying25 rfl (by kernel_rfl)) rfl ?_
                  exact ⟨_, by first | rfl | (simp [errW_none, errW_some] <;> rfl) | (simp [*, errW_none, errW_some] <;> rfl), by first | exact Kd.R_nil _ _ _ _ _ | exact Kd.N_nil _ _ _ _ _ | exact Kd.V_nil _ _ _ _ _ | exact Kd.Q_nil _ _ _ _ _ | exact Kd.S_nil _ _ _ _ _, by repeat (first | (with_reducible first | exact HB.out | apply below_alloc | apply pw_below_drewN | apply below_drew1 | refine below_set ?_ GE139.out | refine below_set ?_ GE140.out) | exact HB.out)⟩
                · rw [if_neg c13] at H
                  have c13b0 : decide ((x140002_1.length : Int) ≤ (rd l1 x10_1)) = false := decide_eq_false c13
                  clear c13
                  by_cases c18 : 0 ≤ (rd l1 x10_1)
                  · rw [if_pos c18] at H
                    have c18b0 : decide (0 ≤ (rd l1 x10_1)) = true := decide_eq_true c18
                    clear c18
                    by_cases c19 : (rd l1 x10_1) < (x140002_1.length : Int)
                    · rw [if_pos c19] at H
                      have c19b0 : decide ((rd l1 x10_1) < (x140002_1.length : Int)) = true := decide_eq_true c19
                      clear c19
                      have H' := Aside0.mk H
                      clear H
                      have p141 : 0 ≤ (x10_1 : Int) := of_decide_eq_true (by first | (with_reducible assumption) | assumption)
                      have q141 : x10_1 < (l1.length : Int) := of_decide_eq_true (by first | (with_reducible assumption) | assumption)
                      obtain ⟨ad141, e141, hx141_0⟩ := Kd.at_int HR1.out x10_1 p141 q141
                      cases e141
                      replace hx141_0 := (HB.out.cell (World.block_lt_of_cell? w _ hx141_0)).trans hx141_0
                      replace p141 := eq_true p141
                      replace q141 := eq_true q141
                      have hnb20 := NB139_140.out
                      have hnc20 := NB140_139.out
                      have hcz21_0 : wr.cell? ⟨gb139, 0, none⟩ = some (.bool true) := (blk_cell BK139.out 0).trans rfl
                      have hcz21_1 : wr.cell? ⟨gb139, 1, none⟩ = some (.string x140001_1) := (blk_cell BK139.out 1).trans rfl
                      have hcz21_2 : wr.cell? ⟨gb139, 2, none⟩ = some (u140002) := (blk_cell BK139.out 2).trans rfl
                      have hfz21_0 := blk_frozen BK139.out 0
                      have hfz21_1 := blk_frozen BK139.out 1
                      have hfz21_2 := blk_frozen BK139.out 2
                      obtain ⟨Ao22, co22, eo22⟩ := Kd.V_slice HO_140002.out
                      subst eo22
                      have p142 : 0 ≤ ((rd l1 x10_1) : Int) := of_decide_eq_true (by first | (with_reducible assumption) | assumption)
                      have q142 : (rd l1 x10_1) < (x140002_1.length : Int) := of_decide_eq_true (by first | (with_reducible assumption) | assumption)
                      obtain ⟨ad142, A142_2, c142_2, e142, hx142_0, hx142_1, hx142_2, hl142_2, hi142_2⟩ := at_T25 (Kd.V_reads' HO_140002.out).2.2 (rd l1 x10_1) p142 q142
                      cases e142
                      obtain ⟨ce142, hce142, hMe142, hcc142⟩ := Kd.V_get HO_140002.out z25 (rd l1 x10_1) p142 (by first | exact q142 | exact of_decide_eq_true (by first | (with_reducible assumption) | assumption) | (have e_ := (Kd.V_reads' HO_140002.out).1; omega))
                      obtain ⟨ua142_2, uc142_2, rfl, ul142_2, ge142_2⟩ := k25_openF hMe142
                      have hv142_2 := hcc142 2 _ rfl
                      rw [add_field _ _ 2 (by omega)] at hv142_2
                      replace hv142_2 := Option.some.inj (hv142_2.symm.trans hx142_2)
                      injection hv142_2 with hva_ hvn_ hvc_
                      rw [hva_] at ge142_2
                      rw [hvc_] at ul142_2
                      have HL142_2 := Aside0.mk (show Kd.V k25 25 _ w.heap.size _ _ ((rd_T25 x140002_1 (rd l1 x10_1)).f2) from Kd.V_mk ul142_2 ge142_2)
                      clear hva_ hvn_ hvc_ ge142_2 ul142_2
                      clear hcc142 hce142
                      have HR142_2 := Aside0.mk hi142_2
                      have HC142_2 := Aside0.mk hl142_2
                      clear hi142_2 hl142_2
                      replace p142 := eq_true p142
                      replace q142 := eq_true q142
                      go_wp2
                      go_roundg k1
                      case measure => have := HK1.out; omega
                      case rel => exact ⟨(wrap64 (x10_1 + 1)), ((rd_T25 x140002_1 (rd l1 x10_1)).f0), ((rd_T25 x140002_1 (rd l1 x10_1)).f1), ((rd_T25 x140002_1 (rd l1 x10_1)).f2), (x141000_1), (x141001_1), (.slice A142_2 ((rd_T25 x140002_1 (rd l1 x10_1)).f2).length c142_2), (by first | rfl | (simp; done) | (simp [*]; done)), H', ⟨by have := HK1.out; omega⟩, ⟨by (with_reducible repeat (first | apply Kd.V_alloc | apply Kd.V_drewN | apply Kd.V_drew)); exact Kd.V_mono (Kd.V_far (p := ⟨gb139, 2, none⟩) (Kd.V_far (p := ⟨gb139, 1, none⟩) (Kd.V_far (p := ⟨gb139, 0, none⟩) (Kd.V_mono HL142_2.out (fun k_ hk => (⟨hk, hk.2.1⟩ : _ ∧ k_ ≠ gb139))) (fun _ hk => hk.2) (.bool ((rd_T25 x140002_1 (rd l1 x10_1)).f0))) (fun _ hk => hk.2) (.string ((rd_T25 x140002_1 (rd l1 x10_1)).f1))) (fun _ hk => hk.2) (.slice A142_2 ((rd_T25 x140002_1 (rd l1 x10_1)).f2).length c142_2)) (fun _ hk => ⟨hk.1.1, ⟨hk.1.2.1, hk.1.2.2⟩⟩)⟩, ⟨by (with_reducible repeat (first | refine blk_drewN ?_ _ | refine blk_drew ?_ | refine blk_alloc ?_ _)); refine blk_put (cs := #[.bool ((rd_T25 x140002_1 (rd l1 x10_1)).f0), .string ((rd_T25 x140002_1 (rd l1 x10_1)).f1), .slice (some ad142) x140002_1.length co22]) ?_ 2 _ rfl; (with_reducible repeat (first | refine blk_drewN ?_ _ | refine blk_drew ?_ | refine blk_alloc ?_ _)); refine blk_put (cs := #[.bool ((rd_T25 x140002_1 (rd l1 x10_1)).f0), .string x140001_1, .slice (some ad142) x140002_1.length co22]) ?_ 1 _ rfl; (with_reducible repeat (first | refine blk_drewN ?_ _ | refine blk_drew ?_ | refine blk_alloc ?_ _)); refine blk_put (cs := #[.bool true, .string x140001_1, .slice (some ad142) x140002_1.length co22]) ?_ 0 _ rfl; (with_reducible repeat (first | refine blk_drewN ?_ _ | refine blk_drew ?_ | refine blk_alloc ?_ _)); exact BK139.out⟩, ⟨by (with_reducible repeat (first | refine blk_drewN ?_ _ | refine blk_drew ?_ | refine blk_alloc ?_ _)); refine blk_far ?_ NB140_139.out _; (with_reducible repeat (first | refine blk_drewN ?_ _ | refine blk_drew ?_ | refine blk_alloc ?_ _)); refine blk_far ?_ NB140_139.out _; (with_reducible repeat (first | refine blk_drewN ?_ _ | refine blk_drew ?_ | refine blk_alloc ?_ _)); refine blk_far ?_ NB140_139.out _; (with_reducible repeat (first | refine blk_drewN ?_ _ | refine blk_drew ?_ | refine blk_alloc ?_ _)); exact BK140.out⟩, ⟨by repeat (first | (with_reducible first | exact HB.out | apply below_alloc | apply pw_below_drewN | apply below_drew1 | refine below_set ?_ GE139.out | refine below_set ?_ GE140.out) | exact HB.out)⟩⟩
                    · rw [if_neg c19] at H
                      exact absurd H (by simp)
                  · rw [if_neg c18] at H
                    exact absurd H (by simp)
            · replace c8 := Bool.eq_false_iff.mpr c8
              subst c8
              have H1 : (some (false, (⟨#[]⟩ : ByteArray), ([] : List (S25)), 6)) = some (r1, r2, r3, r4) := by rw [if_neg (show ¬ (false = true) by decide)] at H; exact H
              clear H
              have H := H1
              clear H1
              simp only [Option.some.injEq, Prod.mk.injEq] at H
              obtain ⟨rfl, rfl, rfl, rfl⟩ := H
              have p141 : 0 ≤ (x10_1 : Int) := of_decide_eq_true (by first | (with_reducible assumption) | assumption)
              have q141 : x10_1 < (l1.length : Int) := of_decide_eq_true (by first | (with_reducible assumption) | assumption)
              obtain ⟨ad141, e141, hx141_0⟩ := Kd.at_int HR1.out x10_1 p141 q141
              cases e141
              replace hx141_0 := (HB.out.cell (World.block_lt_of_cell? w _ hx141_0)).trans hx141_0
              replace p141 := eq_true p141
              replace q141 := eq_true q141
              have hnb23 := NB139_140.out
              have hnc23 := NB140_139.out
              have hcz24_0 : wr.cell? ⟨gb139, 0, none⟩ = some (.bool false) := (blk_cell BK139.out 0).trans rfl
              have hcz24_1 : wr.cell? ⟨gb139, 1, none⟩ = some (.string x140001_1) := (blk_cell BK139.out 1).trans rfl
              have hcz24_2 : wr.cell? ⟨gb139, 2, none⟩ = some (u140002) := (blk_cell BK139.out 2).trans rfl
              have hfz24_0 := blk_frozen BK139.out 0
              have hfz24_1 := blk_frozen BK139.out 1
              have hfz24_2 := blk_frozen BK139.out 2
              have hcz25_0 : wr.cell? ⟨gb140, 0, none⟩ = some (.bool x141000_1) := (blk_cell BK140.out 0).trans rfl
              have hcz25_1 : wr.cell? ⟨gb140, 1, none⟩ = some (.string x141001_1) := (blk_cell BK140.out 1).trans rfl
              have hcz25_2 : wr.cell? ⟨gb140, 2, none⟩ = some (.slice none 0 0) := (blk_cell BK140.out 2).trans rfl
              have hfz25_0 := blk_frozen BK140.out 0
              have hfz25_1 := blk_frozen BK140.out 1
              have hfz25_2 := blk_frozen BK140.out 2
              go_wp2
              refine bodyPost_ret (results_ct rfl _ _ gb140 25 #[.bool false, .string (⟨#[]⟩ : ByteArray), .slice none 0 0] (0, 0) _ rfl (by (with_reducible repeat (first | refine blk_drewN ?_ _ | refine blk_drew ?_ | refine blk_alloc ?_ _)); refine blk_put (cs := #[.bool false, .string (⟨#[]⟩ : ByteArray), .slice none 0 0]) ?_ 2 _ rfl; (with_reducible repeat (first | refine blk_drewN ?_ _ | refine blk_drew ?_ | refine blk_alloc ?_ _)); refine blk_put (cs := #[.bool false, .string x141001_1, .slice none 0 0]) ?_ 1 _ rfl; (with_reducible repeat (first | refine blk_drewN ?_ _ | refine blk_drew ?_ | refine blk_alloc ?_ _)); refine blk_put (cs := #[.bool x141000_1, .string x141001_1, .slice none 0 0]) ?_ 0 _ rfl; (with_reducible repeat (first | refine blk_drewN ?_ _ | refine blk_drew ?_ | refine blk_alloc ?_ _)); exact BK140.out) Tryd.underlying25 rfl (by kernel_rfl)) rfl ?_
              exact ⟨_, by first | rfl | (simp [errW_none, errW_some] <;> rfl) | (simp [*, errW_none, errW_some] <;> rfl), by first | exact Kd.R_nil _ _ _ _ _ | exact Kd.N_nil _ _ _ _ _ | exact Kd.V_nil _ _ _ _ _ | exact Kd.Q_nil _ _ _ _ _ | exact Kd.S_nil _ _ _ _ _, by repeat (first | (with_reducible first | exact HB.out | apply below_alloc | apply pw_below_drewN | apply below_drew1 | refine below_set ?_ GE139.out | refine below_set ?_ GE140.out) | exact HB.out)⟩
          · rw [if_neg c7] at H
            exact absurd H (by simp)
        · rw [if_neg c6] at H
          exact absurd H (by simp)
      · rw [if_neg c5] at H
        have c5b0 : decide (x10_1 < (l1.length : Int)) = false := decide_eq_false c5
        clear c5
        replace H := Option.bind_eq_some_iff.mp H
        obtain ⟨⟨t143, t144, t145⟩, A260, H⟩ := H
        replace H : (some (t143, t144, t145, 0)) = some (r1, r2, r3, r4) := H
        have A26 := Aside0.mk A260
        clear A260
        simp only [Option.some.injEq, Prod.mk.injEq] at H
        obtain ⟨rfl, rfl, rfl, rfl⟩ := H
        have hnb27 := NB139_140.out
        have hnc27 := NB140_139.out
        have hcz28_0 : wr.cell? ⟨gb139, 0, none⟩ = some (.bool x140000_1) := (blk_cell BK139.out 0).trans rfl
        have hcz28_1 : wr.cell? ⟨gb139, 1, none⟩ = some (.string x140001_1) := (blk_cell BK139.out 1).trans rfl
        have hcz28_2 : wr.cell? ⟨gb139, 2, none⟩ = some (u140002) := (blk_cell BK139.out 2).trans rfl
        have hfz28_0 := blk_frozen BK139.out 0
        have hfz28_1 := blk_frozen BK139.out 1
        have hfz28_2 := blk_frozen BK139.out 2
        obtain ⟨Ao29, co29, eo29⟩ := Kd.V_slice HO_140002.out
        subst eo29
        go_wp2_with (first | ((with_reducible refine gate_callee (f := 28) rfl ?_); refine goesL_ (some 36) rfl rfl Tryd.func28 (by kernel_rfl) rfl #[.agg #[.bool x140000_1, .string x140001_1, .slice Ao29 x140002_1.length co29]] rfl (by (try simp only [List.map_toArray, List.map_cons, List.map_nil]); first | done | rfl | (simp only [List.length_drop, List.length_take]; rfl)) ?_; (with_reducible refine (codec_copied.calls k1 x140000_1 x140001_1 _ _ x140002_1 t143 t144 t145 _ ?side1 ?side2 A26.out).mono ?_); (case side1 => repeat (first | exact (Kd.V_reads' HO_140002.out).2.2 | (with_reducible refine Kd.C_alloc ?_ _) | (with_reducible refine Kd.C_drewN ?_ _) | (with_reducible refine Kd.C_drew ?_))); (case side2 => exact (Kd.V_reads' HO_140002.out).2.1); rintro e w30 ⟨v146, rfl, ho0, hb⟩; refine ⟨_, rfl, ?_⟩; have n0_ := Aside0.mk (Kd.V_elder' (by (with_reducible repeat (first | apply Kd.V_alloc | apply Kd.V_drewN | apply Kd.V_drew)); exact HO_140002.out) (Kd.R_base ho0) hb); have n1_ := Aside0.mk (Kd.R_lower (Kd.R_newB (Kd.R_newB (Kd.R_newM (M := fun k_ => (w.heap.size ≤ k_)) ho0 (below_size (by repeat (first | (with_reducible first | exact HB.out | apply below_alloc | apply pw_below_drewN | apply below_drew1 | refine below_set ?_ GE139.out | refine below_set ?_ GE140.out) | exact HB.out))) (fun k_ h_ => h_)) (g := gb139) (o := .cells #[.bool x140000_1, .string x140001_1, .slice Ao29 x140002_1.length co29] 25 (0, 0)) (by (with_reducible repeat (first | refine blk_drewN ?_ _ | refine blk_drew ?_ | refine blk_alloc ?_ _)); exact BK139.out)) (g := gb140) (o := .cells #[.bool x141000_1, .string x141001_1, .slice none 0 0] 25 (0, 0)) (by (with_reducible repeat (first | refine blk_drewN ?_ _ | refine blk_drew ?_ | refine blk_alloc ?_ _)); exact BK140.out)) (below_size (by repeat (first | (with_reducible first | exact HB.out | apply below_alloc | apply pw_below_drewN | apply below_drew1 | refine below_set ?_ GE139.out | refine below_set ?_ GE140.out) | exact HB.out)))); have n2_ := Aside0.mk (blk_below (g := gb139) (o := .cells #[.bool x140000_1, .string x140001_1, .slice Ao29 x140002_1.length co29] 25 (0, 0)) (by (with_reducible repeat (first | refine blk_drewN ?_ _ | refine blk_drew ?_ | refine blk_alloc ?_ _)); exact BK139.out) hb); have n3_ := Aside0.mk (blk_below (g := gb140) (o := .cells #[.bool x141000_1, .string x141001_1, .slice none 0 0] 25 (0, 0)) (by (with_reducible repeat (first | refine blk_drewN ?_ _ | refine blk_drew ?_ | refine blk_alloc ?_ _)); exact BK140.out) hb); have n4_ := Aside0.mk (below_step (by repeat (first | (with_reducible first | exact HB.out | apply below_alloc | apply pw_below_drewN | apply below_drew1 | refine below_set ?_ GE139.out | refine below_set ?_ GE140.out) | exact HB.out)) hb); clear HO_140002; clear BK139; clear BK140; clear HB; have HO_140002 := n0_; have HO147 := n1_; have BK139 := n2_; have BK140 := n3_; have HB := n4_; clear n0_ n1_ n2_ n3_ n4_; (try clear hb); (try clear hb2); (try clear hk); (try clear hi); (try clear ho0); have hcz31_0 : w30.cell? ⟨gb140, 0, none⟩ = some (.bool x141000_1) := (blk_cell BK140.out 0).trans rfl; have hcz31_1 : w30.cell? ⟨gb140, 1, none⟩ = some (.string x141001_1) := (blk_cell BK140.out 1).trans rfl; have hcz31_2 : w30.cell? ⟨gb140, 2, none⟩ = some (.slice none 0 0) := (blk_cell BK140.out 2).trans rfl; have hfz31_0 := blk_frozen BK140.out 0; have hfz31_1 := blk_frozen BK140.out 1; have hfz31_2 := blk_frozen BK140.out 2; obtain ⟨Ao32, co32, eo32⟩ := Kd.R_slice HO147.out; subst eo32))
        refine bodyPost_ret (results_ct rfl _ _ gb140 25 #[.bool t143, .string t144, .slice Ao32 t145.length co32] (0, 0) _ rfl (by (with_reducible repeat (first | refine blk_drewN ?_ _ | refine blk_drew ?_ | refine blk_alloc ?_ _)); refine blk_put (cs := #[.bool t143, .string t144, .slice none 0 0]) ?_ 2 _ rfl; (with_reducible repeat (first | refine blk_drewN ?_ _ | refine blk_drew ?_ | refine blk_alloc ?_ _)); refine blk_put (cs := #[.bool t143, .string x141001_1, .slice none 0 0]) ?_ 1 _ rfl; (with_reducible repeat (first | refine blk_drewN ?_ _ | refine blk_drew ?_ | refine blk_alloc ?_ _)); refine blk_put (cs := #[.bool x141000_1, .string x141001_1, .slice none 0 0]) ?_ 0 _ rfl; (with_reducible repeat (first | refine blk_drewN ?_ _ | refine blk_drew ?_ | refine blk_alloc ?_ _)); exact BK140.out) Tryd.underlying25 rfl (by kernel_rfl)) rfl ?_
        exact ⟨_, by first | rfl | (simp [errW_none, errW_some] <;> rfl) | (simp [*, errW_none, errW_some] <;> rfl), by (with_reducible repeat (first | apply Kd.R_alloc | apply Kd.R_drewN | apply Kd.R_drew)); exact Kd.R_mono (Kd.R_far (p := ⟨gb140, 2, none⟩) (Kd.R_far (p := ⟨gb140, 1, none⟩) (Kd.R_far (p := ⟨gb140, 0, none⟩) (Kd.R_mono HO147.out (fun k_ hk => (⟨hk, hk.2⟩ : _ ∧ k_ ≠ gb140))) (fun _ hk => hk.2) (.bool t143)) (fun _ hk => hk.2) (.string t144)) (fun _ hk => hk.2) (.slice Ao32 t145.length co32)) (fun _ hk => hk.1.1.1.1), by repeat (first | (with_reducible first | exact HB.out | apply below_alloc | apply pw_below_drewN | apply below_drew1 | refine below_set ?_ GE139.out | refine below_set ?_ GE140.out) | exact HB.out)⟩

end Go.Proofs.YtcmlonloiamchaaDoor.Co
