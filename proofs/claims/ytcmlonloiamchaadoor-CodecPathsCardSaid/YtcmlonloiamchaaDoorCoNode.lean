/- A node of the encoding, read by the program: what it returns, or the panic by which it is left. -/
import Derived.Test.YtcmlonloiamchaaDoorCoNodeReg
namespace Go.Proofs.YtcmlonloiamchaaDoor.CoHand
open Go.RowKit Go.Proofs.YtcmlonloiamchaaDoorW.PrintWords Go.Proofs.YtcmlonloiamchaaDoorW.PrintLast Go.Proofs.YtcmlonloiamchaaDoorW.PrintMore Go.Proofs.YtcmlonloiamchaaDoor.Co
set_option linter.unusedVariables false
set_option linter.unusedSimpArgs false

set_option maxRecDepth 100000 in
set_option maxHeartbeats 2000000 in
theorem node_calls (s : ByteArray) (hs : s.size ≤ 100000) (k : Nat) : ∀ (lv i : Int) (w : World) (R : Nat) (r : Except Int (S25 × Int)), At w R s i → 0 ≤ i → i ≤ s.size → (0 ≤ lv ∧ lv ≤ 100) → nodeD s k lv i = some r →
    Calls Tryd.prog 21 #[.pointer (some ⟨R, 0, none⟩), .int .i64 lv] w (NodePost w R s i r) := by
  induction k using Nat.strongRecOn with
  | _ k ih0 =>
  intro lv i w R r h h0 hi hlv hr
  have IH := Lib.hid ih0
  clear ih0
  cases k with
  | zero => simp [nodeD] at hr
  | succ k =>
  have HA := Lib.hid h
  have hlt := h.lt
  have hne : ¬ R = w.heap.size := by omega
  have hne1 : ¬ R = w.heap.size + 1 := by omega
  have hne' : ¬ w.heap.size = R := by omega
  have hne1' : ¬ w.heap.size + 1 = R := by omega
  clear h
  have A0 : At (w.alloc (.cells #[.bool false, .string { data := #[] }, .slice none 0 0] 25)) R s i := At.alloc HA.out _
  have H0 : Held w R (w.alloc (.cells #[.bool false, .string { data := #[] }, .slice none 0 0] 25)) := (Held.refl w R).alloc (by omega) _
  have R0 : (w.alloc (.cells #[.bool false, .string { data := #[] }, .slice none 0 0] 25)).heap[w.heap.size]? = some (.cells #[.bool false, .string { data := #[] }, .slice none 0 0] 25 (0, 0)) := blk_new w _
  have HA0 := Lib.hid A0
  have HH0 := Lib.hid H0
  have HR0 := Lib.hid R0
  clear A0 H0 R0
  unfold nodeD at hr
  by_cases c0 : i = s.size
  · rw [if_pos c0] at hr
    obtain rfl := Option.some.inj hr
    clear hr
    have HC := Lib.hid c0
    clear c0
    go_enter Tryd.func21, Tryd.ntmps21
    go_wp2_with (go_at_call 29; refine (byte_end _ R s i HA0.out HC.out).mono ?_; rintro e w' ⟨rfl, m, rfl⟩)
    refine ⟨rfl, rfl, HH0.out.drewN m⟩
  · rw [if_neg c0] at hr
    have hi1 : i < s.size := by omega
    have hbr := bt_range s i
    clear c0
    by_cases c1 : bt s i ≠ 40 ∧ (bt s i < 48 ∨ 57 < bt s i)
    · rw [if_pos c1] at hr
      obtain rfl := Option.some.inj hr
      clear hr
      obtain ⟨c1, c2⟩ := c1
      have e1 : (bt s i != 40) = true := by simpa using c1
      have e2 : Hid (decide (bt s i < 48) = true ∨ (decide (bt s i < 48) = false ∧ decide (57 < bt s i) = true)) := Lib.hid (by
        by_cases x : bt s i < 48
        · left; exact decide_eq_true x
        · right; exact ⟨decide_eq_false x, decide_eq_true (by omega)⟩)
      clear c1 c2
      rcases e2.out with e3 | ⟨e3, e4⟩
      all_goals
        go_enter Tryd.func21, Tryd.ntmps21
        go_wp2_with (first | (go_at_call 29; refine (byte_ok _ R s i HA0.out h0 hi1).mono ?_; rintro e w' ⟨rfl, m, rfl⟩) | (go_at_call 22; refine (fail_calls _ _).mono ?_; rintro e w' ⟨rfl, rfl⟩))
        refine ⟨rfl, rfl, HH0.out.drewN m⟩
    · rw [if_neg c1] at hr
      have hdig : Hid ((bt s i != 40) = false ∨ ((bt s i != 40) = true ∧ decide (bt s i < 48) = false ∧ decide (57 < bt s i) = false)) := Lib.hid (by
        by_cases x : bt s i = 40
        · left; simp [x]
        · right; exact ⟨by simpa using x, decide_eq_false (by omega), decide_eq_false (by omega)⟩)
      clear c1
      by_cases c2 : lv > 12
      · rw [if_pos c2] at hr
        obtain rfl := Option.some.inj hr
        clear hr
        have e5 : decide (12 < lv) = true := decide_eq_true c2
        rcases hdig.out with e1 | ⟨e1, e3, e4⟩
        all_goals
          go_enter Tryd.func21, Tryd.ntmps21
          go_wp2_with (first | (go_at_call 29; refine (byte_ok _ R s i HA0.out h0 hi1).mono ?_; rintro e w' ⟨rfl, m, rfl⟩) | (go_at_call 22; refine (fail_calls _ _).mono ?_; rintro e w' ⟨rfl, rfl⟩))
          refine ⟨rfl, rfl, HH0.out.drewN m⟩
      · rw [if_neg c2] at hr
        have e5 : decide (12 < lv) = false := decide_eq_false c2
        by_cases c3 : bt s i ≠ 40
        · rw [if_pos c3] at hr
          rcases hdig.out with e1 | ⟨e1, e3, e4⟩
          · simp [c3] at e1
          · clear c3
            obtain ⟨T, hT⟩ : ∃ T, textD s i = T := ⟨_, rfl⟩
            rw [hT] at hr
            have HT := Lib.hid hT
            clear hT
            have HR := Lib.hid hr
            clear hr
            cases T with
            | error c =>
              obtain rfl := Option.some.inj HR.out
              clear HR
              go_enter Tryd.func21, Tryd.ntmps21
              go_wp2_with (first | (go_at_call 29; refine (byte_ok _ R s i HA0.out h0 hi1).mono ?_; rintro e w' ⟨rfl, m, rfl⟩) | (go_at_call 30; refine (text_calls _ R s i (HA0.out.drewN m) h0 hi hs).mono ?_; rw [HT.out]; rintro e w' ⟨rfl, hh⟩))
              refine ⟨rfl, rfl, (HH0.out.drewN m).trans hh⟩
            | ok T =>
              obtain ⟨t, j⟩ := T
              obtain rfl := Option.some.inj HR.out
              clear HR
              go_enter Tryd.func21, Tryd.ntmps21
              go_wp2_with (first | (go_at_call 29; refine (byte_ok _ R s i HA0.out h0 hi1).mono ?_; rintro e w' ⟨rfl, m, rfl⟩) | (go_at_call 30; refine (text_calls _ R s i (HA0.out.drewN m) h0 hi hs).mono ?_; rw [HT.out]; rintro e w' ⟨rfl, ha, hh⟩; have hHA := Lib.hid ha; have hHH := Lib.hid hh; have hHN := Lib.hid (hh.keep.blk (HR0.out : (_ : World).heap[w.heap.size]? = _) (fun e => hne e.symm) (by simp)); clear ha hh; have qf0 := blk_frozen hHN.out 0; have qf1 := blk_frozen hHN.out 1; have qf2 := blk_frozen hHN.out 2; have q0 := blk_cell hHN.out 0; have q1 := blk_cell hHN.out 1; have q2 := blk_cell hHN.out 2))
              have hb := text_bounds s i h0 hi1 hs HT.out
              refine bodyPost_ret (v := .agg #[.bool false, .string t, .slice none 0 0]) (results_c rfl _ _ w.heap.size 25 _ (0, 0) _ rfl (blk_put (blk_put (blk_put hHN.out 0 _ rfl) 1 _ rfl) 2 _ rfl) Tryd.underlying25 rfl (by kernel_rfl)) rfl ?_
              have hn2 : ¬ w.heap.size = R := fun e => hne e.symm
              refine ⟨_, rfl, Kd.R_nil _ _ _ _ _, ((hHA.out.far hn2 0 _).far hn2 1 _).far hn2 2 _, ?_, hb⟩
              exact (((((HH0.out.drewN m).trans hHH.out)).far (p := ⟨w.heap.size, 0, none⟩) (Nat.le_refl _) (Nat.le_of_lt hlt) _).far (p := ⟨w.heap.size, 1, none⟩) (Nat.le_refl _) (Nat.le_of_lt hlt) _).far (p := ⟨w.heap.size, 2, none⟩) (Nat.le_refl _) (Nat.le_of_lt hlt) _
        · rw [if_neg c3] at hr
          rcases hdig.out with e1 | ⟨e1, e3, e4⟩
          · clear c3
            have HK := Lib.hid hr
            clear hr hdig
            go_enter Tryd.func21, Tryd.ntmps21
            have p0 := HA0.out.c0
            have p1 := HA0.out.c1
            have pf := blk_frozen HA0.out 1
            go_wp2_with (first | (go_at_call 29; refine (byte_ok _ R s i HA0.out h0 hi1).mono ?_; rintro e w' ⟨rfl, m, rfl⟩))
            have M0 : Hid (Mid w R s (((((w.alloc (.cells #[.bool false, .string { data := #[] }, .slice none 0 0] 25)).drewN m).setCell ⟨R, 1, none⟩ (.int .i64 (i + 1))).alloc (.cells #[.bool true, .string { data := #[] }, .slice none 0 0] 25))) (i + 1) [] (.slice none 0 0)) := Lib.hid
              ⟨((HA0.out.drewN m).set _).alloc _, ((HH0.out.drewN m).set _ _).alloc (by simp; omega) _, blk_alloc (blk_far (p := ⟨R, 1, none⟩) HR0.out (fun e => hne e.symm) _) _, by
                have := blk_new (((w.alloc (.cells #[.bool false, .string { data := #[] }, .slice none 0 0] 25)).drewN m).setCell ⟨R, 1, none⟩ (.int .i64 (i + 1))) (.cells #[.bool true, .string { data := #[] }, .slice none 0 0] 25)
                simpa using this, Kd.R_nil _ _ _ _ _⟩
            clear p0 p1 pf
            go_loopg [] k (fun kq wr => ∃ (j : Int) (acc : List S25) (v2 : Value), Hid (Mid w R s wr j acc v2) ∧ Hid (kidsD s kq lv j acc = some r) ∧ (i + 1 ≤ j ∧ j ≤ s.size) ∧ Hid ((acc.length : Int) ≤ j) ∧ Hid (kq ≤ k))
            case atStart => exact ⟨i + 1, [], _, M0, HK, by omega, Lib.hid (by simp; omega), Lib.hid (Nat.le_refl _)⟩
            case round =>
              obtain ⟨j, acc, v2, HM, HK2, hj, HL, HKK⟩ := hrel
              clear M0 HK
              have hAt := HM.out.at_
              have r0 := hAt.c0
              have r1 := hAt.c1
              have rf := blk_frozen hAt 1
              clear hAt
              obtain ⟨Av, cv, ev⟩ := Kd.R_slice HM.out.row
              subst ev
              have m0 : wr.cell? ⟨w.heap.size + 1, 0, none⟩ = some (.bool true) := (blk_cell HM.out.var 0).trans rfl
              have m1 : wr.cell? ⟨w.heap.size + 1, 1, none⟩ = some (.string { data := #[] }) := (blk_cell HM.out.var 1).trans rfl
              have m2 : wr.cell? ⟨w.heap.size + 1, 2, none⟩ = some (.slice Av acc.length cv) := (blk_cell HM.out.var 2).trans rfl
              have mf := blk_frozen HM.out.var 2
              have o0 : wr.cell? ⟨w.heap.size, 0, none⟩ = some (.bool false) := (blk_cell HM.out.out 0).trans rfl
              have o1 : wr.cell? ⟨w.heap.size, 1, none⟩ = some (.string { data := #[] }) := (blk_cell HM.out.out 1).trans rfl
              have o2 : wr.cell? ⟨w.heap.size, 2, none⟩ = some (.slice none 0 0) := (blk_cell HM.out.out 2).trans rfl
              have n0 := blk_frozen HM.out.out 0
              have n1 := blk_frozen HM.out.out 1
              have n2 := blk_frozen HM.out.out 2
              cases gk with
              | zero => exact absurd HK2.out (by simp [kidsD])
              | succ kq =>
              have hr := HK2.out
              clear HK2
              unfold kidsD at hr
              by_cases d0 : j = s.size
              · rw [if_pos d0] at hr
                obtain rfl := Option.some.inj hr
                clear hr
                have HC := Lib.hid d0
                clear d0
                go_wp2_with (go_at_call 29; refine (byte_end _ R s j HM.out.at_ HC.out).mono ?_; rintro e w' ⟨rfl, m3, rfl⟩)
                exact ⟨rfl, rfl, HM.out.held.drewN m3⟩
              · rw [if_neg d0] at hr
                have hj1 : j < s.size := by omega
                have hj0 : 0 ≤ j := by omega
                have hbj := bt_range s j
                clear d0
                by_cases d1 : bt s j = 41
                · rw [if_pos d1] at hr
                  obtain rfl := Option.some.inj hr
                  clear hr
                  have f1 : (bt s j != 41) = false := by simp [d1]
                  clear d1
                  go_wp2_with (go_at_call 29; refine (byte_ok _ R s j HM.out.at_ hj0 hj1).mono ?_; rintro e w' ⟨rfl, m3, rfl⟩)
                  refine bodyPost_ret (v := .agg #[.bool true, .string { data := #[] }, .slice Av acc.length cv]) (results_c rfl _ _ w.heap.size 25 _ (0, 0) _ rfl (blk_put (blk_put (blk_put (blk_far (p := ⟨R, 1, none⟩) HM.out.out (fun e => hne e.symm) _) 0 _ rfl) 1 _ rfl) 2 _ rfl) Tryd.underlying25 rfl (by kernel_rfl)) rfl ?_
                  have rR : ∀ k, w.heap.size ≤ k → (k ≠ w.heap.size ∧ k ≠ w.heap.size + 1) → k ≠ R := fun k hk _ => by omega
                  have rN : ∀ k, w.heap.size ≤ k → (k ≠ w.heap.size ∧ k ≠ w.heap.size + 1) → k ≠ w.heap.size := fun k _ hk => hk.1
                  refine ⟨_, rfl, Kd.R_mono (row_set (row_set (row_set (row_set (Kd.R_drewN HM.out.row m3) rR 1 _) rN 0 _) rN 1 _) rN 2 _) (fun _ _ => trivial), (((((HM.out.at_.drewN m3).set _).far hne' 0 _).far hne' 1 _).far hne' 2 _), ?_, by omega, by omega⟩
                  exact ((((HM.out.held.drewN m3).set _ _).far (p := ⟨w.heap.size, 0, none⟩) (Nat.le_refl _) (Nat.le_of_lt hlt) _).far (p := ⟨w.heap.size, 1, none⟩) (Nat.le_refl _) (Nat.le_of_lt hlt) _).far (p := ⟨w.heap.size, 2, none⟩) (Nat.le_refl _) (Nat.le_of_lt hlt) _
                · rw [if_neg d1] at hr
                  have f1 : (bt s j != 41) = true := by simpa using d1
                  clear d1
                  by_cases d2 : acc.length = 256 ∧ (bt s j = 40 ∨ (48 ≤ bt s j ∧ bt s j ≤ 57))
                  · rw [if_pos d2] at hr
                    obtain rfl := Option.some.inj hr
                    clear hr
                    obtain ⟨d2, d3⟩ := d2
                    have f2 : ((acc.length : Int) == 256) = true := by simp; omega
                    have f3 : Hid ((bt s j == 40) = true ∨ ((bt s j == 40) = false ∧ decide (48 ≤ bt s j) = true ∧ decide (bt s j ≤ 57) = true)) := Lib.hid (by
                      by_cases x : bt s j = 40
                      · left; simpa using x
                      · right; exact ⟨by simpa using x, decide_eq_true (by omega), decide_eq_true (by omega)⟩)
                    clear d2 d3
                    rcases f3.out with f4 | ⟨f4, f5, f6⟩
                    all_goals
                      go_wp2_with (first | (go_at_call 29; refine (byte_ok _ R s j HM.out.at_ hj0 hj1).mono ?_; rintro e w' ⟨rfl, m3, rfl⟩) | (go_at_call 29; refine (byte_ok _ R s j (HM.out.at_.drewN _) hj0 hj1).mono ?_; rintro e w' ⟨rfl, m4, rfl⟩) | (go_at_call 22; refine (fail_calls _ _).mono ?_; rintro e w' ⟨rfl, rfl⟩))
                      exact ⟨rfl, rfl, HM.out.held.drewN _⟩
                  · rw [if_neg d2] at hr
                    have f3 : Hid (((acc.length : Int) == 256) = false ∨ (((acc.length : Int) == 256) = true ∧ (bt s j == 40) = false ∧ (decide (48 ≤ bt s j) = false ∨ (decide (48 ≤ bt s j) = true ∧ decide (bt s j ≤ 57) = false)))) := Lib.hid (by
                      by_cases x : acc.length = 256
                      · right
                        refine ⟨by simp; omega, by simp; omega, ?_⟩
                        by_cases y : 48 ≤ bt s j
                        · right; exact ⟨decide_eq_true y, decide_eq_false (by omega)⟩
                        · left; exact decide_eq_false y
                      · left; simp; omega)
                    clear d2
                    have HR2 := Lib.hid hr
                    clear hr
                    rcases f3.out with f4 | ⟨f4, f5, f6 | ⟨f6, f7⟩⟩
                    all_goals
                      go_wp2_with (first | (go_at_call 29; refine (byte_ok _ R s j HM.out.at_ hj0 hj1).mono ?_; rintro e w' ⟨rfl, m3, rfl⟩) | (go_at_call 29; refine (byte_ok _ R s j (HM.out.at_.drewN _) hj0 hj1).mono ?_; rintro e w' ⟨rfl, m4, rfl⟩))
                      generalize hW3 : wr.drewN (m3 + m4) = W3
                      have HM3 : Hid (Mid w R s W3 j acc (.slice Av acc.length cv)) := Lib.hid (hW3 ▸ HM.out.drewN _)
                      clear hW3 r0 r1 rf m0 m1 m2 mf o0 o1 o2 n0 n1 n2
                      cases hT : nodeD s kq (lv + 1) j with
                      | none => have hz := HR2.out; rw [hT] at hz; simp at hz
                      | some T =>
                        have HT := Lib.hid hT
                        clear hT
                        refine region14 s w W3 R lv j T acc Av cv _ _ _ _ _ _ _ _ _ _ _ _ _ _ _ _ _ _ _ _ _ _ _ _ _ _ _ _ _ _ _ _ _ _ _ _ _ _ _ _ _ _ _ _ _ _ _ _ _ _ _ _ _ _ _ _ _ _ _ _ _ _ _ _ _ _ _ _ _ _ _ _ hlv hlt (Lib.hid (by have := HL.out; omega)) HM3 (Lib.hid (fun W hW => IH.out kq (by have := HKK.out; omega) (lv + 1) j W R T hW hj0 (by omega) (by omega) HT.out)) (Lib.hid (fun _ _ _ d _ h => by cases d <;> exact h)) (Lib.hid (fun c hc a' w' hd hh => ?_)) (Lib.hid (fun n j' hc x58 x59 x60 x61 x62 x63 x64 x65 x66 w' v' hm hj1 hj2 => ?_))
                        · subst hc
                          have hr := HR2.out
                          rw [HT.out] at hr
                          obtain rfl := Option.some.inj hr
                          exact ⟨hd, rfl, hh⟩
                        · subst hc
                          have hr := HR2.out
                          rw [HT.out] at hr
                          have HKn := Lib.hid (show kidsD s kq lv j' (acc ++ [n]) = some r from hr)
                          have HMn := Lib.hid hm
                          clear hr hm
                          go_wp2
                          go_roundg kq
                          case measure => omega
                          case rel => exact ⟨j', acc ++ [n], v', HMn, HKn, by omega, Lib.hid (by have := HL.out; simp; omega), Lib.hid (by have := HKK.out; omega)⟩
          · exact absurd (by simpa using e1) c3
end Go.Proofs.YtcmlonloiamchaaDoor.CoHand
