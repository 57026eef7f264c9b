/- What the rows' condition on the laid variables gives, and the heap that the door's own run leaves meets it. -/
import Derived.Test.YtcmlonloiamchaaDoorCoStub
import Derived.Test.YtcmlonloiamchaaDoorRows
import Derived.Lib.LaidTab
import Derived.ProofKit
import Derived.LaidMore
import Derived.OpenShut
import Derived.Stop.Joined
namespace Go.Proofs.YtcmlonloiamchaaDoor.CoRow
open Go.ChangeShapes Go.WideShapes Go.ChangeAt Go.RowKit
set_option linter.unusedVariables false

def laid3 {H : Type} : List (String × DataW H) := [("math/bits.deBruijn32tab", Rows.laid_math_bits_deBruijn32tab), ("math/bits.deBruijn64tab", Rows.laid_math_bits_deBruijn64tab), ("internal/strconv.uint64pow10", Rows.laid_internal_strconv_uint64pow10)]
theorem own : ownKnob Tryd.prog.godebug = none := by kernel_rfl
theorem door_met (os : Os) (args : Array Value) : laidMetH Tryd.prog laid3 ((World.doorLaid Tryd.prog 24 os).forCall (fun _ _ => 0) ⟨#[], args, []⟩).memory :=
  laidMetH_of_parts3 (fuel := 8) (laidMet_of_run' 8 (by kernel_rfl) (by kernel_rfl)) (by kernel_rfl) (by kernel_rfl)
theorem tab_type : ∃ g t e n, Tryd.prog.globalNamed "internal/strconv.uint64pow10" = some g ∧ (Tryd.prog.globals[g]?).map (·.type) = some t ∧ Tryd.prog.underlying t = some (.array n e) ∧ Tryd.prog.underlying e = some (.int .u64) ∧ Tryd.prog.cellsOf e = 1 ∧ Tryd.prog.cellsOf t = n := by
  obtain ⟨g, hg⟩ := CoHand.tab_global
  have h : (match Tryd.prog.globalNamed "internal/strconv.uint64pow10" with | some g => (match (Tryd.prog.globals[g]?).map (·.type) with | some t => (match Tryd.prog.underlying t with | some (.array n e) => (match Tryd.prog.underlying e with | some (.int .u64) => Tryd.prog.cellsOf e == 1 && Tryd.prog.cellsOf t == n | _ => false) | _ => false) | _ => false) | _ => false) = true := by kernel_rfl
  rw [hg] at h
  simp only at h
  split at h
  · rename_i t ht
    split at h
    · rename_i n e hu
      split at h
      · rename_i he
        simp only [Bool.and_eq_true, beq_iff_eq] at h
        exact ⟨g, t, e, n, hg, ht, hu, he, h.1, h.2⟩
      · simp at h
    · simp at h
  · simp at h
theorem laid_of {W : World} (h : laidMetH Tryd.prog laid3 W) : Co.Laid W := by
  rw [MakeChecks.laidMetH_plain _ _ _ (by kernel_rfl)] at h
  obtain ⟨ps, ⟨g0, t0, cs0, f0, p0, q0, hg0, ht0, hv0, hd0, ⟨g1, t1, cs1, f1, p1, q1, hg1, ht1, hv1, hd1, ⟨g2, t2, cs2, f2, p2, q2, hg2, ht2, hv2, hd2, _⟩, _⟩, _⟩, _⟩ := h
  obtain ⟨g, t, e, n, hg, hty, ht, he, hce, hct⟩ := tab_type
  obtain rfl := Option.some.inj (hg.symm.trans hg2)
  obtain rfl := Option.some.inj (hty.symm.trans ht2)
  unfold Co.Laid Lib.TabIs
  rw [hv2]
  rw [← Lib.cells_of_tab (zs := Lib.pow10Tab) ht he hce hct hd2]
end Go.Proofs.YtcmlonloiamchaaDoor.CoRow
