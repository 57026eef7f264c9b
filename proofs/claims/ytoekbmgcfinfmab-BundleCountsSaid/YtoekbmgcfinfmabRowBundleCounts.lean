/- For all lays and limits the bundles of a garment have as many plies together as the lay, and there are as many bundles for each garment (lays that the law's guard lets in). -/
import Derived.Test.YtoekbmgcfinfmabRows
import Derived.Test.YtoekbmgcfinfmabOpens
import Derived.Test.YtoekbmgcfinfmabBu15
import Derived.Test.YtoekbmgcfinfmabBuThmCounts
import Derived.Test.YtoekbmgcfinfmabBuOpen
import Derived.WalkKit
import Derived.ProofKit
import Derived.OpenShut
import Derived.ShutString
import Derived.ChangeOld
import Derived.Below
import Derived.SizedLaws
namespace Go.Proofs.Ytoekbmgcfinfmab.bundleCounts
open Go.ChangeShapes Go.WideShapes Go.ChangeAt Go.RowKit Go.Proofs.YtoekbmgcfinfmabW.PrintWords Go.Proofs.Ytoekbmgcfinfmab.Opens Go.Proofs.Ytoekbmgcfinfmab.Bu
open Go.ChangeMaps (open_string shut_string)
set_option linter.unusedVariables false
set_option linter.unusedSimpArgs false
theorem own : ownKnob Try.prog.godebug = none := by kernel_rfl
theorem laidOut : laidOutB Try.prog = true := by kernel_rfl
set_option maxRecDepth 100000 in
theorem lifted (os : Os) (started : os.Started) (H : Type) (enc : TypeId × Value → H) :
    ReturnsInHanded {} Try.checked os 7 .any (Rows.bundleCountsSpec.pre6 enc Try.prog Try.f7 Rows.bundleCountsRow.domain false) (Rows.bundleCountsSpec.post enc Try.prog Try.f7 false true false false) := by
  refine returnsInHanded_of_change_sized (C := Try.checked) own started (by kernel_rfl) Try.func7
    (ChangeSpec.witness6 (enc := enc) (C := Try.checked) false ⟨#[], #[.agg #[.int .i64 0, .int .i64 0, .int .i64 0, .int .i64 0, .slice none 0 0, .slice none 0 0, .slice none 0 0], .int .i64 0], []⟩ 8 (by kernel_rfl) (by kernel_rfl) (by kernel_rfl) (by kernel_rfl)) ?_
  intro W base args ds gs before hval0 hW hcnd hsz0 _
  have hsz : (DataW.weightsEach Try.prog (Try.f7.params.toList ++ Rows.bundleCountsSpec.plain.varTypes Try.prog) (ds ++ gs)).all (· ≤ reachBytes) = true := hsz0
  have hval : ∀ (j : Nat) t v, Try.f7.params[j]? = some t → args[j]? = some v → Value.okWide Try.prog W .any base t v := hval0
  have hW' := hW
  obtain ⟨p, q, hA0, hV, rfl, hfz, hnd⟩ := hW
  have hA : DataW.TrodAll enc Try.prog W 0 (fun _ => true) true Try.f7.params.toList args.toList ds p := hA0
  rw [Try.params7] at hA hval hsz
  obtain ⟨v0, vs0, d0, ds0, p0, q0, hargs, rfl, rfl, h0, r0⟩ := trodAll_cons hA
  obtain ⟨v1, vs1, d1, ds1, p1, q1, rfl, rfl, rfl, h1, r1⟩ := trodAll_cons r0
  obtain ⟨rfl, rfl, rfl⟩ := trodAll_nil r1
  obtain rfl : args = #[v0, v1] := by cases args; simp_all
  obtain ⟨rfl, rfl⟩ := trodVars_none hV
  have k0 := h0
  have lt0 : ∀ x ∈ p0, x.block < W.heap.size := by obtain ⟨m, hm⟩ := k0; exact DataW.trod_lt m _ _ _ hm
  obtain ⟨cs0, rfl, _⟩ := okWide_struct Try.underlying35 (hval 0 35 v0 rfl rfl)
  obtain ⟨fu0, hf0⟩ := h0
  obtain ⟨y0, hw0, hk0⟩ := open35 enc W true fu0 _ _ hf0
  obtain ⟨A40, c40, A50, c50, A60, c60, hcs0, l40, h40, l50, h50, l60, h60⟩ := kLay_open hk0
  simp only [Value.cells] at hcs0
  obtain rfl : cs0 = #[.int .i64 y0.1.1, .int .i64 y0.1.2.1, .int .i64 y0.1.2.2.1.1, .int .i64 y0.1.2.2.1.2, .slice A40 y0.1.2.2.2.1.length c40, .slice A50 y0.1.2.2.2.2.length c50, .slice A60 y0.2.length c60] := by cases cs0; simpa using hcs0
  have k1 := h1
  have lt1 : ∀ x ∈ p1, x.block < W.heap.size := by obtain ⟨m, hm⟩ := k1; exact DataW.trod_lt m _ _ _ hm
  obtain ⟨a1, rfl, rfl, rfl, w1⟩ := open_int Try.underlying3 (hval 1 3 v1 rfl rfl) h1
  clear hA0 hval0 hsz0 hsz
  obtain ⟨k, h⟩ := Go.Proofs.Ytoekbmgcfinfmab.BuBase.counts_pure y0.1.1 y0.1.2.1 y0.1.2.2.1.1 y0.1.2.2.1.2 y0.1.2.2.2.1 y0.1.2.2.2.2 y0.2 a1 w1
  refine (garmentlaw44_BundleCounts.calls k y0.1.1 y0.1.2.1 y0.1.2.2.1.1 y0.1.2.2.1.2 _ _ y0.1.2.2.2.1 _ _ y0.1.2.2.2.2 _ _ y0.2 a1 true W h40 l40 h50 l50 h60 l60 h).mono fun e W' ⟨he, bel⟩ => ?_
  subst he
  exact ⟨_, rfl, _, _, _, [], _, [], hW', trodAll_mk1 (shut_bool Try.underlying4 _), (trodAll_cons_mk (Below.trod laidOut (by kernel_rfl) (of_decide_eq_true (by kernel_rfl)) k0 bel lt0) (trodAll_cons_mk (Below.trod laidOut (by kernel_rfl) (of_decide_eq_true (by kernel_rfl)) k1 bel lt1) trodAll_mk0)), rfl, bel.frame _, fun h => by cases h⟩
theorem over : Rows.bundleCountsRow.holds Try.pinned (OpenSpec.ofChange Rows.bundleCountsSpec) :=
  OpenClaim.holds_of_wide 7 Try.f7 rfl rfl rfl rfl rfl rfl rfl ⟨rfl, rfl, rfl, rfl, rfl⟩ rfl rfl rfl rfl rfl (by kernel_rfl) Try.func7 (by kernel_rfl)
    (of_decide_eq_true (by kernel_rfl)) (by unfold Func.isWrapper; first | (rw [if_pos (by decide +kernel)]; kernel_rfl) | (rw [if_neg (by decide +kernel)]; exact ⟨rfl, rfl⟩))
    (fun os started H enc _ => lifted os started H enc)
theorem proved : Rows.BundleCountsSaid := over
#print axioms proved
end Go.Proofs.Ytoekbmgcfinfmab.bundleCounts
namespace Go.Proofs.Ytoekbmgcfinfmab
/-- The row, under a short name, for the claim. -/
theorem bundleCounts_holds : Rows.BundleCountsSaid := bundleCounts.proved
end Go.Proofs.Ytoekbmgcfinfmab
