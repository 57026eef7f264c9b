/- For all lays and accepted bundles the order of the bundles does not matter for Check (lays and lists that the law's guard lets in). -/
import Derived.Test.YtoekbmgcfinfmabRows
import Derived.Test.YtoekbmgcfinfmabOpens
import Derived.Test.YtoekbmgcfinfmabBu16
import Derived.Test.YtoekbmgcfinfmabBuThmOrder
import Derived.Test.YtoekbmgcfinfmabBuOpen
import Derived.WalkKit
import Derived.ProofKit
import Derived.OpenShut
import Derived.ShutString
import Derived.ChangeOld
import Derived.Below
import Derived.SizedLaws
namespace Go.Proofs.Ytoekbmgcfinfmab.bundleOrder
open Go.ChangeShapes Go.WideShapes Go.ChangeAt Go.RowKit Go.Proofs.YtoekbmgcfinfmabW.PrintWords Go.Proofs.Ytoekbmgcfinfmab.Opens Go.Proofs.Ytoekbmgcfinfmab.Bu
open Go.ChangeMaps (open_string shut_string)
set_option linter.unusedVariables false
set_option linter.unusedSimpArgs false
theorem own : ownKnob Try.prog.godebug = none := by kernel_rfl
theorem laidOut : laidOutB Try.prog = true := by kernel_rfl
set_option maxRecDepth 100000 in
theorem lifted (os : Os) (started : os.Started) (H : Type) (enc : TypeId × Value → H) :
    ReturnsInHanded {} Try.checked os 8 .any (Rows.bundleOrderSpec.pre6 enc Try.prog Try.f8 Rows.bundleOrderRow.domain false) (Rows.bundleOrderSpec.post enc Try.prog Try.f8 false true false false) := by
  refine returnsInHanded_of_change_sized (C := Try.checked) own started (by kernel_rfl) Try.func8
    (ChangeSpec.witness6 (enc := enc) (C := Try.checked) false ⟨#[], #[.agg #[.int .i64 0, .int .i64 0, .int .i64 0, .int .i64 0, .slice none 0 0, .slice none 0 0, .slice none 0 0], .slice none 0 0, .int .u8 0], []⟩ 8 (by kernel_rfl) (by kernel_rfl) (by kernel_rfl) (by kernel_rfl)) ?_
  intro W base args ds gs before hval0 hW hcnd hsz0 _
  have hsz : (DataW.weightsEach Try.prog (Try.f8.params.toList ++ Rows.bundleOrderSpec.plain.varTypes Try.prog) (ds ++ gs)).all (· ≤ reachBytes) = true := hsz0
  have hval : ∀ (j : Nat) t v, Try.f8.params[j]? = some t → args[j]? = some v → Value.okWide Try.prog W .any base t v := hval0
  have hW' := hW
  obtain ⟨p, q, hA0, hV, rfl, hfz, hnd⟩ := hW
  have hA : DataW.TrodAll enc Try.prog W 0 (fun _ => true) true Try.f8.params.toList args.toList ds p := hA0
  rw [Try.params8] at hA hval hsz
  obtain ⟨v0, vs0, d0, ds0, p0, q0, hargs, rfl, rfl, h0, r0⟩ := trodAll_cons hA
  obtain ⟨v1, vs1, d1, ds1, p1, q1, rfl, rfl, rfl, h1, r1⟩ := trodAll_cons r0
  obtain ⟨v2, vs2, d2, ds2, p2, q2, rfl, rfl, rfl, h2, r2⟩ := trodAll_cons r1
  obtain ⟨rfl, rfl, rfl⟩ := trodAll_nil r2
  obtain rfl : args = #[v0, v1, v2] := by cases args; simp_all
  obtain ⟨rfl, rfl⟩ := trodVars_none hV
  have k0 := h0
  have lt0 : ∀ x ∈ p0, x.block < W.heap.size := by obtain ⟨m, hm⟩ := k0; exact DataW.trod_lt m _ _ _ hm
  obtain ⟨cs0, rfl, _⟩ := okWide_struct Try.underlying35 (hval 0 35 v0 rfl rfl)
  obtain ⟨fu0, hf0⟩ := h0
  obtain ⟨y0, hw0, hk0⟩ := open35 enc W true fu0 _ _ hf0
  obtain ⟨A40, c40, A50, c50, A60, c60, hcs0, l40, h40, l50, h50, l60, h60⟩ := kLay_open hk0
  simp only [Value.cells] at hcs0
  obtain rfl : cs0 = #[.int .i64 y0.1.1, .int .i64 y0.1.2.1, .int .i64 y0.1.2.2.1.1, .int .i64 y0.1.2.2.1.2, .slice A40 y0.1.2.2.2.1.length c40, .slice A50 y0.1.2.2.2.2.length c50, .slice A60 y0.2.length c60] := by cases cs0; simpa using hcs0
  have k1 := h1
  have lt1 : ∀ x ∈ p1, x.block < W.heap.size := by obtain ⟨m, hm⟩ := k1; exact DataW.trod_lt m _ _ _ hm
  obtain ⟨a1, len1, cap1, rfl⟩ := okWide_slice Try.underlying22 (hval 1 22 v1 rfl rfl)
  obtain ⟨fu1, hf1⟩ := h1
  obtain ⟨l1, ⟨hm1, hw1⟩, A1, c1, hcs1, hc1, hr1⟩ := open22 enc W true fu1 _ _ hf1
  simp [Value.cells] at hcs1
  obtain ⟨rfl, rfl, rfl⟩ := hcs1
  have k2 := h2
  have lt2 : ∀ x ∈ p2, x.block < W.heap.size := by obtain ⟨m, hm⟩ := k2; exact DataW.trod_lt m _ _ _ hm
  obtain ⟨a2, rfl, rfl, rfl, w2⟩ := open_int Try.underlying5 (hval 2 5 v2 rfl rfl) h2
  clear hA0 hval0 hsz0 hsz
  obtain ⟨k, h⟩ := Go.Proofs.Ytoekbmgcfinfmab.BuBase.order_pure y0.1.1 y0.1.2.1 y0.1.2.2.1.1 y0.1.2.2.1.2 y0.1.2.2.2.1 y0.1.2.2.2.2 y0.2 l1 hm1 hw1 a2 w2
  refine (garmentlaw44_BundleOrder.calls k y0.1.1 y0.1.2.1 y0.1.2.2.1.1 y0.1.2.2.1.2 _ _ y0.1.2.2.2.1 _ _ y0.1.2.2.2.2 _ _ y0.2 _ _ l1 a2 true W h40 l40 h50 l50 h60 l60 hr1 hc1 h).mono fun e W' ⟨he, bel⟩ => ?_
  subst he
  exact ⟨_, rfl, _, _, _, [], _, [], hW', trodAll_mk1 (shut_bool Try.underlying4 _), (trodAll_cons_mk (Below.trod laidOut (by kernel_rfl) (of_decide_eq_true (by kernel_rfl)) k0 bel lt0) (trodAll_cons_mk (Below.trod laidOut (by kernel_rfl) (of_decide_eq_true (by kernel_rfl)) k1 bel lt1) (trodAll_cons_mk (Below.trod laidOut (by kernel_rfl) (of_decide_eq_true (by kernel_rfl)) k2 bel lt2) trodAll_mk0))), rfl, bel.frame _, fun h => by cases h⟩
theorem over : Rows.bundleOrderRow.holds Try.pinned (OpenSpec.ofChange Rows.bundleOrderSpec) :=
  OpenClaim.holds_of_wide 8 Try.f8 rfl rfl rfl rfl rfl rfl rfl ⟨rfl, rfl, rfl, rfl, rfl⟩ rfl rfl rfl rfl rfl (by kernel_rfl) Try.func8 (by kernel_rfl)
    (of_decide_eq_true (by kernel_rfl)) (by unfold Func.isWrapper; first | (rw [if_pos (by decide +kernel)]; kernel_rfl) | (rw [if_neg (by decide +kernel)]; exact ⟨rfl, rfl⟩))
    (fun os started H enc _ => lifted os started H enc)
theorem proved : Rows.BundleOrderSaid := over
#print axioms proved
end Go.Proofs.Ytoekbmgcfinfmab.bundleOrder
namespace Go.Proofs.Ytoekbmgcfinfmab
/-- The row, under a short name, for the claim. -/
theorem bundleOrder_holds : Rows.BundleOrderSaid := bundleOrder.proved
end Go.Proofs.Ytoekbmgcfinfmab
