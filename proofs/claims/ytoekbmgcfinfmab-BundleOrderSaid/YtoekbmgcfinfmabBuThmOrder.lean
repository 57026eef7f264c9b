/- The order of accepted bundles does not matter for Check. -/
import Derived.Test.YtoekbmgcfinfmabBuBase
import Derived.Test.YtoekbmgcfinfmabBu16
namespace Go.Proofs.Ytoekbmgcfinfmab.BuBase
open Go.RowKit Go.Proofs.YtoekbmgcfinfmabW.PrintWords Go.Proofs.YtoekbmgcfinfmabW.PrintLast Go.Proofs.YtoekbmgcfinfmabW.PrintMore Go.Proofs.Ytoekbmgcfinfmab.Bu
set_option linter.unusedVariables false
set_option linter.unusedSimpArgs false

section
variable (a0 a1 a2 a3 : Int) (sizes : List Int) (places : List S71) (plies : List S45)
theorem goods_turned {bs : List S42} (h : Goods sizes plies bs) (n : Nat) : Goods sizes plies (bs.drop n ++ bs.take n) := by
  have e : bs.take n ++ bs.drop n = bs := List.take_append_drop n bs
  have hp := h.2
  rw [← e, List.pairwise_append] at hp
  refine ⟨fun b hb => ?_, ?_⟩
  · rcases List.mem_append.1 hb with hb | hb
    · exact h.1 b (List.mem_of_mem_drop hb)
    · exact h.1 b (List.mem_of_mem_take hb)
  · rw [List.pairwise_append]
    exact ⟨hp.2.1, hp.1, fun x hx y hy => apart_symm (hp.2.2 y hy x hx)⟩
theorem cover_turned {bs : List S42} (h : Cover sizes plies bs) (n : Nat) : Cover sizes plies (bs.drop n ++ bs.take n) := by
  intro g p hg hp
  obtain ⟨b, hb, hh⟩ := h g p hg hp
  refine ⟨b, ?_, hh⟩
  rw [← List.take_append_drop n bs] at hb
  rcases List.mem_append.1 hb with hb | hb
  · exact List.mem_append_right _ hb
  · exact List.mem_append_left _ hb
theorem order_law (bs : List S42) (at_ : Int) (ha : 0 ≤ at_ ∧ at_ ≤ 255) : Ev (fun k => garmentlaw44_BundleOrder.f k a0 a1 a2 a3 sizes places plies bs at_) true := by
  have idle : Ev (fun k => garmentlaw44_BundleOrder.j0 k bs at_ true a0 a1 a2 a3 sizes places plies) true := by
    refine ev_succ ?_
    simp only [garmentlaw44_BundleOrder.j0, if_true]
    exact Ev.bind alive_ok (Ev.now _)
  simp only [garmentlaw44_BundleOrder.f, light_ok, Option.bind_some]
  by_cases h : sizes.length ≤ 12 ∧ plies.length ≤ 80
  · rw [decide_eq_true h]
    simp only [if_true]
    by_cases h1 : bs.length ≤ 100
    · by_cases h2 : bs.length = 0
      · simp (disch := omega) only [if_neg, if_pos]
        exact idle
      · obtain ⟨e, ev, he, _⟩ := check_ok a0 a1 a2 a3 sizes places plies bs (by omega) (by omega) (by omega)
        simp (disch := omega) only [if_neg]
        refine Ev.bind ev ?_
        by_cases h0 : e = 0
        · rw [show (e != 0) = false by simp [h0]]
          obtain ⟨hg, hc⟩ := he.1 h0
          obtain ⟨n, en⟩ : ∃ n : Nat, Int.tmod at_ (bs.length : Int) = n := ⟨(Int.tmod at_ (bs.length : Int)).toNat, by
            have := Int.tmod_nonneg (b := (bs.length : Int)) ha.1; omega⟩
          have hn : n < bs.length := by
            have := Int.tmod_lt_of_pos at_ (b := (bs.length : Int)) (by omega)
            omega
          have hlen : (bs.drop n ++ bs.take n).length = bs.length := by rw [List.length_append, List.length_drop, List.length_take]; omega
          obtain ⟨e', ev', he', _⟩ := check_ok a0 a1 a2 a3 sizes places plies (bs.drop n ++ bs.take n) (by omega) (by omega) (by omega)
          have e0 := he'.2 ⟨goods_turned sizes plies hg n, cover_turned sizes plies hc n⟩
          have l1 : (bs.drop n).length ≤ 100 := by rw [List.length_drop]; omega
          have l2 : (bs.take n).length ≤ 100 := by rw [List.length_take]; omega
          refine ev_succ ?_
          simp (disch := first | omega | (simp only [List.length_nil, List.nil_append]; omega)) only [garmentlaw44_BundleOrder.j0, Bool.false_eq_true, if_false, if_neg, if_pos, Option.bind_some, wrap64_of, en, Int.toNat_natCast, List.nil_append]
          refine Ev.bind ev' ?_
          simp only [e0, if_true]
          exact Ev.bind alive_ok (Ev.now _)
        · rw [show (e != 0) = true by simp [h0]]
          exact idle
    · simp (disch := omega) only [if_pos]
      exact idle
  · rw [decide_eq_false h]
    simp only [Bool.false_eq_true, if_false]
    exact idle
theorem order_pure (bs : List S42) (_ : bs.length ≤ maxLen) (_ : ∀ y ∈ bs, True) (at_ : Int) (ha : (Lit.int .u8 at_).wf = true) : ∃ k, garmentlaw44_BundleOrder.f k a0 a1 a2 a3 sizes places plies bs at_ = some true :=
  Ev.rounds (order_law a0 a1 a2 a3 sizes places plies bs at_ (by simpa [Lit.wf, IntKind.has, IntKind.min, IntKind.max, IntKind.signed, IntKind.bits] using ha))
end
end Go.Proofs.Ytoekbmgcfinfmab.BuBase
