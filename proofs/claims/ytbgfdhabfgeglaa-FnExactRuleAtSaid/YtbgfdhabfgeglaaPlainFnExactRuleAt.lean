/- The law FnExactRuleAt answers true at every argument, with no condition of its own. -/
import Derived.Test.YtbgfdhabfgeglaaStFnExactRuleAt
import Derived.Test.YtbgfdhabfgeglaaPlTab
import Derived.Test.YtbgfdhabfgeglaaPlAt
import Derived.Test.YtbgfdhabfgeglaaFAts
import Derived.Test.YtbgfdhabfgeglaaQ6
namespace Go.Proofs.Ytbgfdhabfgeglaa.Q
open Go Go.RowKit Go.Proofs.YtbgfdhabfgeglaaW.PrintWords Go.Proofs.YtbgfdhabfgeglaaW.PrintLast
set_option linter.unusedVariables false
set_option linter.unusedSimpArgs false
theorem FnExactRuleAt_plain : laws_FnExactRuleAt.Plain := by
  intro a l1 l2 n s g gs
  by_cases hs : (s.size : Int) > 1048576
  · exact ⟨0, by simp only [laws_FnExactRuleAt.f]; rw [if_pos hs]⟩
  obtain ⟨K0, hK0⟩ := szTable ⟨a, l1, l2, n⟩ g 1048576 (by omega) (by omega)
  have hp := wTable_nonneg ⟨a, l1, l2, n⟩
  by_cases hw : (1048576 : Int) < wTable ⟨a, l1, l2, n⟩
  · refine ⟨K0, ?_⟩
    have := hK0 K0 (Nat.le_refl _)
    try dsimp only at this
    simp only [laws_FnExactRuleAt.f]
    rw [if_neg hs, this, leftOf_lt hw, Option.bind_some, if_pos (by decide)]
  · obtain ⟨K1, hK1⟩ := toTable_ev ⟨a, l1, l2, n⟩ (by omega)
    obtain ⟨K2, hK2⟩ := eqTable_ev ⟨a, l1, l2, n⟩ (by omega)
    have hl : (l2.map toRuleI).length ≤ 9223372036854775806 := by
      have h1 := sumW_len wRule wRule_nonneg l2
      have h2 := sumW_nonneg wCol wCol_nonneg l1
      unfold wTable at hw
      try dsimp only at hw
      rw [List.length_map]
      omega
    obtain ⟨K3, hK3⟩ := at_loop (fun k l i => spec_RuleAt.l0 k s i a (l1.map toColI) l n) (fun x => x.f0) rd_T66 rdI_Rule s (ruleAt1.p s) (fun _ => rfl) (fun _ _ _ => by simp only [spec_RuleAt.l0]) (l2.map toRuleI) [] (by simpa using hl)
    simp only [List.nil_append, List.length_nil, Int.natCast_zero] at hK3
    obtain ⟨k, hk⟩ : ∃ k, k = K0 + K1 + K2 + K3 := ⟨_, rfl⟩
    refine ⟨k, ?_⟩
    have e0 := hK0 k (by omega)
    have e1 := hK1 k (by omega)
    have e2 := hK2 k (by omega)
    have e3 := hK3 k (by omega)
    try dsimp only at e0 e1 e2 e3
    simp only [toTableI] at e2
    simp only [laws_FnExactRuleAt.f]
    rw [if_neg hs, e0, leftOf_ge hw, Option.bind_some, if_neg (by omega), e1, Option.bind_some]
    simp only [spec_RuleAt.f, impl_RuleAt.f, toTableI, e3, Option.bind_some, if_true, bne_self_eq_false, Bool.false_eq_true, if_false, e1, e2]
end Go.Proofs.Ytbgfdhabfgeglaa.Q
