/- The law FnExactTableAt answers true at every argument, with no condition of its own. -/
import Derived.Test.YtbgfdhabfgeglaaStFnExactTableAt
import Derived.Test.YtbgfdhabfgeglaaPlPlan
import Derived.Test.YtbgfdhabfgeglaaPlAt
import Derived.Test.YtbgfdhabfgeglaaFAts
import Derived.Test.YtbgfdhabfgeglaaQ8
namespace Go.Proofs.Ytbgfdhabfgeglaa.Q
open Go Go.RowKit Go.Proofs.YtbgfdhabfgeglaaW.PrintWords Go.Proofs.YtbgfdhabfgeglaaW.PrintLast
set_option linter.unusedVariables false
set_option linter.unusedSimpArgs false
theorem FnExactTableAt_plain : laws_FnExactTableAt.Plain := by
  intro l0 l1 l2 l3 l4 n s g gs
  by_cases hs : (s.size : Int) > 1048576
  · exact ⟨0, by simp only [laws_FnExactTableAt.f]; rw [if_pos hs]⟩
  obtain ⟨K0, hK0⟩ := szPlan ⟨l0, l1, l2, l3, l4, n⟩ g 1048576 (by omega) (by omega)
  have hp := wPlan_nonneg ⟨l0, l1, l2, l3, l4, n⟩
  by_cases hw : (1048576 : Int) < wPlan ⟨l0, l1, l2, l3, l4, n⟩
  · refine ⟨K0, ?_⟩
    have := hK0 K0 (Nat.le_refl _)
    try dsimp only at this
    simp only [laws_FnExactTableAt.f]
    rw [if_neg hs, this, leftOf_lt hw, Option.bind_some, if_pos (by decide)]
  · obtain ⟨K1, hK1⟩ := toPlan_ev ⟨l0, l1, l2, l3, l4, n⟩ (by omega)
    obtain ⟨K2, hK2⟩ := eqPlan_ev ⟨l0, l1, l2, l3, l4, n⟩ (by omega)
    have hl : (l2.map toTableI).length ≤ 9223372036854775806 := by
      have h1 := sumW_len wTable wTable_nonneg l2
      have h2 := sumW_nonneg wLabels wLabels_nonneg l0
      have h3 := sumW_nonneg wSeq wSeq_nonneg l1
      have h4 := sumW_nonneg wIndex wIndex_nonneg l3
      have h5 := sumW_nonneg wView wView_nonneg l4
      unfold wPlan at hw
      try dsimp only at hw
      rw [List.length_map]
      omega
    obtain ⟨K3, hK3⟩ := at_loop (fun k l i => spec_TableAt.l0 k s i (l0.map toLabelsI) (l1.map toSeqI) l (l3.map toIndexI) (l4.map toViewI) n) (fun x => x.f0) rd_T31 rdI_Table s (tableAt1.p s) (fun _ => rfl) (fun _ _ _ => by simp only [spec_TableAt.l0]) (l2.map toTableI) [] (by simpa using hl)
    simp only [List.nil_append, List.length_nil, Int.natCast_zero] at hK3
    obtain ⟨k, hk⟩ : ∃ k, k = K0 + K1 + K2 + K3 := ⟨_, rfl⟩
    refine ⟨k, ?_⟩
    have e0 := hK0 k (by omega)
    have e1 := hK1 k (by omega)
    have e2 := hK2 k (by omega)
    have e3 := hK3 k (by omega)
    try dsimp only at e0 e1 e2 e3
    simp only [toPlanI] at e2
    simp only [laws_FnExactTableAt.f]
    rw [if_neg hs, e0, leftOf_ge hw, Option.bind_some, if_neg (by omega), e1, Option.bind_some]
    simp only [spec_TableAt.f, impl_TableAt.f, toPlanI, e3, Option.bind_some, if_true, bne_self_eq_false, Bool.false_eq_true, if_false, e1, e2]
end Go.Proofs.Ytbgfdhabfgeglaa.Q
