/- The law FnExactTaken answers true at every argument, with no condition of its own. -/
import Derived.Test.YtbgfdhabfgeglaaStFnExactTaken
import Derived.Test.YtbgfdhabfgeglaaPlTaken
import Derived.Test.YtbgfdhabfgeglaaFAts
import Derived.Test.YtbgfdhabfgeglaaQ14
namespace Go.Proofs.Ytbgfdhabfgeglaa.Q
open Go Go.RowKit Go.Proofs.YtbgfdhabfgeglaaW.PrintWords Go.Proofs.YtbgfdhabfgeglaaW.PrintLast
set_option linter.unusedVariables false
set_option linter.unusedSimpArgs false
theorem taken_same (l1 : List S89) (l2 : List S31) (l3 : List S93) (l4 : List S97) (s : ByteArray) :
    (l1.any (taken1.p s) || (decide (0 ≤ idxB (tableAt1.p s) l2 0) || (l3.any (taken2.p s) || l4.any (taken3.p s)))) = hasB s (allNames l1 l2 l3 l4) := by
  rw [idxB_any, any_names (fun x => x.f0) (taken1.p s) s (fun _ => rfl), any_names (fun x => x.f0) (tableAt1.p s) s (fun _ => rfl), any_names (fun x => x.f0) (taken2.p s) s (fun _ => rfl), any_names (fun x => x.f0) (taken3.p s) s (fun _ => rfl)]
  simp only [allNames, hasB_append, Bool.or_assoc]
theorem FnExactTaken_plain : laws_FnExactTaken.Plain := by
  intro l0 l1 l2 l3 l4 n s g gs
  by_cases hs : (s.size : Int) > 1048576
  · exact ⟨0, by simp only [laws_FnExactTaken.f]; rw [if_pos hs]⟩
  obtain ⟨K0, hK0⟩ := szPlan ⟨l0, l1, l2, l3, l4, n⟩ g 1048576 (by omega) (by omega)
  have hp := wPlan_nonneg ⟨l0, l1, l2, l3, l4, n⟩
  by_cases hw : (1048576 : Int) < wPlan ⟨l0, l1, l2, l3, l4, n⟩
  · refine ⟨K0, ?_⟩
    have := hK0 K0 (Nat.le_refl _)
    try dsimp only at this
    simp only [laws_FnExactTaken.f]
    rw [if_neg hs, this, leftOf_lt hw, Option.bind_some, if_pos (by decide)]
  · obtain ⟨K1, hK1⟩ := toPlan_ev ⟨l0, l1, l2, l3, l4, n⟩ (by omega)
    obtain ⟨K2, hK2⟩ := eqPlan_ev ⟨l0, l1, l2, l3, l4, n⟩ (by omega)
    have hl : l1.length + l2.length + l3.length + l4.length ≤ 1048576 := by
      have := sumW_len wSeq wSeq_nonneg l1
      have := sumW_len wTable wTable_nonneg l2
      have := sumW_len wIndex wIndex_nonneg l3
      have := sumW_len wView wView_nonneg l4
      have := sumW_nonneg wLabels wLabels_nonneg l0
      unfold wPlan at hw
      try dsimp only at hw
      omega
    obtain ⟨K3, hK3⟩ := spec_All_ev (l0.map toLabelsI) (l1.map toSeqI) (l2.map toTableI) (l3.map toIndexI) (l4.map toViewI) n (by simp only [List.length_map]; omega)
    obtain ⟨K4, hK4⟩ := spec_Has_ev (allNames (l1.map toSeqI) (l2.map toTableI) (l3.map toIndexI) (l4.map toViewI)) s (by simp only [allNames, List.length_append, List.length_map]; omega)
    obtain ⟨k, hk⟩ : ∃ k, k = K0 + K1 + K2 + K3 + K4 := ⟨_, rfl⟩
    refine ⟨k, ?_⟩
    have e0 := hK0 k (by omega)
    have e1 := hK1 k (by omega)
    have e2 := hK2 k (by omega)
    have e3 := hK3 k (by omega)
    have e4 := hK4 k (by omega)
    try dsimp only at e0 e1 e2 e3 e4
    simp only [toPlanI] at e1 e2
    simp only [laws_FnExactTaken.f]
    rw [if_neg hs, e0, leftOf_ge hw, Option.bind_some, if_neg (by omega), e1, Option.bind_some]
    have e5 := taken_same (l1.map toSeqI) (l2.map toTableI) (l3.map toIndexI) (l4.map toViewI) s
    simp only [spec_Taken.f, impl_Taken.f, e5, e3, e4, Option.bind_some, if_true, bne_self_eq_false, Bool.false_eq_true, if_false, e1, e2]
end Go.Proofs.Ytbgfdhabfgeglaa.Q
