/- The law FnExactExprOk answers true at every condition, with no condition of its own. -/
import Derived.Test.YtbbndlagginnoaaStFnExactExprOk
import Derived.Test.YtbbndlagginnoaaPlX
namespace Go.Proofs.Ytbbndlagginnoaa.Q
open Go Go.RowKit Go.Proofs.YtbbndlagginnoaaW.PrintWords Go.Proofs.YtbbndlagginnoaaW.PrintLast
theorem FnExactExprOk_plain : laws_FnExactExprOk.Plain := by
  intro a b c l g
  obtain ⟨K0, hK0⟩ := szE_ev ⟨a, b, c, l⟩ g 1048576 (by omega) (by omega)
  have hp := wLE_nonneg ⟨a, b, c, l⟩
  by_cases hw : (1048576 : Int) < wLE ⟨a, b, c, l⟩
  · refine ⟨K0, ?_⟩
    have := hK0 K0 (Nat.le_refl _)
    try dsimp only at this
    simp only [laws_FnExactExprOk.f, this, leftOf_lt hw, Option.bind_some]
    rfl
  · have hn := nIE_to ⟨a, b, c, l⟩
    have hn2 := wIE_to ⟨a, b, c, l⟩
    obtain ⟨K1, hK1⟩ := toE_ev ⟨a, b, c, l⟩ (by omega)
    obtain ⟨K2, hK2⟩ := spec_ExprOk_ev (toIE ⟨a, b, c, l⟩) (by omega) (by omega)
    obtain ⟨K3, hK3⟩ := impl_ExprOk_ev (toIE ⟨a, b, c, l⟩)
    obtain ⟨K4, hK4⟩ := eqE_ev (toIE ⟨a, b, c, l⟩) (toIE ⟨a, b, c, l⟩) (by omega)
    obtain ⟨k, hk⟩ : ∃ k, k = K0 + K1 + K2 + K3 + K4 := ⟨_, rfl⟩
    refine ⟨k, ?_⟩
    have e0 := hK0 k (by omega)
    have e1 := hK1 k (by omega)
    have e2 := hK2 k (by omega)
    have e3 := hK3 k (by omega)
    have e4 := hK4 k (by omega)
    rw [eqIE_refl] at e4
    generalize (okIE (toIE ⟨a, b, c, l⟩) && decide ((nIE (toIE ⟨a, b, c, l⟩) : Int) ≤ 40)) = v at e2 e3
    simp only [toIE] at e1 e2 e3 e4
    try dsimp only at e0
    simp only [laws_FnExactExprOk.f, e0, leftOf_ge hw, e1, e2, e3, e4, Option.bind_some, if_true]
    rw [if_neg (by omega), if_neg (by simp)]
end Go.Proofs.Ytbbndlagginnoaa.Q
