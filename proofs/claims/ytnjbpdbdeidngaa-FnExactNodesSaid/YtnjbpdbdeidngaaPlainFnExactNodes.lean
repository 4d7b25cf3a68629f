/- The law FnExactNodes answers true at every condition, with no condition of its own. -/
import Derived.Test.YtnjbpdbdeidngaaStFnExactNodes
import Derived.Test.YtnjbpdbdeidngaaPlNo
namespace Go.Proofs.Ytnjbpdbdeidngaa.Q
open Go Go.RowKit Go.Proofs.YtnjbpdbdeidngaaW.PrintWords Go.Proofs.YtnjbpdbdeidngaaW.PrintLast
theorem FnExactNodes_plain : laws_FnExactNodes.Plain := by
  intro a b c l g
  obtain ⟨K0, hK0⟩ := szE_ev ⟨a, b, c, l⟩ g 1048576 (by omega) (by omega)
  have hp := wLE_nonneg ⟨a, b, c, l⟩
  by_cases hw : (1048576 : Int) < wLE ⟨a, b, c, l⟩
  · refine ⟨K0, ?_⟩
    have := hK0 K0 (Nat.le_refl _)
    try dsimp only at this
    simp only [laws_FnExactNodes.f, this, leftOf_lt hw, Option.bind_some]
    rfl
  · have hn := nIE_to ⟨a, b, c, l⟩
    obtain ⟨K1, hK1⟩ := toE_ev ⟨a, b, c, l⟩ (by omega)
    obtain ⟨K2, hK2⟩ := spec_Nodes_ev (toIE ⟨a, b, c, l⟩) (by omega)
    obtain ⟨K3, hK3⟩ := impl_Nodes_ev (toIE ⟨a, b, c, l⟩) (by omega)
    obtain ⟨K4, hK4⟩ := eqE_ev (toIE ⟨a, b, c, l⟩) (toIE ⟨a, b, c, l⟩) (by omega)
    refine ⟨K0 + K1 + K2 + K3 + K4, ?_⟩
    have e0 := hK0 (K0 + K1 + K2 + K3 + K4) (by omega)
    have e1 := hK1 (K0 + K1 + K2 + K3 + K4) (by omega)
    have e2 := hK2 (K0 + K1 + K2 + K3 + K4) (by omega)
    have e3 := hK3 (K0 + K1 + K2 + K3 + K4) (by omega)
    have e4 := hK4 (K0 + K1 + K2 + K3 + K4) (by omega)
    rw [eqIE_refl] at e4
    simp only [toIE] at e1 e2 e3 e4
    try dsimp only at e0
    simp only [laws_FnExactNodes.f, e0, leftOf_ge hw, e1, e2, e3, e4, Option.bind_some, if_true]
    rw [if_neg (by omega)]
end Go.Proofs.Ytnjbpdbdeidngaa.Q
