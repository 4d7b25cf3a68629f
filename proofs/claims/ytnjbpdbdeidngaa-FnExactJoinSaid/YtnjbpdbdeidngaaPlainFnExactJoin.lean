/- The law FnExactJoin answers true at every list and text, with no condition. -/
import Derived.Test.YtnjbpdbdeidngaaStFnExactJoin
import Derived.Test.YtnjbpdbdeidngaaPlJ
namespace Go.Proofs.Ytnjbpdbdeidngaa.Q
open Go Go.RowKit Go.Proofs.YtnjbpdbdeidngaaW.PrintWords Go.Proofs.YtnjbpdbdeidngaaW.PrintLast
theorem FnExactJoin_plain : laws_FnExactJoin.Plain := by
  intro l s hm g _
  by_cases h1 : (s.size : Int) > 1048576
  · exact ⟨0, by simp only [laws_FnExactJoin.f, if_pos h1]⟩
  obtain ⟨K0, hK0⟩ := szStringS_ev l hm g 1048576 (by omega) (by omega)
  by_cases hw : (1048576 : Int) < (l.length : Int) + strW l
  · refine ⟨K0, ?_⟩
    have := hK0 K0 (Nat.le_refl _)
    try dsimp only at this
    simp only [laws_FnExactJoin.f, if_neg h1, this, if_pos hw, Option.bind_some]
    rfl
  · have hp := strW_nonneg l
    obtain ⟨K1, hK1⟩ := toStringS_ev l (by omega)
    obtain ⟨K2, hK2⟩ := spec_Join_ev l s (by omega) (by omega)
    obtain ⟨K4, hK4⟩ := eqStringS_ev l l (by omega)
    refine ⟨K0 + K1 + K2 + K4, ?_⟩
    have e0 := hK0 (K0 + K1 + K2 + K4) (by omega)
    have e1 := hK1 (K0 + K1 + K2 + K4) (by omega)
    have e2 := hK2 (K0 + K1 + K2 + K4) (by omega)
    have e4 := hK4 (K0 + K1 + K2 + K4) (by omega)
    try dsimp only at e0 e1 e2 e4
    simp only [laws_FnExactJoin.f, if_neg h1, e0, if_neg hw, e1, e2, impl_Join_eq l s (by omega) (by omega), e4, Option.bind_some, decide_true, if_true]
    rw [if_neg (by omega)]
end Go.Proofs.Ytnjbpdbdeidngaa.Q
