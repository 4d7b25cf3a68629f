/- The law FnExactRising answers true at every list, with no condition. -/
import Derived.Test.YtnjbpdbdeidngaaStFnExactRising
import Derived.Test.YtnjbpdbdeidngaaPlH
namespace Go.Proofs.Ytnjbpdbdeidngaa.Q
open Go Go.RowKit Go.Proofs.YtnjbpdbdeidngaaW.PrintWords Go.Proofs.YtnjbpdbdeidngaaW.PrintLast
theorem FnExactRising_plain : laws_FnExactRising.Plain := by
  intro l hm g
  obtain ⟨K0, hK0⟩ := szStringS_ev l hm g 1048576 (by omega) (by omega)
  by_cases hw : (1048576 : Int) < (l.length : Int) + strW l
  · refine ⟨K0, ?_⟩
    have := hK0 K0 (Nat.le_refl _)
    try dsimp only at this
    simp only [laws_FnExactRising.f, this, if_pos hw, Option.bind_some]
    rfl
  · have hp := strW_nonneg l
    obtain ⟨K1, hK1⟩ := toStringS_ev l (by omega)
    obtain ⟨K2, hK2⟩ := spec_Rising_ev l (by omega) g
    obtain ⟨K3, hK3⟩ := impl_Rising_ev l (by omega)
    obtain ⟨K4, hK4⟩ := eqStringS_ev l l (by omega)
    refine ⟨K0 + K1 + K2 + K3 + K4, ?_⟩
    have e0 := hK0 (K0 + K1 + K2 + K3 + K4) (by omega)
    have e1 := hK1 (K0 + K1 + K2 + K3 + K4) (by omega)
    have e2 := hK2 (K0 + K1 + K2 + K3 + K4) (by omega)
    have e3 := hK3 (K0 + K1 + K2 + K3 + K4) (by omega)
    have e4 := hK4 (K0 + K1 + K2 + K3 + K4) (by omega)
    try dsimp only at e0 e1 e2 e3 e4
    simp only [laws_FnExactRising.f, e0, if_neg hw, e1, e2, e3, e4, Option.bind_some, bne_self_eq_false, Bool.false_eq_true, if_false, decide_true, if_true]
    rw [if_neg (by omega)]
end Go.Proofs.Ytnjbpdbdeidngaa.Q
