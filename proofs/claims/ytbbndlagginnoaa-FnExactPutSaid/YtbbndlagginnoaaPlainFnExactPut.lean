/- The law FnExactPut answers true at every list and text, with no condition. -/
import Derived.Test.YtbbndlagginnoaaStFnExactPut
import Derived.Test.YtbbndlagginnoaaPlP
import Derived.Test.YtbbndlagginnoaaPlK
namespace Go.Proofs.Ytbbndlagginnoaa.Q
open Go Go.RowKit Go.Proofs.YtbbndlagginnoaaW.PrintWords Go.Proofs.YtbbndlagginnoaaW.PrintLast
theorem FnExactPut_plain : laws_FnExactPut.Plain := by
  intro l s hm g g1
  by_cases h1 : (s.size : Int) > 1048576
  · exact ⟨0, by simp only [laws_FnExactPut.f, if_pos h1]⟩
  obtain ⟨K0, hK0⟩ := szStringS_ev l hm g 1048576 (by omega) (by omega)
  by_cases hw : (1048576 : Int) < (l.length : Int) + strW l
  · refine ⟨K0, ?_⟩
    have := hK0 K0 (Nat.le_refl _)
    try dsimp only at this
    simp only [laws_FnExactPut.f, if_neg h1, this, if_pos hw, Option.bind_some]
    rfl
  · have hp := strW_nonneg l
    have hl := putB_length s l
    obtain ⟨K1, hK1⟩ := toStringS_ev l (by omega)
    obtain ⟨K2, hK2⟩ := spec_Put_ev l s (by omega) (fun y hy => by have := g y hy; unfold maxLen at this; omega)
    obtain ⟨K4, hK4⟩ := eqStringS_ev l l (by omega)
    obtain ⟨K5, hK5⟩ := eqStringS_ev (putB s l) (putB s l) (by omega)
    obtain ⟨K6, hK6⟩ := markStringS_ev l 1 (by omega) (by omega)
    obtain ⟨K7, hK7⟩ := markStringS_ev (putB s l) 1 (by omega) (by omega)
    obtain ⟨K8, hK8⟩ := heldStringS_ev 1 (putB s l).length (by omega) (by omega)
    refine ⟨(K0 + K1 + K2 + K4 + K5 + K6 + K7 + K8) + 1, ?_⟩
    have e0 := hK0 (K0 + K1 + K2 + K4 + K5 + K6 + K7 + K8 + 1) (by omega)
    have e1 := hK1 (K0 + K1 + K2 + K4 + K5 + K6 + K7 + K8 + 1) (by omega)
    have e2 := hK2 (K0 + K1 + K2 + K4 + K5 + K6 + K7 + K8 + 1) (by omega)
    have e4 := hK4 (K0 + K1 + K2 + K4 + K5 + K6 + K7 + K8 + 1) (by omega)
    have e5 := hK5 (K0 + K1 + K2 + K4 + K5 + K6 + K7 + K8 + 1) (by omega)
    have e6 := hK6 (K0 + K1 + K2 + K4 + K5 + K6 + K7 + K8 + 1) (by omega)
    have f1 := hK1 (K0 + K1 + K2 + K4 + K5 + K6 + K7 + K8) (by omega)
    have f5 := hK5 (K0 + K1 + K2 + K4 + K5 + K6 + K7 + K8) (by omega)
    have f7 := hK7 (K0 + K1 + K2 + K4 + K5 + K6 + K7 + K8) (by omega)
    have f8 := hK8 (K0 + K1 + K2 + K4 + K5 + K6 + K7 + K8) (by omega)
    try dsimp only at e0 e1 e2 e4 e5 e6 f1 f5 f7 f8
    have n1 : ¬ (1 + (l.length : Int) < 0) := by omega
    have n2 : ¬ (1 + ((putB s l).length : Int) < 0) := by omega
    have n3 : ¬ (1048576 - ((l.length : Int) + strW l) < 0) := by omega
    simp only [laws_FnExactPut.f, laws_FnExactPut.j0, if_neg h1, e0, if_neg hw, e1, e2, impl_Put_eq l s (by omega), e4, e5, e6, f1, f5, f7, f8, Option.bind_some, decide_true, if_true, if_neg n1, if_neg n2, if_neg n3, Bool.not_true, Bool.false_eq_true, if_false]
end Go.Proofs.Ytbbndlagginnoaa.Q
