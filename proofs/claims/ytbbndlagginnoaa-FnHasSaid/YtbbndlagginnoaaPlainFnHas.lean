/- The law FnHas answers true at every code, with no condition. -/
import Derived.Test.YtbbndlagginnoaaStFnHas
import Derived.Test.YtbbndlagginnoaaPlL
namespace Go.Proofs.Ytbbndlagginnoaa.Q
open Go Go.RowKit Go.Proofs.YtbbndlagginnoaaW.PrintWords Go.Proofs.YtbbndlagginnoaaW.PrintLast
theorem FnHas_plain : laws_FnHas.Plain := by
  intro l _ _
  by_cases hb : (l.length : Int) > 1048576
  · exact ⟨0, by simp [laws_FnHas.f, big_eq, hb]⟩
  have hl : l.length ≤ 1048576 := by omega
  obtain ⟨h0, K0, hK0⟩ := new_ev l
  obtain ⟨o, i1, h1, ⟨K1, hK1⟩, ho, hos, hi1⟩ := list_some l hl 0 h0 (by omega)
  obtain ⟨s, i2, h2, e2, _, _⟩ := pick_some l hl i1 h1 [⟨#[97]⟩, ⟨#[98]⟩, ⟨#[]⟩, ⟨#[122, 122]⟩] (by simp) hi1
  have ho2 := withoutB_length o s
  obtain ⟨K2, hK2⟩ := impl_Has_ev o s (by omega)
  obtain ⟨K3, hK3⟩ := spec_Has_ev o s (by omega)
  obtain ⟨K4, hK4⟩ := spec_Without_ev o s (by omega)
  obtain ⟨K5, hK5⟩ := sameTexts_self (withoutB o s) (by omega)
  refine ⟨K0 + K1 + K2 + K3 + K4 + K5, ?_⟩
  have a0 := hK0 (K0 + K1 + K2 + K3 + K4 + K5) (by omega)
  have a1 := hK1 (K0 + K1 + K2 + K3 + K4 + K5) (by omega)
  have a2 := hK2 (K0 + K1 + K2 + K3 + K4 + K5) (by omega)
  have a3 := hK3 (K0 + K1 + K2 + K3 + K4 + K5) (by omega)
  have a4 := hK4 (K0 + K1 + K2 + K3 + K4 + K5) (by omega)
  have a5 := hK5 (K0 + K1 + K2 + K3 + K4 + K5) (by omega)
  try dsimp only at a0 a1 a2 a3 a4 a5
  simp only [laws_FnHas.f, big_eq, decide_eq_false hb, Option.bind_some, Bool.false_eq_true, if_false, spec_DrawHas.f, spec_DrawWithout.f, a0, a1, e2, a2, a3, impl_Without_eq o s (by omega), without_less, a4, a5, beq_self_eq_true, if_true]
end Go.Proofs.Ytbbndlagginnoaa.Q
