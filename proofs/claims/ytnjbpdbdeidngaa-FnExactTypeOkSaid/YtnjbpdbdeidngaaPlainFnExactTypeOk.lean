/- The law FnExactTypeOk answers true at every type, with no condition. -/
import Derived.Test.YtnjbpdbdeidngaaStFnExactTypeOk
import Derived.Test.YtnjbpdbdeidngaaPlTy
namespace Go.Proofs.Ytnjbpdbdeidngaa.Q
open Go Go.RowKit Go.Proofs.YtnjbpdbdeidngaaW.PrintWords Go.Proofs.YtnjbpdbdeidngaaW.PrintLast
theorem FnExactTypeOk_plain : laws_FnExactTypeOk.Plain := by
  intro a b c g
  have hc : c.size ≤ 9223372036854775807 := by have := g.2.2; simp only [maxLen] at this; omega
  obtain ⟨K1, hK1⟩ := spec_TypeOk_ev a b c hc
  obtain ⟨K2, hK2⟩ := impl_TypeOk_ev a b c
  have e1 := hK1 (K1 + K2) (by omega)
  have e2 := hK2 (K1 + K2) (by omega)
  try dsimp only at e1 e2
  obtain ⟨x, hx⟩ : ∃ x, laws_szType.f a b c 1048576 = some x := by
    unfold laws_szType.f
    split
    · exact ⟨_, rfl⟩
    · exact ⟨_, rfl⟩
  refine ⟨K1 + K2, ?_⟩
  simp only [laws_FnExactTypeOk.f, hx, laws_toType.f, Option.bind_some, e1, e2, bne_self_eq_false, Bool.false_eq_true, if_false]
  split <;> rfl
end Go.Proofs.Ytnjbpdbdeidngaa.Q
