/- The law FnExactNameOk answers true at every text, with no condition. -/
import Derived.Test.YtnjbpdbdeidngaaStFnExactNameOk
import Derived.Test.YtnjbpdbdeidngaaPlN
namespace Go.Proofs.Ytnjbpdbdeidngaa.Q
open Go Go.RowKit Go.Proofs.YtnjbpdbdeidngaaW.PrintWords Go.Proofs.YtnjbpdbdeidngaaW.PrintLast
theorem FnExactNameOk_plain : laws_FnExactNameOk.Plain := by
  intro s _
  by_cases h1 : (s.size : Int) > 1048576
  · exact ⟨0, by simp only [laws_FnExactNameOk.f, if_pos h1]⟩
  obtain ⟨K, hK⟩ := spec_NameOk_ev s (by omega)
  have e := hK K (Nat.le_refl _)
  try dsimp only at e
  exact ⟨K, by simp only [laws_FnExactNameOk.f, if_neg h1, e, impl_NameOk_eq, Option.bind_some, bne_self_eq_false, Bool.false_eq_true, if_false]⟩
end Go.Proofs.Ytnjbpdbdeidngaa.Q
