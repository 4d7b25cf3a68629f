/- The law FnExactBefore answers true at every two texts, with no condition. -/
import Derived.Test.YtnjbpdbdeidngaaStFnExactBefore
import Derived.Test.YtnjbpdbdeidngaaPlB
namespace Go.Proofs.Ytnjbpdbdeidngaa.Q
open Go Go.RowKit Go.Proofs.YtnjbpdbdeidngaaW.PrintWords Go.Proofs.YtnjbpdbdeidngaaW.PrintLast
theorem FnExactBefore_plain : laws_FnExactBefore.Plain := by
  intro s t hs ht
  by_cases h1 : (s.size : Int) > 1048576
  · exact ⟨0, by simp only [laws_FnExactBefore.f, if_pos h1]⟩
  by_cases h2 : (t.size : Int) > 1048576
  · exact ⟨0, by simp only [laws_FnExactBefore.f, if_neg h1, if_pos h2]⟩
  obtain ⟨K, hK⟩ := spec_Before_ev s t (by omega)
  refine ⟨K, ?_⟩
  simp only [laws_FnExactBefore.f, if_neg h1, if_neg h2, hK K (Nat.le_refl _), impl_Before.f, Option.bind_some, Lib.toList_data, bne_self_eq_false, Bool.false_eq_true, if_false]
end Go.Proofs.Ytnjbpdbdeidngaa.Q
