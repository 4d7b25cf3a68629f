/- The law FnExactTurns answers true at every two types, with no condition. -/
import Derived.Test.YtnjbpdbdeidngaaStFnExactTurns
namespace Go.Proofs.Ytnjbpdbdeidngaa.Q
open Go Go.RowKit Go.Proofs.YtnjbpdbdeidngaaW.PrintWords Go.Proofs.YtnjbpdbdeidngaaW.PrintLast
theorem FnExactTurns_plain : laws_FnExactTurns.Plain := by
  intro a b c d e f _ _
  have hs : ∀ (a b : Int) (c : ByteArray) (x : Int), ∃ r, laws_szType.f a b c x = some r := by
    intro a b c x
    unfold laws_szType.f
    split
    · exact ⟨_, rfl⟩
    · exact ⟨_, rfl⟩
  have ht : ∃ r, impl_Turns.f a b c d e f = some r ∧ spec_Turns.f a b c d e f = some r := by
    unfold impl_Turns.f spec_Turns.f
    split
    · exact ⟨_, rfl, rfl⟩
    split
    · exact ⟨_, rfl, rfl⟩
    split
    · split
      · exact ⟨_, rfl, rfl⟩
      · exact ⟨_, rfl, rfl⟩
    · exact ⟨_, rfl, rfl⟩
  obtain ⟨r, h1, h2⟩ := ht
  obtain ⟨x, hx⟩ := hs a b c 1048576
  obtain ⟨y, hy⟩ := hs d e f x
  simp only [laws_FnExactTurns.f, hx, hy, laws_toType.f, Option.bind_some, h1, h2, bne_self_eq_false, Bool.false_eq_true, if_false]
  split
  · rfl
  split
  · rfl
  · rfl
end Go.Proofs.Ytnjbpdbdeidngaa.Q
