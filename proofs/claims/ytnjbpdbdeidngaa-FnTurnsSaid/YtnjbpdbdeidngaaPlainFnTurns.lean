/- The law FnTurns answers true at every code, with no condition. -/
import Derived.Test.YtnjbpdbdeidngaaStFnTurns
import Derived.Test.YtnjbpdbdeidngaaPlT
namespace Go.Proofs.Ytnjbpdbdeidngaa.Q
open Go Go.RowKit Go.Proofs.YtnjbpdbdeidngaaW.PrintWords Go.Proofs.YtnjbpdbdeidngaaW.PrintLast
theorem turns_some (a b : Int) (c : ByteArray) (d e : Int) (f : ByteArray) : ∃ r, impl_Turns.f a b c d e f = some r ∧ spec_Turns.f a b c d e f = some r := by
  unfold impl_Turns.f spec_Turns.f
  split
  · exact ⟨_, rfl, rfl⟩
  split
  · exact ⟨_, rfl, rfl⟩
  split
  · split
    · exact ⟨_, rfl, rfl⟩
    · exact ⟨_, rfl, rfl⟩
  · exact ⟨_, rfl, rfl⟩
theorem turns_both (a b : Int) (c : ByteArray) (d e : Int) (f : ByteArray) (h1 : impl_Turns.f a b c d e f = some true) :
    (a == d && (b == e && (c.toList == f.toList))) = true ∨ a = 1 ∨ d = 1 := by
  by_cases hq : (a == d && (b == e && (c.toList == f.toList))) = true
  · exact .inl hq
  by_cases ha : a = 1
  · exact .inr (.inl ha)
  by_cases hd : d = 1
  · exact .inr (.inr hd)
  unfold impl_Turns.f at h1
  rw [if_neg hq, if_neg hd, if_neg ha] at h1
  cases h1
theorem FnTurns_plain : laws_FnTurns.Plain := by
  intro l _ _
  by_cases hb : (l.length : Int) > 1048576
  · exact ⟨0, by simp [laws_FnTurns.f, big_eq, hb]⟩
  have hl : l.length ≤ 1048576 := by omega
  obtain ⟨h0, K, hK⟩ := new_ev l
  obtain ⟨a, b, c, i1, h1, e1, hi1⟩ := anyType_some l hl 0 h0 (by omega)
  obtain ⟨d, e, f, i2, h2, e2, hi2⟩ := anyType_some l hl i1 h1 hi1
  obtain ⟨r1, t1, t2⟩ := turns_some a b c d e f
  obtain ⟨r2, u1, _⟩ := turns_some d e f a b c
  have v1 : impl_Turns.f a b c a b c = some true := by unfold impl_Turns.f; rw [if_pos (by simp)]
  have v2 : impl_Turns.f a b c 1 0 (⟨#[]⟩ : ByteArray) = some true := by
    unfold impl_Turns.f
    split
    · rfl
    · rw [if_pos rfl]
  refine ⟨K, ?_⟩
  simp only [laws_FnTurns.f, big_eq, decide_eq_false hb, Option.bind_some, Bool.false_eq_true, if_false, spec_DrawTurns.f, hK K (Nat.le_refl _), e1, e2, t1, t2, u1, v1, v2, beq_self_eq_true, if_true]
  cases r1 with
  | false => rfl
  | true =>
    cases r2 with
    | false => rfl
    | true =>
      simp only [if_true]
      rcases turns_both a b c d e f t1 with h | h | h
      · simp [h]
      · simp [h]
      · simp [h]
end Go.Proofs.Ytnjbpdbdeidngaa.Q
