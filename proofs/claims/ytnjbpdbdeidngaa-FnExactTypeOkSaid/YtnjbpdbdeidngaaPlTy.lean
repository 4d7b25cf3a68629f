/- Types, plainly: whether one is right. -/
import Derived.Test.YtnjbpdbdeidngaaPlN
import Derived.Test.YtnjbpdbdeidngaaQ24
namespace Go.Proofs.Ytnjbpdbdeidngaa.Q
open Go Go.RowKit Go.Proofs.YtnjbpdbdeidngaaW.PrintWords Go.Proofs.YtnjbpdbdeidngaaW.PrintLast
/-- Is a type right? -/
def typeB (a b : Int) (c : ByteArray) : Bool :=
  if a = 3 then decide (1 ≤ b ∧ b ≤ 100) && (c.toList == []) else if a = 4 then decide (b = 0) && nameB c else decide (0 ≤ a ∧ a ≤ 2) && decide (b = 0) && (c.toList == [])
theorem spec_TypeOk_ev (a b : Int) (c : ByteArray) (hc : c.size ≤ 9223372036854775807) : Ev (fun k => spec_TypeOk.f k a b c) (typeB a b c) := by
  obtain ⟨K, hK⟩ := spec_NameOk_ev c hc
  refine ⟨K, fun k hk => ?_⟩
  have e := hK k hk
  try dsimp only at e ⊢
  simp only [spec_TypeOk.f, spec_l01In.f, e, Option.bind_some, typeB]
  by_cases h3 : a = 3
  · subst h3
    by_cases h1 : 1 ≤ b
    · by_cases h2 : b ≤ 100 <;> simp [h1, h2]
    · simp [h1]
  by_cases h4 : a = 4
  · subst h4
    by_cases hb : b = 0
    · subst hb
      cases nameB c <;> simp
    · simp [hb]
  by_cases h0 : 0 ≤ a
  · by_cases h2 : a ≤ 2
    · have h5 : a ≤ 4 := by omega
      by_cases hb : b = 0 <;> simp [h0, h2, h3, h4, h5, hb]
    · have h5 : ¬ a ≤ 4 := by omega
      simp [h0, h2, h3, h4, h5]
  · simp [h0, h3, h4]
theorem impl_TypeOk_ev (a b : Int) (c : ByteArray) : Ev (fun k => impl_TypeOk.f k a b c) (typeB a b c) := by
  refine ev_now fun k => ?_
  simp only [impl_TypeOk.f, impl_TypeOk.j0, impl_within.f, impl_NameOk_eq, Option.bind_some, typeB]
  by_cases h0 : a = 0
  · subst h0
    by_cases hb : b = 0 <;> simp [hb]
  by_cases h1 : a = 1
  · subst h1
    by_cases hb : b = 0 <;> simp [hb]
  by_cases h2 : a = 2
  · subst h2
    by_cases hb : b = 0 <;> simp [hb]
  by_cases h3 : a = 3
  · subst h3
    by_cases hb : 1 ≤ b
    · by_cases hb2 : b ≤ 100 <;> simp [hb, hb2]
    · simp [hb]
  by_cases h4 : a = 4
  · subst h4
    by_cases hb : b = 0 <;> simp [hb]
  · have hz : ¬ (0 ≤ a ∧ a ≤ 2) := by omega
    simp [h0, h1, h2, h3, h4, hz]
end Go.Proofs.Ytnjbpdbdeidngaa.Q
