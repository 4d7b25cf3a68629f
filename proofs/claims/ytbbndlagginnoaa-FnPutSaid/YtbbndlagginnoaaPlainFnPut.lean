/- The law FnPut answers true at every code, with no condition. -/
import Derived.Test.YtbbndlagginnoaaStFnPut
import Derived.Test.YtbbndlagginnoaaPlL
namespace Go.Proofs.Ytbbndlagginnoaa.Q
open Go Go.RowKit Go.Proofs.YtbbndlagginnoaaW.PrintWords Go.Proofs.YtbbndlagginnoaaW.PrintLast
theorem FnPut_plain : laws_FnPut.Plain := by
  intro l _ _
  by_cases hb : (l.length : Int) > 1048576
  · exact ⟨0, by simp [laws_FnPut.f, big_eq, hb]⟩
  have hl : l.length ≤ 1048576 := by omega
  obtain ⟨h0, K0, hK0⟩ := new_ev l
  obtain ⟨o, i1, h1, ⟨K1, hK1⟩, ho, hos, hi1⟩ := list_some l hl 0 h0 (by omega)
  obtain ⟨s, i2, h2, e2, hsm, _⟩ := pick_some l hl i1 h1 [⟨#[97]⟩, ⟨#[98]⟩, ⟨#[]⟩, ⟨#[122, 122]⟩, ⟨#[97, 97]⟩] (by simp) hi1
  have ho1 := putB_length s o
  have ho2 := withoutB_length (putB s o) s
  have ho3 := withoutB_length o s
  obtain ⟨K2, hK2⟩ := spec_Put_ev o s (by omega) (fun y hy => by have := hos y hy; omega)
  obtain ⟨K3, hK3⟩ := sameTexts_self (putB s o) (by omega)
  obtain ⟨K4, hK4⟩ := impl_Has_ev (putB s o) s (by omega)
  obtain ⟨K5, hK5⟩ := impl_Has_ev (withoutB o s) s (by omega)
  obtain ⟨K6, hK6⟩ := spec_Rising_ev o (by omega) (fun y hy => by have := hos y hy; unfold maxLen; omega)
  obtain ⟨K7, hK7⟩ := impl_Rising_ev (putB s o) (by omega)
  obtain ⟨K8, hK8⟩ := impl_Rising_ev (withoutB o s) (by omega)
  obtain ⟨K9, hK9⟩ := sameTexts_self (withoutB o s) (by omega)
  obtain ⟨k, hk⟩ : ∃ k, k = K0 + K1 + K2 + K3 + K4 + K5 + K6 + K7 + K8 + K9 := ⟨_, rfl⟩
  refine ⟨k + 1, ?_⟩
  have a0 := hK0 (k + 1) (by omega)
  have a1 := hK1 (k + 1) (by omega)
  have a2 := hK2 (k + 1) (by omega)
  have a3 := hK3 (k + 1) (by omega)
  have a4 := hK4 (k + 1) (by omega)
  have a5 := hK5 (k + 1) (by omega)
  have a6 := hK6 k (by omega)
  have a7 := hK7 k (by omega)
  have a8 := hK8 k (by omega)
  have a9 := hK9 k (by omega)
  have b3 := hK3 k (by omega)
  try dsimp only at a0 a1 a2 a3 a4 a5 a6 a7 a8 a9 b3
  simp only [laws_FnPut.f, laws_FnPut.j0, big_eq, decide_eq_false hb, Option.bind_some, Bool.false_eq_true, if_false, spec_DrawPut.f, a0, a1, e2, a2, impl_Put_eq o s (by omega), impl_Without_eq (putB s o) s (by omega), impl_Without_eq o s (by omega), impl_Put_eq (putB s o) s (by omega), without_put, put_put, a3, a4, a5, put_has, without_has, a6, if_true]
  cases hr : risingB o with
  | false => rfl
  | true => simp only [if_true, a7, a8, rising_put s o hr, rising_without s o hr, Option.bind_some, a9, b3]
end Go.Proofs.Ytbbndlagginnoaa.Q
