/- The draws of types, plainly. -/
import Derived.Test.YtnjbpdbdeidngaaPlD
import Derived.Test.YtnjbpdbdeidngaaQ5
namespace Go.Proofs.Ytnjbpdbdeidngaa.Q
open Go Go.RowKit Go.Proofs.YtnjbpdbdeidngaaW.PrintWords Go.Proofs.YtnjbpdbdeidngaaW.PrintLast
theorem type_some (l : List Int) (hl : l.length ≤ 1048576) (i h : Int) (h0 : 0 ≤ i) : ∃ a b c i' h', spec_l03Type.f l i h = some (a, b, c, i', h') ∧ 0 ≤ i' ∧ 0 ≤ a ∧ a ≤ 4 ∧ 0 ≤ b ∧ b ≤ 100 ∧ c.size ≤ 4 := by
  obtain ⟨x, i1, h1, e, _, _, hi1⟩ := below_some l hl i h 6 h0
  simp only [spec_l03Type.f, e, Option.bind_some]
  split
  · obtain ⟨y, i2, h2, e2, hy, hi2⟩ := pickInt_some l hl i1 h1 [1, 8, 100] (by decide) hi1
    simp only [e2, Option.bind_some]
    refine ⟨_, _, _, _, _, rfl, hi2, by decide, by decide, ?_, ?_, by decide⟩
    · simp at hy; omega
    · simp at hy; omega
  split
  · obtain ⟨y, i2, h2, e2, hy, hi2⟩ := pick_some l hl i1 h1 [(⟨#[109, 111, 111, 100]⟩ : ByteArray), (⟨#[115, 105, 122, 101]⟩ : ByteArray)] (by decide) hi1
    simp only [e2, Option.bind_some]
    refine ⟨_, _, _, _, _, rfl, hi2, by decide, by decide, by decide, by decide, ?_⟩
    simp at hy
    rcases hy with rfl | rfl <;> decide
  split
  · exact ⟨_, _, _, _, _, rfl, hi1, by decide, by decide, by decide, by decide, by decide⟩
  split
  · exact ⟨_, _, _, _, _, rfl, hi1, by decide, by decide, by decide, by decide, by decide⟩
  · exact ⟨_, _, _, _, _, rfl, hi1, by decide, by decide, by decide, by decide, by decide⟩
theorem odd_some (l : List Int) (hl : l.length ≤ 1048576) (i h : Int) (h0 : 0 ≤ i) : ∃ c i' h', spec_l03Odd.f l i h = some (c, i', h') ∧ 0 ≤ i' ∧ c.size ≤ 41 := by
  unfold spec_l03Odd.f
  generalize hg : ([(⟨#[]⟩ : ByteArray), _, _, _, _, _, _, _, _, _, _, _] : List ByteArray) = ls
  have hls : ∀ y ∈ ls, y.size ≤ 41 := by subst hg; decide
  have hn : 0 < ls.length := by subst hg; decide
  obtain ⟨y, i2, h2, e2, hy, hi2⟩ := pick_some l hl i h ls hn h0
  simp only [e2, Option.bind_some]
  exact ⟨_, _, _, rfl, hi2, hls y hy⟩
theorem anyType_some (l : List Int) (hl : l.length ≤ 1048576) (i h : Int) (h0 : 0 ≤ i) : ∃ a b c i' h', spec_l03AnyType.f l i h = some (a, b, c, i', h') ∧ 0 ≤ i' := by
  obtain ⟨a, b, c, i1, h1, e1, hi1, _⟩ := type_some l hl i h h0
  obtain ⟨x, i2, h2, e2, _, _, hi2⟩ := below_some l hl i1 h1 10 hi1
  simp only [spec_l03AnyType.f, e1, e2, Option.bind_some]
  split
  · obtain ⟨y, i3, h3, e3, _, _, hi3⟩ := below_some l hl i2 h2 7 hi2
    simp only [e3, Option.bind_some]
    exact ⟨_, _, _, _, _, rfl, hi3⟩
  split
  · obtain ⟨y, i3, h3, e3, _, hi3⟩ := pickInt_some l hl i2 h2 [0, 101, (-1), 5] (by decide) hi2
    simp only [e3, Option.bind_some]
    exact ⟨_, _, _, _, _, rfl, hi3⟩
  split
  · obtain ⟨y, i3, h3, e3, hi3, _⟩ := odd_some l hl i2 h2 hi2
    simp only [e3, Option.bind_some]
    exact ⟨_, _, _, _, _, rfl, hi3⟩
  · exact ⟨_, _, _, _, _, rfl, hi2⟩
end Go.Proofs.Ytnjbpdbdeidngaa.Q
