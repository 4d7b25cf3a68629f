/- Lists of texts that are drawn, plainly. -/
import Derived.Test.YtbbndlagginnoaaPlD
import Derived.Test.YtbbndlagginnoaaPlP0
import Derived.Test.YtbbndlagginnoaaJ1
namespace Go.Proofs.Ytbbndlagginnoaa.J
open Go Go.RowKit Go.Proofs.YtbbndlagginnoaaW.PrintWords Go.Proofs.YtbbndlagginnoaaW.PrintLast
set_option linter.unusedVariables false
theorem once_some (l : List Int) (hl : l.length ≤ 1048576) (i h n : Int) (h0 : 0 ≤ i) : ∃ b i' h', spec_l01Once.f l i h n = some (b, i', h') ∧ 0 ≤ i' := by
  obtain ⟨x, i1, h1, e, _, _, hi1⟩ := below_some l hl i h n h0
  simp only [spec_l01Once.f, e, Option.bind_some]
  exact ⟨_, _, _, rfl, hi1⟩
theorem succ5 (j : Nat) (h : j ≤ 4) : wrap64 ((j : Int) + 1) = ((j + 1 : Nat) : Int) := wrap_succ (n := 5) (by omega) (by omega)
theorem list_l0 (l : List Int) (hl : l.length ≤ 1048576) (n : Nat) (hn : n ≤ 4) : ∀ (d j : Nat), n - j = d → j ≤ n → ∀ (o : List ByteArray) (i h : Int), 0 ≤ i → o.length ≤ j → (∀ y ∈ o, y.size ≤ 16) →
    ∃ o' i' h', Ev (fun k => spec_l01List.l0 k o (n : Int) (j : Int) l i h) (o', i', h') ∧ o'.length ≤ n ∧ (∀ y ∈ o', y.size ≤ 16) ∧ 0 ≤ i' := by
  intro d
  induction d with
  | zero =>
    intro j hd hj o i h h0 ho hs
    refine ⟨o, i, h, ev_now fun k => ?_, by omega, hs, h0⟩
    simp only [spec_l01List.l0]
    rw [if_neg (by omega)]
  | succ d ih =>
    intro j hd hj o i h h0 ho hs
    obtain ⟨x, i1, h1, e1, hx, hi1⟩ := pick_some l hl i h [⟨#[97]⟩, ⟨#[98]⟩, ⟨#[99]⟩, ⟨#[97, 98]⟩, ⟨#[]⟩, ⟨#[66]⟩] (by simp) h0
    have hxs : x.size ≤ 16 := by
      simp only [List.mem_cons, List.not_mem_nil, or_false] at hx
      rcases hx with rfl | rfl | rfl | rfl | rfl | rfl <;> decide
    obtain ⟨b, i2, h2, e2, hi2⟩ := once_some l hl i1 h1 2 hi1
    have p1 : (j : Int) < (n : Int) := by omega
    cases b with
    | true =>
      have hpl := putB_length x o
      obtain ⟨o', i', h', ⟨K, hK⟩, a1, a2, a3⟩ := ih (j + 1) (by omega) (by omega) (putB x o) i2 h2 hi2 (by omega) (fun y hy => by rcases putB_mem x o y hy with rfl | hy; exact hxs; exact hs y hy)
      obtain ⟨K0, hK0⟩ := spec_Put_ev o x (by omega) (fun y hy => by have := hs y hy; omega)
      refine ⟨o', i', h', ev_succ ⟨K + K0, fun k hk => ?_⟩, a1, a2, a3⟩
      have hK := hK k (by omega)
      have hK0 := hK0 k (by omega)
      try dsimp only at hK hK0 ⊢
      simp only [spec_l01List.l0]
      rw [if_pos p1, e1]
      simp only [Option.bind_some, e2, if_true, hK0]
      rw [succ5 j (Nat.le_trans hj hn)]
      exact hK
    | false =>
      have p2 : o.length < 8796093022208 := by omega
      obtain ⟨o', i', h', ⟨K, hK⟩, a1, a2, a3⟩ := ih (j + 1) (by omega) (by omega) (o ++ [x]) i2 h2 hi2 (by simp; omega) (fun y hy => by
        rcases List.mem_append.1 hy with hy | hy
        · exact hs y hy
        · rw [List.mem_singleton.1 hy]; exact hxs)
      refine ⟨o', i', h', ev_succ ⟨K, fun k hk => ?_⟩, a1, a2, a3⟩
      have hK := hK k (by omega)
      try dsimp only at hK ⊢
      simp only [spec_l01List.l0]
      rw [if_pos p1, e1]
      simp only [Option.bind_some, e2]
      rw [if_neg (by simp), if_pos p2, succ5 j (Nat.le_trans hj hn)]
      exact hK
theorem list_some (l : List Int) (hl : l.length ≤ 1048576) (i h : Int) (h0 : 0 ≤ i) : ∃ o i' h', Ev (fun k => spec_l01List.f k l i h) (o, i', h') ∧ o.length ≤ 4 ∧ (∀ y ∈ o, y.size ≤ 16) ∧ 0 ≤ i' := by
  obtain ⟨x, i1, h1, e, hx0, hx1, hi1⟩ := below_some l hl i h 5 h0
  obtain ⟨n, rfl⟩ := Int.eq_ofNat_of_zero_le hx0
  have hn : n ≤ 4 := by have := hx1 (by omega); omega
  obtain ⟨o, i', h', ⟨K, hK⟩, a1, a2, a3⟩ := list_l0 l hl n hn n 0 (by omega) (by omega) [] i1 h1 hi1 (by simp) (by simp)
  refine ⟨o, i', h', ⟨K, fun k hk => ?_⟩, by omega, a2, a3⟩
  have hK := hK k hk
  try dsimp only at hK ⊢
  simp only [spec_l01List.f, e, Option.bind_some]
  exact hK
end Go.Proofs.Ytbbndlagginnoaa.J
