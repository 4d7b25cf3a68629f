/- The columns of a condition, plainly: what the program's own gathering, sorting and compacting comes to. -/
import Derived.Test.YthkepfodengceaaPlE0
import Derived.Test.YthkepfodengceaaFColumns
import Derived.Sort.Walk0
namespace Go.Proofs.Ythkepfodengceaa.Q
open Go Go.RowKit Go.Proofs.YthkepfodengceaaW.PrintWords Go.Proofs.YthkepfodengceaaW.PrintLast
set_option linter.unusedVariables false
mutual
/-- The texts of the columns, as they stand. -/
def colsIE : IE → List ByteArray
  | ⟨a, t, _, l⟩ => (if a = 0 then [t] else []) ++ colsIs l
def colsIs : List IE → List ByteArray
  | [] => []
  | e :: l => colsIE e ++ colsIs l
end
mutual
theorem colsIE_len : ∀ e, (colsIE e).length ≤ nIE e
  | ⟨a, t, _, l⟩ => by have := colsIs_len l; simp only [colsIE, nIE, List.length_append]; split <;> simp <;> omega
theorem colsIs_len : ∀ l, (colsIs l).length ≤ nIs l
  | [] => by simp [colsIs, nIs]
  | e :: l => by have := colsIE_len e; have := colsIs_len l; simp only [colsIs, nIs, List.length_append]; omega
end
mutual
theorem colsF_ev : ∀ (e : IE) (xs : List ByteArray), xs.length + nIE e ≤ 1000000000 → Ev (fun k => colsF k e.f0 e.f1 e.f3 xs) (xs ++ colsIE e)
  | ⟨a, t, m, l⟩, xs, hx => by
    have en : nIE ⟨a, t, m, l⟩ = 1 + nIs l := by simp only [nIE]
    have ec : colsIE ⟨a, t, m, l⟩ = (if a = 0 then [t] else []) ++ colsIs l := by simp only [colsIE]
    rw [ec]
    by_cases a0 : a = 0
    · obtain ⟨K, hK⟩ := colsL_ev l (xs ++ [t]) (by simp; omega)
      refine ev_succ ⟨K, fun k hk => ?_⟩
      have hK := hK k hk
      try dsimp only at hK ⊢
      simp only [colsF]
      rw [if_pos a0, if_pos (by omega), hK, if_pos a0, List.append_assoc]
    · obtain ⟨K, hK⟩ := colsL_ev l xs (by omega)
      refine ev_succ ⟨K, fun k hk => ?_⟩
      have hK := hK k hk
      try dsimp only at hK ⊢
      simp only [colsF]
      rw [if_neg a0, hK, if_neg a0, List.nil_append]
theorem colsL_ev : ∀ (l : List IE) (xs : List ByteArray), xs.length + nIs l ≤ 1000000000 → Ev (fun k => colsL k l xs) (xs ++ colsIs l)
  | [], xs, hx => by
    refine ev_now fun k => ?_
    simp only [colsL, colsIs, List.append_nil]
  | e :: l, xs, hx => by
    have en : nIs (e :: l) = nIE e + nIs l := by simp only [nIs]
    have ec : colsIs (e :: l) = colsIE e ++ colsIs l := by simp only [colsIs]
    have hl := colsIE_len e
    obtain ⟨K1, hK1⟩ := colsF_ev e xs (by omega)
    obtain ⟨K2, hK2⟩ := colsL_ev l (xs ++ colsIE e) (by simp; omega)
    rw [ec]
    refine ev_succ ⟨K1 + K2, fun k hk => ?_⟩
    have hK1 := hK1 k (by omega)
    have hK2 := hK2 k (by omega)
    try dsimp only at hK1 hK2 ⊢
    simp only [colsL]
    rw [hK1, Option.bind_some, hK2, List.append_assoc]
end
theorem impl_Columns_ev (e : IE) (hn : nIE e ≤ 1000000000) : Ev (fun k => impl_Columns.f k e.f0 e.f1 e.f2 e.f3) (sortedB (colsIE e)) := by
  obtain ⟨K, hK⟩ := colsF_ev e [] (by simpa using hn)
  have hl := colsIE_len e
  refine ⟨K, fun k hk => ?_⟩
  have hK := hK k hk
  try dsimp only at hK ⊢
  simp only [impl_Columns.f]
  rw [hK, Option.bind_some, List.nil_append, if_pos (by omega)]
/-- What compacting leaves, place by place. -/
theorem comp_mem (d : Array (List UInt8)) : ∀ (m : Nat) (x : List UInt8), x ∈ Lib.compactUpTo d m ↔ ∃ j, j < m ∧ d[j]! = x := by
  intro m
  induction m with
  | zero => intro x; simp [Lib.compactUpTo]
  | succ m ih =>
    intro x
    rw [Lib.compactUpTo_succ, List.mem_append, ih]
    constructor
    · rintro (⟨j, hj, h⟩ | h)
      · exact ⟨j, by omega, h⟩
      · split at h
        · exact ⟨m, by omega, (List.mem_singleton.1 h).symm⟩
        · cases h
    · rintro ⟨j, hj, rfl⟩
      by_cases hm : j < m
      · exact .inl ⟨j, hm, rfl⟩
      · have : j = m := by omega
        subst this
        by_cases hk : Lib.keeps d j = true
        · exact .inr (by rw [if_pos hk]; simp)
        · left
          simp only [Lib.keeps, decide_eq_true_eq, not_or, ne_eq, Decidable.not_not] at hk
          exact ⟨j - 1, by omega, hk.2.symm⟩
theorem mem_sortedB (x : ByteArray) (xs : List ByteArray) : x ∈ sortedB xs ↔ x ∈ xs := by
  have key : ∀ y : List UInt8, y ∈ Lib.compact ((xs.map (·.data.toList)).mergeSort fun x y => decide (x ≤ y)) ↔ y ∈ xs.map (·.data.toList) := by
    intro y
    have h1 := comp_mem ((xs.map (·.data.toList)).mergeSort fun x y => decide (x ≤ y)).toArray ((xs.map (·.data.toList)).mergeSort fun x y => decide (x ≤ y)).length y
    unfold Lib.compact
    rw [h1, ← List.mem_mergeSort (le := fun x y => decide (x ≤ y)), List.mem_iff_getElem]
    constructor
    · rintro ⟨j, hj, h⟩
      exact ⟨j, hj, by rw [← h, getElem!_pos _ j (by simpa using hj)]; simp⟩
    · rintro ⟨j, hj, h⟩
      exact ⟨j, hj, by rw [← h, getElem!_pos _ j (by simpa using hj)]; simp⟩
  unfold sortedB
  rw [List.mem_map]
  constructor
  · rintro ⟨y, hy, rfl⟩
    obtain ⟨z, hz, rfl⟩ := List.mem_map.1 ((key y).1 hy)
    exact hz
  · intro h
    exact ⟨x.data.toList, (key _).2 (List.mem_map.2 ⟨x, h, rfl⟩), rfl⟩
theorem sortedB_len (xs : List ByteArray) : (sortedB xs).length ≤ xs.length := by
  unfold sortedB
  rw [List.length_map]
  exact Nat.le_trans (Lib.compact_length_le _) (by simp)
end Go.Proofs.Ythkepfodengceaa.Q
