/- The columns of a condition, plainly: the reference; and that both come to one list. -/
import Derived.Test.YthkepfodengceaaPlE0
import Derived.Test.YthkepfodengceaaPlC
import Derived.Test.YthkepfodengceaaPlP0
import Derived.Test.YthkepfodengceaaQ6
namespace Go.Proofs.Ythkepfodengceaa.Q
open Go Go.RowKit Go.Proofs.YthkepfodengceaaW.PrintWords Go.Proofs.YthkepfodengceaaW.PrintLast
set_option linter.unusedVariables false
/-- Texts put into a list, one behind the other. -/
def putAll : List ByteArray → List ByteArray → List ByteArray
  | [], o => o
  | x :: l, o => putAll l (putB x o)
mutual
def specCols : IE → List ByteArray
  | ⟨a, t, _, l⟩ => specColsL l (if a = 0 then [t] else [])
def specColsL : List IE → List ByteArray → List ByteArray
  | [], o => o
  | e :: l, o => specColsL l (putAll (specCols e) o)
end
theorem putAll_len : ∀ (l o : List ByteArray), (putAll l o).length ≤ l.length + o.length
  | [], o => by simp [putAll]
  | x :: l, o => by have := putAll_len l (putB x o); have := putB_length x o; simp only [putAll, List.length_cons]; omega
mutual
theorem specCols_len : ∀ e, (specCols e).length ≤ nIE e
  | ⟨a, t, m, l⟩ => by
    have := specColsL_len l (if a = 0 then [t] else [])
    have h1 : (if a = 0 then [t] else []).length ≤ 1 := by split <;> simp
    simp only [specCols, nIE]
    omega
theorem specColsL_len : ∀ (l : List IE) (o : List ByteArray), (specColsL l o).length ≤ o.length + nIs l
  | [], o => by simp [specColsL, nIs]
  | e :: l, o => by
    have h1 := specCols_len e
    have h2 := putAll_len (specCols e) o
    have h3 := specColsL_len l (putAll (specCols e) o)
    simp only [specColsL, nIs]
    omega
end
theorem putB_has (s : ByteArray) : ∀ l : List ByteArray, s ∈ putB s l
  | [] => by simp [putB]
  | a :: l => by
    unfold putB
    by_cases hb : atBehind s a = true
    · rw [if_pos hb]
      by_cases he : a.toList = s.toList
      · rw [if_pos he, str_eq.1 he]; simp
      · rw [if_neg he]; simp
    · rw [if_neg hb]
      exact List.mem_cons_of_mem _ (putB_has s l)
theorem putB_keeps (s x : ByteArray) : ∀ l : List ByteArray, x ∈ l → x ∈ putB s l
  | a :: l, h => by
    unfold putB
    by_cases hb : atBehind s a = true
    · rw [if_pos hb]
      by_cases he : a.toList = s.toList
      · rw [if_pos he]; exact h
      · rw [if_neg he]; exact List.mem_cons_of_mem _ h
    · rw [if_neg hb]
      rcases List.mem_cons.1 h with rfl | h
      · simp
      · exact List.mem_cons_of_mem _ (putB_keeps s x l h)
theorem mem_putAll (x : ByteArray) : ∀ (l o : List ByteArray), x ∈ putAll l o ↔ x ∈ l ∨ x ∈ o
  | [], o => by simp [putAll]
  | y :: l, o => by
    rw [putAll, mem_putAll x l, List.mem_cons]
    constructor
    · rintro (h | h)
      · exact .inl (.inr h)
      · rcases putB_mem y o x h with rfl | h
        · exact .inl (.inl rfl)
        · exact .inr h
    · rintro ((rfl | h) | h)
      · exact .inr (putB_has _ _)
      · exact .inl h
      · exact .inr (putB_keeps y x o h)
theorem rising_putAll : ∀ (l o : List ByteArray), risingB o = true → risingB (putAll l o) = true
  | [], o, h => h
  | x :: l, o, h => by rw [putAll]; exact rising_putAll l _ (rising_put x o h)
mutual
theorem mem_specCols (x : ByteArray) : ∀ e, x ∈ specCols e ↔ x ∈ colsIE e
  | ⟨a, t, m, l⟩ => by simp only [specCols, colsIE, List.mem_append]; exact mem_specColsL x l _
theorem mem_specColsL (x : ByteArray) : ∀ (l : List IE) (o : List ByteArray), x ∈ specColsL l o ↔ x ∈ o ∨ x ∈ colsIs l
  | [], o => by simp [specColsL, colsIs]
  | e :: l, o => by
    simp only [specColsL, colsIs, List.mem_append]
    rw [mem_specColsL x l, mem_putAll, mem_specCols x e]
    constructor
    · rintro ((h | h) | h)
      · exact .inr (.inl h)
      · exact .inl h
      · exact .inr (.inr h)
    · rintro (h | h | h)
      · exact .inl (.inr h)
      · exact .inl (.inl h)
      · exact .inr h
end
theorem rising_specColsL : ∀ (l : List IE) (o : List ByteArray), risingB o = true → risingB (specColsL l o) = true
  | [], o, h => by simpa [specColsL] using h
  | e :: l, o, h => by simp only [specColsL]; exact rising_specColsL l _ (rising_putAll _ o h)
theorem rising_specCols (e : IE) : risingB (specCols e) = true := by
  obtain ⟨a, t, m, l⟩ := e
  simp only [specCols]
  apply rising_specColsL
  split <;> rfl
/-- Two rising lists of the same texts are one. -/
theorem rising_one : ∀ (l m : List ByteArray), risingB l = true → risingB m = true → (∀ x, x ∈ l ↔ x ∈ m) → l = m
  | [], [], _, _, _ => rfl
  | [], b :: m, _, _, h => absurd ((h b).2 (by simp)) (by simp)
  | a :: l, [], _, _, h => absurd ((h a).1 (by simp)) (by simp)
  | a :: l, b :: m, hl, hm, h => by
    obtain ⟨h1, h2⟩ := (rising_cons a l).1 hl
    obtain ⟨h3, h4⟩ := (rising_cons b m).1 hm
    have hab : a = b := by
      rcases List.mem_cons.1 ((h a).1 (by simp)) with e | e
      · exact e
      · rcases List.mem_cons.1 ((h b).2 (by simp)) with e2 | e2
        · exact e2.symm
        · have c1 := h3 a e
          have c2 := h1 b e2
          have := bl_trans _ _ _ c1 c2
          rw [bl_irrefl] at this
          cases this
    subst hab
    congr 1
    apply rising_one l m h2 h4
    intro x
    have hx := h x
    simp only [List.mem_cons] at hx
    constructor
    · intro hm'
      rcases hx.1 (.inr hm') with e | e
      · subst e
        have := h1 x hm'
        rw [bl_irrefl] at this
        cases this
      · exact e
    · intro hm'
      rcases hx.2 (.inr hm') with e | e
      · subst e
        have := h3 x hm'
        rw [bl_irrefl] at this
        cases this
      · exact e
/-- A list of which each element lies ahead of every later one. -/
theorem rising_of_pairs : ∀ l : List ByteArray, l.Pairwise (fun a b => Op.bytesLess a.data.toList b.data.toList = true) → risingB l = true
  | [], _ => rfl
  | a :: l, h => by
    obtain ⟨h1, h2⟩ := List.pairwise_cons.1 h
    exact (rising_cons a l).2 ⟨h1, rising_of_pairs l h2⟩
theorem comp_rising (d : Array (List UInt8)) (hs : ∀ i j, i ≤ j → j < d.size → ¬ (d[j]! < d[i]!)) : ∀ m, m ≤ d.size → (Lib.compactUpTo d m).Pairwise (fun a b => Op.bytesLess a b = true) := by
  intro m
  induction m with
  | zero => intro _; simp [Lib.compactUpTo]
  | succ m ih =>
    intro hm
    rw [Lib.compactUpTo_succ, List.pairwise_append]
    refine ⟨ih (by omega), by split <;> simp, fun x hx y hy => ?_⟩
    split at hy
    case isFalse => cases hy
    rename_i hk
    obtain rfl := List.mem_singleton.1 hy
    obtain ⟨j, hj, rfl⟩ := (comp_mem d m x).1 hx
    simp only [Lib.keeps, decide_eq_true_eq] at hk
    have hne : d[m]! ≠ d[m - 1]! := by
      rcases hk with h | h
      · omega
      · exact h
    have a1 := hs j (m - 1) (by omega) (by omega)
    have a2 := hs (m - 1) m (by omega) (by omega)
    -- d[j] ≤ d[m-1] < d[m]
    have b2 : Op.bytesLess d[m - 1]! d[m]! = true := by
      rw [bytesLess_eq]
      refine decide_eq_true ?_
      rcases bl_total d[m]! d[m - 1]! (by rw [bytesLess_eq]; exact decide_eq_false a2) with e | e
      · exact absurd e hne
      · rw [bytesLess_eq] at e; exact of_decide_eq_true e
    rcases bl_total d[m - 1]! d[j]! (by rw [bytesLess_eq]; exact decide_eq_false a1) with e | e
    · rw [← e]; exact b2
    · exact bl_trans _ _ _ e b2
theorem rising_sortedB (xs : List ByteArray) : risingB (sortedB xs) = true := by
  apply rising_of_pairs
  unfold sortedB Lib.compact
  rw [List.pairwise_map]
  have hp := List.pairwise_mergeSort (le := fun x y : List UInt8 => decide (x ≤ y)) (fun a b c h1 h2 => by
    simp only [decide_eq_true_eq] at h1 h2 ⊢; exact List.le_trans h1 h2) (fun a b => by
    simp only [Bool.or_eq_true, decide_eq_true_eq]; exact List.le_total a b) (xs.map (·.data.toList))
  refine (comp_rising _ ?_ _ (by simp)).imp (fun h => h)
  intro i j hij hj
  have hj' : j < ((xs.map (·.data.toList)).mergeSort fun x y => decide (x ≤ y)).length := by simpa using hj
  rw [getElem!_pos _ j (by simpa using hj'), getElem!_pos _ i (by simp at hj' ⊢; omega)]
  simp only [List.getElem_toArray]
  rcases Nat.lt_or_ge i j with h | h
  · have := List.pairwise_iff_getElem.1 hp i j (by omega) hj' h
    simp only [decide_eq_true_eq] at this
    exact List.not_lt.2 this
  · have : i = j := by omega
    subst this
    exact List.lt_irrefl _
/-- Both come to one list. -/
theorem cols_one (e : IE) : sortedB (colsIE e) = specCols e :=
  rising_one _ _ (rising_sortedB _) (rising_specCols e) (fun x => by rw [mem_sortedB, mem_specCols])
mutual
theorem spec_Columns_ev : ∀ (e : IE), nIE e ≤ 1000 → (∀ y ∈ colsIE e, y.size ≤ 9223372036854775807) → Ev (fun k => spec_Columns.f k e.f0 e.f1 e.f2 e.f3) (specCols e)
  | ⟨a, t, m, l⟩, hn, hg => by
    have en : nIE ⟨a, t, m, l⟩ = 1 + nIs l := by simp only [nIE]
    have ec : colsIE ⟨a, t, m, l⟩ = (if a = 0 then [t] else []) ++ colsIs l := by simp only [colsIE]
    rw [ec] at hg
    have hl := nIs_len l
    obtain ⟨K, hK⟩ := spec_ColumnsL_ev a t m l [] (if a = 0 then [t] else []) (by omega) (by simp; omega) (by split <;> simp <;> omega) (fun y hy => hg y (List.mem_append_left _ hy)) (fun y hy => hg y (List.mem_append_right _ hy))
    refine ev_succ ⟨K + 1, fun k hk => ?_⟩
    obtain ⟨k, rfl⟩ : ∃ m, k = m + 1 := ⟨k - 1, by omega⟩
    have hK := hK k (by omega)
    try dsimp only at hK ⊢
    simp only [List.nil_append, List.length_nil, Int.natCast_zero] at hK
    simp only [spec_Columns.f, spec_Columns.j0, Option.bind_some, specCols]
    by_cases a0 : a = 0
    · rw [if_pos a0, if_pos (by simp)]
      rw [if_pos a0] at hK
      rw [if_pos a0]
      exact hK
    · rw [if_neg a0]
      rw [if_neg a0] at hK
      rw [if_neg a0]
      exact hK
theorem spec_ColumnsL_ev (a : Int) (t : ByteArray) (m : Int) : ∀ (l p : List IE) (o : List ByteArray), nIs l ≤ 1000 → p.length + l.length ≤ 1000000 → o.length + nIs l ≤ 1000 → (∀ y ∈ o, y.size ≤ 9223372036854775807) → (∀ y ∈ colsIs l, y.size ≤ 9223372036854775807) →
    Ev (fun k => spec_Columns.l0 k o (p.length : Int) a t m (p ++ l)) (specColsL l o)
  | [], p, o, hn, hs, ho, hg, hg2 => by
    refine ev_now fun k => ?_
    simp only [spec_Columns.l0, List.append_nil, specColsL]
    rw [if_neg (by omega)]
  | e :: l, p, o, hn, hs, ho, hg, hg2 => by
    have hlt : (p.length : Int) < ((p ++ e :: l).length : Int) := by simp only [List.length_append, List.length_cons]; omega
    have el : (e :: l).length = l.length + 1 := rfl
    have en : nIs (e :: l) = nIE e + nIs l := by simp only [nIs]
    have ec : colsIs (e :: l) = colsIE e ++ colsIs l := by simp only [colsIs]
    rw [ec] at hg2
    have hc := specCols_len e
    have hpl := putAll_len (specCols e) o
    have ge : ∀ y ∈ specCols e, y.size ≤ 9223372036854775807 := fun y hy => hg2 y (List.mem_append_left _ ((mem_specCols y e).1 hy))
    obtain ⟨K1, hK1⟩ := spec_Columns_ev e (by omega) (fun y hy => hg2 y (List.mem_append_left _ hy))
    obtain ⟨K2, hK2⟩ := spec_ColumnsL_ev a t m l (p ++ [e]) (putAll (specCols e) o) (by omega) (by simp; omega) (by omega) (fun y hy => by
      rcases (mem_putAll y _ _).1 hy with h | h
      · exact ge y h
      · exact hg y h) (fun y hy => hg2 y (List.mem_append_right _ hy))
    have G : ∀ (r q : List ByteArray) (o2 : List ByteArray), specCols e = q ++ r → o2.length + r.length ≤ 1000 → (∀ y ∈ o2, y.size ≤ 9223372036854775807) → putAll r o2 = putAll (specCols e) o →
        Ev (fun k => spec_Columns.l1 k o2 (p.length : Int) (specCols e) (q.length : Int) a t m (p ++ e :: l)) (specColsL l (putAll (specCols e) o)) := by
      intro r
      induction r with
      | nil =>
        intro q o2 hq hlen hg3 hput
        refine ev_succ ⟨K2, fun k hk => ?_⟩
        have hK2 := hK2 k hk
        try dsimp only at hK2 ⊢
        simp only [spec_Columns.l1]
        have hql : (specCols e).length = q.length := by rw [hq]; simp
        rw [List.append_assoc, List.singleton_append, List.length_append, List.length_singleton] at hK2
        rw [if_neg (by omega), wrap_mid p.length l.length (by omega)]
        rw [putAll] at hput
        rw [hput]
        exact hK2
      | cons x r ih =>
        intro q o2 hq hlen hg3 hput
        have hxl : q.length < (specCols e).length := by rw [hq]; simp
        have hx : (specCols e)[q.length]'hxl = x := by simp [hq]
        obtain ⟨K3, hK3⟩ := spec_Put_ev o2 x (by simp at hlen; omega) hg3
        have hpb := putB_length x o2
        obtain ⟨K4, hK4⟩ := ih (q ++ [x]) (putB x o2) (by simp [hq]) (by simp at hlen ⊢; omega) (fun y hy => by
          rcases putB_mem x o2 y hy with rfl | h
          · exact ge _ (by rw [hq]; simp)
          · exact hg3 y h) (by rw [← hput, putAll])
        refine ev_succ ⟨K3 + K4, fun k hk => ?_⟩
        have hK3 := hK3 k (by omega)
        have hK4 := hK4 k (by omega)
        try dsimp only at hK3 hK4 ⊢
        simp only [spec_Columns.l1]
        rw [List.length_append, List.length_singleton] at hK4
        rw [if_pos (by omega), if_pos (by omega), rdOf_nat _ _ _ hxl, hx, hK3, Option.bind_some, wrap_mid q.length 0 (by omega), hK4]
    obtain ⟨K5, hK5⟩ := G (specCols e) [] o rfl (by omega) hg rfl
    refine ev_succ ⟨K1 + K5, fun k hk => ?_⟩
    have hK1 := hK1 k (by omega)
    have hK5 := hK5 k (by omega)
    try dsimp only at hK1 hK5 ⊢
    simp only [List.length_nil, Int.natCast_zero] at hK5
    simp only [spec_Columns.l0, specColsL]
    rw [if_pos hlt, if_pos (by omega), rdI_mid, hK1, Option.bind_some, hK5]
end
end Go.Proofs.Ythkepfodengceaa.Q
