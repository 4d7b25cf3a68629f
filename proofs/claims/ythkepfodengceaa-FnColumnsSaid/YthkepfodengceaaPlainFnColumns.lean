/- The law FnColumns answers true at every code, with no condition. -/
import Derived.Test.YthkepfodengceaaStFnColumns
import Derived.Test.YthkepfodengceaaPlM
import Derived.Test.YthkepfodengceaaPlCo
import Derived.Test.YthkepfodengceaaPlH1
import Derived.Test.YthkepfodengceaaPlSt
import Derived.Test.YthkepfodengceaaQ5
namespace Go.Proofs.Ythkepfodengceaa.Q
open Go Go.RowKit Go.Proofs.YthkepfodengceaaW.PrintWords Go.Proofs.YthkepfodengceaaW.PrintLast
set_option linter.unusedVariables false
mutual
theorem cols_all (P : ByteArray → Prop) : ∀ e : IE, allT P e → ∀ y ∈ colsIE e, P y
  | ⟨a, t, m, l⟩, g => by
    simp only [allT] at g
    intro y hy
    simp only [colsIE, List.mem_append] at hy
    rcases hy with hy | hy
    · split at hy
      · rw [List.mem_singleton.1 hy]; exact g.1
      · cases hy
    · exact cols_all_l P l g.2 y hy
theorem cols_all_l (P : ByteArray → Prop) : ∀ l : List IE, allTs P l → ∀ y ∈ colsIs l, P y
  | [], _ => by simp [colsIs]
  | e :: l, g => by
    simp only [allTs] at g
    intro y hy
    simp only [colsIs, List.mem_append] at hy
    rcases hy with hy | hy
    · exact cols_all P e g.1 y hy
    · exact cols_all_l P l g.2 y hy
end
theorem FnColumns_l (L : List ByteArray) (hL : L.length ≤ 1000000) (a : Int) (t : ByteArray) (m : Int) : ∀ (l p : List IE) (o : List ByteArray), nIs l ≤ 1000 → p.length + l.length ≤ 1000000 → o.length + nIs l ≤ 1000 → (∀ y ∈ o, y.size ≤ 41) → (∀ y ∈ colsIs l, y.size ≤ 41) → specColsL l o = L →
    Ev (fun k => laws_FnColumns.l0 k L o (p.length : Int) a t m (p ++ l)) true
  | [], p, o, hn, hs, ho, hg, hg2, hL2 => by
    simp only [specColsL] at hL2
    subst hL2
    obtain ⟨K, hK⟩ := sameTexts_self o (by omega)
    refine ev_succ ⟨K, fun k hk => ?_⟩
    have hK := hK k hk
    try dsimp only at hK ⊢
    simp only [laws_FnColumns.l0, List.append_nil]
    rw [if_neg (by omega), hK]
    rfl
  | e :: l, p, o, hn, hs, ho, hg, hg2, hL2 => by
    have hlt : (p.length : Int) < ((p ++ e :: l).length : Int) := by simp only [List.length_append, List.length_cons]; omega
    have el : (e :: l).length = l.length + 1 := rfl
    have en : nIs (e :: l) = nIE e + nIs l := by simp only [nIs]
    have ec : colsIs (e :: l) = colsIE e ++ colsIs l := by simp only [colsIs]
    rw [ec] at hg2
    simp only [specColsL] at hL2
    have hc := specCols_len e
    have hpl := putAll_len (specCols e) o
    have ge : ∀ y ∈ specCols e, y.size ≤ 41 := fun y hy => hg2 y (List.mem_append_left _ ((mem_specCols y e).1 hy))
    obtain ⟨K1, hK1⟩ := impl_Columns_ev e (by omega)
    rw [cols_one] at hK1
    obtain ⟨K2, hK2⟩ := FnColumns_l L hL a t m l (p ++ [e]) (putAll (specCols e) o) (by omega) (by simp; omega) (by omega) (fun y hy => by
      rcases (mem_putAll y _ _).1 hy with h | h
      · exact ge y h
      · exact hg y h) (fun y hy => hg2 y (List.mem_append_right _ hy)) hL2
    have G : ∀ (r q : List ByteArray) (o2 : List ByteArray), specCols e = q ++ r → o2.length + r.length ≤ 1000 → (∀ y ∈ o2, y.size ≤ 41) → putAll r o2 = putAll (specCols e) o →
        Ev (fun k => laws_FnColumns.l1 k L o2 (p.length : Int) (specCols e) (q.length : Int) a t m (p ++ e :: l)) true := by
      intro r
      induction r with
      | nil =>
        intro q o2 hq hlen hg3 hput
        refine ev_succ ⟨K2, fun k hk => ?_⟩
        have hK2 := hK2 k hk
        try dsimp only at hK2 ⊢
        simp only [laws_FnColumns.l1]
        have hql : (specCols e).length = q.length := by rw [hq]; simp
        rw [List.append_assoc, List.singleton_append, List.length_append, List.length_singleton] at hK2
        rw [if_neg (by omega), wrap_mid p.length l.length (by omega)]
        rw [putAll] at hput
        rw [hput]
        exact hK2
      | cons x r ih =>
        intro q o2 hq hlen hg3 hput
        have hxl : q.length < (specCols e).length := by rw [hq]; simp
        have hx : (specCols e)[q.length]'hxl = x := by simp [hq]
        obtain ⟨K3, hK3⟩ := spec_Put_ev o2 x (by simp at hlen; omega) (fun y hy => by have := hg3 y hy; omega)
        have hpb := putB_length x o2
        obtain ⟨K4, hK4⟩ := ih (q ++ [x]) (putB x o2) (by simp [hq]) (by simp at hlen ⊢; omega) (fun y hy => by
          rcases putB_mem x o2 y hy with rfl | h
          · exact ge _ (by rw [hq]; simp)
          · exact hg3 y h) (by rw [← hput, putAll])
        refine ev_succ ⟨K3 + K4, fun k hk => ?_⟩
        have hK3 := hK3 k (by omega)
        have hK4 := hK4 k (by omega)
        try dsimp only at hK3 hK4 ⊢
        simp only [laws_FnColumns.l1]
        rw [List.length_append, List.length_singleton] at hK4
        rw [if_pos (by omega), if_pos (by omega), rdOf_nat _ _ _ hxl, hx, hK3, Option.bind_some, wrap_mid q.length 0 (by omega), hK4]
    obtain ⟨K5, hK5⟩ := G (specCols e) [] o rfl (by omega) hg rfl
    refine ev_succ ⟨K1 + K5, fun k hk => ?_⟩
    have hK1 := hK1 k (by omega)
    have hK5 := hK5 k (by omega)
    try dsimp only at hK1 hK5 ⊢
    simp only [List.length_nil, Int.natCast_zero] at hK5
    simp only [laws_FnColumns.l0]
    rw [if_pos hlt, if_pos (by omega), rdI_mid, hK1, Option.bind_some, hK5]
theorem FnColumns_plain : laws_FnColumns.Plain := by
  intro l _ _
  by_cases hb : (l.length : Int) > 1048576
  · exact ⟨0, by simp [laws_FnColumns.f, big_eq, hb]⟩
  have hl : l.length ≤ 1048576 := by omega
  obtain ⟨h0, K0, hK0⟩ := new_ev l
  obtain ⟨⟨a, t, m, ks⟩, i1, h1, ⟨K1, hK1⟩, hi1, hn, ha⟩ := odd_some l hl 0 h0 (by omega)
  have ha := allT_imp drawnT_size _ ha
  have hcs := cols_all _ _ ha
  have en : nIE ⟨a, t, m, ks⟩ = 1 + nIs ks := by simp only [nIE]
  have ec : colsIE ⟨a, t, m, ks⟩ = (if a = 0 then [t] else []) ++ colsIs ks := by simp only [colsIE]
  have hkl := nIs_len ks
  have hsl := specCols_len ⟨a, t, m, ks⟩
  obtain ⟨K2, hK2⟩ := impl_Columns_ev ⟨a, t, m, ks⟩ (by omega)
  rw [cols_one] at hK2
  obtain ⟨K3, hK3⟩ := spec_Columns_ev ⟨a, t, m, ks⟩ (by omega) (fun y hy => by have := hcs y hy; omega)
  obtain ⟨K4, hK4⟩ := sameTexts_self (specCols ⟨a, t, m, ks⟩) (by omega)
  obtain ⟨K5, hK5⟩ := spec_Rising_ev (specCols ⟨a, t, m, ks⟩) (by omega) (fun y hy => by have := hcs y ((mem_specCols _ _).1 hy); unfold maxLen; omega)
  rw [rising_specCols] at hK5
  rw [ec] at hcs
  obtain ⟨K6, hK6⟩ := FnColumns_l (specCols ⟨a, t, m, ks⟩) (by omega) a t m ks [] (if a = 0 then [t] else []) (by omega) (by simp; omega) (by split <;> simp <;> omega) (fun y hy => hcs y (List.mem_append_left _ hy)) (fun y hy => hcs y (List.mem_append_right _ hy)) (by simp only [specCols])
  obtain ⟨k, hk⟩ : ∃ k, k = K0 + K1 + K2 + K3 + K4 + K5 + K6 := ⟨_, rfl⟩
  refine ⟨k + 2, ?_⟩
  have a0 := hK0 (k + 2) (by omega)
  have a1 := hK1 (k + 2) (by omega)
  have a2 := hK2 (k + 2) (by omega)
  have a3 := hK3 (k + 2) (by omega)
  have a4 := hK4 (k + 2) (by omega)
  have a5 := hK5 (k + 2) (by omega)
  have a6 := hK6 k (by omega)
  generalize specCols ⟨a, t, m, ks⟩ = L at a2 a3 a4 a5 a6
  try dsimp only at a0 a1 a2 a3 a4 a5 a6
  simp only [List.nil_append, List.length_nil, Int.natCast_zero] at a6
  simp only [laws_FnColumns.f, big_eq, decide_eq_false hb, Option.bind_some, Bool.false_eq_true, if_false, spec_DrawColumns.f, a0, a1, a2, a3, a4, a5, if_true, laws_FnColumns.j0, Bool.not_true, laws_FnColumns.j1]
  by_cases h0 : a = 0
  · rw [if_pos h0] at a6 ⊢
    rw [if_pos (by simp)]
    exact a6
  · rw [if_neg h0] at a6 ⊢
    exact a6
end Go.Proofs.Ythkepfodengceaa.Q
