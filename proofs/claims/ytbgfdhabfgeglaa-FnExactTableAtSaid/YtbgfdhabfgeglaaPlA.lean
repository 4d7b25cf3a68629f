/- Lists of texts, plainly: what the law's own helpers come to (weights, copies, equality). -/
import Derived.Test.YtbgfdhabfgeglaaQ1
import Derived.Test.YtbgfdhabfgeglaaQ2
import Derived.Test.YtbgfdhabfgeglaaQ4
import Derived.Test.YtbgfdhabfgeglaaPlA0
import Derived.Lib.Strings
namespace Go.Proofs.Ytbgfdhabfgeglaa.Q
open Go Go.RowKit Go.Proofs.YtbgfdhabfgeglaaW.PrintWords Go.Proofs.YtbgfdhabfgeglaaW.PrintLast

/-- How much a list of texts weighs: its texts, and their bytes. -/
def strW : List ByteArray → Int
  | [] => 0
  | s :: l => (s.size : Int) + strW l
theorem strW_nonneg : ∀ l, 0 ≤ strW l
  | [] => by simp [strW]
  | s :: l => by have := strW_nonneg l; simp only [strW]; omega
theorem szStringS_l0 (l : List ByteArray) (hl : l.length ≤ 1048576) (g : ∀ y ∈ l, y.size ≤ maxLen) : ∀ (d i : Nat), l.length - i = d → i ≤ l.length → ∀ left : Int, 0 ≤ left → left ≤ 1048576 →
    Ev (fun k => laws_szStringS.l0 k l left (i : Int)) (if left < strW (l.drop i) then -1 else left - strW (l.drop i)) := by
  intro d
  induction d with
  | zero =>
    intro i hd hi left h0 h1
    refine ev_now fun k => ?_
    simp only [laws_szStringS.l0]
    have e : strW (l.drop i) = 0 := by rw [List.drop_eq_nil_of_le (by omega)]; rfl
    rw [if_neg (by omega), if_neg (by omega), e, Int.sub_zero]
  | succ d ih =>
    intro i hd hi left h0 h1
    have hlt : i < l.length := by omega
    have hm := g l[i] (List.getElem_mem hlt)
    unfold maxLen at hm
    have hw : wrap64 (left - (l[i].size : Int)) = left - (l[i].size : Int) := wrap_id (by omega) (by omega)
    have hs : strW (l.drop i) = (l[i].size : Int) + strW (l.drop (i + 1)) := by rw [List.drop_eq_getElem_cons hlt]; rfl
    have hp := strW_nonneg (l.drop (i + 1))
    by_cases hz : left - (l[i].size : Int) < 0
    · refine ev_now fun k => ?_
      simp only [laws_szStringS.l0]
      rw [if_pos (by omega), if_pos (by omega), rdOf_nat _ _ _ hlt, hw, if_pos hz, if_pos (by omega)]
    · obtain ⟨K, hK⟩ := ih (i + 1) (by omega) (by omega) (left - (l[i].size : Int)) (by omega) (by omega)
      refine ev_succ ⟨K, fun k hk => ?_⟩
      try dsimp only at hK ⊢
      simp only [laws_szStringS.l0]
      rw [if_pos (by omega), if_pos (by omega), rdOf_nat _ _ _ hlt, hw, if_neg hz, wrap_succ hlt (by omega), hK k hk, hs]
      congr 1
      by_cases h2 : left - (l[i].size : Int) < strW (l.drop (i + 1))
      · rw [if_pos h2, if_pos (by omega)]
      · rw [if_neg h2, if_neg (by omega)]; omega
/-- What is left of the room, or that there is none. -/
theorem szStringS_ev (l : List ByteArray) (hm : l.length ≤ 9223372036854775807) (g : ∀ y ∈ l, y.size ≤ maxLen) (left : Int) (h0 : 0 ≤ left) (h1 : left ≤ 1048576) :
    Ev (fun k => laws_szStringS.f k l left) (if left < (l.length : Int) + strW l then -1 else left - ((l.length : Int) + strW l)) := by
  have hw : wrap64 (left - (l.length : Int)) = left - (l.length : Int) := wrap_id (by omega) (by omega)
  have hp := strW_nonneg l
  by_cases hz : left - (l.length : Int) < 0
  · refine ev_eq fun k => ?_
    simp only [laws_szStringS.f]
    rw [hw, if_pos hz, if_pos (by omega)]
  · obtain ⟨K, hK⟩ := szStringS_l0 l (by omega) g l.length 0 (by omega) (by omega) (left - (l.length : Int)) (by omega) (by omega)
    refine ⟨K, fun k hk => ?_⟩
    try dsimp only at hK ⊢
    simp only [laws_szStringS.f]
    have := hK k hk
    rw [Int.natCast_zero, List.drop_zero] at this
    rw [hw, if_neg hz, this]
    congr 1
    by_cases h2 : left - (l.length : Int) < strW l
    · rw [if_pos h2, if_pos (by omega)]
    · rw [if_neg h2, if_neg (by omega)]; omega
theorem toStringS_l0 (l : List ByteArray) (hl : l.length ≤ 17592186044416) : ∀ (d i : Nat), l.length - i = d → i ≤ l.length → ∀ o : List ByteArray, o.length = l.length → o.take i = l.take i →
    Ev (fun k => laws_toStringS.l0 k l o (i : Int)) l := by
  intro d
  induction d with
  | zero =>
    intro i hd hi o ho ht
    refine ev_now fun k => ?_
    simp only [laws_toStringS.l0]
    rw [if_neg (by omega)]
    rw [List.take_of_length_le (by omega), List.take_of_length_le (by omega)] at ht
    rw [ht]
  | succ d ih =>
    intro i hd hi o ho ht
    have hlt : i < l.length := by omega
    obtain ⟨K, hK⟩ := ih (i + 1) (by omega) (by omega) (o.set i l[i]) (by simp [ho]) (by
      rw [List.take_succ_eq_append_getElem (by simp; omega), List.take_succ_eq_append_getElem hlt]
      simp [List.take_set_of_le, ht])
    refine ev_succ ⟨K, fun k hk => ?_⟩
    try dsimp only at hK ⊢
    simp only [laws_toStringS.l0]
    rw [if_pos (by omega), if_pos (by omega), if_pos (by omega), rdOf_nat _ _ _ hlt, wrap_succ hlt (by omega), Int.toNat_natCast]
    exact hK k hk
theorem toStringS_ev (l : List ByteArray) (hl : l.length ≤ 17592186044416) : Ev (fun k => laws_toStringS.f k l) l := by
  obtain ⟨K, hK⟩ := toStringS_l0 l hl l.length 0 (by omega) (by omega) (List.replicate l.length ⟨#[]⟩) (by simp) (by simp)
  refine ⟨K, fun k hk => ?_⟩
  try dsimp only at hK ⊢
  have := hK k hk
  simp only [laws_toStringS.f]
  rw [if_pos (by omega), Int.toNat_natCast, if_pos hl]
  exact this
theorem eqStringS_l0 (l m : List ByteArray) (hl : l.length = m.length) (hn : l.length ≤ 9223372036854775807) : ∀ (d i : Nat), l.length - i = d → i ≤ l.length →
    Ev (fun k => laws_eqStringS.l0 k l m (i : Int)) (decide (l.drop i = m.drop i)) := by
  intro d
  induction d with
  | zero =>
    intro i hd hi
    refine ev_now fun k => ?_
    simp only [laws_eqStringS.l0]
    rw [if_neg (by omega), List.drop_eq_nil_of_le (by omega), List.drop_eq_nil_of_le (by omega)]
    simp
  | succ d ih =>
    intro i hd hi
    have hlt : i < l.length := by omega
    have hlt' : i < m.length := by omega
    obtain ⟨K, hK⟩ := ih (i + 1) (by omega) (by omega)
    refine ev_succ ⟨K, fun k hk => ?_⟩
    try dsimp only at hK ⊢
    simp only [laws_eqStringS.l0]
    rw [if_pos (by omega), if_pos (by omega), if_pos (by omega), rdOf_nat _ _ _ hlt, rdOf_nat _ _ _ hlt', wrap_succ hlt (by omega), hK k hk, List.drop_eq_getElem_cons hlt, List.drop_eq_getElem_cons hlt']
    by_cases h : l[i] = m[i]
    · rw [if_pos (str_eq.2 h), h]
      simp only [List.cons.injEq, true_and]
    · rw [if_neg (fun e => h (str_eq.1 e)), decide_eq_false (fun e => h (List.cons.inj e).1)]
theorem eqStringS_ev (l m : List ByteArray) (hn : l.length ≤ 9223372036854775807) : Ev (fun k => laws_eqStringS.f k l m) (decide (l = m)) := by
  by_cases hl : l.length = m.length
  · obtain ⟨K, hK⟩ := eqStringS_l0 l m hl hn l.length 0 (by omega) (by omega)
    refine ⟨K, fun k hk => ?_⟩
    try dsimp only at hK ⊢
    have := hK k hk
    simp only [laws_eqStringS.f]
    rw [if_pos (by omega)]
    simpa using this
  · refine ev_eq fun k => ?_
    simp only [laws_eqStringS.f]
    rw [if_neg (by omega)]
    have : l ≠ m := fun e => hl (by rw [e])
    simp [this]
end Go.Proofs.Ytbgfdhabfgeglaa.Q
