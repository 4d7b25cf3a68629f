/- Has and Rising, plainly. -/
import Derived.Test.YtbbndlagginnoaaPlB
import Derived.Test.YtbbndlagginnoaaQ11
import Derived.Test.YtbbndlagginnoaaQ6
import Derived.Test.YtbbndlagginnoaaQ7
namespace Go.Proofs.Ytbbndlagginnoaa.Q
open Go Go.RowKit Go.Proofs.YtbbndlagginnoaaW.PrintWords Go.Proofs.YtbbndlagginnoaaW.PrintLast
/-- Is a text in a list? -/
def hasB (s : ByteArray) : List ByteArray → Bool
  | [] => false
  | x :: l => decide (s = x) || hasB s l
theorem hasB_iff (s : ByteArray) : ∀ l, hasB s l = true ↔ s ∈ l
  | [] => by simp [hasB]
  | x :: l => by simp [hasB, hasB_iff s l]
theorem spec_Has_l0 (l : List ByteArray) (s : ByteArray) (hn : l.length ≤ 9223372036854775807) : ∀ (d i : Nat), l.length - i = d → i ≤ l.length →
    Ev (fun k => spec_Has.l0 k l s (i : Int)) (hasB s (l.drop i)) := by
  intro d
  induction d with
  | zero =>
    intro i hd hi
    refine ev_now fun k => ?_
    simp only [spec_Has.l0]
    rw [if_neg (by omega), List.drop_eq_nil_of_le (by omega)]
    rfl
  | succ d ih =>
    intro i hd hi
    have hlt : i < l.length := by omega
    by_cases he : l[i] = s
    · refine ev_now fun k => ?_
      simp only [spec_Has.l0]
      rw [if_pos (by omega), if_pos (by omega), rdOf_nat _ _ _ hlt, if_pos (str_eq.2 he), List.drop_eq_getElem_cons hlt]
      simp only [hasB, decide_eq_true he.symm, Bool.true_or]
    · obtain ⟨K, hK⟩ := ih (i + 1) (by omega) (by omega)
      refine ev_succ ⟨K, fun k hk => ?_⟩
      try dsimp only at hK ⊢
      simp only [spec_Has.l0]
      rw [if_pos (by omega), if_pos (by omega), rdOf_nat _ _ _ hlt, if_neg (fun e => he (str_eq.1 e)), wrap_succ hlt hn, hK k hk, List.drop_eq_getElem_cons hlt]
      simp only [hasB, decide_eq_false (fun e : s = l[i] => he e.symm), Bool.false_or]
theorem spec_Has_ev (l : List ByteArray) (s : ByteArray) (hn : l.length ≤ 9223372036854775807) : Ev (fun k => spec_Has.f k l s) (hasB s l) := spec_Has_l0 l s hn l.length 0 (by omega) (by omega)
/-- The first place of a text, counted from a place on; -1 where there is none. -/
def placeFrom (s : ByteArray) : List ByteArray → Nat → Int
  | [], _ => -1
  | x :: l, i => if s = x then (i : Int) else placeFrom s l (i + 1)
theorem placeFrom_mem (s : ByteArray) : ∀ (l : List ByteArray) (i : Nat), decide (placeFrom s l i ≥ 0) = hasB s l
  | [], i => by simp [placeFrom, hasB]
  | x :: l, i => by
    unfold placeFrom
    by_cases h : s = x
    · rw [if_pos h, decide_eq_true (by omega)]
      simp only [hasB, decide_eq_true h, Bool.true_or]
    · rw [if_neg h, placeFrom_mem s l (i + 1)]
      simp only [hasB, decide_eq_false h, Bool.false_or]
theorem slices_Index_l0 (l : List ByteArray) (s : ByteArray) (hn : l.length ≤ 9223372036854775807) : ∀ (d i : Nat), l.length - i = d → i ≤ l.length →
    Ev (fun k => slices_Index_string_string.l0 k l s (l.length : Int) (i : Int)) (placeFrom s (l.drop i) i) := by
  intro d
  induction d with
  | zero =>
    intro i hd hi
    refine ev_now fun k => ?_
    simp only [slices_Index_string_string.l0]
    rw [if_neg (by omega), List.drop_eq_nil_of_le (by omega)]
    rfl
  | succ d ih =>
    intro i hd hi
    have hlt : i < l.length := by omega
    by_cases he : s = l[i]
    · refine ev_now fun k => ?_
      simp only [slices_Index_string_string.l0]
      rw [if_pos (by omega), if_pos (by omega), if_pos (by omega), rdOf_nat _ _ _ hlt, if_pos (str_eq.2 he), List.drop_eq_getElem_cons hlt]
      simp only [placeFrom]
      rw [if_pos he]
    · obtain ⟨K, hK⟩ := ih (i + 1) (by omega) (by omega)
      refine ev_succ ⟨K, fun k hk => ?_⟩
      try dsimp only at hK ⊢
      simp only [slices_Index_string_string.l0]
      rw [if_pos (by omega), if_pos (by omega), if_pos (by omega), rdOf_nat _ _ _ hlt, if_neg (fun e => he (str_eq.1 e)), wrap_succ hlt hn, hK k hk, List.drop_eq_getElem_cons hlt]
      simp only [placeFrom]
      rw [if_neg he]
theorem impl_Has_ev (l : List ByteArray) (s : ByteArray) (hn : l.length ≤ 9223372036854775807) : Ev (fun k => impl_Has.f k l s) (hasB s l) := by
  obtain ⟨K, hK⟩ := slices_Index_l0 l s hn l.length 0 (by omega) (by omega)
  refine ⟨K, fun k hk => ?_⟩
  have h := hK k hk
  try dsimp only at h
  rw [Int.natCast_zero, List.drop_zero] at h
  simp only [impl_Has.f, slices_Contains_string_string.f, slices_Index_string_string.f, h, Option.bind_some, placeFrom_mem]
/-- Each text of a list lies ahead of the next one. -/
def risingB : List ByteArray → Bool
  | a :: b :: l => Op.bytesLess a.data.toList b.data.toList && risingB (b :: l)
  | _ => true
theorem spec_Rising_l0 (l : List ByteArray) (hn : l.length ≤ 9223372036854775807) (g : ∀ y ∈ l, y.size ≤ maxLen) : ∀ (d i : Nat), l.length - (i + 1) = d → i + 1 ≤ l.length →
    Ev (fun k => spec_Rising.l0 k l ((i + 1 : Nat) : Int)) (risingB (l.drop i)) := by
  intro d
  induction d with
  | zero =>
    intro i hd hi
    refine ev_now fun k => ?_
    simp only [spec_Rising.l0]
    rw [if_neg (by omega), List.drop_eq_getElem_cons (by omega), List.drop_eq_nil_of_le (by omega)]
    rfl
  | succ d ih =>
    intro i hd hi
    have h1 : i < l.length := by omega
    have h2 : i + 1 < l.length := by omega
    have hg := g l[i] (List.getElem_mem h1)
    obtain ⟨K1, hK1⟩ := spec_Before_ev l[i] l[i + 1] (by unfold maxLen at hg; omega)
    obtain ⟨K, hK⟩ := ih (i + 1) (by omega) (by omega)
    refine ev_succ ⟨max K K1, fun k hk => ?_⟩
    have hK := hK k (by omega)
    have hK1 := hK1 k (by omega)
    try dsimp only at hK hK1 ⊢
    have ew : wrap64 (((i + 1 : Nat) : Int) - 1) = (i : Int) := by rw [wrap_id] <;> omega
    simp only [spec_Rising.l0, ew]
    rw [if_pos (by omega), if_pos (by omega), if_pos (by omega), if_pos (by omega), rdOf_nat _ _ _ h1, rdOf_nat _ _ _ h2, hK1, Option.bind_some, wrap_succ h2 hn, hK, List.drop_eq_getElem_cons h1, List.drop_eq_getElem_cons h2]
    simp only [risingB]
    cases Op.bytesLess l[i].data.toList l[i + 1].data.toList <;> simp
theorem spec_Rising_ev (l : List ByteArray) (hn : l.length ≤ 9223372036854775807) (g : ∀ y ∈ l, y.size ≤ maxLen) : Ev (fun k => spec_Rising.f k l) (risingB l) := by
  cases l with
  | nil => exact ev_now fun k => by simp [spec_Rising.f, spec_Rising.l0, risingB]
  | cons a l => exact spec_Rising_l0 (a :: l) hn g ((a :: l).length - 1) 0 rfl (by simp)
theorem impl_Rising_l0 (l : List ByteArray) (hn : l.length ≤ 9223372036854775807) : ∀ (d i : Nat), l.length - (i + 1) = d → i + 1 ≤ l.length →
    Ev (fun k => impl_Rising.l0 k l ((i + 1 : Nat) : Int)) (risingB (l.drop i)) := by
  intro d
  induction d with
  | zero =>
    intro i hd hi
    refine ev_now fun k => ?_
    simp only [impl_Rising.l0]
    rw [if_neg (by omega), List.drop_eq_getElem_cons (by omega), List.drop_eq_nil_of_le (by omega)]
    rfl
  | succ d ih =>
    intro i hd hi
    have h1 : i < l.length := by omega
    have h2 : i + 1 < l.length := by omega
    obtain ⟨K, hK⟩ := ih (i + 1) (by omega) (by omega)
    refine ev_succ ⟨K, fun k hk => ?_⟩
    have hK := hK k (by omega)
    try dsimp only at hK ⊢
    have ew : wrap64 (((i + 1 : Nat) : Int) - 1) = (i : Int) := by rw [wrap_id] <;> omega
    simp only [impl_Rising.l0, ew]
    rw [if_pos (by omega), if_pos (by omega), if_pos (by omega), if_pos (by omega), rdOf_nat _ _ _ h1, rdOf_nat _ _ _ h2, wrap_succ h2 hn, hK, List.drop_eq_getElem_cons h1, List.drop_eq_getElem_cons h2]
    simp only [risingB, Lib.toList_data]
    cases Op.bytesLess l[i].data.toList l[i + 1].data.toList <;> simp
theorem impl_Rising_ev (l : List ByteArray) (hn : l.length ≤ 9223372036854775807) : Ev (fun k => impl_Rising.f k l) (risingB l) := by
  cases l with
  | nil => exact ev_now fun k => by simp [impl_Rising.f, impl_Rising.l0, risingB]
  | cons a l => exact impl_Rising_l0 (a :: l) hn ((a :: l).length - 1) 0 rfl (by simp)
end Go.Proofs.Ytbbndlagginnoaa.Q
