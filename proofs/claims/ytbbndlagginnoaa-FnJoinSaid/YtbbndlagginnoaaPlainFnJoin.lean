/- The law FnJoin answers true at every code, with no condition. -/
import Derived.Test.YtbbndlagginnoaaStFnJoin
import Derived.Test.YtbbndlagginnoaaPlL0
import Derived.Test.YtbbndlagginnoaaPlJ
import Derived.Test.YtbbndlagginnoaaJ1
namespace Go.Proofs.Ytbbndlagginnoaa.J
open Go Go.RowKit Go.Proofs.YtbbndlagginnoaaW.PrintWords Go.Proofs.YtbbndlagginnoaaW.PrintLast
set_option linter.unusedVariables false
theorem strW_le : ∀ l : List ByteArray, (∀ y ∈ l, y.size ≤ 16) → strW l ≤ 16 * (l.length : Int)
  | [], _ => by simp [strW]
  | x :: l, h => by
    have h1 := h x (by simp)
    have h2 := strW_le l (fun y hy => h y (by simp [hy]))
    simp only [strW, List.length_cons]
    omega
theorem cat_small (l : List ByteArray) (s : ByteArray) (hl : l.length ≤ 4) (h : ∀ y ∈ l, y.size ≤ 16) (hs : s.size ≤ 16) : (cat l s).length ≤ 128 := by
  have h1 := cat_len s l.length l rfl
  have h2 := strW_le l h
  have h3 : (l.length : Int) * (s.size : Int) ≤ 4 * 16 := Int.mul_le_mul (by omega) (by omega) (by omega) (by omega)
  omega
theorem cat_head (x : ByteArray) (r : List ByteArray) (s : ByteArray) : cat (x :: r) s = x.data.toList ++ cat ((⟨#[]⟩ : ByteArray) :: r) s := by
  simp [cat, Lib.join_cons]
theorem join_end (x : ByteArray) (r : List ByteArray) (s : ByteArray) : (⟨(cat (x :: r) s).toArray⟩ : ByteArray) = x ++ ⟨(cat ((⟨#[]⟩ : ByteArray) :: r) s).toArray⟩ := by
  apply ByteArray.ext
  rw [ByteArray.data_append, cat_head]
  simp
theorem join_l0 (o : List ByteArray) (s : ByteArray) (ho : o.length ≤ 4) (hos : ∀ y ∈ o, y.size ≤ 16) (hs : s.size ≤ 16) : ∀ (d i : Nat), o.length - i = d → i ≤ o.length →
    Ev (fun k => laws_FnJoin.l0 k o s ⟨(cat o s).toArray⟩ ((cat (o.take i) s).length : Int) (i : Int)) true := by
  intro d
  induction d with
  | zero =>
    intro i hd hi
    have hw := strW_le o hos
    obtain ⟨K, hK⟩ := spec_Join_ev o s (by omega) (by omega)
    refine ev_succ ⟨K, fun k hk => ?_⟩
    have hK := hK k hk
    try dsimp only at hK ⊢
    simp only [laws_FnJoin.l0]
    rw [if_neg (by omega), hK, Option.bind_some, if_pos rfl, List.take_of_length_le (by omega), if_pos (by simp [ByteArray.size])]
    cases o with
    | nil => rfl
    | cons x r =>
      have hr : ∀ y ∈ (⟨#[]⟩ : ByteArray) :: r, y.size ≤ 16 := by
        intro y hy
        rcases List.mem_cons.1 hy with rfl | hy
        · decide
        · exact hos y (by simp [hy])
      have hrl : ((⟨#[]⟩ : ByteArray) :: r).length ≤ 4 := by simpa using ho
      have hrw := strW_le _ hr
      have hx := hos x (by simp)
      have e1 := impl_Join_eq ((⟨#[]⟩ : ByteArray) :: r) s (by omega) (by omega)
      have hc := cat_small _ s hrl hr hs
      have hr0 : r.length ≤ 3 := by simpa using ho
      rw [if_neg (by simp only [List.length_cons]; omega), if_pos (by simp only [List.length_cons]; omega), Option.bind_some, if_pos (by simp only [List.length_cons]; omega), Option.bind_some, List.drop_one, List.tail_cons, if_pos (by simp only [List.length_cons, List.length_nil]; omega), List.singleton_append, e1, Option.bind_some]
      have e2 : rdOf ByteArray.empty (x :: r) 0 = x := rfl
      have e3 : (⟨(cat ((⟨#[]⟩ : ByteArray) :: r) s).toArray⟩ : ByteArray).size = (cat ((⟨#[]⟩ : ByteArray) :: r) s).length := List.size_toArray
      rw [e2, if_pos (by rw [e3]; omega), join_end, beq_self_eq_true]
  | succ d ih =>
    intro i hd hi
    have hlt : i < o.length := by omega
    obtain ⟨K, hK⟩ := ih (i + 1) (by omega) (by omega)
    have hx := hos o[i] (List.getElem_mem hlt)
    have hc := cat_small (o.take i) s (by simp; omega) (fun y hy => hos y (List.mem_of_mem_take hy)) hs
    have e1 : cat (o.take (i + 1)) s = if o.take i = [] then o[i].data.toList else cat (o.take i) s ++ s.data.toList ++ o[i].data.toList := by
      rw [List.take_succ_eq_append_getElem hlt, cat_snoc]
    have hxs : o[i].data.toList.length = o[i].size := by simp
    have hss : s.data.toList.length = s.size := by simp
    refine ev_succ ⟨K, fun k hk => ?_⟩
    have hK := hK k hk
    try dsimp only at hK ⊢
    simp only [laws_FnJoin.l0]
    rw [if_pos (by omega), if_pos (by omega), rdOf_nat _ _ _ hlt, wrap_succ hlt (by omega)]
    by_cases hz : i = 0
    · subst hz
      rw [e1, if_pos (by simp), hxs] at hK
      rw [if_neg (by omega), wrap_id (by omega) (by omega)]
      simpa [cat, Lib.join_nil] using hK
    · have hne : o.take i ≠ [] := by
        intro e
        have h := congrArg List.length e
        rw [List.length_take, List.length_nil] at h
        omega
      rw [e1, if_neg hne, List.length_append, List.length_append, hxs, hss] at hK
      rw [if_pos (by omega), wrap_id (x := ((cat (o.take i) s).length : Int) + (o[i].size : Int)) (by omega) (by omega), wrap_id (by omega) (by omega)]
      rw [show (((cat (o.take i) s).length + s.size + o[i].size : Nat) : Int) = ((cat (o.take i) s).length : Int) + (o[i].size : Int) + (s.size : Int) by omega] at hK
      exact hK
theorem FnJoin_plain : laws_FnJoin.Plain := by
  intro l _ _
  by_cases hb : (l.length : Int) > 1048576
  · exact ⟨0, by simp [laws_FnJoin.f, big_eq, hb]⟩
  have hl : l.length ≤ 1048576 := by omega
  obtain ⟨h0, K0, hK0⟩ := new_ev l
  obtain ⟨o, i1, h1, ⟨K1, hK1⟩, ho, hos, hi1⟩ := list_some l hl 0 h0 (by omega)
  obtain ⟨s, i2, h2, e2, hm, _⟩ := pick_some l hl i1 h1 [⟨#[]⟩, ⟨#[44, 32]⟩, ⟨#[59]⟩] (by simp) hi1
  have hs : s.size ≤ 16 := by
    simp only [List.mem_cons, List.not_mem_nil, or_false] at hm
    rcases hm with rfl | rfl | rfl <;> decide
  have hw := strW_le o hos
  obtain ⟨K2, hK2⟩ := join_l0 o s ho hos hs o.length 0 (by omega) (by omega)
  refine ⟨K0 + K1 + K2, ?_⟩
  have a0 := hK0 (K0 + K1 + K2) (by omega)
  have a1 := hK1 (K0 + K1 + K2) (by omega)
  have a2 := hK2 (K0 + K1 + K2) (by omega)
  try dsimp only at a0 a1 a2
  have a3 := impl_Join_eq o s (by omega) (by omega)
  simp only [laws_FnJoin.f, big_eq, decide_eq_false hb, Option.bind_some, Bool.false_eq_true, if_false, spec_DrawJoin.f, a0, a1, e2, a3]
  simpa [cat, Lib.join_nil] using a2
end Go.Proofs.Ytbbndlagginnoaa.J
