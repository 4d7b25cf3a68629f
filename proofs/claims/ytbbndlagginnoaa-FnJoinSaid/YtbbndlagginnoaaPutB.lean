/- A text put into a list; rising lists: no program. -/
import Derived.Test.YtbbndlagginnoaaPlA0
import Derived.Sort.Walk0
namespace Go.Proofs.Ytbbndlagginnoaa.J
open Go Go.RowKit Go.Proofs.YtbbndlagginnoaaW.PrintWords Go.Proofs.YtbbndlagginnoaaW.PrintLast
set_option linter.unusedVariables false
/-- Whether a text stands at or behind s. -/
def atBehind (s x : ByteArray) : Bool := !Op.bytesLess x.toList s.toList
/-- The list with the text put in its place. -/
def putB (s : ByteArray) : List ByteArray → List ByteArray
  | [] => [s]
  | x :: l => if atBehind s x then (if x.toList = s.toList then x :: l else s :: x :: l) else x :: putB s l
theorem putB_miss (s : ByteArray) : ∀ l : List ByteArray, (∀ j, j < l.length → atBehind s l[j]! = false) → putB s l = l ++ [s]
  | [], _ => rfl
  | x :: l, h => by
    have h0 := h 0 (by simp)
    simp at h0
    rw [putB, if_neg (by simp [h0]), putB_miss s l (fun j hj => by simpa using h (j + 1) (by simpa using hj))]
    rfl
theorem putB_hit (s : ByteArray) : ∀ (l : List ByteArray) (k : Nat), k < l.length → atBehind s l[k]! = true → (∀ j, j < k → atBehind s l[j]! = false) →
    putB s l = if l[k]!.toList = s.toList then l else l.take k ++ s :: l.drop k
  | [], k, hk, _, _ => absurd hk (Nat.not_lt_zero _)
  | x :: l, 0, _, h, _ => by
    have h : atBehind s x = true := by simpa using h
    rw [putB, if_pos h]
    simp
  | x :: l, k + 1, hk, h, hn => by
    have h0 := hn 0 (by omega)
    simp at h0
    rw [putB, if_neg (by simp [h0]), putB_hit s l k (by simpa using hk) (by simpa using h) (fun j hj => by simpa using hn (j + 1) (by omega))]
    simp only [List.getElem!_cons_succ, List.take_succ_cons, List.drop_succ_cons]
    split <;> simp
theorem putB_length (s : ByteArray) : ∀ l : List ByteArray, (putB s l).length ≤ l.length + 1
  | [] => by simp [putB]
  | x :: l => by
    have := putB_length s l
    unfold putB
    split
    · split <;> simp
    · simp; omega
theorem putB_mem (s : ByteArray) : ∀ l : List ByteArray, ∀ y ∈ putB s l, y = s ∨ y ∈ l
  | [], y, h => by simp [putB] at h; exact .inl h
  | x :: l, y, h => by
    unfold putB at h
    split at h
    · split at h
      · exact .inr h
      · rcases List.mem_cons.1 h with h | h
        · exact .inl h
        · exact .inr h
    · rcases List.mem_cons.1 h with rfl | h
      · exact .inr (by simp)
      · rcases putB_mem s l y h with h | h
        · exact .inl h
        · exact .inr (by simp [h])
/-- Each text of a list lies ahead of the next one. -/
def risingB : List ByteArray → Bool
  | a :: b :: l => Op.bytesLess a.data.toList b.data.toList && risingB (b :: l)
  | _ => true
theorem bl_irrefl : ∀ x : List UInt8, Op.bytesLess x x = false
  | [] => rfl
  | a :: x => by simp [Op.bytesLess, bl_irrefl x]
theorem bl_trans : ∀ x y z : List UInt8, Op.bytesLess x y = true → Op.bytesLess y z = true → Op.bytesLess x z = true
  | _, [], _, h, _ => by simp [Op.bytesLess] at h
  | _, _ :: _, [], _, h => by simp [Op.bytesLess] at h
  | [], _ :: _, _ :: _, _, _ => rfl
  | a :: x, b :: y, c :: z, h, h' => by
    simp only [Op.bytesLess, Bool.or_eq_true, decide_eq_true_eq, Bool.and_eq_true, beq_iff_eq, UInt8.lt_iff_toNat_lt] at h h' ⊢
    rcases h with h | ⟨rfl, h⟩
    · rcases h' with h' | ⟨rfl, h'⟩
      · exact .inl (by omega)
      · exact .inl h
    · rcases h' with h' | ⟨rfl, h'⟩
      · exact .inl h'
      · exact .inr ⟨rfl, bl_trans x y z h h'⟩
theorem bl_total : ∀ x y : List UInt8, Op.bytesLess x y = false → x = y ∨ Op.bytesLess y x = true
  | [], [], _ => .inl rfl
  | _ :: _, [], _ => .inr rfl
  | [], _ :: _, h => by simp [Op.bytesLess] at h
  | a :: x, b :: y, h => by
    simp only [Op.bytesLess, Bool.or_eq_false_iff, decide_eq_false_iff_not, Bool.and_eq_false_iff, beq_eq_false_iff_ne, UInt8.lt_iff_toNat_lt] at h
    obtain ⟨h1, h2⟩ := h
    by_cases e : a = b
    · subst e
      rcases h2 with h2 | h2
      · exact absurd rfl h2
      · rcases bl_total x y h2 with rfl | h3
        · exact .inl rfl
        · exact .inr (by simp [Op.bytesLess, h3])
    · refine .inr ?_
      have : a.toNat ≠ b.toNat := fun h => e (UInt8.toNat_inj.1 h)
      simp only [Op.bytesLess, Bool.or_eq_true, decide_eq_true_eq, UInt8.lt_iff_toNat_lt]
      exact .inl (by omega)
theorem rising_cons (a : ByteArray) : ∀ l : List ByteArray, risingB (a :: l) = true ↔ (∀ b ∈ l, Op.bytesLess a.data.toList b.data.toList = true) ∧ risingB l = true
  | [] => by simp [risingB]
  | b :: l => by
    have ih := rising_cons b l
    simp only [risingB, Bool.and_eq_true]
    constructor
    · rintro ⟨h1, h2⟩
      refine ⟨fun c hc => ?_, h2⟩
      rcases List.mem_cons.1 hc with rfl | hc
      · exact h1
      · exact bl_trans _ _ _ h1 ((ih.1 h2).1 c hc)
    · rintro ⟨h1, h2⟩
      exact ⟨h1 b (by simp), h2⟩
theorem behind_dec (s x : ByteArray) : atBehind s x = !Op.bytesLess x.data.toList s.data.toList := by unfold atBehind; rw [Lib.toList_data, Lib.toList_data]
theorem rising_put (s : ByteArray) : ∀ l : List ByteArray, risingB l = true → risingB (putB s l) = true
  | [], _ => rfl
  | a :: l, h => by
    have h' := (rising_cons a l).1 h
    have ih := rising_put s l h'.2
    unfold putB
    by_cases hb : atBehind s a = true
    · rw [if_pos hb]
      by_cases he : a.toList = s.toList
      · rw [if_pos he]; exact h
      · rw [if_neg he]
        rw [behind_dec] at hb
        have hb : Op.bytesLess a.data.toList s.data.toList = false := by simpa using hb
        have hs : Op.bytesLess s.data.toList a.data.toList = true := by
          rcases bl_total _ _ hb with e | e
          · exact absurd (by rw [Lib.toList_data, Lib.toList_data]; exact e) he
          · exact e
        refine (rising_cons s _).2 ⟨fun b hbm => ?_, h⟩
        rcases List.mem_cons.1 hbm with rfl | hbm
        · exact hs
        · exact bl_trans _ _ _ hs (h'.1 b hbm)
    · rw [if_neg hb]
      rw [behind_dec] at hb
      have hb : Op.bytesLess a.data.toList s.data.toList = true := by simpa using hb
      refine (rising_cons a _).2 ⟨fun b hbm => ?_, ih⟩
      rcases putB_mem s l b hbm with rfl | hbm
      · exact hb
      · exact h'.1 b hbm
theorem behind_self (s : ByteArray) : atBehind s s = true := by unfold atBehind; rw [bl_irrefl]; rfl
theorem put_put (s : ByteArray) : ∀ l : List ByteArray, putB s (putB s l) = putB s l
  | [] => by simp [putB, behind_self]
  | a :: l => by
    by_cases hb : atBehind s a = true
    · by_cases he : a.toList = s.toList
      · simp [putB, hb, he]
      · simp [putB, hb, he, behind_self]
    · simp [putB, hb, put_put s l]
end Go.Proofs.Ytbbndlagginnoaa.J
