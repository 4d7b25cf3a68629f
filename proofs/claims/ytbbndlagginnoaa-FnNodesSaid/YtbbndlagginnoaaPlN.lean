/- Names, plainly. -/
import Derived.Test.YtbbndlagginnoaaPlA0
import Derived.Test.YtbbndlagginnoaaQ18
import Derived.Test.YtbbndlagginnoaaQ21
import Derived.Test.YtbbndlagginnoaaQ22
import Derived.Lib.IndexLaws
namespace Go.Proofs.Ytbbndlagginnoaa.Q
open Go Go.RowKit Go.Proofs.YtbbndlagginnoaaW.PrintWords Go.Proofs.YtbbndlagginnoaaW.PrintLast
set_option linter.unusedVariables false
/-- Has a text no zero byte from a place on? -/
def noZero : List UInt8 → Bool
  | [] => true
  | b :: l => decide (b ≠ 0) && noZero l
theorem noZero_index : ∀ l : List UInt8, (!decide (0 ≤ Lib.indexByte l 0)) = noZero l
  | [] => by simp [Lib.indexByte, noZero]
  | b :: l => by
    have ih := noZero_index l
    have hge := Lib.indexByte_ge l 0
    unfold Lib.indexByte noZero
    by_cases hb : b = 0
    · subst hb; simp
    · have : (b == 0) = false := beq_eq_false_iff_ne.2 hb
      rw [this]
      simp only [Bool.false_eq_true, if_false, ne_eq, hb, not_false_eq_true, decide_true, Bool.true_and]
      rw [← ih]
      congr 1
      rw [decide_eq_decide]
      by_cases h1 : (Lib.indexByte l 0 == -1) = true
      · rw [if_pos h1]
        have := beq_iff_eq.1 h1
        omega
      · rw [if_neg h1]
        have : Lib.indexByte l 0 ≠ -1 := fun e => h1 (beq_iff_eq.2 e)
        omega
/-- Is a text a name? -/
def nameB (s : ByteArray) : Bool := decide (1 ≤ s.size ∧ s.size ≤ 40) && noZero s.data.toList
theorem l02Name_l0 (s : ByteArray) (hs : s.size ≤ 9223372036854775807) : ∀ (d i : Nat), s.size - i = d → i ≤ s.size →
    Ev (fun k => spec_l02Name.l0 k s (i : Int)) (noZero (s.data.toList.drop i) && decide (1 ≤ s.size ∧ s.size ≤ 40)) := by
  intro d
  induction d with
  | zero =>
    intro i hd hi
    refine ev_now fun k => ?_
    have e1 : s.data.toList.drop i = [] := List.drop_eq_nil_of_le (by simp; omega)
    simp only [spec_l02Name.l0, spec_l01In.f]
    rw [if_neg (by omega), e1]
    simp only [noZero, Bool.true_and]
    by_cases h1 : 1 ≤ s.size
    · rw [if_pos (by omega), Option.bind_some]
      congr 1
      rw [decide_eq_decide]
      omega
    · rw [if_neg (by omega), Option.bind_some, decide_eq_false (by omega)]
  | succ d ih =>
    intro i hd hi
    have hlt : i < s.size := by omega
    have hl1 : i < s.data.toList.length := by simpa using hlt
    by_cases hz : s.data.toList[i] = 0
    · refine ev_now fun k => ?_
      simp only [spec_l02Name.l0]
      rw [if_pos (by omega), if_pos (by omega), bt_nat s i hl1, if_pos (by rw [hz]; rfl), List.drop_eq_getElem_cons hl1]
      simp [noZero, hz]
    · obtain ⟨K, hK⟩ := ih (i + 1) (by omega) (by omega)
      refine ev_succ ⟨K, fun k hk => ?_⟩
      have hK := hK k hk
      try dsimp only at hK ⊢
      have hne : ¬ ((s.data.toList[i].toNat : Int) = 0) := fun e => hz (UInt8.toNat_inj.1 (by simpa using e))
      simp only [spec_l02Name.l0]
      rw [if_pos (by omega), if_pos (by omega), bt_nat s i hl1, if_neg hne, wrap_succ hlt hs, hK, List.drop_eq_getElem_cons hl1]
      simp only [noZero, ne_eq, hz, not_false_eq_true, decide_true, Bool.true_and]
theorem spec_NameOk_ev (s : ByteArray) (hs : s.size ≤ 9223372036854775807) : Ev (fun k => spec_NameOk.f k s) (nameB s) := by
  obtain ⟨K, hK⟩ := l02Name_l0 s hs s.size 0 (by omega) (by omega)
  refine ⟨K, fun k hk => ?_⟩
  have := hK k hk
  try dsimp only at this
  rw [Int.natCast_zero, List.drop_zero] at this
  simp only [spec_NameOk.f, spec_l02Name.f, this, Option.bind_some, nameB, Bool.and_comm]
theorem impl_NameOk_eq (s : ByteArray) : impl_NameOk.f s = some (nameB s) := by
  unfold impl_NameOk.f impl_within.f nameB
  by_cases h1 : 1 ≤ s.size
  · rw [if_pos (by omega)]
    by_cases h2 : s.size ≤ 40
    · rw [decide_eq_true (by omega), decide_eq_true ⟨h1, h2⟩, ← noZero_index]
      simp [strings_Contains.f]
    · rw [decide_eq_false (by omega), decide_eq_false (by omega)]
      rfl
  · rw [if_neg (by omega), decide_eq_false (by omega)]
    rfl
end Go.Proofs.Ytbbndlagginnoaa.Q
