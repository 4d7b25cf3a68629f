/- The order of texts: what the reference's loop comes to. -/
import Derived.Test.YtbbndlagginnoaaPlA0
import Derived.Test.YtbbndlagginnoaaJ1
namespace Go.Proofs.Ytbbndlagginnoaa.J
open Go Go.RowKit Go.Proofs.YtbbndlagginnoaaW.PrintWords Go.Proofs.YtbbndlagginnoaaW.PrintLast
theorem spec_Before_l0 (s t : ByteArray) (hs : s.size ≤ 9223372036854775807) : ∀ (d i : Nat), s.size - i = d → i ≤ s.size → i ≤ t.size →
    Ev (fun k => spec_Before.l0 k s t (i : Int)) (Op.bytesLess (s.data.toList.drop i) (t.data.toList.drop i)) := by
  intro d
  induction d with
  | zero =>
    intro i hd hi hj
    refine ev_succ ⟨1, fun k hk => ?_⟩
    obtain ⟨k, rfl⟩ : ∃ m, k = m + 1 := ⟨k - 1, by omega⟩
    have hz : i = s.size := by omega
    subst hz
    have e1 : s.data.toList.drop s.size = [] := List.drop_eq_nil_of_le (by simp)
    simp only [spec_Before.l0, spec_Before.j1]
    rw [if_neg (by omega), if_neg (by simp), e1]
    rcases Nat.lt_or_ge s.size t.size with h | h
    · rw [List.drop_eq_getElem_cons (by simpa using h)]
      simp [Op.bytesLess, h]
    · have e2 : t.data.toList.drop s.size = [] := List.drop_eq_nil_of_le (by simpa using h)
      rw [e2]
      simp [Op.bytesLess]
      omega
  | succ d ih =>
    intro i hd hi hj
    have hlt : i < s.size := by omega
    have hl1 : i < s.data.toList.length := by simpa using hlt
    rcases Nat.lt_or_ge i t.size with h | h
    · have hl2 : i < t.data.toList.length := by simpa using h
      obtain ⟨K, hK⟩ := ih (i + 1) (by omega) (by omega) (by omega)
      refine ev_succ ⟨K + 1, fun k hk => ?_⟩
      try dsimp only at hK ⊢
      obtain ⟨k, rfl⟩ : ∃ m, k = m + 1 := ⟨k - 1, by omega⟩
      simp only [spec_Before.l0, spec_Before.j1]
      rw [if_pos (by omega), if_pos (by simp [h]), if_pos (by omega), if_pos (by omega), if_pos (by omega), List.drop_eq_getElem_cons hl1, List.drop_eq_getElem_cons hl2, bt_nat s i hl1, bt_nat t i hl2, wrap_succ hlt hs, hK k (by omega)]
      by_cases he : s.data.toList[i] = t.data.toList[i]
      · rw [if_pos (by rw [he]), he]
        simp only [Op.bytesLess, beq_self_eq_true, Bool.true_and]
        simp [UInt8.lt_irrefl]
      · have hne : ¬ ((s.data.toList[i].toNat : Int) = (t.data.toList[i].toNat : Int)) := fun h2 => he (UInt8.toNat_inj.1 (by omega))
        rw [if_neg hne]
        have hb : (s.data.toList[i] == t.data.toList[i]) = false := beq_eq_false_iff_ne.2 he
        simp only [Op.bytesLess, hb, Bool.false_and, Bool.or_false]
        congr 1
        rw [decide_eq_decide, UInt8.lt_iff_toNat_lt]
        omega
    · refine ev_succ ⟨1, fun k hk => ?_⟩
      obtain ⟨k, rfl⟩ : ∃ m, k = m + 1 := ⟨k - 1, by omega⟩
      have e2 : t.data.toList.drop i = [] := List.drop_eq_nil_of_le (by simpa using h)
      simp only [spec_Before.l0, spec_Before.j1]
      rw [if_pos (by omega), if_neg (by simp; omega), e2, List.drop_eq_getElem_cons hl1]
      simp [Op.bytesLess]
      omega
theorem spec_Before_ev (s t : ByteArray) (hs : s.size ≤ 9223372036854775807) : Ev (fun k => spec_Before.f k s t) (Op.bytesLess s.data.toList t.data.toList) := by
  obtain ⟨K, hK⟩ := spec_Before_l0 s t hs s.size 0 (by omega) (by omega) (by omega)
  exact ⟨K, fun k hk => by have := hK k hk; simpa [spec_Before.f] using this⟩
end Go.Proofs.Ytbbndlagginnoaa.J
