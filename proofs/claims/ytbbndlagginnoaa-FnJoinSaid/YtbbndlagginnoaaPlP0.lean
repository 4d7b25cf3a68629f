/- A text put into a list, plainly: the reference. -/
import Derived.Test.YtbbndlagginnoaaPlB
import Derived.Test.YtbbndlagginnoaaPutB
import Derived.Test.YtbbndlagginnoaaJ1
namespace Go.Proofs.Ytbbndlagginnoaa.J
open Go Go.RowKit Go.Proofs.YtbbndlagginnoaaW.PrintWords Go.Proofs.YtbbndlagginnoaaW.PrintLast
set_option linter.unusedVariables false
theorem spec_Put_done (l : List ByteArray) (s : ByteArray) (hn : l.length ≤ 1048576) : ∀ (d i : Nat), l.length - i = d → i ≤ l.length → ∀ o : List ByteArray, o.length ≤ i + 1 →
    Ev (fun k => spec_Put.l0 k l s o true (i : Int)) (o ++ l.drop i) := by
  intro d
  induction d with
  | zero =>
    intro i hd hi o ho
    refine ev_now fun k => ?_
    simp only [spec_Put.l0]
    rw [if_neg (by omega), if_pos trivial, List.drop_eq_nil_of_le (by omega), List.append_nil]
  | succ d ih =>
    intro i hd hi o ho
    have hlt : i < l.length := by omega
    obtain ⟨K, hK⟩ := ih (i + 1) (by omega) (by omega) (o ++ [l[i]]) (by simp; omega)
    refine ev_succ ⟨K + 1, fun k hk => ?_⟩
    obtain ⟨k, rfl⟩ : ∃ m, k = m + 1 := ⟨k - 1, by omega⟩
    have hK := hK k (by omega)
    try dsimp only at hK ⊢
    simp only [spec_Put.l0, spec_Put.j1]
    rw [if_pos (by omega), if_pos trivial, if_neg (by simp), if_pos (by omega), if_pos (by omega), if_pos (by omega), rdOf_nat _ _ _ hlt, wrap_succ hlt (by omega), hK, List.drop_eq_getElem_cons hlt]
    simp
theorem spec_Put_l0 (l : List ByteArray) (s : ByteArray) (hn : l.length ≤ 1048576) (g : ∀ y ∈ l, y.size ≤ 9223372036854775807) : ∀ (d i : Nat), l.length - i = d → i ≤ l.length →
    Ev (fun k => spec_Put.l0 k l s (l.take i) false (i : Int)) (l.take i ++ putB s (l.drop i)) := by
  intro d
  induction d with
  | zero =>
    intro i hd hi
    refine ev_now fun k => ?_
    simp only [spec_Put.l0]
    rw [if_neg (by omega), if_neg (by simp), List.drop_eq_nil_of_le (by omega), List.take_of_length_le (by omega), if_pos (by omega)]
    rfl
  | succ d ih =>
    intro i hd hi
    have hlt : i < l.length := by omega
    have htl : (l.take i).length = i := by simp; omega
    obtain ⟨K0, hK0⟩ := spec_Before_ev l[i] s (g _ (List.getElem_mem hlt))
    obtain ⟨K, hK⟩ := ih (i + 1) (by omega) (by omega)
    obtain ⟨K1, hK1⟩ := spec_Put_done l s hn (l.length - (i + 1)) (i + 1) rfl (by omega) (l.take i ++ [s]) (by simp; omega)
    obtain ⟨K2, hK2⟩ := spec_Put_done l s hn (l.length - (i + 1)) (i + 1) rfl (by omega) (l.take i ++ [s] ++ [l[i]]) (by simp; omega)
    refine ev_succ ⟨K0 + K + K1 + K2 + 1, fun k hk => ?_⟩
    obtain ⟨k, rfl⟩ : ∃ m, k = m + 1 := ⟨k - 1, by omega⟩
    have hK := hK k (by omega)
    have hK0 := hK0 (k + 1) (by omega)
    have hK1 := hK1 k (by omega)
    have hK2 := hK2 k (by omega)
    try dsimp only at hK hK0 hK1 hK2 ⊢
    have e1 : l.take (i + 1) = l.take i ++ [l[i]] := List.take_succ_eq_append_getElem hlt
    have eb : atBehind s l[i] = !Op.bytesLess l[i].data.toList s.data.toList := by unfold atBehind; rw [Lib.toList_data, Lib.toList_data]
    rw [e1] at hK
    simp only [spec_Put.l0, spec_Put.j1]
    rw [if_pos (by omega), if_neg (by simp), if_pos (by omega), rdOf_nat _ _ _ hlt, hK0, Option.bind_some, wrap_succ hlt (by omega), List.drop_eq_getElem_cons hlt]
    simp only [Option.bind_some]
    rw [← eb]
    have p0 : (0 : Int) ≤ (i : Int) := by omega
    have p1 : (i : Int) < (l.length : Int) := by omega
    by_cases hb : atBehind s l[i] = true
    · rw [if_pos hb, if_pos (by omega), if_pos p0, if_pos p1, putB, if_pos hb]
      by_cases he : l[i].toList = s.toList
      · rw [if_pos he, if_pos he, hK1, str_eq.1 he]
        simp
      · rw [if_neg he, if_neg he, if_pos (by simp; omega), hK2]
        simp
    · rw [if_neg hb, if_pos p0, if_pos p1, if_pos (by omega), hK, putB, if_neg hb, List.append_assoc]
      rfl
theorem spec_Put_ev (l : List ByteArray) (s : ByteArray) (hn : l.length ≤ 1048576) (g : ∀ y ∈ l, y.size ≤ 9223372036854775807) : Ev (fun k => spec_Put.f k l s) (putB s l) := by
  obtain ⟨K, hK⟩ := spec_Put_l0 l s hn g l.length 0 (by omega) (by omega)
  refine ⟨K, fun k hk => ?_⟩
  have hK := hK k hk
  simpa [spec_Put.f] using hK
end Go.Proofs.Ytbbndlagginnoaa.J
