/- A list without one text, plainly. -/
import Derived.Test.YtbbndlagginnoaaPlA
import Derived.Test.YtbbndlagginnoaaFWithout
import Derived.Test.YtbbndlagginnoaaQ5
namespace Go.Proofs.Ytbbndlagginnoaa.Q
open Go Go.RowKit Go.Proofs.YtbbndlagginnoaaW.PrintWords Go.Proofs.YtbbndlagginnoaaW.PrintLast
set_option linter.unusedVariables false
/-- The list without the text. -/
def withoutB (l : List ByteArray) (s : ByteArray) : List ByteArray := l.filter fun x => !(x.toList == s.toList)
theorem withoutB_length (l : List ByteArray) (s : ByteArray) : (withoutB l s).length ≤ l.length := List.length_filter_le _ _
theorem impl_Without_eq (l : List ByteArray) (s : ByteArray) (hn : l.length ≤ 1048576) : impl_Without.f l s = some (withoutB l s) := by
  unfold impl_Without.f
  rw [if_pos (by omega)]
  rfl
theorem spec_Without_l0 (l : List ByteArray) (s : ByteArray) (hn : l.length ≤ 1048576) : ∀ (d i : Nat), l.length - i = d → i ≤ l.length →
    Ev (fun k => spec_Without.l0 k l s (withoutB (l.take i) s) (i : Int)) (withoutB l s) := by
  intro d
  induction d with
  | zero =>
    intro i hd hi
    refine ev_now fun k => ?_
    simp only [spec_Without.l0]
    rw [if_neg (by omega), List.take_of_length_le (by omega)]
  | succ d ih =>
    intro i hd hi
    have hlt : i < l.length := by omega
    obtain ⟨K, hK⟩ := ih (i + 1) (by omega) (by omega)
    refine ev_succ ⟨K, fun k hk => ?_⟩
    have hK := hK k hk
    have hw := withoutB_length (l.take i) s
    rw [List.length_take] at hw
    have e1 : withoutB (l.take (i + 1)) s = withoutB (l.take i) s ++ (if l[i].toList = s.toList then [] else [l[i]]) := by
      unfold withoutB
      rw [List.take_succ_eq_append_getElem hlt, List.filter_append]
      congr 1
      by_cases h : l[i].toList = s.toList <;> simp [h]
    rw [e1] at hK
    try dsimp only at hK ⊢
    simp only [spec_Without.l0]
    rw [if_pos (by omega), if_pos (by omega), rdOf_nat _ _ _ hlt, wrap_succ hlt (by omega)]
    by_cases h : l[i].toList = s.toList
    · rw [if_pos h] at hK ⊢
      simpa using hK
    · rw [if_neg h] at hK ⊢
      rw [if_pos (by omega)]
      exact hK
theorem spec_Without_ev (l : List ByteArray) (s : ByteArray) (hn : l.length ≤ 1048576) : Ev (fun k => spec_Without.f k l s) (withoutB l s) := by
  obtain ⟨K, hK⟩ := spec_Without_l0 l s hn l.length 0 (by omega) (by omega)
  refine ⟨K, fun k hk => ?_⟩
  have hK := hK k hk
  simpa [spec_Without.f, withoutB] using hK
end Go.Proofs.Ytbbndlagginnoaa.Q
