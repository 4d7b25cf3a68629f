/- Has, plainly: the reference. -/
import Derived.Test.YtbgfdhabfgeglaaPlA0
import Derived.Test.YtbgfdhabfgeglaaQ14
namespace Go.Proofs.Ytbgfdhabfgeglaa.Q
open Go Go.RowKit Go.Proofs.YtbgfdhabfgeglaaW.PrintWords Go.Proofs.YtbgfdhabfgeglaaW.PrintLast
/-- Is a text in a list? -/
def hasB (s : ByteArray) : List ByteArray → Bool
  | [] => false
  | x :: l => decide (s = x) || hasB s l
theorem hasB_iff (s : ByteArray) : ∀ l, hasB s l = true ↔ s ∈ l
  | [] => by simp [hasB]
  | x :: l => by simp [hasB, hasB_iff s l]
theorem spec_Has_l0 (l : List ByteArray) (s : ByteArray) (hn : l.length ≤ 9223372036854775807) : ∀ (d i : Nat), l.length - i = d → i ≤ l.length →
    Ev (fun k => spec_Has.l0 k l s (i : Int)) (hasB s (l.drop i)) := by
  intro d
  induction d with
  | zero =>
    intro i hd hi
    refine ev_now fun k => ?_
    simp only [spec_Has.l0]
    rw [if_neg (by omega), List.drop_eq_nil_of_le (by omega)]
    rfl
  | succ d ih =>
    intro i hd hi
    have hlt : i < l.length := by omega
    by_cases he : l[i] = s
    · refine ev_now fun k => ?_
      simp only [spec_Has.l0]
      rw [if_pos (by omega), if_pos (by omega), rdOf_nat _ _ _ hlt, if_pos (str_eq.2 he), List.drop_eq_getElem_cons hlt]
      simp only [hasB, decide_eq_true he.symm, Bool.true_or]
    · obtain ⟨K, hK⟩ := ih (i + 1) (by omega) (by omega)
      refine ev_succ ⟨K, fun k hk => ?_⟩
      try dsimp only at hK ⊢
      simp only [spec_Has.l0]
      rw [if_pos (by omega), if_pos (by omega), rdOf_nat _ _ _ hlt, if_neg (fun e => he (str_eq.1 e)), wrap_succ hlt hn, hK k hk, List.drop_eq_getElem_cons hlt]
      simp only [hasB, decide_eq_false (fun e : s = l[i] => he e.symm), Bool.false_or]
theorem spec_Has_ev (l : List ByteArray) (s : ByteArray) (hn : l.length ≤ 9223372036854775807) : Ev (fun k => spec_Has.f k l s) (hasB s l) := spec_Has_l0 l s hn l.length 0 (by omega) (by omega)
end Go.Proofs.Ytbgfdhabfgeglaa.Q
