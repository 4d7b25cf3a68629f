/- How many bytes and kids a condition has, plainly. -/
import Derived.Test.YthkepfodengceaaPlE0
import Derived.Test.YthkepfodengceaaQ4
namespace Go.Proofs.Ythkepfodengceaa.Q
open Go Go.RowKit Go.Proofs.YthkepfodengceaaW.PrintWords Go.Proofs.YthkepfodengceaaW.PrintLast
set_option linter.unusedVariables false
mutual
/-- How many bytes the texts of a condition have. -/
def wIE : IE → Nat
  | ⟨_, t, _, l⟩ => t.size + wIs l
def wIs : List IE → Nat
  | [] => 0
  | e :: l => wIE e + wIs l
end
def kidsB (a : Int) : Int := if a ≤ 5 then 0 else if a ≤ 7 then 1 else 2
theorem l01In_eq (a x y : Int) : spec_l01In.f a x y = some (decide (x ≤ a ∧ a ≤ y)) := by
  unfold spec_l01In.f
  by_cases h : a ≥ x
  · rw [if_pos h]
    congr 1
    rw [decide_eq_decide]
    omega
  · rw [if_neg h, decide_eq_false (by omega)]
theorem l04Kids_eq (a : Int) : spec_l04Kids.f a = some (if 0 ≤ a ∧ a ≤ 18 then kidsB a else -1) := by
  unfold spec_l04Kids.f kidsB
  rw [l01In_eq, Option.bind_some]
  by_cases h : 0 ≤ a ∧ a ≤ 18
  · rw [decide_eq_true h, if_pos rfl, if_pos h]
    split
    · rfl
    · split <;> rfl
  · rw [decide_eq_false h, if_neg (by simp), if_neg h]
end Go.Proofs.Ythkepfodengceaa.Q
