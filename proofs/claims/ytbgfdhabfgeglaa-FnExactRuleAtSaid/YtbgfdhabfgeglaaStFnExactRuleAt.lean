/- Written by a program of this session (drive.py) over the translation: a part of the proofs of the laws; nothing is asked beyond what each statement says. -/
import Derived.Test.YtbgfdhabfgeglaaQOpn
import Derived.Test.YtbgfdhabfgeglaaQ6
namespace Go.Proofs.Ytbgfdhabfgeglaa.Q
open Go Go.RowKit Go.Proofs.YtbgfdhabfgeglaaW.PrintWords Go.Proofs.YtbgfdhabfgeglaaW.PrintLast
set_option linter.unusedVariables false
/-- What is left of the law FnExactRuleAt: nothing of memory. -/
def laws_FnExactRuleAt.Plain : Prop := ∀ (a0_0 : ByteArray) (l0_1 : List (S120)) (l0_2 : List (S123)) (a0_3 : Int) (a1 : ByteArray) (g0 : G25 (⟨a0_0, l0_1, l0_2, a0_3⟩ : S25)) (g1 : (fun s_ : ByteArray => s_.size ≤ maxLen) a1), ∃ k, laws_FnExactRuleAt.f k a0_0 l0_1 l0_2 a0_3 a1 = some true
theorem laws_FnExactRuleAt.road (P_ : laws_FnExactRuleAt.Plain) (a0_0 : ByteArray) (A0_1 : Option Addr) (c0_1 : Nat) (l0_1 : List (S120)) (A0_2 : Option Addr) (c0_2 : Nat) (l0_2 : List (S123)) (a0_3 : Int) (a1 : ByteArray) (w : World) (g0 : G25 (⟨a0_0, l0_1, l0_2, a0_3⟩ : S25)) (g1 : (fun s_ : ByteArray => s_.size ≤ maxLen) a1) (hr0_1 : Kd.C k120 w A0_1 l0_1.length l0_1) (hc0_1 : l0_1.length ≤ c0_1) (hr0_2 : Kd.C k123 w A0_2 l0_2.length l0_2) (hc0_2 : l0_2.length ≤ c0_2) :
    Calls Try.prog 3 #[.agg #[.string a0_0, .slice A0_1 l0_1.length c0_1, .slice A0_2 l0_2.length c0_2, .int .i64 a0_3], .string a1] w fun e w' => e = .returned (.bool true) ∧ Below w.heap.size w w' := by
  obtain ⟨k, h⟩ := P_ a0_0 l0_1 l0_2 a0_3 a1 g0 g1
  refine (laws_FnExactRuleAt.calls k a0_0 A0_1 c0_1 l0_1 A0_2 c0_2 l0_2 a0_3 a1 true w hr0_1 hc0_1 hr0_2 hc0_2 h).mono ?_
  rintro e w' ⟨rfl, hd⟩
  exact ⟨rfl, hd⟩
end Go.Proofs.Ytbgfdhabfgeglaa.Q
