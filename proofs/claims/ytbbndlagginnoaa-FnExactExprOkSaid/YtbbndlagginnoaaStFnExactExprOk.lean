/- Written by a program of this session (drive.py) over the translation: a part of the proofs of the laws; nothing is asked beyond what each statement says. -/
import Derived.Test.YtbbndlagginnoaaQOpn
import Derived.Test.YtbbndlagginnoaaQ23
namespace Go.Proofs.Ytbbndlagginnoaa.Q
open Go Go.RowKit Go.Proofs.YtbbndlagginnoaaW.PrintWords Go.Proofs.YtbbndlagginnoaaW.PrintLast
set_option linter.unusedVariables false
/-- What is left of the law FnExactExprOk: nothing of memory. -/
def laws_FnExactExprOk.Plain : Prop := ∀ (a0_0 : Int) (a0_1 : ByteArray) (a0_2 : Int) (l0_3 : List (S36)) (g0 : G36 (⟨a0_0, a0_1, a0_2, l0_3⟩ : S36)), ∃ k, laws_FnExactExprOk.f k a0_0 a0_1 a0_2 l0_3 = some true
theorem laws_FnExactExprOk.road (P_ : laws_FnExactExprOk.Plain) (a0_0 : Int) (a0_1 : ByteArray) (a0_2 : Int) (A0_3 : Option Addr) (c0_3 : Nat) (l0_3 : List (S36)) (w : World) (g0 : G36 (⟨a0_0, a0_1, a0_2, l0_3⟩ : S36)) (hr0_3 : Kd.C k36 w A0_3 l0_3.length l0_3) (hc0_3 : l0_3.length ≤ c0_3) :
    Calls Try.prog 9 #[.agg #[.int .i64 a0_0, .string a0_1, .int .i64 a0_2, .slice A0_3 l0_3.length c0_3]] w fun e w' => e = .returned (.bool true) ∧ Below w.heap.size w w' := by
  obtain ⟨k, h⟩ := P_ a0_0 a0_1 a0_2 l0_3 g0
  refine (laws_FnExactExprOk.calls k a0_0 a0_1 a0_2 A0_3 c0_3 l0_3 true w hr0_3 hc0_3 h).mono ?_
  rintro e w' ⟨rfl, hd⟩
  exact ⟨rfl, hd⟩
end Go.Proofs.Ytbbndlagginnoaa.Q
