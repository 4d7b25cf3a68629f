/- Written by a program of this session (drive.py) over the translation: a part of the proofs of the laws; nothing is asked beyond what each statement says. -/
import Derived.Test.YtnjbpdbdeidngaaQOpn
import Derived.Test.YtnjbpdbdeidngaaQ3
namespace Go.Proofs.Ytnjbpdbdeidngaa.Q
open Go Go.RowKit Go.Proofs.YtnjbpdbdeidngaaW.PrintWords Go.Proofs.YtnjbpdbdeidngaaW.PrintLast
set_option linter.unusedVariables false
/-- What is left of the law FnExactTurns: nothing of memory. -/
def laws_FnExactTurns.Plain : Prop := ∀ (a0_0 : Int) (a0_1 : Int) (a0_2 : ByteArray) (a1_0 : Int) (a1_1 : Int) (a1_2 : ByteArray) (g0 : G25 (⟨a0_0, a0_1, a0_2⟩ : S25)) (g1 : G25 (⟨a1_0, a1_1, a1_2⟩ : S25)), laws_FnExactTurns.f a0_0 a0_1 a0_2 a1_0 a1_1 a1_2 = some true
theorem laws_FnExactTurns.road (P_ : laws_FnExactTurns.Plain) (a0_0 : Int) (a0_1 : Int) (a0_2 : ByteArray) (a1_0 : Int) (a1_1 : Int) (a1_2 : ByteArray) (w : World) (g0 : G25 (⟨a0_0, a0_1, a0_2⟩ : S25)) (g1 : G25 (⟨a1_0, a1_1, a1_2⟩ : S25))  :
    Calls Try.prog 5 #[.agg #[.int .i64 a0_0, .int .i64 a0_1, .string a0_2], .agg #[.int .i64 a1_0, .int .i64 a1_1, .string a1_2]] w fun e w' => e = .returned (.bool true) ∧ Below w.heap.size w w' := by
  have h := P_ a0_0 a0_1 a0_2 a1_0 a1_1 a1_2 g0 g1
  refine (laws_FnExactTurns.calls a0_0 a0_1 a0_2 a1_0 a1_1 a1_2 true w  h).mono ?_
  rintro e w' ⟨rfl, hd⟩
  exact ⟨rfl, hd⟩
end Go.Proofs.Ytnjbpdbdeidngaa.Q
