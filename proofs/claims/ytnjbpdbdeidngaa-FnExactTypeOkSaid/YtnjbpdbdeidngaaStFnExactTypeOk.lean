/- Written by a program of this session (drive.py) over the translation: a part of the proofs of the laws; nothing is asked beyond what each statement says. -/
import Derived.Test.YtnjbpdbdeidngaaQOpn
import Derived.Test.YtnjbpdbdeidngaaQ24
namespace Go.Proofs.Ytnjbpdbdeidngaa.Q
open Go Go.RowKit Go.Proofs.YtnjbpdbdeidngaaW.PrintWords Go.Proofs.YtnjbpdbdeidngaaW.PrintLast
set_option linter.unusedVariables false
/-- What is left of the law FnExactTypeOk: nothing of memory. -/
def laws_FnExactTypeOk.Plain : Prop := ∀ (a0_0 : Int) (a0_1 : Int) (a0_2 : ByteArray) (g0 : G25 (⟨a0_0, a0_1, a0_2⟩ : S25)), ∃ k, laws_FnExactTypeOk.f k a0_0 a0_1 a0_2 = some true
theorem laws_FnExactTypeOk.road (P_ : laws_FnExactTypeOk.Plain) (a0_0 : Int) (a0_1 : Int) (a0_2 : ByteArray) (w : World) (g0 : G25 (⟨a0_0, a0_1, a0_2⟩ : S25))  :
    Calls Try.prog 14 #[.agg #[.int .i64 a0_0, .int .i64 a0_1, .string a0_2]] w fun e w' => e = .returned (.bool true) ∧ Below w.heap.size w w' := by
  obtain ⟨k, h⟩ := P_ a0_0 a0_1 a0_2 g0
  refine (laws_FnExactTypeOk.calls k a0_0 a0_1 a0_2 true w  h).mono ?_
  rintro e w' ⟨rfl, hd⟩
  exact ⟨rfl, hd⟩
end Go.Proofs.Ytnjbpdbdeidngaa.Q
