/- Written by a program of this session (drive.py) over the translation: a part of the proofs of the laws; nothing is asked beyond what each statement says. -/
import Derived.Test.YtnjbpdbdeidngaaQOpn
import Derived.Test.YtnjbpdbdeidngaaQ2
namespace Go.Proofs.Ytnjbpdbdeidngaa.Q
open Go Go.RowKit Go.Proofs.YtnjbpdbdeidngaaW.PrintWords Go.Proofs.YtnjbpdbdeidngaaW.PrintLast
set_option linter.unusedVariables false
/-- What is left of the law FnExactBefore: nothing of memory. -/
def laws_FnExactBefore.Plain : Prop := ∀ (a0 : ByteArray) (a1 : ByteArray) (g0 : (fun s_ : ByteArray => s_.size ≤ maxLen) a0) (g1 : (fun s_ : ByteArray => s_.size ≤ maxLen) a1), ∃ k, laws_FnExactBefore.f k a0 a1 = some true
theorem laws_FnExactBefore.road (P_ : laws_FnExactBefore.Plain) (a0 : ByteArray) (a1 : ByteArray) (w : World) (g0 : (fun s_ : ByteArray => s_.size ≤ maxLen) a0) (g1 : (fun s_ : ByteArray => s_.size ≤ maxLen) a1)  :
    Calls Try.prog 4 #[.string a0, .string a1] w fun e w' => e = .returned (.bool true) ∧ Below w.heap.size w w' := by
  obtain ⟨k, h⟩ := P_ a0 a1 g0 g1
  refine (laws_FnExactBefore.calls k a0 a1 true w  h).mono ?_
  rintro e w' ⟨rfl, hd⟩
  exact ⟨rfl, hd.below⟩
end Go.Proofs.Ytnjbpdbdeidngaa.Q
