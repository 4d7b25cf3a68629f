/- Written by a program of this session (drive.py) over the translation: a part of the proofs of the laws; nothing is asked beyond what each statement says. -/
import Derived.Test.YtnjbpdbdeidngaaQOpn
import Derived.Test.YtnjbpdbdeidngaaQ21
namespace Go.Proofs.Ytnjbpdbdeidngaa.Q
open Go Go.RowKit Go.Proofs.YtnjbpdbdeidngaaW.PrintWords Go.Proofs.YtnjbpdbdeidngaaW.PrintLast
set_option linter.unusedVariables false
/-- What is left of the law FnExactNameOk: nothing of memory. -/
def laws_FnExactNameOk.Plain : Prop := ∀ (a0 : ByteArray) (g0 : (fun s_ : ByteArray => s_.size ≤ maxLen) a0), ∃ k, laws_FnExactNameOk.f k a0 = some true
theorem laws_FnExactNameOk.road (P_ : laws_FnExactNameOk.Plain) (a0 : ByteArray) (w : World) (g0 : (fun s_ : ByteArray => s_.size ≤ maxLen) a0)  :
    Calls Try.prog 12 #[.string a0] w fun e w' => e = .returned (.bool true) ∧ Below w.heap.size w w' := by
  obtain ⟨k, h⟩ := P_ a0 g0
  refine (laws_FnExactNameOk.calls k a0 true w  h).mono ?_
  rintro e w' ⟨rfl, hd⟩
  exact ⟨rfl, hd.below⟩
end Go.Proofs.Ytnjbpdbdeidngaa.Q
