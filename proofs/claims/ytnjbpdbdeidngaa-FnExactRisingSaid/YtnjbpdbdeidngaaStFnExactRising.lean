/- Written by a program of this session (drive.py) over the translation: a part of the proofs of the laws; nothing is asked beyond what each statement says. -/
import Derived.Test.YtnjbpdbdeidngaaQOpn
import Derived.Test.YtnjbpdbdeidngaaQ5
namespace Go.Proofs.Ytnjbpdbdeidngaa.Q
open Go Go.RowKit Go.Proofs.YtnjbpdbdeidngaaW.PrintWords Go.Proofs.YtnjbpdbdeidngaaW.PrintLast
set_option linter.unusedVariables false
/-- What is left of the law FnExactRising: nothing of memory. -/
def laws_FnExactRising.Plain : Prop := ∀ (l0 : List ByteArray) (n0 : l0.length ≤ 9223372036854775807) (g0 : ∀ y_ ∈ l0, (fun s_ : ByteArray => s_.size ≤ maxLen) y_), ∃ k, laws_FnExactRising.f k l0 = some true
theorem laws_FnExactRising.road (P_ : laws_FnExactRising.Plain) (A0 : Option Addr) (c0 : Nat) (l0 : List ByteArray) (w : World) (n0 : l0.length ≤ 9223372036854775807) (g0 : ∀ y_ ∈ l0, (fun s_ : ByteArray => s_.size ≤ maxLen) y_) (hr0 : Kd.C Kd.string w A0 l0.length l0) (hc0 : l0.length ≤ c0) :
    Calls Try.prog 7 #[.slice A0 l0.length c0] w fun e w' => e = .returned (.bool true) ∧ Below w.heap.size w w' := by
  obtain ⟨k, h⟩ := P_ l0 n0 g0
  refine (laws_FnExactRising.calls k A0 c0 l0 true w hr0 hc0 h).mono ?_
  rintro e w' ⟨rfl, hd⟩
  exact ⟨rfl, hd⟩
end Go.Proofs.Ytnjbpdbdeidngaa.Q
