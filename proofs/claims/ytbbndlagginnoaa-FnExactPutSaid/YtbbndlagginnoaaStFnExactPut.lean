/- Written by a program of this session (drive.py) over the translation: a part of the proofs of the laws; nothing is asked beyond what each statement says. -/
import Derived.Test.YtbbndlagginnoaaQOpn
import Derived.Test.YtbbndlagginnoaaQ9
namespace Go.Proofs.Ytbbndlagginnoaa.Q
open Go Go.RowKit Go.Proofs.YtbbndlagginnoaaW.PrintWords Go.Proofs.YtbbndlagginnoaaW.PrintLast
set_option linter.unusedVariables false
/-- What is left of the law FnExactPut: nothing of memory. -/
def laws_FnExactPut.Plain : Prop := ∀ (l0 : List ByteArray) (a1 : ByteArray) (n0 : l0.length ≤ 9223372036854775807) (g0 : ∀ y_ ∈ l0, (fun s_ : ByteArray => s_.size ≤ maxLen) y_) (g1 : (fun s_ : ByteArray => s_.size ≤ maxLen) a1), ∃ k, laws_FnExactPut.f k l0 a1 = some true
theorem laws_FnExactPut.road (P_ : laws_FnExactPut.Plain) (A0 : Option Addr) (c0 : Nat) (l0 : List ByteArray) (a1 : ByteArray) (w : World) (n0 : l0.length ≤ 9223372036854775807) (g0 : ∀ y_ ∈ l0, (fun s_ : ByteArray => s_.size ≤ maxLen) y_) (g1 : (fun s_ : ByteArray => s_.size ≤ maxLen) a1) (hr0 : Kd.C Kd.string w A0 l0.length l0) (hc0 : l0.length ≤ c0) :
    Calls Try.prog 5 #[.slice A0 l0.length c0, .string a1] w fun e w' => e = .returned (.bool true) ∧ Below w.heap.size w w' := by
  obtain ⟨k, h⟩ := P_ l0 a1 n0 g0 g1
  refine (laws_FnExactPut.calls k A0 c0 l0 a1 true w hr0 hc0 h).mono ?_
  rintro e w' ⟨rfl, hd⟩
  exact ⟨rfl, hd⟩
end Go.Proofs.Ytbbndlagginnoaa.Q
