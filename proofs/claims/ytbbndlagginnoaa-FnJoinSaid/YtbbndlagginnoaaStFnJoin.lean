/- Written by a program of this session (drive.py) over the translation: a part of the proofs of the laws; nothing is asked beyond what each statement says. -/
import Derived.Test.YtbbndlagginnoaaJOpn
import Derived.Test.YtbbndlagginnoaaJ3
namespace Go.Proofs.Ytbbndlagginnoaa.J
open Go Go.RowKit Go.Proofs.YtbbndlagginnoaaW.PrintWords Go.Proofs.YtbbndlagginnoaaW.PrintLast
set_option linter.unusedVariables false
/-- What is left of the law FnJoin: nothing of memory. -/
def laws_FnJoin.Plain : Prop := ∀ (l0 : List Int) (n0 : l0.length ≤ 9223372036854775807) (g0 : ∀ y_ ∈ l0, (fun n_ : Int => (Lit.int .u8 n_).wf = true) y_), ∃ k, laws_FnJoin.f k l0 = some true
theorem laws_FnJoin.road (P_ : laws_FnJoin.Plain) (A0 : Option Addr) (c0 : Nat) (l0 : List Int) (w : World) (n0 : l0.length ≤ 9223372036854775807) (g0 : ∀ y_ ∈ l0, (fun n_ : Int => (Lit.int .u8 n_).wf = true) y_) (hr0 : Kd.C (Kd.int .u8) w A0 l0.length l0) (hc0 : l0.length ≤ c0) :
    Calls Try.prog 3 #[.slice A0 l0.length c0] w fun e w' => e = .returned (.bool true) ∧ Below w.heap.size w w' := by
  obtain ⟨k, h⟩ := P_ l0 n0 g0
  refine (laws_FnJoin.calls k A0 c0 l0 true w hr0 hc0 h).mono ?_
  rintro e w' ⟨rfl, hd⟩
  exact ⟨rfl, hd⟩
end Go.Proofs.Ytbbndlagginnoaa.J
