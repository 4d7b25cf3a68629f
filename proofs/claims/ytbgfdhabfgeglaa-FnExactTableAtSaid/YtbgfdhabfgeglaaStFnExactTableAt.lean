/- Written by a program of this session (drive.py) over the translation: a part of the proofs of the laws; nothing is asked beyond what each statement says. -/
import Derived.Test.YtbgfdhabfgeglaaQOpn
import Derived.Test.YtbgfdhabfgeglaaQ8
namespace Go.Proofs.Ytbgfdhabfgeglaa.Q
open Go Go.RowKit Go.Proofs.YtbgfdhabfgeglaaW.PrintWords Go.Proofs.YtbgfdhabfgeglaaW.PrintLast
set_option linter.unusedVariables false
/-- What is left of the law FnExactTableAt: nothing of memory. -/
def laws_FnExactTableAt.Plain : Prop := ∀ (l0_0 : List (S146)) (l0_1 : List (S148)) (l0_2 : List (S25)) (l0_3 : List (S150)) (l0_4 : List (S153)) (a0_5 : Int) (a1 : ByteArray) (g0 : G56 (⟨l0_0, l0_1, l0_2, l0_3, l0_4, a0_5⟩ : S56)) (g1 : (fun s_ : ByteArray => s_.size ≤ maxLen) a1), ∃ k, laws_FnExactTableAt.f k l0_0 l0_1 l0_2 l0_3 l0_4 a0_5 a1 = some true
theorem laws_FnExactTableAt.road (P_ : laws_FnExactTableAt.Plain) (A0_0 : Option Addr) (c0_0 : Nat) (l0_0 : List (S146)) (A0_1 : Option Addr) (c0_1 : Nat) (l0_1 : List (S148)) (A0_2 : Option Addr) (c0_2 : Nat) (l0_2 : List (S25)) (A0_3 : Option Addr) (c0_3 : Nat) (l0_3 : List (S150)) (A0_4 : Option Addr) (c0_4 : Nat) (l0_4 : List (S153)) (a0_5 : Int) (a1 : ByteArray) (w : World) (g0 : G56 (⟨l0_0, l0_1, l0_2, l0_3, l0_4, a0_5⟩ : S56)) (g1 : (fun s_ : ByteArray => s_.size ≤ maxLen) a1) (hr0_0 : Kd.C k146 w A0_0 l0_0.length l0_0) (hc0_0 : l0_0.length ≤ c0_0) (hr0_1 : Kd.C k148 w A0_1 l0_1.length l0_1) (hc0_1 : l0_1.length ≤ c0_1) (hr0_2 : Kd.C k25 w A0_2 l0_2.length l0_2) (hc0_2 : l0_2.length ≤ c0_2) (hr0_3 : Kd.C k150 w A0_3 l0_3.length l0_3) (hc0_3 : l0_3.length ≤ c0_3) (hr0_4 : Kd.C k153 w A0_4 l0_4.length l0_4) (hc0_4 : l0_4.length ≤ c0_4) :
    Calls Try.prog 6 #[.agg #[.slice A0_0 l0_0.length c0_0, .slice A0_1 l0_1.length c0_1, .slice A0_2 l0_2.length c0_2, .slice A0_3 l0_3.length c0_3, .slice A0_4 l0_4.length c0_4, .int .i64 a0_5], .string a1] w fun e w' => e = .returned (.bool true) ∧ Below w.heap.size w w' := by
  obtain ⟨k, h⟩ := P_ l0_0 l0_1 l0_2 l0_3 l0_4 a0_5 a1 g0 g1
  refine (laws_FnExactTableAt.calls k A0_0 c0_0 l0_0 A0_1 c0_1 l0_1 A0_2 c0_2 l0_2 A0_3 c0_3 l0_3 A0_4 c0_4 l0_4 a0_5 a1 true w hr0_0 hc0_0 hr0_1 hc0_1 hr0_2 hc0_2 hr0_3 hc0_3 hr0_4 hc0_4 h).mono ?_
  rintro e w' ⟨rfl, hd⟩
  exact ⟨rfl, hd⟩
end Go.Proofs.Ytbgfdhabfgeglaa.Q
