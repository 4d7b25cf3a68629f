/- strings.Join up to 2^47 bytes: by the shelf's contract. -/
import Derived.Test.YtbbndlagginnoaaJ0
import Derived.Test.YtbbndlagginnoaaShelf
import Derived.Test.YtbbndlagginnoaaFAid
namespace Go.Proofs.Ytbbndlagginnoaa.J
open Go Go.RowKit Go.Proofs.YtbbndlagginnoaaW.PrintWords Go.Proofs.YtbbndlagginnoaaW.PrintLast Go.Proofs.YtbbndlagginnoaaW.PrintMore
def strings_Join.f (l0 : List ByteArray) (a1 : ByteArray) : Option ByteArray :=
  if (Lib.join (l0.map (·.data.toList)) a1.data.toList).length ≤ 140737488355328 ∧ l0.length ≤ 140737488355328 then some ⟨(Lib.join (l0.map (·.data.toList)) a1.data.toList).toArray⟩ else none
theorem strings_Join.calls (A0 : Option Addr) (c0 : Nat) (l0 : List ByteArray) (a1 : ByteArray) (r : ByteArray) (w : World) (hr0 : Kd.C Kd.string w A0 l0.length l0) (hc0 : l0.length ≤ c0) (h : strings_Join.f l0 a1 = some r) :
    Calls Try.prog 50 #[.slice A0 l0.length c0, .string a1] w fun e w' => e = .returned (.string r) ∧ Below w.heap.size w w' := by
  unfold strings_Join.f at h
  by_cases hl : (Lib.join (l0.map (·.data.toList)) a1.data.toList).length ≤ 140737488355328 ∧ l0.length ≤ 140737488355328
  · rw [if_pos hl] at h
    obtain rfl := Option.some.inj h
    cases l0 with
    | nil =>
      refine (Try.strings_Join_none A0 c0 a1 w).mono ?_
      rintro e w' ⟨he, hw⟩
      refine ⟨he.trans ?_, by rw [hw]; exact Below.refl _ _⟩
      rfl
    | cons x l =>
      obtain ⟨b, o, rfl, hb, hcell⟩ := Aid.strs_cells hr0 (by simp)
      exact Try.strings_Join b o c0 (x :: l) a1 w hcell hb hl.2 hc0 hl.1
  · rw [if_neg hl] at h
    cases h
end Go.Proofs.Ytbbndlagginnoaa.J
