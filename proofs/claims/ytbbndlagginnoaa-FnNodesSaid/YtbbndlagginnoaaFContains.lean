/- strings.Contains where what is looked for is one byte: by the shelf's contract. -/
import Derived.Test.YtbbndlagginnoaaQ0
import Derived.Test.YtbbndlagginnoaaShelf
namespace Go.Proofs.Ytbbndlagginnoaa.Q
open Go Go.RowKit Go.Proofs.YtbbndlagginnoaaW.PrintWords Go.Proofs.YtbbndlagginnoaaW.PrintLast Go.Proofs.YtbbndlagginnoaaW.PrintMore
def strings_Contains.f (a0 a1 : ByteArray) : Option Bool := if a1.data.toList.length = 1 then some (decide (0 ≤ Lib.indexByte a0.data.toList (a1.data.toList.headD 0))) else none
theorem strings_Contains.calls (a0 : ByteArray) (a1 : ByteArray) (r : Bool) (w : World) (h : strings_Contains.f a0 a1 = some r) :
    Calls Try.prog 100 #[.string a0, .string a1] w fun e w' => e = .returned (.bool r) ∧ Drawn0 w w' := by
  unfold strings_Contains.f at h
  by_cases hl : a1.data.toList.length = 1
  · rw [if_pos hl] at h
    obtain rfl := Option.some.inj h
    obtain ⟨c, hc⟩ := List.length_eq_one_iff.1 hl
    have e1 : a1 = ⟨#[c]⟩ := by
      cases a1 with
      | mk d => cases d with | mk l => simp at hc; subst hc; rfl
    subst e1
    refine (Try.strings_Contains_one a0 c w).mono ?_
    rintro e w' ⟨he, hw⟩
    exact ⟨he, hw ▸ Drawn0.refl w⟩
  · rw [if_neg hl] at h
    cases h
end Go.Proofs.Ytbbndlagginnoaa.Q
