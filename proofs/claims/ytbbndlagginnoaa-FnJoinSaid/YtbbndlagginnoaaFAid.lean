/- A list of texts that is read, cell by cell. -/
import Derived.Test.YtbbndlagginnoaaWMore
import Derived.Test.YtbbndlagginnoaaWWords
import Derived.DataReads
namespace Go.Proofs.Ytbbndlagginnoaa.Aid
open Go Go.RowKit Go.Proofs.YtbbndlagginnoaaW.PrintWords Go.Proofs.YtbbndlagginnoaaW.PrintLast Go.Proofs.YtbbndlagginnoaaW.PrintMore
theorem strs_cells {w : World} {A : Option Addr} {l : List ByteArray} (h : Kd.C Kd.string w A l.length l) (hl : 0 < l.length) :
    ∃ b o, A = some ⟨b, o, none⟩ ∧ b < w.heap.size ∧ ∀ (j : Nat) (x : ByteArray), l[j]? = some x → w.cell? ⟨b, o + j, none⟩ = some (.string x) := by
  obtain ⟨_, _, hc⟩ := h
  obtain ⟨ad, rfl, hcell⟩ := hc hl
  have each : ∀ (j : Nat) (x : ByteArray), l[j]? = some x → w.cell? (ad.add j) = some (.string x) := by
    intro j x hx
    obtain ⟨c, _, hk, hu⟩ := hcell j x hx
    have hk : c = [Value.string x] := hk
    subst hk
    have h1 := hu 0 _ rfl
    rwa [show j * Kd.string.sz + 0 = j from by rw [show Kd.string.sz = 1 from rfl]; omega] at h1
  have h0 := each 0 l[0] (List.getElem?_eq_getElem hl)
  rw [show ad.add 0 = ad from rfl] at h0
  have hs := World.cell?_spot h0
  obtain ⟨b, o, s⟩ := ad
  obtain rfl : s = none := hs
  refine ⟨b, o, rfl, World.block_lt_of_cell? w _ h0, fun j x hx => ?_⟩
  have h1 := each j x hx
  cases j with
  | zero => exact h0.trans (by rw [List.getElem?_eq_getElem hl] at hx; rw [Option.some.inj hx])
  | succ j => simpa [Addr.add] using h1
theorem strs_R {w : World} {base : Nat} {e : Nat} {v : Value} {l : List ByteArray} (ho : w.ownsRow base e 1 v l.length (l.map Value.string)) : Kd.R Kd.string e w base (fun _ => True) v l :=
  Kd.R_of_own (h1 := fun _ => rfl) ho (fun _ _ => trivial)
end Go.Proofs.Ytbbndlagginnoaa.Aid
