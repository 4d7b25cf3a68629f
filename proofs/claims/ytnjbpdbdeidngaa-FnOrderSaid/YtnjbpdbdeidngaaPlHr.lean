/- Rising, plainly: the program. -/
import Derived.Test.YtnjbpdbdeidngaaPlB
import Derived.Test.YtnjbpdbdeidngaaPutB
import Derived.Test.YtnjbpdbdeidngaaQ12
namespace Go.Proofs.Ytnjbpdbdeidngaa.Q
open Go Go.RowKit Go.Proofs.YtnjbpdbdeidngaaW.PrintWords Go.Proofs.YtnjbpdbdeidngaaW.PrintLast
theorem impl_Rising_l0 (l : List ByteArray) (hn : l.length ≤ 9223372036854775807) : ∀ (d i : Nat), l.length - (i + 1) = d → i + 1 ≤ l.length →
    Ev (fun k => impl_Rising.l0 k l ((i + 1 : Nat) : Int)) (risingB (l.drop i)) := by
  intro d
  induction d with
  | zero =>
    intro i hd hi
    refine ev_now fun k => ?_
    simp only [impl_Rising.l0]
    rw [if_neg (by omega), List.drop_eq_getElem_cons (by omega), List.drop_eq_nil_of_le (by omega)]
    rfl
  | succ d ih =>
    intro i hd hi
    have h1 : i < l.length := by omega
    have h2 : i + 1 < l.length := by omega
    obtain ⟨K, hK⟩ := ih (i + 1) (by omega) (by omega)
    refine ev_succ ⟨K, fun k hk => ?_⟩
    have hK := hK k (by omega)
    try dsimp only at hK ⊢
    have ew : wrap64 (((i + 1 : Nat) : Int) - 1) = (i : Int) := by rw [wrap_id] <;> omega
    simp only [impl_Rising.l0, ew]
    rw [if_pos (by omega), if_pos (by omega), if_pos (by omega), if_pos (by omega), rdOf_nat _ _ _ h1, rdOf_nat _ _ _ h2, wrap_succ h2 hn, hK, List.drop_eq_getElem_cons h1, List.drop_eq_getElem_cons h2]
    simp only [risingB, Lib.toList_data]
    cases Op.bytesLess l[i].data.toList l[i + 1].data.toList <;> simp
theorem impl_Rising_ev (l : List ByteArray) (hn : l.length ≤ 9223372036854775807) : Ev (fun k => impl_Rising.f k l) (risingB l) := by
  cases l with
  | nil => exact ev_now fun k => by simp [impl_Rising.f, impl_Rising.l0, risingB]
  | cons a l => exact impl_Rising_l0 (a :: l) hn ((a :: l).length - 1) 0 rfl (by simp)
end Go.Proofs.Ytnjbpdbdeidngaa.Q
