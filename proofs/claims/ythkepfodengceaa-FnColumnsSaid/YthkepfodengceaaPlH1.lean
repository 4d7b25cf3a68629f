/- Rising, plainly: the reference. -/
import Derived.Test.YthkepfodengceaaPlB
import Derived.Test.YthkepfodengceaaPutB
import Derived.Test.YthkepfodengceaaQ5
namespace Go.Proofs.Ythkepfodengceaa.Q
open Go Go.RowKit Go.Proofs.YthkepfodengceaaW.PrintWords Go.Proofs.YthkepfodengceaaW.PrintLast
theorem spec_Rising_l0 (l : List ByteArray) (hn : l.length ≤ 9223372036854775807) (g : ∀ y ∈ l, y.size ≤ maxLen) : ∀ (d i : Nat), l.length - (i + 1) = d → i + 1 ≤ l.length →
    Ev (fun k => spec_Rising.l0 k l ((i + 1 : Nat) : Int)) (risingB (l.drop i)) := by
  intro d
  induction d with
  | zero =>
    intro i hd hi
    refine ev_now fun k => ?_
    simp only [spec_Rising.l0]
    rw [if_neg (by omega), List.drop_eq_getElem_cons (by omega), List.drop_eq_nil_of_le (by omega)]
    rfl
  | succ d ih =>
    intro i hd hi
    have h1 : i < l.length := by omega
    have h2 : i + 1 < l.length := by omega
    have hg := g l[i] (List.getElem_mem h1)
    obtain ⟨K1, hK1⟩ := spec_Before_ev l[i] l[i + 1] (by unfold maxLen at hg; omega)
    obtain ⟨K, hK⟩ := ih (i + 1) (by omega) (by omega)
    refine ev_succ ⟨max K K1, fun k hk => ?_⟩
    have hK := hK k (by omega)
    have hK1 := hK1 k (by omega)
    try dsimp only at hK hK1 ⊢
    have ew : wrap64 (((i + 1 : Nat) : Int) - 1) = (i : Int) := by rw [wrap_id] <;> omega
    simp only [spec_Rising.l0, ew]
    rw [if_pos (by omega), if_pos (by omega), if_pos (by omega), if_pos (by omega), rdOf_nat _ _ _ h1, rdOf_nat _ _ _ h2, hK1, Option.bind_some, wrap_succ h2 hn, hK, List.drop_eq_getElem_cons h1, List.drop_eq_getElem_cons h2]
    simp only [risingB]
    cases Op.bytesLess l[i].data.toList l[i + 1].data.toList <;> simp
theorem spec_Rising_ev (l : List ByteArray) (hn : l.length ≤ 9223372036854775807) (g : ∀ y ∈ l, y.size ≤ maxLen) : Ev (fun k => spec_Rising.f k l) (risingB l) := by
  cases l with
  | nil => exact ev_now fun k => by simp [spec_Rising.f, spec_Rising.l0, risingB]
  | cons a l => exact spec_Rising_l0 (a :: l) hn g ((a :: l).length - 1) 0 rfl (by simp)
end Go.Proofs.Ythkepfodengceaa.Q
