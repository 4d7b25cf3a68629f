/- How many nodes a condition has, plainly: the program. -/
import Derived.Test.YtbbndlagginnoaaPlE0
import Derived.Test.YtbbndlagginnoaaQ17
namespace Go.Proofs.Ytbbndlagginnoaa.Q
open Go Go.RowKit Go.Proofs.YtbbndlagginnoaaW.PrintWords Go.Proofs.YtbbndlagginnoaaW.PrintLast
mutual
theorem impl_Nodes_ev : ∀ e : IE, nIE e ≤ 9223372036854775806 → Ev (fun k => impl_Nodes.f k e.f0 e.f1 e.f2 e.f3) (nIE e : Int)
  | ⟨a, b, c, l⟩, hn => by
    have en : nIE ⟨a, b, c, l⟩ = 1 + nIs l := by simp only [nIE]
    have hl := nIs_len l
    obtain ⟨K, hK⟩ := impl_Nodes_l l [] 1 (by omega) (by simp; omega)
    refine ev_succ ⟨K, fun k hk => ?_⟩
    have hK := hK k hk
    try dsimp only at hK ⊢
    simp only [List.nil_append, List.length_nil, Int.natCast_zero] at hK
    simp only [impl_Nodes.f]
    rw [en]
    exact hK
theorem impl_Nodes_l : ∀ (l p : List IE) (n : Nat), n + nIs l ≤ 9223372036854775806 → p.length + l.length ≤ 9223372036854775806 →
    Ev (fun k => impl_Nodes.l0 k (n : Int) (p ++ l) ((p ++ l).length : Int) (p.length : Int)) ((n + nIs l : Nat) : Int)
  | [], p, n, hn, hs => by
    refine ev_now fun k => ?_
    simp only [impl_Nodes.l0, List.append_nil]
    rw [if_neg (by omega)]
    simp [nIs]
  | e :: l, p, n, hn, hs => by
    have hlt : (p.length : Int) < ((p ++ e :: l).length : Int) := by simp only [List.length_append, List.length_cons]; omega
    have el : (e :: l).length = l.length + 1 := rfl
    have en : nIs (e :: l) = nIE e + nIs l := by simp only [nIs]
    obtain ⟨K1, hK1⟩ := impl_Nodes_ev e (by omega)
    obtain ⟨K2, hK2⟩ := impl_Nodes_l l (p ++ [e]) (n + nIE e) (by omega) (by simp; omega)
    refine ev_succ ⟨K1 + K2, fun k hk => ?_⟩
    have hK1 := hK1 k (by omega)
    have hK2 := hK2 k (by omega)
    try dsimp only at hK1 hK2 ⊢
    simp only [impl_Nodes.l0]
    have e3 : (p ++ [e]) ++ l = p ++ e :: l := by simp
    have e4 : (p ++ [e]).length = p.length + 1 := by simp
    rw [e3, e4] at hK2
    have ew : wrap64 ((n : Int) + (nIE e : Int)) = ((n + nIE e : Nat) : Int) := by rw [wrap_id] <;> omega
    rw [if_pos hlt, if_pos (by omega), if_pos hlt, rdI_mid, hK1, Option.bind_some, wrap_mid p.length l.length (by omega), ew, hK2]
    congr 1
    omega
end
end Go.Proofs.Ytbbndlagginnoaa.Q
