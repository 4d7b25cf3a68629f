/- The first of a name, plainly. -/
import Derived.Test.YtbgfdhabfgeglaaPlE0
import Derived.Test.YtbgfdhabfgeglaaFIdx
namespace Go.Proofs.Ytbgfdhabfgeglaa.Q
open Go Go.RowKit Go.Proofs.YtbgfdhabfgeglaaW.PrintWords Go.Proofs.YtbgfdhabfgeglaaW.PrintLast
set_option linter.unusedVariables false
set_option linter.unusedSimpArgs false
theorem at_loop {α : Type} (F : Nat → List α → Int → Option Int) (nm : α → ByteArray) (rd : List α → Int → α) (hrd : ∀ p e l, rd (p ++ e :: l) (p.length : Int) = e) (s : ByteArray) (p : α → Bool) (hp : ∀ x, p x = ((nm x).toList == s.toList))
    (he : ∀ k l i, F (k + 1) l i = if i < (l.length : Int) then (if 0 ≤ i then (if (nm (rd l i)).toList = s.toList then some i else F k l (wrap64 (i + 1))) else none) else some (-1)) :
    ∀ (l q : List α), q.length + l.length ≤ 9223372036854775806 → Ev (fun k => F k (q ++ l) (q.length : Int)) (idxB p l q.length)
  | [], q, hn => by
    refine ev_now fun k => ?_
    try dsimp only
    rw [he, if_neg (by simp)]
    rfl
  | e :: l, q, hn => by
    have hlt : (q.length : Int) < ((q ++ e :: l).length : Int) := by simp only [List.length_append, List.length_cons]; omega
    have el : (e :: l).length = l.length + 1 := rfl
    by_cases hx : (nm e).toList = s.toList
    · refine ev_now fun k => ?_
      try dsimp only
      have : p e = true := by rw [hp]; exact beq_iff_eq.2 hx
      rw [he, if_pos hlt, if_pos (by omega), hrd, if_pos hx, idxB, if_pos this]
    · obtain ⟨K, hK⟩ := at_loop F nm rd hrd s p hp he l (q ++ [e]) (by simp; omega)
      refine ev_succ ⟨K, fun k hk => ?_⟩
      have hK := hK k hk
      try dsimp only at hK ⊢
      have : ¬ p e = true := by rw [hp]; exact fun h => hx (beq_iff_eq.1 h)
      rw [List.append_assoc, List.singleton_append, List.length_append, List.length_singleton] at hK
      rw [he, if_pos hlt, if_pos (by omega), hrd, if_neg hx, wrap_mid q.length l.length (by omega), hK, idxB, if_neg this]
end Go.Proofs.Ytbgfdhabfgeglaa.Q
