/- The law FnNodes answers true at every code, with no condition. -/
import Derived.Test.YtbbndlagginnoaaStFnNodes
import Derived.Test.YtbbndlagginnoaaPlM
namespace Go.Proofs.Ytbbndlagginnoaa.Q
open Go Go.RowKit Go.Proofs.YtbbndlagginnoaaW.PrintWords Go.Proofs.YtbbndlagginnoaaW.PrintLast
theorem FnNodes_l0 (e : IE) (hw : wIE e ≤ 1000000) (hn : nIE e ≤ 1000000) : ∀ (l p : List IE) (n : Nat), e.f3 = p ++ l → n + nIs l = nIE e →
    Ev (fun k => laws_FnNodes.l0 k (n : Int) (p.length : Int) e.f0 e.f1 e.f2 e.f3) true
  | [], p, n, hp, hs => by
    obtain ⟨K1, hK1⟩ := impl_Nodes_ev e (by omega)
    obtain ⟨K2, hK2⟩ := spec_Nodes_ev e (by omega)
    have e6 : nIE ⟨6, (⟨#[]⟩ : ByteArray), 0, [e]⟩ = nIE e + 1 := by simp only [nIE, nIs]; omega
    obtain ⟨K3, hK3⟩ := impl_Nodes_ev ⟨6, (⟨#[]⟩ : ByteArray), 0, [e]⟩ (by omega)
    obtain ⟨K4, hK4⟩ := impl_ExprOk_ev ⟨6, (⟨#[]⟩ : ByteArray), 0, [e]⟩
    obtain ⟨K5, hK5⟩ := spec_ExprOk_ev e (by omega) (by omega)
    refine ev_succ ⟨K1 + K2 + K3 + K4 + K5, fun k hk => ?_⟩
    have hK1 := hK1 k (by omega)
    have hK2 := hK2 k (by omega)
    have hK3 := hK3 k (by omega)
    have hK4 := hK4 k (by omega)
    have hK5 := hK5 k (by omega)
    rw [e6] at hK3 hK4
    have o6 : okIE ⟨6, (⟨#[]⟩ : ByteArray), 0, [e]⟩ = okIE e := by
      have t0 : (⟨#[]⟩ : ByteArray).toList = [] := by rw [Lib.toList_data]
      have : nodeB 6 (⟨#[]⟩ : ByteArray) 0 1 = true := by simp [nodeB, kidsB, textB, numB, t0]
      simp only [okIE, okIs, Bool.and_true, List.length_singleton, this, Bool.true_and]
    rw [o6] at hK4
    simp only [nIs, Nat.add_zero] at hs
    subst hs
    have hlen : p.length = e.f3.length := by rw [hp]; simp
    try dsimp only at hK1 hK2 hK3 hK4 hK5 ⊢
    simp only [laws_FnNodes.l0]
    rw [if_neg (by omega)]
    simp only [Option.bind_some, hK1, hK2, if_true]
    cases e with
    | mk a t m l =>
    try dsimp only at hK3 hK4 hK5 ⊢
    rw [hK3, Option.bind_some, wrap_id (by omega) (by omega), if_pos (by omega), hK4, Option.bind_some, hK5, Option.bind_some]
    by_cases h1 : okIE ⟨a, t, m, l⟩ = true
    · by_cases h2 : (nIE ⟨a, t, m, l⟩ : Int) ≤ 40
      · rw [h1, decide_eq_true h2]
        simp
        omega
      · rw [h1, decide_eq_false h2]
        simp
        omega
    · simp only [Bool.not_eq_true] at h1
      rw [h1]
      simp
  | x :: l, p, n, hp, hs => by
    have hlt : (p.length : Int) < (e.f3.length : Int) := by rw [hp]; simp only [List.length_append, List.length_cons]; omega
    have en : nIs (x :: l) = nIE x + nIs l := by simp only [nIs]
    have hl3 := nIs_len e.f3
    have hne : nIE e = 1 + nIs e.f3 := by cases e; simp only [nIE]
    obtain ⟨K1, hK1⟩ := impl_Nodes_ev x (by omega)
    obtain ⟨K2, hK2⟩ := FnNodes_l0 e hw hn l (p ++ [x]) (n + nIE x) (by simp [hp]) (by omega)
    refine ev_succ ⟨K1 + K2, fun k hk => ?_⟩
    have hK1 := hK1 k (by omega)
    have hK2 := hK2 k (by omega)
    try dsimp only at hK1 hK2 ⊢
    simp only [laws_FnNodes.l0]
    rw [List.length_append, List.length_singleton] at hK2
    have hr : rd_T40 e.f3 (p.length : Int) = x := by rw [hp]; exact rdI_mid p x l
    rw [if_pos hlt, if_pos (by omega), hr, hK1, Option.bind_some, wrap_mid p.length 0 (by omega), wrap_id (by omega) (by omega)]
    rw [show ((n : Int) + (nIE x : Int)) = ((n + nIE x : Nat) : Int) by omega]
    exact hK2
theorem FnNodes_plain : laws_FnNodes.Plain := by
  intro l _ _
  by_cases hb : (l.length : Int) > 1048576
  · exact ⟨0, by simp [laws_FnNodes.f, big_eq, hb]⟩
  have hl : l.length ≤ 1048576 := by omega
  obtain ⟨h0, K0, hK0⟩ := new_ev l
  obtain ⟨e, i1, h1, ⟨K1, hK1⟩, hi1, hn, ha⟩ := odd_some l hl 0 h0 (by omega)
  have hw := wIE_le e (allT_imp drawnT_size e ha)
  have en : nIE e = 1 + nIs e.f3 := by cases e; simp only [nIE]
  obtain ⟨K2, hK2⟩ := FnNodes_l0 e (by omega) (by omega) e.f3 [] 1 rfl en.symm
  refine ⟨K0 + K1 + K2, ?_⟩
  have a0 := hK0 (K0 + K1 + K2) (by omega)
  have a1 := hK1 (K0 + K1 + K2) (by omega)
  have a2 := hK2 (K0 + K1 + K2) (by omega)
  try dsimp only at a0 a1 a2
  simp only [laws_FnNodes.f, big_eq, decide_eq_false hb, Option.bind_some, Bool.false_eq_true, if_false, spec_DrawNodes.f, a0, a1]
  exact a2
end Go.Proofs.Ytbbndlagginnoaa.Q
