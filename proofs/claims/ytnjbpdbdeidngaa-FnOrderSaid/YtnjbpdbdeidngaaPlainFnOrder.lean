/- The law FnOrder answers true at every code, with no condition. -/
import Derived.Test.YtnjbpdbdeidngaaStFnOrder
import Derived.Test.YtnjbpdbdeidngaaPlTx
import Derived.Test.YtnjbpdbdeidngaaPlL0
import Derived.Test.YtnjbpdbdeidngaaPlHr
import Derived.Test.YtnjbpdbdeidngaaQ22
import Derived.Test.YtnjbpdbdeidngaaQ4
namespace Go.Proofs.Ytnjbpdbdeidngaa.Q
open Go Go.RowKit Go.Proofs.YtnjbpdbdeidngaaW.PrintWords Go.Proofs.YtnjbpdbdeidngaaW.PrintLast
set_option linter.unusedVariables false
theorem impl_Before_eq (a b : ByteArray) : impl_Before.f a b = some (Op.bytesLess a.data.toList b.data.toList) := by
  unfold impl_Before.f
  rw [Lib.toList_data, Lib.toList_data]
theorem before_some (l : List Int) (hl : l.length ≤ 1048576) (h0 : Int) (K0 : Nat) (hK0 : ∀ k, K0 ≤ k → spec_l01New.f k l = some (l, 0, h0)) : ∃ a b : ByteArray, Ev (fun k => spec_DrawBefore.f k l) (a, b) ∧ a.size ≤ 100 ∧ b.size ≤ 100 := by
  obtain ⟨n, i1, h1, e1, hn0, hn1, hi1⟩ := below_some l hl 0 h0 4 (by omega)
  obtain ⟨n, rfl⟩ := Int.eq_ofNat_of_zero_le hn0
  obtain ⟨a, i2, h2, ⟨K2, hK2⟩, ha, hi2⟩ := text_some n (by have := hn1 (by omega); omega) l hl i1 h1 hi1
  obtain ⟨q, i3, h3, e3, hi3⟩ := once_some l hl i2 h2 3 hi2
  cases q with
  | true =>
    obtain ⟨x, i4, h4, e4, hx, _⟩ := pick_some l hl i3 h3 [⟨#[]⟩, ⟨#[97]⟩, ⟨#[46]⟩] (by simp) hi3
    have hxs : x.size ≤ 1 := by
      simp only [List.mem_cons, List.not_mem_nil, or_false] at hx
      rcases hx with rfl | rfl | rfl <;> decide
    refine ⟨a, a ++ x, ⟨K0 + K2, fun k hk => ?_⟩, by omega, by rw [ByteArray.size_append]; omega⟩
    have a0 := hK0 k (by omega)
    have a2 := hK2 k (by omega)
    try dsimp only at a2 ⊢
    simp only [spec_DrawBefore.f, a0, Option.bind_some, e1, a2, e3, if_true, e4]
    rw [if_pos (by omega)]
  | false =>
    obtain ⟨n2, i4, h4, e4, hn2, hn3, hi4⟩ := below_some l hl i3 h3 4 hi3
    obtain ⟨n2, rfl⟩ := Int.eq_ofNat_of_zero_le hn2
    obtain ⟨b, i5, h5, ⟨K5, hK5⟩, hb, _⟩ := text_some n2 (by have := hn3 (by omega); omega) l hl i4 h4 hi4
    refine ⟨a, b, ⟨K0 + K2 + K5, fun k hk => ?_⟩, by omega, by omega⟩
    have a0 := hK0 k (by omega)
    have a2 := hK2 k (by omega)
    have a5 := hK5 k (by omega)
    try dsimp only at a2 a5 ⊢
    simp only [spec_DrawBefore.f, a0, Option.bind_some, e1, a2, e3, Bool.false_eq_true, if_false, e4, a5]
/-- The rest of a list is rising, told from a place on. -/
def restR : ByteArray → List ByteArray → Bool → Bool
  | _, [], b => b
  | x, y :: l, b => restR y l (if b then Op.bytesLess x.data.toList y.data.toList else false)
theorem restR_eq : ∀ (l : List ByteArray) (x : ByteArray) (b : Bool), restR x l b = (b && risingB (x :: l))
  | [], x, b => by simp [restR, risingB]
  | y :: l, x, b => by
    rw [restR, restR_eq l y]
    cases b <;> simp [risingB]
theorem order_l0 (a b : ByteArray) (ha : a.size ≤ 100) (L : List ByteArray) (hL : L.length ≤ 100) : ∀ (l p : List ByteArray) (x : ByteArray) (c : Bool), L = p ++ x :: l → restR x l c = risingB L →
    Ev (fun k => laws_FnOrder.l0 k a b 1 L c ((p.length + 1 : Nat) : Int)) true
  | [], p, x, c, hp, hr => by
    obtain ⟨K1, hK1⟩ := spec_Before_ev a b (by omega)
    obtain ⟨K2, hK2⟩ := impl_Rising_ev L (by omega)
    refine ev_succ ⟨K1 + K2, fun k hk => ?_⟩
    have hK1 := hK1 k (by omega)
    have hK2 := hK2 k (by omega)
    try dsimp only at hK1 hK2 ⊢
    have hl : L.length = p.length + 1 := by rw [hp]; simp
    simp only [restR] at hr
    simp only [laws_FnOrder.l0]
    rw [if_neg (by omega), if_pos trivial, impl_Before_eq, Option.bind_some, hK1, Option.bind_some, if_pos (by simp), hK2, Option.bind_some, hr]
    simp
  | y :: l, p, x, c, hp, hr => by
    have hl : L.length = p.length + 1 + (l.length + 1) := by rw [hp]; simp; omega
    have hx : ∀ h : p.length < L.length, L[p.length] = x := by subst hp; intro h; simp
    have hy : ∀ h : p.length + 1 < L.length, L[p.length + 1] = y := by
      subst hp
      intro h
      rw [List.getElem_append_right (by omega)]
      simp
    have w1 : wrap64 (((p.length + 1 : Nat) : Int) - 1) = ((p.length : Nat) : Int) := by rw [wrap_id] <;> omega
    have w2 : wrap64 (((p.length + 1 : Nat) : Int) + 1) = (((p ++ [x]).length + 1 : Nat) : Int) := by rw [wrap_id] <;> simp <;> omega
    obtain ⟨K, hK⟩ := order_l0 a b ha L hL l (p ++ [x]) y (if c then Op.bytesLess x.data.toList y.data.toList else false) (by simp [hp]) (by rw [← hr, restR])
    refine ev_succ ⟨K, fun k hk => ?_⟩
    have hK := hK k hk
    try dsimp only at hK ⊢
    simp only [laws_FnOrder.l0]
    rw [w1, w2, if_pos (by omega)]
    cases c with
    | true =>
      rw [if_pos rfl, if_pos (by omega), if_pos (by omega), if_pos (by omega), rdOf_nat _ _ _ (by omega), rdOf_nat _ _ _ (by omega), hx (by omega), hy (by omega), impl_Before_eq, Option.bind_some]
      simpa using hK
    | false =>
      rw [if_neg (by simp)]
      simpa using hK
theorem order_start (a b : ByteArray) (ha : a.size ≤ 100) : ∀ (L : List ByteArray), L.length ≤ 100 → Ev (fun k => laws_FnOrder.l0 k a b 1 L true 1) true
  | [], hL => by
    obtain ⟨K1, hK1⟩ := spec_Before_ev a b (by omega)
    obtain ⟨K2, hK2⟩ := impl_Rising_ev [] (by simp)
    refine ev_succ ⟨K1 + K2, fun k hk => ?_⟩
    have hK1 := hK1 k (by omega)
    have hK2 := hK2 k (by omega)
    try dsimp only at hK1 hK2 ⊢
    simp only [laws_FnOrder.l0]
    rw [if_neg (by simp), if_pos trivial, impl_Before_eq, Option.bind_some, hK1, Option.bind_some, if_pos (by simp), hK2, Option.bind_some]
    rfl
  | x :: l, hL => order_l0 a b ha (x :: l) hL l [] x true rfl (by rw [restR_eq]; rfl)
theorem FnOrder_plain : laws_FnOrder.Plain := by
  intro l _ _
  by_cases hb : (l.length : Int) > 1048576
  · exact ⟨0, by simp [laws_FnOrder.f, big_eq, hb]⟩
  have hl : l.length ≤ 1048576 := by omega
  obtain ⟨h0, K0, hK0⟩ := new_ev l
  obtain ⟨a, b, ⟨K1, hK1⟩, ha, hb2⟩ := before_some l hl h0 K0 hK0
  obtain ⟨L, i1, h1, ⟨K2, hK2⟩, hL, _, _⟩ := list_some l hl 0 h0 (by omega)
  obtain ⟨K3, hK3⟩ := order_start a b ha L (by omega)
  obtain ⟨k, hk⟩ : ∃ k, k = K0 + K1 + K2 + K3 := ⟨_, rfl⟩
  have fin : ∀ j, k ≤ j → laws_FnOrder.j2 (j + 1) l a b 1 = some true := fun j hj => by
    have a0 := hK0 j (by omega)
    have a2 := hK2 j (by omega)
    have a3 := hK3 j (by omega)
    try dsimp only at a0 a2 a3
    simp only [laws_FnOrder.j2, spec_DrawRising.f, a0, Option.bind_some, a2]
    exact a3
  refine ⟨k + 3, ?_⟩
  have a1 := hK1 (k + 3) (by omega)
  try dsimp only at a1
  have f2 := fin k (by omega)
  simp only [laws_FnOrder.f, big_eq, decide_eq_false hb, Option.bind_some, Bool.false_eq_true, if_false, a1, laws_FnOrder.j0, laws_FnOrder.j1, impl_Before_eq]
  have w1 : wrap64 (0 + 1) = 1 := by simp [wrap64]
  have w0 : (0 : Int) + 1 = 1 := rfl
  by_cases he : a = b
  · subst he
    rw [bl_irrefl]
    simp only [Bool.false_eq_true, if_false, if_true]
    rw [w1]
    exact f2
  · have hne : ¬ a.toList = b.toList := fun e => he (str_eq.1 e)
    have hd : ¬ a.data.toList = b.data.toList := fun e => hne (by rw [Lib.toList_data, Lib.toList_data]; exact e)
    by_cases h1 : Op.bytesLess a.data.toList b.data.toList = true
    · have h2 : Op.bytesLess b.data.toList a.data.toList = false := by
        cases h : Op.bytesLess b.data.toList a.data.toList with
        | false => rfl
        | true =>
          have := bl_trans _ _ _ h1 h
          rw [bl_irrefl] at this
          cases this
      rw [h1, h2, if_pos rfl, if_neg (by simp), if_neg hne, w0]
      exact f2
    · have h1 : Op.bytesLess a.data.toList b.data.toList = false := by simpa using h1
      have h2 : Op.bytesLess b.data.toList a.data.toList = true := by
        rcases bl_total _ _ h1 with e | e
        · exact absurd e hd
        · exact e
      rw [h1, h2, if_neg (by simp), if_pos rfl, if_neg hne, w1]
      exact f2
end Go.Proofs.Ytnjbpdbdeidngaa.Q
