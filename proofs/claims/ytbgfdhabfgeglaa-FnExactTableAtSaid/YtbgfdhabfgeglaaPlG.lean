/- Slices of structs, plainly: weights, copies, equality, by the form of the loop. -/
import Derived.Test.YtbgfdhabfgeglaaPlE
namespace Go.Proofs.Ytbgfdhabfgeglaa.Q
open Go Go.RowKit Go.Proofs.YtbgfdhabfgeglaaW.PrintWords Go.Proofs.YtbgfdhabfgeglaaW.PrintLast
set_option linter.unusedVariables false
set_option linter.unusedSimpArgs false

/-- A weight taken from the room that is left. -/
def Sz (g : Nat → Int → Option Int) (w : Int) : Prop := ∀ left : Int, 0 ≤ left → left ≤ 1048576 → Ev (fun k => g k left) (leftOf left w)
theorem sz_end : Sz (fun _ t => some t) 0 := fun left h0 h1 => ⟨0, fun k _ => by rw [leftOf_ge (by omega), Int.sub_zero]⟩
theorem sz_str {g rest : Nat → Int → Option Int} {w : Int} (s : ByteArray) (hs : s.size ≤ maxLen) (h : Sz rest w) (hw : 0 ≤ w) (he : ∀ k left, g k left = if wrap64 (left - (s.size : Int)) < 0 then some (-1) else rest k (wrap64 (left - (s.size : Int)))) : Sz g ((s.size : Int) + w) := by
  intro left h0 h1
  unfold maxLen at hs
  have e : wrap64 (left - (s.size : Int)) = left - (s.size : Int) := wrap_id (by omega) (by omega)
  by_cases hz : left - (s.size : Int) < 0
  · exact ⟨0, fun k _ => by show g k left = _; rw [he, e, if_pos hz, leftOf_lt (by omega)]⟩
  · obtain ⟨K, hK⟩ := h (left - (s.size : Int)) (by omega) (by omega)
    exact ⟨K, fun k hk => by show g k left = _; rw [he, e, if_neg hz]; exact (hK k hk).trans (by rw [leftOf_step (c := (s.size : Int) + w) (by omega) rfl])⟩
theorem sz_call {g c rest : Nat → Int → Option Int} {w1 w : Int} (hc : Sz c w1) (h1w : 0 ≤ w1) (h : Sz rest w) (hw : 0 ≤ w) (he : ∀ k left, g k left = (c k left).bind fun t => if t < 0 then some (-1) else rest k t) : Sz g (w1 + w) := by
  intro left h0 h1
  obtain ⟨K1, hK1⟩ := hc left h0 h1
  by_cases hz : left < w1
  · refine ⟨K1, fun k hk => ?_⟩
    have := hK1 k hk
    try dsimp only at this
    show g k left = _
    rw [he, this, leftOf_lt hz, Option.bind_some, if_pos (by decide), leftOf_lt (by omega)]
  · obtain ⟨K2, hK2⟩ := h (left - w1) (by omega) (by omega)
    refine ⟨K1 + K2, fun k hk => ?_⟩
    have a1 := hK1 k (by omega)
    have a2 := hK2 k (by omega)
    try dsimp only at a1 a2
    show g k left = _
    rw [he, a1, leftOf_ge hz, Option.bind_some, if_neg (by omega), a2, leftOf_step (c := w1 + w) hz rfl]
def sumW {α : Type} (W : α → Int) : List α → Int
  | [] => 0
  | e :: l => 1 + W e + sumW W l
theorem sumW_len {α : Type} (W : α → Int) (h : ∀ e, 0 ≤ W e) : ∀ l, (l.length : Int) ≤ sumW W l
  | [] => by simp [sumW]
  | e :: l => by have := sumW_len W h l; have := h e; simp only [sumW, List.length_cons]; omega
theorem sumW_nonneg {α : Type} (W : α → Int) (h : ∀ e, 0 ≤ W e) (l : List α) : 0 ≤ sumW W l := by have := sumW_len W h l; omega
theorem sumW_mem {α : Type} (W : α → Int) (h : ∀ e, 0 ≤ W e) : ∀ l, ∀ e ∈ l, W e ≤ sumW W l
  | x :: l, e, he => by
    have h1 := sumW_nonneg W h l
    have h2 := h x
    simp only [sumW]
    rcases List.mem_cons.1 he with rfl | he
    · omega
    · have := sumW_mem W h l e he; omega
theorem rd_mid_of {α : Type} {z : α} (rd : List α → Int → α) (hr : ∀ xs i, rd xs i = xs.getD i.toNat z) (p : List α) (e : α) (l : List α) : rd (p ++ e :: l) (p.length : Int) = e := by
  rw [hr, Int.toNat_natCast, List.getD_eq_getElem?_getD, List.getElem?_append_right (Nat.le_refl _)]
  simp
theorem sz_loop {α : Type} (F : Nat → List α → Int → Int → Option Int) (E : Nat → α → Int → Option Int) (rd : List α → Int → α) (W : α → Int) (hW : ∀ e, 0 ≤ W e) (hrd : ∀ p e l, rd (p ++ e :: l) (p.length : Int) = e)
    (he : ∀ k x0 x1 x5, F (k + 1) x0 x1 x5 = if x5 < (x0.length : Int) then (if 0 ≤ x5 then ((E k (rd x0 x5) x1).bind fun t => if t < 0 then some (-1) else F k x0 t (wrap64 (x5 + 1))) else none) else some x1) :
    ∀ (l p : List α), (∀ e ∈ l, Sz (fun k t => E k e t) (W e)) → p.length + l.length ≤ 9223372036854775806 → Sz (fun k t => F k (p ++ l) t (p.length : Int)) (sumW W l - l.length)
  | [], p, hE, hn => by
    intro left h0 h1
    refine ev_now fun k => ?_
    try dsimp only
    rw [he, if_neg (by simp), leftOf_ge (by simp [sumW]; omega)]
    simp [sumW]
  | e :: l, p, hE, hn => by
    intro left h0 h1
    have hlt : (p.length : Int) < ((p ++ e :: l).length : Int) := by simp only [List.length_append, List.length_cons]; omega
    have el : (e :: l).length = l.length + 1 := rfl
    have ew : sumW W (e :: l) = 1 + W e + sumW W l := rfl
    have hp1 := hW e
    have hp2 := sumW_len W hW l
    obtain ⟨K1, hK1⟩ := hE e List.mem_cons_self left h0 h1
    by_cases hz : left < W e
    · refine ev_succ ⟨K1, fun k hk => ?_⟩
      have hK1 := hK1 k hk
      try dsimp only at hK1 ⊢
      rw [he, if_pos hlt, if_pos (by omega), hrd, hK1, Option.bind_some, leftOf_lt hz, if_pos (by decide), leftOf_lt (by omega)]
    · obtain ⟨K2, hK2⟩ := sz_loop F E rd W hW hrd he l (p ++ [e]) (fun x hx => hE x (List.mem_cons_of_mem _ hx)) (by simp; omega) (left - W e) (by omega) (by omega)
      refine ev_succ ⟨K1 + K2, fun k hk => ?_⟩
      have hK1 := hK1 k (by omega)
      have hK2 := hK2 k (by omega)
      try dsimp only at hK1 hK2 ⊢
      rw [List.append_assoc, List.singleton_append, List.length_append, List.length_singleton] at hK2
      rw [he, if_pos hlt, if_pos (by omega), hrd, hK1, Option.bind_some, leftOf_ge hz, if_neg (by omega), wrap_mid p.length l.length (by omega), hK2, leftOf_step (c := sumW W (e :: l) - ((e :: l).length : Int)) hz (by omega)]
theorem sz_slice {α : Type} (f : Nat → Int → Option Int) (F : Nat → List α → Int → Int → Option Int) (W : α → Int) (hW : ∀ e, 0 ≤ W e) (l : List α) (hm : l.length ≤ 9223372036854775807)
    (hf : ∀ k left, f k left = if wrap64 (left - (l.length : Int)) < 0 then some (-1) else F k l (wrap64 (left - (l.length : Int))) 0)
    (hF : l.length ≤ 9223372036854775806 → Sz (fun k t => F k l t 0) (sumW W l - l.length)) : Sz f (sumW W l) := by
  intro left h0 h1
  have hw : wrap64 (left - (l.length : Int)) = left - (l.length : Int) := wrap_id (by omega) (by omega)
  have hp := sumW_len W hW l
  by_cases hz : left - (l.length : Int) < 0
  · exact ⟨0, fun k _ => by show f k left = _; rw [hf, hw, if_pos hz, leftOf_lt (by omega)]⟩
  · obtain ⟨K, hK⟩ := hF (by omega) (left - (l.length : Int)) (by omega) (by omega)
    refine ⟨K, fun k hk => ?_⟩
    have hK := hK k hk
    try dsimp only at hK
    show f k left = _
    rw [hf, hw, if_neg hz, hK, leftOf_step (c := sumW W l) (by omega) (by omega)]
theorem to_loop {α β γ : Type} (F : Nat → List α → List β → Int → Option (List β)) (E : Nat → α → Option γ) (mk : γ → β) (g : α → β) (rd : List α → Int → α) (hrd : ∀ p e l, rd (p ++ e :: l) (p.length : Int) = e)
    (he : ∀ k x0 x3 x4, F (k + 1) x0 x3 x4 = if x4 < (x0.length : Int) then (if 0 ≤ x4 then ((E k (rd x0 x4)).bind fun b => if x4 < (x3.length : Int) then F k x0 (x3.set x4.toNat (mk b)) (wrap64 (x4 + 1)) else none) else none) else some x3) :
    ∀ (l p : List α) (r : List β), (∀ e ∈ l, ∃ b, Ev (fun k => E k e) b ∧ mk b = g e) → r.length = l.length → p.length + l.length ≤ 9223372036854775806 → Ev (fun k => F k (p ++ l) (p.map g ++ r) (p.length : Int)) ((p ++ l).map g)
  | [], p, r, hE, hr, hn => by
    obtain rfl := List.length_eq_zero_iff.1 hr
    refine ev_now fun k => ?_
    try dsimp only
    rw [he, if_neg (by simp)]
    simp
  | e :: l, p, [], hE, hr, hn => by simp at hr
  | e :: l, p, z :: r, hE, hr, hn => by
    have hlt : (p.length : Int) < ((p ++ e :: l).length : Int) := by simp only [List.length_append, List.length_cons]; omega
    have hlt2 : (p.length : Int) < ((p.map g ++ z :: r).length : Int) := by simp only [List.length_append, List.length_cons, List.length_map]; omega
    have el : (e :: l).length = l.length + 1 := rfl
    obtain ⟨b, ⟨K1, hK1⟩, hb⟩ := hE e List.mem_cons_self
    obtain ⟨K2, hK2⟩ := to_loop F E mk g rd hrd he l (p ++ [e]) r (fun x hx => hE x (List.mem_cons_of_mem _ hx)) (by simpa using hr) (by simp; omega)
    refine ev_succ ⟨K1 + K2, fun k hk => ?_⟩
    have hK1 := hK1 k (by omega)
    have hK2 := hK2 k (by omega)
    try dsimp only at hK1 hK2 ⊢
    rw [List.append_assoc, List.singleton_append, List.length_append, List.length_singleton, List.map_append] at hK2
    rw [he, if_pos hlt, if_pos (by omega), hrd, hK1, Option.bind_some, if_pos hlt2, wrap_mid p.length l.length (by omega), Int.toNat_natCast]
    have e2 : (p.map g ++ z :: r).set p.length (mk b) = p.map g ++ [e].map g ++ r := by
      rw [List.set_append_right _ _ (by simp), List.length_map, Nat.sub_self, List.set_cons_zero, hb]
      simp
    rw [e2]
    exact hK2
theorem eq_loop {α : Type} (F : Nat → List α → List α → Int → Option Bool) (E : Nat → α → α → Option Bool) (rd : List α → Int → α) (hrd : ∀ p e l, rd (p ++ e :: l) (p.length : Int) = e)
    (he : ∀ k x0 x1 x5, F (k + 1) x0 x1 x5 = if x5 < (x0.length : Int) then (if 0 ≤ x5 then (if x5 < (x1.length : Int) then ((E k (rd x0 x5) (rd x1 x5)).bind fun t => if t = true then F k x0 x1 (wrap64 (x5 + 1)) else some false) else none) else none) else some true) :
    ∀ (l p : List α), (∀ e ∈ l, Ev (fun k => E k e e) true) → p.length + l.length ≤ 9223372036854775806 → Ev (fun k => F k (p ++ l) (p ++ l) (p.length : Int)) true
  | [], p, hE, hn => by
    refine ev_now fun k => ?_
    try dsimp only
    rw [he, if_neg (by simp)]
  | e :: l, p, hE, hn => by
    have hlt : (p.length : Int) < ((p ++ e :: l).length : Int) := by simp only [List.length_append, List.length_cons]; omega
    have el : (e :: l).length = l.length + 1 := rfl
    obtain ⟨K1, hK1⟩ := hE e List.mem_cons_self
    obtain ⟨K2, hK2⟩ := eq_loop F E rd hrd he l (p ++ [e]) (fun x hx => hE x (List.mem_cons_of_mem _ hx)) (by simp; omega)
    refine ev_succ ⟨K1 + K2, fun k hk => ?_⟩
    have hK1 := hK1 k (by omega)
    have hK2 := hK2 k (by omega)
    try dsimp only at hK1 hK2 ⊢
    rw [List.append_assoc, List.singleton_append, List.length_append, List.length_singleton] at hK2
    rw [he, if_pos hlt, if_pos (by omega), if_pos hlt, hrd, hK1, Option.bind_some, if_pos rfl, wrap_mid p.length l.length (by omega), hK2]
theorem szStrs (l : List ByteArray) (hm : l.length ≤ 9223372036854775807) (g : ∀ y ∈ l, y.size ≤ maxLen) : Sz (fun k t => laws_szStringS.f k l t) ((l.length : Int) + strW l) := fun left h0 h1 => szStringS_ev l hm g left h0 h1
theorem szExprs (l : List LE) (hm : l.length ≤ 9223372036854775807) (g : ∀ y ∈ l, GLE y) : Sz (fun k t => laws_szExprS.f k l t) (wLs l) := fun left h0 h1 => szExprS_ev l g hm left h0 h1
theorem eqStrs (l : List ByteArray) (hn : l.length ≤ 9223372036854775807) : Ev (fun k => laws_eqStringS.f k l l) true := by
  have := eqStringS_ev l l hn
  simpa using this
theorem eqExprs (l : List IE) (hn : nIs l ≤ 9223372036854775806) : Ev (fun k => laws_eqExprS.f k l l) true := by
  have := eqExprS_ev l l hn
  rwa [(eqIs_iff l l).2 rfl] at this
end Go.Proofs.Ytbgfdhabfgeglaa.Q
