/- Conditions that are well made, plainly: what the reference and the program come to. -/
import Derived.Test.YtbbndlagginnoaaPlNo
import Derived.Test.YtbbndlagginnoaaPlN
import Derived.Test.YtbbndlagginnoaaFExprOk
import Derived.Test.YtbbndlagginnoaaQ18
import Derived.Test.YtbbndlagginnoaaQ21
import Derived.Test.YtbbndlagginnoaaQ22
namespace Go.Proofs.Ytbbndlagginnoaa.Q
open Go Go.RowKit Go.Proofs.YtbbndlagginnoaaW.PrintWords Go.Proofs.YtbbndlagginnoaaW.PrintLast
set_option linter.unusedVariables false
mutual
/-- How many bytes the texts of a condition have. -/
def wIE : IE → Nat
  | ⟨_, t, _, l⟩ => t.size + wIs l
def wIs : List IE → Nat
  | [] => 0
  | e :: l => wIE e + wIs l
end
def kidsB (a : Int) : Int := if a ≤ 5 then 0 else if a ≤ 7 then 1 else 2
def textB (a : Int) (t : ByteArray) : Bool := if a = 0 then nameB t else if a = 2 then decide (t.size ≤ 100) else decide (t.toList = [])
def numB (a m : Int) : Bool := if a = 1 then decide (0 ≤ m ∧ m ≤ 999999999) else decide (m = 0)
/-- Is a node well made, its kids aside? -/
def nodeB (a : Int) (t : ByteArray) (m : Int) (n : Nat) : Bool := decide (0 ≤ a ∧ a ≤ 18) && (decide ((n : Int) = kidsB a) && (textB a t && numB a m))
mutual
/-- Is a condition well made (its size aside)? -/
def okIE : IE → Bool
  | ⟨a, t, m, l⟩ => nodeB a t m l.length && okIs l
def okIs : List IE → Bool
  | [] => true
  | e :: l => okIE e && okIs l
end
theorem kidsOf_eq (a : Int) : impl_kidsOf.f a = some (kidsB a) := by
  unfold impl_kidsOf.f kidsB
  split
  · rfl
  · split <;> rfl
theorem nodeOk_eq (a : Int) (t : ByteArray) (m : Int) (n : Nat) : nodeOk a t m n = some (nodeB a t m n) := by
  unfold nodeOk nodeB
  by_cases r1 : 0 ≤ a ∧ a ≤ 18
  case neg => rw [if_pos r1, decide_eq_false r1, Bool.false_and]
  rw [if_neg (fun h => h r1), decide_eq_true r1, Bool.true_and, kidsOf_eq, Option.bind_some]
  by_cases lq : (n : Int) = kidsB a
  case neg => rw [if_pos lq, decide_eq_false lq, Bool.false_and]
  rw [if_neg (fun h => h lq), decide_eq_true lq, Bool.true_and, impl_NameOk_eq]
  unfold textB numB
  by_cases a0 : a = 0
  · rw [if_pos a0, if_pos a0, Option.bind_some, if_neg (show ¬ a = 1 by omega)]
    cases nameB t with
    | false => rw [if_pos rfl, Bool.false_and]
    | true =>
      rw [if_neg (by simp), if_neg (by omega), if_neg (by omega), if_neg (by omega), Bool.true_and]
      by_cases hm : m = 0
      · rw [if_neg (by omega), decide_eq_true hm]
      · rw [if_pos ⟨by omega, hm⟩, decide_eq_false hm]
  rw [if_neg a0, if_neg a0, Option.bind_some, if_neg (by simp)]
  by_cases a2 : a = 2
  · rw [if_pos a2, if_neg (show ¬ a = 1 by omega)]
    by_cases ts : t.size > 100
    · rw [if_pos ⟨a2, ts⟩, decide_eq_false (by omega), Bool.false_and]
    · rw [if_neg (by omega), if_neg (by omega), if_neg (by omega), decide_eq_true (by omega), Bool.true_and]
      by_cases hm : m = 0
      · rw [if_neg (by omega), decide_eq_true hm]
      · rw [if_pos ⟨by omega, hm⟩, decide_eq_false hm]
  rw [if_neg a2, if_neg (by omega)]
  by_cases te : t.toList = []
  case neg => rw [if_pos ⟨a0, a2, te⟩, decide_eq_false te, Bool.false_and]
  rw [if_neg (fun h => h.2.2 te), decide_eq_true te, Bool.true_and]
  by_cases a1 : a = 1
  · rw [if_pos a1]
    by_cases hm : 0 ≤ m ∧ m ≤ 999999999
    · rw [if_neg (fun h => h.2 hm), if_neg (by omega), decide_eq_true hm]
    · rw [if_pos ⟨a1, hm⟩, decide_eq_false hm]
  · rw [if_neg a1, if_neg (by omega)]
    by_cases hm : m = 0
    · rw [if_neg (by omega), decide_eq_true hm]
    · rw [if_pos ⟨a1, hm⟩, decide_eq_false hm]
mutual
theorem isF_e : ∀ (e : IE) (n : Int), 0 ≤ n → ∃ b n', Ev (fun k => isExprF k e.f0 e.f1 e.f2 e.f3 n) (b, n') ∧ b = (okIE e && decide ((nIE e : Int) ≤ n)) ∧ (b = true → n' = n - nIE e)
  | ⟨a, t, m, l⟩, n, h0 => by
    have en : nIE ⟨a, t, m, l⟩ = 1 + nIs l := by simp only [nIE]
    have eo : okIE ⟨a, t, m, l⟩ = (nodeB a t m l.length && okIs l) := by simp only [okIE]
    rw [en, eo]
    by_cases c1 : n - 1 < 0
    · refine ⟨false, n - 1, ev_now fun k => ?_, ?_, fun h => by cases h⟩
      · simp only [isExprF]
        rw [if_pos c1]
      · rw [decide_eq_false (by omega), Bool.and_false]
    · cases hb : nodeB a t m l.length with
      | false =>
        refine ⟨false, n - 1, ev_now fun k => ?_, by simp, fun h => by cases h⟩
        simp only [isExprF]
        rw [if_neg c1, nodeOk_eq, hb, Option.bind_some, if_pos rfl]
      | true =>
        obtain ⟨b, n', ⟨K, hK⟩, hb2, hn2⟩ := isF_l l (n - 1) (by omega)
        refine ⟨!b, n', ev_succ ⟨K, fun k hk => ?_⟩, ?_, fun h => ?_⟩
        · have hK := hK k hk
          try dsimp only at hK ⊢
          simp only [isExprF]
          rw [if_neg c1, nodeOk_eq, hb, Option.bind_some, if_neg (by simp), hK, Option.bind_some]
        · rw [hb2, Bool.not_not, Bool.true_and]
          congr 1
          rw [decide_eq_decide]
          omega
        · rw [hn2 (by simpa using h)]
          omega
theorem isF_l : ∀ (l : List IE) (n : Int), 0 ≤ n → ∃ b n', Ev (fun k => isExprAny k l n) (b, n') ∧ b = !(okIs l && decide ((nIs l : Int) ≤ n)) ∧ (b = false → n' = n - nIs l)
  | [], n, h0 => by
    refine ⟨false, n, ev_now fun k => ?_, ?_, fun _ => by simp [nIs]⟩
    · simp only [isExprAny]
    · simp [okIs, nIs, h0]
  | e :: l, n, h0 => by
    have en : nIs (e :: l) = nIE e + nIs l := by simp only [nIs]
    have eo : okIs (e :: l) = (okIE e && okIs l) := by simp only [okIs]
    rw [en, eo]
    obtain ⟨b1, n1, ⟨K1, hK1⟩, hb1, hn1⟩ := isF_e e n h0
    cases b1 with
    | false =>
      refine ⟨true, n1, ev_succ ⟨K1, fun k hk => ?_⟩, ?_, fun h => by cases h⟩
      · have hK1 := hK1 k hk
        try dsimp only at hK1 ⊢
        simp only [isExprAny]
        rw [hK1, Option.bind_some, if_neg (by simp)]
      · cases h1 : okIE e with
        | false => simp
        | true =>
          rw [h1, Bool.true_and] at hb1
          have := of_decide_eq_false hb1.symm
          rw [decide_eq_false (by omega), Bool.and_false]
          rfl
    | true =>
      have h2 : okIE e = true ∧ (nIE e : Int) ≤ n := by simpa using hb1.symm
      have h3 := hn1 rfl
      obtain ⟨b2, n2, ⟨K2, hK2⟩, hb2, hn2⟩ := isF_l l n1 (by omega)
      refine ⟨b2, n2, ev_succ ⟨K1 + K2, fun k hk => ?_⟩, ?_, fun h => ?_⟩
      · have hK1 := hK1 k (by omega)
        have hK2 := hK2 k (by omega)
        try dsimp only at hK1 hK2 ⊢
        simp only [isExprAny]
        rw [hK1, Option.bind_some, if_pos rfl, hK2]
      · rw [hb2, h2.1, Bool.true_and]
        congr 2
        rw [decide_eq_decide]
        omega
      · rw [hn2 h]
        omega
end
theorem impl_ExprOk_ev (e : IE) : Ev (fun k => impl_ExprOk.f k e.f0 e.f1 e.f2 e.f3) (okIE e && decide ((nIE e : Int) ≤ 40)) := by
  obtain ⟨b, n', ⟨K, hK⟩, hb, _⟩ := isF_e e 40 (by omega)
  refine ⟨K, fun k hk => ?_⟩
  have hK := hK k hk
  try dsimp only at hK ⊢
  simp only [impl_ExprOk.f, hK, Option.map_some, hb]
theorem l01In_eq (a x y : Int) : spec_l01In.f a x y = some (decide (x ≤ a ∧ a ≤ y)) := by
  unfold spec_l01In.f
  by_cases h : a ≥ x
  · rw [if_pos h]
    congr 1
    rw [decide_eq_decide]
    omega
  · rw [if_neg h, decide_eq_false (by omega)]
theorem l04Kids_eq (a : Int) : spec_l04Kids.f a = some (if 0 ≤ a ∧ a ≤ 18 then kidsB a else -1) := by
  unfold spec_l04Kids.f kidsB
  rw [l01In_eq, Option.bind_some]
  by_cases h : 0 ≤ a ∧ a ≤ 18
  · rw [decide_eq_true h, if_pos rfl, if_pos h]
    split
    · rfl
    · split <;> rfl
  · rw [decide_eq_false h, if_neg (by simp), if_neg h]
theorem shape_j1 {a m : Int} {t : ByteArray} {l : List IE} {r : Bool} (h : Ev (fun k => spec_l04Shape.l0 k 0 a t m l) r) (b : Bool) : Ev (fun k => spec_l04Shape.j1 k b a t m l) (!b && r) := by
  obtain ⟨K, hK⟩ := h
  refine ev_succ ⟨K, fun k hk => ?_⟩
  have hK := hK k hk
  try dsimp only at hK ⊢
  simp only [spec_l04Shape.j1]
  cases b with
  | true => rfl
  | false => rw [if_neg (by simp), hK]; rfl
theorem shape_j0 {a m : Int} {t : ByteArray} {l : List IE} {r : Bool} (h : Ev (fun k => spec_l04Shape.l0 k 0 a t m l) r) : Ev (fun k => spec_l04Shape.j0 k a t m l) (numB a m && r) := by
  unfold numB
  by_cases a1 : a = 1
  · rw [if_pos a1]
    obtain ⟨K, hK⟩ := shape_j1 h (!decide (0 ≤ m ∧ m ≤ 999999999))
    refine ev_succ ⟨K, fun k hk => ?_⟩
    have hK := hK k hk
    try dsimp only at hK ⊢
    simp only [spec_l04Shape.j0]
    rw [if_pos a1, l01In_eq, Option.bind_some]
    rw [Bool.not_not] at hK
    rw [← hK]
    cases decide (0 ≤ m ∧ m ≤ 999999999) <;> rfl
  · rw [if_neg a1]
    obtain ⟨K, hK⟩ := shape_j1 h (m != 0)
    refine ev_succ ⟨K, fun k hk => ?_⟩
    have hK := hK k hk
    try dsimp only at hK ⊢
    simp only [spec_l04Shape.j0]
    rw [if_neg a1, hK]
    congr 2
    by_cases hm : m = 0
    · subst hm; rfl
    · simp [hm]
mutual
theorem shape_ev : ∀ (e : IE), wIE e ≤ 9223372036854775806 → nIE e ≤ 9223372036854775806 → Ev (fun k => spec_l04Shape.f k e.f0 e.f1 e.f2 e.f3) (okIE e)
  | ⟨a, t, m, l⟩, hw, hn => by
    have en : nIE ⟨a, t, m, l⟩ = 1 + nIs l := by simp only [nIE]
    have ew : wIE ⟨a, t, m, l⟩ = t.size + wIs l := by simp only [wIE]
    have eo : okIE ⟨a, t, m, l⟩ = (nodeB a t m l.length && okIs l) := by simp only [okIE]
    have hl := nIs_len l
    have H := shape_l ⟨a, t, m, []⟩ l [] (by omega) (by omega) (by simp; omega)
    simp only [List.nil_append, List.length_nil, Int.natCast_zero] at H
    obtain ⟨K, hK⟩ := shape_j0 H
    obtain ⟨K2, hK2⟩ := spec_NameOk_ev t (by omega)
    rw [eo]
    refine ev_succ ⟨K + K2, fun k hk => ?_⟩
    have hK := hK k (by omega)
    have hK2 := hK2 k (by omega)
    try dsimp only at hK hK2 ⊢
    simp only [spec_l04Shape.f]
    rw [l04Kids_eq, Option.bind_some]
    unfold nodeB
    by_cases r1 : 0 ≤ a ∧ a ≤ 18
    case neg => rw [if_neg r1, if_neg (by omega), decide_eq_false r1, Bool.false_and, Bool.false_and]
    rw [if_pos r1, decide_eq_true r1, Bool.true_and]
    by_cases lq : (l.length : Int) = kidsB a
    case neg => rw [if_neg lq, decide_eq_false lq, Bool.false_and, Bool.false_and]
    rw [if_pos lq, decide_eq_true lq, Bool.true_and, hK, hK2, Bool.and_assoc]
    unfold textB
    by_cases a0 : a = 0
    · rw [if_pos a0, if_pos a0, Option.bind_some]
      cases nameB t <;> rfl
    rw [if_neg a0, if_neg a0]
    by_cases a2 : a = 2
    · rw [if_pos a2, if_pos a2]
      by_cases ts : (t.size : Int) > 100
      · rw [if_pos ts, decide_eq_false (by omega), Bool.false_and]
      · rw [if_neg ts, decide_eq_true (by omega), Bool.true_and]
    · rw [if_neg a2, if_neg a2]
      by_cases te : t.toList = []
      · rw [if_pos te, decide_eq_true te, Bool.true_and]
      · rw [if_neg te, decide_eq_false te, Bool.false_and]
theorem shape_l : ∀ (o : IE) (l p : List IE), wIs l ≤ 9223372036854775806 → nIs l ≤ 9223372036854775806 → p.length + l.length ≤ 9223372036854775806 →
    Ev (fun k => spec_l04Shape.l0 k (p.length : Int) o.f0 o.f1 o.f2 (p ++ l)) (okIs l)
  | o, [], p, hw, hn, hs => by
    refine ev_now fun k => ?_
    simp only [spec_l04Shape.l0, List.append_nil]
    rw [if_neg (by omega)]
    simp [okIs]
  | o, e :: l, p, hw, hn, hs => by
    have hlt : (p.length : Int) < ((p ++ e :: l).length : Int) := by simp only [List.length_append, List.length_cons]; omega
    have el : (e :: l).length = l.length + 1 := rfl
    have en : nIs (e :: l) = nIE e + nIs l := by simp only [nIs]
    have ew : wIs (e :: l) = wIE e + wIs l := by simp only [wIs]
    have eo : okIs (e :: l) = (okIE e && okIs l) := by simp only [okIs]
    obtain ⟨K1, hK1⟩ := shape_ev e (by omega) (by omega)
    obtain ⟨K2, hK2⟩ := shape_l o l (p ++ [e]) (by omega) (by omega) (by simp; omega)
    refine ev_succ ⟨K1 + K2, fun k hk => ?_⟩
    have hK1 := hK1 k (by omega)
    have hK2 := hK2 k (by omega)
    try dsimp only at hK1 hK2 ⊢
    simp only [spec_l04Shape.l0]
    rw [List.append_assoc, List.singleton_append, List.length_append, List.length_singleton] at hK2
    rw [if_pos hlt, if_pos (by omega), rdI_mid, hK1, Option.bind_some, wrap_mid p.length l.length (by omega), hK2, eo]
    cases okIE e <;> rfl
end
theorem spec_ExprOk_ev (e : IE) (hw : wIE e ≤ 9223372036854775806) (hn : nIE e ≤ 9223372036854775806) : Ev (fun k => spec_ExprOk.f k e.f0 e.f1 e.f2 e.f3) (okIE e && decide ((nIE e : Int) ≤ 40)) := by
  obtain ⟨K1, hK1⟩ := spec_Nodes_ev e hn
  obtain ⟨K2, hK2⟩ := shape_ev e hw hn
  refine ⟨K1 + K2, fun k hk => ?_⟩
  have hK1 := hK1 k (by omega)
  have hK2 := hK2 k (by omega)
  try dsimp only at hK1 hK2 ⊢
  simp only [spec_ExprOk.f]
  rw [hK1, Option.bind_some]
  by_cases h : (nIE e : Int) ≤ 40
  · rw [if_pos h, hK2, Option.bind_some, decide_eq_true h, Bool.and_true]
  · rw [if_neg h, decide_eq_false h, Bool.and_false]
end Go.Proofs.Ytbbndlagginnoaa.Q
