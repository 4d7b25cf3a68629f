/- Conditions as trees, plainly: what the laws' own helpers come to (weights, copies, equality). -/
import Derived.Test.YtbgfdhabfgeglaaPlA
import Derived.Test.YtbgfdhabfgeglaaPlE0
import Derived.Test.YtbgfdhabfgeglaaQ1
import Derived.Test.YtbgfdhabfgeglaaQ2
import Derived.Test.YtbgfdhabfgeglaaQ3
import Derived.Test.YtbgfdhabfgeglaaQOpn
namespace Go.Proofs.Ytbgfdhabfgeglaa.Q
open Go Go.RowKit Go.Proofs.YtbgfdhabfgeglaaW.PrintWords Go.Proofs.YtbgfdhabfgeglaaW.PrintLast
set_option linter.unusedVariables false
/-- A condition as the laws' own type has it. -/
abbrev LE := S184
abbrev GLE : LE → Prop := G184
theorem rdL_mid (p : List LE) (e : LE) (l : List LE) : rd_T184 (p ++ e :: l) (p.length : Int) = e := by
  unfold rd_T184
  rw [Int.toNat_natCast, List.getD_eq_getElem?_getD, List.getElem?_append_right (Nat.le_refl _)]
  simp
mutual
/-- How much a condition weighs: the bytes of its texts, and the kids. -/
def wLE : LE → Int
  | ⟨_, b, _, l⟩ => (b.size : Int) + wLs l
def wLs : List LE → Int
  | [] => 0
  | e :: l => 1 + wLE e + wLs l
end
mutual
theorem wLE_nonneg : ∀ e, 0 ≤ wLE e
  | ⟨_, b, _, l⟩ => by have := wLs_len l; simp only [wLE]; omega
theorem wLs_len : ∀ l, (l.length : Int) ≤ wLs l
  | [] => by simp [wLs]
  | e :: l => by have := wLE_nonneg e; have := wLs_len l; simp only [wLs, List.length_cons]; omega
end
theorem wLs_nonneg (l : List LE) : 0 ≤ wLs l := by have := wLs_len l; omega
theorem gLE_kids {e : LE} (g : GLE e) : (∀ y ∈ e.f3, GLE y) ∧ e.f1.size ≤ maxLen ∧ e.f3.length ≤ 9223372036854775807 := by cases g with | mk h0 h1 h2 m3 h3 => exact ⟨h3, h1, m3⟩
/-- What is left of the room behind a weight, or -1. -/
def leftOf (left w : Int) : Int := if left < w then -1 else left - w
theorem leftOf_lt {left w : Int} (h : left < w) : leftOf left w = -1 := if_pos h
theorem leftOf_ge {left w : Int} (h : ¬ left < w) : leftOf left w = left - w := if_neg h
theorem leftOf_step {left a b c : Int} (h : ¬ left < a) (e : c = a + b) : leftOf (left - a) b = leftOf left c := by
  unfold leftOf
  by_cases h2 : left - a < b
  · rw [if_pos h2, if_pos (by omega)]
  · rw [if_neg h2, if_neg (by omega)]; omega
theorem szS_f (l : List LE) (left : Int) (hm : l.length ≤ 9223372036854775807) (h0 : 0 ≤ left) (h1 : left ≤ 1048576)
    (ih : ∀ left', 0 ≤ left' → left' ≤ 1048576 → Ev (fun k => laws_szExprS.l0 k l left' 0) (leftOf left' (wLs l - l.length))) :
    Ev (fun k => laws_szExprS.f k l left) (leftOf left (wLs l)) := by
  have hw : wrap64 (left - (l.length : Int)) = left - (l.length : Int) := wrap_id (by omega) (by omega)
  have hp := wLs_len l
  by_cases hz : left - (l.length : Int) < 0
  · refine ev_now fun k => ?_
    simp only [laws_szExprS.f]
    rw [hw, if_pos hz, leftOf_lt (by omega)]
  · obtain ⟨K, hK⟩ := ih (left - (l.length : Int)) (by omega) (by omega)
    refine ev_succ ⟨K, fun k hk => ?_⟩
    have hK := hK k hk
    try dsimp only at hK ⊢
    simp only [laws_szExprS.f]
    rw [hw, if_neg hz, hK, leftOf_step (c := wLs l) (by omega) (by omega)]
mutual
theorem szE_ev : ∀ (e : LE), GLE e → ∀ left : Int, 0 ≤ left → left ≤ 1048576 → Ev (fun k => laws_szExpr.f k e.f0 e.f1 e.f2 e.f3 left) (leftOf left (wLE e))
  | ⟨a, b, c, l⟩, g, left, h0, h1 => by
    have hb := (gLE_kids g).2.1
    have hm := (gLE_kids g).2.2
    have hk := (gLE_kids g).1
    unfold maxLen at hb
    dsimp only at hb hk hm ⊢
    have hw : wrap64 (left - (b.size : Int)) = left - (b.size : Int) := wrap_id (by omega) (by omega)
    have hp := wLs_nonneg l
    have ew : wLE ⟨a, b, c, l⟩ = (b.size : Int) + wLs l := by simp only [wLE]
    by_cases hz : left - (b.size : Int) < 0
    · refine ev_now fun k => ?_
      simp only [laws_szExpr.f]
      rw [hw, if_pos hz, leftOf_lt (by omega)]
    · obtain ⟨K, hK⟩ := szS_f l (left - (b.size : Int)) hm (by omega) (by omega) (fun left' h2 h3 => szL_ev l [] hk (by simpa using hm) left' h2 h3)
      refine ev_succ ⟨K, fun k hk => ?_⟩
      have hK := hK k hk
      try dsimp only at hK ⊢
      simp only [laws_szExpr.f]
      rw [hw, if_neg hz, hK, Option.bind_some, leftOf_step (by omega) ew]
      by_cases h2 : left < wLE ⟨a, b, c, l⟩
      · rw [leftOf_lt h2]; rfl
      · rw [leftOf_ge h2, if_neg (by omega)]
theorem szL_ev : ∀ (l p : List LE), (∀ y ∈ l, GLE y) → p.length + l.length ≤ 9223372036854775807 → ∀ left : Int, 0 ≤ left → left ≤ 1048576 → Ev (fun k => laws_szExprS.l0 k (p ++ l) left (p.length : Int)) (leftOf left (wLs l - l.length))
  | [], p, g, hm, left, h0, h1 => by
    refine ev_now fun k => ?_
    have ew : wLs [] = 0 := by simp only [wLs]
    simp only [laws_szExprS.l0, List.append_nil]
    rw [if_neg (by omega), leftOf_ge (by rw [ew]; simp; omega), ew]
    simp
  | e :: l, p, g, hm, left, h0, h1 => by
    have hlt : (p.length : Int) < ((p ++ e :: l).length : Int) := by simp only [List.length_append, List.length_cons]; omega
    have ge := g e List.mem_cons_self
    have el : (e :: l).length = l.length + 1 := rfl
    have ew : wLs (e :: l) = 1 + wLE e + wLs l := by simp only [wLs]
    have hp1 := wLE_nonneg e
    have hp2 := wLs_len l
    obtain ⟨K1, hK1⟩ := szE_ev e ge left h0 h1
    by_cases hz : left < wLE e
    · refine ev_succ ⟨K1, fun k hk => ?_⟩
      have hK1 := hK1 k hk
      try dsimp only at hK1 ⊢
      simp only [laws_szExprS.l0]
      rw [if_pos hlt, if_pos (by omega), rdL_mid, hK1, Option.bind_some, leftOf_lt hz, if_pos (by decide), leftOf_lt (by omega)]
    · obtain ⟨K2, hK2⟩ := szL_ev l (p ++ [e]) (fun y hy => g y (List.mem_cons_of_mem _ hy)) (by simp; omega) (left - wLE e) (by omega) (by omega)
      refine ev_succ ⟨K1 + K2, fun k hk => ?_⟩
      have hK1 := hK1 k (by omega)
      have hK2 := hK2 k (by omega)
      try dsimp only at hK1 hK2 ⊢
      simp only [laws_szExprS.l0]
      rw [List.append_assoc, List.singleton_append, List.length_append, List.length_singleton] at hK2
      rw [if_pos hlt, if_pos (by omega), rdL_mid, hK1, Option.bind_some, leftOf_ge hz, if_neg (by omega), wrap_mid p.length l.length (by omega), hK2, leftOf_step (c := wLs (e :: l) - ((e :: l).length : Int)) hz (by omega)]
end
theorem szExprS_ev (l : List LE) (g : ∀ y ∈ l, GLE y) (hm : l.length ≤ 9223372036854775807) (left : Int) (h0 : 0 ≤ left) (h1 : left ≤ 1048576) : Ev (fun k => laws_szExprS.f k l left) (leftOf left (wLs l)) :=
  szS_f l left hm h0 h1 (fun left' h2 h3 => szL_ev l [] g (by simpa using hm) left' h2 h3)
mutual
/-- The same condition as the program has it. -/
def toIE : LE → IE
  | ⟨a, b, c, l⟩ => ⟨a, b, c, toIs l⟩
def toIs : List LE → List IE
  | [] => []
  | e :: l => toIE e :: toIs l
end
theorem toIs_len : ∀ l, (toIs l).length = l.length
  | [] => by simp [toIs]
  | e :: l => by simp [toIs, toIs_len l]
theorem toIs_append : ∀ l m, toIs (l ++ m) = toIs l ++ toIs m
  | [], m => by simp [toIs]
  | e :: l, m => by simp [toIs, toIs_append l m]
mutual
theorem toE_ev : ∀ (e : LE), wLE e ≤ 1048576 → Ev (fun k => laws_toExpr.f k e.f0 e.f1 e.f2 e.f3) (e.f0, e.f1, e.f2, toIs e.f3)
  | ⟨a, b, c, l⟩, hw => by
    have ew : wLE ⟨a, b, c, l⟩ = (b.size : Int) + wLs l := by simp only [wLE]
    have hl := wLs_len l
    obtain ⟨K, hK⟩ := toL_ev l [] (List.replicate l.length z137) (by omega) (by simp) (by simp; omega)
    refine ev_succ ⟨K + 1, fun k hk => ?_⟩
    obtain ⟨k, rfl⟩ : ∃ m, k = m + 1 := ⟨k - 1, by omega⟩
    have hK := hK k (by omega)
    try dsimp only at hK ⊢
    simp only [toIs, List.nil_append, List.length_nil, Int.natCast_zero] at hK
    simp only [laws_toExpr.f, laws_toExprS.f]
    rw [if_pos (by omega), Int.toNat_natCast, if_pos (by omega), hK, Option.bind_some]
theorem toL_ev : ∀ (l p : List LE) (r : List IE), wLs l ≤ 1048576 → r.length = l.length → p.length + l.length ≤ 9223372036854775806 → Ev (fun k => laws_toExprS.l0 k (p ++ l) (toIs p ++ r) (p.length : Int)) (toIs (p ++ l))
  | [], p, r, hw, hr, hn => by
    obtain rfl := List.length_eq_zero_iff.1 hr
    refine ev_now fun k => ?_
    simp only [laws_toExprS.l0, List.append_nil]
    rw [if_neg (by omega)]
  | e :: l, p, r, hw, hr, hn => by
    match r, hr with
    | z :: r, hr =>
      have hlt : (p.length : Int) < ((p ++ e :: l).length : Int) := by simp only [List.length_append, List.length_cons]; omega
      have hlt2 : (p.length : Int) < ((toIs p ++ z :: r).length : Int) := by simp only [List.length_append, List.length_cons, toIs_len]; omega
      have el : (e :: l).length = l.length + 1 := rfl
      have ew : wLs (e :: l) = 1 + wLE e + wLs l := by simp only [wLs]
      have hp1 := wLE_nonneg e
      have hp2 := wLs_nonneg l
      have hr' : r.length = l.length := by simpa using hr
      obtain ⟨K1, hK1⟩ := toE_ev e (by omega)
      obtain ⟨K2, hK2⟩ := toL_ev l (p ++ [e]) r (by omega) hr' (by simp; omega)
      refine ev_succ ⟨K1 + K2, fun k hk => ?_⟩
      have hK1 := hK1 k (by omega)
      have hK2 := hK2 k (by omega)
      try dsimp only at hK1 hK2 ⊢
      simp only [laws_toExprS.l0]
      rw [List.append_assoc, List.singleton_append, List.length_append, List.length_singleton] at hK2
      rw [if_pos hlt, if_pos (by omega), rdL_mid, hK1, Option.bind_some, if_pos hlt2, wrap_mid p.length l.length (by omega), Int.toNat_natCast]
      have e2 : (toIs p ++ z :: r).set p.length (⟨e.f0, e.f1, e.f2, toIs e.f3⟩ : IE) = toIs (p ++ [e]) ++ r := by
        rw [List.set_append_right _ _ (by rw [toIs_len]; exact Nat.le_refl _), toIs_len, Nat.sub_self, List.set_cons_zero, toIs_append]
        cases e
        simp [toIs, toIE]
      rw [e2]
      exact hK2
end
theorem toExprS_ev (l : List LE) (hw : wLs l ≤ 1048576) : Ev (fun k => laws_toExprS.f k l) (toIs l) := by
  have hl := wLs_len l
  obtain ⟨K, hK⟩ := toL_ev l [] (List.replicate l.length z137) hw (by simp) (by simp; omega)
  refine ev_succ ⟨K, fun k hk => ?_⟩
  have hK := hK k hk
  try dsimp only at hK ⊢
  simp only [toIs, List.nil_append, List.length_nil, Int.natCast_zero] at hK
  simp only [laws_toExprS.f]
  rw [if_pos (by omega), Int.toNat_natCast, if_pos (by omega), hK]
mutual
theorem nIE_to : ∀ e : LE, (nIE (toIE e) : Int) ≤ 1 + wLE e
  | ⟨a, b, c, l⟩ => by have := nIs_to l; simp only [toIE, nIE, wLE]; omega
theorem nIs_to : ∀ l : List LE, (nIs (toIs l) : Int) ≤ wLs l
  | [] => by simp [toIs, nIs, wLs]
  | e :: l => by have := nIE_to e; have := nIs_to l; simp only [toIs, nIs, wLs]; omega
end
mutual
theorem eqE_ev : ∀ (e e' : IE), nIE e ≤ 9223372036854775806 → Ev (fun k => laws_eqExpr.f k e.f0 e.f1 e.f2 e.f3 e'.f0 e'.f1 e'.f2 e'.f3) (eqIE e e')
  | ⟨a, b, c, l⟩, ⟨a', b', c', l'⟩, hn => by
    have hl := nIs_len l
    have en : nIE ⟨a, b, c, l⟩ = 1 + nIs l := by simp only [nIE]
    by_cases h1 : a = a'
    · by_cases h2 : b = b'
      · by_cases h3 : c = c'
        · by_cases hlen : l.length = l'.length
          · obtain ⟨K, hK⟩ := eqL_ev l l' [] [] rfl hlen (by omega) (by simp; omega)
            refine ev_succ ⟨K + 1, fun k hk => ?_⟩
            obtain ⟨k, rfl⟩ : ∃ m, k = m + 1 := ⟨k - 1, by omega⟩
            have hK := hK k (by omega)
            try dsimp only at hK ⊢
            simp only [List.nil_append, List.length_nil, Int.natCast_zero] at hK
            simp only [laws_eqExpr.f, laws_eqExprS.f]
            rw [if_pos h1, if_pos (str_eq.2 h2), if_pos h3, if_pos (by omega), hK, Option.bind_some]
            simp only [eqIE, decide_eq_true h1, decide_eq_true h2, decide_eq_true h3, Bool.true_and]
            cases eqIs l l' <;> rfl
          · refine ev_succ ⟨1, fun k hk => ?_⟩
            obtain ⟨k, rfl⟩ : ∃ m, k = m + 1 := ⟨k - 1, by omega⟩
            simp only [laws_eqExpr.f, laws_eqExprS.f]
            rw [if_pos h1, if_pos (str_eq.2 h2), if_pos h3, if_neg (by omega)]
            simp [eqIE, h1, h2, h3, eqIs_ne l l' hlen]
        · refine ev_now fun k => ?_
          simp only [laws_eqExpr.f]
          rw [if_pos h1, if_pos (str_eq.2 h2), if_neg h3]
          simp [eqIE, h1, h2, h3]
      · refine ev_now fun k => ?_
        simp only [laws_eqExpr.f]
        rw [if_pos h1, if_neg (fun e => h2 (str_eq.1 e))]
        simp [eqIE, h1, h2]
    · refine ev_now fun k => ?_
      simp only [laws_eqExpr.f]
      rw [if_neg h1]
      simp [eqIE, h1]
theorem eqL_ev : ∀ (l l' p p' : List IE), p.length = p'.length → l.length = l'.length → nIs l ≤ 9223372036854775806 → p.length + l.length ≤ 9223372036854775806 →
    Ev (fun k => laws_eqExprS.l0 k (p ++ l) (p' ++ l') (p.length : Int)) (eqIs l l')
  | [], l', p, p', hp, hl, hn, hs => by
    obtain rfl := List.length_eq_zero_iff.1 hl.symm
    refine ev_now fun k => ?_
    simp only [laws_eqExprS.l0, List.append_nil]
    rw [if_neg (by omega)]
    simp [eqIs]
  | e :: l, [], p, p', hp, hl, hn, hs => by simp at hl
  | e :: l, e' :: l', p, p', hp, hl, hn, hs => by
    have hlt : (p.length : Int) < ((p ++ e :: l).length : Int) := by simp only [List.length_append, List.length_cons]; omega
    have hlt2 : (p.length : Int) < ((p' ++ e' :: l').length : Int) := by simp only [List.length_append, List.length_cons]; omega
    have el : (e :: l).length = l.length + 1 := rfl
    have en : nIs (e :: l) = nIE e + nIs l := by simp only [nIs]
    have r2 : rd_T137 (p' ++ e' :: l') (p.length : Int) = e' := by rw [hp]; exact rdI_mid p' e' l'
    obtain ⟨K1, hK1⟩ := eqE_ev e e' (by omega)
    obtain ⟨K2, hK2⟩ := eqL_ev l l' (p ++ [e]) (p' ++ [e']) (by simp [hp]) (by simpa using hl) (by omega) (by simp; omega)
    refine ev_succ ⟨K1 + K2, fun k hk => ?_⟩
    have hK1 := hK1 k (by omega)
    have hK2 := hK2 k (by omega)
    try dsimp only at hK1 hK2 ⊢
    simp only [laws_eqExprS.l0]
    rw [List.append_assoc, List.singleton_append, List.append_assoc, List.singleton_append, List.length_append, List.length_singleton] at hK2
    rw [if_pos hlt, if_pos (by omega), if_pos hlt2, rdI_mid, r2, hK1, Option.bind_some, wrap_mid p.length l.length (by omega), hK2]
    simp only [eqIs]
    cases eqIE e e' <;> rfl
end
theorem eqExprS_ev (l l' : List IE) (hn : nIs l ≤ 9223372036854775806) : Ev (fun k => laws_eqExprS.f k l l') (eqIs l l') := by
  have hl := nIs_len l
  by_cases hlen : l.length = l'.length
  · obtain ⟨K, hK⟩ := eqL_ev l l' [] [] rfl hlen hn (by simp; omega)
    refine ev_succ ⟨K, fun k hk => ?_⟩
    have hK := hK k hk
    try dsimp only at hK ⊢
    simp only [List.nil_append, List.length_nil, Int.natCast_zero] at hK
    simp only [laws_eqExprS.f]
    rw [if_pos (by omega), hK]
  · refine ev_now fun k => ?_
    simp only [laws_eqExprS.f]
    rw [if_neg (by omega), eqIs_ne l l' hlen]
end Go.Proofs.Ytbgfdhabfgeglaa.Q
