/- The law FnRenamed answers true at every code, with no condition. -/
import Derived.Test.YtbbndlagginnoaaStFnRenamed
import Derived.Test.YtbbndlagginnoaaPlM
import Derived.Test.YtbbndlagginnoaaPlNi
import Derived.Test.YtbbndlagginnoaaPlR
import Derived.Test.YtbbndlagginnoaaPlC
import Derived.Test.YtbbndlagginnoaaPlH0
import Derived.Test.YtbbndlagginnoaaQ19
namespace Go.Proofs.Ytbbndlagginnoaa.Q
open Go Go.RowKit Go.Proofs.YtbbndlagginnoaaW.PrintWords Go.Proofs.YtbbndlagginnoaaW.PrintLast
set_option linter.unusedVariables false
mutual
theorem same_self : ∀ (e : IE), nIE e ≤ 1000000000 → Ev (fun k => laws_sameExpr.f k e.f0 e.f1 e.f2 e.f3 e.f0 e.f1 e.f2 e.f3) true
  | ⟨a, t, m, l⟩, hn => by
    have en : nIE ⟨a, t, m, l⟩ = 1 + nIs l := by simp only [nIE]
    have hl := nIs_len l
    obtain ⟨K, hK⟩ := same_self_l l [] (by omega) (by simp; omega)
    refine ev_succ ⟨K + 1, fun k hk => ?_⟩
    obtain ⟨k, rfl⟩ : ∃ m, k = m + 1 := ⟨k - 1, by omega⟩
    have hK := hK k (by omega)
    try dsimp only at hK ⊢
    simp only [List.nil_append, List.length_nil, Int.natCast_zero] at hK
    simp only [laws_sameExpr.f, laws_sameExprs.f, if_true, hK, Option.bind_some]
theorem same_self_l : ∀ (l p : List IE), nIs l ≤ 1000000000 → p.length + l.length ≤ 1000000000 → Ev (fun k => laws_sameExprs.l0 k (p ++ l) (p ++ l) (p.length : Int)) true
  | [], p, hn, hs => by
    refine ev_now fun k => ?_
    simp only [laws_sameExprs.l0, List.append_nil]
    rw [if_neg (by omega)]
  | e :: l, p, hn, hs => by
    have hlt : (p.length : Int) < ((p ++ e :: l).length : Int) := by simp only [List.length_append, List.length_cons]; omega
    have el : (e :: l).length = l.length + 1 := rfl
    have en : nIs (e :: l) = nIE e + nIs l := by simp only [nIs]
    obtain ⟨K1, hK1⟩ := same_self e (by omega)
    obtain ⟨K2, hK2⟩ := same_self_l l (p ++ [e]) (by omega) (by simp; omega)
    refine ev_succ ⟨K1 + K2, fun k hk => ?_⟩
    have hK1 := hK1 k (by omega)
    have hK2 := hK2 k (by omega)
    try dsimp only at hK1 hK2 ⊢
    simp only [laws_sameExprs.l0]
    rw [List.append_assoc, List.singleton_append, List.length_append, List.length_singleton] at hK2
    rw [if_pos hlt, if_pos (by omega), if_pos hlt, rdI_mid, hK1, Option.bind_some, wrap_mid p.length l.length (by omega), hK2, if_pos rfl]
end
def freshT : ByteArray := ⟨#[102, 114, 101, 115, 104, 32, 111, 110, 101]⟩
theorem fresh_all : ∀ t ∈ drawnT, t.data.toList ≠ freshT.data.toList := by decide
theorem fresh_not_drawn : freshT ∉ drawnT := fun h => fresh_all _ h rfl
mutual
theorem ren_back (f : ByteArray) : ∀ e : IE, allT (fun t => t ∈ drawnT) e → renIE freshT f (renIE f freshT e) = e
  | ⟨a, t, m, l⟩, g => by
    simp only [allT] at g
    simp only [renIE, ren_back_l f l g.2]
    congr 1
    unfold renT
    by_cases h : a = 0 ∧ t = f
    · rw [if_pos h, if_pos ⟨h.1, rfl⟩, h.2]
    · rw [if_neg h, if_neg (fun h2 : a = 0 ∧ t = freshT => fresh_not_drawn (h2.2 ▸ g.1))]
theorem ren_back_l (f : ByteArray) : ∀ l : List IE, allTs (fun t => t ∈ drawnT) l → renIs freshT f (renIs f freshT l) = l
  | [], _ => by simp [renIs]
  | e :: l, g => by
    simp only [allTs] at g
    simp only [renIs, ren_back f e g.1, ren_back_l f l g.2]
end
mutual
theorem ren_same (f : ByteArray) : ∀ e : IE, renIE f f e = e
  | ⟨a, t, m, l⟩ => by
    simp only [renIE, ren_same_l f l]
    congr 1
    unfold renT
    by_cases h : a = 0 ∧ t = f
    · rw [if_pos h, h.2]
    · rw [if_neg h]
theorem ren_same_l (f : ByteArray) : ∀ l : List IE, renIs f f l = l
  | [] => by simp [renIs]
  | e :: l => by simp only [renIs, ren_same f e, ren_same_l f l]
end
mutual
theorem ren_gone (f g : ByteArray) (hne : g ≠ f) : ∀ e : IE, f ∉ colsIE (renIE f g e)
  | ⟨a, t, m, l⟩ => by
    have := ren_gone_l f g hne l
    simp only [renIE, colsIE, List.mem_append, not_or]
    refine ⟨?_, this⟩
    unfold renT
    by_cases a0 : a = 0
    · rw [if_pos a0]
      by_cases h : t = f
      · rw [if_pos ⟨a0, h⟩]
        simp
        exact fun e => hne e.symm
      · rw [if_neg (fun h2 => h h2.2)]
        simp
        exact fun e => h e.symm
    · rw [if_neg a0]
      simp
theorem ren_gone_l (f g : ByteArray) (hne : g ≠ f) : ∀ l : List IE, f ∉ colsIs (renIs f g l)
  | [] => by simp [renIs, colsIs]
  | e :: l => by
    have h1 := ren_gone f g hne e
    have h2 := ren_gone_l f g hne l
    simp only [renIs, colsIs, List.mem_append, not_or]
    exact ⟨h1, h2⟩
end
theorem FnRenamed_plain : laws_FnRenamed.Plain := by
  intro l _ _
  by_cases hb : (l.length : Int) > 1048576
  · exact ⟨0, by simp [laws_FnRenamed.f, big_eq, hb]⟩
  have hl : l.length ≤ 1048576 := by omega
  obtain ⟨h0, K0, hK0⟩ := new_ev l
  obtain ⟨e, i1, h1, ⟨K1, hK1⟩, hi1, hn, ha⟩ := odd_some l hl 0 h0 (by omega)
  obtain ⟨f, i2, h2, e2, hf, hi2⟩ := l03Name_some l hl i1 h1 hi1
  obtain ⟨g, i3, h3, e3, hg, hi3⟩ := l03Name_some l hl i2 h2 hi2
  have n1 := nIE_ren f g e
  have n2 := nIE_ren f freshT e
  have hcl := colsIE_len (renIE f freshT e)
  have hsl := sortedB_len (colsIE (renIE f freshT e))
  obtain ⟨K2, hK2⟩ := impl_Renamed_ev f g e (by omega)
  obtain ⟨K3, hK3⟩ := spec_Renamed_ev f g e (by omega)
  obtain ⟨K4, hK4⟩ := same_self (renIE f g e) (by omega)
  obtain ⟨K5, hK5⟩ := impl_Nodes_ev (renIE f g e) (by omega)
  obtain ⟨K6, hK6⟩ := impl_Nodes_ev e (by omega)
  obtain ⟨K7, hK7⟩ := impl_Renamed_ev f freshT e (by omega)
  obtain ⟨K8, hK8⟩ := impl_Renamed_ev freshT f (renIE f freshT e) (by omega)
  rw [ren_back f e ha] at hK8
  obtain ⟨K9, hK9⟩ := same_self e (by omega)
  obtain ⟨K10, hK10⟩ := impl_Columns_ev (renIE f freshT e) (by omega)
  obtain ⟨K11, hK11⟩ := spec_Has_ev (sortedB (colsIE (renIE f freshT e))) f (by omega)
  have hno : hasB f (sortedB (colsIE (renIE f freshT e))) = false := by
    cases h : hasB f (sortedB (colsIE (renIE f freshT e))) with
    | false => rfl
    | true => exact absurd ((mem_sortedB _ _).1 ((hasB_iff _ _).1 h)) (ren_gone f freshT (fun e => fresh_not_drawn (e ▸ name_drawn hf)) e)
  rw [hno] at hK11
  obtain ⟨K12, hK12⟩ := impl_Renamed_ev f f e (by omega)
  rw [ren_same] at hK12
  rw [n1] at hK5
  generalize renIE f g e = r1 at hK2 hK3 hK4 hK5
  generalize sortedB (colsIE (renIE f freshT e)) = sb at hK10 hK11
  generalize renIE f freshT e = r2 at hK7 hK8 hK10
  obtain ⟨a, t, m, ks⟩ := e
  obtain ⟨a1, t1, m1, ks1⟩ := r1
  obtain ⟨a2, t2, m2, ks2⟩ := r2
  obtain ⟨k, hk⟩ : ∃ k, k = K0 + K1 + K2 + K3 + K4 + K5 + K6 + K7 + K8 + K9 + K10 + K11 + K12 := ⟨_, rfl⟩
  refine ⟨k + 1, ?_⟩
  have a0 := hK0 (k + 1) (by omega)
  have a1_ := hK1 (k + 1) (by omega)
  have a2_ := hK2 (k + 1) (by omega)
  have a3 := hK3 (k + 1) (by omega)
  have a4 := hK4 (k + 1) (by omega)
  have a5 := hK5 (k + 1) (by omega)
  have a6 := hK6 (k + 1) (by omega)
  have a7 := hK7 k (by omega)
  have a8 := hK8 k (by omega)
  have a9 := hK9 k (by omega)
  have a10 := hK10 k (by omega)
  have a11 := hK11 k (by omega)
  have a12 := hK12 k (by omega)
  unfold freshT at a7 a8
  try dsimp only at a0 a1_ a2_ a3 a4 a5 a6 a7 a8 a9 a10 a11 a12
  simp only [laws_FnRenamed.f, laws_FnRenamed.j0, big_eq, decide_eq_false hb, Option.bind_some, Bool.false_eq_true, if_false, spec_DrawRenamed.f, a0, a1_, e2, e3, a2_, a3, a4, a5, a6, if_true, bne_self_eq_false, a7, a8, a9, a10, a11, a12]
end Go.Proofs.Ytbbndlagginnoaa.Q
