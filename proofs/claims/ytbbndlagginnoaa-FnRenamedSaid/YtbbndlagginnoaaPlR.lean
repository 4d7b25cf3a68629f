/- Renaming the columns of a condition, plainly. -/
import Derived.Test.YtbbndlagginnoaaPlE0
import Derived.Test.YtbbndlagginnoaaQ13
import Derived.Test.YtbbndlagginnoaaQ14
namespace Go.Proofs.Ytbbndlagginnoaa.Q
open Go Go.RowKit Go.Proofs.YtbbndlagginnoaaW.PrintWords Go.Proofs.YtbbndlagginnoaaW.PrintLast
set_option linter.unusedVariables false
def renT (f g : ByteArray) (a : Int) (t : ByteArray) : ByteArray := if a = 0 ∧ t = f then g else t
mutual
def renIE (f g : ByteArray) : IE → IE
  | ⟨a, t, m, l⟩ => ⟨a, renT f g a t, m, renIs f g l⟩
def renIs (f g : ByteArray) : List IE → List IE
  | [] => []
  | e :: l => renIE f g e :: renIs f g l
end
theorem renIs_len (f g : ByteArray) : ∀ l, (renIs f g l).length = l.length
  | [] => by simp [renIs]
  | e :: l => by simp [renIs, renIs_len f g l]
theorem renIs_append (f g : ByteArray) : ∀ l m, renIs f g (l ++ m) = renIs f g l ++ renIs f g m
  | [], m => by simp [renIs]
  | e :: l, m => by simp [renIs, renIs_append f g l m]
mutual
theorem nIE_ren (f g : ByteArray) : ∀ e, nIE (renIE f g e) = nIE e
  | ⟨a, t, m, l⟩ => by simp only [renIE, nIE, nIs_ren f g l]
theorem nIs_ren (f g : ByteArray) : ∀ l, nIs (renIs f g l) = nIs l
  | [] => by simp [renIs]
  | e :: l => by simp only [renIs, nIs, nIE_ren f g e, nIs_ren f g l]
end
theorem impl_ren_j1 {f g t t' : ByteArray} {a m : Int} {l : List IE} (h : Ev (fun k => impl_Renamed.l0 k f g l (l.length : Int) 0 a t' m []) (a, t', m, renIs f g l)) :
    Ev (fun k => impl_Renamed.j1 k f g a t m l a t' m) (a, t', m, renIs f g l) := by
  obtain ⟨K, hK⟩ := h
  refine ev_succ ⟨K, fun k hk => ?_⟩
  have hK := hK k hk
  try dsimp only at hK ⊢
  simp only [impl_Renamed.j1]
  exact hK
theorem spec_ren_j1 {f g t t' : ByteArray} {a m : Int} {l : List IE} (h : Ev (fun k => spec_Renamed.l0 k f g 0 a t m l a t' m []) (a, t', m, renIs f g l)) :
    Ev (fun k => spec_Renamed.j1 k f g a t m l a t' m) (a, t', m, renIs f g l) := by
  obtain ⟨K, hK⟩ := h
  refine ev_succ ⟨K, fun k hk => ?_⟩
  have hK := hK k hk
  try dsimp only at hK ⊢
  simp only [spec_Renamed.j1]
  exact hK
mutual
theorem impl_Renamed_ev (f g : ByteArray) : ∀ (e : IE), nIE e ≤ 1000000000 → Ev (fun k => impl_Renamed.f k e.f0 e.f1 e.f2 e.f3 f g) ((renIE f g e).f0, (renIE f g e).f1, (renIE f g e).f2, (renIE f g e).f3)
  | ⟨a, t, m, l⟩, hn => by
    have en : nIE ⟨a, t, m, l⟩ = 1 + nIs l := by simp only [nIE]
    have hl := nIs_len l
    have G : ∀ t', Ev (fun k => impl_Renamed.j1 k f g a t m l a t' m) (a, t', m, renIs f g l) := fun t' => impl_ren_j1 (by
      have := impl_ren_l f g a t' m l [] (by omega) (by simp; omega)
      simpa [renIs] using this)
    simp only [renIE]
    by_cases a0 : a = 0
    · by_cases ht : t = f
      · have e1 : renT f g a t = g := if_pos ⟨a0, ht⟩
        rw [e1]
        obtain ⟨K, hK⟩ := G g
        refine ev_succ ⟨K + 1, fun k hk => ?_⟩
        obtain ⟨k, rfl⟩ : ∃ m, k = m + 1 := ⟨k - 1, by omega⟩
        have hK := hK k (by omega)
        try dsimp only at hK ⊢
        simp only [impl_Renamed.f, impl_Renamed.j0]
        rw [if_pos a0, if_pos (beq_iff_eq.2 (str_eq.2 ht)), hK]
      · have e1 : renT f g a t = t := if_neg (fun h => ht h.2)
        rw [e1]
        obtain ⟨K, hK⟩ := G t
        refine ev_succ ⟨K + 1, fun k hk => ?_⟩
        obtain ⟨k, rfl⟩ : ∃ m, k = m + 1 := ⟨k - 1, by omega⟩
        have hK := hK k (by omega)
        try dsimp only at hK ⊢
        simp only [impl_Renamed.f, impl_Renamed.j0]
        rw [if_pos a0, if_neg (fun h => ht (str_eq.1 (beq_iff_eq.1 h))), hK]
    · have e1 : renT f g a t = t := if_neg (fun h => a0 h.1)
      rw [e1]
      obtain ⟨K, hK⟩ := G t
      refine ev_succ ⟨K + 1, fun k hk => ?_⟩
      obtain ⟨k, rfl⟩ : ∃ m, k = m + 1 := ⟨k - 1, by omega⟩
      have hK := hK k (by omega)
      try dsimp only at hK ⊢
      simp only [impl_Renamed.f, impl_Renamed.j0]
      rw [if_neg a0, if_neg (by simp), hK]
theorem impl_ren_l (f g : ByteArray) (a : Int) (t : ByteArray) (m : Int) : ∀ (l p : List IE), nIs l ≤ 1000000000 → p.length + l.length ≤ 1000000000 →
    Ev (fun k => impl_Renamed.l0 k f g (p ++ l) ((p ++ l).length : Int) (p.length : Int) a t m (renIs f g p)) (a, t, m, renIs f g (p ++ l))
  | [], p, hn, hs => by
    refine ev_now fun k => ?_
    simp only [impl_Renamed.l0, List.append_nil]
    rw [if_neg (by omega)]
  | e :: l, p, hn, hs => by
    have hlt : (p.length : Int) < ((p ++ e :: l).length : Int) := by simp only [List.length_append, List.length_cons]; omega
    have el : (e :: l).length = l.length + 1 := rfl
    have en : nIs (e :: l) = nIE e + nIs l := by simp only [nIs]
    obtain ⟨K1, hK1⟩ := impl_Renamed_ev f g e (by omega)
    obtain ⟨K2, hK2⟩ := impl_ren_l f g a t m l (p ++ [e]) (by omega) (by simp; omega)
    refine ev_succ ⟨K1 + K2, fun k hk => ?_⟩
    have hK1 := hK1 k (by omega)
    have hK2 := hK2 k (by omega)
    try dsimp only at hK1 hK2 ⊢
    simp only [impl_Renamed.l0]
    have e3 : (p ++ [e]) ++ l = p ++ e :: l := by simp
    have e4 : (p ++ [e]).length = p.length + 1 := by simp
    have hp := renIs_len f g p
    rw [e3, e4, renIs_append] at hK2
    rw [if_pos hlt, if_pos (by omega), if_pos hlt, rdI_mid, hK1, Option.bind_some, if_pos (by omega), wrap_mid p.length l.length (by omega)]
    simp only [renIs] at hK2
    generalize renIE f g e = r at hK2 ⊢
    cases r
    exact hK2
end
mutual
theorem spec_Renamed_ev (f g : ByteArray) : ∀ (e : IE), nIE e ≤ 1000000000 → Ev (fun k => spec_Renamed.f k e.f0 e.f1 e.f2 e.f3 f g) ((renIE f g e).f0, (renIE f g e).f1, (renIE f g e).f2, (renIE f g e).f3)
  | ⟨a, t, m, l⟩, hn => by
    have en : nIE ⟨a, t, m, l⟩ = 1 + nIs l := by simp only [nIE]
    have hl := nIs_len l
    have G : ∀ t', Ev (fun k => spec_Renamed.j1 k f g a t m l a t' m) (a, t', m, renIs f g l) := fun t' => spec_ren_j1 (by
      have := spec_ren_l f g a t t' m l [] (by omega) (by simp; omega)
      simpa [renIs] using this)
    simp only [renIE]
    by_cases a0 : a = 0
    · by_cases ht : t = f
      · have e1 : renT f g a t = g := if_pos ⟨a0, ht⟩
        rw [e1]
        obtain ⟨K, hK⟩ := G g
        refine ev_succ ⟨K + 1, fun k hk => ?_⟩
        obtain ⟨k, rfl⟩ : ∃ m, k = m + 1 := ⟨k - 1, by omega⟩
        have hK := hK k (by omega)
        try dsimp only at hK ⊢
        simp only [spec_Renamed.f, spec_Renamed.j0]
        rw [if_pos a0, if_pos (beq_iff_eq.2 (str_eq.2 ht)), hK]
      · have e1 : renT f g a t = t := if_neg (fun h => ht h.2)
        rw [e1]
        obtain ⟨K, hK⟩ := G t
        refine ev_succ ⟨K + 1, fun k hk => ?_⟩
        obtain ⟨k, rfl⟩ : ∃ m, k = m + 1 := ⟨k - 1, by omega⟩
        have hK := hK k (by omega)
        try dsimp only at hK ⊢
        simp only [spec_Renamed.f, spec_Renamed.j0]
        rw [if_pos a0, if_neg (fun h => ht (str_eq.1 (beq_iff_eq.1 h))), hK]
    · have e1 : renT f g a t = t := if_neg (fun h => a0 h.1)
      rw [e1]
      obtain ⟨K, hK⟩ := G t
      refine ev_succ ⟨K + 1, fun k hk => ?_⟩
      obtain ⟨k, rfl⟩ : ∃ m, k = m + 1 := ⟨k - 1, by omega⟩
      have hK := hK k (by omega)
      try dsimp only at hK ⊢
      simp only [spec_Renamed.f, spec_Renamed.j0]
      rw [if_neg a0, if_neg (by simp), hK]
theorem spec_ren_l (f g : ByteArray) (a : Int) (t t' : ByteArray) (m : Int) : ∀ (l p : List IE), nIs l ≤ 1000000000 → p.length + l.length ≤ 1000000000 →
    Ev (fun k => spec_Renamed.l0 k f g (p.length : Int) a t m (p ++ l) a t' m (renIs f g p)) (a, t', m, renIs f g (p ++ l))
  | [], p, hn, hs => by
    refine ev_now fun k => ?_
    simp only [spec_Renamed.l0, List.append_nil]
    rw [if_neg (by omega)]
  | e :: l, p, hn, hs => by
    have hlt : (p.length : Int) < ((p ++ e :: l).length : Int) := by simp only [List.length_append, List.length_cons]; omega
    have el : (e :: l).length = l.length + 1 := rfl
    have en : nIs (e :: l) = nIE e + nIs l := by simp only [nIs]
    obtain ⟨K1, hK1⟩ := spec_Renamed_ev f g e (by omega)
    obtain ⟨K2, hK2⟩ := spec_ren_l f g a t t' m l (p ++ [e]) (by omega) (by simp; omega)
    refine ev_succ ⟨K1 + K2, fun k hk => ?_⟩
    have hK1 := hK1 k (by omega)
    have hK2 := hK2 k (by omega)
    try dsimp only at hK1 hK2 ⊢
    simp only [spec_Renamed.l0]
    have e3 : (p ++ [e]) ++ l = p ++ e :: l := by simp
    have e4 : (p ++ [e]).length = p.length + 1 := by simp
    have hp := renIs_len f g p
    rw [e3, e4, renIs_append] at hK2
    rw [if_pos hlt, if_pos (by omega), rdI_mid, hK1, Option.bind_some, if_pos (by omega), wrap_mid p.length l.length (by omega)]
    simp only [renIs] at hK2
    generalize renIE f g e = r at hK2 ⊢
    cases r
    exact hK2
end
end Go.Proofs.Ytbbndlagginnoaa.Q
