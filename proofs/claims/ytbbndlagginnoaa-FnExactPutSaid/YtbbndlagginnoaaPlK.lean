/- Marks in a list of texts, plainly: what the law's own helpers write there, and that they find it again. -/
import Derived.Test.YtbbndlagginnoaaPlA
import Derived.Test.YtbbndlagginnoaaQ10
import Derived.Test.YtbbndlagginnoaaQ8
namespace Go.Proofs.Ytbbndlagginnoaa.Q
open Go Go.RowKit Go.Proofs.YtbbndlagginnoaaW.PrintWords Go.Proofs.YtbbndlagginnoaaW.PrintLast
set_option linter.unusedVariables false
theorem strOfNums_size : ∀ l : List Int, (strOfNums l).size = l.length := by intro l; simp [strOfNums, ByteArray.size]
theorem markText_l0 : ∀ (d : Nat) (x : Int) (t : ByteArray), 0 ≤ x → x ≤ 9223372036854775807 → x < (10 : Int) ^ d → t.size + d ≤ 1048576 → ∃ r, Ev (fun k => laws_markText.l0 k x t) r := by
  intro d
  induction d with
  | zero =>
    intro x t h0 h2 h1 hs
    have h1 : x < 1 := by simpa using h1
    refine ⟨(⟨#[109]⟩ : ByteArray) ++ t, ev_now fun k => ?_⟩
    simp only [laws_markText.l0]
    rw [if_neg (by omega), if_pos (by omega)]
  | succ d ih =>
    intro x t h0 h2 h1 hs
    by_cases hx : x > 0
    · have h10 : Int.tdiv x 10 = x / 10 := Int.tdiv_eq_ediv_of_nonneg h0
      have hb : x / 10 < (10 : Int) ^ d := by
        rw [Int.pow_succ] at h1
        omega
      have hz : (strOfNums [(wrap64 (48 + (Int.tmod x 10))) % 256]).size = 1 := by rw [strOfNums_size]; rfl
      obtain ⟨r, K, hK⟩ := ih (x / 10) (strOfNums [(wrap64 (48 + (Int.tmod x 10))) % 256] ++ t) (by omega) (by omega) hb (by
        rw [ByteArray.size_append, hz]; omega)
      refine ⟨r, ev_succ ⟨K, fun k hk => ?_⟩⟩
      have hK := hK k hk
      try dsimp only at hK ⊢
      simp only [laws_markText.l0, Option.bind_some]
      rw [if_pos hx, if_pos (by rw [hz]; omega), h10, wrap_id (by omega) (by omega)]
      exact hK
    · refine ⟨(⟨#[109]⟩ : ByteArray) ++ t, ev_now fun k => ?_⟩
      simp only [laws_markText.l0]
      rw [if_neg hx, if_pos (by omega)]
theorem markText_some (x : Int) (hx : x ≤ 9223372036854775807) : ∃ r, Ev (fun k => laws_markText.f k x) r := by
  by_cases h : x ≤ 0
  · refine ⟨(⟨#[109, 48]⟩ : ByteArray), ev_eq fun k => ?_⟩
    simp only [laws_markText.f]
    rw [if_pos h]
  · obtain ⟨r, K, hK⟩ := markText_l0 19 x ⟨#[]⟩ (by omega) hx (by omega) (by show 0 + 19 ≤ 1048576; omega)
    refine ⟨r, K, fun k hk => ?_⟩
    have hK := hK k hk
    try dsimp only at hK ⊢
    simp only [laws_markText.f]
    rw [if_neg h]
    exact hK
open Classical in
/-- The mark number x. -/
noncomputable def markT (x : Int) : ByteArray := if h : ∃ r, Ev (fun k => laws_markText.f k x) r then h.choose else ⟨#[]⟩
theorem markT_ev (x : Int) (hx : x ≤ 9223372036854775807) : Ev (fun k => laws_markText.f k x) (markT x) := by
  have h := markText_some x hx
  unfold markT
  rw [dif_pos h]
  exact h.choose_spec
/-- n marks from number x on. -/
noncomputable def marksT (x : Int) (n : Nat) : List ByteArray := (List.range n).map fun (j : Nat) => markT (x + (j : Int))
theorem marksT_length (x : Int) (n : Nat) : (marksT x n).length = n := by simp [marksT]
theorem marksT_get (x : Int) (n i : Nat) (h : i < (marksT x n).length) : (marksT x n)[i] = markT (x + (i : Int)) := by simp [marksT]
theorem markStringS_l0 (x : Int) (n : Nat) (hx : 0 ≤ x) (hb : x + (n : Int) ≤ 9223372036854775807) : ∀ (d i : Nat), n - i = d → i ≤ n → ∀ o : List ByteArray, o.length = n → o.take i = (marksT x n).take i →
    Ev (fun k => laws_markStringS.l0 k o (x + (i : Int)) (i : Int)) (x + (n : Int), marksT x n) := by
  intro d
  induction d with
  | zero =>
    intro i hd hi o ho ht
    refine ev_now fun k => ?_
    simp only [laws_markStringS.l0]
    rw [if_neg (by omega)]
    rw [List.take_of_length_le (by omega), List.take_of_length_le (by rw [marksT_length]; omega)] at ht
    rw [ht, show i = n from by omega]
  | succ d ih =>
    intro i hd hi o ho ht
    have hlt : i < n := by omega
    obtain ⟨K0, hK0⟩ := markT_ev (x + (i : Int)) (by omega)
    obtain ⟨K, hK⟩ := ih (i + 1) (by omega) (by omega) (o.set i (markT (x + (i : Int)))) (by simp [ho]) (by
      rw [List.take_succ_eq_append_getElem (by simp; omega), List.take_succ_eq_append_getElem (by rw [marksT_length]; omega), marksT_get]
      simp [List.take_set_of_le, ht])
    refine ev_succ ⟨K0 + K, fun k hk => ?_⟩
    have hK := hK k (by omega)
    have hK0 := hK0 k (by omega)
    try dsimp only at hK hK0 ⊢
    simp only [laws_markStringS.l0]
    rw [if_pos (by omega), hK0, Option.bind_some, if_pos (by omega), wrap_succ hlt (by omega), Int.toNat_natCast, wrap_id (by omega) (by omega)]
    rw [show x + (i : Int) + 1 = x + ((i + 1 : Nat) : Int) from by omega]
    exact hK
theorem markStringS_ev (o : List ByteArray) (x : Int) (hx : 0 ≤ x) (hb : x + (o.length : Int) ≤ 9223372036854775807) : Ev (fun k => laws_markStringS.f k o x) (x + (o.length : Int), marksT x o.length) := by
  obtain ⟨K, hK⟩ := markStringS_l0 x o.length hx hb o.length 0 (by omega) (by omega) o rfl (by simp)
  refine ⟨K, fun k hk => ?_⟩
  have hK := hK k hk
  try dsimp only at hK ⊢
  simp only [laws_markStringS.f]
  simpa using hK
theorem heldStringS_l0 (x : Int) (n : Nat) (hx : 0 ≤ x) (hb : x + (n : Int) ≤ 9223372036854775807) : ∀ (d i : Nat), n - i = d → i ≤ n →
    Ev (fun k => laws_heldStringS.l0 k (marksT x n) (x + (i : Int)) (i : Int)) (x + (n : Int)) := by
  intro d
  induction d with
  | zero =>
    intro i hd hi
    refine ev_now fun k => ?_
    simp only [laws_heldStringS.l0]
    rw [if_neg (by rw [marksT_length]; omega), show i = n from by omega]
  | succ d ih =>
    intro i hd hi
    have hlt : i < n := by omega
    have hlt' : i < (marksT x n).length := by rw [marksT_length]; omega
    obtain ⟨K0, hK0⟩ := markT_ev (x + (i : Int)) (by omega)
    obtain ⟨K, hK⟩ := ih (i + 1) (by omega) (by omega)
    refine ev_succ ⟨K0 + K, fun k hk => ?_⟩
    have hK := hK k (by omega)
    have hK0 := hK0 k (by omega)
    try dsimp only at hK hK0 ⊢
    simp only [laws_heldStringS.l0]
    rw [if_pos (by rw [marksT_length]; omega), if_pos (by omega), hK0, Option.bind_some, rdOf_nat _ _ _ hlt', marksT_get, if_pos rfl, wrap_succ hlt (by omega), wrap_id (by omega) (by omega)]
    rw [show x + (i : Int) + 1 = x + ((i + 1 : Nat) : Int) from by omega]
    exact hK
theorem heldStringS_ev (x : Int) (n : Nat) (hx : 0 ≤ x) (hb : x + (n : Int) ≤ 9223372036854775807) : Ev (fun k => laws_heldStringS.f k (marksT x n) x) (x + (n : Int)) := by
  obtain ⟨K, hK⟩ := heldStringS_l0 x n hx hb n 0 (by omega) (by omega)
  refine ⟨K, fun k hk => ?_⟩
  have hK := hK k hk
  try dsimp only at hK ⊢
  simp only [laws_heldStringS.f]
  simpa using hK
end Go.Proofs.Ytbbndlagginnoaa.Q
