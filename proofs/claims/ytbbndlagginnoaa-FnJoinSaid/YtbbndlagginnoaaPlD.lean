/- The draws, plainly: each answers something, and of what it answers no more is told than the laws want. -/
import Derived.Test.YtbbndlagginnoaaPlA0
import Derived.Test.YtbbndlagginnoaaJ1
import Derived.Laws.BitsLemmas
namespace Go.Proofs.Ytbbndlagginnoaa.J
open Go Go.RowKit Go.Proofs.YtbbndlagginnoaaW.PrintWords Go.Proofs.YtbbndlagginnoaaW.PrintLast

theorem i64_and255 (n : Int) : bits .and .i64 n 255 = n % 256 := by
  have h255 : (BitVec.ofInt 64 255).toNat = 2 ^ 8 - 1 := by decide
  have key : (BitVec.ofInt 64 n &&& BitVec.ofInt 64 255).toNat = (n % ((2 ^ 64 : Nat) : Int)).toNat % 2 ^ 8 := by
    rw [BitVec.toNat_and, BitVec.toNat_ofInt, h255, Nat.and_two_pow_sub_one_eq_mod]
  show IntKind.i64.wrap ((BitVec.ofInt 64 n &&& BitVec.ofInt 64 255).toNat : Nat) = n % 256
  rw [key, IntKind.wrap_i64]
  omega
theorem byte_some (l : List Int) (hl : l.length ≤ 1048576) (i h : Int) (h0 : 0 ≤ i) : ∃ x i' h', spec_l01Byte.f l i h = some (x, i', h') ∧ 0 ≤ x ∧ x ≤ 255 ∧ 0 ≤ i' := by
  unfold spec_l01Byte.f
  by_cases hc : i < (l.length : Int)
  · rw [if_pos hc, if_pos h0]
    refine ⟨_, _, _, rfl, ?_, ?_, ?_⟩
    · rw [i64_and255]; omega
    · rw [i64_and255]; omega
    · unfold wrap64; omega
  · rw [if_neg hc]
    refine ⟨_, _, _, rfl, ?_, ?_, h0⟩
    · rw [i64_and255]; omega
    · rw [i64_and255]; omega
theorem below_some (l : List Int) (hl : l.length ≤ 1048576) (i h n : Int) (h0 : 0 ≤ i) : ∃ x i' h', spec_l01Below.f l i h n = some (x, i', h') ∧ 0 ≤ x ∧ (0 < n → x < n) ∧ 0 ≤ i' := by
  unfold spec_l01Below.f
  by_cases hn : n ≤ 0
  · rw [if_pos hn]
    exact ⟨_, _, _, rfl, by omega, by omega, h0⟩
  rw [if_neg hn]
  have hne : ¬ n = 0 := by omega
  have tm : ∀ y : Int, 0 ≤ y → 0 ≤ y.tmod n ∧ y.tmod n < n := fun y hy => by
    rw [Int.tmod_eq_emod_of_nonneg hy]
    exact ⟨Int.emod_nonneg _ hne, Int.emod_lt_of_pos _ (by omega)⟩
  split
  · obtain ⟨x, i1, h1, e, hx0, hx1, hi1⟩ := byte_some l hl i h h0
    simp only [e, Option.bind_some]
    exact ⟨_, _, _, rfl, (tm x hx0).1, fun _ => (tm x hx0).2, hi1⟩
  · obtain ⟨x, i1, h1, e, hx0, hx1, hi1⟩ := byte_some l hl i h h0
    obtain ⟨y, i2, h2, e2, hy0, hy1, hi2⟩ := byte_some l hl i1 h1 hi1
    obtain ⟨z, i3, h3, e3, hz0, hz1, hi3⟩ := byte_some l hl i2 h2 hi2
    obtain ⟨u, i4, h4, e4, hu0, hu1, hi4⟩ := byte_some l hl i3 h3 hi3
    simp only [e, e2, e3, e4, Option.bind_some]
    have hw : 0 ≤ wrap64 ((wrap64 ((wrap64 ((wrap64 (x * 16777216)) + (wrap64 (y * 65536)))) + (wrap64 (z * 256)))) + u) := by unfold wrap64; omega
    exact ⟨_, _, _, rfl, (tm _ hw).1, fun _ => (tm _ hw).2, hi4⟩
theorem pick_some (l : List Int) (hl : l.length ≤ 1048576) (i h : Int) (ls : List ByteArray) (hs : 0 < ls.length) (h0 : 0 ≤ i) : ∃ x i' h', spec_l01Pick.f l i h ls = some (x, i', h') ∧ x ∈ ls ∧ 0 ≤ i' := by
  obtain ⟨x, i1, h1, e, hx0, hx1, hi1⟩ := below_some l hl i h (ls.length : Int) h0
  have hx := hx1 (by omega)
  simp only [spec_l01Pick.f, e, Option.bind_some]
  rw [if_pos hx0, if_pos hx]
  refine ⟨_, _, _, rfl, ?_, hi1⟩
  obtain ⟨n, rfl⟩ := Int.eq_ofNat_of_zero_le hx0
  rw [rdOf_nat _ _ _ (by omega)]
  exact List.getElem_mem _
theorem rd_nat (l : List Int) (i : Nat) (h : i < l.length) : rd l (i : Int) = l[i] := by
  unfold rd
  rw [Int.toNat_natCast, List.getD_eq_getElem?_getD, List.getElem?_eq_getElem h]
  rfl
theorem new_l0 (l : List Int) : ∀ (d i : Nat), 4000 - i = d → ∀ x : Int, ∃ h', Ev (fun k => spec_l01New.l0 k l x (i : Int)) (l, 0, h') := by
  intro d
  induction d with
  | zero =>
    intro i hd x
    refine ⟨x, ev_now fun k => ?_⟩
    simp only [spec_l01New.l0]
    rw [if_neg (show ¬ (i : Int) < 4000 by omega)]
    split <;> rfl
  | succ d ih =>
    intro i hd x
    by_cases hlt : (i : Int) < (l.length : Int)
    · obtain ⟨h', K, hK⟩ := ih (i + 1) (by omega) (Go.bits .and .i64 (wrap64 ((wrap64 ((wrap64 (x * 131)) + (wrap64 (rd l (i : Int))))) + 7)) 1073741823)
      refine ⟨h', ev_succ ⟨K, fun k hk => ?_⟩⟩
      try dsimp only at hK ⊢
      simp only [spec_l01New.l0]
      rw [if_pos hlt, if_pos (by omega), if_pos (by omega)]
      have e : wrap64 ((i : Int) + 1) = ((i + 1 : Nat) : Int) := by unfold wrap64; omega
      rw [e]
      exact hK k hk
    · refine ⟨x, ev_now fun k => ?_⟩
      simp only [spec_l01New.l0]
      rw [if_neg hlt]
theorem new_ev (l : List Int) : ∃ h', Ev (fun k => spec_l01New.f k l) (l, 0, h') := new_l0 l 4000 0 rfl _
theorem big_eq (l : List Int) : laws_big.f l = some (decide ((l.length : Int) > 1048576)) := rfl
end Go.Proofs.Ytbbndlagginnoaa.J
