/- Lists of texts that are drawn, plainly; and what Put and Without do to a rising list. -/
import Derived.Test.YtbbndlagginnoaaPlD
import Derived.Test.YtbbndlagginnoaaPlP
import Derived.Test.YtbbndlagginnoaaQ3
import Derived.Test.YtbbndlagginnoaaQ6
namespace Go.Proofs.Ytbbndlagginnoaa.Q
open Go Go.RowKit Go.Proofs.YtbbndlagginnoaaW.PrintWords Go.Proofs.YtbbndlagginnoaaW.PrintLast
set_option linter.unusedVariables false
theorem once_some (l : List Int) (hl : l.length ≤ 1048576) (i h n : Int) (h0 : 0 ≤ i) : ∃ b i' h', spec_l01Once.f l i h n = some (b, i', h') ∧ 0 ≤ i' := by
  obtain ⟨x, i1, h1, e, _, _, hi1⟩ := below_some l hl i h n h0
  simp only [spec_l01Once.f, e, Option.bind_some]
  exact ⟨_, _, _, rfl, hi1⟩
theorem succ5 (j : Nat) (h : j ≤ 4) : wrap64 ((j : Int) + 1) = ((j + 1 : Nat) : Int) := wrap_succ (n := 5) (by omega) (by omega)
theorem list_l0 (l : List Int) (hl : l.length ≤ 1048576) (n : Nat) (hn : n ≤ 4) : ∀ (d j : Nat), n - j = d → j ≤ n → ∀ (o : List ByteArray) (i h : Int), 0 ≤ i → o.length ≤ j → (∀ y ∈ o, y.size ≤ 16) →
    ∃ o' i' h', Ev (fun k => spec_l01List.l0 k o (n : Int) (j : Int) l i h) (o', i', h') ∧ o'.length ≤ n ∧ (∀ y ∈ o', y.size ≤ 16) ∧ 0 ≤ i' := by
  intro d
  induction d with
  | zero =>
    intro j hd hj o i h h0 ho hs
    refine ⟨o, i, h, ev_now fun k => ?_, by omega, hs, h0⟩
    simp only [spec_l01List.l0]
    rw [if_neg (by omega)]
  | succ d ih =>
    intro j hd hj o i h h0 ho hs
    obtain ⟨x, i1, h1, e1, hx, hi1⟩ := pick_some l hl i h [⟨#[97]⟩, ⟨#[98]⟩, ⟨#[99]⟩, ⟨#[97, 98]⟩, ⟨#[]⟩, ⟨#[66]⟩] (by simp) h0
    have hxs : x.size ≤ 16 := by
      simp only [List.mem_cons, List.not_mem_nil, or_false] at hx
      rcases hx with rfl | rfl | rfl | rfl | rfl | rfl <;> decide
    obtain ⟨b, i2, h2, e2, hi2⟩ := once_some l hl i1 h1 2 hi1
    have p1 : (j : Int) < (n : Int) := by omega
    cases b with
    | true =>
      have hpl := putB_length x o
      obtain ⟨o', i', h', ⟨K, hK⟩, a1, a2, a3⟩ := ih (j + 1) (by omega) (by omega) (putB x o) i2 h2 hi2 (by omega) (fun y hy => by rcases putB_mem x o y hy with rfl | hy; exact hxs; exact hs y hy)
      obtain ⟨K0, hK0⟩ := spec_Put_ev o x (by omega) (fun y hy => by have := hs y hy; omega)
      refine ⟨o', i', h', ev_succ ⟨K + K0, fun k hk => ?_⟩, a1, a2, a3⟩
      have hK := hK k (by omega)
      have hK0 := hK0 k (by omega)
      try dsimp only at hK hK0 ⊢
      simp only [spec_l01List.l0]
      rw [if_pos p1, e1]
      simp only [Option.bind_some, e2, if_true, hK0]
      rw [succ5 j (Nat.le_trans hj hn)]
      exact hK
    | false =>
      have p2 : o.length < 8796093022208 := by omega
      obtain ⟨o', i', h', ⟨K, hK⟩, a1, a2, a3⟩ := ih (j + 1) (by omega) (by omega) (o ++ [x]) i2 h2 hi2 (by simp; omega) (fun y hy => by
        rcases List.mem_append.1 hy with hy | hy
        · exact hs y hy
        · rw [List.mem_singleton.1 hy]; exact hxs)
      refine ⟨o', i', h', ev_succ ⟨K, fun k hk => ?_⟩, a1, a2, a3⟩
      have hK := hK k (by omega)
      try dsimp only at hK ⊢
      simp only [spec_l01List.l0]
      rw [if_pos p1, e1]
      simp only [Option.bind_some, e2]
      rw [if_neg (by simp), if_pos p2, succ5 j (Nat.le_trans hj hn)]
      exact hK
theorem list_some (l : List Int) (hl : l.length ≤ 1048576) (i h : Int) (h0 : 0 ≤ i) : ∃ o i' h', Ev (fun k => spec_l01List.f k l i h) (o, i', h') ∧ o.length ≤ 4 ∧ (∀ y ∈ o, y.size ≤ 16) ∧ 0 ≤ i' := by
  obtain ⟨x, i1, h1, e, hx0, hx1, hi1⟩ := below_some l hl i h 5 h0
  obtain ⟨n, rfl⟩ := Int.eq_ofNat_of_zero_le hx0
  have hn : n ≤ 4 := by have := hx1 (by omega); omega
  obtain ⟨o, i', h', ⟨K, hK⟩, a1, a2, a3⟩ := list_l0 l hl n hn n 0 (by omega) (by omega) [] i1 h1 hi1 (by simp) (by simp)
  refine ⟨o, i', h', ⟨K, fun k hk => ?_⟩, by omega, a2, a3⟩
  have hK := hK k hk
  try dsimp only at hK ⊢
  simp only [spec_l01List.f, e, Option.bind_some]
  exact hK
theorem sameTexts_l0 (l : List ByteArray) (hn : l.length ≤ 9223372036854775807) : ∀ (d i : Nat), l.length - i = d → i ≤ l.length → Ev (fun k => laws_sameTexts.l0 k l l (i : Int)) true := by
  intro d
  induction d with
  | zero =>
    intro i hd hi
    refine ev_now fun k => ?_
    simp only [laws_sameTexts.l0]
    rw [if_neg (by omega)]
  | succ d ih =>
    intro i hd hi
    have hlt : i < l.length := by omega
    obtain ⟨K, hK⟩ := ih (i + 1) (by omega) (by omega)
    refine ev_succ ⟨K, fun k hk => ?_⟩
    have hK := hK k hk
    try dsimp only at hK ⊢
    simp only [laws_sameTexts.l0]
    rw [if_pos (by omega), if_pos (by omega), if_pos (by omega), if_pos trivial, wrap_succ hlt hn, hK]
theorem sameTexts_self (l : List ByteArray) (hn : l.length ≤ 9223372036854775807) : Ev (fun k => laws_sameTexts.f k l l) true := by
  obtain ⟨K, hK⟩ := sameTexts_l0 l hn l.length 0 (by omega) (by omega)
  refine ⟨K, fun k hk => ?_⟩
  have hK := hK k hk
  try dsimp only at hK ⊢
  simp only [laws_sameTexts.f]
  rw [if_pos trivial]
  exact hK
theorem without_mem (l : List ByteArray) (s y : ByteArray) : y ∈ withoutB l s ↔ y ∈ l ∧ y ≠ s := by
  unfold withoutB
  rw [List.mem_filter]
  constructor
  · rintro ⟨h1, h2⟩
    exact ⟨h1, fun e => by subst e; simp at h2⟩
  · rintro ⟨h1, h2⟩
    exact ⟨h1, by simp; exact fun e => h2 (str_eq.1 e)⟩
theorem without_has (l : List ByteArray) (s : ByteArray) : hasB s (withoutB l s) = false := by
  cases h : hasB s (withoutB l s) with
  | false => rfl
  | true => exact absurd rfl ((without_mem l s s).1 ((hasB_iff s _).1 h)).2
theorem without_less (l : List ByteArray) (s : ByteArray) : decide (((withoutB l s).length : Int) < (l.length : Int)) = hasB s l := by
  rw [Bool.eq_iff_iff, hasB_iff, decide_eq_true_iff, Int.ofNat_lt]
  unfold withoutB
  rw [List.length_filter_lt_length_iff_exists]
  constructor
  · rintro ⟨x, hx, h⟩
    have : x.toList = s.toList := by simpa using h
    rwa [← str_eq.1 this]
  · intro h
    exact ⟨s, h, by simp⟩
theorem bl_irrefl : ∀ x : List UInt8, Op.bytesLess x x = false
  | [] => rfl
  | a :: x => by simp [Op.bytesLess, bl_irrefl x]
theorem bl_trans : ∀ x y z : List UInt8, Op.bytesLess x y = true → Op.bytesLess y z = true → Op.bytesLess x z = true
  | _, [], _, h, _ => by simp [Op.bytesLess] at h
  | _, _ :: _, [], _, h => by simp [Op.bytesLess] at h
  | [], _ :: _, _ :: _, _, _ => rfl
  | a :: x, b :: y, c :: z, h, h' => by
    simp only [Op.bytesLess, Bool.or_eq_true, decide_eq_true_eq, Bool.and_eq_true, beq_iff_eq, UInt8.lt_iff_toNat_lt] at h h' ⊢
    rcases h with h | ⟨rfl, h⟩
    · rcases h' with h' | ⟨rfl, h'⟩
      · exact .inl (by omega)
      · exact .inl h
    · rcases h' with h' | ⟨rfl, h'⟩
      · exact .inl h'
      · exact .inr ⟨rfl, bl_trans x y z h h'⟩
theorem bl_total : ∀ x y : List UInt8, Op.bytesLess x y = false → x = y ∨ Op.bytesLess y x = true
  | [], [], _ => .inl rfl
  | _ :: _, [], _ => .inr rfl
  | [], _ :: _, h => by simp [Op.bytesLess] at h
  | a :: x, b :: y, h => by
    simp only [Op.bytesLess, Bool.or_eq_false_iff, decide_eq_false_iff_not, Bool.and_eq_false_iff, beq_eq_false_iff_ne, UInt8.lt_iff_toNat_lt] at h
    obtain ⟨h1, h2⟩ := h
    by_cases e : a = b
    · subst e
      rcases h2 with h2 | h2
      · exact absurd rfl h2
      · rcases bl_total x y h2 with rfl | h3
        · exact .inl rfl
        · exact .inr (by simp [Op.bytesLess, h3])
    · refine .inr ?_
      have : a.toNat ≠ b.toNat := fun h => e (UInt8.toNat_inj.1 h)
      simp only [Op.bytesLess, Bool.or_eq_true, decide_eq_true_eq, UInt8.lt_iff_toNat_lt]
      exact .inl (by omega)
theorem rising_cons (a : ByteArray) : ∀ l : List ByteArray, risingB (a :: l) = true ↔ (∀ b ∈ l, Op.bytesLess a.data.toList b.data.toList = true) ∧ risingB l = true
  | [] => by simp [risingB]
  | b :: l => by
    have ih := rising_cons b l
    simp only [risingB, Bool.and_eq_true]
    constructor
    · rintro ⟨h1, h2⟩
      refine ⟨fun c hc => ?_, h2⟩
      rcases List.mem_cons.1 hc with rfl | hc
      · exact h1
      · exact bl_trans _ _ _ h1 ((ih.1 h2).1 c hc)
    · rintro ⟨h1, h2⟩
      exact ⟨h1 b (by simp), h2⟩
theorem rising_without (s : ByteArray) : ∀ l : List ByteArray, risingB l = true → risingB (withoutB l s) = true
  | [], _ => rfl
  | a :: l, h => by
    have h := (rising_cons a l).1 h
    have ih := rising_without s l h.2
    unfold withoutB at ih ⊢
    rw [List.filter_cons]
    split
    · exact (rising_cons a _).2 ⟨fun b hb => h.1 b (List.mem_filter.1 hb).1, ih⟩
    · exact ih
theorem behind_dec (s x : ByteArray) : atBehind s x = !Op.bytesLess x.data.toList s.data.toList := by unfold atBehind; rw [Lib.toList_data, Lib.toList_data]
theorem rising_put (s : ByteArray) : ∀ l : List ByteArray, risingB l = true → risingB (putB s l) = true
  | [], _ => rfl
  | a :: l, h => by
    have h' := (rising_cons a l).1 h
    have ih := rising_put s l h'.2
    unfold putB
    by_cases hb : atBehind s a = true
    · rw [if_pos hb]
      by_cases he : a.toList = s.toList
      · rw [if_pos he]; exact h
      · rw [if_neg he]
        rw [behind_dec] at hb
        have hb : Op.bytesLess a.data.toList s.data.toList = false := by simpa using hb
        have hs : Op.bytesLess s.data.toList a.data.toList = true := by
          rcases bl_total _ _ hb with e | e
          · exact absurd (by rw [Lib.toList_data, Lib.toList_data]; exact e) he
          · exact e
        refine (rising_cons s _).2 ⟨fun b hbm => ?_, h⟩
        rcases List.mem_cons.1 hbm with rfl | hbm
        · exact hs
        · exact bl_trans _ _ _ hs (h'.1 b hbm)
    · rw [if_neg hb]
      rw [behind_dec] at hb
      have hb : Op.bytesLess a.data.toList s.data.toList = true := by simpa using hb
      refine (rising_cons a _).2 ⟨fun b hbm => ?_, ih⟩
      rcases putB_mem s l b hbm with rfl | hbm
      · exact hb
      · exact h'.1 b hbm
theorem behind_self (s : ByteArray) : atBehind s s = true := by unfold atBehind; rw [bl_irrefl]; rfl
theorem put_put (s : ByteArray) : ∀ l : List ByteArray, putB s (putB s l) = putB s l
  | [] => by simp [putB, behind_self]
  | a :: l => by
    by_cases hb : atBehind s a = true
    · by_cases he : a.toList = s.toList
      · simp [putB, hb, he]
      · simp [putB, hb, he, behind_self]
    · simp [putB, hb, put_put s l]
theorem put_has (s : ByteArray) : ∀ l : List ByteArray, hasB s (putB s l) = true
  | [] => by simp [putB, hasB]
  | a :: l => by
    by_cases hb : atBehind s a = true
    · by_cases he : a.toList = s.toList
      · rw [putB, if_pos hb, if_pos he, hasB, decide_eq_true (str_eq.1 he).symm]; rfl
      · simp [putB, hb, he, hasB]
    · simp [putB, hb, hasB, put_has s l]
theorem without_put (s : ByteArray) : ∀ l : List ByteArray, withoutB (putB s l) s = withoutB l s
  | [] => by simp [putB, withoutB]
  | a :: l => by
    have ih := without_put s l
    unfold withoutB at ih ⊢
    by_cases hb : atBehind s a = true
    · by_cases he : a.toList = s.toList
      · simp [putB, hb, he]
      · simp [putB, hb, he]
    · rw [putB, if_neg hb, List.filter_cons, List.filter_cons, ih]
end Go.Proofs.Ytbbndlagginnoaa.Q
