/- Texts that are drawn, plainly: each draw ends, since the generator reaches every state. -/
import Derived.Test.YtnjbpdbdeidngaaPlD
import Derived.Test.YtnjbpdbdeidngaaQ22
namespace Go.Proofs.Ytnjbpdbdeidngaa.Q
open Go Go.RowKit Go.Proofs.YtnjbpdbdeidngaaW.PrintWords Go.Proofs.YtnjbpdbdeidngaaW.PrintLast
set_option linter.unusedVariables false
def fN : Nat → Int → Int
  | 0, x => x
  | n + 1, x => fN n (6364136223846793005 * x + 1442695040888963407)
theorem fN_add : ∀ (m n : Nat) (x : Int), fN (m + n) x = fN n (fN m x)
  | 0, n, x => by rw [Nat.zero_add]; rfl
  | m + 1, n, x => by rw [Nat.succ_add]; exact fN_add m n _
theorem affine : ∀ k : Nat, ∃ A C m q : Int, (∀ x, fN (2 ^ k) x = A * x + C) ∧ A = 1 + 4 * 2 ^ k * m ∧ C = 2 ^ k * (2 * q + 1)
  | 0 => ⟨6364136223846793005, 1442695040888963407, 1591034055961698251, 721347520444481703, fun x => rfl, by decide, by decide⟩
  | k + 1 => by
    obtain ⟨A, C, m, q, h, hA, hC⟩ := affine k
    refine ⟨A * A, A * C + C, m + 2 * 2 ^ k * m * m, q + 2 ^ k * m * (2 * q + 1), fun x => ?_, ?_, ?_⟩
    · rw [show (2 : Nat) ^ (k + 1) = 2 ^ k + 2 ^ k by omega, fN_add, h, h]
      grind
    · rw [hA, Int.pow_succ]; grind
    · rw [hC, hA, Int.pow_succ]; grind
theorem reach : ∀ (k : Nat) (x s : Int), ∃ (n : Nat) (q : Int), fN n x = s + 2 ^ k * q
  | 0, x, s => ⟨0, x - s, by show x = _; grind⟩
  | k + 1, x, s => by
    obtain ⟨n, q, h⟩ := reach k x s
    rcases Int.emod_two_eq q with e | e
    · refine ⟨n, q / 2, ?_⟩
      have : q = 2 * (q / 2) := by omega
      rw [h, Int.pow_succ]; grind
    · obtain ⟨A, C, m, r, h1, hA, hC⟩ := affine k
      refine ⟨n + 2 ^ k, (q / 2 + 1 + r) + 2 * m * (s + 2 ^ k * q), ?_⟩
      have : q = 2 * (q / 2) + 1 := by omega
      rw [fN_add, h, h1, hA, hC, Int.pow_succ]
      generalize q / 2 = z at *
      subst this
      grind
/-- So many rounds from the state of the nine. -/
def Far (n : Nat) (h : Int) : Prop := ∃ q : Int, fN n h = 9 + 18446744073709551616 * q
theorem far (h : Int) : ∃ n, Far n h := by
  obtain ⟨n, q, e⟩ := reach 64 h 9
  exact ⟨n, q, e⟩
theorem fN_lin : ∀ (n : Nat) (x d : Int), ∃ e, fN n (x + 18446744073709551616 * d) = fN n x + 18446744073709551616 * e
  | 0, x, d => ⟨d, rfl⟩
  | n + 1, x, d => by
    obtain ⟨e, h⟩ := fN_lin n (6364136223846793005 * x + 1442695040888963407) (6364136223846793005 * d)
    refine ⟨e, ?_⟩
    show fN n (6364136223846793005 * (x + 18446744073709551616 * d) + 1442695040888963407) = _
    rw [show (6364136223846793005 * (x + 18446744073709551616 * d) + 1442695040888963407 : Int) = 6364136223846793005 * x + 1442695040888963407 + 18446744073709551616 * (6364136223846793005 * d) by grind, h]
    rfl
theorem Far.next {n : Nat} {h h' : Int} (H : Far (n + 1) h) (d : Int) (e : h' = 6364136223846793005 * h + 1442695040888963407 + 18446744073709551616 * d) : Far n h' := by
  obtain ⟨q, hq⟩ := H
  obtain ⟨r, hr⟩ := fN_lin n (6364136223846793005 * h + 1442695040888963407) d
  refine ⟨q + r, ?_⟩
  rw [e, hr]
  have : fN n (6364136223846793005 * h + 1442695040888963407) = 9 + 18446744073709551616 * q := hq
  rw [this]; grind
theorem Far.zero {h : Int} (H : Far 0 h) : ∃ q, h = 9 + 18446744073709551616 * q := H

/-- The generator's next state. -/
def bH (h : Int) : Int := wrap64 ((wrap64 (h * 6364136223846793005)) + 1442695040888963407)
theorem wrap_d (x : Int) : ∃ d, wrap64 x = x + 18446744073709551616 * d := ⟨-((x + 9223372036854775808) / 18446744073709551616), by unfold wrap64; omega⟩
theorem bH_far (h : Int) : ∃ d, bH h = 6364136223846793005 * h + 1442695040888963407 + 18446744073709551616 * d := by
  unfold bH
  obtain ⟨d1, e1⟩ := wrap_d (h * 6364136223846793005)
  obtain ⟨d2, e2⟩ := wrap_d (wrap64 (h * 6364136223846793005) + 1442695040888963407)
  exact ⟨d1 + d2, by rw [e2, e1]; grind⟩
theorem wrap_same {x y : Int} (h : ∃ d, x = y + 18446744073709551616 * d) : wrap64 x = wrap64 y := by
  obtain ⟨d, rfl⟩ := h
  unfold wrap64
  omega
theorem bH_same {h g : Int} (e : ∃ d, h = g + 18446744073709551616 * d) : bH h = bH g := by
  obtain ⟨d, rfl⟩ := e
  unfold bH
  rw [wrap_same (x := (g + 18446744073709551616 * d) * 6364136223846793005) (y := g * 6364136223846793005) ⟨d * 6364136223846793005, by grind⟩]
theorem bH9 : bH 9 = 3379688834381445604 := by simp [bH, wrap64]
theorem bH10 : bH 3379688834381445604 = -4222885772236715421 := by simp [bH, wrap64]
theorem bH11 : bH (-4222885772236715421) = -135621114171690570 := by simp [bH, wrap64]
def bI (l : List Int) (i : Int) : Int := if i < (l.length : Int) then wrap64 (i + 1) else i
theorem bI_nonneg (l : List Int) (hl : l.length ≤ 1048576) (i : Int) (h0 : 0 ≤ i) : 0 ≤ bI l i := by
  unfold bI
  split
  · unfold wrap64; omega
  · exact h0
/-- What the generator tells of a state, no byte of the code being left. -/
def bX (h : Int) : Int := Go.bits .and .i64 (Go.bits .xor .i64 (bH h / 8589934592) (bH h / 35184372088832)) 255
theorem byte_eq (l : List Int) (hl : l.length ≤ 1048576) (i h : Int) (h0 : 0 ≤ i) : ∃ x, spec_l01Byte.f l i h = some (x, bI l i, bH h) ∧ 0 ≤ x ∧ x ≤ 255 ∧ (¬ i < (l.length : Int) → x = bX h) := by
  obtain ⟨x, i', h', e, hx0, hx1, _⟩ := byte_some l hl i h h0
  refine ⟨x, ?_, hx0, hx1, fun hn => ?_⟩
  · rw [e]
    unfold spec_l01Byte.f at e
    unfold bI bH
    by_cases hc : i < (l.length : Int)
    · rw [if_pos hc, if_pos h0] at e
      injection e with e
      injection e with e1 e2
      injection e2 with e2 e3
      rw [if_pos hc, e2, e3]
    · rw [if_neg hc] at e
      injection e with e
      injection e with e1 e2
      injection e2 with e2 e3
      rw [if_neg hc, e2, e3]
  · unfold spec_l01Byte.f at e
    rw [if_neg hn] at e
    injection e with e
    injection e with e1 e2
    rw [← e1]
    rfl
theorem below_eq (l : List Int) (hl : l.length ≤ 1048576) (i h n : Int) (h0 : 0 ≤ i) (hn : 0 < n) (hn2 : n ≤ 256) : ∃ x, spec_l01Below.f l i h n = some (x, bI l i, bH h) ∧ 0 ≤ x ∧ x < n ∧ (¬ i < (l.length : Int) → x = Int.tmod (bX h) n) := by
  obtain ⟨x, e, hx0, hx1, hx⟩ := byte_eq l hl i h h0
  refine ⟨Int.tmod x n, ?_, ?_, ?_, fun hh => by rw [hx hh]⟩
  · unfold spec_l01Below.f
    rw [if_neg (by omega), if_pos hn2, e, Option.bind_some, if_neg (by omega)]
  · rw [Int.tmod_eq_emod_of_nonneg hx0]; exact Int.emod_nonneg _ (by omega)
  · rw [Int.tmod_eq_emod_of_nonneg hx0]; exact Int.emod_lt_of_pos _ hn
/-- So many bytes on, the generator stands at the nine. -/
def Reach (l : List Int) : Nat → Int → Int → Prop
  | 0, i, h => ¬ i < (l.length : Int) ∧ ∃ q : Int, h = 9 + 18446744073709551616 * q
  | m + 1, i, h => Reach l m (bI l i) (bH h)
theorem reach_far (l : List Int) : ∀ (n : Nat) (i h : Int), ¬ i < (l.length : Int) → Far n h → Reach l n i h
  | 0, i, h, hi, hf => ⟨hi, hf.zero⟩
  | n + 1, i, h, hi, hf => by
    obtain ⟨d, e⟩ := bH_far h
    have hb : bI l i = i := if_neg hi
    show Reach l n (bI l i) (bH h)
    rw [hb]
    exact reach_far l n i (bH h) hi (hf.next d e)
theorem reach_ex (l : List Int) (hl : l.length ≤ 1048576) : ∀ (d : Nat) (i h : Int), 0 ≤ i → (l.length : Int) - i ≤ d → ∃ m, Reach l m i h
  | 0, i, h, h0, hd => by
    obtain ⟨n, hf⟩ := far h
    exact ⟨n, reach_far l n i h (by omega) hf⟩
  | d + 1, i, h, h0, hd => by
    by_cases hi : i < (l.length : Int)
    · have hb : bI l i = i + 1 := by unfold bI; rw [if_pos hi, wrap_id] <;> omega
      obtain ⟨m, hm⟩ := reach_ex l hl d (bI l i) (bH h) (by omega) (by omega)
      exact ⟨m + 1, hm⟩
    · obtain ⟨n, hf⟩ := far h
      exact ⟨n, reach_far l n i h hi hf⟩
/-- A state whose next byte makes a letter. -/
def Soon (l : List Int) (i h : Int) : Prop := ¬ i < (l.length : Int) ∧ 3 ≤ Int.tmod (bX h) 5
theorem bX_same {h g : Int} (e : ∃ d, h = g + 18446744073709551616 * d) : bX h = bX g := by unfold bX; rw [bH_same e]
theorem bX9 : Int.tmod (bX 9) 5 = 4 := by unfold bX; rw [bH9]; decide
theorem bX10 : Int.tmod (bX 3379688834381445604) 5 = 3 := by unfold bX; rw [bH10]; decide
theorem bX11 : Int.tmod (bX (-4222885772236715421)) 5 = 4 := by unfold bX; rw [bH11]; decide
theorem soon0 {l : List Int} {i h : Int} (hr : Reach l 0 i h) : Soon l i h := ⟨hr.1, by rw [bX_same hr.2, bX9]; decide⟩
theorem soon1 {l : List Int} {i h : Int} (hr : Reach l 0 i h) : Soon l (bI l i) (bH h) := by
  have hb : bI l i = i := if_neg hr.1
  exact ⟨by rw [hb]; exact hr.1, by rw [bH_same hr.2, bH9, bX10]; decide⟩
theorem soon2 {l : List Int} {i h : Int} (hr : Reach l 0 i h) : Soon l (bI l (bI l i)) (bH (bH h)) := by
  have hb : bI l i = i := if_neg hr.1
  exact ⟨by rw [hb, hb]; exact hr.1, by rw [bH_same hr.2, bH9, bH10, bX11]; decide⟩
/-- Three bytes on. -/
theorem reach3 {l : List Int} : ∀ {m : Nat} {i h : Int}, Reach l (m + 1) i h → (Soon l (bI l (bI l (bI l i))) (bH (bH (bH h))) ∨ ∃ m', m' < m + 1 ∧ Reach l m' (bI l (bI l (bI l i))) (bH (bH (bH h))))
  | 0, i, h, hr => .inl (soon2 (show Reach l 0 (bI l i) (bH h) from hr))
  | 1, i, h, hr => .inl (soon1 (show Reach l 0 (bI l (bI l i)) (bH (bH h)) from hr))
  | m + 2, i, h, hr => .inr ⟨m, by omega, hr⟩
abbrev Made (N : Int) (l : List Int) (o : List Int) (i h : Int) : Prop := ∃ (r : ByteArray) (i' h' : Int), Ev (fun k => spec_l01Text.l0 k N o l i h) (r, i', h') ∧ r.size ≤ 3 ∧ 0 ≤ i'
theorem text_l1 (N : Int) (l : List Int) (i h x : Int) (c : Nat) (hc : c ≤ 20) : ∀ (r j : Nat), c - j = r → j ≤ c → ∀ o : List Int, o.length + r ≤ 1000 → ∀ R, Ev (fun k => spec_l01Text.l0 k N (o ++ List.replicate r x) l i h) R → Ev (fun k => spec_l01Text.l1 k N o (c : Int) x (j : Int) l i h) R := by
  intro r
  induction r with
  | zero =>
    intro j hj hjc o ho R hR
    obtain ⟨K, hK⟩ := hR
    refine ev_succ ⟨K, fun k hk => ?_⟩
    have hK := hK k hk
    try dsimp only at hK ⊢
    simp only [spec_l01Text.l1]
    rw [if_neg (by omega)]
    simpa using hK
  | succ r ih =>
    intro j hj hjc o ho R hR
    obtain ⟨K, hK⟩ := ih (j + 1) (by omega) (by omega) (o ++ [x]) (by simp; omega) R (by rw [List.append_assoc, List.singleton_append, ← List.replicate_succ]; exact hR)
    refine ev_succ ⟨K, fun k hk => ?_⟩
    have hK := hK k hk
    try dsimp only at hK ⊢
    simp only [spec_l01Text.l1]
    rw [if_pos (by omega), if_pos (by omega), wrap_succ (n := 21) (by omega) (by omega)]
    exact hK
theorem text_l2 (N : Int) (l : List Int) (i h : Int) (f : Nat) (c : Nat) (hc : c ≤ 20) : ∀ (r j : Nat), c - j = r → j ≤ c → ∀ o : List Int, o.length + r ≤ 1000 → f + j < o.length → ∃ o' : List Int, o'.length = o.length + r ∧ ∀ R, Ev (fun k => spec_l01Text.l0 k N o' l i h) R → Ev (fun k => spec_l01Text.l2 k N o (f : Int) (c : Int) (j : Int) l i h) R := by
  intro r
  induction r with
  | zero =>
    intro j hj hjc o ho hf
    refine ⟨o, rfl, fun R hR => ?_⟩
    obtain ⟨K, hK⟩ := hR
    refine ev_succ ⟨K, fun k hk => ?_⟩
    have hK := hK k hk
    try dsimp only at hK ⊢
    simp only [spec_l01Text.l2]
    rw [if_neg (by omega)]
    exact hK
  | succ r ih =>
    intro j hj hjc o ho hf
    have hw : wrap64 ((f : Int) + (j : Int)) = ((f + j : Nat) : Int) := by rw [wrap_id] <;> omega
    obtain ⟨o', hl', hh⟩ := ih (j + 1) (by omega) (by omega) (o ++ [rd o (wrap64 ((f : Int) + (j : Int)))]) (by simp; omega) (by simp; omega)
    refine ⟨o', by rw [hl']; simp; omega, fun R hR => ?_⟩
    obtain ⟨K, hK⟩ := hh R hR
    refine ev_succ ⟨K, fun k hk => ?_⟩
    have hK := hK k hk
    try dsimp only at hK ⊢
    simp only [spec_l01Text.l2]
    rw [if_pos (by omega), if_pos (by rw [hw]; omega), if_pos (by rw [hw]; omega), if_pos (by omega), wrap_succ (n := 21) (by omega) (by omega)]
    exact hK
/-- A round of the draw: it is done, or longer, or as long as it was at a later state. -/
theorem text_round (N : Nat) (hN : N ≤ 3) (l : List Int) (hl : l.length ≤ 1048576) (o : List Int) (ho : o.length < N) (longer : ∀ (o' : List Int) (i h : Int), o.length < o'.length → o'.length ≤ 100 → 0 ≤ i → Made N l o' i h) (i h : Int) (h0 : 0 ≤ i)
    (again : ¬ Soon l i h → Made N l o (bI l i) (bH h) ∧ Made N l o (bI l (bI l (bI l i))) (bH (bH (bH h)))) : Made N l o i h := by
  have n1 := bI_nonneg l hl i h0
  have n2 := bI_nonneg l hl _ n1
  have n3 := bI_nonneg l hl _ n2
  obtain ⟨x, e1, hx0, hx1, hxs⟩ := below_eq l hl i h 5 h0 (by omega) (by omega)
  have hlt : (o.length : Int) < (N : Int) := by omega
  have mk : ∀ {r : ByteArray} {i' h' : Int} {g : Nat → Option (ByteArray × Int × Int)}, Ev g (r, i', h') → r.size ≤ 3 → 0 ≤ i' → (∀ k, spec_l01Text.l0 (k + 1) N o l i h = g k) → Made N l o i h := by
    intro r i' h' g hg hr hi he
    obtain ⟨K, hK⟩ := hg
    exact ⟨r, i', h', ev_succ ⟨K, fun k hk => by rw [he]; exact hK k hk⟩, hr, hi⟩
  by_cases c0 : x = 0
  · obtain ⟨y, e2, _, _, _⟩ := byte_eq l hl (bI l i) (bH h) n1
    obtain ⟨r, i', h', hE, b1, b2⟩ := longer (o ++ [y % 256]) _ _ (by simp) (by simp; omega) n2
    refine mk hE b1 b2 (fun k => ?_)
    simp only [spec_l01Text.l0]
    rw [if_pos hlt, e1, Option.bind_some, if_pos c0, e2, Option.bind_some, if_pos (by omega)]
  by_cases c1 : x = 1
  · obtain ⟨y, e2, hy0, hy1, _⟩ := below_eq l hl (bI l i) (bH h) 9 n1 (by omega) (by omega)
    obtain ⟨z, e3, _, _, _⟩ := below_eq l hl (bI l (bI l i)) (bH (bH h)) 4 n2 (by omega) (by omega)
    obtain ⟨c, rfl⟩ := Int.eq_ofNat_of_zero_le hy0
    have M : Made N l (o ++ List.replicate c ((wrap64 (97 + z)) % 256)) (bI l (bI l (bI l i))) (bH (bH (bH h))) := by
      by_cases hc : c = 0
      · subst hc
        rw [List.replicate_zero, List.append_nil]
        refine (again (fun hs => ?_)).2
        have := hxs hs.1
        have := hs.2
        omega
      · exact longer _ _ _ (by simp; omega) (by simp; omega) n3
    obtain ⟨r, i', h', hE, b1, b2⟩ := M
    have hE2 := text_l1 (N : Int) l _ _ ((wrap64 (97 + z)) % 256) c (by omega) c 0 (by omega) (by omega) o (by omega) _ hE
    refine mk hE2 b1 b2 (fun k => ?_)
    simp only [spec_l01Text.l0]
    rw [if_pos hlt, e1, Option.bind_some, if_neg c0, if_pos c1, e2, Option.bind_some, e3, Option.bind_some]
    rfl
  by_cases c2 : x = 2
  · have nosoon : ¬ Soon l i h := fun hs => by
      have := hxs hs.1
      have := hs.2
      omega
    by_cases hp : (o.length : Int) > 0
    · obtain ⟨y, e2, hy0, hy1, _⟩ := below_eq l hl (bI l i) (bH h) (o.length : Int) n1 hp (by omega)
      obtain ⟨z, e3, hz0, hz1, _⟩ := below_eq l hl (bI l (bI l i)) (bH (bH h)) 20 n2 (by omega) (by omega)
      obtain ⟨f, rfl⟩ := Int.eq_ofNat_of_zero_le hy0
      obtain ⟨c, rfl⟩ := Int.eq_ofNat_of_zero_le hz0
      obtain ⟨o', hl', hh⟩ := text_l2 (N : Int) l (bI l (bI l (bI l i))) (bH (bH (bH h))) f c (by omega) c 0 (by omega) (by omega) o (by omega) (by omega)
      have M : Made N l o' (bI l (bI l (bI l i))) (bH (bH (bH h))) ∨ c = 0 := by
        by_cases hc : c = 0
        · exact .inr hc
        · exact .inl (longer _ _ _ (by omega) (by omega) n3)
      rcases M with M | hc
      · obtain ⟨r, i', h', hE, b1, b2⟩ := M
        refine mk (hh _ hE) b1 b2 (fun k => ?_)
        simp only [spec_l01Text.l0]
        rw [if_pos hlt, e1, Option.bind_some, if_neg c0, if_neg c1, if_pos c2, if_pos hp, e2, Option.bind_some, e3, Option.bind_some]
        rfl
      · subst hc
        obtain ⟨r, i', h', ⟨K, hK⟩, b1, b2⟩ := (again nosoon).2
        refine mk (r := r) (i' := i') (h' := h') (g := fun k => spec_l01Text.l2 k N o (f : Int) ((0 : Nat) : Int) 0 l (bI l (bI l (bI l i))) (bH (bH (bH h)))) (ev_succ ⟨K, fun k hk => ?_⟩) b1 b2 (fun k => ?_)
        · have hK := hK k hk
          try dsimp only at hK ⊢
          simp only [spec_l01Text.l2]
          rw [if_neg (by omega)]
          exact hK
        · simp only [spec_l01Text.l0]
          rw [if_pos hlt, e1, Option.bind_some, if_neg c0, if_neg c1, if_pos c2, if_pos hp, e2, Option.bind_some, e3, Option.bind_some]
    · obtain ⟨r, i', h', hE, b1, b2⟩ := (again nosoon).1
      refine mk hE b1 b2 (fun k => ?_)
      simp only [spec_l01Text.l0]
      rw [if_pos hlt, e1, Option.bind_some, if_neg c0, if_neg c1, if_pos c2, if_neg hp]
  · obtain ⟨y, e2, _, _, _⟩ := below_eq l hl (bI l i) (bH h) 26 n1 (by omega) (by omega)
    obtain ⟨r, i', h', hE, b1, b2⟩ := longer (o ++ [(wrap64 (97 + y)) % 256]) _ _ (by simp) (by simp; omega) n2
    refine mk hE b1 b2 (fun k => ?_)
    simp only [spec_l01Text.l0]
    rw [if_pos hlt, e1, Option.bind_some, if_neg c0, if_neg c1, if_neg c2, e2, Option.bind_some, if_pos (by omega)]
theorem text_need (N : Nat) (hN : N ≤ 3) (l : List Int) (hl : l.length ≤ 1048576) : ∀ (need : Nat) (o : List Int) (i h : Int), N - o.length ≤ need → o.length ≤ 100 → 0 ≤ i → Made N l o i h
  | 0, o, i, h, hn, ho, h0 => by
    refine ⟨strOfNums (o.take N), i, h, ev_now fun k => ?_, by rw [strOfNums_size]; simp; omega, h0⟩
    simp only [spec_l01Text.l0]
    rw [if_neg (by omega), if_pos (by omega), if_pos (by omega), Int.toNat_natCast]
  | need + 1, o, i, h, hn, ho, h0 => by
    by_cases hd : o.length < N
    · have longer : ∀ (o' : List Int) (i h : Int), o.length < o'.length → o'.length ≤ 100 → 0 ≤ i → Made N l o' i h := fun o' i h h1 h2 h3 => text_need N hN l hl need o' i h (by omega) h2 h3
      have soon : ∀ i h, 0 ≤ i → Soon l i h → Made N l o i h := fun i h h0 hs => text_round N hN l hl o hd longer i h h0 (fun hn => absurd hs hn)
      have all : ∀ (m : Nat) (i h : Int), 0 ≤ i → Reach l m i h → Made N l o i h := by
        intro m
        induction m using Nat.strongRecOn with
        | _ m ih =>
          intro i h h0 hr
          have n1 := bI_nonneg l hl i h0
          have n2 := bI_nonneg l hl _ n1
          have n3 := bI_nonneg l hl _ n2
          cases m with
          | zero => exact soon i h h0 (soon0 hr)
          | succ m =>
            refine text_round N hN l hl o hd longer i h h0 (fun _ => ⟨ih m (by omega) _ _ n1 hr, ?_⟩)
            rcases reach3 hr with hs | ⟨m', hm, hr'⟩
            · exact soon _ _ n3 hs
            · exact ih m' hm _ _ n3 hr'
      obtain ⟨m, hm⟩ := reach_ex l hl l.length i h h0 (by omega)
      exact all m i h h0 hm
    · exact text_need N hN l hl need o i h (by omega) ho h0
/-- A text of at most three bytes is drawn. -/
theorem text_some (N : Nat) (hN : N ≤ 3) (l : List Int) (hl : l.length ≤ 1048576) (i h : Int) (h0 : 0 ≤ i) : ∃ (r : ByteArray) (i' h' : Int), Ev (fun k => spec_l01Text.f k l i h (N : Int)) (r, i', h') ∧ r.size ≤ 3 ∧ 0 ≤ i' := by
  obtain ⟨r, i', h', ⟨K, hK⟩, b1, b2⟩ := text_need N hN l hl N [] i h (by simp) (by simp) h0
  exact ⟨r, i', h', ⟨K, fun k hk => hK k hk⟩, b1, b2⟩
end Go.Proofs.Ytnjbpdbdeidngaa.Q
