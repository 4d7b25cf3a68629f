/- Conditions that are drawn, plainly: how great they may be, and which texts stand in them. -/
import Derived.Test.YthkepfodengceaaPlD
import Derived.Test.YthkepfodengceaaPlX0
import Derived.Test.YthkepfodengceaaQ2
import Derived.Test.YthkepfodengceaaQ3
namespace Go.Proofs.Ythkepfodengceaa.Q
open Go Go.RowKit Go.Proofs.YthkepfodengceaaW.PrintWords Go.Proofs.YthkepfodengceaaW.PrintLast
set_option linter.unusedVariables false
/-- The texts that are drawn: names, odd names, labels. -/
def nameT : List ByteArray := [(⟨#[97]⟩ : ByteArray), (⟨#[98]⟩ : ByteArray), (⟨#[105, 100]⟩ : ByteArray), (⟨#[110, 97, 109, 101]⟩ : ByteArray), (⟨#[116, 49]⟩ : ByteArray), (⟨#[105, 116, 101, 109]⟩ : ByteArray), (⟨#[66, 105, 103]⟩ : ByteArray), (⟨#[116, 119, 111, 32, 119, 111, 114, 100, 115]⟩ : ByteArray), (⟨#[116, 97, 98, 108, 101]⟩ : ByteArray), (⟨#[120, 95, 49]⟩ : ByteArray)]
def oddT : List ByteArray := [(⟨#[]⟩ : ByteArray), (⟨#[97]⟩ : ByteArray), (⟨#[65]⟩ : ByteArray), (⟨#[49, 97]⟩ : ByteArray), (⟨#[97, 34, 98]⟩ : ByteArray), (⟨#[99, 97, 102, 195, 169]⟩ : ByteArray), (⟨#[115, 101, 108, 101, 99, 116]⟩ : ByteArray), (⟨#[97, 97, 97, 97, 97, 97, 97, 97, 97, 97, 97, 97, 97, 97, 97, 97, 97, 97, 97, 97, 97, 97, 97, 97, 97, 97, 97, 97, 97, 97, 97, 97, 97, 97, 97, 97, 97, 97, 97, 97]⟩ : ByteArray), (⟨#[97, 97, 97, 97, 97, 97, 97, 97, 97, 97, 97, 97, 97, 97, 97, 97, 97, 97, 97, 97, 97, 97, 97, 97, 97, 97, 97, 97, 97, 97, 97, 97, 97, 97, 97, 97, 97, 97, 97, 97, 97]⟩ : ByteArray), (⟨#[97, 0]⟩ : ByteArray), (⟨#[95]⟩ : ByteArray), (⟨#[32]⟩ : ByteArray)]
def textT : List ByteArray := [(⟨#[]⟩ : ByteArray), (⟨#[97]⟩ : ByteArray), (⟨#[105, 116, 39, 115]⟩ : ByteArray), (⟨#[104, 97, 112, 112, 121]⟩ : ByteArray), (⟨#[10]⟩ : ByteArray)]
def drawnT : List ByteArray := nameT ++ oddT ++ textT
mutual
def allT (P : ByteArray → Prop) : IE → Prop
  | ⟨_, t, _, l⟩ => P t ∧ allTs P l
def allTs (P : ByteArray → Prop) : List IE → Prop
  | [] => True
  | e :: l => allT P e ∧ allTs P l
end
mutual
theorem allT_imp {P Q : ByteArray → Prop} (h : ∀ t, P t → Q t) : ∀ e, allT P e → allT Q e
  | ⟨_, t, _, l⟩, g => by simp only [allT] at g ⊢; exact ⟨h _ g.1, allTs_imp h l g.2⟩
theorem allTs_imp {P Q : ByteArray → Prop} (h : ∀ t, P t → Q t) : ∀ l, allTs P l → allTs Q l
  | [], _ => by simp only [allTs]
  | e :: l, g => by simp only [allTs] at g ⊢; exact ⟨allT_imp h e g.1, allTs_imp h l g.2⟩
end
theorem allTs_append {P : ByteArray → Prop} : ∀ l m, allTs P l → allTs P m → allTs P (l ++ m)
  | [], m, _, h => h
  | e :: l, m, h, h' => by simp only [allTs, List.cons_append] at h ⊢; exact ⟨h.1, allTs_append l m h.2 h'⟩
theorem nIs_append : ∀ l m, nIs (l ++ m) = nIs l + nIs m
  | [], m => by simp [nIs]
  | e :: l, m => by simp only [nIs, List.cons_append, nIs_append l m]; omega
mutual
theorem wIE_le : ∀ e, allT (fun t => t.size ≤ 41) e → wIE e ≤ 41 * nIE e
  | ⟨_, t, _, l⟩, g => by simp only [allT] at g; have := wIs_le l g.2; have := g.1; simp only [wIE, nIE]; omega
theorem wIs_le : ∀ l, allTs (fun t => t.size ≤ 41) l → wIs l ≤ 41 * nIs l
  | [], _ => by simp [wIs]
  | e :: l, g => by simp only [allTs] at g; have := wIE_le e g.1; have := wIs_le l g.2; simp only [wIs, nIs]; omega
end
theorem drawnT_size : ∀ t ∈ drawnT, t.size ≤ 41 := by decide
theorem l03Name_some (l : List Int) (hl : l.length ≤ 1048576) (i h : Int) (h0 : 0 ≤ i) : ∃ x i' h', spec_l03Name.f l i h = some (x, i', h') ∧ x ∈ nameT ∧ 0 ≤ i' := by
  obtain ⟨x, i1, h1, e, hx, hi⟩ := pick_some l hl i h [(⟨#[97]⟩ : ByteArray), (⟨#[98]⟩ : ByteArray), (⟨#[105, 100]⟩ : ByteArray), (⟨#[110, 97, 109, 101]⟩ : ByteArray), (⟨#[116, 49]⟩ : ByteArray), (⟨#[105, 116, 101, 109]⟩ : ByteArray), (⟨#[66, 105, 103]⟩ : ByteArray), (⟨#[116, 119, 111, 32, 119, 111, 114, 100, 115]⟩ : ByteArray), (⟨#[116, 97, 98, 108, 101]⟩ : ByteArray), (⟨#[120, 95, 49]⟩ : ByteArray)] (by simp) h0
  refine ⟨x, i1, h1, ?_, hx, hi⟩
  simp only [spec_l03Name.f, e, Option.bind_some]
theorem l03Odd_some (l : List Int) (hl : l.length ≤ 1048576) (i h : Int) (h0 : 0 ≤ i) : ∃ x i' h', spec_l03Odd.f l i h = some (x, i', h') ∧ x ∈ oddT ∧ 0 ≤ i' := by
  obtain ⟨x, i1, h1, e, hx, hi⟩ := pick_some l hl i h [(⟨#[]⟩ : ByteArray), (⟨#[97]⟩ : ByteArray), (⟨#[65]⟩ : ByteArray), (⟨#[49, 97]⟩ : ByteArray), (⟨#[97, 34, 98]⟩ : ByteArray), (⟨#[99, 97, 102, 195, 169]⟩ : ByteArray), (⟨#[115, 101, 108, 101, 99, 116]⟩ : ByteArray), (⟨#[97, 97, 97, 97, 97, 97, 97, 97, 97, 97, 97, 97, 97, 97, 97, 97, 97, 97, 97, 97, 97, 97, 97, 97, 97, 97, 97, 97, 97, 97, 97, 97, 97, 97, 97, 97, 97, 97, 97, 97]⟩ : ByteArray), (⟨#[97, 97, 97, 97, 97, 97, 97, 97, 97, 97, 97, 97, 97, 97, 97, 97, 97, 97, 97, 97, 97, 97, 97, 97, 97, 97, 97, 97, 97, 97, 97, 97, 97, 97, 97, 97, 97, 97, 97, 97, 97]⟩ : ByteArray), (⟨#[97, 0]⟩ : ByteArray), (⟨#[95]⟩ : ByteArray), (⟨#[32]⟩ : ByteArray)] (by simp) h0
  refine ⟨x, i1, h1, ?_, hx, hi⟩
  simp only [spec_l03Odd.f, e, Option.bind_some]
theorem name_drawn {x : ByteArray} (h : x ∈ nameT) : x ∈ drawnT := by unfold drawnT; exact List.mem_append_left _ (List.mem_append_left _ h)
theorem odd_drawn {x : ByteArray} (h : x ∈ oddT) : x ∈ drawnT := by unfold drawnT; exact List.mem_append_left _ (List.mem_append_right _ h)
theorem text_drawn {x : ByteArray} (h : x ∈ textT) : x ∈ drawnT := by unfold drawnT; exact List.mem_append_right _ h
theorem empty_drawn : (⟨#[]⟩ : ByteArray) ∈ drawnT := text_drawn (by simp [textT])
theorem make_l0 (l : List Int) (hl : l.length ≤ 1048576) (N : Nat) (x1 kind a m : Int) (tx : ByteArray) (t : Nat) (ht : spec_l04Kids.f kind = some (t : Int)) (ht2 : t ≤ 2)
    (ih : 0 < t → ∀ i h, 0 ≤ i → ∃ (e : IE) (i' h' : Int), Ev (fun k => spec_l04Make.f k l i h (wrap64 (x1 - 1))) (e.f0, e.f1, e.f2, e.f3, i', h') ∧ 0 ≤ i' ∧ nIE e + 1 ≤ N ∧ allT (fun s => s ∈ drawnT) e) :
    ∀ (r j : Nat), t - j = r → j ≤ t → ∀ (ks : List IE) (i h : Int), ks.length = j → nIs ks + j ≤ j * N → allTs (fun s => s ∈ drawnT) ks → 0 ≤ i →
      ∃ (ks' : List IE) (i' h' : Int), Ev (fun k => spec_l04Make.l0 k x1 kind (j : Int) l i h a tx m ks) (a, tx, m, ks', i', h') ∧ nIs ks' + t ≤ t * N ∧ allTs (fun s => s ∈ drawnT) ks' ∧ 0 ≤ i' ∧ ks'.length = t := by
  intro r
  induction r with
  | zero =>
    intro j hj hjt ks i h hk hn ha h0
    have : j = t := by omega
    subst this
    refine ⟨ks, i, h, ev_now fun k => ?_, hn, ha, h0, hk⟩
    simp only [spec_l04Make.l0]
    rw [ht, Option.bind_some, if_neg (by omega)]
  | succ r ihr =>
    intro j hj hjt ks i h hk hn ha h0
    obtain ⟨e, i1, h1, ⟨K1, hK1⟩, hi1, hne, hae⟩ := ih (by omega) i h h0
    have hN : nIs (ks ++ [e]) + (j + 1) ≤ (j + 1) * N := by
      rw [nIs_append, Nat.succ_mul]
      simp only [nIs]
      omega
    obtain ⟨ks', i', h', ⟨K2, hK2⟩, b1, b2, b3, b4⟩ := ihr (j + 1) (by omega) (by omega) (ks ++ [e]) i1 h1 (by simp [hk]) hN (allTs_append ks [e] ha (by simp only [allTs]; exact ⟨hae, trivial⟩)) hi1
    refine ⟨ks', i', h', ev_succ ⟨K1 + K2, fun k hk' => ?_⟩, b1, b2, b3, b4⟩
    have hK1 := hK1 k (by omega)
    have hK2 := hK2 k (by omega)
    try dsimp only at hK1 hK2 ⊢
    simp only [spec_l04Make.l0]
    rw [ht, Option.bind_some, if_pos (by omega), hK1, Option.bind_some, if_pos (by omega), wrap_succ (n := 3) (by omega) (by omega)]
    cases e
    exact hK2
theorem kidsB_nat (a : Int) : ∃ t : Nat, kidsB a = (t : Int) ∧ t ≤ 2 ∧ (a < 6 → t = 0) := by
  unfold kidsB
  by_cases h1 : a ≤ 5
  · exact ⟨0, by rw [if_pos h1]; rfl, by omega, fun _ => rfl⟩
  · by_cases h2 : a ≤ 7
    · exact ⟨1, by rw [if_neg h1, if_pos h2]; rfl, by omega, by omega⟩
    · exact ⟨2, by rw [if_neg h1, if_neg h2]; rfl, by omega, by omega⟩
theorem make_j0 (l : List Int) (hl : l.length ≤ 1048576) (N : Nat) (x1 kind : Int) (hk0 : 0 ≤ kind) (hk1 : kind ≤ 18)
    (ih : ¬ kind < 6 → ∀ i h, 0 ≤ i → ∃ (e : IE) (i' h' : Int), Ev (fun k => spec_l04Make.f k l i h (wrap64 (x1 - 1))) (e.f0, e.f1, e.f2, e.f3, i', h') ∧ 0 ≤ i' ∧ nIE e + 1 ≤ N ∧ allT (fun s => s ∈ drawnT) e) (hN : 0 < N) (i h : Int) (h0 : 0 ≤ i) :
    ∃ (e : IE) (i' h' : Int), Ev (fun k => spec_l04Make.j0 k x1 kind l i h) (e.f0, e.f1, e.f2, e.f3, i', h') ∧ 0 ≤ i' ∧ nIE e + 1 ≤ 2 * N ∧ allT (fun s => s ∈ drawnT) e := by
  obtain ⟨t, e1, ht2, ht3⟩ := kidsB_nat kind
  have ht : spec_l04Kids.f kind = some (t : Int) := by rw [l04Kids_eq, if_pos ⟨hk0, hk1⟩, e1]
  have G : ∀ (tx : ByteArray) (m i h : Int), tx ∈ drawnT → 0 ≤ i → ∃ (e : IE) (i' h' : Int), Ev (fun k => spec_l04Make.j1 k x1 kind l i h kind tx m) (e.f0, e.f1, e.f2, e.f3, i', h') ∧ 0 ≤ i' ∧ nIE e + 1 ≤ 2 * N ∧ allT (fun s => s ∈ drawnT) e := by
    intro tx m i h htx h0
    obtain ⟨ks, i', h', ⟨K, hK⟩, b1, b2, b3, b4⟩ := make_l0 l hl N x1 kind kind m tx t ht ht2 (fun hp => ih (fun hlt => by have := ht3 hlt; omega)) t 0 (by omega) (by omega) [] i h rfl (by simp [nIs]) (by simp only [allTs]) h0
    refine ⟨⟨kind, tx, m, ks⟩, i', h', ev_succ ⟨K, fun k hk => ?_⟩, b3, ?_, by simp only [allT]; exact ⟨htx, b2⟩⟩
    · have hK := hK k hk
      try dsimp only at hK ⊢
      simp only [spec_l04Make.j1]
      exact hK
    · simp only [nIE]
      have : t * N ≤ 2 * N := Nat.mul_le_mul_right _ ht2
      have h3 : t = 0 ∨ t = 1 ∨ t = 2 := by omega
      rcases h3 with rfl | rfl | rfl <;> omega
  by_cases c0 : kind = 0
  · obtain ⟨x, i1, h1, e, hx, hi1⟩ := l03Name_some l hl i h h0
    obtain ⟨e', i', h', ⟨K, hK⟩, b1, b2, b3⟩ := G x 0 i1 h1 (name_drawn hx) hi1
    refine ⟨e', i', h', ev_succ ⟨K, fun k hk => ?_⟩, b1, b2, b3⟩
    have hK := hK k hk
    try dsimp only at hK ⊢
    simp only [spec_l04Make.j0]
    rw [if_pos c0, e, Option.bind_some]
    exact hK
  by_cases c1 : kind = 1
  · obtain ⟨x, i1, h1, e, hx, hi1⟩ := pickInt_some l hl i h [0, 1, 7, 999999999] (by simp) h0
    obtain ⟨e', i', h', ⟨K, hK⟩, b1, b2, b3⟩ := G (⟨#[]⟩ : ByteArray) x i1 h1 empty_drawn hi1
    refine ⟨e', i', h', ev_succ ⟨K, fun k hk => ?_⟩, b1, b2, b3⟩
    have hK := hK k hk
    try dsimp only at hK ⊢
    simp only [spec_l04Make.j0]
    rw [if_neg c0, if_pos c1, e, Option.bind_some]
    exact hK
  by_cases c2 : kind = 2
  · obtain ⟨x, i1, h1, e, hx, hi1⟩ := pick_some l hl i h [(⟨#[]⟩ : ByteArray), (⟨#[97]⟩ : ByteArray), (⟨#[105, 116, 39, 115]⟩ : ByteArray), (⟨#[104, 97, 112, 112, 121]⟩ : ByteArray), (⟨#[10]⟩ : ByteArray)] (by simp) h0
    obtain ⟨e', i', h', ⟨K, hK⟩, b1, b2, b3⟩ := G x 0 i1 h1 (text_drawn hx) hi1
    refine ⟨e', i', h', ev_succ ⟨K, fun k hk => ?_⟩, b1, b2, b3⟩
    have hK := hK k hk
    try dsimp only at hK ⊢
    simp only [spec_l04Make.j0]
    rw [if_neg c0, if_neg c1, if_pos c2, e, Option.bind_some]
    exact hK
  · obtain ⟨e', i', h', ⟨K, hK⟩, b1, b2, b3⟩ := G (⟨#[]⟩ : ByteArray) 0 i h empty_drawn h0
    refine ⟨e', i', h', ev_succ ⟨K, fun k hk => ?_⟩, b1, b2, b3⟩
    have hK := hK k hk
    try dsimp only at hK ⊢
    simp only [spec_l04Make.j0]
    rw [if_neg c0, if_neg c1, if_neg c2]
    exact hK
/-- A drawn condition, so deep. -/
theorem make_some (l : List Int) (hl : l.length ≤ 1048576) : ∀ (d : Nat), d ≤ 20 → ∀ (i h : Int), 0 ≤ i → ∃ (e : IE) (i' h' : Int), Ev (fun k => spec_l04Make.f k l i h (d : Int)) (e.f0, e.f1, e.f2, e.f3, i', h') ∧ 0 ≤ i' ∧ nIE e + 1 ≤ 2 ^ (d + 1) ∧ allT (fun s => s ∈ drawnT) e
  | 0, _, i, h, h0 => by
    obtain ⟨x, i1, h1, e1, hx0, hx1, hi1⟩ := below_some l hl i h 19 h0
    obtain ⟨y, i2, h2, e2, hy0, hy1, hi2⟩ := below_some l hl i1 h1 6 hi1
    obtain ⟨e, i', h', ⟨K, hK⟩, b1, b2, b3⟩ := make_j0 l hl 1 0 y hy0 (by have := hy1 (by omega); omega) (fun hn => absurd (hy1 (by omega)) hn) (by omega) i2 h2 hi2
    refine ⟨e, i', h', ev_succ ⟨K, fun k hk => ?_⟩, b1, b2, b3⟩
    have hK := hK k hk
    try dsimp only at hK ⊢
    simp only [spec_l04Make.f]
    rw [e1, Option.bind_some, if_pos (by rfl), e2, Option.bind_some]
    exact hK
  | d + 1, hd, i, h, h0 => by
    obtain ⟨x, i1, h1, e1, hx0, hx1, hi1⟩ := below_some l hl i h 19 h0
    have hw : wrap64 (((d + 1 : Nat) : Int) - 1) = (d : Int) := by rw [wrap_id] <;> omega
    have hp : 0 < 2 ^ (d + 1) := Nat.pow_pos (by omega)
    obtain ⟨e, i', h', ⟨K, hK⟩, b1, b2, b3⟩ := make_j0 l hl (2 ^ (d + 1)) ((d + 1 : Nat) : Int) x hx0 (by have := hx1 (by omega); omega) (fun _ => by rw [hw]; exact make_some l hl d (by omega)) hp i1 h1 hi1
    refine ⟨e, i', h', ev_succ ⟨K, fun k hk => ?_⟩, b1, by rw [Nat.pow_succ 2 (d + 1)]; omega, b3⟩
    have hK := hK k hk
    try dsimp only at hK ⊢
    simp only [spec_l04Make.f]
    rw [e1, Option.bind_some, if_neg (by omega)]
    exact hK
theorem odd_l0 (l : List Int) (i h : Int) (n : Nat) (hn : n ≤ 21) : ∀ (r j : Nat), n - j = r → j ≤ n → ∀ e : IE, allT (fun s => s ∈ drawnT) e →
    ∃ e' : IE, Ev (fun k => spec_l04Odd.l0 k (n : Int) (j : Int) l i h e.f0 e.f1 e.f2 e.f3) (e'.f0, e'.f1, e'.f2, e'.f3, i, h) ∧ nIE e' ≤ nIE e + 2 * r ∧ allT (fun s => s ∈ drawnT) e' := by
  intro r
  induction r with
  | zero =>
    intro j hj hjn e ha
    refine ⟨e, ev_now fun k => ?_, by omega, ha⟩
    simp only [spec_l04Odd.l0]
    rw [if_neg (by omega)]
  | succ r ih =>
    intro j hj hjn e ha
    obtain ⟨e', ⟨K, hK⟩, b1, b2⟩ := ih (j + 1) (by omega) (by omega) ⟨8, (⟨#[]⟩ : ByteArray), 0, [e, ⟨3, (⟨#[]⟩ : ByteArray), 0, []⟩]⟩ (by simp only [allT, allTs]; exact ⟨empty_drawn, ha, ⟨empty_drawn, trivial⟩, trivial⟩)
    refine ⟨e', ev_succ ⟨K, fun k hk => ?_⟩, ?_, b2⟩
    · have hK := hK k hk
      try dsimp only at hK ⊢
      simp only [spec_l04Odd.l0]
      rw [if_pos (by omega), wrap_succ (n := 22) (by omega) (by omega)]
      cases e
      exact hK
    · simp only [nIE, nIs] at b1
      omega
theorem wrap18 (q : Nat) (hq : q < 4) : wrap64 (18 + (q : Int)) = ((18 + q : Nat) : Int) := by rw [wrap_id] <;> omega
/-- A drawn condition that may be odd. -/
theorem odd_some (l : List Int) (hl : l.length ≤ 1048576) (i h : Int) (h0 : 0 ≤ i) : ∃ (e : IE) (i' h' : Int), Ev (fun k => spec_l04Odd.f k l i h) (e.f0, e.f1, e.f2, e.f3, i', h') ∧ 0 ≤ i' ∧ nIE e ≤ 100 ∧ allT (fun s => s ∈ drawnT) e := by
  obtain ⟨⟨a, t, m, ks⟩, i1, h1, ⟨K1, hK1⟩, hi1, hn, ha⟩ := make_some l hl 3 (by omega) i h h0
  obtain ⟨x, i2, h2, e2, hx0, hx1, hi2⟩ := below_some l hl i1 h1 12 hi1
  have hn : nIE ⟨a, t, m, ks⟩ + 1 ≤ 16 := hn
  have hks := nIs_len ks
  have en : nIE ⟨a, t, m, ks⟩ = 1 + nIs ks := by simp only [nIE]
  have ha' := ha
  simp only [allT] at ha'
  by_cases c0 : x = 0
  · obtain ⟨y, i3, h3, e3, _, _, hi3⟩ := below_some l hl i2 h2 21 hi2
    refine ⟨⟨wrap64 (y - 1), t, m, ks⟩, i3, h3, ⟨K1, fun k hk => ?_⟩, hi3, by simp only [nIE]; omega, by simp only [allT]; exact ha'⟩
    have hK1 : spec_l04Make.f k l i h 3 = some (a, t, m, ks, i1, h1) := hK1 k hk
    try dsimp only
    simp only [spec_l04Odd.f, hK1, Option.bind_some, e2]
    rw [if_pos c0, e3, Option.bind_some]
  by_cases c1 : x = 1
  · obtain ⟨y, i3, h3, e3, hy, hi3⟩ := l03Odd_some l hl i2 h2 hi2
    refine ⟨⟨a, y, m, ks⟩, i3, h3, ⟨K1, fun k hk => ?_⟩, hi3, by simp only [nIE]; omega, by simp only [allT]; exact ⟨odd_drawn hy, ha'.2⟩⟩
    have hK1 : spec_l04Make.f k l i h 3 = some (a, t, m, ks, i1, h1) := hK1 k hk
    try dsimp only
    simp only [spec_l04Odd.f, hK1, Option.bind_some, e2]
    rw [if_neg c0, if_pos c1, e3, Option.bind_some]
  by_cases c2 : x = 2
  · obtain ⟨y, i3, h3, e3, hy, hi3⟩ := pickInt_some l hl i2 h2 [-1, 5, 1000000000] (by simp) hi2
    refine ⟨⟨a, t, y, ks⟩, i3, h3, ⟨K1, fun k hk => ?_⟩, hi3, by simp only [nIE]; omega, by simp only [allT]; exact ha'⟩
    have hK1 : spec_l04Make.f k l i h 3 = some (a, t, m, ks, i1, h1) := hK1 k hk
    try dsimp only
    simp only [spec_l04Odd.f, hK1, Option.bind_some, e2]
    rw [if_neg c0, if_neg c1, if_pos c2, e3, Option.bind_some]
  by_cases c3 : x = 3
  · refine ⟨⟨a, t, m, ks ++ [⟨5, (⟨#[]⟩ : ByteArray), 0, []⟩]⟩, i2, h2, ⟨K1, fun k hk => ?_⟩, hi2, by simp only [nIE, nIs_append, nIs]; omega, by simp only [allT]; exact ⟨ha'.1, allTs_append _ _ ha'.2 (by simp only [allTs, allT]; exact ⟨⟨empty_drawn, trivial⟩, trivial⟩)⟩⟩
    have hK1 : spec_l04Make.f k l i h 3 = some (a, t, m, ks, i1, h1) := hK1 k hk
    try dsimp only
    simp only [spec_l04Odd.f, hK1, Option.bind_some, e2]
    rw [if_neg c0, if_neg c1, if_neg c2, if_pos c3, if_pos (by omega)]
  by_cases c4 : x = 4
  · obtain ⟨y, i3, h3, e3, hy0, hy1, hi3⟩ := below_some l hl i2 h2 4 hi2
    obtain ⟨q, rfl⟩ := Int.eq_ofNat_of_zero_le hy0
    have hq : q < 4 := by have := hy1 (by omega); omega
    obtain ⟨e', ⟨K2, hK2⟩, b1, b2⟩ := odd_l0 l i3 h3 (18 + q) (by omega) (18 + q) 0 (by omega) (by omega) ⟨a, t, m, ks⟩ ha
    refine ⟨e', i3, h3, ⟨K1 + K2, fun k hk => ?_⟩, hi3, by omega, b2⟩
    have hK1 : spec_l04Make.f k l i h 3 = some (a, t, m, ks, i1, h1) := hK1 k (by omega)
    have hK2 := hK2 k (by omega)
    try dsimp only at hK2 ⊢
    simp only [spec_l04Odd.f, hK1, Option.bind_some, e2]
    rw [if_neg c0, if_neg c1, if_neg c2, if_neg c3, if_pos c4, e3, Option.bind_some]
    try dsimp only
    rw [wrap18 q hq]
    exact hK2
  · refine ⟨⟨a, t, m, ks⟩, i2, h2, ⟨K1, fun k hk => ?_⟩, hi2, by omega, ha⟩
    have hK1 : spec_l04Make.f k l i h 3 = some (a, t, m, ks, i1, h1) := hK1 k hk
    try dsimp only
    simp only [spec_l04Odd.f, hK1, Option.bind_some, e2]
    rw [if_neg c0, if_neg c1, if_neg c2, if_neg c3, if_neg c4]
end Go.Proofs.Ythkepfodengceaa.Q
