/- Written by a program of this session (drive.py) over the translation: a part of the proofs of the laws; nothing is asked beyond what each statement says. -/
import Derived.Test.YtbbndlagginnoaaQ0
import Derived.Test.YtbbndlagginnoaaQ18
namespace Go.Proofs.Ytbbndlagginnoaa.Q
open Go.RowKit Go.Proofs.YtbbndlagginnoaaW.PrintWords Go.Proofs.YtbbndlagginnoaaW.PrintLast Go.Proofs.YtbbndlagginnoaaW.PrintMore
attribute [local go_sem] max2_int min2_int max_two min_two max_three min_three max_four min_four   -- for this text's walks alone
set_option linter.unusedVariables false
set_option linter.unusedSimpArgs false

/-! ### spec_Nodes: function 46 -/
mutual
def spec_Nodes.l0 : Nat → Int → Int → Int → ByteArray → Int → List (S40) → Option (Int)
  | 0, _, _, _, _, _, _ => none
  | k + 1, x3, x4, x647000, x647001, x647002, x647003 => if x4 < (x647003.length : Int) then (if 0 ≤ x4 then ((spec_Nodes.f k ((rd_T40 x647003 x4).f0) ((rd_T40 x647003 x4).f1) ((rd_T40 x647003 x4).f2) ((rd_T40 x647003 x4).f3)).bind fun t648 => (spec_Nodes.l0 k (wrap64 (x3 + t648)) (wrap64 (x4 + 1)) x647000 x647001 x647002 x647003)) else (none)) else (some x3)
def spec_Nodes.f : Nat → Int → ByteArray → Int → List (S40) → Option (Int)
  | 0, _, _, _, _ => none
  | k + 1, a0_0, a0_1, a0_2, l0_3 => spec_Nodes.l0 k 1 0 a0_0 a0_1 a0_2 l0_3
end
set_option maxHeartbeats 8000000 in
set_option maxRecDepth 100000 in
theorem spec_Nodes.calls (k : Nat) : ∀ (a0_0 : Int) (a0_1 : ByteArray) (a0_2 : Int) (A0_3 : Option Addr) (c0_3 : Nat) (l0_3 : List (S40)) (r : Int) (w : World) (hr0_3 : Kd.C k40 w A0_3 l0_3.length l0_3) (hc0_3 : l0_3.length ≤ c0_3) (h : spec_Nodes.f k a0_0 a0_1 a0_2 l0_3 = some r),
    Calls Try.prog 46 #[.agg #[.int .i64 a0_0, .string a0_1, .int .i64 a0_2, .slice A0_3 l0_3.length c0_3]] w fun e w' => e = .returned (.int .i64 r) ∧ Below w.heap.size w w' := by
  induction k using Nat.strongRecOn with
  | _ k ih =>
  intro a0_0 a0_1 a0_2 A0_3 c0_3 l0_3 r w hr0_3 hc0_3 h
  cases k with
  | zero => exact absurd h (by simp [spec_Nodes.f])
  | succ k =>
  simp only [spec_Nodes.f] at h
  have hu40 := Try.underlying40
  have HR0_3 := Aside0.mk hr0_3
  have HC0_3 := Aside0.mk hc0_3
  clear hr0_3 hc0_3
  have HB := Aside0.mk (Below.refl w.heap.size w)
  have H : (spec_Nodes.l0 k 1 0 a0_0 a0_1 a0_2 l0_3) = some r := h
  clear h
  have H' := Aside0.mk H
  clear H
  go_enter Try.func46, Try.ntmps46
  go_wp2_with (first | ((with_reducible refine gate_dst (N := 1) rfl ?_); refine box_event ?hg (N := 1) ?hd (cs := #[.int .i64 a0_0, .string a0_1, .int .i64 a0_2, .slice A0_3 l0_3.length c0_3]) (t := 40) ?hr ?_; (case hd => rfl); (case hg => rfl); (case hr => first | (go_simp; done) | (go_simp; rfl)); intro gb646 hg w2 hbox hb; have n0_ := Aside0.mk (below_step (by repeat (first | (with_reducible first | exact HB.out | apply below_alloc | apply pw_below_drewN | apply below_drew1) | exact HB.out)) hb); have n1_ := Aside0.mk (hbox); have n2_ := Aside0.mk ((by rw [hg]; exact (below_size (by repeat (first | (with_reducible first | exact HB.out | apply below_alloc | apply pw_below_drewN | apply below_drew1) | exact HB.out))) : w.heap.size ≤ gb646)); have n3_ := Aside0.mk ((by rw [hg]; exact (below_size (by repeat (first | (with_reducible first | exact HB.out | apply below_alloc | apply pw_below_drewN | apply below_drew1) | exact HB.out))) : w.heap.size ≤ gb646)); clear HB; have HB := n0_; have BK646 := n1_; have GW646 := n2_; have GE646 := n3_; clear n0_ n1_ n2_ n3_; clear hb hbox hg))
  go_loopg [3, 4] k (fun kq v3 v4 w' => ∃ (x3_1 : Int) (x4_1 : Int), v3 = .int .i64 x3_1 ∧ v4 = .int .i64 x4_1 ∧ Aside0 (spec_Nodes.l0 kq x3_1 x4_1 a0_0 a0_1 a0_2 l0_3 = some r) ∧ Aside0 (kq ≤ k) ∧ Aside0 (w'.heap[gb646]? = some (.cells #[.int .i64 a0_0, .string a0_1, .int .i64 a0_2, (.slice A0_3 l0_3.length c0_3)] 40 (0, 0))) ∧ Aside0 (Below w.heap.size w w'))
  case atStart => exact ⟨(1), (0), (by first | rfl | (simp; done) | (simp [*]; done)), (by first | rfl | (simp; done) | (simp [*]; done)), H', ⟨Nat.le_refl _⟩, ⟨by (with_reducible repeat (first | refine blk_drewN ?_ _ | refine blk_drew ?_ | refine blk_alloc ?_ _)); exact BK646.out⟩, ⟨by repeat (first | (with_reducible first | exact HB.out | apply below_alloc | apply pw_below_drewN | apply below_drew1 | refine below_set ?_ GE646.out) | exact HB.out)⟩⟩
  case round =>
    clear H'
    try clear p2
    obtain ⟨x3_1, x4_1, rfl, rfl, HA, HK1, BK646, HB⟩ := hrel
    cases gk with
    | zero => exact absurd HA.out (by simp [spec_Nodes.l0])
    | succ k1 =>
      have H := HA.out
      clear HA
      simp only [spec_Nodes.l0] at H
      by_cases c3 : x4_1 < (l0_3.length : Int)
      · rw [if_pos c3] at H
        have c3b0 : decide (x4_1 < (l0_3.length : Int)) = true := decide_eq_true c3
        clear c3
        by_cases c4 : 0 ≤ x4_1
        · rw [if_pos c4] at H
          have c4b0 : decide (0 ≤ x4_1) = true := decide_eq_true c4
          clear c4
          replace H := Option.bind_eq_some_iff.mp H
          obtain ⟨t648, A50, H⟩ := H
          replace H : (spec_Nodes.l0 k1 (wrap64 (x3_1 + t648)) (wrap64 (x4_1 + 1)) a0_0 a0_1 a0_2 l0_3) = some r := H
          have A5 := Aside0.mk A50
          clear A50
          have H' := Aside0.mk H
          clear H
          have hcz6_0 : wr.cell? ⟨gb646, 0, none⟩ = some (.int .i64 a0_0) := (blk_cell BK646.out 0).trans rfl
          have hcz6_1 : wr.cell? ⟨gb646, 1, none⟩ = some (.string a0_1) := (blk_cell BK646.out 1).trans rfl
          have hcz6_2 : wr.cell? ⟨gb646, 2, none⟩ = some (.int .i64 a0_2) := (blk_cell BK646.out 2).trans rfl
          have hcz6_3 : wr.cell? ⟨gb646, 3, none⟩ = some (.slice A0_3 l0_3.length c0_3) := (blk_cell BK646.out 3).trans rfl
          have hfz6_0 := blk_frozen BK646.out 0
          have hfz6_1 := blk_frozen BK646.out 1
          have hfz6_2 := blk_frozen BK646.out 2
          have hfz6_3 := blk_frozen BK646.out 3
          have p647 : 0 ≤ (x4_1 : Int) := of_decide_eq_true (by first | (with_reducible assumption) | assumption)
          have q647 : x4_1 < (l0_3.length : Int) := of_decide_eq_true (by first | (with_reducible assumption) | assumption)
          obtain ⟨ad647, A647_3, c647_3, e647, hx647_0, hx647_1, hx647_2, hx647_3, hl647_3, hi647_3⟩ := at_T40 HR0_3.out x4_1 p647 q647
          cases e647
          replace hx647_0 := (HB.out.cell (World.block_lt_of_cell? w _ hx647_0)).trans hx647_0
          replace hx647_1 := (HB.out.cell (World.block_lt_of_cell? w _ hx647_1)).trans hx647_1
          replace hx647_2 := (HB.out.cell (World.block_lt_of_cell? w _ hx647_2)).trans hx647_2
          replace hx647_3 := (HB.out.cell (World.block_lt_of_cell? w _ hx647_3)).trans hx647_3
          have HR647_3 := Aside0.mk hi647_3
          have HC647_3 := Aside0.mk hl647_3
          clear hi647_3 hl647_3
          replace p647 := eq_true p647
          replace q647 := eq_true q647
          go_wp2_with (first | ((with_reducible refine gate_callee (f := 46) rfl ?_); refine goesL_ (some 18) rfl rfl Try.func46 (by kernel_rfl) rfl #[.agg #[.int .i64 ((rd_T40 l0_3 x4_1).f0), .string ((rd_T40 l0_3 x4_1).f1), .int .i64 ((rd_T40 l0_3 x4_1).f2), .slice A647_3 ((rd_T40 l0_3 x4_1).f3).length c647_3]] rfl (by (try simp only [List.map_toArray, List.map_cons, List.map_nil]); first | done | rfl | (simp only [List.length_drop, List.length_take]; rfl)) ?_; (with_reducible refine (ih k1 (by have := HK1.out; omega) ((rd_T40 l0_3 x4_1).f0) ((rd_T40 l0_3 x4_1).f1) ((rd_T40 l0_3 x4_1).f2) _ _ ((rd_T40 l0_3 x4_1).f3) t648 _ ?side1 ?side2 A5.out).mono ?_); (case side1 => repeat (first | exact (Kd.C_below HR647_3.out HB.out) | (with_reducible refine Kd.C_alloc ?_ _) | (with_reducible refine Kd.C_drewN ?_ _) | (with_reducible refine Kd.C_drew ?_))); (case side2 => exact HC647_3.out); rintro e w7 ⟨rfl, hb⟩; refine ⟨_, rfl, ?_⟩; have n0_ := Aside0.mk (blk_below (g := gb646) (o := .cells #[.int .i64 a0_0, .string a0_1, .int .i64 a0_2, .slice (some ad647) l0_3.length c0_3] 40 (0, 0)) (by (with_reducible repeat (first | refine blk_drewN ?_ _ | refine blk_drew ?_ | refine blk_alloc ?_ _)); exact BK646.out) hb); have n1_ := Aside0.mk (below_step (by repeat (first | (with_reducible first | exact HB.out | apply below_alloc | apply pw_below_drewN | apply below_drew1 | refine below_set ?_ GE646.out) | exact HB.out)) hb); clear BK646; clear HB; have BK646 := n0_; have HB := n1_; clear n0_ n1_; (try clear hb); (try clear hb2); (try clear hk); (try clear hi)))
          go_roundg k1
          case measure => have := HK1.out; omega
          case rel => exact ⟨(wrap64 (x3_1 + t648)), (wrap64 (x4_1 + 1)), (by first | rfl | (simp; done) | (simp [*]; done)), (by first | rfl | (simp; done) | (simp [*]; done)), H', ⟨by have := HK1.out; omega⟩, ⟨by (with_reducible repeat (first | refine blk_drewN ?_ _ | refine blk_drew ?_ | refine blk_alloc ?_ _)); exact BK646.out⟩, ⟨by repeat (first | (with_reducible first | exact HB.out | apply below_alloc | apply pw_below_drewN | apply below_drew1 | refine below_set ?_ GE646.out) | exact HB.out)⟩⟩
        · rw [if_neg c4] at H
          exact absurd H (by simp)
      · rw [if_neg c3] at H
        have c3b0 : decide (x4_1 < (l0_3.length : Int)) = false := decide_eq_false c3
        clear c3
        obtain rfl := Option.some.inj H
        have hcz8_0 : wr.cell? ⟨gb646, 0, none⟩ = some (.int .i64 a0_0) := (blk_cell BK646.out 0).trans rfl
        have hcz8_1 : wr.cell? ⟨gb646, 1, none⟩ = some (.string a0_1) := (blk_cell BK646.out 1).trans rfl
        have hcz8_2 : wr.cell? ⟨gb646, 2, none⟩ = some (.int .i64 a0_2) := (blk_cell BK646.out 2).trans rfl
        have hcz8_3 : wr.cell? ⟨gb646, 3, none⟩ = some (.slice A0_3 l0_3.length c0_3) := (blk_cell BK646.out 3).trans rfl
        have hfz8_0 := blk_frozen BK646.out 0
        have hfz8_1 := blk_frozen BK646.out 1
        have hfz8_2 := blk_frozen BK646.out 2
        have hfz8_3 := blk_frozen BK646.out 3
        go_wp2
        go_ret
        exact ⟨by first | rfl | (simp [errW_none, errW_some] <;> rfl) | (simp [*, errW_none, errW_some] <;> rfl), by repeat (first | (with_reducible first | exact HB.out | apply below_alloc | apply pw_below_drewN | apply below_drew1 | refine below_set ?_ GE646.out) | exact HB.out)⟩

/-! ### spec_l02Name: function 99 -/
def spec_l02Name.l0 : Nat → ByteArray → Int → Option (Bool)
  | 0, _, _ => none
  | k + 1, x0, x3 => if x3 < (x0.size : Int) then (if 0 ≤ x3 then (if (bt x0 x3) = 0 then (some false) else (spec_l02Name.l0 k x0 (wrap64 (x3 + 1)))) else (none)) else ((spec_l01In.f (x0.size : Int) 1 40).bind fun t649 => (some t649))
def spec_l02Name.f (k : Nat) (a0 : ByteArray) : Option (Bool) := spec_l02Name.l0 k a0 0
set_option maxHeartbeats 8000000 in
set_option maxRecDepth 100000 in
theorem spec_l02Name.calls (k : Nat) (a0 : ByteArray) (r : Bool) (w : World) (h : spec_l02Name.f k a0 = some r) :
    Calls Try.prog 99 #[.string a0] w fun e w' => e = .returned (.bool r) ∧ Drawn0 w w' := by
  have H : (spec_l02Name.l0 k a0 0) = some r := h
  clear h
  have H' := Aside0.mk H
  clear H
  go_enter Try.func99, Try.ntmps99
  go_wp2
  go_loopg [3] k (fun kq v3 w' => ∃ (x3_1 : Int), v3 = .int .i64 x3_1 ∧ Aside0 (spec_l02Name.l0 kq a0 x3_1 = some r) ∧ Aside0 (kq ≤ k) ∧ Drawn0 w w')
  case atStart => exact ⟨(0), (by first | rfl | (simp; done) | (simp [*]; done)), H', ⟨Nat.le_refl _⟩, by repeat (first | exact Drawn0.refl _ | apply Drawn0.step)⟩
  case round =>
    clear H'
    obtain ⟨x3_1, rfl, HA, HK1, ⟨m1, rfl⟩⟩ := hrel
    cases gk with
    | zero => exact absurd HA.out (by simp [spec_l02Name.l0])
    | succ k1 =>
      have H := HA.out
      clear HA
      simp only [spec_l02Name.l0] at H
      by_cases c2 : x3_1 < (a0.size : Int)
      · rw [if_pos c2] at H
        have c2b0 : decide (x3_1 < (a0.size : Int)) = true := decide_eq_true c2
        clear c2
        by_cases c3 : 0 ≤ x3_1
        · rw [if_pos c3] at H
          have c3b0 : decide (0 ≤ x3_1) = true := decide_eq_true c3
          clear c3
          by_cases c5 : (bt a0 x3_1) = 0
          · rw [if_pos c5] at H
            have c5b0 : ((bt a0 x3_1) == 0) = true := beq_iff_eq.mpr c5
            have c5b1 : ((bt a0 x3_1) != 0) = false := bne_eq_false_iff_eq.mpr c5
            clear c5
            obtain rfl := Option.some.inj H
            have p4 : 0 ≤ (x3_1 : Int) := of_decide_eq_true (by first | (with_reducible assumption) | assumption)
            have q4 : x3_1 < (a0.size : Int) := of_decide_eq_true (by first | (with_reducible assumption) | assumption)
            have hx4 := bt_at a0 x3_1
            replace p4 := eq_true p4
            replace q4 := eq_true q4
            go_wp2
            go_ret
            exact ⟨by first | rfl | (simp; done) | (simp [*]; done), by repeat (first | exact Drawn0.refl _ | apply Drawn0.step)⟩
          · rw [if_neg c5] at H
            have c5b0 : ((bt a0 x3_1) == 0) = false := beq_eq_false_iff_ne.mpr c5
            have c5b1 : ((bt a0 x3_1) != 0) = true := bne_iff_ne.mpr c5
            have H' := Aside0.mk H
            clear H
            have p4 : 0 ≤ (x3_1 : Int) := of_decide_eq_true (by first | (with_reducible assumption) | assumption)
            have q4 : x3_1 < (a0.size : Int) := of_decide_eq_true (by first | (with_reducible assumption) | assumption)
            have hx4 := bt_at a0 x3_1
            replace p4 := eq_true p4
            replace q4 := eq_true q4
            go_wp2
            go_roundg k1
            case measure => have := HK1.out; omega
            case rel => exact ⟨(wrap64 (x3_1 + 1)), (by first | rfl | (simp; done) | (simp [*]; done)), H', ⟨by have := HK1.out; omega⟩, by repeat (first | exact Drawn0.refl _ | apply Drawn0.step)⟩
        · rw [if_neg c3] at H
          exact absurd H (by simp)
      · rw [if_neg c2] at H
        have c2b0 : decide (x3_1 < (a0.size : Int)) = false := decide_eq_false c2
        clear c2
        replace H := Option.bind_eq_some_iff.mp H
        obtain ⟨t649, A60, H⟩ := H
        replace H : (some t649) = some r := H
        have A6 := Aside0.mk A60
        clear A60
        obtain rfl := Option.some.inj H
        go_wp2_with (first | ((with_reducible refine gate_callee (f := 87) rfl ?_); refine goesL_ (some 16) rfl rfl Try.func87 (by kernel_rfl) rfl #[.int .i64 (a0.size : Int), .int .i64 1, .int .i64 40] rfl (by (try simp only [List.map_toArray, List.map_cons, List.map_nil]); first | done | rfl | (simp only [List.length_drop, List.length_take]; rfl)) ?_; (with_reducible refine (spec_l01In.calls (a0.size : Int) 1 40 t649 _ A6.out).mono ?_); rintro e w' ⟨rfl, ⟨nd, rfl⟩⟩; refine ⟨_, rfl, ?_⟩))
        go_ret
        exact ⟨by first | rfl | (simp; done) | (simp [*]; done), by repeat (first | exact Drawn0.refl _ | apply Drawn0.step)⟩

/-! ### spec_NameOk: function 86 -/
def spec_NameOk.f (k : Nat) (a0 : ByteArray) : Option (Bool) := (spec_l02Name.f k a0).bind fun t650 => (some t650)
set_option maxHeartbeats 8000000 in
set_option maxRecDepth 100000 in
theorem spec_NameOk.calls (k : Nat) (a0 : ByteArray) (r : Bool) (w : World) (h : spec_NameOk.f k a0 = some r) :
    Calls Try.prog 86 #[.string a0] w fun e w' => e = .returned (.bool r) ∧ Drawn0 w w' := by
  have H : ((spec_l02Name.f k a0).bind fun t650 => (some t650)) = some r := h
  clear h
  replace H := Option.bind_eq_some_iff.mp H
  obtain ⟨t650, A20, H⟩ := H
  replace H : (some t650) = some r := H
  have A2 := Aside0.mk A20
  clear A20
  obtain rfl := Option.some.inj H
  go_enter Try.func86, Try.ntmps86
  go_wp2_with (first | ((with_reducible refine gate_callee (f := 99) rfl ?_); refine goesL_ (some 4) rfl rfl Try.func99 (by kernel_rfl) rfl #[.string a0] rfl (by (try simp only [List.map_toArray, List.map_cons, List.map_nil]); first | done | rfl | (simp only [List.length_drop, List.length_take]; rfl)) ?_; (with_reducible refine (spec_l02Name.calls k a0 t650 _ A2.out).mono ?_); rintro e w' ⟨rfl, ⟨nd, rfl⟩⟩; refine ⟨_, rfl, ?_⟩))
  go_ret
  exact ⟨by first | rfl | (simp; done) | (simp [*]; done), by repeat (first | exact Drawn0.refl _ | apply Drawn0.step)⟩

/-! ### spec_l04Shape: function 70 -/
mutual
def spec_l04Shape.j0 : Nat → Int → ByteArray → Int → List (S40) → Option (Bool)
  | 0, _, _, _, _ => none
  | k + 1, x652000, x652001, x652002, x652003 => if x652000 = 1 then ((spec_l01In.f x652002 0 999999999).bind fun t654 => (if t654 = true then (spec_l04Shape.j1 k false x652000 x652001 x652002 x652003) else (spec_l04Shape.j1 k true x652000 x652001 x652002 x652003))) else (spec_l04Shape.j1 k (x652002 != 0) x652000 x652001 x652002 x652003)
def spec_l04Shape.j1 : Nat → Bool → Int → ByteArray → Int → List (S40) → Option (Bool)
  | 0, _, _, _, _, _ => none
  | k + 1, x46, x652000, x652001, x652002, x652003 => if x46 = true then (some false) else (spec_l04Shape.l0 k 0 x652000 x652001 x652002 x652003)
def spec_l04Shape.l0 : Nat → Int → Int → ByteArray → Int → List (S40) → Option (Bool)
  | 0, _, _, _, _, _ => none
  | k + 1, x3, x652000, x652001, x652002, x652003 => if x3 < (x652003.length : Int) then (if 0 ≤ x3 then ((spec_l04Shape.f k ((rd_T40 x652003 x3).f0) ((rd_T40 x652003 x3).f1) ((rd_T40 x652003 x3).f2) ((rd_T40 x652003 x3).f3)).bind fun t656 => (if t656 = true then (spec_l04Shape.l0 k (wrap64 (x3 + 1)) x652000 x652001 x652002 x652003) else (some false))) else (none)) else (some true)
def spec_l04Shape.f : Nat → Int → ByteArray → Int → List (S40) → Option (Bool)
  | 0, _, _, _, _ => none
  | k + 1, a0_0, a0_1, a0_2, l0_3 => (spec_l04Kids.f a0_0).bind fun t652 => (if (l0_3.length : Int) = t652 then (if a0_0 = 0 then ((spec_NameOk.f k a0_1).bind fun t653 => (if t653 = true then (spec_l04Shape.j0 k a0_0 a0_1 a0_2 l0_3) else (some false))) else (if a0_0 = 2 then (if (a0_1.size : Int) > 100 then (some false) else (spec_l04Shape.j0 k a0_0 a0_1 a0_2 l0_3)) else (if a0_1.toList = ([] : List UInt8) then (spec_l04Shape.j0 k a0_0 a0_1 a0_2 l0_3) else (some false)))) else (some false))
end
set_option maxHeartbeats 8000000 in
set_option maxRecDepth 100000 in
theorem spec_l04Shape.calls (k : Nat) : ∀ (a0_0 : Int) (a0_1 : ByteArray) (a0_2 : Int) (A0_3 : Option Addr) (c0_3 : Nat) (l0_3 : List (S40)) (r : Bool) (w : World) (hr0_3 : Kd.C k40 w A0_3 l0_3.length l0_3) (hc0_3 : l0_3.length ≤ c0_3) (h : spec_l04Shape.f k a0_0 a0_1 a0_2 l0_3 = some r),
    Calls Try.prog 70 #[.agg #[.int .i64 a0_0, .string a0_1, .int .i64 a0_2, .slice A0_3 l0_3.length c0_3]] w fun e w' => e = .returned (.bool r) ∧ Below w.heap.size w w' := by
  induction k using Nat.strongRecOn with
  | _ k ih =>
  intro a0_0 a0_1 a0_2 A0_3 c0_3 l0_3 r w hr0_3 hc0_3 h
  cases k with
  | zero => exact absurd h (by simp [spec_l04Shape.f])
  | succ k =>
  simp only [spec_l04Shape.f] at h
  have hu40 := Try.underlying40
  have HR0_3 := Aside0.mk hr0_3
  have HC0_3 := Aside0.mk hc0_3
  clear hr0_3 hc0_3
  have HB := Aside0.mk (Below.refl w.heap.size w)
  have H : ((spec_l04Kids.f a0_0).bind fun t652 => (if (l0_3.length : Int) = t652 then (if a0_0 = 0 then ((spec_NameOk.f k a0_1).bind fun t653 => (if t653 = true then (spec_l04Shape.j0 k a0_0 a0_1 a0_2 l0_3) else (some false))) else (if a0_0 = 2 then (if (a0_1.size : Int) > 100 then (some false) else (spec_l04Shape.j0 k a0_0 a0_1 a0_2 l0_3)) else (if a0_1.toList = ([] : List UInt8) then (spec_l04Shape.j0 k a0_0 a0_1 a0_2 l0_3) else (some false)))) else (some false))) = some r := h
  clear h
  replace H := Option.bind_eq_some_iff.mp H
  obtain ⟨t652, A20, H⟩ := H
  replace H : (if (l0_3.length : Int) = t652 then (if a0_0 = 0 then ((spec_NameOk.f k a0_1).bind fun t653 => (if t653 = true then (spec_l04Shape.j0 k a0_0 a0_1 a0_2 l0_3) else (some false))) else (if a0_0 = 2 then (if (a0_1.size : Int) > 100 then (some false) else (spec_l04Shape.j0 k a0_0 a0_1 a0_2 l0_3)) else (if a0_1.toList = ([] : List UInt8) then (spec_l04Shape.j0 k a0_0 a0_1 a0_2 l0_3) else (some false)))) else (some false)) = some r := H
  have A2 := Aside0.mk A20
  clear A20
  by_cases c3 : (l0_3.length : Int) = t652
  · rw [if_pos c3] at H
    have c3b0 : ((l0_3.length : Int) == t652) = true := beq_iff_eq.mpr c3
    have c3b1 : ((l0_3.length : Int) != t652) = false := bne_eq_false_iff_eq.mpr c3
    clear c3
    have HC4 := Aside0.mk H
    clear H
    go_enter Try.func70, Try.ntmps70
    go_upto_block 0 with (first | ((with_reducible refine gate_dst (N := 1) rfl ?_); refine box_event ?hg (N := 1) ?hd (cs := #[.int .i64 a0_0, .string a0_1, .int .i64 a0_2, .slice A0_3 l0_3.length c0_3]) (t := 40) ?hr ?_; (case hd => rfl); (case hg => rfl); (case hr => first | (go_simp; done) | (go_simp; rfl)); intro gb651 hg w5 hbox hb; have n0_ := Aside0.mk (below_step (by repeat (first | (with_reducible first | exact HB.out | apply below_alloc | apply pw_below_drewN | apply below_drew1) | exact HB.out)) hb); have n1_ := Aside0.mk (hbox); have n2_ := Aside0.mk ((by rw [hg]; exact (below_size (by repeat (first | (with_reducible first | exact HB.out | apply below_alloc | apply pw_below_drewN | apply below_drew1) | exact HB.out))) : w.heap.size ≤ gb651)); have n3_ := Aside0.mk ((by rw [hg]; exact (below_size (by repeat (first | (with_reducible first | exact HB.out | apply below_alloc | apply pw_below_drewN | apply below_drew1) | exact HB.out))) : w.heap.size ≤ gb651)); clear HB; have HB := n0_; have BK651 := n1_; have GW651 := n2_; have GE651 := n3_; clear n0_ n1_ n2_ n3_; clear hb hbox hg; have hcz6_0 : w5.cell? ⟨gb651, 0, none⟩ = some (.int .i64 a0_0) := (blk_cell BK651.out 0).trans rfl; have hcz6_1 : w5.cell? ⟨gb651, 1, none⟩ = some (.string a0_1) := (blk_cell BK651.out 1).trans rfl; have hcz6_2 : w5.cell? ⟨gb651, 2, none⟩ = some (.int .i64 a0_2) := (blk_cell BK651.out 2).trans rfl; have hcz6_3 : w5.cell? ⟨gb651, 3, none⟩ = some (.slice A0_3 l0_3.length c0_3) := (blk_cell BK651.out 3).trans rfl; have hfz6_0 := blk_frozen BK651.out 0; have hfz6_1 := blk_frozen BK651.out 1; have hfz6_2 := blk_frozen BK651.out 2; have hfz6_3 := blk_frozen BK651.out 3) | (go_at_call 85; (with_reducible refine (spec_l04Kids.calls a0_0 t652 _ A2.out).mono ?_); rintro e w' ⟨rfl, ⟨nd, rfl⟩⟩; (try first | exact ⟨rfl, _, World.drewN_drewN _ _ _⟩ | exact ⟨rfl, _, Eq.trans (World.drewN_drewN _ _ _) (congrArg (World.drewN _) (Nat.add_assoc _ _ _))⟩)))
    repeat (go_quiet (first | ((with_reducible refine gate_dst (N := 1) rfl ?_); refine box_event ?hg (N := 1) ?hd (cs := #[.int .i64 a0_0, .string a0_1, .int .i64 a0_2, .slice A0_3 l0_3.length c0_3]) (t := 40) ?hr ?_; (case hd => rfl); (case hg => rfl); (case hr => first | (go_simp; done) | (go_simp; rfl)); intro gb651 hg w5 hbox hb; have n0_ := Aside0.mk (below_step (by repeat (first | (with_reducible first | exact HB.out | apply below_alloc | apply pw_below_drewN | apply below_drew1) | exact HB.out)) hb); have n1_ := Aside0.mk (hbox); have n2_ := Aside0.mk ((by rw [hg]; exact (below_size (by repeat (first | (with_reducible first | exact HB.out | apply below_alloc | apply pw_below_drewN | apply below_drew1) | exact HB.out))) : w.heap.size ≤ gb651)); have n3_ := Aside0.mk ((by rw [hg]; exact (below_size (by repeat (first | (with_reducible first | exact HB.out | apply below_alloc | apply pw_below_drewN | apply below_drew1) | exact HB.out))) : w.heap.size ≤ gb651)); clear HB; have HB := n0_; have BK651 := n1_; have GW651 := n2_; have GE651 := n3_; clear n0_ n1_ n2_ n3_; clear hb hbox hg; have hcz6_0 : w5.cell? ⟨gb651, 0, none⟩ = some (.int .i64 a0_0) := (blk_cell BK651.out 0).trans rfl; have hcz6_1 : w5.cell? ⟨gb651, 1, none⟩ = some (.string a0_1) := (blk_cell BK651.out 1).trans rfl; have hcz6_2 : w5.cell? ⟨gb651, 2, none⟩ = some (.int .i64 a0_2) := (blk_cell BK651.out 2).trans rfl; have hcz6_3 : w5.cell? ⟨gb651, 3, none⟩ = some (.slice A0_3 l0_3.length c0_3) := (blk_cell BK651.out 3).trans rfl; have hfz6_0 := blk_frozen BK651.out 0; have hfz6_1 := blk_frozen BK651.out 1; have hfz6_2 := blk_frozen BK651.out 2; have hfz6_3 := blk_frozen BK651.out 3) | (go_at_call 85; (with_reducible refine (spec_l04Kids.calls a0_0 t652 _ A2.out).mono ?_); rintro e w' ⟨rfl, ⟨nd, rfl⟩⟩; (try first | exact ⟨rfl, _, World.drewN_drewN _ _ _⟩ | exact ⟨rfl, _, Eq.trans (World.drewN_drewN _ _ _) (congrArg (World.drewN _) (Nat.add_assoc _ _ _))⟩))); go_upto_block 0 with (first | ((with_reducible refine gate_dst (N := 1) rfl ?_); refine box_event ?hg (N := 1) ?hd (cs := #[.int .i64 a0_0, .string a0_1, .int .i64 a0_2, .slice A0_3 l0_3.length c0_3]) (t := 40) ?hr ?_; (case hd => rfl); (case hg => rfl); (case hr => first | (go_simp; done) | (go_simp; rfl)); intro gb651 hg w5 hbox hb; have n0_ := Aside0.mk (below_step (by repeat (first | (with_reducible first | exact HB.out | apply below_alloc | apply pw_below_drewN | apply below_drew1) | exact HB.out)) hb); have n1_ := Aside0.mk (hbox); have n2_ := Aside0.mk ((by rw [hg]; exact (below_size (by repeat (first | (with_reducible first | exact HB.out | apply below_alloc | apply pw_below_drewN | apply below_drew1) | exact HB.out))) : w.heap.size ≤ gb651)); have n3_ := Aside0.mk ((by rw [hg]; exact (below_size (by repeat (first | (with_reducible first | exact HB.out | apply below_alloc | apply pw_below_drewN | apply below_drew1) | exact HB.out))) : w.heap.size ≤ gb651)); clear HB; have HB := n0_; have BK651 := n1_; have GW651 := n2_; have GE651 := n3_; clear n0_ n1_ n2_ n3_; clear hb hbox hg; have hcz6_0 : w5.cell? ⟨gb651, 0, none⟩ = some (.int .i64 a0_0) := (blk_cell BK651.out 0).trans rfl; have hcz6_1 : w5.cell? ⟨gb651, 1, none⟩ = some (.string a0_1) := (blk_cell BK651.out 1).trans rfl; have hcz6_2 : w5.cell? ⟨gb651, 2, none⟩ = some (.int .i64 a0_2) := (blk_cell BK651.out 2).trans rfl; have hcz6_3 : w5.cell? ⟨gb651, 3, none⟩ = some (.slice A0_3 l0_3.length c0_3) := (blk_cell BK651.out 3).trans rfl; have hfz6_0 := blk_frozen BK651.out 0; have hfz6_1 := blk_frozen BK651.out 1; have hfz6_2 := blk_frozen BK651.out 2; have hfz6_3 := blk_frozen BK651.out 3) | (go_at_call 85; (with_reducible refine (spec_l04Kids.calls a0_0 t652 _ A2.out).mono ?_); rintro e w' ⟨rfl, ⟨nd, rfl⟩⟩; (try first | exact ⟨rfl, _, World.drewN_drewN _ _ _⟩ | exact ⟨rfl, _, Eq.trans (World.drewN_drewN _ _ _) (congrArg (World.drewN _) (Nat.add_assoc _ _ _))⟩))))
    (try simp only [Act.put, List.setIfInBounds_toArray, List.set_cons_zero, List.set_cons_succ])
    go_cut [] (fun wc => ∃ (kq : Nat), Aside0 (spec_l04Shape.j0 kq a0_0 a0_1 a0_2 l0_3 = some r) ∧ Aside0 (kq ≤ k) ∧ Aside0 (wc.heap[gb651]? = some (.cells #[.int .i64 a0_0, .string a0_1, .int .i64 a0_2, (.slice A0_3 l0_3.length c0_3)] 40 (0, 0))) ∧ Aside0 (Below w.heap.size w wc))
    case first =>
      have H := HC4.out
      clear HC4
      by_cases c7 : a0_0 = 0
      · rw [if_pos c7] at H
        have c7b0 : (a0_0 == 0) = true := beq_iff_eq.mpr c7
        have c7b1 : (a0_0 != 0) = false := bne_eq_false_iff_eq.mpr c7
        clear c7
        (first | rw [c7b0] | (simp only [i64_w, i32_w]; rw [c7b0]) | skip)
        replace H := Option.bind_eq_some_iff.mp H
        obtain ⟨t653, A80, H⟩ := H
        replace H : (if t653 = true then (spec_l04Shape.j0 k a0_0 a0_1 a0_2 l0_3) else (some false)) = some r := H
        have A8 := Aside0.mk A80
        clear A80
        by_cases c9 : t653 = true
        · subst c9
          have H1 : (spec_l04Shape.j0 k a0_0 a0_1 a0_2 l0_3) = some r := by rw [if_pos rfl] at H; exact H
          clear H
          have H := H1
          clear H1
          have H' := Aside0.mk H
          clear H
          have hcz10_0 : w5.cell? ⟨gb651, 0, none⟩ = some (.int .i64 a0_0) := (blk_cell BK651.out 0).trans rfl
          have hcz10_1 : w5.cell? ⟨gb651, 1, none⟩ = some (.string a0_1) := (blk_cell BK651.out 1).trans rfl
          have hcz10_2 : w5.cell? ⟨gb651, 2, none⟩ = some (.int .i64 a0_2) := (blk_cell BK651.out 2).trans rfl
          have hcz10_3 : w5.cell? ⟨gb651, 3, none⟩ = some (.slice A0_3 l0_3.length c0_3) := (blk_cell BK651.out 3).trans rfl
          have hfz10_0 := blk_frozen BK651.out 0
          have hfz10_1 := blk_frozen BK651.out 1
          have hfz10_2 := blk_frozen BK651.out 2
          have hfz10_3 := blk_frozen BK651.out 3
          go_wp2_with (first | (go_at_call 86; (with_reducible refine (spec_NameOk.calls k a0_1 true _ A8.out).mono ?_); rintro e w' ⟨rfl, ⟨nd, rfl⟩⟩; (try first | exact ⟨rfl, _, World.drewN_drewN _ _ _⟩ | exact ⟨rfl, _, Eq.trans (World.drewN_drewN _ _ _) (congrArg (World.drewN _) (Nat.add_assoc _ _ _))⟩)))
          repeat (go_quiet (first | (go_at_call 86; (with_reducible refine (spec_NameOk.calls k a0_1 true _ A8.out).mono ?_); rintro e w' ⟨rfl, ⟨nd, rfl⟩⟩; (try first | exact ⟨rfl, _, World.drewN_drewN _ _ _⟩ | exact ⟨rfl, _, Eq.trans (World.drewN_drewN _ _ _) (congrArg (World.drewN _) (Nat.add_assoc _ _ _))⟩))); try go_wp2_with (first | (go_at_call 86; (with_reducible refine (spec_NameOk.calls k a0_1 true _ A8.out).mono ?_); rintro e w' ⟨rfl, ⟨nd, rfl⟩⟩; (try first | exact ⟨rfl, _, World.drewN_drewN _ _ _⟩ | exact ⟨rfl, _, Eq.trans (World.drewN_drewN _ _ _) (congrArg (World.drewN _) (Nat.add_assoc _ _ _))⟩))))
          go_meet
          case rel => exact ⟨_, H', ⟨by first | omega | exact Nat.le_refl _⟩, ⟨by (with_reducible repeat (first | refine blk_drewN ?_ _ | refine blk_drew ?_ | refine blk_alloc ?_ _)); exact BK651.out⟩, ⟨by repeat (first | (with_reducible first | exact HB.out | apply below_alloc | apply pw_below_drewN | apply below_drew1 | refine below_set ?_ GE651.out) | exact HB.out)⟩⟩
        · replace c9 := Bool.eq_false_iff.mpr c9
          subst c9
          have H1 : (some false) = some r := by rw [if_neg (show ¬ (false = true) by decide)] at H; exact H
          clear H
          have H := H1
          clear H1
          obtain rfl := Option.some.inj H
          have hcz11_0 : w5.cell? ⟨gb651, 0, none⟩ = some (.int .i64 a0_0) := (blk_cell BK651.out 0).trans rfl
          have hcz11_1 : w5.cell? ⟨gb651, 1, none⟩ = some (.string a0_1) := (blk_cell BK651.out 1).trans rfl
          have hcz11_2 : w5.cell? ⟨gb651, 2, none⟩ = some (.int .i64 a0_2) := (blk_cell BK651.out 2).trans rfl
          have hcz11_3 : w5.cell? ⟨gb651, 3, none⟩ = some (.slice A0_3 l0_3.length c0_3) := (blk_cell BK651.out 3).trans rfl
          have hfz11_0 := blk_frozen BK651.out 0
          have hfz11_1 := blk_frozen BK651.out 1
          have hfz11_2 := blk_frozen BK651.out 2
          have hfz11_3 := blk_frozen BK651.out 3
          go_wp2_with (first | (go_at_call 86; (with_reducible refine (spec_NameOk.calls k a0_1 false _ A8.out).mono ?_); rintro e w' ⟨rfl, ⟨nd, rfl⟩⟩; (try first | exact ⟨rfl, _, World.drewN_drewN _ _ _⟩ | exact ⟨rfl, _, Eq.trans (World.drewN_drewN _ _ _) (congrArg (World.drewN _) (Nat.add_assoc _ _ _))⟩)))
          repeat (go_quiet (first | (go_at_call 86; (with_reducible refine (spec_NameOk.calls k a0_1 false _ A8.out).mono ?_); rintro e w' ⟨rfl, ⟨nd, rfl⟩⟩; (try first | exact ⟨rfl, _, World.drewN_drewN _ _ _⟩ | exact ⟨rfl, _, Eq.trans (World.drewN_drewN _ _ _) (congrArg (World.drewN _) (Nat.add_assoc _ _ _))⟩))); try go_wp2_with (first | (go_at_call 86; (with_reducible refine (spec_NameOk.calls k a0_1 false _ A8.out).mono ?_); rintro e w' ⟨rfl, ⟨nd, rfl⟩⟩; (try first | exact ⟨rfl, _, World.drewN_drewN _ _ _⟩ | exact ⟨rfl, _, Eq.trans (World.drewN_drewN _ _ _) (congrArg (World.drewN _) (Nat.add_assoc _ _ _))⟩))))
          go_ret
          exact ⟨by first | rfl | (simp [errW_none, errW_some] <;> rfl) | (simp [*, errW_none, errW_some] <;> rfl), by repeat (first | (with_reducible first | exact HB.out | apply below_alloc | apply pw_below_drewN | apply below_drew1 | refine below_set ?_ GE651.out) | exact HB.out)⟩
      · rw [if_neg c7] at H
        have c7b0 : (a0_0 == 0) = false := beq_eq_false_iff_ne.mpr c7
        have c7b1 : (a0_0 != 0) = true := bne_iff_ne.mpr c7
        (first | rw [c7b0] | (simp only [i64_w, i32_w]; rw [c7b0]) | skip)
        by_cases c12 : a0_0 = 2
        · rw [if_pos c12] at H
          have c12b0 : (a0_0 == 2) = true := beq_iff_eq.mpr c12
          have c12b1 : (a0_0 != 2) = false := bne_eq_false_iff_eq.mpr c12
          clear c12
          by_cases c13 : (a0_1.size : Int) > 100
          · rw [if_pos c13] at H
            have c13b0 : decide (100 < (a0_1.size : Int)) = true := decide_eq_true c13
            have c13b1 : decide (100 < a0_1.size) = true := decide_eq_true (by omega)
            clear c13
            obtain rfl := Option.some.inj H
            have hcz14_0 : w5.cell? ⟨gb651, 0, none⟩ = some (.int .i64 a0_0) := (blk_cell BK651.out 0).trans rfl
            have hcz14_1 : w5.cell? ⟨gb651, 1, none⟩ = some (.string a0_1) := (blk_cell BK651.out 1).trans rfl
            have hcz14_2 : w5.cell? ⟨gb651, 2, none⟩ = some (.int .i64 a0_2) := (blk_cell BK651.out 2).trans rfl
            have hcz14_3 : w5.cell? ⟨gb651, 3, none⟩ = some (.slice A0_3 l0_3.length c0_3) := (blk_cell BK651.out 3).trans rfl
            have hfz14_0 := blk_frozen BK651.out 0
            have hfz14_1 := blk_frozen BK651.out 1
            have hfz14_2 := blk_frozen BK651.out 2
            have hfz14_3 := blk_frozen BK651.out 3
            go_wp2
            repeat (go_quiet (fail); try go_wp2)
            go_ret
            exact ⟨by first | rfl | (simp [errW_none, errW_some] <;> rfl) | (simp [*, errW_none, errW_some] <;> rfl), by repeat (first | (with_reducible first | exact HB.out | apply below_alloc | apply pw_below_drewN | apply below_drew1 | refine below_set ?_ GE651.out) | exact HB.out)⟩
          · rw [if_neg c13] at H
            have c13b0 : decide (100 < (a0_1.size : Int)) = false := decide_eq_false c13
            have c13b1 : decide (100 < a0_1.size) = false := decide_eq_false (by omega)
            clear c13
            have H' := Aside0.mk H
            clear H
            have hcz15_0 : w5.cell? ⟨gb651, 0, none⟩ = some (.int .i64 a0_0) := (blk_cell BK651.out 0).trans rfl
            have hcz15_1 : w5.cell? ⟨gb651, 1, none⟩ = some (.string a0_1) := (blk_cell BK651.out 1).trans rfl
            have hcz15_2 : w5.cell? ⟨gb651, 2, none⟩ = some (.int .i64 a0_2) := (blk_cell BK651.out 2).trans rfl
            have hcz15_3 : w5.cell? ⟨gb651, 3, none⟩ = some (.slice A0_3 l0_3.length c0_3) := (blk_cell BK651.out 3).trans rfl
            have hfz15_0 := blk_frozen BK651.out 0
            have hfz15_1 := blk_frozen BK651.out 1
            have hfz15_2 := blk_frozen BK651.out 2
            have hfz15_3 := blk_frozen BK651.out 3
            go_wp2
            repeat (go_quiet (fail); try go_wp2)
            go_meet
            case rel => exact ⟨_, H', ⟨by first | omega | exact Nat.le_refl _⟩, ⟨by (with_reducible repeat (first | refine blk_drewN ?_ _ | refine blk_drew ?_ | refine blk_alloc ?_ _)); exact BK651.out⟩, ⟨by repeat (first | (with_reducible first | exact HB.out | apply below_alloc | apply pw_below_drewN | apply below_drew1 | refine below_set ?_ GE651.out) | exact HB.out)⟩⟩
        · rw [if_neg c12] at H
          have c12b0 : (a0_0 == 2) = false := beq_eq_false_iff_ne.mpr c12
          have c12b1 : (a0_0 != 2) = true := bne_iff_ne.mpr c12
          by_cases c16 : a0_1.toList = ([] : List UInt8)
          · rw [if_pos c16] at H
            have c16b0 : (a0_1.toList == ([] : List UInt8)) = true := beq_iff_eq.mpr c16
            have c16b1 : (a0_1.toList != ([] : List UInt8)) = false := bne_eq_false_iff_eq.mpr c16
            clear c16
            have H' := Aside0.mk H
            clear H
            have hcz17_0 : w5.cell? ⟨gb651, 0, none⟩ = some (.int .i64 a0_0) := (blk_cell BK651.out 0).trans rfl
            have hcz17_1 : w5.cell? ⟨gb651, 1, none⟩ = some (.string a0_1) := (blk_cell BK651.out 1).trans rfl
            have hcz17_2 : w5.cell? ⟨gb651, 2, none⟩ = some (.int .i64 a0_2) := (blk_cell BK651.out 2).trans rfl
            have hcz17_3 : w5.cell? ⟨gb651, 3, none⟩ = some (.slice A0_3 l0_3.length c0_3) := (blk_cell BK651.out 3).trans rfl
            have hfz17_0 := blk_frozen BK651.out 0
            have hfz17_1 := blk_frozen BK651.out 1
            have hfz17_2 := blk_frozen BK651.out 2
            have hfz17_3 := blk_frozen BK651.out 3
            go_wp2
            repeat (go_quiet (fail); try go_wp2)
            go_meet
            case rel => exact ⟨_, H', ⟨by first | omega | exact Nat.le_refl _⟩, ⟨by (with_reducible repeat (first | refine blk_drewN ?_ _ | refine blk_drew ?_ | refine blk_alloc ?_ _)); exact BK651.out⟩, ⟨by repeat (first | (with_reducible first | exact HB.out | apply below_alloc | apply pw_below_drewN | apply below_drew1 | refine below_set ?_ GE651.out) | exact HB.out)⟩⟩
          · rw [if_neg c16] at H
            have c16b0 : (a0_1.toList == ([] : List UInt8)) = false := beq_eq_false_iff_ne.mpr c16
            have c16b1 : (a0_1.toList != ([] : List UInt8)) = true := bne_iff_ne.mpr c16
            obtain rfl := Option.some.inj H
            have hcz18_0 : w5.cell? ⟨gb651, 0, none⟩ = some (.int .i64 a0_0) := (blk_cell BK651.out 0).trans rfl
            have hcz18_1 : w5.cell? ⟨gb651, 1, none⟩ = some (.string a0_1) := (blk_cell BK651.out 1).trans rfl
            have hcz18_2 : w5.cell? ⟨gb651, 2, none⟩ = some (.int .i64 a0_2) := (blk_cell BK651.out 2).trans rfl
            have hcz18_3 : w5.cell? ⟨gb651, 3, none⟩ = some (.slice A0_3 l0_3.length c0_3) := (blk_cell BK651.out 3).trans rfl
            have hfz18_0 := blk_frozen BK651.out 0
            have hfz18_1 := blk_frozen BK651.out 1
            have hfz18_2 := blk_frozen BK651.out 2
            have hfz18_3 := blk_frozen BK651.out 3
            go_wp2
            repeat (go_quiet (fail); try go_wp2)
            go_ret
            exact ⟨by first | rfl | (simp [errW_none, errW_some] <;> rfl) | (simp [*, errW_none, errW_some] <;> rfl), by repeat (first | (with_reducible first | exact HB.out | apply below_alloc | apply pw_below_drewN | apply below_drew1 | refine below_set ?_ GE651.out) | exact HB.out)⟩
    case rest =>
      clear HC4
      try clear c1
      try clear p2
      try clear c3
      try clear c3b0
      try clear c3b1
      try clear c7
      try clear c7b0
      try clear c7b1
      try clear c9
      try clear c12
      try clear c12b0
      try clear c12b1
      try clear c13
      try clear c13b0
      try clear c13b1
      try clear c16
      try clear c16b0
      try clear c16b1
      try clear hcz10_0
      try clear hcz10_1
      try clear hcz10_2
      try clear hcz10_3
      try clear hcz11_0
      try clear hcz11_1
      try clear hcz11_2
      try clear hcz11_3
      try clear hcz14_0
      try clear hcz14_1
      try clear hcz14_2
      try clear hcz14_3
      try clear hcz15_0
      try clear hcz15_1
      try clear hcz15_2
      try clear hcz15_3
      try clear hcz17_0
      try clear hcz17_1
      try clear hcz17_2
      try clear hcz17_3
      try clear hcz18_0
      try clear hcz18_1
      try clear hcz18_2
      try clear hcz18_3
      try clear hcz6_0
      try clear hcz6_1
      try clear hcz6_2
      try clear hcz6_3
      try clear hfz10_0
      try clear hfz10_1
      try clear hfz10_2
      try clear hfz10_3
      try clear hfz11_0
      try clear hfz11_1
      try clear hfz11_2
      try clear hfz11_3
      try clear hfz14_0
      try clear hfz14_1
      try clear hfz14_2
      try clear hfz14_3
      try clear hfz15_0
      try clear hfz15_1
      try clear hfz15_2
      try clear hfz15_3
      try clear hfz17_0
      try clear hfz17_1
      try clear hfz17_2
      try clear hfz17_3
      try clear hfz18_0
      try clear hfz18_1
      try clear hfz18_2
      try clear hfz18_3
      try clear hfz6_0
      try clear hfz6_1
      try clear hfz6_2
      try clear hfz6_3
      obtain ⟨kq, HA, HJ3, BK651, HB⟩ := hcut
      cases kq with
      | zero => exact absurd HA.out (by simp [spec_l04Shape.j0])
      | succ kj3 =>
        have H := HA.out
        clear HA
        simp only [spec_l04Shape.j0] at H
        have HC19 := Aside0.mk H
        clear H
        go_upto_region 12 with (fail)
        repeat (go_quiet (fail); go_upto_region 12 with (fail))
        go_cut [46] (fun v46 wc => ∃ (kq : Nat) (x46_18 : Bool), v46 = .bool x46_18 ∧ Aside0 (spec_l04Shape.j1 kq x46_18 a0_0 a0_1 a0_2 l0_3 = some r) ∧ Aside0 (kq ≤ kj3) ∧ Aside0 (wc.heap[gb651]? = some (.cells #[.int .i64 a0_0, .string a0_1, .int .i64 a0_2, (.slice A0_3 l0_3.length c0_3)] 40 (0, 0))) ∧ Aside0 (Below w.heap.size w wc))
        case first =>
          have H := HC19.out
          clear HC19
          by_cases c20 : a0_0 = 1
          · rw [if_pos c20] at H
            have c20b0 : (a0_0 == 1) = true := beq_iff_eq.mpr c20
            have c20b1 : (a0_0 != 1) = false := bne_eq_false_iff_eq.mpr c20
            clear c20
            (first | rw [c20b0] | (simp only [i64_w, i32_w]; rw [c20b0]) | skip)
            replace H := Option.bind_eq_some_iff.mp H
            obtain ⟨t654, A210, H⟩ := H
            replace H : (if t654 = true then (spec_l04Shape.j1 kj3 false a0_0 a0_1 a0_2 l0_3) else (spec_l04Shape.j1 kj3 true a0_0 a0_1 a0_2 l0_3)) = some r := H
            have A21 := Aside0.mk A210
            clear A210
            by_cases c22 : t654 = true
            · subst c22
              have H1 : (spec_l04Shape.j1 kj3 false a0_0 a0_1 a0_2 l0_3) = some r := by rw [if_pos rfl] at H; exact H
              clear H
              have H := H1
              clear H1
              have H' := Aside0.mk H
              clear H
              have hcz23_0 : wc.cell? ⟨gb651, 0, none⟩ = some (.int .i64 a0_0) := (blk_cell BK651.out 0).trans rfl
              have hcz23_1 : wc.cell? ⟨gb651, 1, none⟩ = some (.string a0_1) := (blk_cell BK651.out 1).trans rfl
              have hcz23_2 : wc.cell? ⟨gb651, 2, none⟩ = some (.int .i64 a0_2) := (blk_cell BK651.out 2).trans rfl
              have hcz23_3 : wc.cell? ⟨gb651, 3, none⟩ = some (.slice A0_3 l0_3.length c0_3) := (blk_cell BK651.out 3).trans rfl
              have hfz23_0 := blk_frozen BK651.out 0
              have hfz23_1 := blk_frozen BK651.out 1
              have hfz23_2 := blk_frozen BK651.out 2
              have hfz23_3 := blk_frozen BK651.out 3
              go_wp2_with (first | (go_at_call 87; (with_reducible refine (spec_l01In.calls a0_2 0 999999999 true _ A21.out).mono ?_); rintro e w' ⟨rfl, ⟨nd, rfl⟩⟩; (try first | exact ⟨rfl, _, World.drewN_drewN _ _ _⟩ | exact ⟨rfl, _, Eq.trans (World.drewN_drewN _ _ _) (congrArg (World.drewN _) (Nat.add_assoc _ _ _))⟩)))
              repeat (go_quiet (first | (go_at_call 87; (with_reducible refine (spec_l01In.calls a0_2 0 999999999 true _ A21.out).mono ?_); rintro e w' ⟨rfl, ⟨nd, rfl⟩⟩; (try first | exact ⟨rfl, _, World.drewN_drewN _ _ _⟩ | exact ⟨rfl, _, Eq.trans (World.drewN_drewN _ _ _) (congrArg (World.drewN _) (Nat.add_assoc _ _ _))⟩))); try go_wp2_with (first | (go_at_call 87; (with_reducible refine (spec_l01In.calls a0_2 0 999999999 true _ A21.out).mono ?_); rintro e w' ⟨rfl, ⟨nd, rfl⟩⟩; (try first | exact ⟨rfl, _, World.drewN_drewN _ _ _⟩ | exact ⟨rfl, _, Eq.trans (World.drewN_drewN _ _ _) (congrArg (World.drewN _) (Nat.add_assoc _ _ _))⟩))))
              go_meet
              case rel => exact ⟨_, (false), (by first | rfl | (simp; done) | (simp [*]; done)), H', ⟨by have := HJ3.out; first | omega | exact Nat.le_refl _⟩, ⟨by (with_reducible repeat (first | refine blk_drewN ?_ _ | refine blk_drew ?_ | refine blk_alloc ?_ _)); exact BK651.out⟩, ⟨by repeat (first | (with_reducible first | exact HB.out | apply below_alloc | apply pw_below_drewN | apply below_drew1 | refine below_set ?_ GE651.out) | exact HB.out)⟩⟩
            · replace c22 := Bool.eq_false_iff.mpr c22
              subst c22
              have H1 : (spec_l04Shape.j1 kj3 true a0_0 a0_1 a0_2 l0_3) = some r := by rw [if_neg (show ¬ (false = true) by decide)] at H; exact H
              clear H
              have H := H1
              clear H1
              have H' := Aside0.mk H
              clear H
              have hcz24_0 : wc.cell? ⟨gb651, 0, none⟩ = some (.int .i64 a0_0) := (blk_cell BK651.out 0).trans rfl
              have hcz24_1 : wc.cell? ⟨gb651, 1, none⟩ = some (.string a0_1) := (blk_cell BK651.out 1).trans rfl
              have hcz24_2 : wc.cell? ⟨gb651, 2, none⟩ = some (.int .i64 a0_2) := (blk_cell BK651.out 2).trans rfl
              have hcz24_3 : wc.cell? ⟨gb651, 3, none⟩ = some (.slice A0_3 l0_3.length c0_3) := (blk_cell BK651.out 3).trans rfl
              have hfz24_0 := blk_frozen BK651.out 0
              have hfz24_1 := blk_frozen BK651.out 1
              have hfz24_2 := blk_frozen BK651.out 2
              have hfz24_3 := blk_frozen BK651.out 3
              go_wp2_with (first | (go_at_call 87; (with_reducible refine (spec_l01In.calls a0_2 0 999999999 false _ A21.out).mono ?_); rintro e w' ⟨rfl, ⟨nd, rfl⟩⟩; (try first | exact ⟨rfl, _, World.drewN_drewN _ _ _⟩ | exact ⟨rfl, _, Eq.trans (World.drewN_drewN _ _ _) (congrArg (World.drewN _) (Nat.add_assoc _ _ _))⟩)))
              repeat (go_quiet (first | (go_at_call 87; (with_reducible refine (spec_l01In.calls a0_2 0 999999999 false _ A21.out).mono ?_); rintro e w' ⟨rfl, ⟨nd, rfl⟩⟩; (try first | exact ⟨rfl, _, World.drewN_drewN _ _ _⟩ | exact ⟨rfl, _, Eq.trans (World.drewN_drewN _ _ _) (congrArg (World.drewN _) (Nat.add_assoc _ _ _))⟩))); try go_wp2_with (first | (go_at_call 87; (with_reducible refine (spec_l01In.calls a0_2 0 999999999 false _ A21.out).mono ?_); rintro e w' ⟨rfl, ⟨nd, rfl⟩⟩; (try first | exact ⟨rfl, _, World.drewN_drewN _ _ _⟩ | exact ⟨rfl, _, Eq.trans (World.drewN_drewN _ _ _) (congrArg (World.drewN _) (Nat.add_assoc _ _ _))⟩))))
              go_meet
              case rel => exact ⟨_, (true), (by first | rfl | (simp; done) | (simp [*]; done)), H', ⟨by have := HJ3.out; first | omega | exact Nat.le_refl _⟩, ⟨by (with_reducible repeat (first | refine blk_drewN ?_ _ | refine blk_drew ?_ | refine blk_alloc ?_ _)); exact BK651.out⟩, ⟨by repeat (first | (with_reducible first | exact HB.out | apply below_alloc | apply pw_below_drewN | apply below_drew1 | refine below_set ?_ GE651.out) | exact HB.out)⟩⟩
          · rw [if_neg c20] at H
            have c20b0 : (a0_0 == 1) = false := beq_eq_false_iff_ne.mpr c20
            have c20b1 : (a0_0 != 1) = true := bne_iff_ne.mpr c20
            (first | rw [c20b0] | (simp only [i64_w, i32_w]; rw [c20b0]) | skip)
            have H' := Aside0.mk H
            clear H
            have hcz25_0 : wc.cell? ⟨gb651, 0, none⟩ = some (.int .i64 a0_0) := (blk_cell BK651.out 0).trans rfl
            have hcz25_1 : wc.cell? ⟨gb651, 1, none⟩ = some (.string a0_1) := (blk_cell BK651.out 1).trans rfl
            have hcz25_2 : wc.cell? ⟨gb651, 2, none⟩ = some (.int .i64 a0_2) := (blk_cell BK651.out 2).trans rfl
            have hcz25_3 : wc.cell? ⟨gb651, 3, none⟩ = some (.slice A0_3 l0_3.length c0_3) := (blk_cell BK651.out 3).trans rfl
            have hfz25_0 := blk_frozen BK651.out 0
            have hfz25_1 := blk_frozen BK651.out 1
            have hfz25_2 := blk_frozen BK651.out 2
            have hfz25_3 := blk_frozen BK651.out 3
            go_wp2
            repeat (go_quiet (fail); try go_wp2)
            go_meet
            case rel => exact ⟨_, ((a0_2 != 0)), (by first | rfl | (simp; done) | (simp [*]; done)), H', ⟨by have := HJ3.out; first | omega | exact Nat.le_refl _⟩, ⟨by (with_reducible repeat (first | refine blk_drewN ?_ _ | refine blk_drew ?_ | refine blk_alloc ?_ _)); exact BK651.out⟩, ⟨by repeat (first | (with_reducible first | exact HB.out | apply below_alloc | apply pw_below_drewN | apply below_drew1 | refine below_set ?_ GE651.out) | exact HB.out)⟩⟩
        case rest =>
          clear HC19
          try clear c1
          try clear c2
          try clear p2
          try clear c3
          try clear c3b0
          try clear c3b1
          try clear c7
          try clear c7b0
          try clear c7b1
          try clear c9
          try clear c12
          try clear c12b0
          try clear c12b1
          try clear c13
          try clear c13b0
          try clear c13b1
          try clear c16
          try clear c16b0
          try clear c16b1
          try clear c20
          try clear c20b0
          try clear c20b1
          try clear c22
          try clear hcz10_0
          try clear hcz10_1
          try clear hcz10_2
          try clear hcz10_3
          try clear hcz11_0
          try clear hcz11_1
          try clear hcz11_2
          try clear hcz11_3
          try clear hcz14_0
          try clear hcz14_1
          try clear hcz14_2
          try clear hcz14_3
          try clear hcz15_0
          try clear hcz15_1
          try clear hcz15_2
          try clear hcz15_3
          try clear hcz17_0
          try clear hcz17_1
          try clear hcz17_2
          try clear hcz17_3
          try clear hcz18_0
          try clear hcz18_1
          try clear hcz18_2
          try clear hcz18_3
          try clear hcz23_0
          try clear hcz23_1
          try clear hcz23_2
          try clear hcz23_3
          try clear hcz24_0
          try clear hcz24_1
          try clear hcz24_2
          try clear hcz24_3
          try clear hcz25_0
          try clear hcz25_1
          try clear hcz25_2
          try clear hcz25_3
          try clear hcz6_0
          try clear hcz6_1
          try clear hcz6_2
          try clear hcz6_3
          try clear hfz10_0
          try clear hfz10_1
          try clear hfz10_2
          try clear hfz10_3
          try clear hfz11_0
          try clear hfz11_1
          try clear hfz11_2
          try clear hfz11_3
          try clear hfz14_0
          try clear hfz14_1
          try clear hfz14_2
          try clear hfz14_3
          try clear hfz15_0
          try clear hfz15_1
          try clear hfz15_2
          try clear hfz15_3
          try clear hfz17_0
          try clear hfz17_1
          try clear hfz17_2
          try clear hfz17_3
          try clear hfz18_0
          try clear hfz18_1
          try clear hfz18_2
          try clear hfz18_3
          try clear hfz23_0
          try clear hfz23_1
          try clear hfz23_2
          try clear hfz23_3
          try clear hfz24_0
          try clear hfz24_1
          try clear hfz24_2
          try clear hfz24_3
          try clear hfz25_0
          try clear hfz25_1
          try clear hfz25_2
          try clear hfz25_3
          try clear hfz6_0
          try clear hfz6_1
          try clear hfz6_2
          try clear hfz6_3
          try clear p2
          obtain ⟨kq, x46_18, rfl, HA, HJ18, BK651, HB⟩ := hcut
          cases kq with
          | zero => exact absurd HA.out (by simp [spec_l04Shape.j1])
          | succ kj18 =>
            have H := HA.out
            clear HA
            simp only [spec_l04Shape.j1] at H
            by_cases c26 : x46_18 = true
            · subst c26
              have H1 : (some false) = some r := by rw [if_pos rfl] at H; exact H
              clear H
              have H := H1
              clear H1
              obtain rfl := Option.some.inj H
              go_wp2
              repeat (go_quiet (fail); try go_wp2)
              go_ret
              exact ⟨by first | rfl | (simp [errW_none, errW_some] <;> rfl) | (simp [*, errW_none, errW_some] <;> rfl), by repeat (first | (with_reducible first | exact HB.out | apply below_alloc | apply pw_below_drewN | apply below_drew1 | refine below_set ?_ GE651.out) | exact HB.out)⟩
            · replace c26 := Bool.eq_false_iff.mpr c26
              subst c26
              have H1 : (spec_l04Shape.l0 kj18 0 a0_0 a0_1 a0_2 l0_3) = some r := by rw [if_neg (show ¬ (false = true) by decide)] at H; exact H
              clear H
              have H := H1
              clear H1
              have H' := Aside0.mk H
              clear H
              go_wp2
              repeat (go_quiet (fail); try go_wp2)
              go_loopg [3] kj18 (fun kq v3 w' => ∃ (x3_3 : Int), v3 = .int .i64 x3_3 ∧ Aside0 (spec_l04Shape.l0 kq x3_3 a0_0 a0_1 a0_2 l0_3 = some r) ∧ Aside0 (kq ≤ kj18) ∧ Aside0 (w'.heap[gb651]? = some (.cells #[.int .i64 a0_0, .string a0_1, .int .i64 a0_2, (.slice A0_3 l0_3.length c0_3)] 40 (0, 0))) ∧ Aside0 (Below w.heap.size w w'))
              case atStart => exact ⟨(0), (by first | rfl | (simp; done) | (simp [*]; done)), H', ⟨Nat.le_refl _⟩, ⟨by (with_reducible repeat (first | refine blk_drewN ?_ _ | refine blk_drew ?_ | refine blk_alloc ?_ _)); exact BK651.out⟩, ⟨by repeat (first | (with_reducible first | exact HB.out | apply below_alloc | apply pw_below_drewN | apply below_drew1 | refine below_set ?_ GE651.out) | exact HB.out)⟩⟩
              case round =>
                clear H'
                try clear c1
                try clear c2
                try clear p2
                try clear c3
                try clear c3b0
                try clear c3b1
                try clear c7
                try clear c7b0
                try clear c7b1
                try clear c9
                try clear c12
                try clear c12b0
                try clear c12b1
                try clear c13
                try clear c13b0
                try clear c13b1
                try clear c16
                try clear c16b0
                try clear c16b1
                try clear c20
                try clear c20b0
                try clear c20b1
                try clear c22
                try clear c26
                try clear hcz10_0
                try clear hcz10_1
                try clear hcz10_2
                try clear hcz10_3
                try clear hcz11_0
                try clear hcz11_1
                try clear hcz11_2
                try clear hcz11_3
                try clear hcz14_0
                try clear hcz14_1
                try clear hcz14_2
                try clear hcz14_3
                try clear hcz15_0
                try clear hcz15_1
                try clear hcz15_2
                try clear hcz15_3
                try clear hcz17_0
                try clear hcz17_1
                try clear hcz17_2
                try clear hcz17_3
                try clear hcz18_0
                try clear hcz18_1
                try clear hcz18_2
                try clear hcz18_3
                try clear hcz23_0
                try clear hcz23_1
                try clear hcz23_2
                try clear hcz23_3
                try clear hcz24_0
                try clear hcz24_1
                try clear hcz24_2
                try clear hcz24_3
                try clear hcz25_0
                try clear hcz25_1
                try clear hcz25_2
                try clear hcz25_3
                try clear hcz6_0
                try clear hcz6_1
                try clear hcz6_2
                try clear hcz6_3
                try clear hfz10_0
                try clear hfz10_1
                try clear hfz10_2
                try clear hfz10_3
                try clear hfz11_0
                try clear hfz11_1
                try clear hfz11_2
                try clear hfz11_3
                try clear hfz14_0
                try clear hfz14_1
                try clear hfz14_2
                try clear hfz14_3
                try clear hfz15_0
                try clear hfz15_1
                try clear hfz15_2
                try clear hfz15_3
                try clear hfz17_0
                try clear hfz17_1
                try clear hfz17_2
                try clear hfz17_3
                try clear hfz18_0
                try clear hfz18_1
                try clear hfz18_2
                try clear hfz18_3
                try clear hfz23_0
                try clear hfz23_1
                try clear hfz23_2
                try clear hfz23_3
                try clear hfz24_0
                try clear hfz24_1
                try clear hfz24_2
                try clear hfz24_3
                try clear hfz25_0
                try clear hfz25_1
                try clear hfz25_2
                try clear hfz25_3
                try clear hfz6_0
                try clear hfz6_1
                try clear hfz6_2
                try clear hfz6_3
                try clear p2
                obtain ⟨x3_3, rfl, HA, HK3, BK651, HB⟩ := hrel
                cases gk with
                | zero => exact absurd HA.out (by simp [spec_l04Shape.l0])
                | succ k3 =>
                  have H := HA.out
                  clear HA
                  simp only [spec_l04Shape.l0] at H
                  by_cases c27 : x3_3 < (l0_3.length : Int)
                  · rw [if_pos c27] at H
                    have c27b0 : decide (x3_3 < (l0_3.length : Int)) = true := decide_eq_true c27
                    clear c27
                    by_cases c28 : 0 ≤ x3_3
                    · rw [if_pos c28] at H
                      have c28b0 : decide (0 ≤ x3_3) = true := decide_eq_true c28
                      clear c28
                      replace H := Option.bind_eq_some_iff.mp H
                      obtain ⟨t656, A290, H⟩ := H
                      replace H : (if t656 = true then (spec_l04Shape.l0 k3 (wrap64 (x3_3 + 1)) a0_0 a0_1 a0_2 l0_3) else (some false)) = some r := H
                      have A29 := Aside0.mk A290
                      clear A290
                      by_cases c30 : t656 = true
                      · subst c30
                        have H1 : (spec_l04Shape.l0 k3 (wrap64 (x3_3 + 1)) a0_0 a0_1 a0_2 l0_3) = some r := by rw [if_pos rfl] at H; exact H
                        clear H
                        have H := H1
                        clear H1
                        have H' := Aside0.mk H
                        clear H
                        have hcz31_0 : wr.cell? ⟨gb651, 0, none⟩ = some (.int .i64 a0_0) := (blk_cell BK651.out 0).trans rfl
                        have hcz31_1 : wr.cell? ⟨gb651, 1, none⟩ = some (.string a0_1) := (blk_cell BK651.out 1).trans rfl
                        have hcz31_2 : wr.cell? ⟨gb651, 2, none⟩ = some (.int .i64 a0_2) := (blk_cell BK651.out 2).trans rfl
                        have hcz31_3 : wr.cell? ⟨gb651, 3, none⟩ = some (.slice A0_3 l0_3.length c0_3) := (blk_cell BK651.out 3).trans rfl
                        have hfz31_0 := blk_frozen BK651.out 0
                        have hfz31_1 := blk_frozen BK651.out 1
                        have hfz31_2 := blk_frozen BK651.out 2
                        have hfz31_3 := blk_frozen BK651.out 3
                        have p655 : 0 ≤ (x3_3 : Int) := of_decide_eq_true (by first | (with_reducible assumption) | assumption)
                        have q655 : x3_3 < (l0_3.length : Int) := of_decide_eq_true (by first | (with_reducible assumption) | assumption)
                        obtain ⟨ad655, A655_3, c655_3, e655, hx655_0, hx655_1, hx655_2, hx655_3, hl655_3, hi655_3⟩ := at_T40 HR0_3.out x3_3 p655 q655
                        cases e655
                        replace hx655_0 := (HB.out.cell (World.block_lt_of_cell? w _ hx655_0)).trans hx655_0
                        replace hx655_1 := (HB.out.cell (World.block_lt_of_cell? w _ hx655_1)).trans hx655_1
                        replace hx655_2 := (HB.out.cell (World.block_lt_of_cell? w _ hx655_2)).trans hx655_2
                        replace hx655_3 := (HB.out.cell (World.block_lt_of_cell? w _ hx655_3)).trans hx655_3
                        have HR655_3 := Aside0.mk hi655_3
                        have HC655_3 := Aside0.mk hl655_3
                        clear hi655_3 hl655_3
                        replace p655 := eq_true p655
                        replace q655 := eq_true q655
                        go_wp2_with (first | (go_at_call 70; (with_reducible refine (ih k3 (by have := HJ3.out; have := HJ18.out; have := HK3.out; omega) ((rd_T40 l0_3 x3_3).f0) ((rd_T40 l0_3 x3_3).f1) ((rd_T40 l0_3 x3_3).f2) _ _ ((rd_T40 l0_3 x3_3).f3) true _ ?side1 ?side2 A29.out).mono ?_); (case side1 => repeat (first | exact (Kd.C_below HR655_3.out HB.out) | (with_reducible refine Kd.C_alloc ?_ _) | (with_reducible refine Kd.C_drewN ?_ _) | (with_reducible refine Kd.C_drew ?_))); (case side2 => exact HC655_3.out); rintro e w32 ⟨rfl, hb⟩; have n0_ := Aside0.mk (blk_below (g := gb651) (o := .cells #[.int .i64 a0_0, .string a0_1, .int .i64 a0_2, .slice (some ad655) l0_3.length c0_3] 40 (0, 0)) (by (with_reducible repeat (first | refine blk_drewN ?_ _ | refine blk_drew ?_ | refine blk_alloc ?_ _)); exact BK651.out) hb); have n1_ := Aside0.mk (below_step (by repeat (first | (with_reducible first | exact HB.out | apply below_alloc | apply pw_below_drewN | apply below_drew1 | refine below_set ?_ GE651.out) | exact HB.out)) hb); clear BK651; clear HB; have BK651 := n0_; have HB := n1_; clear n0_ n1_; (try clear hb); (try clear hb2); (try clear hk); (try clear hi)))
                        repeat (go_quiet (first | (go_at_call 70; (with_reducible refine (ih k3 (by have := HJ3.out; have := HJ18.out; have := HK3.out; omega) ((rd_T40 l0_3 x3_3).f0) ((rd_T40 l0_3 x3_3).f1) ((rd_T40 l0_3 x3_3).f2) _ _ ((rd_T40 l0_3 x3_3).f3) true _ ?side1 ?side2 A29.out).mono ?_); (case side1 => repeat (first | exact (Kd.C_below HR655_3.out HB.out) | (with_reducible refine Kd.C_alloc ?_ _) | (with_reducible refine Kd.C_drewN ?_ _) | (with_reducible refine Kd.C_drew ?_))); (case side2 => exact HC655_3.out); rintro e w32 ⟨rfl, hb⟩; have n0_ := Aside0.mk (blk_below (g := gb651) (o := .cells #[.int .i64 a0_0, .string a0_1, .int .i64 a0_2, .slice (some ad655) l0_3.length c0_3] 40 (0, 0)) (by (with_reducible repeat (first | refine blk_drewN ?_ _ | refine blk_drew ?_ | refine blk_alloc ?_ _)); exact BK651.out) hb); have n1_ := Aside0.mk (below_step (by repeat (first | (with_reducible first | exact HB.out | apply below_alloc | apply pw_below_drewN | apply below_drew1 | refine below_set ?_ GE651.out) | exact HB.out)) hb); clear BK651; clear HB; have BK651 := n0_; have HB := n1_; clear n0_ n1_; (try clear hb); (try clear hb2); (try clear hk); (try clear hi))); try go_wp2_with (first | (go_at_call 70; (with_reducible refine (ih k3 (by have := HJ3.out; have := HJ18.out; have := HK3.out; omega) ((rd_T40 l0_3 x3_3).f0) ((rd_T40 l0_3 x3_3).f1) ((rd_T40 l0_3 x3_3).f2) _ _ ((rd_T40 l0_3 x3_3).f3) true _ ?side1 ?side2 A29.out).mono ?_); (case side1 => repeat (first | exact (Kd.C_below HR655_3.out HB.out) | (with_reducible refine Kd.C_alloc ?_ _) | (with_reducible refine Kd.C_drewN ?_ _) | (with_reducible refine Kd.C_drew ?_))); (case side2 => exact HC655_3.out); rintro e w32 ⟨rfl, hb⟩; have n0_ := Aside0.mk (blk_below (g := gb651) (o := .cells #[.int .i64 a0_0, .string a0_1, .int .i64 a0_2, .slice (some ad655) l0_3.length c0_3] 40 (0, 0)) (by (with_reducible repeat (first | refine blk_drewN ?_ _ | refine blk_drew ?_ | refine blk_alloc ?_ _)); exact BK651.out) hb); have n1_ := Aside0.mk (below_step (by repeat (first | (with_reducible first | exact HB.out | apply below_alloc | apply pw_below_drewN | apply below_drew1 | refine below_set ?_ GE651.out) | exact HB.out)) hb); clear BK651; clear HB; have BK651 := n0_; have HB := n1_; clear n0_ n1_; (try clear hb); (try clear hb2); (try clear hk); (try clear hi))))
                        go_roundg k3
                        case measure => have := HJ3.out; have := HJ18.out; have := HK3.out; omega
                        case rel => exact ⟨(wrap64 (x3_3 + 1)), (by first | rfl | (simp; done) | (simp [*]; done)), H', ⟨by have := HJ3.out; have := HJ18.out; have := HK3.out; omega⟩, ⟨by (with_reducible repeat (first | refine blk_drewN ?_ _ | refine blk_drew ?_ | refine blk_alloc ?_ _)); exact BK651.out⟩, ⟨by repeat (first | (with_reducible first | exact HB.out | apply below_alloc | apply pw_below_drewN | apply below_drew1 | refine below_set ?_ GE651.out) | exact HB.out)⟩⟩
                      · replace c30 := Bool.eq_false_iff.mpr c30
                        subst c30
                        have H1 : (some false) = some r := by rw [if_neg (show ¬ (false = true) by decide)] at H; exact H
                        clear H
                        have H := H1
                        clear H1
                        obtain rfl := Option.some.inj H
                        have hcz33_0 : wr.cell? ⟨gb651, 0, none⟩ = some (.int .i64 a0_0) := (blk_cell BK651.out 0).trans rfl
                        have hcz33_1 : wr.cell? ⟨gb651, 1, none⟩ = some (.string a0_1) := (blk_cell BK651.out 1).trans rfl
                        have hcz33_2 : wr.cell? ⟨gb651, 2, none⟩ = some (.int .i64 a0_2) := (blk_cell BK651.out 2).trans rfl
                        have hcz33_3 : wr.cell? ⟨gb651, 3, none⟩ = some (.slice A0_3 l0_3.length c0_3) := (blk_cell BK651.out 3).trans rfl
                        have hfz33_0 := blk_frozen BK651.out 0
                        have hfz33_1 := blk_frozen BK651.out 1
                        have hfz33_2 := blk_frozen BK651.out 2
                        have hfz33_3 := blk_frozen BK651.out 3
                        have p655 : 0 ≤ (x3_3 : Int) := of_decide_eq_true (by first | (with_reducible assumption) | assumption)
                        have q655 : x3_3 < (l0_3.length : Int) := of_decide_eq_true (by first | (with_reducible assumption) | assumption)
                        obtain ⟨ad655, A655_3, c655_3, e655, hx655_0, hx655_1, hx655_2, hx655_3, hl655_3, hi655_3⟩ := at_T40 HR0_3.out x3_3 p655 q655
                        cases e655
                        replace hx655_0 := (HB.out.cell (World.block_lt_of_cell? w _ hx655_0)).trans hx655_0
                        replace hx655_1 := (HB.out.cell (World.block_lt_of_cell? w _ hx655_1)).trans hx655_1
                        replace hx655_2 := (HB.out.cell (World.block_lt_of_cell? w _ hx655_2)).trans hx655_2
                        replace hx655_3 := (HB.out.cell (World.block_lt_of_cell? w _ hx655_3)).trans hx655_3
                        have HR655_3 := Aside0.mk hi655_3
                        have HC655_3 := Aside0.mk hl655_3
                        clear hi655_3 hl655_3
                        replace p655 := eq_true p655
                        replace q655 := eq_true q655
                        go_wp2_with (first | (go_at_call 70; (with_reducible refine (ih k3 (by have := HJ3.out; have := HJ18.out; have := HK3.out; omega) ((rd_T40 l0_3 x3_3).f0) ((rd_T40 l0_3 x3_3).f1) ((rd_T40 l0_3 x3_3).f2) _ _ ((rd_T40 l0_3 x3_3).f3) false _ ?side1 ?side2 A29.out).mono ?_); (case side1 => repeat (first | exact (Kd.C_below HR655_3.out HB.out) | (with_reducible refine Kd.C_alloc ?_ _) | (with_reducible refine Kd.C_drewN ?_ _) | (with_reducible refine Kd.C_drew ?_))); (case side2 => exact HC655_3.out); rintro e w34 ⟨rfl, hb⟩; have n0_ := Aside0.mk (blk_below (g := gb651) (o := .cells #[.int .i64 a0_0, .string a0_1, .int .i64 a0_2, .slice (some ad655) l0_3.length c0_3] 40 (0, 0)) (by (with_reducible repeat (first | refine blk_drewN ?_ _ | refine blk_drew ?_ | refine blk_alloc ?_ _)); exact BK651.out) hb); have n1_ := Aside0.mk (below_step (by repeat (first | (with_reducible first | exact HB.out | apply below_alloc | apply pw_below_drewN | apply below_drew1 | refine below_set ?_ GE651.out) | exact HB.out)) hb); clear BK651; clear HB; have BK651 := n0_; have HB := n1_; clear n0_ n1_; (try clear hb); (try clear hb2); (try clear hk); (try clear hi)))
                        repeat (go_quiet (first | (go_at_call 70; (with_reducible refine (ih k3 (by have := HJ3.out; have := HJ18.out; have := HK3.out; omega) ((rd_T40 l0_3 x3_3).f0) ((rd_T40 l0_3 x3_3).f1) ((rd_T40 l0_3 x3_3).f2) _ _ ((rd_T40 l0_3 x3_3).f3) false _ ?side1 ?side2 A29.out).mono ?_); (case side1 => repeat (first | exact (Kd.C_below HR655_3.out HB.out) | (with_reducible refine Kd.C_alloc ?_ _) | (with_reducible refine Kd.C_drewN ?_ _) | (with_reducible refine Kd.C_drew ?_))); (case side2 => exact HC655_3.out); rintro e w34 ⟨rfl, hb⟩; have n0_ := Aside0.mk (blk_below (g := gb651) (o := .cells #[.int .i64 a0_0, .string a0_1, .int .i64 a0_2, .slice (some ad655) l0_3.length c0_3] 40 (0, 0)) (by (with_reducible repeat (first | refine blk_drewN ?_ _ | refine blk_drew ?_ | refine blk_alloc ?_ _)); exact BK651.out) hb); have n1_ := Aside0.mk (below_step (by repeat (first | (with_reducible first | exact HB.out | apply below_alloc | apply pw_below_drewN | apply below_drew1 | refine below_set ?_ GE651.out) | exact HB.out)) hb); clear BK651; clear HB; have BK651 := n0_; have HB := n1_; clear n0_ n1_; (try clear hb); (try clear hb2); (try clear hk); (try clear hi))); try go_wp2_with (first | (go_at_call 70; (with_reducible refine (ih k3 (by have := HJ3.out; have := HJ18.out; have := HK3.out; omega) ((rd_T40 l0_3 x3_3).f0) ((rd_T40 l0_3 x3_3).f1) ((rd_T40 l0_3 x3_3).f2) _ _ ((rd_T40 l0_3 x3_3).f3) false _ ?side1 ?side2 A29.out).mono ?_); (case side1 => repeat (first | exact (Kd.C_below HR655_3.out HB.out) | (with_reducible refine Kd.C_alloc ?_ _) | (with_reducible refine Kd.C_drewN ?_ _) | (with_reducible refine Kd.C_drew ?_))); (case side2 => exact HC655_3.out); rintro e w34 ⟨rfl, hb⟩; have n0_ := Aside0.mk (blk_below (g := gb651) (o := .cells #[.int .i64 a0_0, .string a0_1, .int .i64 a0_2, .slice (some ad655) l0_3.length c0_3] 40 (0, 0)) (by (with_reducible repeat (first | refine blk_drewN ?_ _ | refine blk_drew ?_ | refine blk_alloc ?_ _)); exact BK651.out) hb); have n1_ := Aside0.mk (below_step (by repeat (first | (with_reducible first | exact HB.out | apply below_alloc | apply pw_below_drewN | apply below_drew1 | refine below_set ?_ GE651.out) | exact HB.out)) hb); clear BK651; clear HB; have BK651 := n0_; have HB := n1_; clear n0_ n1_; (try clear hb); (try clear hb2); (try clear hk); (try clear hi))))
                        go_ret
                        exact ⟨by first | rfl | (simp [errW_none, errW_some] <;> rfl) | (simp [*, errW_none, errW_some] <;> rfl), by repeat (first | (with_reducible first | exact HB.out | apply below_alloc | apply pw_below_drewN | apply below_drew1 | refine below_set ?_ GE651.out) | exact HB.out)⟩
                    · rw [if_neg c28] at H
                      exact absurd H (by simp)
                  · rw [if_neg c27] at H
                    have c27b0 : decide (x3_3 < (l0_3.length : Int)) = false := decide_eq_false c27
                    clear c27
                    obtain rfl := Option.some.inj H
                    have hcz35_0 : wr.cell? ⟨gb651, 0, none⟩ = some (.int .i64 a0_0) := (blk_cell BK651.out 0).trans rfl
                    have hcz35_1 : wr.cell? ⟨gb651, 1, none⟩ = some (.string a0_1) := (blk_cell BK651.out 1).trans rfl
                    have hcz35_2 : wr.cell? ⟨gb651, 2, none⟩ = some (.int .i64 a0_2) := (blk_cell BK651.out 2).trans rfl
                    have hcz35_3 : wr.cell? ⟨gb651, 3, none⟩ = some (.slice A0_3 l0_3.length c0_3) := (blk_cell BK651.out 3).trans rfl
                    have hfz35_0 := blk_frozen BK651.out 0
                    have hfz35_1 := blk_frozen BK651.out 1
                    have hfz35_2 := blk_frozen BK651.out 2
                    have hfz35_3 := blk_frozen BK651.out 3
                    go_wp2
                    repeat (go_quiet (fail); try go_wp2)
                    go_ret
                    exact ⟨by first | rfl | (simp [errW_none, errW_some] <;> rfl) | (simp [*, errW_none, errW_some] <;> rfl), by repeat (first | (with_reducible first | exact HB.out | apply below_alloc | apply pw_below_drewN | apply below_drew1 | refine below_set ?_ GE651.out) | exact HB.out)⟩
  · rw [if_neg c3] at H
    have c3b0 : ((l0_3.length : Int) == t652) = false := beq_eq_false_iff_ne.mpr c3
    have c3b1 : ((l0_3.length : Int) != t652) = true := bne_iff_ne.mpr c3
    obtain rfl := Option.some.inj H
    go_enter Try.func70, Try.ntmps70
    go_wp2_with (first | ((with_reducible refine gate_dst (N := 1) rfl ?_); refine box_event ?hg (N := 1) ?hd (cs := #[.int .i64 a0_0, .string a0_1, .int .i64 a0_2, .slice A0_3 l0_3.length c0_3]) (t := 40) ?hr ?_; (case hd => rfl); (case hg => rfl); (case hr => first | (go_simp; done) | (go_simp; rfl)); intro gb651 hg w36 hbox hb; have n0_ := Aside0.mk (below_step (by repeat (first | (with_reducible first | exact HB.out | apply below_alloc | apply pw_below_drewN | apply below_drew1) | exact HB.out)) hb); have n1_ := Aside0.mk (hbox); have n2_ := Aside0.mk ((by rw [hg]; exact (below_size (by repeat (first | (with_reducible first | exact HB.out | apply below_alloc | apply pw_below_drewN | apply below_drew1) | exact HB.out))) : w.heap.size ≤ gb651)); have n3_ := Aside0.mk ((by rw [hg]; exact (below_size (by repeat (first | (with_reducible first | exact HB.out | apply below_alloc | apply pw_below_drewN | apply below_drew1) | exact HB.out))) : w.heap.size ≤ gb651)); clear HB; have HB := n0_; have BK651 := n1_; have GW651 := n2_; have GE651 := n3_; clear n0_ n1_ n2_ n3_; clear hb hbox hg; have hcz37_0 : w36.cell? ⟨gb651, 0, none⟩ = some (.int .i64 a0_0) := (blk_cell BK651.out 0).trans rfl; have hcz37_1 : w36.cell? ⟨gb651, 1, none⟩ = some (.string a0_1) := (blk_cell BK651.out 1).trans rfl; have hcz37_2 : w36.cell? ⟨gb651, 2, none⟩ = some (.int .i64 a0_2) := (blk_cell BK651.out 2).trans rfl; have hcz37_3 : w36.cell? ⟨gb651, 3, none⟩ = some (.slice A0_3 l0_3.length c0_3) := (blk_cell BK651.out 3).trans rfl; have hfz37_0 := blk_frozen BK651.out 0; have hfz37_1 := blk_frozen BK651.out 1; have hfz37_2 := blk_frozen BK651.out 2; have hfz37_3 := blk_frozen BK651.out 3) | (go_at_call 85; (with_reducible refine (spec_l04Kids.calls a0_0 t652 _ A2.out).mono ?_); rintro e w' ⟨rfl, ⟨nd, rfl⟩⟩; (try first | exact ⟨rfl, _, World.drewN_drewN _ _ _⟩ | exact ⟨rfl, _, Eq.trans (World.drewN_drewN _ _ _) (congrArg (World.drewN _) (Nat.add_assoc _ _ _))⟩)))
    repeat (go_quiet (first | ((with_reducible refine gate_dst (N := 1) rfl ?_); refine box_event ?hg (N := 1) ?hd (cs := #[.int .i64 a0_0, .string a0_1, .int .i64 a0_2, .slice A0_3 l0_3.length c0_3]) (t := 40) ?hr ?_; (case hd => rfl); (case hg => rfl); (case hr => first | (go_simp; done) | (go_simp; rfl)); intro gb651 hg w36 hbox hb; have n0_ := Aside0.mk (below_step (by repeat (first | (with_reducible first | exact HB.out | apply below_alloc | apply pw_below_drewN | apply below_drew1) | exact HB.out)) hb); have n1_ := Aside0.mk (hbox); have n2_ := Aside0.mk ((by rw [hg]; exact (below_size (by repeat (first | (with_reducible first | exact HB.out | apply below_alloc | apply pw_below_drewN | apply below_drew1) | exact HB.out))) : w.heap.size ≤ gb651)); have n3_ := Aside0.mk ((by rw [hg]; exact (below_size (by repeat (first | (with_reducible first | exact HB.out | apply below_alloc | apply pw_below_drewN | apply below_drew1) | exact HB.out))) : w.heap.size ≤ gb651)); clear HB; have HB := n0_; have BK651 := n1_; have GW651 := n2_; have GE651 := n3_; clear n0_ n1_ n2_ n3_; clear hb hbox hg; have hcz37_0 : w36.cell? ⟨gb651, 0, none⟩ = some (.int .i64 a0_0) := (blk_cell BK651.out 0).trans rfl; have hcz37_1 : w36.cell? ⟨gb651, 1, none⟩ = some (.string a0_1) := (blk_cell BK651.out 1).trans rfl; have hcz37_2 : w36.cell? ⟨gb651, 2, none⟩ = some (.int .i64 a0_2) := (blk_cell BK651.out 2).trans rfl; have hcz37_3 : w36.cell? ⟨gb651, 3, none⟩ = some (.slice A0_3 l0_3.length c0_3) := (blk_cell BK651.out 3).trans rfl; have hfz37_0 := blk_frozen BK651.out 0; have hfz37_1 := blk_frozen BK651.out 1; have hfz37_2 := blk_frozen BK651.out 2; have hfz37_3 := blk_frozen BK651.out 3) | (go_at_call 85; (with_reducible refine (spec_l04Kids.calls a0_0 t652 _ A2.out).mono ?_); rintro e w' ⟨rfl, ⟨nd, rfl⟩⟩; (try first | exact ⟨rfl, _, World.drewN_drewN _ _ _⟩ | exact ⟨rfl, _, Eq.trans (World.drewN_drewN _ _ _) (congrArg (World.drewN _) (Nat.add_assoc _ _ _))⟩))); try go_wp2_with (first | ((with_reducible refine gate_dst (N := 1) rfl ?_); refine box_event ?hg (N := 1) ?hd (cs := #[.int .i64 a0_0, .string a0_1, .int .i64 a0_2, .slice A0_3 l0_3.length c0_3]) (t := 40) ?hr ?_; (case hd => rfl); (case hg => rfl); (case hr => first | (go_simp; done) | (go_simp; rfl)); intro gb651 hg w36 hbox hb; have n0_ := Aside0.mk (below_step (by repeat (first | (with_reducible first | exact HB.out | apply below_alloc | apply pw_below_drewN | apply below_drew1) | exact HB.out)) hb); have n1_ := Aside0.mk (hbox); have n2_ := Aside0.mk ((by rw [hg]; exact (below_size (by repeat (first | (with_reducible first | exact HB.out | apply below_alloc | apply pw_below_drewN | apply below_drew1) | exact HB.out))) : w.heap.size ≤ gb651)); have n3_ := Aside0.mk ((by rw [hg]; exact (below_size (by repeat (first | (with_reducible first | exact HB.out | apply below_alloc | apply pw_below_drewN | apply below_drew1) | exact HB.out))) : w.heap.size ≤ gb651)); clear HB; have HB := n0_; have BK651 := n1_; have GW651 := n2_; have GE651 := n3_; clear n0_ n1_ n2_ n3_; clear hb hbox hg; have hcz37_0 : w36.cell? ⟨gb651, 0, none⟩ = some (.int .i64 a0_0) := (blk_cell BK651.out 0).trans rfl; have hcz37_1 : w36.cell? ⟨gb651, 1, none⟩ = some (.string a0_1) := (blk_cell BK651.out 1).trans rfl; have hcz37_2 : w36.cell? ⟨gb651, 2, none⟩ = some (.int .i64 a0_2) := (blk_cell BK651.out 2).trans rfl; have hcz37_3 : w36.cell? ⟨gb651, 3, none⟩ = some (.slice A0_3 l0_3.length c0_3) := (blk_cell BK651.out 3).trans rfl; have hfz37_0 := blk_frozen BK651.out 0; have hfz37_1 := blk_frozen BK651.out 1; have hfz37_2 := blk_frozen BK651.out 2; have hfz37_3 := blk_frozen BK651.out 3) | (go_at_call 85; (with_reducible refine (spec_l04Kids.calls a0_0 t652 _ A2.out).mono ?_); rintro e w' ⟨rfl, ⟨nd, rfl⟩⟩; (try first | exact ⟨rfl, _, World.drewN_drewN _ _ _⟩ | exact ⟨rfl, _, Eq.trans (World.drewN_drewN _ _ _) (congrArg (World.drewN _) (Nat.add_assoc _ _ _))⟩))))
    go_ret
    exact ⟨by first | rfl | (simp [errW_none, errW_some] <;> rfl) | (simp [*, errW_none, errW_some] <;> rfl), by repeat (first | (with_reducible first | exact HB.out | apply below_alloc | apply pw_below_drewN | apply below_drew1 | refine below_set ?_ GE651.out) | exact HB.out)⟩

end Go.Proofs.Ytbbndlagginnoaa.Q
