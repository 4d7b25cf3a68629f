/- Written by a program of this session (drive.py) over the translation: a part of the proofs of the laws; nothing is asked beyond what each statement says. -/
import Derived.Test.YtbgfdhabfgeglaaBlk
import Derived.Test.YtbgfdhabfgeglaaQ0
namespace Go.Proofs.Ytbgfdhabfgeglaa.Q
open Go.RowKit Go.Proofs.YtbgfdhabfgeglaaW.PrintWords Go.Proofs.YtbgfdhabfgeglaaW.PrintLast Go.Proofs.YtbgfdhabfgeglaaW.PrintMore
attribute [local go_sem] max2_int min2_int max_two min_two max_three min_three max_four min_four   -- for this text's walks alone
set_option linter.unusedVariables false
set_option linter.unusedSimpArgs false

/-! ### spec_Has: function 50 -/
def spec_Has.l0 : Nat → List ByteArray → ByteArray → Int → Option (Bool)
  | 0, _, _, _ => none
  | k + 1, x0, x1, x5 => if x5 < (x0.length : Int) then (if 0 ≤ x5 then (if (rdOf ByteArray.empty x0 x5).toList = x1.toList then (some true) else (spec_Has.l0 k x0 x1 (wrap64 (x5 + 1)))) else (none)) else (some false)
def spec_Has.f (k : Nat) (l0 : List ByteArray) (a1 : ByteArray) : Option (Bool) := spec_Has.l0 k l0 a1 0
set_option maxHeartbeats 8000000 in
set_option maxRecDepth 100000 in
theorem spec_Has.calls (k : Nat) (A0 : Option Addr) (c0 : Nat) (l0 : List ByteArray) (a1 : ByteArray) (r : Bool) (w : World) (hr0 : Kd.C Kd.string w A0 l0.length l0) (hc0 : l0.length ≤ c0) (h : spec_Has.f k l0 a1 = some r) :
    Calls Try.prog 50 #[.slice A0 l0.length c0, .string a1] w fun e w' => e = .returned (.bool r) ∧ Drawn0 w w' := by
  have HR0 := Aside0.mk hr0
  have HC0 := Aside0.mk hc0
  clear hr0 hc0
  have H : (spec_Has.l0 k l0 a1 0) = some r := h
  clear h
  have H' := Aside0.mk H
  clear H
  go_enter Try.func50, Try.ntmps50
  go_wp2
  go_loopg [5] k (fun kq v5 w' => ∃ (x5_1 : Int), v5 = .int .i64 x5_1 ∧ Aside0 (spec_Has.l0 kq l0 a1 x5_1 = some r) ∧ Aside0 (kq ≤ k) ∧ Drawn0 w w')
  case atStart => exact ⟨(0), (by first | rfl | (simp; done) | (simp [*]; done)), H', ⟨Nat.le_refl _⟩, by repeat (first | exact Drawn0.refl _ | apply Drawn0.step)⟩
  case round =>
    clear H'
    try clear p2
    obtain ⟨x5_1, rfl, HA, HK1, ⟨m1, rfl⟩⟩ := hrel
    cases gk with
    | zero => exact absurd HA.out (by simp [spec_Has.l0])
    | succ k1 =>
      have H := HA.out
      clear HA
      simp only [spec_Has.l0] at H
      by_cases c3 : x5_1 < (l0.length : Int)
      · rw [if_pos c3] at H
        have c3b0 : decide (x5_1 < (l0.length : Int)) = true := decide_eq_true c3
        clear c3
        by_cases c4 : 0 ≤ x5_1
        · rw [if_pos c4] at H
          have c4b0 : decide (0 ≤ x5_1) = true := decide_eq_true c4
          clear c4
          by_cases c5 : (rdOf ByteArray.empty l0 x5_1).toList = a1.toList
          · rw [if_pos c5] at H
            have c5b0 : ((rdOf ByteArray.empty l0 x5_1).toList == a1.toList) = true := beq_iff_eq.mpr c5
            have c5b1 : ((rdOf ByteArray.empty l0 x5_1).toList != a1.toList) = false := bne_eq_false_iff_eq.mpr c5
            clear c5
            obtain rfl := Option.some.inj H
            have p509 : 0 ≤ (x5_1 : Int) := of_decide_eq_true (by first | (with_reducible assumption) | assumption)
            have q509 : x5_1 < (l0.length : Int) := of_decide_eq_true (by first | (with_reducible assumption) | assumption)
            obtain ⟨ad509, e509, hx509_0⟩ := Kd.at_string HR0.out x5_1 p509 q509
            cases e509
            replace p509 := eq_true p509
            replace q509 := eq_true q509
            go_wp2
            go_ret
            exact ⟨by first | rfl | (simp; done) | (simp [*]; done), by repeat (first | exact Drawn0.refl _ | apply Drawn0.step)⟩
          · rw [if_neg c5] at H
            have c5b0 : ((rdOf ByteArray.empty l0 x5_1).toList == a1.toList) = false := beq_eq_false_iff_ne.mpr c5
            have c5b1 : ((rdOf ByteArray.empty l0 x5_1).toList != a1.toList) = true := bne_iff_ne.mpr c5
            have H' := Aside0.mk H
            clear H
            have p509 : 0 ≤ (x5_1 : Int) := of_decide_eq_true (by first | (with_reducible assumption) | assumption)
            have q509 : x5_1 < (l0.length : Int) := of_decide_eq_true (by first | (with_reducible assumption) | assumption)
            obtain ⟨ad509, e509, hx509_0⟩ := Kd.at_string HR0.out x5_1 p509 q509
            cases e509
            replace p509 := eq_true p509
            replace q509 := eq_true q509
            go_wp2
            go_roundg k1
            case measure => have := HK1.out; omega
            case rel => exact ⟨(wrap64 (x5_1 + 1)), (by first | rfl | (simp; done) | (simp [*]; done)), H', ⟨by have := HK1.out; omega⟩, by repeat (first | exact Drawn0.refl _ | apply Drawn0.step)⟩
        · rw [if_neg c4] at H
          exact absurd H (by simp)
      · rw [if_neg c3] at H
        have c3b0 : decide (x5_1 < (l0.length : Int)) = false := decide_eq_false c3
        clear c3
        obtain rfl := Option.some.inj H
        go_wp2
        go_ret
        exact ⟨by first | rfl | (simp; done) | (simp [*]; done), by repeat (first | exact Drawn0.refl _ | apply Drawn0.step)⟩

/-! ### spec_l06All: function 51 -/
mutual
def spec_l06All.l0 : Nat → List ByteArray → Int → List (S141) → List (S89) → List (S31) → List (S93) → List (S97) → Int → Option (List ByteArray)
  | 0, _, _, _, _, _, _, _, _ => none
  | k + 1, x3, x4, x511000, x511001, x511002, x511003, x511004, x511005 => if x4 < (x511001.length : Int) then (if 0 ≤ x4 then (if x3.length < 8796093022208 then (spec_l06All.l0 k (x3 ++ [(rd_T89 x511001 x4).f0]) (wrap64 (x4 + 1)) x511000 x511001 x511002 x511003 x511004 x511005) else (none)) else (none)) else (spec_l06All.l1 k x3 0 x511000 x511001 x511002 x511003 x511004 x511005)
def spec_l06All.l1 : Nat → List ByteArray → Int → List (S141) → List (S89) → List (S31) → List (S93) → List (S97) → Int → Option (List ByteArray)
  | 0, _, _, _, _, _, _, _, _ => none
  | k + 1, x3, x5, x511000, x511001, x511002, x511003, x511004, x511005 => if x5 < (x511002.length : Int) then (if 0 ≤ x5 then (if x3.length < 8796093022208 then (spec_l06All.l1 k (x3 ++ [(rd_T31 x511002 x5).f0]) (wrap64 (x5 + 1)) x511000 x511001 x511002 x511003 x511004 x511005) else (none)) else (none)) else (spec_l06All.l2 k x3 0 x511000 x511001 x511002 x511003 x511004 x511005)
def spec_l06All.l2 : Nat → List ByteArray → Int → List (S141) → List (S89) → List (S31) → List (S93) → List (S97) → Int → Option (List ByteArray)
  | 0, _, _, _, _, _, _, _, _ => none
  | k + 1, x3, x6, x511000, x511001, x511002, x511003, x511004, x511005 => if x6 < (x511003.length : Int) then (if 0 ≤ x6 then (if x3.length < 8796093022208 then (spec_l06All.l2 k (x3 ++ [(rd_T93 x511003 x6).f0]) (wrap64 (x6 + 1)) x511000 x511001 x511002 x511003 x511004 x511005) else (none)) else (none)) else (spec_l06All.l3 k x3 0 x511000 x511001 x511002 x511003 x511004 x511005)
def spec_l06All.l3 : Nat → List ByteArray → Int → List (S141) → List (S89) → List (S31) → List (S93) → List (S97) → Int → Option (List ByteArray)
  | 0, _, _, _, _, _, _, _, _ => none
  | k + 1, x3, x7, x511000, x511001, x511002, x511003, x511004, x511005 => if x7 < (x511004.length : Int) then (if 0 ≤ x7 then (if x3.length < 8796093022208 then (spec_l06All.l3 k (x3 ++ [(rd_T97 x511004 x7).f0]) (wrap64 (x7 + 1)) x511000 x511001 x511002 x511003 x511004 x511005) else (none)) else (none)) else (some x3)
end
def spec_l06All.f (k : Nat) (l0_0 : List (S141)) (l0_1 : List (S89)) (l0_2 : List (S31)) (l0_3 : List (S93)) (l0_4 : List (S97)) (a0_5 : Int) : Option (List ByteArray) := spec_l06All.l0 k (([] : List ByteArray)) 0 l0_0 l0_1 l0_2 l0_3 l0_4 a0_5
set_option maxHeartbeats 8000000 in
set_option maxRecDepth 100000 in
theorem spec_l06All.calls (k : Nat) (A0_0 : Option Addr) (c0_0 : Nat) (l0_0 : List (S141)) (A0_1 : Option Addr) (c0_1 : Nat) (l0_1 : List (S89)) (A0_2 : Option Addr) (c0_2 : Nat) (l0_2 : List (S31)) (A0_3 : Option Addr) (c0_3 : Nat) (l0_3 : List (S93)) (A0_4 : Option Addr) (c0_4 : Nat) (l0_4 : List (S97)) (a0_5 : Int) (r : List ByteArray) (w : World) (hr0_0 : Kd.C k141 w A0_0 l0_0.length l0_0) (hc0_0 : l0_0.length ≤ c0_0) (hr0_1 : Kd.C k89 w A0_1 l0_1.length l0_1) (hc0_1 : l0_1.length ≤ c0_1) (hr0_2 : Kd.C k31 w A0_2 l0_2.length l0_2) (hc0_2 : l0_2.length ≤ c0_2) (hr0_3 : Kd.C k93 w A0_3 l0_3.length l0_3) (hc0_3 : l0_3.length ≤ c0_3) (hr0_4 : Kd.C k97 w A0_4 l0_4.length l0_4) (hc0_4 : l0_4.length ≤ c0_4) (h : spec_l06All.f k l0_0 l0_1 l0_2 l0_3 l0_4 a0_5 = some r) :
    Calls Try.prog 51 #[.agg #[.slice A0_0 l0_0.length c0_0, .slice A0_1 l0_1.length c0_1, .slice A0_2 l0_2.length c0_2, .slice A0_3 l0_3.length c0_3, .slice A0_4 l0_4.length c0_4, .int .i64 a0_5]] w fun e w' => ∃ v0_ : Value, e = .returned (v0_) ∧ Kd.R Kd.string 9 w' w.heap.size (fun _ => True) v0_ r ∧ Below w.heap.size w w' := by
  have hu43 := Try.underlying43
  have HR0_0 := Aside0.mk hr0_0
  have HC0_0 := Aside0.mk hc0_0
  clear hr0_0 hc0_0
  have HR0_1 := Aside0.mk hr0_1
  have HC0_1 := Aside0.mk hc0_1
  clear hr0_1 hc0_1
  have HR0_2 := Aside0.mk hr0_2
  have HC0_2 := Aside0.mk hc0_2
  clear hr0_2 hc0_2
  have HR0_3 := Aside0.mk hr0_3
  have HC0_3 := Aside0.mk hc0_3
  clear hr0_3 hc0_3
  have HR0_4 := Aside0.mk hr0_4
  have HC0_4 := Aside0.mk hc0_4
  clear hr0_4 hc0_4
  have HB := Aside0.mk (Below.refl w.heap.size w)
  have H : (spec_l06All.l0 k (([] : List ByteArray)) 0 l0_0 l0_1 l0_2 l0_3 l0_4 a0_5) = some r := h
  clear h
  obtain ⟨y511, hy511⟩ : ∃ y_ : List ByteArray, y_ = (([] : List ByteArray)) := ⟨_, rfl⟩
  replace H : (spec_l06All.l0 k y511 0 l0_0 l0_1 l0_2 l0_3 l0_4 a0_5) = some r := by first | (rw [hy511]; with_reducible exact H) | (have H2_ := (Option.bind_some _ _).symm.trans H; rw [hy511]; with_reducible exact H2_) | (have H2_ := (Option.bind_some _ _).symm.trans H; with_reducible exact H2_) | with_reducible exact H | (rw [hy511]; exact H) | exact H
  have Ny511 := Aside0.mk hy511
  clear hy511
  have H' := Aside0.mk H
  clear H
  go_enter Try.func51, Try.ntmps51
  go_wp2_with (first | ((with_reducible refine gate_dst (N := 1) rfl ?_); refine box_event ?hg (N := 1) ?hd (cs := #[.slice A0_0 l0_0.length c0_0, .slice A0_1 l0_1.length c0_1, .slice A0_2 l0_2.length c0_2, .slice A0_3 l0_3.length c0_3, .slice A0_4 l0_4.length c0_4, .int .i64 a0_5]) (t := 43) ?hr ?_; (case hd => rfl); (case hg => rfl); (case hr => first | (go_simp; done) | (go_simp; rfl)); intro gb510 hg w2 hbox hb; obtain ⟨n0_, n2_⟩ := ev2 (by repeat (first | (with_reducible first | exact HB.out | apply below_alloc | apply pw_below_drewN | apply below_drew1) | exact HB.out)) hb hg; have n1_ := Aside0.mk (hbox); have n3_ := n2_; clear HB; have HB := n0_; have BK510 := n1_; have GW510 := n2_; have GE510 := n3_; clear n0_ n1_ n2_ n3_; clear hb hbox hg) | ((with_reducible refine gate_dst (N := 8) rfl ?_); refine Kd.R_lit Kd.string _ 9 ?hg (N := 8) ?hd (xs := ([] : List ByteArray)) (inner := []) (ok := fun _ => True) (okp := fun _ => True) ?hr ?hp (fun _ hk => hk) trivial (Below.refl _ _) (Nat.le_refl _) (by simp) ?_; (case hd => rfl); (case hg => rfl); (case hr => first | (go_simp; done) | (go_simp; rfl)); (case hp => exact (Reps.none _ _)); intro v512 w3 ho4 hb hg_ hnew_; clear hg_ hnew_; (first | rw [← Ny511.out] at ho4 | (simp only [Int.reduceToNat] at ho4; rw [← Ny511.out] at ho4)); have n0_ := Aside0.mk (Kd.R_lower ho4 (below_size (by repeat (first | (with_reducible first | exact HB.out | apply below_alloc | apply pw_below_drewN | apply below_drew1 | refine below_set ?_ GE510.out) | exact HB.out)))); have n1_ := Aside0.mk (blk_below (g := gb510) (o := .cells #[.slice A0_0 l0_0.length c0_0, .slice A0_1 l0_1.length c0_1, .slice A0_2 l0_2.length c0_2, .slice A0_3 l0_3.length c0_3, .slice A0_4 l0_4.length c0_4, .int .i64 a0_5] 43 (0, 0)) (by (with_reducible repeat (first | refine blk_drewN ?_ _ | refine blk_drew ?_ | refine blk_alloc ?_ _)); exact BK510.out) hb); have n2_ := Aside0.mk (below_step (by repeat (first | (with_reducible first | exact HB.out | apply below_alloc | apply pw_below_drewN | apply below_drew1 | refine below_set ?_ GE510.out) | exact HB.out)) hb); clear BK510; clear HB; have HO513 := n0_; have BK510 := n1_; have HB := n2_; clear n0_ n1_ n2_; clear hb ho4))
  go_loopg [3, 4] k (fun kq v3 v4 w' => ∃ (x3_1 : List ByteArray) (x4_1 : Int), v4 = .int .i64 x4_1 ∧ Aside0 (spec_l06All.l0 kq x3_1 x4_1 l0_0 l0_1 l0_2 l0_3 l0_4 a0_5 = some r) ∧ Aside0 (kq ≤ k) ∧ Aside0 (Kd.R Kd.string 9 w' w.heap.size (fun _ => True) v3 x3_1) ∧ Aside0 (w'.heap[gb510]? = some (.cells #[(.slice A0_0 l0_0.length c0_0), (.slice A0_1 l0_1.length c0_1), (.slice A0_2 l0_2.length c0_2), (.slice A0_3 l0_3.length c0_3), (.slice A0_4 l0_4.length c0_4), .int .i64 a0_5] 43 (0, 0))) ∧ Aside0 (Below w.heap.size w w'))
  case atStart => exact ⟨(y511), (0), (by first | rfl | (simp; done) | (simp [*]; done)), H', ⟨Nat.le_refl _⟩, ⟨by (with_reducible repeat (first | apply Kd.R_alloc | apply Kd.R_drewN | apply Kd.R_drew)); exact HO513.out⟩, ⟨by (with_reducible repeat (first | refine blk_drewN ?_ _ | refine blk_drew ?_ | refine blk_alloc ?_ _)); exact BK510.out⟩, ⟨by repeat (first | (with_reducible first | exact HB.out | apply below_alloc | apply pw_below_drewN | apply below_drew1 | refine below_set ?_ GE510.out) | exact HB.out)⟩⟩
  case round =>
    clear H'
    try clear p2
    obtain ⟨x3_1, x4_1, rfl, HA, HK1, HO_3, BK510, HB⟩ := hrel
    cases gk with
    | zero => exact absurd HA.out (by simp [spec_l06All.l0])
    | succ k1 =>
      have H := HA.out
      clear HA
      simp only [spec_l06All.l0] at H
      by_cases c5 : x4_1 < (l0_1.length : Int)
      · rw [if_pos c5] at H
        have c5b0 : decide (x4_1 < (l0_1.length : Int)) = true := decide_eq_true c5
        clear c5
        by_cases c6 : 0 ≤ x4_1
        · rw [if_pos c6] at H
          have c6b0 : decide (0 ≤ x4_1) = true := decide_eq_true c6
          clear c6
          by_cases c7 : x3_1.length < 8796093022208
          · rw [if_pos c7] at H
            have LMc7 := Aside0.mk c7
            clear c7
            obtain ⟨y515, hy515⟩ : ∃ y_ : List ByteArray, y_ = (x3_1 ++ [(rd_T89 l0_1 x4_1).f0]) := ⟨_, rfl⟩
            replace H : (spec_l06All.l0 k1 y515 (wrap64 (x4_1 + 1)) l0_0 l0_1 l0_2 l0_3 l0_4 a0_5) = some r := by first | (rw [hy515]; with_reducible exact H) | (have H2_ := (Option.bind_some _ _).symm.trans H; rw [hy515]; with_reducible exact H2_) | (have H2_ := (Option.bind_some _ _).symm.trans H; with_reducible exact H2_) | with_reducible exact H | (rw [hy515]; exact H) | exact H
            have Ny515 := Aside0.mk hy515
            clear hy515
            have H' := Aside0.mk H
            clear H
            have hcz8_0 : wr.cell? ⟨gb510, 0, none⟩ = some (.slice A0_0 l0_0.length c0_0) := (blk_cell BK510.out 0).trans rfl
            have hcz8_1 : wr.cell? ⟨gb510, 1, none⟩ = some (.slice A0_1 l0_1.length c0_1) := (blk_cell BK510.out 1).trans rfl
            have hcz8_2 : wr.cell? ⟨gb510, 2, none⟩ = some (.slice A0_2 l0_2.length c0_2) := (blk_cell BK510.out 2).trans rfl
            have hcz8_3 : wr.cell? ⟨gb510, 3, none⟩ = some (.slice A0_3 l0_3.length c0_3) := (blk_cell BK510.out 3).trans rfl
            have hcz8_4 : wr.cell? ⟨gb510, 4, none⟩ = some (.slice A0_4 l0_4.length c0_4) := (blk_cell BK510.out 4).trans rfl
            have hcz8_5 : wr.cell? ⟨gb510, 5, none⟩ = some (.int .i64 a0_5) := (blk_cell BK510.out 5).trans rfl
            have hfz8_0 := blk_frozen BK510.out 0
            have hfz8_1 := blk_frozen BK510.out 1
            have hfz8_2 := blk_frozen BK510.out 2
            have hfz8_3 := blk_frozen BK510.out 3
            have hfz8_4 := blk_frozen BK510.out 4
            have hfz8_5 := blk_frozen BK510.out 5
            have p514 : 0 ≤ (x4_1 : Int) := of_decide_eq_true (by first | (with_reducible assumption) | assumption)
            have q514 : x4_1 < (l0_1.length : Int) := of_decide_eq_true (by first | (with_reducible assumption) | assumption)
            obtain ⟨ad514, e514, hx514_0, hx514_1⟩ := at_T89 HR0_1.out x4_1 p514 q514
            cases e514
            replace hx514_0 := (HB.out.cell (World.block_lt_of_cell? w _ hx514_0)).trans hx514_0
            replace hx514_1 := (HB.out.cell (World.block_lt_of_cell? w _ hx514_1)).trans hx514_1
            replace p514 := eq_true p514
            replace q514 := eq_true q514
            go_wp2_with (first | ((with_reducible refine gate_builtin (b := .append) (xs := #[.tmp 16, .tmp 23]) rfl ?_); at_builtin; refine Kd.R_append Kd.string (w0 := w) w.heap.size rfl (.tmp 16) (.tmp 23) 63 9 (.string ⟨#[]⟩) 16 rfl Try.underlying63 info9 rfl (by decide) (by omega) u3 x3_1 ((rd_T89 l0_1 x4_1).f0) [.string ((rd_T89 l0_1 x4_1).f0)] (fun _ => True) (fun _ => False) rfl rfl ?aP (fun _ hk => hk.elim) ?aF ?aO ?aB ?aS ?aL ?_; (case aP => exact rfl); (case aB => exact (by repeat (first | (with_reducible first | exact HB.out | apply below_alloc | apply pw_below_drewN | apply below_drew1 | refine below_set ?_ GE510.out) | exact HB.out))); (case aF => exact (fun _ _ => trivial)); (case aO => exact (by (with_reducible repeat (first | apply Kd.R_alloc | apply Kd.R_drewN | apply Kd.R_drew)); exact HO_3.out)); (case aS => exact (below_size (by repeat (first | (with_reducible first | exact HB.out | apply below_alloc | apply pw_below_drewN | apply below_drew1 | refine below_set ?_ GE510.out) | exact HB.out)))); (case aL => have := LMc7.out; omega); intro v516 w9 ho hb hg hat; rw [← Ny515.out] at ho; have n0_ := Aside0.mk (blk_grown (g := gb510) (o := .cells #[.slice A0_0 l0_0.length c0_0, .slice (some ad514) l0_1.length c0_1, .slice A0_2 l0_2.length c0_2, .slice A0_3 l0_3.length c0_3, .slice A0_4 l0_4.length c0_4, .int .i64 a0_5] 43 (0, 0)) (by (with_reducible repeat (first | refine blk_drewN ?_ _ | refine blk_drew ?_ | refine blk_alloc ?_ _)); exact BK510.out) hg (Kd.R_ne HO_3.out BK510.out (by decide))); have n1_ := Aside0.mk (hb); have n2_ := Aside0.mk (ho); clear BK510; clear HB; clear HO_3; have BK510 := n0_; have HB := n1_; have HO517 := n2_; clear n0_ n1_ n2_; clear ho hb hg hat))
            go_roundg k1
            case measure => have := HK1.out; omega
            case rel => exact ⟨(y515), (wrap64 (x4_1 + 1)), (by first | rfl | (simp; done) | (simp [*]; done)), H', ⟨by have := HK1.out; omega⟩, ⟨by (with_reducible repeat (first | apply Kd.R_alloc | apply Kd.R_drewN | apply Kd.R_drew)); exact HO517.out⟩, ⟨by (with_reducible repeat (first | refine blk_drewN ?_ _ | refine blk_drew ?_ | refine blk_alloc ?_ _)); exact BK510.out⟩, ⟨by repeat (first | (with_reducible first | exact HB.out | apply below_alloc | apply pw_below_drewN | apply below_drew1 | refine below_set ?_ GE510.out) | exact HB.out)⟩⟩
          · rw [if_neg c7] at H
            exact absurd H (by simp)
        · rw [if_neg c6] at H
          exact absurd H (by simp)
      · rw [if_neg c5] at H
        have c5b0 : decide (x4_1 < (l0_1.length : Int)) = false := decide_eq_false c5
        clear c5
        have H' := Aside0.mk H
        clear H
        have hcz10_0 : wr.cell? ⟨gb510, 0, none⟩ = some (.slice A0_0 l0_0.length c0_0) := (blk_cell BK510.out 0).trans rfl
        have hcz10_1 : wr.cell? ⟨gb510, 1, none⟩ = some (.slice A0_1 l0_1.length c0_1) := (blk_cell BK510.out 1).trans rfl
        have hcz10_2 : wr.cell? ⟨gb510, 2, none⟩ = some (.slice A0_2 l0_2.length c0_2) := (blk_cell BK510.out 2).trans rfl
        have hcz10_3 : wr.cell? ⟨gb510, 3, none⟩ = some (.slice A0_3 l0_3.length c0_3) := (blk_cell BK510.out 3).trans rfl
        have hcz10_4 : wr.cell? ⟨gb510, 4, none⟩ = some (.slice A0_4 l0_4.length c0_4) := (blk_cell BK510.out 4).trans rfl
        have hcz10_5 : wr.cell? ⟨gb510, 5, none⟩ = some (.int .i64 a0_5) := (blk_cell BK510.out 5).trans rfl
        have hfz10_0 := blk_frozen BK510.out 0
        have hfz10_1 := blk_frozen BK510.out 1
        have hfz10_2 := blk_frozen BK510.out 2
        have hfz10_3 := blk_frozen BK510.out 3
        have hfz10_4 := blk_frozen BK510.out 4
        have hfz10_5 := blk_frozen BK510.out 5
        go_wp2
        go_loopg [3, 5] k1 (fun kq v3 v5 w' => ∃ (x3_2 : List ByteArray) (x5_2 : Int), v5 = .int .i64 x5_2 ∧ Aside0 (spec_l06All.l1 kq x3_2 x5_2 l0_0 l0_1 l0_2 l0_3 l0_4 a0_5 = some r) ∧ Aside0 (kq ≤ k1) ∧ Aside0 (Kd.R Kd.string 9 w' w.heap.size (fun _ => True) v3 x3_2) ∧ Aside0 (w'.heap[gb510]? = some (.cells #[(.slice A0_0 l0_0.length c0_0), (.slice A0_1 l0_1.length c0_1), (.slice A0_2 l0_2.length c0_2), (.slice A0_3 l0_3.length c0_3), (.slice A0_4 l0_4.length c0_4), .int .i64 a0_5] 43 (0, 0))) ∧ Aside0 (Below w.heap.size w w'))
        case atStart => exact ⟨(x3_1), (0), (by first | rfl | (simp; done) | (simp [*]; done)), H', ⟨Nat.le_refl _⟩, ⟨by (with_reducible repeat (first | apply Kd.R_alloc | apply Kd.R_drewN | apply Kd.R_drew)); exact HO_3.out⟩, ⟨by (with_reducible repeat (first | refine blk_drewN ?_ _ | refine blk_drew ?_ | refine blk_alloc ?_ _)); exact BK510.out⟩, ⟨by repeat (first | (with_reducible first | exact HB.out | apply below_alloc | apply pw_below_drewN | apply below_drew1 | refine below_set ?_ GE510.out) | exact HB.out)⟩⟩
        case round =>
          clear H'
          try clear p2
          try clear c5
          try clear c5b0
          try clear p5
          try clear q5
          try clear hx5
          try clear c6
          try clear c6b0
          try clear p6
          try clear c7
          try clear hcz10_0
          try clear hcz10_1
          try clear hcz10_2
          try clear hcz10_3
          try clear hcz10_4
          try clear hcz10_5
          try clear hcz8_0
          try clear hcz8_1
          try clear hcz8_2
          try clear hcz8_3
          try clear hcz8_4
          try clear hcz8_5
          try clear hfz10_0
          try clear hfz10_1
          try clear hfz10_2
          try clear hfz10_3
          try clear hfz10_4
          try clear hfz10_5
          try clear hfz8_0
          try clear hfz8_1
          try clear hfz8_2
          try clear hfz8_3
          try clear hfz8_4
          try clear hfz8_5
          try clear hx514_0
          try clear hx514_1
          try clear p2
          try clear p514
          try clear q514
          obtain ⟨x3_2, x5_2, rfl, HA, HK2, HO_3, BK510, HB⟩ := hrel
          cases gk with
          | zero => exact absurd HA.out (by simp [spec_l06All.l1])
          | succ k2 =>
            have H := HA.out
            clear HA
            simp only [spec_l06All.l1] at H
            by_cases c11 : x5_2 < (l0_2.length : Int)
            · rw [if_pos c11] at H
              have c11b0 : decide (x5_2 < (l0_2.length : Int)) = true := decide_eq_true c11
              clear c11
              by_cases c12 : 0 ≤ x5_2
              · rw [if_pos c12] at H
                have c12b0 : decide (0 ≤ x5_2) = true := decide_eq_true c12
                clear c12
                by_cases c13 : x3_2.length < 8796093022208
                · rw [if_pos c13] at H
                  have LMc13 := Aside0.mk c13
                  clear c13
                  obtain ⟨y519, hy519⟩ : ∃ y_ : List ByteArray, y_ = (x3_2 ++ [(rd_T31 l0_2 x5_2).f0]) := ⟨_, rfl⟩
                  replace H : (spec_l06All.l1 k2 y519 (wrap64 (x5_2 + 1)) l0_0 l0_1 l0_2 l0_3 l0_4 a0_5) = some r := by first | (rw [hy519]; with_reducible exact H) | (have H2_ := (Option.bind_some _ _).symm.trans H; rw [hy519]; with_reducible exact H2_) | (have H2_ := (Option.bind_some _ _).symm.trans H; with_reducible exact H2_) | with_reducible exact H | (rw [hy519]; exact H) | exact H
                  have Ny519 := Aside0.mk hy519
                  clear hy519
                  have H' := Aside0.mk H
                  clear H
                  have hcz14_0 : wr.cell? ⟨gb510, 0, none⟩ = some (.slice A0_0 l0_0.length c0_0) := (blk_cell BK510.out 0).trans rfl
                  have hcz14_1 : wr.cell? ⟨gb510, 1, none⟩ = some (.slice A0_1 l0_1.length c0_1) := (blk_cell BK510.out 1).trans rfl
                  have hcz14_2 : wr.cell? ⟨gb510, 2, none⟩ = some (.slice A0_2 l0_2.length c0_2) := (blk_cell BK510.out 2).trans rfl
                  have hcz14_3 : wr.cell? ⟨gb510, 3, none⟩ = some (.slice A0_3 l0_3.length c0_3) := (blk_cell BK510.out 3).trans rfl
                  have hcz14_4 : wr.cell? ⟨gb510, 4, none⟩ = some (.slice A0_4 l0_4.length c0_4) := (blk_cell BK510.out 4).trans rfl
                  have hcz14_5 : wr.cell? ⟨gb510, 5, none⟩ = some (.int .i64 a0_5) := (blk_cell BK510.out 5).trans rfl
                  have hfz14_0 := blk_frozen BK510.out 0
                  have hfz14_1 := blk_frozen BK510.out 1
                  have hfz14_2 := blk_frozen BK510.out 2
                  have hfz14_3 := blk_frozen BK510.out 3
                  have hfz14_4 := blk_frozen BK510.out 4
                  have hfz14_5 := blk_frozen BK510.out 5
                  have p518 : 0 ≤ (x5_2 : Int) := of_decide_eq_true (by first | (with_reducible assumption) | assumption)
                  have q518 : x5_2 < (l0_2.length : Int) := of_decide_eq_true (by first | (with_reducible assumption) | assumption)
                  obtain ⟨ad518, A518_1, c518_1, A518_2, c518_2, e518, hx518_0, hx518_1, hx518_2, hx518_3, hl518_1, hi518_1, hl518_2, hi518_2⟩ := at_T31 HR0_2.out x5_2 p518 q518
                  cases e518
                  replace hx518_0 := (HB.out.cell (World.block_lt_of_cell? w _ hx518_0)).trans hx518_0
                  replace hx518_1 := (HB.out.cell (World.block_lt_of_cell? w _ hx518_1)).trans hx518_1
                  replace hx518_2 := (HB.out.cell (World.block_lt_of_cell? w _ hx518_2)).trans hx518_2
                  replace hx518_3 := (HB.out.cell (World.block_lt_of_cell? w _ hx518_3)).trans hx518_3
                  have HR518_1 := Aside0.mk hi518_1
                  have HC518_1 := Aside0.mk hl518_1
                  clear hi518_1 hl518_1
                  have HR518_2 := Aside0.mk hi518_2
                  have HC518_2 := Aside0.mk hl518_2
                  clear hi518_2 hl518_2
                  replace p518 := eq_true p518
                  replace q518 := eq_true q518
                  go_wp2_with (first | ((with_reducible refine gate_builtin (b := .append) (xs := #[.tmp 32, .tmp 39]) rfl ?_); at_builtin; refine Kd.R_append Kd.string (w0 := w) w.heap.size rfl (.tmp 32) (.tmp 39) 63 9 (.string ⟨#[]⟩) 16 rfl Try.underlying63 info9 rfl (by decide) (by omega) u3 x3_2 ((rd_T31 l0_2 x5_2).f0) [.string ((rd_T31 l0_2 x5_2).f0)] (fun _ => True) (fun _ => False) rfl rfl ?aP (fun _ hk => hk.elim) ?aF ?aO ?aB ?aS ?aL ?_; (case aP => exact rfl); (case aB => exact (by repeat (first | (with_reducible first | exact HB.out | apply below_alloc | apply pw_below_drewN | apply below_drew1 | refine below_set ?_ GE510.out) | exact HB.out))); (case aF => exact (fun _ _ => trivial)); (case aO => exact (by (with_reducible repeat (first | apply Kd.R_alloc | apply Kd.R_drewN | apply Kd.R_drew)); exact HO_3.out)); (case aS => exact (below_size (by repeat (first | (with_reducible first | exact HB.out | apply below_alloc | apply pw_below_drewN | apply below_drew1 | refine below_set ?_ GE510.out) | exact HB.out)))); (case aL => have := LMc13.out; omega); intro v520 w15 ho hb hg hat; rw [← Ny519.out] at ho; have n0_ := Aside0.mk (blk_grown (g := gb510) (o := .cells #[.slice A0_0 l0_0.length c0_0, .slice A0_1 l0_1.length c0_1, .slice (some ad518) l0_2.length c0_2, .slice A0_3 l0_3.length c0_3, .slice A0_4 l0_4.length c0_4, .int .i64 a0_5] 43 (0, 0)) (by (with_reducible repeat (first | refine blk_drewN ?_ _ | refine blk_drew ?_ | refine blk_alloc ?_ _)); exact BK510.out) hg (Kd.R_ne HO_3.out BK510.out (by decide))); have n1_ := Aside0.mk (hb); have n2_ := Aside0.mk (ho); clear BK510; clear HB; clear HO_3; have BK510 := n0_; have HB := n1_; have HO521 := n2_; clear n0_ n1_ n2_; clear ho hb hg hat))
                  go_roundg k2
                  case measure => have := HK1.out; have := HK2.out; omega
                  case rel => exact ⟨(y519), (wrap64 (x5_2 + 1)), (by first | rfl | (simp; done) | (simp [*]; done)), H', ⟨by have := HK1.out; have := HK2.out; omega⟩, ⟨by (with_reducible repeat (first | apply Kd.R_alloc | apply Kd.R_drewN | apply Kd.R_drew)); exact HO521.out⟩, ⟨by (with_reducible repeat (first | refine blk_drewN ?_ _ | refine blk_drew ?_ | refine blk_alloc ?_ _)); exact BK510.out⟩, ⟨by repeat (first | (with_reducible first | exact HB.out | apply below_alloc | apply pw_below_drewN | apply below_drew1 | refine below_set ?_ GE510.out) | exact HB.out)⟩⟩
                · rw [if_neg c13] at H
                  exact absurd H (by simp)
              · rw [if_neg c12] at H
                exact absurd H (by simp)
            · rw [if_neg c11] at H
              have c11b0 : decide (x5_2 < (l0_2.length : Int)) = false := decide_eq_false c11
              clear c11
              have H' := Aside0.mk H
              clear H
              have hcz16_0 : wr.cell? ⟨gb510, 0, none⟩ = some (.slice A0_0 l0_0.length c0_0) := (blk_cell BK510.out 0).trans rfl
              have hcz16_1 : wr.cell? ⟨gb510, 1, none⟩ = some (.slice A0_1 l0_1.length c0_1) := (blk_cell BK510.out 1).trans rfl
              have hcz16_2 : wr.cell? ⟨gb510, 2, none⟩ = some (.slice A0_2 l0_2.length c0_2) := (blk_cell BK510.out 2).trans rfl
              have hcz16_3 : wr.cell? ⟨gb510, 3, none⟩ = some (.slice A0_3 l0_3.length c0_3) := (blk_cell BK510.out 3).trans rfl
              have hcz16_4 : wr.cell? ⟨gb510, 4, none⟩ = some (.slice A0_4 l0_4.length c0_4) := (blk_cell BK510.out 4).trans rfl
              have hcz16_5 : wr.cell? ⟨gb510, 5, none⟩ = some (.int .i64 a0_5) := (blk_cell BK510.out 5).trans rfl
              have hfz16_0 := blk_frozen BK510.out 0
              have hfz16_1 := blk_frozen BK510.out 1
              have hfz16_2 := blk_frozen BK510.out 2
              have hfz16_3 := blk_frozen BK510.out 3
              have hfz16_4 := blk_frozen BK510.out 4
              have hfz16_5 := blk_frozen BK510.out 5
              go_wp2
              go_loopg [3, 6] k2 (fun kq v3 v6 w' => ∃ (x3_3 : List ByteArray) (x6_3 : Int), v6 = .int .i64 x6_3 ∧ Aside0 (spec_l06All.l2 kq x3_3 x6_3 l0_0 l0_1 l0_2 l0_3 l0_4 a0_5 = some r) ∧ Aside0 (kq ≤ k2) ∧ Aside0 (Kd.R Kd.string 9 w' w.heap.size (fun _ => True) v3 x3_3) ∧ Aside0 (w'.heap[gb510]? = some (.cells #[(.slice A0_0 l0_0.length c0_0), (.slice A0_1 l0_1.length c0_1), (.slice A0_2 l0_2.length c0_2), (.slice A0_3 l0_3.length c0_3), (.slice A0_4 l0_4.length c0_4), .int .i64 a0_5] 43 (0, 0))) ∧ Aside0 (Below w.heap.size w w'))
              case atStart => exact ⟨(x3_2), (0), (by first | rfl | (simp; done) | (simp [*]; done)), H', ⟨Nat.le_refl _⟩, ⟨by (with_reducible repeat (first | apply Kd.R_alloc | apply Kd.R_drewN | apply Kd.R_drew)); exact HO_3.out⟩, ⟨by (with_reducible repeat (first | refine blk_drewN ?_ _ | refine blk_drew ?_ | refine blk_alloc ?_ _)); exact BK510.out⟩, ⟨by repeat (first | (with_reducible first | exact HB.out | apply below_alloc | apply pw_below_drewN | apply below_drew1 | refine below_set ?_ GE510.out) | exact HB.out)⟩⟩
              case round =>
                clear H'
                try clear c1
                try clear p2
                try clear c5
                try clear c5b0
                try clear p5
                try clear q5
                try clear hx5
                try clear c6
                try clear c6b0
                try clear p6
                try clear c7
                try clear c11
                try clear c11b0
                try clear c12
                try clear c12b0
                try clear c13
                try clear hcz10_0
                try clear hcz10_1
                try clear hcz10_2
                try clear hcz10_3
                try clear hcz10_4
                try clear hcz10_5
                try clear hcz14_0
                try clear hcz14_1
                try clear hcz14_2
                try clear hcz14_3
                try clear hcz14_4
                try clear hcz14_5
                try clear hcz16_0
                try clear hcz16_1
                try clear hcz16_2
                try clear hcz16_3
                try clear hcz16_4
                try clear hcz16_5
                try clear hcz8_0
                try clear hcz8_1
                try clear hcz8_2
                try clear hcz8_3
                try clear hcz8_4
                try clear hcz8_5
                try clear hfz10_0
                try clear hfz10_1
                try clear hfz10_2
                try clear hfz10_3
                try clear hfz10_4
                try clear hfz10_5
                try clear hfz14_0
                try clear hfz14_1
                try clear hfz14_2
                try clear hfz14_3
                try clear hfz14_4
                try clear hfz14_5
                try clear hfz16_0
                try clear hfz16_1
                try clear hfz16_2
                try clear hfz16_3
                try clear hfz16_4
                try clear hfz16_5
                try clear hfz8_0
                try clear hfz8_1
                try clear hfz8_2
                try clear hfz8_3
                try clear hfz8_4
                try clear hfz8_5
                try clear hx514_0
                try clear hx514_1
                try clear hx518_0
                try clear hx518_1
                try clear hx518_2
                try clear hx518_3
                try clear p2
                try clear p5
                try clear p514
                try clear p518
                try clear p6
                try clear q5
                try clear q514
                try clear q518
                obtain ⟨x3_3, x6_3, rfl, HA, HK3, HO_3, BK510, HB⟩ := hrel
                cases gk with
                | zero => exact absurd HA.out (by simp [spec_l06All.l2])
                | succ k3 =>
                  have H := HA.out
                  clear HA
                  simp only [spec_l06All.l2] at H
                  by_cases c17 : x6_3 < (l0_3.length : Int)
                  · rw [if_pos c17] at H
                    have c17b0 : decide (x6_3 < (l0_3.length : Int)) = true := decide_eq_true c17
                    clear c17
                    by_cases c18 : 0 ≤ x6_3
                    · rw [if_pos c18] at H
                      have c18b0 : decide (0 ≤ x6_3) = true := decide_eq_true c18
                      clear c18
                      by_cases c19 : x3_3.length < 8796093022208
                      · rw [if_pos c19] at H
                        have LMc19 := Aside0.mk c19
                        clear c19
                        obtain ⟨y523, hy523⟩ : ∃ y_ : List ByteArray, y_ = (x3_3 ++ [(rd_T93 l0_3 x6_3).f0]) := ⟨_, rfl⟩
                        replace H : (spec_l06All.l2 k3 y523 (wrap64 (x6_3 + 1)) l0_0 l0_1 l0_2 l0_3 l0_4 a0_5) = some r := by first | (rw [hy523]; with_reducible exact H) | (have H2_ := (Option.bind_some _ _).symm.trans H; rw [hy523]; with_reducible exact H2_) | (have H2_ := (Option.bind_some _ _).symm.trans H; with_reducible exact H2_) | with_reducible exact H | (rw [hy523]; exact H) | exact H
                        have Ny523 := Aside0.mk hy523
                        clear hy523
                        have H' := Aside0.mk H
                        clear H
                        have hcz20_0 : wr.cell? ⟨gb510, 0, none⟩ = some (.slice A0_0 l0_0.length c0_0) := (blk_cell BK510.out 0).trans rfl
                        have hcz20_1 : wr.cell? ⟨gb510, 1, none⟩ = some (.slice A0_1 l0_1.length c0_1) := (blk_cell BK510.out 1).trans rfl
                        have hcz20_2 : wr.cell? ⟨gb510, 2, none⟩ = some (.slice A0_2 l0_2.length c0_2) := (blk_cell BK510.out 2).trans rfl
                        have hcz20_3 : wr.cell? ⟨gb510, 3, none⟩ = some (.slice A0_3 l0_3.length c0_3) := (blk_cell BK510.out 3).trans rfl
                        have hcz20_4 : wr.cell? ⟨gb510, 4, none⟩ = some (.slice A0_4 l0_4.length c0_4) := (blk_cell BK510.out 4).trans rfl
                        have hcz20_5 : wr.cell? ⟨gb510, 5, none⟩ = some (.int .i64 a0_5) := (blk_cell BK510.out 5).trans rfl
                        have hfz20_0 := blk_frozen BK510.out 0
                        have hfz20_1 := blk_frozen BK510.out 1
                        have hfz20_2 := blk_frozen BK510.out 2
                        have hfz20_3 := blk_frozen BK510.out 3
                        have hfz20_4 := blk_frozen BK510.out 4
                        have hfz20_5 := blk_frozen BK510.out 5
                        have p522 : 0 ≤ (x6_3 : Int) := of_decide_eq_true (by first | (with_reducible assumption) | assumption)
                        have q522 : x6_3 < (l0_3.length : Int) := of_decide_eq_true (by first | (with_reducible assumption) | assumption)
                        obtain ⟨ad522, A522_2, c522_2, e522, hx522_0, hx522_1, hx522_2, hx522_3, hl522_2, hi522_2⟩ := at_T93 HR0_3.out x6_3 p522 q522
                        cases e522
                        replace hx522_0 := (HB.out.cell (World.block_lt_of_cell? w _ hx522_0)).trans hx522_0
                        replace hx522_1 := (HB.out.cell (World.block_lt_of_cell? w _ hx522_1)).trans hx522_1
                        replace hx522_2 := (HB.out.cell (World.block_lt_of_cell? w _ hx522_2)).trans hx522_2
                        replace hx522_3 := (HB.out.cell (World.block_lt_of_cell? w _ hx522_3)).trans hx522_3
                        have HR522_2 := Aside0.mk hi522_2
                        have HC522_2 := Aside0.mk hl522_2
                        clear hi522_2 hl522_2
                        replace p522 := eq_true p522
                        replace q522 := eq_true q522
                        go_wp2_with (first | ((with_reducible refine gate_builtin (b := .append) (xs := #[.tmp 48, .tmp 55]) rfl ?_); at_builtin; refine Kd.R_append Kd.string (w0 := w) w.heap.size rfl (.tmp 48) (.tmp 55) 63 9 (.string ⟨#[]⟩) 16 rfl Try.underlying63 info9 rfl (by decide) (by omega) u3 x3_3 ((rd_T93 l0_3 x6_3).f0) [.string ((rd_T93 l0_3 x6_3).f0)] (fun _ => True) (fun _ => False) rfl rfl ?aP (fun _ hk => hk.elim) ?aF ?aO ?aB ?aS ?aL ?_; (case aP => exact rfl); (case aB => exact (by repeat (first | (with_reducible first | exact HB.out | apply below_alloc | apply pw_below_drewN | apply below_drew1 | refine below_set ?_ GE510.out) | exact HB.out))); (case aF => exact (fun _ _ => trivial)); (case aO => exact (by (with_reducible repeat (first | apply Kd.R_alloc | apply Kd.R_drewN | apply Kd.R_drew)); exact HO_3.out)); (case aS => exact (below_size (by repeat (first | (with_reducible first | exact HB.out | apply below_alloc | apply pw_below_drewN | apply below_drew1 | refine below_set ?_ GE510.out) | exact HB.out)))); (case aL => have := LMc19.out; omega); intro v524 w21 ho hb hg hat; rw [← Ny523.out] at ho; have n0_ := Aside0.mk (blk_grown (g := gb510) (o := .cells #[.slice A0_0 l0_0.length c0_0, .slice A0_1 l0_1.length c0_1, .slice A0_2 l0_2.length c0_2, .slice (some ad522) l0_3.length c0_3, .slice A0_4 l0_4.length c0_4, .int .i64 a0_5] 43 (0, 0)) (by (with_reducible repeat (first | refine blk_drewN ?_ _ | refine blk_drew ?_ | refine blk_alloc ?_ _)); exact BK510.out) hg (Kd.R_ne HO_3.out BK510.out (by decide))); have n1_ := Aside0.mk (hb); have n2_ := Aside0.mk (ho); clear BK510; clear HB; clear HO_3; have BK510 := n0_; have HB := n1_; have HO525 := n2_; clear n0_ n1_ n2_; clear ho hb hg hat))
                        go_roundg k3
                        case measure => have := HK1.out; have := HK2.out; have := HK3.out; omega
                        case rel => exact ⟨(y523), (wrap64 (x6_3 + 1)), (by first | rfl | (simp; done) | (simp [*]; done)), H', ⟨by have := HK1.out; have := HK2.out; have := HK3.out; omega⟩, ⟨by (with_reducible repeat (first | apply Kd.R_alloc | apply Kd.R_drewN | apply Kd.R_drew)); exact HO525.out⟩, ⟨by (with_reducible repeat (first | refine blk_drewN ?_ _ | refine blk_drew ?_ | refine blk_alloc ?_ _)); exact BK510.out⟩, ⟨by repeat (first | (with_reducible first | exact HB.out | apply below_alloc | apply pw_below_drewN | apply below_drew1 | refine below_set ?_ GE510.out) | exact HB.out)⟩⟩
                      · rw [if_neg c19] at H
                        exact absurd H (by simp)
                    · rw [if_neg c18] at H
                      exact absurd H (by simp)
                  · rw [if_neg c17] at H
                    have c17b0 : decide (x6_3 < (l0_3.length : Int)) = false := decide_eq_false c17
                    clear c17
                    have H' := Aside0.mk H
                    clear H
                    have hcz22_0 : wr.cell? ⟨gb510, 0, none⟩ = some (.slice A0_0 l0_0.length c0_0) := (blk_cell BK510.out 0).trans rfl
                    have hcz22_1 : wr.cell? ⟨gb510, 1, none⟩ = some (.slice A0_1 l0_1.length c0_1) := (blk_cell BK510.out 1).trans rfl
                    have hcz22_2 : wr.cell? ⟨gb510, 2, none⟩ = some (.slice A0_2 l0_2.length c0_2) := (blk_cell BK510.out 2).trans rfl
                    have hcz22_3 : wr.cell? ⟨gb510, 3, none⟩ = some (.slice A0_3 l0_3.length c0_3) := (blk_cell BK510.out 3).trans rfl
                    have hcz22_4 : wr.cell? ⟨gb510, 4, none⟩ = some (.slice A0_4 l0_4.length c0_4) := (blk_cell BK510.out 4).trans rfl
                    have hcz22_5 : wr.cell? ⟨gb510, 5, none⟩ = some (.int .i64 a0_5) := (blk_cell BK510.out 5).trans rfl
                    have hfz22_0 := blk_frozen BK510.out 0
                    have hfz22_1 := blk_frozen BK510.out 1
                    have hfz22_2 := blk_frozen BK510.out 2
                    have hfz22_3 := blk_frozen BK510.out 3
                    have hfz22_4 := blk_frozen BK510.out 4
                    have hfz22_5 := blk_frozen BK510.out 5
                    go_wp2
                    go_loopg [3, 7] k3 (fun kq v3 v7 w' => ∃ (x3_4 : List ByteArray) (x7_4 : Int), v7 = .int .i64 x7_4 ∧ Aside0 (spec_l06All.l3 kq x3_4 x7_4 l0_0 l0_1 l0_2 l0_3 l0_4 a0_5 = some r) ∧ Aside0 (kq ≤ k3) ∧ Aside0 (Kd.R Kd.string 9 w' w.heap.size (fun _ => True) v3 x3_4) ∧ Aside0 (w'.heap[gb510]? = some (.cells #[(.slice A0_0 l0_0.length c0_0), (.slice A0_1 l0_1.length c0_1), (.slice A0_2 l0_2.length c0_2), (.slice A0_3 l0_3.length c0_3), (.slice A0_4 l0_4.length c0_4), .int .i64 a0_5] 43 (0, 0))) ∧ Aside0 (Below w.heap.size w w'))
                    case atStart => exact ⟨(x3_3), (0), (by first | rfl | (simp; done) | (simp [*]; done)), H', ⟨Nat.le_refl _⟩, ⟨by (with_reducible repeat (first | apply Kd.R_alloc | apply Kd.R_drewN | apply Kd.R_drew)); exact HO_3.out⟩, ⟨by (with_reducible repeat (first | refine blk_drewN ?_ _ | refine blk_drew ?_ | refine blk_alloc ?_ _)); exact BK510.out⟩, ⟨by repeat (first | (with_reducible first | exact HB.out | apply below_alloc | apply pw_below_drewN | apply below_drew1 | refine below_set ?_ GE510.out) | exact HB.out)⟩⟩
                    case round =>
                      clear H'
                      try clear c1
                      try clear p2
                      try clear c5
                      try clear c5b0
                      try clear p5
                      try clear q5
                      try clear hx5
                      try clear c6
                      try clear c6b0
                      try clear p6
                      try clear c7
                      try clear c11
                      try clear c11b0
                      try clear c12
                      try clear c12b0
                      try clear c13
                      try clear c17
                      try clear c17b0
                      try clear c18
                      try clear c18b0
                      try clear c19
                      try clear hcz10_0
                      try clear hcz10_1
                      try clear hcz10_2
                      try clear hcz10_3
                      try clear hcz10_4
                      try clear hcz10_5
                      try clear hcz14_0
                      try clear hcz14_1
                      try clear hcz14_2
                      try clear hcz14_3
                      try clear hcz14_4
                      try clear hcz14_5
                      try clear hcz16_0
                      try clear hcz16_1
                      try clear hcz16_2
                      try clear hcz16_3
                      try clear hcz16_4
                      try clear hcz16_5
                      try clear hcz20_0
                      try clear hcz20_1
                      try clear hcz20_2
                      try clear hcz20_3
                      try clear hcz20_4
                      try clear hcz20_5
                      try clear hcz22_0
                      try clear hcz22_1
                      try clear hcz22_2
                      try clear hcz22_3
                      try clear hcz22_4
                      try clear hcz22_5
                      try clear hcz8_0
                      try clear hcz8_1
                      try clear hcz8_2
                      try clear hcz8_3
                      try clear hcz8_4
                      try clear hcz8_5
                      try clear hfz10_0
                      try clear hfz10_1
                      try clear hfz10_2
                      try clear hfz10_3
                      try clear hfz10_4
                      try clear hfz10_5
                      try clear hfz14_0
                      try clear hfz14_1
                      try clear hfz14_2
                      try clear hfz14_3
                      try clear hfz14_4
                      try clear hfz14_5
                      try clear hfz16_0
                      try clear hfz16_1
                      try clear hfz16_2
                      try clear hfz16_3
                      try clear hfz16_4
                      try clear hfz16_5
                      try clear hfz20_0
                      try clear hfz20_1
                      try clear hfz20_2
                      try clear hfz20_3
                      try clear hfz20_4
                      try clear hfz20_5
                      try clear hfz22_0
                      try clear hfz22_1
                      try clear hfz22_2
                      try clear hfz22_3
                      try clear hfz22_4
                      try clear hfz22_5
                      try clear hfz8_0
                      try clear hfz8_1
                      try clear hfz8_2
                      try clear hfz8_3
                      try clear hfz8_4
                      try clear hfz8_5
                      try clear hx514_0
                      try clear hx514_1
                      try clear hx518_0
                      try clear hx518_1
                      try clear hx518_2
                      try clear hx518_3
                      try clear hx522_0
                      try clear hx522_1
                      try clear hx522_2
                      try clear hx522_3
                      try clear p2
                      try clear p5
                      try clear p514
                      try clear p518
                      try clear p522
                      try clear p6
                      try clear q5
                      try clear q514
                      try clear q518
                      try clear q522
                      obtain ⟨x3_4, x7_4, rfl, HA, HK4, HO_3, BK510, HB⟩ := hrel
                      cases gk with
                      | zero => exact absurd HA.out (by simp [spec_l06All.l3])
                      | succ k4 =>
                        have H := HA.out
                        clear HA
                        simp only [spec_l06All.l3] at H
                        by_cases c23 : x7_4 < (l0_4.length : Int)
                        · rw [if_pos c23] at H
                          have c23b0 : decide (x7_4 < (l0_4.length : Int)) = true := decide_eq_true c23
                          clear c23
                          by_cases c24 : 0 ≤ x7_4
                          · rw [if_pos c24] at H
                            have c24b0 : decide (0 ≤ x7_4) = true := decide_eq_true c24
                            clear c24
                            by_cases c25 : x3_4.length < 8796093022208
                            · rw [if_pos c25] at H
                              have LMc25 := Aside0.mk c25
                              clear c25
                              obtain ⟨y527, hy527⟩ : ∃ y_ : List ByteArray, y_ = (x3_4 ++ [(rd_T97 l0_4 x7_4).f0]) := ⟨_, rfl⟩
                              replace H : (spec_l06All.l3 k4 y527 (wrap64 (x7_4 + 1)) l0_0 l0_1 l0_2 l0_3 l0_4 a0_5) = some r := by first | (rw [hy527]; with_reducible exact H) | (have H2_ := (Option.bind_some _ _).symm.trans H; rw [hy527]; with_reducible exact H2_) | (have H2_ := (Option.bind_some _ _).symm.trans H; with_reducible exact H2_) | with_reducible exact H | (rw [hy527]; exact H) | exact H
                              have Ny527 := Aside0.mk hy527
                              clear hy527
                              have H' := Aside0.mk H
                              clear H
                              have hcz26_0 : wr.cell? ⟨gb510, 0, none⟩ = some (.slice A0_0 l0_0.length c0_0) := (blk_cell BK510.out 0).trans rfl
                              have hcz26_1 : wr.cell? ⟨gb510, 1, none⟩ = some (.slice A0_1 l0_1.length c0_1) := (blk_cell BK510.out 1).trans rfl
                              have hcz26_2 : wr.cell? ⟨gb510, 2, none⟩ = some (.slice A0_2 l0_2.length c0_2) := (blk_cell BK510.out 2).trans rfl
                              have hcz26_3 : wr.cell? ⟨gb510, 3, none⟩ = some (.slice A0_3 l0_3.length c0_3) := (blk_cell BK510.out 3).trans rfl
                              have hcz26_4 : wr.cell? ⟨gb510, 4, none⟩ = some (.slice A0_4 l0_4.length c0_4) := (blk_cell BK510.out 4).trans rfl
                              have hcz26_5 : wr.cell? ⟨gb510, 5, none⟩ = some (.int .i64 a0_5) := (blk_cell BK510.out 5).trans rfl
                              have hfz26_0 := blk_frozen BK510.out 0
                              have hfz26_1 := blk_frozen BK510.out 1
                              have hfz26_2 := blk_frozen BK510.out 2
                              have hfz26_3 := blk_frozen BK510.out 3
                              have hfz26_4 := blk_frozen BK510.out 4
                              have hfz26_5 := blk_frozen BK510.out 5
                              have p526 : 0 ≤ (x7_4 : Int) := of_decide_eq_true (by first | (with_reducible assumption) | assumption)
                              have q526 : x7_4 < (l0_4.length : Int) := of_decide_eq_true (by first | (with_reducible assumption) | assumption)
                              obtain ⟨ad526, A526_2, c526_2, A526_3, c526_3, e526, hx526_0, hx526_1, hx526_2, hx526_3, hl526_2, hi526_2, hl526_3, hi526_3⟩ := at_T97 HR0_4.out x7_4 p526 q526
                              cases e526
                              replace hx526_0 := (HB.out.cell (World.block_lt_of_cell? w _ hx526_0)).trans hx526_0
                              replace hx526_1 := (HB.out.cell (World.block_lt_of_cell? w _ hx526_1)).trans hx526_1
                              replace hx526_2 := (HB.out.cell (World.block_lt_of_cell? w _ hx526_2)).trans hx526_2
                              replace hx526_3 := (HB.out.cell (World.block_lt_of_cell? w _ hx526_3)).trans hx526_3
                              have HR526_2 := Aside0.mk hi526_2
                              have HC526_2 := Aside0.mk hl526_2
                              clear hi526_2 hl526_2
                              have HR526_3 := Aside0.mk hi526_3
                              have HC526_3 := Aside0.mk hl526_3
                              clear hi526_3 hl526_3
                              replace p526 := eq_true p526
                              replace q526 := eq_true q526
                              go_wp2_with (first | ((with_reducible refine gate_builtin (b := .append) (xs := #[.tmp 64, .tmp 71]) rfl ?_); at_builtin; refine Kd.R_append Kd.string (w0 := w) w.heap.size rfl (.tmp 64) (.tmp 71) 63 9 (.string ⟨#[]⟩) 16 rfl Try.underlying63 info9 rfl (by decide) (by omega) u3 x3_4 ((rd_T97 l0_4 x7_4).f0) [.string ((rd_T97 l0_4 x7_4).f0)] (fun _ => True) (fun _ => False) rfl rfl ?aP (fun _ hk => hk.elim) ?aF ?aO ?aB ?aS ?aL ?_; (case aP => exact rfl); (case aB => exact (by repeat (first | (with_reducible first | exact HB.out | apply below_alloc | apply pw_below_drewN | apply below_drew1 | refine below_set ?_ GE510.out) | exact HB.out))); (case aF => exact (fun _ _ => trivial)); (case aO => exact (by (with_reducible repeat (first | apply Kd.R_alloc | apply Kd.R_drewN | apply Kd.R_drew)); exact HO_3.out)); (case aS => exact (below_size (by repeat (first | (with_reducible first | exact HB.out | apply below_alloc | apply pw_below_drewN | apply below_drew1 | refine below_set ?_ GE510.out) | exact HB.out)))); (case aL => have := LMc25.out; omega); intro v528 w27 ho hb hg hat; rw [← Ny527.out] at ho; have n0_ := Aside0.mk (blk_grown (g := gb510) (o := .cells #[.slice A0_0 l0_0.length c0_0, .slice A0_1 l0_1.length c0_1, .slice A0_2 l0_2.length c0_2, .slice A0_3 l0_3.length c0_3, .slice (some ad526) l0_4.length c0_4, .int .i64 a0_5] 43 (0, 0)) (by (with_reducible repeat (first | refine blk_drewN ?_ _ | refine blk_drew ?_ | refine blk_alloc ?_ _)); exact BK510.out) hg (Kd.R_ne HO_3.out BK510.out (by decide))); have n1_ := Aside0.mk (hb); have n2_ := Aside0.mk (ho); clear BK510; clear HB; clear HO_3; have BK510 := n0_; have HB := n1_; have HO529 := n2_; clear n0_ n1_ n2_; clear ho hb hg hat))
                              go_roundg k4
                              case measure => have := HK1.out; have := HK2.out; have := HK3.out; have := HK4.out; omega
                              case rel => exact ⟨(y527), (wrap64 (x7_4 + 1)), (by first | rfl | (simp; done) | (simp [*]; done)), H', ⟨by have := HK1.out; have := HK2.out; have := HK3.out; have := HK4.out; omega⟩, ⟨by (with_reducible repeat (first | apply Kd.R_alloc | apply Kd.R_drewN | apply Kd.R_drew)); exact HO529.out⟩, ⟨by (with_reducible repeat (first | refine blk_drewN ?_ _ | refine blk_drew ?_ | refine blk_alloc ?_ _)); exact BK510.out⟩, ⟨by repeat (first | (with_reducible first | exact HB.out | apply below_alloc | apply pw_below_drewN | apply below_drew1 | refine below_set ?_ GE510.out) | exact HB.out)⟩⟩
                            · rw [if_neg c25] at H
                              exact absurd H (by simp)
                          · rw [if_neg c24] at H
                            exact absurd H (by simp)
                        · rw [if_neg c23] at H
                          have c23b0 : decide (x7_4 < (l0_4.length : Int)) = false := decide_eq_false c23
                          clear c23
                          obtain rfl := Option.some.inj H
                          have hcz28_0 : wr.cell? ⟨gb510, 0, none⟩ = some (.slice A0_0 l0_0.length c0_0) := (blk_cell BK510.out 0).trans rfl
                          have hcz28_1 : wr.cell? ⟨gb510, 1, none⟩ = some (.slice A0_1 l0_1.length c0_1) := (blk_cell BK510.out 1).trans rfl
                          have hcz28_2 : wr.cell? ⟨gb510, 2, none⟩ = some (.slice A0_2 l0_2.length c0_2) := (blk_cell BK510.out 2).trans rfl
                          have hcz28_3 : wr.cell? ⟨gb510, 3, none⟩ = some (.slice A0_3 l0_3.length c0_3) := (blk_cell BK510.out 3).trans rfl
                          have hcz28_4 : wr.cell? ⟨gb510, 4, none⟩ = some (.slice A0_4 l0_4.length c0_4) := (blk_cell BK510.out 4).trans rfl
                          have hcz28_5 : wr.cell? ⟨gb510, 5, none⟩ = some (.int .i64 a0_5) := (blk_cell BK510.out 5).trans rfl
                          have hfz28_0 := blk_frozen BK510.out 0
                          have hfz28_1 := blk_frozen BK510.out 1
                          have hfz28_2 := blk_frozen BK510.out 2
                          have hfz28_3 := blk_frozen BK510.out 3
                          have hfz28_4 := blk_frozen BK510.out 4
                          have hfz28_5 := blk_frozen BK510.out 5
                          go_wp2
                          go_ret
                          exact ⟨_, by first | rfl | (simp [errW_none, errW_some] <;> rfl) | (simp [*, errW_none, errW_some] <;> rfl), by (with_reducible repeat (first | apply Kd.R_alloc | apply Kd.R_drewN | apply Kd.R_drew)); exact HO_3.out, by repeat (first | (with_reducible first | exact HB.out | apply below_alloc | apply pw_below_drewN | apply below_drew1 | refine below_set ?_ GE510.out) | exact HB.out)⟩

/-! ### spec_Taken: function 23 -/
def spec_Taken.f (k : Nat) (l0_0 : List (S141)) (l0_1 : List (S89)) (l0_2 : List (S31)) (l0_3 : List (S93)) (l0_4 : List (S97)) (a0_5 : Int) (a1 : ByteArray) : Option (Bool) := (spec_l06All.f k l0_0 l0_1 l0_2 l0_3 l0_4 a0_5).bind fun t531 => ((spec_Has.f k t531 a1).bind fun t534 => (some t534))
set_option maxHeartbeats 8000000 in
set_option maxRecDepth 100000 in
theorem spec_Taken.calls (k : Nat) (A0_0 : Option Addr) (c0_0 : Nat) (l0_0 : List (S141)) (A0_1 : Option Addr) (c0_1 : Nat) (l0_1 : List (S89)) (A0_2 : Option Addr) (c0_2 : Nat) (l0_2 : List (S31)) (A0_3 : Option Addr) (c0_3 : Nat) (l0_3 : List (S93)) (A0_4 : Option Addr) (c0_4 : Nat) (l0_4 : List (S97)) (a0_5 : Int) (a1 : ByteArray) (r : Bool) (w : World) (hr0_0 : Kd.C k141 w A0_0 l0_0.length l0_0) (hc0_0 : l0_0.length ≤ c0_0) (hr0_1 : Kd.C k89 w A0_1 l0_1.length l0_1) (hc0_1 : l0_1.length ≤ c0_1) (hr0_2 : Kd.C k31 w A0_2 l0_2.length l0_2) (hc0_2 : l0_2.length ≤ c0_2) (hr0_3 : Kd.C k93 w A0_3 l0_3.length l0_3) (hc0_3 : l0_3.length ≤ c0_3) (hr0_4 : Kd.C k97 w A0_4 l0_4.length l0_4) (hc0_4 : l0_4.length ≤ c0_4) (h : spec_Taken.f k l0_0 l0_1 l0_2 l0_3 l0_4 a0_5 a1 = some r) :
    Calls Try.prog 23 #[.agg #[.slice A0_0 l0_0.length c0_0, .slice A0_1 l0_1.length c0_1, .slice A0_2 l0_2.length c0_2, .slice A0_3 l0_3.length c0_3, .slice A0_4 l0_4.length c0_4, .int .i64 a0_5], .string a1] w fun e w' => e = .returned (.bool r) ∧ Below w.heap.size w w' := by
  have hu43 := Try.underlying43
  have HR0_0 := Aside0.mk hr0_0
  have HC0_0 := Aside0.mk hc0_0
  clear hr0_0 hc0_0
  have HR0_1 := Aside0.mk hr0_1
  have HC0_1 := Aside0.mk hc0_1
  clear hr0_1 hc0_1
  have HR0_2 := Aside0.mk hr0_2
  have HC0_2 := Aside0.mk hc0_2
  clear hr0_2 hc0_2
  have HR0_3 := Aside0.mk hr0_3
  have HC0_3 := Aside0.mk hc0_3
  clear hr0_3 hc0_3
  have HR0_4 := Aside0.mk hr0_4
  have HC0_4 := Aside0.mk hc0_4
  clear hr0_4 hc0_4
  have HB := Aside0.mk (Below.refl w.heap.size w)
  have H : ((spec_l06All.f k l0_0 l0_1 l0_2 l0_3 l0_4 a0_5).bind fun t531 => ((spec_Has.f k t531 a1).bind fun t534 => (some t534))) = some r := h
  clear h
  replace H := Option.bind_eq_some_iff.mp H
  obtain ⟨t531, A30, H⟩ := H
  replace H : ((spec_Has.f k t531 a1).bind fun t534 => (some t534)) = some r := H
  have A3 := Aside0.mk A30
  clear A30
  replace H := Option.bind_eq_some_iff.mp H
  obtain ⟨t534, A40, H⟩ := H
  replace H : (some t534) = some r := H
  have A4 := Aside0.mk A40
  clear A40
  obtain rfl := Option.some.inj H
  go_enter Try.func23, Try.ntmps23
  go_wp2_with (first | ((with_reducible refine gate_dst (N := 2) rfl ?_); refine box_event ?hg (N := 2) ?hd (cs := #[.slice A0_0 l0_0.length c0_0, .slice A0_1 l0_1.length c0_1, .slice A0_2 l0_2.length c0_2, .slice A0_3 l0_3.length c0_3, .slice A0_4 l0_4.length c0_4, .int .i64 a0_5]) (t := 43) ?hr ?_; (case hd => rfl); (case hg => rfl); (case hr => first | (go_simp; done) | (go_simp; rfl)); intro gb530 hg w5 hbox hb; obtain ⟨n0_, n2_⟩ := ev2 (by repeat (first | (with_reducible first | exact HB.out | apply below_alloc | apply pw_below_drewN | apply below_drew1) | exact HB.out)) hb hg; have n1_ := Aside0.mk (hbox); have n3_ := n2_; clear HB; have HB := n0_; have BK530 := n1_; have GW530 := n2_; have GE530 := n3_; clear n0_ n1_ n2_ n3_; clear hb hbox hg; obtain ⟨hcz6_0, hcz6_1, hcz6_2, hcz6_3, hcz6_4, hcz6_5, hfz6_0, hfz6_1, hfz6_2, hfz6_3, hfz6_4, hfz6_5⟩ := blk6 BK530.out) | ((with_reducible refine gate_callee (f := 51) rfl ?_); refine goesL_ (some 6) rfl rfl Try.func51 (by kernel_rfl) rfl #[.agg #[.slice A0_0 l0_0.length c0_0, .slice A0_1 l0_1.length c0_1, .slice A0_2 l0_2.length c0_2, .slice A0_3 l0_3.length c0_3, .slice A0_4 l0_4.length c0_4, .int .i64 a0_5]] rfl (by (try simp only [List.map_toArray, List.map_cons, List.map_nil]); first | done | rfl | (simp only [List.length_drop, List.length_take]; rfl)) ?_; (with_reducible refine (spec_l06All.calls k _ _ l0_0 _ _ l0_1 _ _ l0_2 _ _ l0_3 _ _ l0_4 a0_5 t531 _ ?side1 ?side2 ?side3 ?side4 ?side5 ?side6 ?side7 ?side8 ?side9 ?side10 A3.out).mono ?_); (case side1 => repeat (first | exact (Kd.C_below HR0_0.out HB.out) | (with_reducible refine Kd.C_alloc ?_ _) | (with_reducible refine Kd.C_drewN ?_ _) | (with_reducible refine Kd.C_drew ?_))); (case side2 => exact HC0_0.out); (case side3 => repeat (first | exact (Kd.C_below HR0_1.out HB.out) | (with_reducible refine Kd.C_alloc ?_ _) | (with_reducible refine Kd.C_drewN ?_ _) | (with_reducible refine Kd.C_drew ?_))); (case side4 => exact HC0_1.out); (case side5 => repeat (first | exact (Kd.C_below HR0_2.out HB.out) | (with_reducible refine Kd.C_alloc ?_ _) | (with_reducible refine Kd.C_drewN ?_ _) | (with_reducible refine Kd.C_drew ?_))); (case side6 => exact HC0_2.out); (case side7 => repeat (first | exact (Kd.C_below HR0_3.out HB.out) | (with_reducible refine Kd.C_alloc ?_ _) | (with_reducible refine Kd.C_drewN ?_ _) | (with_reducible refine Kd.C_drew ?_))); (case side8 => exact HC0_3.out); (case side9 => repeat (first | exact (Kd.C_below HR0_4.out HB.out) | (with_reducible refine Kd.C_alloc ?_ _) | (with_reducible refine Kd.C_drewN ?_ _) | (with_reducible refine Kd.C_drew ?_))); (case side10 => exact HC0_4.out); rintro e w7 ⟨v532, rfl, ho0, hb⟩; refine ⟨_, rfl, ?_⟩; have n0_ := Aside0.mk (Kd.R_lower ho0 (below_size (by repeat (first | (with_reducible first | exact HB.out | apply below_alloc | apply pw_below_drewN | apply below_drew1 | refine below_set ?_ GE530.out) | exact HB.out)))); have n1_ := Aside0.mk (blk_below (g := gb530) (o := .cells #[.slice A0_0 l0_0.length c0_0, .slice A0_1 l0_1.length c0_1, .slice A0_2 l0_2.length c0_2, .slice A0_3 l0_3.length c0_3, .slice A0_4 l0_4.length c0_4, .int .i64 a0_5] 43 (0, 0)) (by (with_reducible repeat (first | refine blk_drewN ?_ _ | refine blk_drew ?_ | refine blk_alloc ?_ _)); exact BK530.out) hb); have n2_ := Aside0.mk (below_step (by repeat (first | (with_reducible first | exact HB.out | apply below_alloc | apply pw_below_drewN | apply below_drew1 | refine below_set ?_ GE530.out) | exact HB.out)) hb); clear BK530; clear HB; have HO533 := n0_; have BK530 := n1_; have HB := n2_; clear n0_ n1_ n2_; (try clear hb); (try clear hb2); (try clear hk); (try clear hi); (try clear ho0); obtain ⟨Ao8, co8, eo8⟩ := Kd.R_slice HO533.out; subst eo8) | ((with_reducible refine gate_callee (f := 50) rfl ?_); refine goesL_ (some 8) rfl rfl Try.func50 (by kernel_rfl) rfl #[.slice Ao8 t531.length co8, .string a1] rfl (by (try simp only [List.map_toArray, List.map_cons, List.map_nil]); first | done | rfl | (simp only [List.length_drop, List.length_take]; rfl)) ?_; (with_reducible refine (spec_Has.calls k _ _ t531 a1 t534 _ ?side1 ?side2 A4.out).mono ?_); (case side1 => repeat (first | exact (Kd.R_reads' HO533.out).2.2 | (with_reducible refine Kd.C_alloc ?_ _) | (with_reducible refine Kd.C_drewN ?_ _) | (with_reducible refine Kd.C_drew ?_))); (case side2 => exact (Kd.R_reads' HO533.out).2.1); rintro e w' ⟨rfl, ⟨nd, rfl⟩⟩; refine ⟨_, rfl, ?_⟩))
  go_ret
  exact ⟨by first | rfl | (simp [errW_none, errW_some] <;> rfl) | (simp [*, errW_none, errW_some] <;> rfl), by repeat (first | (with_reducible first | exact HB.out | apply below_alloc | apply pw_below_drewN | apply below_drew1 | refine below_set ?_ GE530.out) | exact HB.out)⟩

end Go.Proofs.Ytbgfdhabfgeglaa.Q
