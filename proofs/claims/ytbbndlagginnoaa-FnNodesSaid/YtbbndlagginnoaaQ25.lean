/- Written by a program of this session (drive.py) over the translation: a part of the proofs of the laws; nothing is asked beyond what each statement says. -/
import Derived.Test.YtbbndlagginnoaaQ0
import Derived.Test.YtbbndlagginnoaaQ1
import Derived.Test.YtbbndlagginnoaaQ17
import Derived.Test.YtbbndlagginnoaaQ21
import Derived.Test.YtbbndlagginnoaaQ22
import Derived.Test.YtbbndlagginnoaaQ24
import Derived.Test.YtbbndlagginnoaaFExprOk
namespace Go.Proofs.Ytbbndlagginnoaa.Q
open Go.RowKit Go.Proofs.YtbbndlagginnoaaW.PrintWords Go.Proofs.YtbbndlagginnoaaW.PrintLast Go.Proofs.YtbbndlagginnoaaW.PrintMore
attribute [local go_sem] max2_int min2_int max_two min_two max_three min_three max_four min_four   -- for this text's walks alone
set_option linter.unusedVariables false
set_option linter.unusedSimpArgs false

/-! ### laws_FnNodes: function 10 -/
def laws_FnNodes.l0 : Nat → Int → Int → Int → ByteArray → Int → List (S40) → Option (Bool)
  | 0, _, _, _, _, _, _ => none
  | k + 1, x4, x5, x707000, x707001, x707002, x707003 => if x5 < (x707003.length : Int) then (if 0 ≤ x5 then ((impl_Nodes.f k ((rd_T40 x707003 x5).f0) ((rd_T40 x707003 x5).f1) ((rd_T40 x707003 x5).f2) ((rd_T40 x707003 x5).f3)).bind fun t708 => (laws_FnNodes.l0 k (wrap64 (x4 + t708)) (wrap64 (x5 + 1)) x707000 x707001 x707002 x707003)) else (none)) else ((some (([(⟨x707000, x707001, x707002, x707003⟩ : S40)] : List (S40)) : List (S40))).bind fun y709 => ((impl_Nodes.f k x707000 x707001 x707002 x707003).bind fun t713 => (if t713 = x4 then ((spec_Nodes.f k x707000 x707001 x707002 x707003).bind fun t714 => (if x4 = t714 then ((impl_Nodes.f k 6 (⟨#[]⟩ : ByteArray) 0 y709).bind fun t715 => (if t715 = (wrap64 (x4 + 1)) then ((impl_ExprOk.f k 6 (⟨#[]⟩ : ByteArray) 0 y709).bind fun t716 => ((spec_ExprOk.f k x707000 x707001 x707002 x707003).bind fun t717 => (if t717 = true then (some (t716 == (decide (x4 < 40)))) else (some (t716 == false))))) else (some false))) else (some false))) else (some false))))
def laws_FnNodes.f (k : Nat) (l0 : List Int) : Option (Bool) := (laws_big.f l0).bind fun t699 => (if t699 = true then (some true) else ((spec_DrawNodes.f k l0).bind fun bt700 => (laws_FnNodes.l0 k 1 0 bt700.1 bt700.2.1 bt700.2.2.1 bt700.2.2.2)))
def laws_FnNodes.T10 : Bool × List (List Nat × List Nat) := (true, [([], []), ([0], [0]), ([], []), ([1, 2], [1, 2]), ([3, 1], [3]), ([4], [4]), ([4], [4]), ([6, 4, 4], [4, 6]), ([5, 7, 4], [4, 5, 7]), ([4, 8], [4, 8]), ([9, 7], [9]), ([10], [10]), ([11, 10, 10], [10, 11]), ([10], [10]), ([13, 10], [10, 13]), ([12, 14, 10], [10, 12, 14]), ([10, 15], [10, 15]), ([16, 12], [16]), ([17], [17]), ([18, 17, 17], [17, 18]), ([17], [17]), ([20, 19, 17], [17, 20]), ([21, 21, 17], [17, 21]), ([22], [22]), ([23, 22], [22, 23]), ([22, 24, 17], [17, 22, 24]), ([19, 25, 17], [17, 19, 25]), ([17, 26], [17, 26]), ([27, 22, 0, 1, 2, 3, 4, 5, 6, 7, 8, 9, 10, 11, 12, 13, 14, 15, 16, 17, 18, 19, 20, 21, 22, 23, 24, 25, 26, 27], [27])])
def laws_FnNodes.B10 : List Nat := [0, 1, 0, 7, 15, 31, 31, 95, 255, 511, 1023, 2047, 4095, 2047, 10239, 32767, 65535, 131071, 262143, 524287, 262143, 2097151, 4194303, 8388607, 16777215, 33554431, 67108863, 134217727, 268435455]
theorem laws_FnNodes.tab10 : rtab .any (opsOf Try.f10 10) = laws_FnNodes.T10 := by kernel_rfl
theorem laws_FnNodes.bits10 : waitsOk laws_FnNodes.T10.2 laws_FnNodes.B10 = true := by kernel_rfl
set_option maxHeartbeats 8000000 in
set_option maxRecDepth 100000 in
theorem laws_FnNodes.calls (k : Nat) (A0 : Option Addr) (c0 : Nat) (l0 : List Int) (r : Bool) (w : World) (hr0 : Kd.C (Kd.int .u8) w A0 l0.length l0) (hc0 : l0.length ≤ c0) (h : laws_FnNodes.f k l0 = some r) :
    Calls Try.prog 10 #[.slice A0 l0.length c0] w fun e w' => e = .returned (.bool r) ∧ Below w.heap.size w w' := by
  have hu40 := Try.underlying40
  have HR0 := Aside0.mk hr0
  have HC0 := Aside0.mk hc0
  clear hr0 hc0
  have HB := Aside0.mk (Below.refl w.heap.size w)
  have H : ((laws_big.f l0).bind fun t699 => (if t699 = true then (some true) else ((spec_DrawNodes.f k l0).bind fun bt700 => (laws_FnNodes.l0 k 1 0 bt700.1 bt700.2.1 bt700.2.2.1 bt700.2.2.2)))) = some r := h
  clear h
  replace H := Option.bind_eq_some_iff.mp H
  obtain ⟨t699, A20, H⟩ := H
  replace H : (if t699 = true then (some true) else ((spec_DrawNodes.f k l0).bind fun bt700 => (laws_FnNodes.l0 k 1 0 bt700.1 bt700.2.1 bt700.2.2.1 bt700.2.2.2))) = some r := H
  have A2 := Aside0.mk A20
  clear A20
  by_cases c3 : t699 = true
  · subst c3
    have H1 : (some true) = some r := by rw [if_pos rfl] at H; exact H
    clear H
    have H := H1
    clear H1
    obtain rfl := Option.some.inj H
    go_enter Try.func10, Try.ntmps10
    go_wp2_with (first | ((with_reducible refine gate_callee (f := 11) rfl ?_); refine goesL_ (some 8) rfl rfl Try.func11 (by kernel_rfl) rfl #[.slice A0 l0.length c0] rfl (by (try simp only [List.map_toArray, List.map_cons, List.map_nil]); first | done | rfl | (simp only [List.length_drop, List.length_take]; rfl)) ?_; (with_reducible refine (laws_big.calls _ _ l0 true _ ?side1 ?side2 A2.out).mono ?_); (case side1 => repeat (first | exact HR0.out | (with_reducible refine Kd.C_alloc ?_ _) | (with_reducible refine Kd.C_drewN ?_ _) | (with_reducible refine Kd.C_drew ?_))); (case side2 => exact HC0.out); rintro e w' ⟨rfl, ⟨nd, rfl⟩⟩; refine ⟨_, rfl, ?_⟩))
    go_ret
    exact ⟨by first | rfl | (simp [errW_none, errW_some] <;> rfl) | (simp [*, errW_none, errW_some] <;> rfl), by repeat (first | (with_reducible first | exact HB.out | apply below_alloc | apply pw_below_drewN | apply below_drew1) | exact HB.out)⟩
  · replace c3 := Bool.eq_false_iff.mpr c3
    subst c3
    have H1 : ((spec_DrawNodes.f k l0).bind fun bt700 => (laws_FnNodes.l0 k 1 0 bt700.1 bt700.2.1 bt700.2.2.1 bt700.2.2.2)) = some r := by rw [if_neg (show ¬ (false = true) by decide)] at H; exact H
    clear H
    have H := H1
    clear H1
    replace H := Option.bind_eq_some_iff.mp H
    obtain ⟨⟨t700, t701, t702, t703⟩, A40, H⟩ := H
    replace H : (laws_FnNodes.l0 k 1 0 t700 t701 t702 t703) = some r := H
    have A4 := Aside0.mk A40
    clear A40
    have H' := Aside0.mk H
    clear H
    go_enter Try.func10, Try.ntmps10
    go_wp2_with (first | ((with_reducible refine gate_callee (f := 11) rfl ?_); refine goesL_ (some 8) rfl rfl Try.func11 (by kernel_rfl) rfl #[.slice A0 l0.length c0] rfl (by (try simp only [List.map_toArray, List.map_cons, List.map_nil]); first | done | rfl | (simp only [List.length_drop, List.length_take]; rfl)) ?_; (with_reducible refine (laws_big.calls _ _ l0 false _ ?side1 ?side2 A2.out).mono ?_); (case side1 => repeat (first | exact HR0.out | (with_reducible refine Kd.C_alloc ?_ _) | (with_reducible refine Kd.C_drewN ?_ _) | (with_reducible refine Kd.C_drew ?_))); (case side2 => exact HC0.out); rintro e w' ⟨rfl, ⟨nd, rfl⟩⟩; refine ⟨_, rfl, ?_⟩) | ((with_reducible refine gate_callee (f := 45) rfl ?_); refine goesL_ (some 10) rfl rfl Try.func45 (by kernel_rfl) rfl #[.slice A0 l0.length c0] rfl (by (try simp only [List.map_toArray, List.map_cons, List.map_nil]); first | done | rfl | (simp only [List.length_drop, List.length_take]; rfl)) ?_; (with_reducible refine (spec_DrawNodes.calls k _ _ l0 t700 t701 t702 t703 _ ?side1 ?side2 A4.out).mono ?_); (case side1 => repeat (first | exact HR0.out | (with_reducible refine Kd.C_alloc ?_ _) | (with_reducible refine Kd.C_drewN ?_ _) | (with_reducible refine Kd.C_drew ?_))); (case side2 => exact HC0.out); rintro e w5 ⟨v704, rfl, ho0, hb⟩; refine ⟨_, rfl, ?_⟩; have n0_ := Aside0.mk (Kd.N_lower (Kd.N_mono (ok' := fun k_ => True) ho0 (fun k_ hk_ => trivial)) (below_size (by repeat (first | (with_reducible first | exact HB.out | apply below_alloc | apply pw_below_drewN | apply below_drew1) | exact HB.out)))); have n1_ := Aside0.mk (below_step (by repeat (first | (with_reducible first | exact HB.out | apply below_alloc | apply pw_below_drewN | apply below_drew1) | exact HB.out)) hb); clear HB; have HO705 := n0_; have HB := n1_; clear n0_ n1_; (try clear hb); (try clear hb2); (try clear hk); (try clear hi); (try clear ho0)) | ((with_reducible refine gate_dst (N := 3) rfl ?_); refine box_event ?hg (N := 3) ?hd (cs := #[.int .i64 0, .string (⟨#[]⟩ : ByteArray), .int .i64 0, .slice none 0 0]) (t := 40) ?hr ?_; (case hd => rfl); (case hg => rfl); (case hr => first | (go_simp; done) | (go_simp; rfl)); intro gb706 hg w6 hbox hb; have n0_ := Aside0.mk (Kd.N_below (Kd.N_elderB (by (with_reducible repeat (first | apply Kd.N_alloc | apply Kd.N_drewN | apply Kd.N_drew)); exact HO705.out) gb706 (Nat.le_of_eq hg.symm)) hb); have n1_ := Aside0.mk (below_step (by repeat (first | (with_reducible first | exact HB.out | apply below_alloc | apply pw_below_drewN | apply below_drew1) | exact HB.out)) hb); have n2_ := Aside0.mk (hbox); have n3_ := Aside0.mk ((by rw [hg]; exact (below_size (by repeat (first | (with_reducible first | exact HB.out | apply below_alloc | apply pw_below_drewN | apply below_drew1) | exact HB.out))) : w.heap.size ≤ gb706)); have n4_ := Aside0.mk ((by rw [hg]; exact (below_size (by repeat (first | (with_reducible first | exact HB.out | apply below_alloc | apply pw_below_drewN | apply below_drew1) | exact HB.out))) : w.heap.size ≤ gb706)); clear HO705; clear HB; have HO705 := n0_; have HB := n1_; have BK706 := n2_; have GW706 := n3_; have GE706 := n4_; clear n0_ n1_ n2_ n3_ n4_; clear hb hbox hg; have hcz7_0 : w6.cell? ⟨gb706, 0, none⟩ = some (.int .i64 0) := (blk_cell BK706.out 0).trans rfl; have hcz7_1 : w6.cell? ⟨gb706, 1, none⟩ = some (.string (⟨#[]⟩ : ByteArray)) := (blk_cell BK706.out 1).trans rfl; have hcz7_2 : w6.cell? ⟨gb706, 2, none⟩ = some (.int .i64 0) := (blk_cell BK706.out 2).trans rfl; have hcz7_3 : w6.cell? ⟨gb706, 3, none⟩ = some (.slice none 0 0) := (blk_cell BK706.out 3).trans rfl; have hfz7_0 := blk_frozen BK706.out 0; have hfz7_1 := blk_frozen BK706.out 1; have hfz7_2 := blk_frozen BK706.out 2; have hfz7_3 := blk_frozen BK706.out 3; obtain ⟨Ao8, co8, eo8⟩ := Kd.N_slice HO705.out; subst eo8))
    go_loopg [4, 5] k (fun kq v4 v5 w' => ∃ (x4_1 : Int) (x5_1 : Int), v4 = .int .i64 x4_1 ∧ v5 = .int .i64 x5_1 ∧ Aside0 (laws_FnNodes.l0 kq x4_1 x5_1 t700 t701 t702 t703 = some r) ∧ Aside0 (kq ≤ k) ∧ Aside0 (Kd.N k40 40 w' w.heap.size (fun k_ => k_ ≠ gb706) (.slice Ao8 t703.length co8) t703) ∧ Aside0 (w'.heap[gb706]? = some (.cells #[.int .i64 t700, .string t701, .int .i64 t702, (.slice Ao8 t703.length co8)] 40 (0, 0))) ∧ Aside0 (Below w.heap.size w w'))
    case atStart => exact ⟨(1), (0), (by first | rfl | (simp; done) | (simp [*]; done)), (by first | rfl | (simp; done) | (simp [*]; done)), H', ⟨Nat.le_refl _⟩, ⟨by (with_reducible repeat (first | apply Kd.N_alloc | apply Kd.N_drewN | apply Kd.N_drew)); exact Kd.N_mono (Kd.N_far (p := ⟨gb706, 3, none⟩) (Kd.N_far (p := ⟨gb706, 2, none⟩) (Kd.N_far (p := ⟨gb706, 1, none⟩) (Kd.N_far (p := ⟨gb706, 0, none⟩) (Kd.N_mono HO705.out (fun k_ hk => (⟨hk, hk.2⟩ : _ ∧ k_ ≠ gb706))) (fun _ hk => hk.2) (.int .i64 t700)) (fun _ hk => hk.2) (.string t701)) (fun _ hk => hk.2) (.int .i64 t702)) (fun _ hk => hk.2) (.slice Ao8 t703.length co8)) (fun _ hk => hk.1.2)⟩, ⟨by (with_reducible repeat (first | refine blk_drewN ?_ _ | refine blk_drew ?_ | refine blk_alloc ?_ _)); refine blk_put (cs := #[.int .i64 t700, .string t701, .int .i64 t702, .slice none 0 0]) ?_ 3 _ rfl; (with_reducible repeat (first | refine blk_drewN ?_ _ | refine blk_drew ?_ | refine blk_alloc ?_ _)); refine blk_put (cs := #[.int .i64 t700, .string t701, .int .i64 0, .slice none 0 0]) ?_ 2 _ rfl; (with_reducible repeat (first | refine blk_drewN ?_ _ | refine blk_drew ?_ | refine blk_alloc ?_ _)); refine blk_put (cs := #[.int .i64 t700, .string (⟨#[]⟩ : ByteArray), .int .i64 0, .slice none 0 0]) ?_ 1 _ rfl; (with_reducible repeat (first | refine blk_drewN ?_ _ | refine blk_drew ?_ | refine blk_alloc ?_ _)); refine blk_put (cs := #[.int .i64 0, .string (⟨#[]⟩ : ByteArray), .int .i64 0, .slice none 0 0]) ?_ 0 _ rfl; (with_reducible repeat (first | refine blk_drewN ?_ _ | refine blk_drew ?_ | refine blk_alloc ?_ _)); exact BK706.out⟩, ⟨by repeat (first | (with_reducible first | exact HB.out | apply below_alloc | apply pw_below_drewN | apply below_drew1 | refine below_set ?_ GE706.out) | exact HB.out)⟩⟩
    case round =>
      clear H'
      try clear c1
      try clear p2
      try clear c3
      try clear c4
      try clear hcz7_0
      try clear hcz7_1
      try clear hcz7_2
      try clear hcz7_3
      try clear hfz7_0
      try clear hfz7_1
      try clear hfz7_2
      try clear hfz7_3
      obtain ⟨x4_1, x5_1, rfl, rfl, HA, HK1, HO_707003, BK706, HB⟩ := hrel
      cases gk with
      | zero => exact absurd HA.out (by simp [laws_FnNodes.l0])
      | succ k1 =>
        have H := HA.out
        clear HA
        simp only [laws_FnNodes.l0] at H
        by_cases c9 : x5_1 < (t703.length : Int)
        · rw [if_pos c9] at H
          have c9b0 : decide (x5_1 < (t703.length : Int)) = true := decide_eq_true c9
          clear c9
          by_cases c10 : 0 ≤ x5_1
          · rw [if_pos c10] at H
            have c10b0 : decide (0 ≤ x5_1) = true := decide_eq_true c10
            clear c10
            replace H := Option.bind_eq_some_iff.mp H
            obtain ⟨t708, A110, H⟩ := H
            replace H : (laws_FnNodes.l0 k1 (wrap64 (x4_1 + t708)) (wrap64 (x5_1 + 1)) t700 t701 t702 t703) = some r := H
            have A11 := Aside0.mk A110
            clear A110
            have H' := Aside0.mk H
            clear H
            have hcz12_0 : wr.cell? ⟨gb706, 0, none⟩ = some (.int .i64 t700) := (blk_cell BK706.out 0).trans rfl
            have hcz12_1 : wr.cell? ⟨gb706, 1, none⟩ = some (.string t701) := (blk_cell BK706.out 1).trans rfl
            have hcz12_2 : wr.cell? ⟨gb706, 2, none⟩ = some (.int .i64 t702) := (blk_cell BK706.out 2).trans rfl
            have hcz12_3 : wr.cell? ⟨gb706, 3, none⟩ = some (.slice Ao8 t703.length co8) := (blk_cell BK706.out 3).trans rfl
            have hfz12_0 := blk_frozen BK706.out 0
            have hfz12_1 := blk_frozen BK706.out 1
            have hfz12_2 := blk_frozen BK706.out 2
            have hfz12_3 := blk_frozen BK706.out 3
            have p707 : 0 ≤ (x5_1 : Int) := of_decide_eq_true (by first | (with_reducible assumption) | assumption)
            have q707 : x5_1 < (t703.length : Int) := of_decide_eq_true (by first | (with_reducible assumption) | assumption)
            obtain ⟨ad707, A707_3, c707_3, e707, hx707_0, hx707_1, hx707_2, hx707_3, hl707_3, hi707_3⟩ := at_T40 (Kd.N_reads' HO_707003.out).2.2 x5_1 p707 q707
            cases e707
            obtain ⟨ce707, hce707, hMe707, hcc707⟩ := Kd.N_get HO_707003.out z40 x5_1 p707 (by first | exact q707 | exact of_decide_eq_true (by first | (with_reducible assumption) | assumption) | (have e_ := (Kd.N_reads' HO_707003.out).1; omega))
            obtain ⟨ua707_3, uc707_3, rfl, ul707_3, ge707_3⟩ := k40_openF hMe707
            have hv707_3 := hcc707 3 _ rfl
            rw [add_field _ _ 3 (by omega)] at hv707_3
            replace hv707_3 := Option.some.inj (hv707_3.symm.trans hx707_3)
            injection hv707_3 with hva_ hvn_ hvc_
            rw [hva_] at ge707_3
            rw [hvc_] at ul707_3
            have HL707_3 := Aside0.mk (show Kd.V k40 40 _ w.heap.size _ _ ((rd_T40 t703 x5_1).f3) from Kd.V_mk ul707_3 ge707_3)
            clear hva_ hvn_ hvc_ ge707_3 ul707_3
            clear hcc707 hce707
            have HR707_3 := Aside0.mk hi707_3
            have HC707_3 := Aside0.mk hl707_3
            clear hi707_3 hl707_3
            replace p707 := eq_true p707
            replace q707 := eq_true q707
            go_wp2_with (first | ((with_reducible refine gate_callee (f := 41) rfl ?_); refine goesL_ (some 24) rfl rfl Try.func41 (by kernel_rfl) rfl #[.agg #[.int .i64 ((rd_T40 t703 x5_1).f0), .string ((rd_T40 t703 x5_1).f1), .int .i64 ((rd_T40 t703 x5_1).f2), .slice A707_3 ((rd_T40 t703 x5_1).f3).length c707_3]] rfl (by (try simp only [List.map_toArray, List.map_cons, List.map_nil]); first | done | rfl | (simp only [List.length_drop, List.length_take]; rfl)) ?_; (with_reducible refine (impl_Nodes.calls k1 ((rd_T40 t703 x5_1).f0) ((rd_T40 t703 x5_1).f1) ((rd_T40 t703 x5_1).f2) _ _ ((rd_T40 t703 x5_1).f3) t708 _ ?side1 ?side2 A11.out).mono ?_); (case side1 => repeat (first | exact (by repeat (first | (with_reducible exact HR707_3.out) | (with_reducible refine Kd.C_alloc ?_ _) | (with_reducible refine Kd.C_drewN ?_ _) | (with_reducible refine Kd.C_drew ?_) | exact HR707_3.out)) | (with_reducible refine Kd.C_alloc ?_ _) | (with_reducible refine Kd.C_drewN ?_ _) | (with_reducible refine Kd.C_drew ?_))); (case side2 => exact HC707_3.out); rintro e w13 ⟨rfl, hb⟩; refine ⟨_, rfl, ?_⟩; have n0_ := Aside0.mk (Kd.N_below (by (with_reducible repeat (first | apply Kd.N_alloc | apply Kd.N_drewN | apply Kd.N_drew)); exact HO_707003.out) hb); have n1_ := Aside0.mk (Kd.V_below (by (with_reducible repeat (first | apply Kd.V_alloc | apply Kd.V_drewN | apply Kd.V_drew)); exact HL707_3.out) hb); have n2_ := Aside0.mk (blk_below (g := gb706) (o := .cells #[.int .i64 t700, .string t701, .int .i64 t702, .slice (some ad707) t703.length co8] 40 (0, 0)) (by (with_reducible repeat (first | refine blk_drewN ?_ _ | refine blk_drew ?_ | refine blk_alloc ?_ _)); exact BK706.out) hb); have n3_ := Aside0.mk (Kd.C_below (by repeat (first | (with_reducible exact HR707_3.out) | (with_reducible refine Kd.C_alloc ?_ _) | (with_reducible refine Kd.C_drewN ?_ _) | (with_reducible refine Kd.C_drew ?_) | exact HR707_3.out)) hb); have n4_ := Aside0.mk (below_step (by repeat (first | (with_reducible first | exact HB.out | apply below_alloc | apply pw_below_drewN | apply below_drew1 | refine below_set ?_ GE706.out) | exact HB.out)) hb); clear HO_707003; clear HL707_3; clear BK706; clear HR707_3; clear HB; have HO_707003 := n0_; have HL707_3 := n1_; have BK706 := n2_; have HR707_3 := n3_; have HB := n4_; clear n0_ n1_ n2_ n3_ n4_; (try clear hb); (try clear hb2); (try clear hk); (try clear hi)))
            go_roundg k1
            case measure => have := HK1.out; omega
            case rel => exact ⟨(wrap64 (x4_1 + t708)), (wrap64 (x5_1 + 1)), (by first | rfl | (simp; done) | (simp [*]; done)), (by first | rfl | (simp; done) | (simp [*]; done)), H', ⟨by have := HK1.out; omega⟩, ⟨by (with_reducible repeat (first | apply Kd.N_alloc | apply Kd.N_drewN | apply Kd.N_drew)); exact HO_707003.out⟩, ⟨by (with_reducible repeat (first | refine blk_drewN ?_ _ | refine blk_drew ?_ | refine blk_alloc ?_ _)); exact BK706.out⟩, ⟨by repeat (first | (with_reducible first | exact HB.out | apply below_alloc | apply pw_below_drewN | apply below_drew1 | refine below_set ?_ GE706.out) | exact HB.out)⟩⟩
          · rw [if_neg c10] at H
            exact absurd H (by simp)
        · rw [if_neg c9] at H
          have c9b0 : decide (x5_1 < (t703.length : Int)) = false := decide_eq_false c9
          clear c9
          obtain ⟨y709, hy709⟩ : ∃ y_ : List (S40), y_ = (([(⟨t700, t701, t702, t703⟩ : S40)] : List (S40))) := ⟨_, rfl⟩
          replace H : ((impl_Nodes.f k1 t700 t701 t702 t703).bind fun t713 => (if t713 = x4_1 then ((spec_Nodes.f k1 t700 t701 t702 t703).bind fun t714 => (if x4_1 = t714 then ((impl_Nodes.f k1 6 (⟨#[]⟩ : ByteArray) 0 y709).bind fun t715 => (if t715 = (wrap64 (x4_1 + 1)) then ((impl_ExprOk.f k1 6 (⟨#[]⟩ : ByteArray) 0 y709).bind fun t716 => ((spec_ExprOk.f k1 t700 t701 t702 t703).bind fun t717 => (if t717 = true then (some (t716 == (decide (x4_1 < 40)))) else (some (t716 == false))))) else (some false))) else (some false))) else (some false))) = some r := by first | (rw [hy709]; with_reducible exact H) | (have H2_ := (Option.bind_some _ _).symm.trans H; rw [hy709]; with_reducible exact H2_) | (have H2_ := (Option.bind_some _ _).symm.trans H; with_reducible exact H2_) | with_reducible exact H | (rw [hy709]; exact H) | exact H
          have Ny709 := Aside0.mk hy709
          clear hy709
          replace H := Option.bind_eq_some_iff.mp H
          obtain ⟨t713, A140, H⟩ := H
          replace H : (if t713 = x4_1 then ((spec_Nodes.f k1 t700 t701 t702 t703).bind fun t714 => (if x4_1 = t714 then ((impl_Nodes.f k1 6 (⟨#[]⟩ : ByteArray) 0 y709).bind fun t715 => (if t715 = (wrap64 (x4_1 + 1)) then ((impl_ExprOk.f k1 6 (⟨#[]⟩ : ByteArray) 0 y709).bind fun t716 => ((spec_ExprOk.f k1 t700 t701 t702 t703).bind fun t717 => (if t717 = true then (some (t716 == (decide (x4_1 < 40)))) else (some (t716 == false))))) else (some false))) else (some false))) else (some false)) = some r := H
          have A14 := Aside0.mk A140
          clear A140
          by_cases c15 : t713 = x4_1
          · rw [if_pos c15] at H
            have c15b0 : (t713 == x4_1) = true := beq_iff_eq.mpr c15
            have c15b1 : (t713 != x4_1) = false := bne_eq_false_iff_eq.mpr c15
            clear c15
            replace H := Option.bind_eq_some_iff.mp H
            obtain ⟨t714, A160, H⟩ := H
            replace H : (if x4_1 = t714 then ((impl_Nodes.f k1 6 (⟨#[]⟩ : ByteArray) 0 y709).bind fun t715 => (if t715 = (wrap64 (x4_1 + 1)) then ((impl_ExprOk.f k1 6 (⟨#[]⟩ : ByteArray) 0 y709).bind fun t716 => ((spec_ExprOk.f k1 t700 t701 t702 t703).bind fun t717 => (if t717 = true then (some (t716 == (decide (x4_1 < 40)))) else (some (t716 == false))))) else (some false))) else (some false)) = some r := H
            have A16 := Aside0.mk A160
            clear A160
            by_cases c17 : x4_1 = t714
            · rw [if_pos c17] at H
              have c17b0 : (x4_1 == t714) = true := beq_iff_eq.mpr c17
              have c17b1 : (x4_1 != t714) = false := bne_eq_false_iff_eq.mpr c17
              clear c17
              replace H := Option.bind_eq_some_iff.mp H
              obtain ⟨t715, A180, H⟩ := H
              replace H : (if t715 = (wrap64 (x4_1 + 1)) then ((impl_ExprOk.f k1 6 (⟨#[]⟩ : ByteArray) 0 y709).bind fun t716 => ((spec_ExprOk.f k1 t700 t701 t702 t703).bind fun t717 => (if t717 = true then (some (t716 == (decide (x4_1 < 40)))) else (some (t716 == false))))) else (some false)) = some r := H
              have A18 := Aside0.mk A180
              clear A180
              by_cases c19 : t715 = (wrap64 (x4_1 + 1))
              · rw [if_pos c19] at H
                have c19b0 : (t715 == (wrap64 (x4_1 + 1))) = true := beq_iff_eq.mpr c19
                have c19b1 : (t715 != (wrap64 (x4_1 + 1))) = false := bne_eq_false_iff_eq.mpr c19
                clear c19
                replace H := Option.bind_eq_some_iff.mp H
                obtain ⟨t716, A200, H⟩ := H
                replace H : ((spec_ExprOk.f k1 t700 t701 t702 t703).bind fun t717 => (if t717 = true then (some (t716 == (decide (x4_1 < 40)))) else (some (t716 == false)))) = some r := H
                have A20 := Aside0.mk A200
                clear A200
                replace H := Option.bind_eq_some_iff.mp H
                obtain ⟨t717, A210, H⟩ := H
                replace H : (if t717 = true then (some (t716 == (decide (x4_1 < 40)))) else (some (t716 == false))) = some r := H
                have A21 := Aside0.mk A210
                clear A210
                by_cases c22 : t717 = true
                · subst c22
                  have H1 : (some (t716 == (decide (x4_1 < 40)))) = some r := by rw [if_pos rfl] at H; exact H
                  clear H
                  have H := H1
                  clear H1
                  obtain rfl := Option.some.inj H
                  have hcz23_0 : wr.cell? ⟨gb706, 0, none⟩ = some (.int .i64 t700) := (blk_cell BK706.out 0).trans rfl
                  have hcz23_1 : wr.cell? ⟨gb706, 1, none⟩ = some (.string t701) := (blk_cell BK706.out 1).trans rfl
                  have hcz23_2 : wr.cell? ⟨gb706, 2, none⟩ = some (.int .i64 t702) := (blk_cell BK706.out 2).trans rfl
                  have hcz23_3 : wr.cell? ⟨gb706, 3, none⟩ = some (.slice Ao8 t703.length co8) := (blk_cell BK706.out 3).trans rfl
                  have hfz23_0 := blk_frozen BK706.out 0
                  have hfz23_1 := blk_frozen BK706.out 1
                  have hfz23_2 := blk_frozen BK706.out 2
                  have hfz23_3 := blk_frozen BK706.out 3
                  try go_wp2_with (first | ((with_reducible refine gate_dst (N := 27) rfl ?_); refine Kd.N_lit k40 _ 40 ?hg (N' := 27) ?hd (xs := ([(⟨t700, t701, t702, t703⟩ : S40)] : List (S40))) (inner := [.int .i64 t700, .string t701, .int .i64 t702, .slice Ao8 t703.length co8]) (ok := (fun k_ => k_ ≠ gb706)) (okp := (fun k_ => k_ ≠ gb706)) ?hr ?hp (fun _ hk => hk) ((show ∀ k_, wr.heap.size ≤ k_ → (fun k_ => k_ ≠ gb706) k_ from fun k_ hk => Kd.freshB (g := gb706) (o := .cells #[.int .i64 t700, .string t701, .int .i64 t702, .slice Ao8 t703.length co8] 40 (0, 0)) (by (with_reducible repeat (first | refine blk_drewN ?_ _ | refine blk_drew ?_ | refine blk_alloc ?_ _)); exact BK706.out) k_ hk) _ (Nat.le_refl _)) (Below.refl _ _) (Nat.le_refl _) (by simp) ?_; (case hd => rfl); (case hg => rfl); (case hr => first | (go_simp; done) | (go_simp; rfl)); (case hp => exact (Reps.c4 (show Kd.FK k40 _ _ (⟨t700, t701, t702, t703⟩ : S40) [.int .i64 t700, .string t701, .int .i64 t702, .slice Ao8 t703.length co8] from (k40_mkF _ _ (⟨t700, t701, t702, t703⟩ : S40) (Kd.N_reads' (Kd.N_mono (ok' := (fun k_ => k_ ≠ gb706)) (HO_707003.out) (fun k_ hk => hk))).2.1 (Kd.N_F (Kd.N_mono (ok' := (fun k_ => k_ ≠ gb706)) (HO_707003.out) (fun k_ hk => hk))))) (Reps.none _ _))); intro v710 w24 ho25 hb hg_ hnew_; clear hg_ hnew_; (first | rw [← Ny709.out] at ho25 | (simp only [Int.reduceToNat] at ho25; rw [← Ny709.out] at ho25)); have n0_ := Aside0.mk (Kd.N_lower ho25 (below_size (by repeat (first | (with_reducible first | exact HB.out | apply below_alloc | apply pw_below_drewN | apply below_drew1 | refine below_set ?_ GE706.out) | exact HB.out)))); have n1_ := Aside0.mk (blk_below (g := gb706) (o := .cells #[.int .i64 t700, .string t701, .int .i64 t702, .slice Ao8 t703.length co8] 40 (0, 0)) (by (with_reducible repeat (first | refine blk_drewN ?_ _ | refine blk_drew ?_ | refine blk_alloc ?_ _)); exact BK706.out) hb); have n2_ := Aside0.mk (below_step (by repeat (first | (with_reducible first | exact HB.out | apply below_alloc | apply pw_below_drewN | apply below_drew1 | refine below_set ?_ GE706.out) | exact HB.out)) hb); clear BK706; clear HB; have nz_ := Aside0.mk (Kd.N_below (by (with_reducible repeat (first | apply Kd.N_alloc | apply Kd.N_drewN | apply Kd.N_drew)); exact HO_707003.out) hb); clear HO_707003; have HO_707003 := nz_; clear nz_; have HO711 := n0_; have BK706 := n1_; have HB := n2_; clear n0_ n1_ n2_; clear hb ho25; obtain ⟨Ao26, co26, eo26⟩ := Kd.N_slice HO711.out; subst eo26) | ((with_reducible refine gate_dst (N := 6) rfl ?_); refine box_event ?hg (N := 6) ?hd (cs := #[.int .i64 0, .string (⟨#[]⟩ : ByteArray), .int .i64 0, .slice none 0 0]) (t := 40) ?hr ?_; (case hd => rfl); (case hg => rfl); (case hr => first | (go_simp; done) | (go_simp; rfl)); intro gb712 hg w27 hbox hb; have n0_ := Aside0.mk (Kd.N_below (Kd.N_elderB (by (with_reducible repeat (first | apply Kd.N_alloc | apply Kd.N_drewN | apply Kd.N_drew)); exact HO711.out) gb712 (Nat.le_of_eq hg.symm)) hb); have n1_ := Aside0.mk (blk_below (g := gb706) (o := .cells #[.int .i64 t700, .string t701, .int .i64 t702, .slice Ao8 t703.length co8] 40 (0, 0)) (by (with_reducible repeat (first | refine blk_drewN ?_ _ | refine blk_drew ?_ | refine blk_alloc ?_ _)); exact BK706.out) hb); have n2_ := Aside0.mk (below_step (by repeat (first | (with_reducible first | exact HB.out | apply below_alloc | apply pw_below_drewN | apply below_drew1 | refine below_set ?_ GE706.out) | exact HB.out)) hb); have n3_ := Aside0.mk (hbox); have n4_ := Aside0.mk ((by rw [hg]; exact (below_size (by repeat (first | (with_reducible first | exact HB.out | apply below_alloc | apply pw_below_drewN | apply below_drew1 | refine below_set ?_ GE706.out) | exact HB.out))) : w.heap.size ≤ gb712)); have n5_ := Aside0.mk ((by rw [hg]; exact (below_size (by repeat (first | (with_reducible first | exact HB.out | apply below_alloc | apply pw_below_drewN | apply below_drew1 | refine below_set ?_ GE706.out) | exact HB.out))) : w.heap.size ≤ gb712)); have n6_ := Aside0.mk ((by rw [hg]; exact Nat.ne_of_lt (blk_lt (g := gb706) (o := .cells #[.int .i64 t700, .string t701, .int .i64 t702, .slice Ao8 t703.length co8] 40 (0, 0)) (by (with_reducible repeat (first | refine blk_drewN ?_ _ | refine blk_drew ?_ | refine blk_alloc ?_ _)); exact BK706.out)) : gb706 ≠ gb712)); have n7_ := Aside0.mk ((by rw [hg]; exact Nat.ne_of_gt (blk_lt (g := gb706) (o := .cells #[.int .i64 t700, .string t701, .int .i64 t702, .slice Ao8 t703.length co8] 40 (0, 0)) (by (with_reducible repeat (first | refine blk_drewN ?_ _ | refine blk_drew ?_ | refine blk_alloc ?_ _)); exact BK706.out)) : gb712 ≠ gb706)); have nz_ := Aside0.mk (Kd.N_below (Kd.N_elderB (by (with_reducible repeat (first | apply Kd.N_alloc | apply Kd.N_drewN | apply Kd.N_drew)); exact HO_707003.out) gb712 (Nat.le_of_eq hg.symm)) hb); clear HO_707003; have HO_707003 := nz_; clear nz_; clear HO711; clear BK706; clear HB; have HO711 := n0_; have BK706 := n1_; have HB := n2_; have BK712 := n3_; have GW712 := n4_; have GE712 := n5_; have NB706_712 := n6_; have NB712_706 := n7_; clear n0_ n1_ n2_ n3_ n4_ n5_ n6_ n7_; clear hb hbox hg; have hnb28 := NB712_706.out; have hnc28 := NB706_712.out; have hcz29_0 : w27.cell? ⟨gb712, 0, none⟩ = some (.int .i64 0) := (blk_cell BK712.out 0).trans rfl; have hcz29_1 : w27.cell? ⟨gb712, 1, none⟩ = some (.string (⟨#[]⟩ : ByteArray)) := (blk_cell BK712.out 1).trans rfl; have hcz29_2 : w27.cell? ⟨gb712, 2, none⟩ = some (.int .i64 0) := (blk_cell BK712.out 2).trans rfl; have hcz29_3 : w27.cell? ⟨gb712, 3, none⟩ = some (.slice none 0 0) := (blk_cell BK712.out 3).trans rfl; have hfz29_0 := blk_frozen BK712.out 0; have hfz29_1 := blk_frozen BK712.out 1; have hfz29_2 := blk_frozen BK712.out 2; have hfz29_3 := blk_frozen BK712.out 3))
                  have n0_ : Aside0 (Kd.N k40 40 ((((w27.setCell ⟨gb712, 0, none⟩ (.int .i64 6)).setCell ⟨gb712, 1, none⟩ (.string (⟨#[]⟩ : ByteArray))).setCell ⟨gb712, 2, none⟩ (.int .i64 0)).setCell ⟨gb712, 3, none⟩ (.slice Ao26 y709.length co26)) w.heap.size (fun k_ => k_ ≠ gb706 ∧ k_ ≠ gb712) (.slice Ao26 y709.length co26) y709) := ⟨by (with_reducible repeat (first | apply Kd.N_alloc | apply Kd.N_drewN | apply Kd.N_drew)); exact Kd.N_mono (Kd.N_far (p := ⟨gb712, 3, none⟩) (Kd.N_far (p := ⟨gb712, 2, none⟩) (Kd.N_far (p := ⟨gb712, 1, none⟩) (Kd.N_far (p := ⟨gb712, 0, none⟩) (Kd.N_mono HO711.out (fun k_ hk => (⟨hk, hk.2⟩ : _ ∧ k_ ≠ gb712))) (fun _ hk => hk.2) (.int .i64 6)) (fun _ hk => hk.2) (.string (⟨#[]⟩ : ByteArray))) (fun _ hk => hk.2) (.int .i64 0)) (fun _ hk => hk.2) (.slice Ao26 y709.length co26)) (fun _ hk => ⟨hk.1.1, hk.1.2⟩)⟩
                  have nz_ : Aside0 (Kd.N k40 40 ((((w27.setCell ⟨gb712, 0, none⟩ (.int .i64 6)).setCell ⟨gb712, 1, none⟩ (.string (⟨#[]⟩ : ByteArray))).setCell ⟨gb712, 2, none⟩ (.int .i64 0)).setCell ⟨gb712, 3, none⟩ (.slice Ao26 y709.length co26)) w.heap.size (fun k_ => k_ ≠ gb706 ∧ k_ ≠ gb712) (.slice Ao8 t703.length co8) t703) := ⟨by (with_reducible repeat (first | apply Kd.N_alloc | apply Kd.N_drewN | apply Kd.N_drew)); exact Kd.N_mono (Kd.N_far (p := ⟨gb712, 3, none⟩) (Kd.N_far (p := ⟨gb712, 2, none⟩) (Kd.N_far (p := ⟨gb712, 1, none⟩) (Kd.N_far (p := ⟨gb712, 0, none⟩) (Kd.N_mono HO_707003.out (fun k_ hk => (⟨hk, hk.2⟩ : _ ∧ k_ ≠ gb712))) (fun _ hk => hk.2) (.int .i64 6)) (fun _ hk => hk.2) (.string (⟨#[]⟩ : ByteArray))) (fun _ hk => hk.2) (.int .i64 0)) (fun _ hk => hk.2) (.slice Ao26 y709.length co26)) (fun _ hk => ⟨hk.1.1, hk.1.2⟩)⟩
                  have n1_ : Aside0 (((((w27.setCell ⟨gb712, 0, none⟩ (.int .i64 6)).setCell ⟨gb712, 1, none⟩ (.string (⟨#[]⟩ : ByteArray))).setCell ⟨gb712, 2, none⟩ (.int .i64 0)).setCell ⟨gb712, 3, none⟩ (.slice Ao26 y709.length co26)).heap[gb706]? = some (.cells #[.int .i64 t700, .string t701, .int .i64 t702, .slice Ao8 t703.length co8] 40 (0, 0))) := ⟨by (with_reducible repeat (first | refine blk_drewN ?_ _ | refine blk_drew ?_ | refine blk_alloc ?_ _)); refine blk_far ?_ NB706_712.out _; (with_reducible repeat (first | refine blk_drewN ?_ _ | refine blk_drew ?_ | refine blk_alloc ?_ _)); refine blk_far ?_ NB706_712.out _; (with_reducible repeat (first | refine blk_drewN ?_ _ | refine blk_drew ?_ | refine blk_alloc ?_ _)); refine blk_far ?_ NB706_712.out _; (with_reducible repeat (first | refine blk_drewN ?_ _ | refine blk_drew ?_ | refine blk_alloc ?_ _)); refine blk_far ?_ NB706_712.out _; (with_reducible repeat (first | refine blk_drewN ?_ _ | refine blk_drew ?_ | refine blk_alloc ?_ _)); exact BK706.out⟩
                  have n2_ : Aside0 (((((w27.setCell ⟨gb712, 0, none⟩ (.int .i64 6)).setCell ⟨gb712, 1, none⟩ (.string (⟨#[]⟩ : ByteArray))).setCell ⟨gb712, 2, none⟩ (.int .i64 0)).setCell ⟨gb712, 3, none⟩ (.slice Ao26 y709.length co26)).heap[gb712]? = some (.cells #[.int .i64 6, .string (⟨#[]⟩ : ByteArray), .int .i64 0, .slice Ao26 y709.length co26] 40 (0, 0))) := ⟨by (with_reducible repeat (first | refine blk_drewN ?_ _ | refine blk_drew ?_ | refine blk_alloc ?_ _)); refine blk_put (cs := #[.int .i64 6, .string (⟨#[]⟩ : ByteArray), .int .i64 0, .slice none 0 0]) ?_ 3 _ rfl; (with_reducible repeat (first | refine blk_drewN ?_ _ | refine blk_drew ?_ | refine blk_alloc ?_ _)); refine blk_put (cs := #[.int .i64 6, .string (⟨#[]⟩ : ByteArray), .int .i64 0, .slice none 0 0]) ?_ 2 _ rfl; (with_reducible repeat (first | refine blk_drewN ?_ _ | refine blk_drew ?_ | refine blk_alloc ?_ _)); refine blk_put (cs := #[.int .i64 6, .string (⟨#[]⟩ : ByteArray), .int .i64 0, .slice none 0 0]) ?_ 1 _ rfl; (with_reducible repeat (first | refine blk_drewN ?_ _ | refine blk_drew ?_ | refine blk_alloc ?_ _)); refine blk_put (cs := #[.int .i64 0, .string (⟨#[]⟩ : ByteArray), .int .i64 0, .slice none 0 0]) ?_ 0 _ rfl; (with_reducible repeat (first | refine blk_drewN ?_ _ | refine blk_drew ?_ | refine blk_alloc ?_ _)); exact BK712.out⟩
                  have n3_ : Aside0 (Below w.heap.size w ((((w27.setCell ⟨gb712, 0, none⟩ (.int .i64 6)).setCell ⟨gb712, 1, none⟩ (.string (⟨#[]⟩ : ByteArray))).setCell ⟨gb712, 2, none⟩ (.int .i64 0)).setCell ⟨gb712, 3, none⟩ (.slice Ao26 y709.length co26))) := ⟨by repeat (first | (with_reducible first | exact HB.out | apply below_alloc | apply pw_below_drewN | apply below_drew1 | refine below_set ?_ GE706.out | refine below_set ?_ GE712.out) | exact HB.out)⟩
                  (try clear HO711)
                  (try clear HO_707003)
                  (try clear BK706)
                  (try clear BK712)
                  (try clear HB)
                  generalize ((((w27.setCell ⟨gb712, 0, none⟩ (.int .i64 6)).setCell ⟨gb712, 1, none⟩ (.string (⟨#[]⟩ : ByteArray))).setCell ⟨gb712, 2, none⟩ (.int .i64 0)).setCell ⟨gb712, 3, none⟩ (.slice Ao26 y709.length co26)) = w30 at n0_ nz_ n1_ n2_ n3_ ⊢
                  have HO711 := n0_
                  have HO_707003 := nz_
                  have BK706 := n1_
                  have BK712 := n2_
                  have HB := n3_
                  clear n0_ nz_ n1_ n2_ n3_
                  have n0_ := Aside0.mk (Kd.N_drew HO711.out)
                  have nz_ := Aside0.mk (Kd.N_drew HO_707003.out)
                  have n1_ := Aside0.mk (blk_drew BK706.out)
                  have n2_ := Aside0.mk (blk_drew BK712.out)
                  have n3_ := Aside0.mk (below_drew1 HB.out)
                  clear HO711
                  clear HO_707003
                  clear BK706
                  clear BK712
                  clear HB
                  have HO711 := n0_
                  have HO_707003 := nz_
                  have BK706 := n1_
                  have BK712 := n2_
                  have HB := n3_
                  clear n0_ nz_ n1_ n2_ n3_
                  refine start_ (n := 29) (S := fun w' => w'.cell? ⟨gb706, 0, none⟩ = some (.int .i64 t700) ∧ w'.cell? ⟨gb706, 1, none⟩ = some (.string t701) ∧ w'.cell? ⟨gb706, 2, none⟩ = some (.int .i64 t702) ∧ w'.cell? ⟨gb706, 3, none⟩ = some (.slice Ao8 t703.length co8) ∧ w'.cell? ⟨gb712, 0, none⟩ = some (.int .i64 6) ∧ w'.cell? ⟨gb712, 1, none⟩ = some (.string (⟨#[]⟩ : ByteArray)) ∧ w'.cell? ⟨gb712, 2, none⟩ = some (.int .i64 0) ∧ w'.cell? ⟨gb712, 3, none⟩ = some (.slice Ao26 y709.length co26)) (ds := []) #[false, false, false, false, false, false, false, false, false, false, false, false, false, false, false, false, false, false, false, false, false, false, false, false, false, false, false, false, false] (by kernel_rfl) rfl rfl ⟨(blk_cell BK706.out 0).trans rfl, (blk_cell BK706.out 1).trans rfl, (blk_cell BK706.out 2).trans rfl, (blk_cell BK706.out 3).trans rfl, (blk_cell BK712.out 0).trans rfl, (blk_cell BK712.out 1).trans rfl, (blk_cell BK712.out 2).trans rfl, (blk_cell BK712.out 3).trans rfl⟩ (fun hHeld => ?_); refine with_tabW laws_FnNodes.tab10 laws_FnNodes.bits10 (fun HT_ HW_ => ?_)
                  generalize w30.drew = w31 at HO711 HO_707003 BK706 BK712 HB hHeld ⊢
                  refine pure_ (i := 2) (N := some 31) (v := ?_) (a' := ?_) #[false, false, true, false, false, false, false, false, false, false, false, false, false, false, false, false, false, false, false, false, false, false, false, false, false, false, false, false, false] rfl rfl (any_of HT_.out (by kernel_rfl)) (fun _ _ _ h => h) (Or.inl ⟨by rfl, ?_⟩) ?_ ?_
                  rotate_left
                  · intro w'
                    go_simp
                    with_reducible rfl
                  rotate_left
                  · simp only [Act.put, List.setIfInBounds_toArray, List.set_cons_zero, List.set_cons_succ, i64_w, i32_w]
                    rfl
                  refine take_ (i := 0) (N := some 29) (v := ?_) (a' := ?_) #[true, false, true, false, false, false, false, false, false, false, false, false, false, false, false, false, false, false, false, false, false, false, false, false, false, false, false, false, false] rfl rfl (take_ofW HT_.out HW_.out (by kernel_rfl)) (fun _ _ _ h => h) (Or.inl ⟨by rfl, ?_⟩) hHeld ?_ ?_
                  rotate_left
                  · rintro w' ⟨s0, s1, s2, s3, s4, s5, s6, s7⟩
                    go_simp
                    with_reducible rfl
                  rotate_left
                  · simp only [Act.put, List.setIfInBounds_toArray, List.set_cons_zero, List.set_cons_succ, i64_w, i32_w]
                    rfl
                  refine one_ (i := 1) (N := some 30) #[true, true, true, false, false, false, false, false, false, false, false, false, false, false, false, false, false, false, false, false, false, false, false, false, false, false, false, false, false] rfl rfl (one_of HT_.out (by kernel_rfl)) (by decide) (fun K hK => ?_)
                  refine goes_ Try.func41 (by kernel_rfl) rfl #[.agg #[.int .i64 t700, .string t701, .int .i64 t702, .slice Ao8 t703.length co8]] (by rfl) rfl rfl (by (try simp only [List.map_toArray, List.map_cons, List.map_nil]); first | done | rfl | (simp only [List.length_drop, List.length_take]; rfl)) ?_
                  with_reducible refine (impl_Nodes.calls k1 t700 t701 t702 _ _ t703 t713 _ ?side1 ?side2 A14.out).mono ?_
                  (case side1 => repeat (first | exact (Kd.N_reads' HO_707003.out).2.2 | (with_reducible refine Kd.C_alloc ?_ _) | (with_reducible refine Kd.C_drewN ?_ _) | (with_reducible refine Kd.C_drew ?_)))
                  (case side2 => exact (Kd.N_reads' HO_707003.out).2.1)
                  rintro e w32 ⟨rfl, hb⟩
                  refine ⟨_, rfl, ?_⟩
                  have n0_ := Aside0.mk (Kd.N_below (by (with_reducible repeat (first | apply Kd.N_alloc | apply Kd.N_drewN | apply Kd.N_drew)); exact HO711.out) hb)
                  have nz_ := Aside0.mk (Kd.N_below (by (with_reducible repeat (first | apply Kd.N_alloc | apply Kd.N_drewN | apply Kd.N_drew)); exact HO_707003.out) hb)
                  have n1_ := Aside0.mk (blk_below (g := gb706) (o := .cells #[.int .i64 t700, .string t701, .int .i64 t702, .slice Ao8 t703.length co8] 40 (0, 0)) (by (with_reducible repeat (first | refine blk_drewN ?_ _ | refine blk_drew ?_ | refine blk_alloc ?_ _)); exact BK706.out) hb)
                  have n2_ := Aside0.mk (blk_below (g := gb712) (o := .cells #[.int .i64 6, .string (⟨#[]⟩ : ByteArray), .int .i64 0, .slice Ao26 y709.length co26] 40 (0, 0)) (by (with_reducible repeat (first | refine blk_drewN ?_ _ | refine blk_drew ?_ | refine blk_alloc ?_ _)); exact BK712.out) hb)
                  have n3_ := Aside0.mk (below_step (by repeat (first | (with_reducible first | exact HB.out | apply below_alloc | apply pw_below_drewN | apply below_drew1 | refine below_set ?_ GE706.out | refine below_set ?_ GE712.out) | exact HB.out)) hb)
                  clear HO711
                  clear HO_707003
                  clear BK706
                  clear BK712
                  clear HB
                  have HO711 := n0_
                  have HO_707003 := nz_
                  have BK706 := n1_
                  have BK712 := n2_
                  have HB := n3_
                  clear n0_ nz_ n1_ n2_ n3_
                  (try clear hb)
                  (try clear hb2)
                  (try clear hk)
                  (try clear hi)
                  refine hK.out _ _ ⟨(blk_cell BK706.out 0).trans rfl, (blk_cell BK706.out 1).trans rfl, (blk_cell BK706.out 2).trans rfl, (blk_cell BK706.out 3).trans rfl, (blk_cell BK712.out 0).trans rfl, (blk_cell BK712.out 1).trans rfl, (blk_cell BK712.out 2).trans rfl, (blk_cell BK712.out 3).trans rfl⟩ (fun hHeld => ?_)
                  clear hK K
                  refine norm_ (a' := ?_) ?_ ?_
                  rotate_left
                  · show Act.put _ (some 30) _ = _
                    simp only [Act.put, List.setIfInBounds_toArray, List.set_cons_zero, List.set_cons_succ, i64_w, i32_w]
                    rfl
                  refine pure_ (i := 3) (N := some 32) (v := ?_) (a' := ?_) #[true, true, true, true, false, false, false, false, false, false, false, false, false, false, false, false, false, false, false, false, false, false, false, false, false, false, false, false, false] rfl rfl (any_of HT_.out (by kernel_rfl)) (fun _ _ _ h => h) (Or.inl ⟨by rfl, ?_⟩) ?_ ?_
                  rotate_left
                  · intro w'
                    go_simp
                    with_reducible rfl
                  rotate_left
                  · simp only [Act.put, List.setIfInBounds_toArray, List.set_cons_zero, List.set_cons_succ, i64_w, i32_w]
                    rfl
                  refine pure_ (i := 4) (N := some 33) (v := ?_) (a' := ?_) #[true, true, true, true, true, false, false, false, false, false, false, false, false, false, false, false, false, false, false, false, false, false, false, false, false, false, false, false, false] rfl rfl (any_of HT_.out (by kernel_rfl)) (fun _ _ _ h => h) (Or.inl ⟨by rfl, ?_⟩) ?_ ?_
                  rotate_left
                  · intro w'
                    go_simp
                    with_reducible rfl
                  rotate_left
                  · simp only [Act.put, List.setIfInBounds_toArray, List.set_cons_zero, List.set_cons_succ, i64_w, i32_w]
                    rfl
                  refine pure_ (i := 5) (N := some 34) (v := ?_) (a' := ?_) #[true, true, true, true, true, true, false, false, false, false, false, false, false, false, false, false, false, false, false, false, false, false, false, false, false, false, false, false, false] rfl rfl (any_of HT_.out (by kernel_rfl)) (fun _ _ _ h => h) (Or.inl ⟨by rfl, ?_⟩) ?_ ?_
                  rotate_left
                  · intro w'
                    go_simp
                    with_reducible rfl
                  rotate_left
                  · simp only [Act.put, List.setIfInBounds_toArray, List.set_cons_zero, List.set_cons_succ, i64_w, i32_w]
                    rfl
                  refine take_ (i := 6) (N := some 35) (v := ?_) (a' := ?_) #[true, true, true, true, true, true, true, false, false, false, false, false, false, false, false, false, false, false, false, false, false, false, false, false, false, false, false, false, false] rfl rfl (take_ofW HT_.out HW_.out (by kernel_rfl)) (fun _ _ _ h => h) (Or.inl ⟨by rfl, ?_⟩) hHeld ?_ ?_
                  rotate_left
                  · rintro w' ⟨s0, s1, s2, s3, s4, s5, s6, s7⟩
                    go_simp
                    with_reducible rfl
                  rotate_left
                  · simp only [Act.put, List.setIfInBounds_toArray, List.set_cons_zero, List.set_cons_succ, i64_w, i32_w]
                    rfl
                  refine one_ (i := 7) (N := some 36) #[true, true, true, true, true, true, true, true, false, false, false, false, false, false, false, false, false, false, false, false, false, false, false, false, false, false, false, false, false] rfl rfl (one_of HT_.out (by kernel_rfl)) (by decide) (fun K hK => ?_)
                  refine goes_ Try.func46 (by kernel_rfl) rfl #[.agg #[.int .i64 t700, .string t701, .int .i64 t702, .slice Ao8 t703.length co8]] (by rfl) rfl rfl (by (try simp only [List.map_toArray, List.map_cons, List.map_nil]); first | done | rfl | (simp only [List.length_drop, List.length_take]; rfl)) ?_
                  with_reducible refine (spec_Nodes.calls k1 t700 t701 t702 _ _ t703 t714 _ ?side1 ?side2 A16.out).mono ?_
                  (case side1 => repeat (first | exact (Kd.N_reads' HO_707003.out).2.2 | (with_reducible refine Kd.C_alloc ?_ _) | (with_reducible refine Kd.C_drewN ?_ _) | (with_reducible refine Kd.C_drew ?_)))
                  (case side2 => exact (Kd.N_reads' HO_707003.out).2.1)
                  rintro e w33 ⟨rfl, hb⟩
                  refine ⟨_, rfl, ?_⟩
                  have n0_ := Aside0.mk (Kd.N_below (by (with_reducible repeat (first | apply Kd.N_alloc | apply Kd.N_drewN | apply Kd.N_drew)); exact HO711.out) hb)
                  have nz_ := Aside0.mk (Kd.N_below (by (with_reducible repeat (first | apply Kd.N_alloc | apply Kd.N_drewN | apply Kd.N_drew)); exact HO_707003.out) hb)
                  have n1_ := Aside0.mk (blk_below (g := gb706) (o := .cells #[.int .i64 t700, .string t701, .int .i64 t702, .slice Ao8 t703.length co8] 40 (0, 0)) (by (with_reducible repeat (first | refine blk_drewN ?_ _ | refine blk_drew ?_ | refine blk_alloc ?_ _)); exact BK706.out) hb)
                  have n2_ := Aside0.mk (blk_below (g := gb712) (o := .cells #[.int .i64 6, .string (⟨#[]⟩ : ByteArray), .int .i64 0, .slice Ao26 y709.length co26] 40 (0, 0)) (by (with_reducible repeat (first | refine blk_drewN ?_ _ | refine blk_drew ?_ | refine blk_alloc ?_ _)); exact BK712.out) hb)
                  have n3_ := Aside0.mk (below_step (by repeat (first | (with_reducible first | exact HB.out | apply below_alloc | apply pw_below_drewN | apply below_drew1 | refine below_set ?_ GE706.out | refine below_set ?_ GE712.out) | exact HB.out)) hb)
                  clear HO711
                  clear HO_707003
                  clear BK706
                  clear BK712
                  clear HB
                  have HO711 := n0_
                  have HO_707003 := nz_
                  have BK706 := n1_
                  have BK712 := n2_
                  have HB := n3_
                  clear n0_ nz_ n1_ n2_ n3_
                  (try clear hb)
                  (try clear hb2)
                  (try clear hk)
                  (try clear hi)
                  refine hK.out _ _ ⟨(blk_cell BK706.out 0).trans rfl, (blk_cell BK706.out 1).trans rfl, (blk_cell BK706.out 2).trans rfl, (blk_cell BK706.out 3).trans rfl, (blk_cell BK712.out 0).trans rfl, (blk_cell BK712.out 1).trans rfl, (blk_cell BK712.out 2).trans rfl, (blk_cell BK712.out 3).trans rfl⟩ (fun hHeld => ?_)
                  clear hK K
                  refine norm_ (a' := ?_) ?_ ?_
                  rotate_left
                  · show Act.put _ (some 36) _ = _
                    simp only [Act.put, List.setIfInBounds_toArray, List.set_cons_zero, List.set_cons_succ, i64_w, i32_w]
                    rfl
                  refine pure_ (i := 8) (N := some 37) (v := ?_) (a' := ?_) #[true, true, true, true, true, true, true, true, true, false, false, false, false, false, false, false, false, false, false, false, false, false, false, false, false, false, false, false, false] rfl rfl (any_of HT_.out (by kernel_rfl)) (fun _ _ _ h => h) (Or.inl ⟨by rfl, ?_⟩) ?_ ?_
                  rotate_left
                  · intro w'
                    go_simp
                    with_reducible rfl
                  rotate_left
                  · simp only [Act.put, List.setIfInBounds_toArray, List.set_cons_zero, List.set_cons_succ, i64_w, i32_w]
                    rfl
                  refine pure_ (i := 9) (N := some 38) (v := ?_) (a' := ?_) #[true, true, true, true, true, true, true, true, true, true, false, false, false, false, false, false, false, false, false, false, false, false, false, false, false, false, false, false, false] rfl rfl (any_of HT_.out (by kernel_rfl)) (fun _ _ _ h => h) (Or.inl ⟨by rfl, ?_⟩) ?_ ?_
                  rotate_left
                  · intro w'
                    go_simp
                    with_reducible rfl
                  rotate_left
                  · simp only [Act.put, List.setIfInBounds_toArray, List.set_cons_zero, List.set_cons_succ, i64_w, i32_w]
                    rfl
                  refine pure_ (i := 10) (N := some 39) (v := ?_) (a' := ?_) #[true, true, true, true, true, true, true, true, true, true, true, false, false, false, false, false, false, false, false, false, false, false, false, false, false, false, false, false, false] rfl rfl (any_of HT_.out (by kernel_rfl)) (fun _ _ _ h => h) (Or.inl ⟨by rfl, ?_⟩) ?_ ?_
                  rotate_left
                  · intro w'
                    go_simp
                    with_reducible rfl
                  rotate_left
                  · simp only [Act.put, List.setIfInBounds_toArray, List.set_cons_zero, List.set_cons_succ, i64_w, i32_w]
                    rfl
                  refine pure_ (i := 13) (N := some 42) (v := ?_) (a' := ?_) #[true, true, true, true, true, true, true, true, true, true, true, false, false, true, false, false, false, false, false, false, false, false, false, false, false, false, false, false, false] rfl rfl (any_of HT_.out (by kernel_rfl)) (fun _ _ _ h => h) (Or.inl ⟨by rfl, ?_⟩) ?_ ?_
                  rotate_left
                  · intro w'
                    go_simp
                    with_reducible rfl
                  rotate_left
                  · simp only [Act.put, List.setIfInBounds_toArray, List.set_cons_zero, List.set_cons_succ, i64_w, i32_w]
                    rfl
                  refine pure_ (i := 14) (N := some 43) (v := ?_) (a' := ?_) #[true, true, true, true, true, true, true, true, true, true, true, false, false, true, true, false, false, false, false, false, false, false, false, false, false, false, false, false, false] rfl rfl (any_of HT_.out (by kernel_rfl)) (fun _ _ _ h => h) (Or.inl ⟨by rfl, ?_⟩) ?_ ?_
                  rotate_left
                  · intro w'
                    go_simp
                    with_reducible rfl
                  rotate_left
                  · simp only [Act.put, List.setIfInBounds_toArray, List.set_cons_zero, List.set_cons_succ, i64_w, i32_w]
                    rfl
                  refine take_ (i := 11) (N := some 40) (v := ?_) (a' := ?_) #[true, true, true, true, true, true, true, true, true, true, true, true, false, true, true, false, false, false, false, false, false, false, false, false, false, false, false, false, false] rfl rfl (take_ofW HT_.out HW_.out (by kernel_rfl)) (fun _ _ _ h => h) (Or.inl ⟨by rfl, ?_⟩) hHeld ?_ ?_
                  rotate_left
                  · rintro w' ⟨s0, s1, s2, s3, s4, s5, s6, s7⟩
                    go_simp
                    with_reducible rfl
                  rotate_left
                  · simp only [Act.put, List.setIfInBounds_toArray, List.set_cons_zero, List.set_cons_succ, i64_w, i32_w]
                    rfl
                  refine one_ (i := 12) (N := some 41) #[true, true, true, true, true, true, true, true, true, true, true, true, true, true, true, false, false, false, false, false, false, false, false, false, false, false, false, false, false] rfl rfl (one_of HT_.out (by kernel_rfl)) (by decide) (fun K hK => ?_)
                  refine goes_ Try.func41 (by kernel_rfl) rfl #[.agg #[.int .i64 6, .string (⟨#[]⟩ : ByteArray), .int .i64 0, .slice Ao26 y709.length co26]] (by rfl) rfl rfl (by (try simp only [List.map_toArray, List.map_cons, List.map_nil]); first | done | rfl | (simp only [List.length_drop, List.length_take]; rfl)) ?_
                  with_reducible refine (impl_Nodes.calls k1 6 (⟨#[]⟩ : ByteArray) 0 _ _ y709 t715 _ ?side1 ?side2 A18.out).mono ?_
                  (case side1 => repeat (first | exact (Kd.N_reads' HO711.out).2.2 | (with_reducible refine Kd.C_alloc ?_ _) | (with_reducible refine Kd.C_drewN ?_ _) | (with_reducible refine Kd.C_drew ?_)))
                  (case side2 => exact (Kd.N_reads' HO711.out).2.1)
                  rintro e w34 ⟨rfl, hb⟩
                  refine ⟨_, rfl, ?_⟩
                  have n0_ := Aside0.mk (Kd.N_below (by (with_reducible repeat (first | apply Kd.N_alloc | apply Kd.N_drewN | apply Kd.N_drew)); exact HO711.out) hb)
                  have nz_ := Aside0.mk (Kd.N_below (by (with_reducible repeat (first | apply Kd.N_alloc | apply Kd.N_drewN | apply Kd.N_drew)); exact HO_707003.out) hb)
                  have n1_ := Aside0.mk (blk_below (g := gb706) (o := .cells #[.int .i64 t700, .string t701, .int .i64 t702, .slice Ao8 t703.length co8] 40 (0, 0)) (by (with_reducible repeat (first | refine blk_drewN ?_ _ | refine blk_drew ?_ | refine blk_alloc ?_ _)); exact BK706.out) hb)
                  have n2_ := Aside0.mk (blk_below (g := gb712) (o := .cells #[.int .i64 6, .string (⟨#[]⟩ : ByteArray), .int .i64 0, .slice Ao26 y709.length co26] 40 (0, 0)) (by (with_reducible repeat (first | refine blk_drewN ?_ _ | refine blk_drew ?_ | refine blk_alloc ?_ _)); exact BK712.out) hb)
                  have n3_ := Aside0.mk (below_step (by repeat (first | (with_reducible first | exact HB.out | apply below_alloc | apply pw_below_drewN | apply below_drew1 | refine below_set ?_ GE706.out | refine below_set ?_ GE712.out) | exact HB.out)) hb)
                  clear HO711
                  clear HO_707003
                  clear BK706
                  clear BK712
                  clear HB
                  have HO711 := n0_
                  have HO_707003 := nz_
                  have BK706 := n1_
                  have BK712 := n2_
                  have HB := n3_
                  clear n0_ nz_ n1_ n2_ n3_
                  (try clear hb)
                  (try clear hb2)
                  (try clear hk)
                  (try clear hi)
                  refine hK.out _ _ ⟨(blk_cell BK706.out 0).trans rfl, (blk_cell BK706.out 1).trans rfl, (blk_cell BK706.out 2).trans rfl, (blk_cell BK706.out 3).trans rfl, (blk_cell BK712.out 0).trans rfl, (blk_cell BK712.out 1).trans rfl, (blk_cell BK712.out 2).trans rfl, (blk_cell BK712.out 3).trans rfl⟩ (fun hHeld => ?_)
                  clear hK K
                  refine norm_ (a' := ?_) ?_ ?_
                  rotate_left
                  · show Act.put _ (some 41) _ = _
                    simp only [Act.put, List.setIfInBounds_toArray, List.set_cons_zero, List.set_cons_succ, i64_w, i32_w]
                    rfl
                  refine pure_ (i := 15) (N := some 44) (v := ?_) (a' := ?_) #[true, true, true, true, true, true, true, true, true, true, true, true, true, true, true, true, false, false, false, false, false, false, false, false, false, false, false, false, false] rfl rfl (any_of HT_.out (by kernel_rfl)) (fun _ _ _ h => h) (Or.inl ⟨by rfl, ?_⟩) ?_ ?_
                  rotate_left
                  · intro w'
                    go_simp
                    with_reducible rfl
                  rotate_left
                  · simp only [Act.put, List.setIfInBounds_toArray, List.set_cons_zero, List.set_cons_succ, i64_w, i32_w]
                    rfl
                  refine pure_ (i := 16) (N := some 45) (v := ?_) (a' := ?_) #[true, true, true, true, true, true, true, true, true, true, true, true, true, true, true, true, true, false, false, false, false, false, false, false, false, false, false, false, false] rfl rfl (any_of HT_.out (by kernel_rfl)) (fun _ _ _ h => h) (Or.inl ⟨by rfl, ?_⟩) ?_ ?_
                  rotate_left
                  · intro w'
                    go_simp
                    with_reducible rfl
                  rotate_left
                  · simp only [Act.put, List.setIfInBounds_toArray, List.set_cons_zero, List.set_cons_succ, i64_w, i32_w]
                    rfl
                  refine pure_ (i := 17) (N := some 46) (v := ?_) (a' := ?_) #[true, true, true, true, true, true, true, true, true, true, true, true, true, true, true, true, true, true, false, false, false, false, false, false, false, false, false, false, false] rfl rfl (any_of HT_.out (by kernel_rfl)) (fun _ _ _ h => h) (Or.inl ⟨by rfl, ?_⟩) ?_ ?_
                  rotate_left
                  · intro w'
                    go_simp
                    with_reducible rfl
                  rotate_left
                  · simp only [Act.put, List.setIfInBounds_toArray, List.set_cons_zero, List.set_cons_succ, i64_w, i32_w]
                    rfl
                  refine take_ (i := 18) (N := some 47) (v := ?_) (a' := ?_) #[true, true, true, true, true, true, true, true, true, true, true, true, true, true, true, true, true, true, true, false, false, false, false, false, false, false, false, false, false] rfl rfl (take_ofW HT_.out HW_.out (by kernel_rfl)) (fun _ _ _ h => h) (Or.inl ⟨by rfl, ?_⟩) hHeld ?_ ?_
                  rotate_left
                  · rintro w' ⟨s0, s1, s2, s3, s4, s5, s6, s7⟩
                    go_simp
                    with_reducible rfl
                  rotate_left
                  · simp only [Act.put, List.setIfInBounds_toArray, List.set_cons_zero, List.set_cons_succ, i64_w, i32_w]
                    rfl
                  refine take_ (i := 20) (N := some 49) (v := ?_) (a' := ?_) #[true, true, true, true, true, true, true, true, true, true, true, true, true, true, true, true, true, true, true, false, true, false, false, false, false, false, false, false, false] rfl rfl (take_ofW HT_.out HW_.out (by kernel_rfl)) (fun _ _ _ h => h) (Or.inl ⟨by rfl, ?_⟩) hHeld ?_ ?_
                  rotate_left
                  · rintro w' ⟨s0, s1, s2, s3, s4, s5, s6, s7⟩
                    go_simp
                    with_reducible rfl
                  rotate_left
                  · simp only [Act.put, List.setIfInBounds_toArray, List.set_cons_zero, List.set_cons_succ, i64_w, i32_w]
                    rfl
                  refine one_ (i := 19) (N := some 48) #[true, true, true, true, true, true, true, true, true, true, true, true, true, true, true, true, true, true, true, true, true, false, false, false, false, false, false, false, false] rfl rfl (one_of HT_.out (by kernel_rfl)) (by decide) (fun K hK => ?_)
                  refine goes_ Try.func44 (by kernel_rfl) rfl #[.agg #[.int .i64 6, .string (⟨#[]⟩ : ByteArray), .int .i64 0, .slice Ao26 y709.length co26]] (by rfl) rfl rfl (by (try simp only [List.map_toArray, List.map_cons, List.map_nil]); first | done | rfl | (simp only [List.length_drop, List.length_take]; rfl)) ?_
                  with_reducible refine (impl_ExprOk.calls k1 6 (⟨#[]⟩ : ByteArray) 0 _ _ y709 t716 _ ?side1 ?side2 A20.out).mono ?_
                  (case side1 => repeat (first | exact (Kd.N_reads' HO711.out).2.2 | (with_reducible refine Kd.C_alloc ?_ _) | (with_reducible refine Kd.C_drewN ?_ _) | (with_reducible refine Kd.C_drew ?_)))
                  (case side2 => exact (Kd.N_reads' HO711.out).2.1)
                  rintro e w35 ⟨rfl, hb⟩
                  refine ⟨_, rfl, ?_⟩
                  have n0_ := Aside0.mk (Kd.N_below (by (with_reducible repeat (first | apply Kd.N_alloc | apply Kd.N_drewN | apply Kd.N_drew)); exact HO711.out) hb)
                  have nz_ := Aside0.mk (Kd.N_below (by (with_reducible repeat (first | apply Kd.N_alloc | apply Kd.N_drewN | apply Kd.N_drew)); exact HO_707003.out) hb)
                  have n1_ := Aside0.mk (blk_below (g := gb706) (o := .cells #[.int .i64 t700, .string t701, .int .i64 t702, .slice Ao8 t703.length co8] 40 (0, 0)) (by (with_reducible repeat (first | refine blk_drewN ?_ _ | refine blk_drew ?_ | refine blk_alloc ?_ _)); exact BK706.out) hb)
                  have n2_ := Aside0.mk (blk_below (g := gb712) (o := .cells #[.int .i64 6, .string (⟨#[]⟩ : ByteArray), .int .i64 0, .slice Ao26 y709.length co26] 40 (0, 0)) (by (with_reducible repeat (first | refine blk_drewN ?_ _ | refine blk_drew ?_ | refine blk_alloc ?_ _)); exact BK712.out) hb)
                  have n3_ := Aside0.mk (below_step (by repeat (first | (with_reducible first | exact HB.out | apply below_alloc | apply pw_below_drewN | apply below_drew1 | refine below_set ?_ GE706.out | refine below_set ?_ GE712.out) | exact HB.out)) hb)
                  clear HO711
                  clear HO_707003
                  clear BK706
                  clear BK712
                  clear HB
                  have HO711 := n0_
                  have HO_707003 := nz_
                  have BK706 := n1_
                  have BK712 := n2_
                  have HB := n3_
                  clear n0_ nz_ n1_ n2_ n3_
                  (try clear hb)
                  (try clear hb2)
                  (try clear hk)
                  (try clear hi)
                  refine hK.out _ _ ⟨(blk_cell BK706.out 0).trans rfl, (blk_cell BK706.out 1).trans rfl, (blk_cell BK706.out 2).trans rfl, (blk_cell BK706.out 3).trans rfl, (blk_cell BK712.out 0).trans rfl, (blk_cell BK712.out 1).trans rfl, (blk_cell BK712.out 2).trans rfl, (blk_cell BK712.out 3).trans rfl⟩ (fun hHeld => ?_)
                  clear hK K
                  refine norm_ (a' := ?_) ?_ ?_
                  rotate_left
                  · show Act.put _ (some 48) _ = _
                    simp only [Act.put, List.setIfInBounds_toArray, List.set_cons_zero, List.set_cons_succ, i64_w, i32_w]
                    rfl
                  refine one_ (i := 21) (N := some 50) #[true, true, true, true, true, true, true, true, true, true, true, true, true, true, true, true, true, true, true, true, true, true, false, false, false, false, false, false, false] rfl rfl (one_of HT_.out (by kernel_rfl)) (by decide) (fun K hK => ?_)
                  refine goes_ Try.func43 (by kernel_rfl) rfl #[.agg #[.int .i64 t700, .string t701, .int .i64 t702, .slice Ao8 t703.length co8]] (by rfl) rfl rfl (by (try simp only [List.map_toArray, List.map_cons, List.map_nil]); first | done | rfl | (simp only [List.length_drop, List.length_take]; rfl)) ?_
                  with_reducible refine (spec_ExprOk.calls k1 t700 t701 t702 _ _ t703 true _ ?side1 ?side2 A21.out).mono ?_
                  (case side1 => repeat (first | exact (Kd.N_reads' HO_707003.out).2.2 | (with_reducible refine Kd.C_alloc ?_ _) | (with_reducible refine Kd.C_drewN ?_ _) | (with_reducible refine Kd.C_drew ?_)))
                  (case side2 => exact (Kd.N_reads' HO_707003.out).2.1)
                  rintro e w36 ⟨rfl, hb⟩
                  refine ⟨_, rfl, ?_⟩
                  have n0_ := Aside0.mk (Kd.N_below (by (with_reducible repeat (first | apply Kd.N_alloc | apply Kd.N_drewN | apply Kd.N_drew)); exact HO711.out) hb)
                  have nz_ := Aside0.mk (Kd.N_below (by (with_reducible repeat (first | apply Kd.N_alloc | apply Kd.N_drewN | apply Kd.N_drew)); exact HO_707003.out) hb)
                  have n1_ := Aside0.mk (blk_below (g := gb706) (o := .cells #[.int .i64 t700, .string t701, .int .i64 t702, .slice Ao8 t703.length co8] 40 (0, 0)) (by (with_reducible repeat (first | refine blk_drewN ?_ _ | refine blk_drew ?_ | refine blk_alloc ?_ _)); exact BK706.out) hb)
                  have n2_ := Aside0.mk (blk_below (g := gb712) (o := .cells #[.int .i64 6, .string (⟨#[]⟩ : ByteArray), .int .i64 0, .slice Ao26 y709.length co26] 40 (0, 0)) (by (with_reducible repeat (first | refine blk_drewN ?_ _ | refine blk_drew ?_ | refine blk_alloc ?_ _)); exact BK712.out) hb)
                  have n3_ := Aside0.mk (below_step (by repeat (first | (with_reducible first | exact HB.out | apply below_alloc | apply pw_below_drewN | apply below_drew1 | refine below_set ?_ GE706.out | refine below_set ?_ GE712.out) | exact HB.out)) hb)
                  clear HO711
                  clear HO_707003
                  clear BK706
                  clear BK712
                  clear HB
                  have HO711 := n0_
                  have HO_707003 := nz_
                  have BK706 := n1_
                  have BK712 := n2_
                  have HB := n3_
                  clear n0_ nz_ n1_ n2_ n3_
                  (try clear hb)
                  (try clear hb2)
                  (try clear hk)
                  (try clear hi)
                  refine hK.out _ _ ⟨(blk_cell BK706.out 0).trans rfl, (blk_cell BK706.out 1).trans rfl, (blk_cell BK706.out 2).trans rfl, (blk_cell BK706.out 3).trans rfl, (blk_cell BK712.out 0).trans rfl, (blk_cell BK712.out 1).trans rfl, (blk_cell BK712.out 2).trans rfl, (blk_cell BK712.out 3).trans rfl⟩ (fun hHeld => ?_)
                  clear hK K
                  refine norm_ (a' := ?_) ?_ ?_
                  rotate_left
                  · show Act.put _ (some 50) _ = _
                    simp only [Act.put, List.setIfInBounds_toArray, List.set_cons_zero, List.set_cons_succ, i64_w, i32_w]
                    rfl
                  refine pure_ (i := 22) (N := some 51) (v := ?_) (a' := ?_) #[true, true, true, true, true, true, true, true, true, true, true, true, true, true, true, true, true, true, true, true, true, true, true, false, false, false, false, false, false] rfl rfl (any_of HT_.out (by kernel_rfl)) (fun _ _ _ h => h) (Or.inl ⟨by rfl, ?_⟩) ?_ ?_
                  rotate_left
                  · intro w'
                    go_simp
                    with_reducible rfl
                  rotate_left
                  · simp only [Act.put, List.setIfInBounds_toArray, List.set_cons_zero, List.set_cons_succ, i64_w, i32_w]
                    rfl
                  refine pure_ (i := 23) (N := some 52) (v := ?_) (a' := ?_) #[true, true, true, true, true, true, true, true, true, true, true, true, true, true, true, true, true, true, true, true, true, true, true, true, false, false, false, false, false] rfl rfl (any_of HT_.out (by kernel_rfl)) (fun _ _ _ h => h) (Or.inl ⟨by rfl, ?_⟩) ?_ ?_
                  rotate_left
                  · intro w'
                    go_simp
                    with_reducible rfl
                  rotate_left
                  · simp only [Act.put, List.setIfInBounds_toArray, List.set_cons_zero, List.set_cons_succ, i64_w, i32_w]
                    rfl
                  refine pure_ (i := 24) (N := some 53) (v := ?_) (a' := ?_) #[true, true, true, true, true, true, true, true, true, true, true, true, true, true, true, true, true, true, true, true, true, true, true, true, true, false, false, false, false] rfl rfl (any_of HT_.out (by kernel_rfl)) (fun _ _ _ h => h) (Or.inl ⟨by rfl, ?_⟩) ?_ ?_
                  rotate_left
                  · intro w'
                    go_simp
                    with_reducible rfl
                  rotate_left
                  · simp only [Act.put, List.setIfInBounds_toArray, List.set_cons_zero, List.set_cons_succ, i64_w, i32_w]
                    rfl
                  refine pure_ (i := 25) (N := some 54) (v := ?_) (a' := ?_) #[true, true, true, true, true, true, true, true, true, true, true, true, true, true, true, true, true, true, true, true, true, true, true, true, true, true, false, false, false] rfl rfl (any_of HT_.out (by kernel_rfl)) (fun _ _ _ h => h) (Or.inl ⟨by rfl, ?_⟩) ?_ ?_
                  rotate_left
                  · intro w'
                    go_simp
                    with_reducible rfl
                  rotate_left
                  · simp only [Act.put, List.setIfInBounds_toArray, List.set_cons_zero, List.set_cons_succ, i64_w, i32_w]
                    rfl
                  refine pure_ (i := 26) (N := some 55) (v := ?_) (a' := ?_) #[true, true, true, true, true, true, true, true, true, true, true, true, true, true, true, true, true, true, true, true, true, true, true, true, true, true, true, false, false] rfl rfl (any_of HT_.out (by kernel_rfl)) (fun _ _ _ h => h) (Or.inl ⟨by rfl, ?_⟩) ?_ ?_
                  rotate_left
                  · intro w'
                    go_simp
                    with_reducible rfl
                  rotate_left
                  · simp only [Act.put, List.setIfInBounds_toArray, List.set_cons_zero, List.set_cons_succ, i64_w, i32_w]
                    rfl
                  refine pure_ (i := 27) (N := some 56) (v := ?_) (a' := ?_) #[true, true, true, true, true, true, true, true, true, true, true, true, true, true, true, true, true, true, true, true, true, true, true, true, true, true, true, true, false] rfl rfl (any_of HT_.out (by kernel_rfl)) (fun _ _ _ h => h) (Or.inl ⟨by rfl, ?_⟩) ?_ ?_
                  rotate_left
                  · intro w'
                    go_simp
                    with_reducible rfl
                  rotate_left
                  · simp only [Act.put, List.setIfInBounds_toArray, List.set_cons_zero, List.set_cons_succ, i64_w, i32_w]
                    rfl
                  refine pure_ (i := 28) (N := some 2) (v := ?_) (a' := ?_) #[true, true, true, true, true, true, true, true, true, true, true, true, true, true, true, true, true, true, true, true, true, true, true, true, true, true, true, true, true] rfl rfl (any_of HT_.out (by kernel_rfl)) (fun _ _ _ h => h) (Or.inl ⟨by rfl, ?_⟩) ?_ ?_
                  rotate_left
                  · intro w'
                    go_simp
                    with_reducible rfl
                  rotate_left
                  · simp only [Act.put, List.setIfInBounds_toArray, List.set_cons_zero, List.set_cons_succ, i64_w, i32_w]
                    rfl
                  refine done_ (done_of HT_.out (by kernel_rfl)) ?_
                  try go_wp2
                  go_ret
                  exact ⟨by first | rfl | (simp [errW_none, errW_some] <;> rfl) | (simp [*, errW_none, errW_some] <;> rfl), by repeat (first | (with_reducible first | exact HB.out | apply below_alloc | apply pw_below_drewN | apply below_drew1 | refine below_set ?_ GE706.out | refine below_set ?_ GE712.out) | exact HB.out)⟩
                · replace c22 := Bool.eq_false_iff.mpr c22
                  subst c22
                  have H1 : (some (t716 == false)) = some r := by rw [if_neg (show ¬ (false = true) by decide)] at H; exact H
                  clear H
                  have H := H1
                  clear H1
                  obtain rfl := Option.some.inj H
                  have hcz37_0 : wr.cell? ⟨gb706, 0, none⟩ = some (.int .i64 t700) := (blk_cell BK706.out 0).trans rfl
                  have hcz37_1 : wr.cell? ⟨gb706, 1, none⟩ = some (.string t701) := (blk_cell BK706.out 1).trans rfl
                  have hcz37_2 : wr.cell? ⟨gb706, 2, none⟩ = some (.int .i64 t702) := (blk_cell BK706.out 2).trans rfl
                  have hcz37_3 : wr.cell? ⟨gb706, 3, none⟩ = some (.slice Ao8 t703.length co8) := (blk_cell BK706.out 3).trans rfl
                  have hfz37_0 := blk_frozen BK706.out 0
                  have hfz37_1 := blk_frozen BK706.out 1
                  have hfz37_2 := blk_frozen BK706.out 2
                  have hfz37_3 := blk_frozen BK706.out 3
                  try go_wp2_with (first | ((with_reducible refine gate_dst (N := 27) rfl ?_); refine Kd.N_lit k40 _ 40 ?hg (N' := 27) ?hd (xs := ([(⟨t700, t701, t702, t703⟩ : S40)] : List (S40))) (inner := [.int .i64 t700, .string t701, .int .i64 t702, .slice Ao8 t703.length co8]) (ok := (fun k_ => k_ ≠ gb706)) (okp := (fun k_ => k_ ≠ gb706)) ?hr ?hp (fun _ hk => hk) ((show ∀ k_, wr.heap.size ≤ k_ → (fun k_ => k_ ≠ gb706) k_ from fun k_ hk => Kd.freshB (g := gb706) (o := .cells #[.int .i64 t700, .string t701, .int .i64 t702, .slice Ao8 t703.length co8] 40 (0, 0)) (by (with_reducible repeat (first | refine blk_drewN ?_ _ | refine blk_drew ?_ | refine blk_alloc ?_ _)); exact BK706.out) k_ hk) _ (Nat.le_refl _)) (Below.refl _ _) (Nat.le_refl _) (by simp) ?_; (case hd => rfl); (case hg => rfl); (case hr => first | (go_simp; done) | (go_simp; rfl)); (case hp => exact (Reps.c4 (show Kd.FK k40 _ _ (⟨t700, t701, t702, t703⟩ : S40) [.int .i64 t700, .string t701, .int .i64 t702, .slice Ao8 t703.length co8] from (k40_mkF _ _ (⟨t700, t701, t702, t703⟩ : S40) (Kd.N_reads' (Kd.N_mono (ok' := (fun k_ => k_ ≠ gb706)) (HO_707003.out) (fun k_ hk => hk))).2.1 (Kd.N_F (Kd.N_mono (ok' := (fun k_ => k_ ≠ gb706)) (HO_707003.out) (fun k_ hk => hk))))) (Reps.none _ _))); intro v710 w38 ho39 hb hg_ hnew_; clear hg_ hnew_; (first | rw [← Ny709.out] at ho39 | (simp only [Int.reduceToNat] at ho39; rw [← Ny709.out] at ho39)); have n0_ := Aside0.mk (Kd.N_lower ho39 (below_size (by repeat (first | (with_reducible first | exact HB.out | apply below_alloc | apply pw_below_drewN | apply below_drew1 | refine below_set ?_ GE706.out) | exact HB.out)))); have n1_ := Aside0.mk (blk_below (g := gb706) (o := .cells #[.int .i64 t700, .string t701, .int .i64 t702, .slice Ao8 t703.length co8] 40 (0, 0)) (by (with_reducible repeat (first | refine blk_drewN ?_ _ | refine blk_drew ?_ | refine blk_alloc ?_ _)); exact BK706.out) hb); have n2_ := Aside0.mk (below_step (by repeat (first | (with_reducible first | exact HB.out | apply below_alloc | apply pw_below_drewN | apply below_drew1 | refine below_set ?_ GE706.out) | exact HB.out)) hb); clear BK706; clear HB; have nz_ := Aside0.mk (Kd.N_below (by (with_reducible repeat (first | apply Kd.N_alloc | apply Kd.N_drewN | apply Kd.N_drew)); exact HO_707003.out) hb); clear HO_707003; have HO_707003 := nz_; clear nz_; have HO711 := n0_; have BK706 := n1_; have HB := n2_; clear n0_ n1_ n2_; clear hb ho39; obtain ⟨Ao40, co40, eo40⟩ := Kd.N_slice HO711.out; subst eo40) | ((with_reducible refine gate_dst (N := 6) rfl ?_); refine box_event ?hg (N := 6) ?hd (cs := #[.int .i64 0, .string (⟨#[]⟩ : ByteArray), .int .i64 0, .slice none 0 0]) (t := 40) ?hr ?_; (case hd => rfl); (case hg => rfl); (case hr => first | (go_simp; done) | (go_simp; rfl)); intro gb712 hg w41 hbox hb; have n0_ := Aside0.mk (Kd.N_below (Kd.N_elderB (by (with_reducible repeat (first | apply Kd.N_alloc | apply Kd.N_drewN | apply Kd.N_drew)); exact HO711.out) gb712 (Nat.le_of_eq hg.symm)) hb); have n1_ := Aside0.mk (blk_below (g := gb706) (o := .cells #[.int .i64 t700, .string t701, .int .i64 t702, .slice Ao8 t703.length co8] 40 (0, 0)) (by (with_reducible repeat (first | refine blk_drewN ?_ _ | refine blk_drew ?_ | refine blk_alloc ?_ _)); exact BK706.out) hb); have n2_ := Aside0.mk (below_step (by repeat (first | (with_reducible first | exact HB.out | apply below_alloc | apply pw_below_drewN | apply below_drew1 | refine below_set ?_ GE706.out) | exact HB.out)) hb); have n3_ := Aside0.mk (hbox); have n4_ := Aside0.mk ((by rw [hg]; exact (below_size (by repeat (first | (with_reducible first | exact HB.out | apply below_alloc | apply pw_below_drewN | apply below_drew1 | refine below_set ?_ GE706.out) | exact HB.out))) : w.heap.size ≤ gb712)); have n5_ := Aside0.mk ((by rw [hg]; exact (below_size (by repeat (first | (with_reducible first | exact HB.out | apply below_alloc | apply pw_below_drewN | apply below_drew1 | refine below_set ?_ GE706.out) | exact HB.out))) : w.heap.size ≤ gb712)); have n6_ := Aside0.mk ((by rw [hg]; exact Nat.ne_of_lt (blk_lt (g := gb706) (o := .cells #[.int .i64 t700, .string t701, .int .i64 t702, .slice Ao8 t703.length co8] 40 (0, 0)) (by (with_reducible repeat (first | refine blk_drewN ?_ _ | refine blk_drew ?_ | refine blk_alloc ?_ _)); exact BK706.out)) : gb706 ≠ gb712)); have n7_ := Aside0.mk ((by rw [hg]; exact Nat.ne_of_gt (blk_lt (g := gb706) (o := .cells #[.int .i64 t700, .string t701, .int .i64 t702, .slice Ao8 t703.length co8] 40 (0, 0)) (by (with_reducible repeat (first | refine blk_drewN ?_ _ | refine blk_drew ?_ | refine blk_alloc ?_ _)); exact BK706.out)) : gb712 ≠ gb706)); have nz_ := Aside0.mk (Kd.N_below (Kd.N_elderB (by (with_reducible repeat (first | apply Kd.N_alloc | apply Kd.N_drewN | apply Kd.N_drew)); exact HO_707003.out) gb712 (Nat.le_of_eq hg.symm)) hb); clear HO_707003; have HO_707003 := nz_; clear nz_; clear HO711; clear BK706; clear HB; have HO711 := n0_; have BK706 := n1_; have HB := n2_; have BK712 := n3_; have GW712 := n4_; have GE712 := n5_; have NB706_712 := n6_; have NB712_706 := n7_; clear n0_ n1_ n2_ n3_ n4_ n5_ n6_ n7_; clear hb hbox hg; have hnb42 := NB712_706.out; have hnc42 := NB706_712.out; have hcz43_0 : w41.cell? ⟨gb712, 0, none⟩ = some (.int .i64 0) := (blk_cell BK712.out 0).trans rfl; have hcz43_1 : w41.cell? ⟨gb712, 1, none⟩ = some (.string (⟨#[]⟩ : ByteArray)) := (blk_cell BK712.out 1).trans rfl; have hcz43_2 : w41.cell? ⟨gb712, 2, none⟩ = some (.int .i64 0) := (blk_cell BK712.out 2).trans rfl; have hcz43_3 : w41.cell? ⟨gb712, 3, none⟩ = some (.slice none 0 0) := (blk_cell BK712.out 3).trans rfl; have hfz43_0 := blk_frozen BK712.out 0; have hfz43_1 := blk_frozen BK712.out 1; have hfz43_2 := blk_frozen BK712.out 2; have hfz43_3 := blk_frozen BK712.out 3))
                  have n0_ : Aside0 (Kd.N k40 40 ((((w41.setCell ⟨gb712, 0, none⟩ (.int .i64 6)).setCell ⟨gb712, 1, none⟩ (.string (⟨#[]⟩ : ByteArray))).setCell ⟨gb712, 2, none⟩ (.int .i64 0)).setCell ⟨gb712, 3, none⟩ (.slice Ao40 y709.length co40)) w.heap.size (fun k_ => k_ ≠ gb706 ∧ k_ ≠ gb712) (.slice Ao40 y709.length co40) y709) := ⟨by (with_reducible repeat (first | apply Kd.N_alloc | apply Kd.N_drewN | apply Kd.N_drew)); exact Kd.N_mono (Kd.N_far (p := ⟨gb712, 3, none⟩) (Kd.N_far (p := ⟨gb712, 2, none⟩) (Kd.N_far (p := ⟨gb712, 1, none⟩) (Kd.N_far (p := ⟨gb712, 0, none⟩) (Kd.N_mono HO711.out (fun k_ hk => (⟨hk, hk.2⟩ : _ ∧ k_ ≠ gb712))) (fun _ hk => hk.2) (.int .i64 6)) (fun _ hk => hk.2) (.string (⟨#[]⟩ : ByteArray))) (fun _ hk => hk.2) (.int .i64 0)) (fun _ hk => hk.2) (.slice Ao40 y709.length co40)) (fun _ hk => ⟨hk.1.1, hk.1.2⟩)⟩
                  have nz_ : Aside0 (Kd.N k40 40 ((((w41.setCell ⟨gb712, 0, none⟩ (.int .i64 6)).setCell ⟨gb712, 1, none⟩ (.string (⟨#[]⟩ : ByteArray))).setCell ⟨gb712, 2, none⟩ (.int .i64 0)).setCell ⟨gb712, 3, none⟩ (.slice Ao40 y709.length co40)) w.heap.size (fun k_ => k_ ≠ gb706 ∧ k_ ≠ gb712) (.slice Ao8 t703.length co8) t703) := ⟨by (with_reducible repeat (first | apply Kd.N_alloc | apply Kd.N_drewN | apply Kd.N_drew)); exact Kd.N_mono (Kd.N_far (p := ⟨gb712, 3, none⟩) (Kd.N_far (p := ⟨gb712, 2, none⟩) (Kd.N_far (p := ⟨gb712, 1, none⟩) (Kd.N_far (p := ⟨gb712, 0, none⟩) (Kd.N_mono HO_707003.out (fun k_ hk => (⟨hk, hk.2⟩ : _ ∧ k_ ≠ gb712))) (fun _ hk => hk.2) (.int .i64 6)) (fun _ hk => hk.2) (.string (⟨#[]⟩ : ByteArray))) (fun _ hk => hk.2) (.int .i64 0)) (fun _ hk => hk.2) (.slice Ao40 y709.length co40)) (fun _ hk => ⟨hk.1.1, hk.1.2⟩)⟩
                  have n1_ : Aside0 (((((w41.setCell ⟨gb712, 0, none⟩ (.int .i64 6)).setCell ⟨gb712, 1, none⟩ (.string (⟨#[]⟩ : ByteArray))).setCell ⟨gb712, 2, none⟩ (.int .i64 0)).setCell ⟨gb712, 3, none⟩ (.slice Ao40 y709.length co40)).heap[gb706]? = some (.cells #[.int .i64 t700, .string t701, .int .i64 t702, .slice Ao8 t703.length co8] 40 (0, 0))) := ⟨by (with_reducible repeat (first | refine blk_drewN ?_ _ | refine blk_drew ?_ | refine blk_alloc ?_ _)); refine blk_far ?_ NB706_712.out _; (with_reducible repeat (first | refine blk_drewN ?_ _ | refine blk_drew ?_ | refine blk_alloc ?_ _)); refine blk_far ?_ NB706_712.out _; (with_reducible repeat (first | refine blk_drewN ?_ _ | refine blk_drew ?_ | refine blk_alloc ?_ _)); refine blk_far ?_ NB706_712.out _; (with_reducible repeat (first | refine blk_drewN ?_ _ | refine blk_drew ?_ | refine blk_alloc ?_ _)); refine blk_far ?_ NB706_712.out _; (with_reducible repeat (first | refine blk_drewN ?_ _ | refine blk_drew ?_ | refine blk_alloc ?_ _)); exact BK706.out⟩
                  have n2_ : Aside0 (((((w41.setCell ⟨gb712, 0, none⟩ (.int .i64 6)).setCell ⟨gb712, 1, none⟩ (.string (⟨#[]⟩ : ByteArray))).setCell ⟨gb712, 2, none⟩ (.int .i64 0)).setCell ⟨gb712, 3, none⟩ (.slice Ao40 y709.length co40)).heap[gb712]? = some (.cells #[.int .i64 6, .string (⟨#[]⟩ : ByteArray), .int .i64 0, .slice Ao40 y709.length co40] 40 (0, 0))) := ⟨by (with_reducible repeat (first | refine blk_drewN ?_ _ | refine blk_drew ?_ | refine blk_alloc ?_ _)); refine blk_put (cs := #[.int .i64 6, .string (⟨#[]⟩ : ByteArray), .int .i64 0, .slice none 0 0]) ?_ 3 _ rfl; (with_reducible repeat (first | refine blk_drewN ?_ _ | refine blk_drew ?_ | refine blk_alloc ?_ _)); refine blk_put (cs := #[.int .i64 6, .string (⟨#[]⟩ : ByteArray), .int .i64 0, .slice none 0 0]) ?_ 2 _ rfl; (with_reducible repeat (first | refine blk_drewN ?_ _ | refine blk_drew ?_ | refine blk_alloc ?_ _)); refine blk_put (cs := #[.int .i64 6, .string (⟨#[]⟩ : ByteArray), .int .i64 0, .slice none 0 0]) ?_ 1 _ rfl; (with_reducible repeat (first | refine blk_drewN ?_ _ | refine blk_drew ?_ | refine blk_alloc ?_ _)); refine blk_put (cs := #[.int .i64 0, .string (⟨#[]⟩ : ByteArray), .int .i64 0, .slice none 0 0]) ?_ 0 _ rfl; (with_reducible repeat (first | refine blk_drewN ?_ _ | refine blk_drew ?_ | refine blk_alloc ?_ _)); exact BK712.out⟩
                  have n3_ : Aside0 (Below w.heap.size w ((((w41.setCell ⟨gb712, 0, none⟩ (.int .i64 6)).setCell ⟨gb712, 1, none⟩ (.string (⟨#[]⟩ : ByteArray))).setCell ⟨gb712, 2, none⟩ (.int .i64 0)).setCell ⟨gb712, 3, none⟩ (.slice Ao40 y709.length co40))) := ⟨by repeat (first | (with_reducible first | exact HB.out | apply below_alloc | apply pw_below_drewN | apply below_drew1 | refine below_set ?_ GE706.out | refine below_set ?_ GE712.out) | exact HB.out)⟩
                  (try clear HO711)
                  (try clear HO_707003)
                  (try clear BK706)
                  (try clear BK712)
                  (try clear HB)
                  generalize ((((w41.setCell ⟨gb712, 0, none⟩ (.int .i64 6)).setCell ⟨gb712, 1, none⟩ (.string (⟨#[]⟩ : ByteArray))).setCell ⟨gb712, 2, none⟩ (.int .i64 0)).setCell ⟨gb712, 3, none⟩ (.slice Ao40 y709.length co40)) = w44 at n0_ nz_ n1_ n2_ n3_ ⊢
                  have HO711 := n0_
                  have HO_707003 := nz_
                  have BK706 := n1_
                  have BK712 := n2_
                  have HB := n3_
                  clear n0_ nz_ n1_ n2_ n3_
                  have n0_ := Aside0.mk (Kd.N_drew HO711.out)
                  have nz_ := Aside0.mk (Kd.N_drew HO_707003.out)
                  have n1_ := Aside0.mk (blk_drew BK706.out)
                  have n2_ := Aside0.mk (blk_drew BK712.out)
                  have n3_ := Aside0.mk (below_drew1 HB.out)
                  clear HO711
                  clear HO_707003
                  clear BK706
                  clear BK712
                  clear HB
                  have HO711 := n0_
                  have HO_707003 := nz_
                  have BK706 := n1_
                  have BK712 := n2_
                  have HB := n3_
                  clear n0_ nz_ n1_ n2_ n3_
                  refine start_ (n := 29) (S := fun w' => w'.cell? ⟨gb706, 0, none⟩ = some (.int .i64 t700) ∧ w'.cell? ⟨gb706, 1, none⟩ = some (.string t701) ∧ w'.cell? ⟨gb706, 2, none⟩ = some (.int .i64 t702) ∧ w'.cell? ⟨gb706, 3, none⟩ = some (.slice Ao8 t703.length co8) ∧ w'.cell? ⟨gb712, 0, none⟩ = some (.int .i64 6) ∧ w'.cell? ⟨gb712, 1, none⟩ = some (.string (⟨#[]⟩ : ByteArray)) ∧ w'.cell? ⟨gb712, 2, none⟩ = some (.int .i64 0) ∧ w'.cell? ⟨gb712, 3, none⟩ = some (.slice Ao40 y709.length co40)) (ds := []) #[false, false, false, false, false, false, false, false, false, false, false, false, false, false, false, false, false, false, false, false, false, false, false, false, false, false, false, false, false] (by kernel_rfl) rfl rfl ⟨(blk_cell BK706.out 0).trans rfl, (blk_cell BK706.out 1).trans rfl, (blk_cell BK706.out 2).trans rfl, (blk_cell BK706.out 3).trans rfl, (blk_cell BK712.out 0).trans rfl, (blk_cell BK712.out 1).trans rfl, (blk_cell BK712.out 2).trans rfl, (blk_cell BK712.out 3).trans rfl⟩ (fun hHeld => ?_); refine with_tabW laws_FnNodes.tab10 laws_FnNodes.bits10 (fun HT_ HW_ => ?_)
                  generalize w44.drew = w45 at HO711 HO_707003 BK706 BK712 HB hHeld ⊢
                  refine pure_ (i := 2) (N := some 31) (v := ?_) (a' := ?_) #[false, false, true, false, false, false, false, false, false, false, false, false, false, false, false, false, false, false, false, false, false, false, false, false, false, false, false, false, false] rfl rfl (any_of HT_.out (by kernel_rfl)) (fun _ _ _ h => h) (Or.inl ⟨by rfl, ?_⟩) ?_ ?_
                  rotate_left
                  · intro w'
                    go_simp
                    with_reducible rfl
                  rotate_left
                  · simp only [Act.put, List.setIfInBounds_toArray, List.set_cons_zero, List.set_cons_succ, i64_w, i32_w]
                    rfl
                  refine take_ (i := 0) (N := some 29) (v := ?_) (a' := ?_) #[true, false, true, false, false, false, false, false, false, false, false, false, false, false, false, false, false, false, false, false, false, false, false, false, false, false, false, false, false] rfl rfl (take_ofW HT_.out HW_.out (by kernel_rfl)) (fun _ _ _ h => h) (Or.inl ⟨by rfl, ?_⟩) hHeld ?_ ?_
                  rotate_left
                  · rintro w' ⟨s0, s1, s2, s3, s4, s5, s6, s7⟩
                    go_simp
                    with_reducible rfl
                  rotate_left
                  · simp only [Act.put, List.setIfInBounds_toArray, List.set_cons_zero, List.set_cons_succ, i64_w, i32_w]
                    rfl
                  refine one_ (i := 1) (N := some 30) #[true, true, true, false, false, false, false, false, false, false, false, false, false, false, false, false, false, false, false, false, false, false, false, false, false, false, false, false, false] rfl rfl (one_of HT_.out (by kernel_rfl)) (by decide) (fun K hK => ?_)
                  refine goes_ Try.func41 (by kernel_rfl) rfl #[.agg #[.int .i64 t700, .string t701, .int .i64 t702, .slice Ao8 t703.length co8]] (by rfl) rfl rfl (by (try simp only [List.map_toArray, List.map_cons, List.map_nil]); first | done | rfl | (simp only [List.length_drop, List.length_take]; rfl)) ?_
                  with_reducible refine (impl_Nodes.calls k1 t700 t701 t702 _ _ t703 t713 _ ?side1 ?side2 A14.out).mono ?_
                  (case side1 => repeat (first | exact (Kd.N_reads' HO_707003.out).2.2 | (with_reducible refine Kd.C_alloc ?_ _) | (with_reducible refine Kd.C_drewN ?_ _) | (with_reducible refine Kd.C_drew ?_)))
                  (case side2 => exact (Kd.N_reads' HO_707003.out).2.1)
                  rintro e w46 ⟨rfl, hb⟩
                  refine ⟨_, rfl, ?_⟩
                  have n0_ := Aside0.mk (Kd.N_below (by (with_reducible repeat (first | apply Kd.N_alloc | apply Kd.N_drewN | apply Kd.N_drew)); exact HO711.out) hb)
                  have nz_ := Aside0.mk (Kd.N_below (by (with_reducible repeat (first | apply Kd.N_alloc | apply Kd.N_drewN | apply Kd.N_drew)); exact HO_707003.out) hb)
                  have n1_ := Aside0.mk (blk_below (g := gb706) (o := .cells #[.int .i64 t700, .string t701, .int .i64 t702, .slice Ao8 t703.length co8] 40 (0, 0)) (by (with_reducible repeat (first | refine blk_drewN ?_ _ | refine blk_drew ?_ | refine blk_alloc ?_ _)); exact BK706.out) hb)
                  have n2_ := Aside0.mk (blk_below (g := gb712) (o := .cells #[.int .i64 6, .string (⟨#[]⟩ : ByteArray), .int .i64 0, .slice Ao40 y709.length co40] 40 (0, 0)) (by (with_reducible repeat (first | refine blk_drewN ?_ _ | refine blk_drew ?_ | refine blk_alloc ?_ _)); exact BK712.out) hb)
                  have n3_ := Aside0.mk (below_step (by repeat (first | (with_reducible first | exact HB.out | apply below_alloc | apply pw_below_drewN | apply below_drew1 | refine below_set ?_ GE706.out | refine below_set ?_ GE712.out) | exact HB.out)) hb)
                  clear HO711
                  clear HO_707003
                  clear BK706
                  clear BK712
                  clear HB
                  have HO711 := n0_
                  have HO_707003 := nz_
                  have BK706 := n1_
                  have BK712 := n2_
                  have HB := n3_
                  clear n0_ nz_ n1_ n2_ n3_
                  (try clear hb)
                  (try clear hb2)
                  (try clear hk)
                  (try clear hi)
                  refine hK.out _ _ ⟨(blk_cell BK706.out 0).trans rfl, (blk_cell BK706.out 1).trans rfl, (blk_cell BK706.out 2).trans rfl, (blk_cell BK706.out 3).trans rfl, (blk_cell BK712.out 0).trans rfl, (blk_cell BK712.out 1).trans rfl, (blk_cell BK712.out 2).trans rfl, (blk_cell BK712.out 3).trans rfl⟩ (fun hHeld => ?_)
                  clear hK K
                  refine norm_ (a' := ?_) ?_ ?_
                  rotate_left
                  · show Act.put _ (some 30) _ = _
                    simp only [Act.put, List.setIfInBounds_toArray, List.set_cons_zero, List.set_cons_succ, i64_w, i32_w]
                    rfl
                  refine pure_ (i := 3) (N := some 32) (v := ?_) (a' := ?_) #[true, true, true, true, false, false, false, false, false, false, false, false, false, false, false, false, false, false, false, false, false, false, false, false, false, false, false, false, false] rfl rfl (any_of HT_.out (by kernel_rfl)) (fun _ _ _ h => h) (Or.inl ⟨by rfl, ?_⟩) ?_ ?_
                  rotate_left
                  · intro w'
                    go_simp
                    with_reducible rfl
                  rotate_left
                  · simp only [Act.put, List.setIfInBounds_toArray, List.set_cons_zero, List.set_cons_succ, i64_w, i32_w]
                    rfl
                  refine pure_ (i := 4) (N := some 33) (v := ?_) (a' := ?_) #[true, true, true, true, true, false, false, false, false, false, false, false, false, false, false, false, false, false, false, false, false, false, false, false, false, false, false, false, false] rfl rfl (any_of HT_.out (by kernel_rfl)) (fun _ _ _ h => h) (Or.inl ⟨by rfl, ?_⟩) ?_ ?_
                  rotate_left
                  · intro w'
                    go_simp
                    with_reducible rfl
                  rotate_left
                  · simp only [Act.put, List.setIfInBounds_toArray, List.set_cons_zero, List.set_cons_succ, i64_w, i32_w]
                    rfl
                  refine pure_ (i := 5) (N := some 34) (v := ?_) (a' := ?_) #[true, true, true, true, true, true, false, false, false, false, false, false, false, false, false, false, false, false, false, false, false, false, false, false, false, false, false, false, false] rfl rfl (any_of HT_.out (by kernel_rfl)) (fun _ _ _ h => h) (Or.inl ⟨by rfl, ?_⟩) ?_ ?_
                  rotate_left
                  · intro w'
                    go_simp
                    with_reducible rfl
                  rotate_left
                  · simp only [Act.put, List.setIfInBounds_toArray, List.set_cons_zero, List.set_cons_succ, i64_w, i32_w]
                    rfl
                  refine take_ (i := 6) (N := some 35) (v := ?_) (a' := ?_) #[true, true, true, true, true, true, true, false, false, false, false, false, false, false, false, false, false, false, false, false, false, false, false, false, false, false, false, false, false] rfl rfl (take_ofW HT_.out HW_.out (by kernel_rfl)) (fun _ _ _ h => h) (Or.inl ⟨by rfl, ?_⟩) hHeld ?_ ?_
                  rotate_left
                  · rintro w' ⟨s0, s1, s2, s3, s4, s5, s6, s7⟩
                    go_simp
                    with_reducible rfl
                  rotate_left
                  · simp only [Act.put, List.setIfInBounds_toArray, List.set_cons_zero, List.set_cons_succ, i64_w, i32_w]
                    rfl
                  refine one_ (i := 7) (N := some 36) #[true, true, true, true, true, true, true, true, false, false, false, false, false, false, false, false, false, false, false, false, false, false, false, false, false, false, false, false, false] rfl rfl (one_of HT_.out (by kernel_rfl)) (by decide) (fun K hK => ?_)
                  refine goes_ Try.func46 (by kernel_rfl) rfl #[.agg #[.int .i64 t700, .string t701, .int .i64 t702, .slice Ao8 t703.length co8]] (by rfl) rfl rfl (by (try simp only [List.map_toArray, List.map_cons, List.map_nil]); first | done | rfl | (simp only [List.length_drop, List.length_take]; rfl)) ?_
                  with_reducible refine (spec_Nodes.calls k1 t700 t701 t702 _ _ t703 t714 _ ?side1 ?side2 A16.out).mono ?_
                  (case side1 => repeat (first | exact (Kd.N_reads' HO_707003.out).2.2 | (with_reducible refine Kd.C_alloc ?_ _) | (with_reducible refine Kd.C_drewN ?_ _) | (with_reducible refine Kd.C_drew ?_)))
                  (case side2 => exact (Kd.N_reads' HO_707003.out).2.1)
                  rintro e w47 ⟨rfl, hb⟩
                  refine ⟨_, rfl, ?_⟩
                  have n0_ := Aside0.mk (Kd.N_below (by (with_reducible repeat (first | apply Kd.N_alloc | apply Kd.N_drewN | apply Kd.N_drew)); exact HO711.out) hb)
                  have nz_ := Aside0.mk (Kd.N_below (by (with_reducible repeat (first | apply Kd.N_alloc | apply Kd.N_drewN | apply Kd.N_drew)); exact HO_707003.out) hb)
                  have n1_ := Aside0.mk (blk_below (g := gb706) (o := .cells #[.int .i64 t700, .string t701, .int .i64 t702, .slice Ao8 t703.length co8] 40 (0, 0)) (by (with_reducible repeat (first | refine blk_drewN ?_ _ | refine blk_drew ?_ | refine blk_alloc ?_ _)); exact BK706.out) hb)
                  have n2_ := Aside0.mk (blk_below (g := gb712) (o := .cells #[.int .i64 6, .string (⟨#[]⟩ : ByteArray), .int .i64 0, .slice Ao40 y709.length co40] 40 (0, 0)) (by (with_reducible repeat (first | refine blk_drewN ?_ _ | refine blk_drew ?_ | refine blk_alloc ?_ _)); exact BK712.out) hb)
                  have n3_ := Aside0.mk (below_step (by repeat (first | (with_reducible first | exact HB.out | apply below_alloc | apply pw_below_drewN | apply below_drew1 | refine below_set ?_ GE706.out | refine below_set ?_ GE712.out) | exact HB.out)) hb)
                  clear HO711
                  clear HO_707003
                  clear BK706
                  clear BK712
                  clear HB
                  have HO711 := n0_
                  have HO_707003 := nz_
                  have BK706 := n1_
                  have BK712 := n2_
                  have HB := n3_
                  clear n0_ nz_ n1_ n2_ n3_
                  (try clear hb)
                  (try clear hb2)
                  (try clear hk)
                  (try clear hi)
                  refine hK.out _ _ ⟨(blk_cell BK706.out 0).trans rfl, (blk_cell BK706.out 1).trans rfl, (blk_cell BK706.out 2).trans rfl, (blk_cell BK706.out 3).trans rfl, (blk_cell BK712.out 0).trans rfl, (blk_cell BK712.out 1).trans rfl, (blk_cell BK712.out 2).trans rfl, (blk_cell BK712.out 3).trans rfl⟩ (fun hHeld => ?_)
                  clear hK K
                  refine norm_ (a' := ?_) ?_ ?_
                  rotate_left
                  · show Act.put _ (some 36) _ = _
                    simp only [Act.put, List.setIfInBounds_toArray, List.set_cons_zero, List.set_cons_succ, i64_w, i32_w]
                    rfl
                  refine pure_ (i := 8) (N := some 37) (v := ?_) (a' := ?_) #[true, true, true, true, true, true, true, true, true, false, false, false, false, false, false, false, false, false, false, false, false, false, false, false, false, false, false, false, false] rfl rfl (any_of HT_.out (by kernel_rfl)) (fun _ _ _ h => h) (Or.inl ⟨by rfl, ?_⟩) ?_ ?_
                  rotate_left
                  · intro w'
                    go_simp
                    with_reducible rfl
                  rotate_left
                  · simp only [Act.put, List.setIfInBounds_toArray, List.set_cons_zero, List.set_cons_succ, i64_w, i32_w]
                    rfl
                  refine pure_ (i := 9) (N := some 38) (v := ?_) (a' := ?_) #[true, true, true, true, true, true, true, true, true, true, false, false, false, false, false, false, false, false, false, false, false, false, false, false, false, false, false, false, false] rfl rfl (any_of HT_.out (by kernel_rfl)) (fun _ _ _ h => h) (Or.inl ⟨by rfl, ?_⟩) ?_ ?_
                  rotate_left
                  · intro w'
                    go_simp
                    with_reducible rfl
                  rotate_left
                  · simp only [Act.put, List.setIfInBounds_toArray, List.set_cons_zero, List.set_cons_succ, i64_w, i32_w]
                    rfl
                  refine pure_ (i := 10) (N := some 39) (v := ?_) (a' := ?_) #[true, true, true, true, true, true, true, true, true, true, true, false, false, false, false, false, false, false, false, false, false, false, false, false, false, false, false, false, false] rfl rfl (any_of HT_.out (by kernel_rfl)) (fun _ _ _ h => h) (Or.inl ⟨by rfl, ?_⟩) ?_ ?_
                  rotate_left
                  · intro w'
                    go_simp
                    with_reducible rfl
                  rotate_left
                  · simp only [Act.put, List.setIfInBounds_toArray, List.set_cons_zero, List.set_cons_succ, i64_w, i32_w]
                    rfl
                  refine pure_ (i := 13) (N := some 42) (v := ?_) (a' := ?_) #[true, true, true, true, true, true, true, true, true, true, true, false, false, true, false, false, false, false, false, false, false, false, false, false, false, false, false, false, false] rfl rfl (any_of HT_.out (by kernel_rfl)) (fun _ _ _ h => h) (Or.inl ⟨by rfl, ?_⟩) ?_ ?_
                  rotate_left
                  · intro w'
                    go_simp
                    with_reducible rfl
                  rotate_left
                  · simp only [Act.put, List.setIfInBounds_toArray, List.set_cons_zero, List.set_cons_succ, i64_w, i32_w]
                    rfl
                  refine pure_ (i := 14) (N := some 43) (v := ?_) (a' := ?_) #[true, true, true, true, true, true, true, true, true, true, true, false, false, true, true, false, false, false, false, false, false, false, false, false, false, false, false, false, false] rfl rfl (any_of HT_.out (by kernel_rfl)) (fun _ _ _ h => h) (Or.inl ⟨by rfl, ?_⟩) ?_ ?_
                  rotate_left
                  · intro w'
                    go_simp
                    with_reducible rfl
                  rotate_left
                  · simp only [Act.put, List.setIfInBounds_toArray, List.set_cons_zero, List.set_cons_succ, i64_w, i32_w]
                    rfl
                  refine take_ (i := 11) (N := some 40) (v := ?_) (a' := ?_) #[true, true, true, true, true, true, true, true, true, true, true, true, false, true, true, false, false, false, false, false, false, false, false, false, false, false, false, false, false] rfl rfl (take_ofW HT_.out HW_.out (by kernel_rfl)) (fun _ _ _ h => h) (Or.inl ⟨by rfl, ?_⟩) hHeld ?_ ?_
                  rotate_left
                  · rintro w' ⟨s0, s1, s2, s3, s4, s5, s6, s7⟩
                    go_simp
                    with_reducible rfl
                  rotate_left
                  · simp only [Act.put, List.setIfInBounds_toArray, List.set_cons_zero, List.set_cons_succ, i64_w, i32_w]
                    rfl
                  refine one_ (i := 12) (N := some 41) #[true, true, true, true, true, true, true, true, true, true, true, true, true, true, true, false, false, false, false, false, false, false, false, false, false, false, false, false, false] rfl rfl (one_of HT_.out (by kernel_rfl)) (by decide) (fun K hK => ?_)
                  refine goes_ Try.func41 (by kernel_rfl) rfl #[.agg #[.int .i64 6, .string (⟨#[]⟩ : ByteArray), .int .i64 0, .slice Ao40 y709.length co40]] (by rfl) rfl rfl (by (try simp only [List.map_toArray, List.map_cons, List.map_nil]); first | done | rfl | (simp only [List.length_drop, List.length_take]; rfl)) ?_
                  with_reducible refine (impl_Nodes.calls k1 6 (⟨#[]⟩ : ByteArray) 0 _ _ y709 t715 _ ?side1 ?side2 A18.out).mono ?_
                  (case side1 => repeat (first | exact (Kd.N_reads' HO711.out).2.2 | (with_reducible refine Kd.C_alloc ?_ _) | (with_reducible refine Kd.C_drewN ?_ _) | (with_reducible refine Kd.C_drew ?_)))
                  (case side2 => exact (Kd.N_reads' HO711.out).2.1)
                  rintro e w48 ⟨rfl, hb⟩
                  refine ⟨_, rfl, ?_⟩
                  have n0_ := Aside0.mk (Kd.N_below (by (with_reducible repeat (first | apply Kd.N_alloc | apply Kd.N_drewN | apply Kd.N_drew)); exact HO711.out) hb)
                  have nz_ := Aside0.mk (Kd.N_below (by (with_reducible repeat (first | apply Kd.N_alloc | apply Kd.N_drewN | apply Kd.N_drew)); exact HO_707003.out) hb)
                  have n1_ := Aside0.mk (blk_below (g := gb706) (o := .cells #[.int .i64 t700, .string t701, .int .i64 t702, .slice Ao8 t703.length co8] 40 (0, 0)) (by (with_reducible repeat (first | refine blk_drewN ?_ _ | refine blk_drew ?_ | refine blk_alloc ?_ _)); exact BK706.out) hb)
                  have n2_ := Aside0.mk (blk_below (g := gb712) (o := .cells #[.int .i64 6, .string (⟨#[]⟩ : ByteArray), .int .i64 0, .slice Ao40 y709.length co40] 40 (0, 0)) (by (with_reducible repeat (first | refine blk_drewN ?_ _ | refine blk_drew ?_ | refine blk_alloc ?_ _)); exact BK712.out) hb)
                  have n3_ := Aside0.mk (below_step (by repeat (first | (with_reducible first | exact HB.out | apply below_alloc | apply pw_below_drewN | apply below_drew1 | refine below_set ?_ GE706.out | refine below_set ?_ GE712.out) | exact HB.out)) hb)
                  clear HO711
                  clear HO_707003
                  clear BK706
                  clear BK712
                  clear HB
                  have HO711 := n0_
                  have HO_707003 := nz_
                  have BK706 := n1_
                  have BK712 := n2_
                  have HB := n3_
                  clear n0_ nz_ n1_ n2_ n3_
                  (try clear hb)
                  (try clear hb2)
                  (try clear hk)
                  (try clear hi)
                  refine hK.out _ _ ⟨(blk_cell BK706.out 0).trans rfl, (blk_cell BK706.out 1).trans rfl, (blk_cell BK706.out 2).trans rfl, (blk_cell BK706.out 3).trans rfl, (blk_cell BK712.out 0).trans rfl, (blk_cell BK712.out 1).trans rfl, (blk_cell BK712.out 2).trans rfl, (blk_cell BK712.out 3).trans rfl⟩ (fun hHeld => ?_)
                  clear hK K
                  refine norm_ (a' := ?_) ?_ ?_
                  rotate_left
                  · show Act.put _ (some 41) _ = _
                    simp only [Act.put, List.setIfInBounds_toArray, List.set_cons_zero, List.set_cons_succ, i64_w, i32_w]
                    rfl
                  refine pure_ (i := 15) (N := some 44) (v := ?_) (a' := ?_) #[true, true, true, true, true, true, true, true, true, true, true, true, true, true, true, true, false, false, false, false, false, false, false, false, false, false, false, false, false] rfl rfl (any_of HT_.out (by kernel_rfl)) (fun _ _ _ h => h) (Or.inl ⟨by rfl, ?_⟩) ?_ ?_
                  rotate_left
                  · intro w'
                    go_simp
                    with_reducible rfl
                  rotate_left
                  · simp only [Act.put, List.setIfInBounds_toArray, List.set_cons_zero, List.set_cons_succ, i64_w, i32_w]
                    rfl
                  refine pure_ (i := 16) (N := some 45) (v := ?_) (a' := ?_) #[true, true, true, true, true, true, true, true, true, true, true, true, true, true, true, true, true, false, false, false, false, false, false, false, false, false, false, false, false] rfl rfl (any_of HT_.out (by kernel_rfl)) (fun _ _ _ h => h) (Or.inl ⟨by rfl, ?_⟩) ?_ ?_
                  rotate_left
                  · intro w'
                    go_simp
                    with_reducible rfl
                  rotate_left
                  · simp only [Act.put, List.setIfInBounds_toArray, List.set_cons_zero, List.set_cons_succ, i64_w, i32_w]
                    rfl
                  refine pure_ (i := 17) (N := some 46) (v := ?_) (a' := ?_) #[true, true, true, true, true, true, true, true, true, true, true, true, true, true, true, true, true, true, false, false, false, false, false, false, false, false, false, false, false] rfl rfl (any_of HT_.out (by kernel_rfl)) (fun _ _ _ h => h) (Or.inl ⟨by rfl, ?_⟩) ?_ ?_
                  rotate_left
                  · intro w'
                    go_simp
                    with_reducible rfl
                  rotate_left
                  · simp only [Act.put, List.setIfInBounds_toArray, List.set_cons_zero, List.set_cons_succ, i64_w, i32_w]
                    rfl
                  refine take_ (i := 18) (N := some 47) (v := ?_) (a' := ?_) #[true, true, true, true, true, true, true, true, true, true, true, true, true, true, true, true, true, true, true, false, false, false, false, false, false, false, false, false, false] rfl rfl (take_ofW HT_.out HW_.out (by kernel_rfl)) (fun _ _ _ h => h) (Or.inl ⟨by rfl, ?_⟩) hHeld ?_ ?_
                  rotate_left
                  · rintro w' ⟨s0, s1, s2, s3, s4, s5, s6, s7⟩
                    go_simp
                    with_reducible rfl
                  rotate_left
                  · simp only [Act.put, List.setIfInBounds_toArray, List.set_cons_zero, List.set_cons_succ, i64_w, i32_w]
                    rfl
                  refine take_ (i := 20) (N := some 49) (v := ?_) (a' := ?_) #[true, true, true, true, true, true, true, true, true, true, true, true, true, true, true, true, true, true, true, false, true, false, false, false, false, false, false, false, false] rfl rfl (take_ofW HT_.out HW_.out (by kernel_rfl)) (fun _ _ _ h => h) (Or.inl ⟨by rfl, ?_⟩) hHeld ?_ ?_
                  rotate_left
                  · rintro w' ⟨s0, s1, s2, s3, s4, s5, s6, s7⟩
                    go_simp
                    with_reducible rfl
                  rotate_left
                  · simp only [Act.put, List.setIfInBounds_toArray, List.set_cons_zero, List.set_cons_succ, i64_w, i32_w]
                    rfl
                  refine one_ (i := 19) (N := some 48) #[true, true, true, true, true, true, true, true, true, true, true, true, true, true, true, true, true, true, true, true, true, false, false, false, false, false, false, false, false] rfl rfl (one_of HT_.out (by kernel_rfl)) (by decide) (fun K hK => ?_)
                  refine goes_ Try.func44 (by kernel_rfl) rfl #[.agg #[.int .i64 6, .string (⟨#[]⟩ : ByteArray), .int .i64 0, .slice Ao40 y709.length co40]] (by rfl) rfl rfl (by (try simp only [List.map_toArray, List.map_cons, List.map_nil]); first | done | rfl | (simp only [List.length_drop, List.length_take]; rfl)) ?_
                  with_reducible refine (impl_ExprOk.calls k1 6 (⟨#[]⟩ : ByteArray) 0 _ _ y709 t716 _ ?side1 ?side2 A20.out).mono ?_
                  (case side1 => repeat (first | exact (Kd.N_reads' HO711.out).2.2 | (with_reducible refine Kd.C_alloc ?_ _) | (with_reducible refine Kd.C_drewN ?_ _) | (with_reducible refine Kd.C_drew ?_)))
                  (case side2 => exact (Kd.N_reads' HO711.out).2.1)
                  rintro e w49 ⟨rfl, hb⟩
                  refine ⟨_, rfl, ?_⟩
                  have n0_ := Aside0.mk (Kd.N_below (by (with_reducible repeat (first | apply Kd.N_alloc | apply Kd.N_drewN | apply Kd.N_drew)); exact HO711.out) hb)
                  have nz_ := Aside0.mk (Kd.N_below (by (with_reducible repeat (first | apply Kd.N_alloc | apply Kd.N_drewN | apply Kd.N_drew)); exact HO_707003.out) hb)
                  have n1_ := Aside0.mk (blk_below (g := gb706) (o := .cells #[.int .i64 t700, .string t701, .int .i64 t702, .slice Ao8 t703.length co8] 40 (0, 0)) (by (with_reducible repeat (first | refine blk_drewN ?_ _ | refine blk_drew ?_ | refine blk_alloc ?_ _)); exact BK706.out) hb)
                  have n2_ := Aside0.mk (blk_below (g := gb712) (o := .cells #[.int .i64 6, .string (⟨#[]⟩ : ByteArray), .int .i64 0, .slice Ao40 y709.length co40] 40 (0, 0)) (by (with_reducible repeat (first | refine blk_drewN ?_ _ | refine blk_drew ?_ | refine blk_alloc ?_ _)); exact BK712.out) hb)
                  have n3_ := Aside0.mk (below_step (by repeat (first | (with_reducible first | exact HB.out | apply below_alloc | apply pw_below_drewN | apply below_drew1 | refine below_set ?_ GE706.out | refine below_set ?_ GE712.out) | exact HB.out)) hb)
                  clear HO711
                  clear HO_707003
                  clear BK706
                  clear BK712
                  clear HB
                  have HO711 := n0_
                  have HO_707003 := nz_
                  have BK706 := n1_
                  have BK712 := n2_
                  have HB := n3_
                  clear n0_ nz_ n1_ n2_ n3_
                  (try clear hb)
                  (try clear hb2)
                  (try clear hk)
                  (try clear hi)
                  refine hK.out _ _ ⟨(blk_cell BK706.out 0).trans rfl, (blk_cell BK706.out 1).trans rfl, (blk_cell BK706.out 2).trans rfl, (blk_cell BK706.out 3).trans rfl, (blk_cell BK712.out 0).trans rfl, (blk_cell BK712.out 1).trans rfl, (blk_cell BK712.out 2).trans rfl, (blk_cell BK712.out 3).trans rfl⟩ (fun hHeld => ?_)
                  clear hK K
                  refine norm_ (a' := ?_) ?_ ?_
                  rotate_left
                  · show Act.put _ (some 48) _ = _
                    simp only [Act.put, List.setIfInBounds_toArray, List.set_cons_zero, List.set_cons_succ, i64_w, i32_w]
                    rfl
                  refine one_ (i := 21) (N := some 50) #[true, true, true, true, true, true, true, true, true, true, true, true, true, true, true, true, true, true, true, true, true, true, false, false, false, false, false, false, false] rfl rfl (one_of HT_.out (by kernel_rfl)) (by decide) (fun K hK => ?_)
                  refine goes_ Try.func43 (by kernel_rfl) rfl #[.agg #[.int .i64 t700, .string t701, .int .i64 t702, .slice Ao8 t703.length co8]] (by rfl) rfl rfl (by (try simp only [List.map_toArray, List.map_cons, List.map_nil]); first | done | rfl | (simp only [List.length_drop, List.length_take]; rfl)) ?_
                  with_reducible refine (spec_ExprOk.calls k1 t700 t701 t702 _ _ t703 false _ ?side1 ?side2 A21.out).mono ?_
                  (case side1 => repeat (first | exact (Kd.N_reads' HO_707003.out).2.2 | (with_reducible refine Kd.C_alloc ?_ _) | (with_reducible refine Kd.C_drewN ?_ _) | (with_reducible refine Kd.C_drew ?_)))
                  (case side2 => exact (Kd.N_reads' HO_707003.out).2.1)
                  rintro e w50 ⟨rfl, hb⟩
                  refine ⟨_, rfl, ?_⟩
                  have n0_ := Aside0.mk (Kd.N_below (by (with_reducible repeat (first | apply Kd.N_alloc | apply Kd.N_drewN | apply Kd.N_drew)); exact HO711.out) hb)
                  have nz_ := Aside0.mk (Kd.N_below (by (with_reducible repeat (first | apply Kd.N_alloc | apply Kd.N_drewN | apply Kd.N_drew)); exact HO_707003.out) hb)
                  have n1_ := Aside0.mk (blk_below (g := gb706) (o := .cells #[.int .i64 t700, .string t701, .int .i64 t702, .slice Ao8 t703.length co8] 40 (0, 0)) (by (with_reducible repeat (first | refine blk_drewN ?_ _ | refine blk_drew ?_ | refine blk_alloc ?_ _)); exact BK706.out) hb)
                  have n2_ := Aside0.mk (blk_below (g := gb712) (o := .cells #[.int .i64 6, .string (⟨#[]⟩ : ByteArray), .int .i64 0, .slice Ao40 y709.length co40] 40 (0, 0)) (by (with_reducible repeat (first | refine blk_drewN ?_ _ | refine blk_drew ?_ | refine blk_alloc ?_ _)); exact BK712.out) hb)
                  have n3_ := Aside0.mk (below_step (by repeat (first | (with_reducible first | exact HB.out | apply below_alloc | apply pw_below_drewN | apply below_drew1 | refine below_set ?_ GE706.out | refine below_set ?_ GE712.out) | exact HB.out)) hb)
                  clear HO711
                  clear HO_707003
                  clear BK706
                  clear BK712
                  clear HB
                  have HO711 := n0_
                  have HO_707003 := nz_
                  have BK706 := n1_
                  have BK712 := n2_
                  have HB := n3_
                  clear n0_ nz_ n1_ n2_ n3_
                  (try clear hb)
                  (try clear hb2)
                  (try clear hk)
                  (try clear hi)
                  refine hK.out _ _ ⟨(blk_cell BK706.out 0).trans rfl, (blk_cell BK706.out 1).trans rfl, (blk_cell BK706.out 2).trans rfl, (blk_cell BK706.out 3).trans rfl, (blk_cell BK712.out 0).trans rfl, (blk_cell BK712.out 1).trans rfl, (blk_cell BK712.out 2).trans rfl, (blk_cell BK712.out 3).trans rfl⟩ (fun hHeld => ?_)
                  clear hK K
                  refine norm_ (a' := ?_) ?_ ?_
                  rotate_left
                  · show Act.put _ (some 50) _ = _
                    simp only [Act.put, List.setIfInBounds_toArray, List.set_cons_zero, List.set_cons_succ, i64_w, i32_w]
                    rfl
                  refine pure_ (i := 22) (N := some 51) (v := ?_) (a' := ?_) #[true, true, true, true, true, true, true, true, true, true, true, true, true, true, true, true, true, true, true, true, true, true, true, false, false, false, false, false, false] rfl rfl (any_of HT_.out (by kernel_rfl)) (fun _ _ _ h => h) (Or.inl ⟨by rfl, ?_⟩) ?_ ?_
                  rotate_left
                  · intro w'
                    go_simp
                    with_reducible rfl
                  rotate_left
                  · simp only [Act.put, List.setIfInBounds_toArray, List.set_cons_zero, List.set_cons_succ, i64_w, i32_w]
                    rfl
                  refine pure_ (i := 23) (N := some 52) (v := undef) (a' := ?_) #[true, true, true, true, true, true, true, true, true, true, true, true, true, true, true, true, true, true, true, true, true, true, true, true, false, false, false, false, false] rfl rfl (any_of HT_.out (by kernel_rfl)) (fun _ _ _ h => h) (Or.inr ⟨by rfl, rfl⟩) ?_ ?_
                  rotate_left
                  · simp only [Act.put, List.setIfInBounds_toArray, List.set_cons_zero, List.set_cons_succ, i64_w, i32_w]
                    rfl
                  refine pure_ (i := 24) (N := some 53) (v := undef) (a' := ?_) #[true, true, true, true, true, true, true, true, true, true, true, true, true, true, true, true, true, true, true, true, true, true, true, true, true, false, false, false, false] rfl rfl (any_of HT_.out (by kernel_rfl)) (fun _ _ _ h => h) (Or.inr ⟨by rfl, rfl⟩) ?_ ?_
                  rotate_left
                  · simp only [Act.put, List.setIfInBounds_toArray, List.set_cons_zero, List.set_cons_succ, i64_w, i32_w]
                    rfl
                  refine pure_ (i := 25) (N := some 54) (v := ?_) (a' := ?_) #[true, true, true, true, true, true, true, true, true, true, true, true, true, true, true, true, true, true, true, true, true, true, true, true, true, true, false, false, false] rfl rfl (any_of HT_.out (by kernel_rfl)) (fun _ _ _ h => h) (Or.inl ⟨by rfl, ?_⟩) ?_ ?_
                  rotate_left
                  · intro w'
                    go_simp
                    with_reducible rfl
                  rotate_left
                  · simp only [Act.put, List.setIfInBounds_toArray, List.set_cons_zero, List.set_cons_succ, i64_w, i32_w]
                    rfl
                  refine pure_ (i := 26) (N := some 55) (v := ?_) (a' := ?_) #[true, true, true, true, true, true, true, true, true, true, true, true, true, true, true, true, true, true, true, true, true, true, true, true, true, true, true, false, false] rfl rfl (any_of HT_.out (by kernel_rfl)) (fun _ _ _ h => h) (Or.inl ⟨by rfl, ?_⟩) ?_ ?_
                  rotate_left
                  · intro w'
                    go_simp
                    with_reducible rfl
                  rotate_left
                  · simp only [Act.put, List.setIfInBounds_toArray, List.set_cons_zero, List.set_cons_succ, i64_w, i32_w]
                    rfl
                  refine pure_ (i := 27) (N := some 56) (v := ?_) (a' := ?_) #[true, true, true, true, true, true, true, true, true, true, true, true, true, true, true, true, true, true, true, true, true, true, true, true, true, true, true, true, false] rfl rfl (any_of HT_.out (by kernel_rfl)) (fun _ _ _ h => h) (Or.inl ⟨by rfl, ?_⟩) ?_ ?_
                  rotate_left
                  · intro w'
                    go_simp
                    with_reducible rfl
                  rotate_left
                  · simp only [Act.put, List.setIfInBounds_toArray, List.set_cons_zero, List.set_cons_succ, i64_w, i32_w]
                    rfl
                  refine pure_ (i := 28) (N := some 2) (v := ?_) (a' := ?_) #[true, true, true, true, true, true, true, true, true, true, true, true, true, true, true, true, true, true, true, true, true, true, true, true, true, true, true, true, true] rfl rfl (any_of HT_.out (by kernel_rfl)) (fun _ _ _ h => h) (Or.inl ⟨by rfl, ?_⟩) ?_ ?_
                  rotate_left
                  · intro w'
                    go_simp
                    with_reducible rfl
                  rotate_left
                  · simp only [Act.put, List.setIfInBounds_toArray, List.set_cons_zero, List.set_cons_succ, i64_w, i32_w]
                    rfl
                  refine done_ (done_of HT_.out (by kernel_rfl)) ?_
                  try go_wp2
                  go_ret
                  exact ⟨by first | rfl | (simp [errW_none, errW_some] <;> rfl) | (simp [*, errW_none, errW_some] <;> rfl), by repeat (first | (with_reducible first | exact HB.out | apply below_alloc | apply pw_below_drewN | apply below_drew1 | refine below_set ?_ GE706.out | refine below_set ?_ GE712.out) | exact HB.out)⟩
              · rw [if_neg c19] at H
                have c19b0 : (t715 == (wrap64 (x4_1 + 1))) = false := beq_eq_false_iff_ne.mpr c19
                have c19b1 : (t715 != (wrap64 (x4_1 + 1))) = true := bne_iff_ne.mpr c19
                obtain rfl := Option.some.inj H
                have hcz51_0 : wr.cell? ⟨gb706, 0, none⟩ = some (.int .i64 t700) := (blk_cell BK706.out 0).trans rfl
                have hcz51_1 : wr.cell? ⟨gb706, 1, none⟩ = some (.string t701) := (blk_cell BK706.out 1).trans rfl
                have hcz51_2 : wr.cell? ⟨gb706, 2, none⟩ = some (.int .i64 t702) := (blk_cell BK706.out 2).trans rfl
                have hcz51_3 : wr.cell? ⟨gb706, 3, none⟩ = some (.slice Ao8 t703.length co8) := (blk_cell BK706.out 3).trans rfl
                have hfz51_0 := blk_frozen BK706.out 0
                have hfz51_1 := blk_frozen BK706.out 1
                have hfz51_2 := blk_frozen BK706.out 2
                have hfz51_3 := blk_frozen BK706.out 3
                try go_wp2_with (first | ((with_reducible refine gate_dst (N := 27) rfl ?_); refine Kd.N_lit k40 _ 40 ?hg (N' := 27) ?hd (xs := ([(⟨t700, t701, t702, t703⟩ : S40)] : List (S40))) (inner := [.int .i64 t700, .string t701, .int .i64 t702, .slice Ao8 t703.length co8]) (ok := (fun k_ => k_ ≠ gb706)) (okp := (fun k_ => k_ ≠ gb706)) ?hr ?hp (fun _ hk => hk) ((show ∀ k_, wr.heap.size ≤ k_ → (fun k_ => k_ ≠ gb706) k_ from fun k_ hk => Kd.freshB (g := gb706) (o := .cells #[.int .i64 t700, .string t701, .int .i64 t702, .slice Ao8 t703.length co8] 40 (0, 0)) (by (with_reducible repeat (first | refine blk_drewN ?_ _ | refine blk_drew ?_ | refine blk_alloc ?_ _)); exact BK706.out) k_ hk) _ (Nat.le_refl _)) (Below.refl _ _) (Nat.le_refl _) (by simp) ?_; (case hd => rfl); (case hg => rfl); (case hr => first | (go_simp; done) | (go_simp; rfl)); (case hp => exact (Reps.c4 (show Kd.FK k40 _ _ (⟨t700, t701, t702, t703⟩ : S40) [.int .i64 t700, .string t701, .int .i64 t702, .slice Ao8 t703.length co8] from (k40_mkF _ _ (⟨t700, t701, t702, t703⟩ : S40) (Kd.N_reads' (Kd.N_mono (ok' := (fun k_ => k_ ≠ gb706)) (HO_707003.out) (fun k_ hk => hk))).2.1 (Kd.N_F (Kd.N_mono (ok' := (fun k_ => k_ ≠ gb706)) (HO_707003.out) (fun k_ hk => hk))))) (Reps.none _ _))); intro v710 w52 ho53 hb hg_ hnew_; clear hg_ hnew_; (first | rw [← Ny709.out] at ho53 | (simp only [Int.reduceToNat] at ho53; rw [← Ny709.out] at ho53)); have n0_ := Aside0.mk (Kd.N_lower ho53 (below_size (by repeat (first | (with_reducible first | exact HB.out | apply below_alloc | apply pw_below_drewN | apply below_drew1 | refine below_set ?_ GE706.out) | exact HB.out)))); have n1_ := Aside0.mk (blk_below (g := gb706) (o := .cells #[.int .i64 t700, .string t701, .int .i64 t702, .slice Ao8 t703.length co8] 40 (0, 0)) (by (with_reducible repeat (first | refine blk_drewN ?_ _ | refine blk_drew ?_ | refine blk_alloc ?_ _)); exact BK706.out) hb); have n2_ := Aside0.mk (below_step (by repeat (first | (with_reducible first | exact HB.out | apply below_alloc | apply pw_below_drewN | apply below_drew1 | refine below_set ?_ GE706.out) | exact HB.out)) hb); clear BK706; clear HB; have nz_ := Aside0.mk (Kd.N_below (by (with_reducible repeat (first | apply Kd.N_alloc | apply Kd.N_drewN | apply Kd.N_drew)); exact HO_707003.out) hb); clear HO_707003; have HO_707003 := nz_; clear nz_; have HO711 := n0_; have BK706 := n1_; have HB := n2_; clear n0_ n1_ n2_; clear hb ho53; obtain ⟨Ao54, co54, eo54⟩ := Kd.N_slice HO711.out; subst eo54) | ((with_reducible refine gate_dst (N := 6) rfl ?_); refine box_event ?hg (N := 6) ?hd (cs := #[.int .i64 0, .string (⟨#[]⟩ : ByteArray), .int .i64 0, .slice none 0 0]) (t := 40) ?hr ?_; (case hd => rfl); (case hg => rfl); (case hr => first | (go_simp; done) | (go_simp; rfl)); intro gb712 hg w55 hbox hb; have n0_ := Aside0.mk (Kd.N_below (Kd.N_elderB (by (with_reducible repeat (first | apply Kd.N_alloc | apply Kd.N_drewN | apply Kd.N_drew)); exact HO711.out) gb712 (Nat.le_of_eq hg.symm)) hb); have n1_ := Aside0.mk (blk_below (g := gb706) (o := .cells #[.int .i64 t700, .string t701, .int .i64 t702, .slice Ao8 t703.length co8] 40 (0, 0)) (by (with_reducible repeat (first | refine blk_drewN ?_ _ | refine blk_drew ?_ | refine blk_alloc ?_ _)); exact BK706.out) hb); have n2_ := Aside0.mk (below_step (by repeat (first | (with_reducible first | exact HB.out | apply below_alloc | apply pw_below_drewN | apply below_drew1 | refine below_set ?_ GE706.out) | exact HB.out)) hb); have n3_ := Aside0.mk (hbox); have n4_ := Aside0.mk ((by rw [hg]; exact (below_size (by repeat (first | (with_reducible first | exact HB.out | apply below_alloc | apply pw_below_drewN | apply below_drew1 | refine below_set ?_ GE706.out) | exact HB.out))) : w.heap.size ≤ gb712)); have n5_ := Aside0.mk ((by rw [hg]; exact (below_size (by repeat (first | (with_reducible first | exact HB.out | apply below_alloc | apply pw_below_drewN | apply below_drew1 | refine below_set ?_ GE706.out) | exact HB.out))) : w.heap.size ≤ gb712)); have n6_ := Aside0.mk ((by rw [hg]; exact Nat.ne_of_lt (blk_lt (g := gb706) (o := .cells #[.int .i64 t700, .string t701, .int .i64 t702, .slice Ao8 t703.length co8] 40 (0, 0)) (by (with_reducible repeat (first | refine blk_drewN ?_ _ | refine blk_drew ?_ | refine blk_alloc ?_ _)); exact BK706.out)) : gb706 ≠ gb712)); have n7_ := Aside0.mk ((by rw [hg]; exact Nat.ne_of_gt (blk_lt (g := gb706) (o := .cells #[.int .i64 t700, .string t701, .int .i64 t702, .slice Ao8 t703.length co8] 40 (0, 0)) (by (with_reducible repeat (first | refine blk_drewN ?_ _ | refine blk_drew ?_ | refine blk_alloc ?_ _)); exact BK706.out)) : gb712 ≠ gb706)); have nz_ := Aside0.mk (Kd.N_below (Kd.N_elderB (by (with_reducible repeat (first | apply Kd.N_alloc | apply Kd.N_drewN | apply Kd.N_drew)); exact HO_707003.out) gb712 (Nat.le_of_eq hg.symm)) hb); clear HO_707003; have HO_707003 := nz_; clear nz_; clear HO711; clear BK706; clear HB; have HO711 := n0_; have BK706 := n1_; have HB := n2_; have BK712 := n3_; have GW712 := n4_; have GE712 := n5_; have NB706_712 := n6_; have NB712_706 := n7_; clear n0_ n1_ n2_ n3_ n4_ n5_ n6_ n7_; clear hb hbox hg; have hnb56 := NB712_706.out; have hnc56 := NB706_712.out; have hcz57_0 : w55.cell? ⟨gb712, 0, none⟩ = some (.int .i64 0) := (blk_cell BK712.out 0).trans rfl; have hcz57_1 : w55.cell? ⟨gb712, 1, none⟩ = some (.string (⟨#[]⟩ : ByteArray)) := (blk_cell BK712.out 1).trans rfl; have hcz57_2 : w55.cell? ⟨gb712, 2, none⟩ = some (.int .i64 0) := (blk_cell BK712.out 2).trans rfl; have hcz57_3 : w55.cell? ⟨gb712, 3, none⟩ = some (.slice none 0 0) := (blk_cell BK712.out 3).trans rfl; have hfz57_0 := blk_frozen BK712.out 0; have hfz57_1 := blk_frozen BK712.out 1; have hfz57_2 := blk_frozen BK712.out 2; have hfz57_3 := blk_frozen BK712.out 3))
                have n0_ : Aside0 (Kd.N k40 40 ((((w55.setCell ⟨gb712, 0, none⟩ (.int .i64 6)).setCell ⟨gb712, 1, none⟩ (.string (⟨#[]⟩ : ByteArray))).setCell ⟨gb712, 2, none⟩ (.int .i64 0)).setCell ⟨gb712, 3, none⟩ (.slice Ao54 y709.length co54)) w.heap.size (fun k_ => k_ ≠ gb706 ∧ k_ ≠ gb712) (.slice Ao54 y709.length co54) y709) := ⟨by (with_reducible repeat (first | apply Kd.N_alloc | apply Kd.N_drewN | apply Kd.N_drew)); exact Kd.N_mono (Kd.N_far (p := ⟨gb712, 3, none⟩) (Kd.N_far (p := ⟨gb712, 2, none⟩) (Kd.N_far (p := ⟨gb712, 1, none⟩) (Kd.N_far (p := ⟨gb712, 0, none⟩) (Kd.N_mono HO711.out (fun k_ hk => (⟨hk, hk.2⟩ : _ ∧ k_ ≠ gb712))) (fun _ hk => hk.2) (.int .i64 6)) (fun _ hk => hk.2) (.string (⟨#[]⟩ : ByteArray))) (fun _ hk => hk.2) (.int .i64 0)) (fun _ hk => hk.2) (.slice Ao54 y709.length co54)) (fun _ hk => ⟨hk.1.1, hk.1.2⟩)⟩
                have nz_ : Aside0 (Kd.N k40 40 ((((w55.setCell ⟨gb712, 0, none⟩ (.int .i64 6)).setCell ⟨gb712, 1, none⟩ (.string (⟨#[]⟩ : ByteArray))).setCell ⟨gb712, 2, none⟩ (.int .i64 0)).setCell ⟨gb712, 3, none⟩ (.slice Ao54 y709.length co54)) w.heap.size (fun k_ => k_ ≠ gb706 ∧ k_ ≠ gb712) (.slice Ao8 t703.length co8) t703) := ⟨by (with_reducible repeat (first | apply Kd.N_alloc | apply Kd.N_drewN | apply Kd.N_drew)); exact Kd.N_mono (Kd.N_far (p := ⟨gb712, 3, none⟩) (Kd.N_far (p := ⟨gb712, 2, none⟩) (Kd.N_far (p := ⟨gb712, 1, none⟩) (Kd.N_far (p := ⟨gb712, 0, none⟩) (Kd.N_mono HO_707003.out (fun k_ hk => (⟨hk, hk.2⟩ : _ ∧ k_ ≠ gb712))) (fun _ hk => hk.2) (.int .i64 6)) (fun _ hk => hk.2) (.string (⟨#[]⟩ : ByteArray))) (fun _ hk => hk.2) (.int .i64 0)) (fun _ hk => hk.2) (.slice Ao54 y709.length co54)) (fun _ hk => ⟨hk.1.1, hk.1.2⟩)⟩
                have n1_ : Aside0 (((((w55.setCell ⟨gb712, 0, none⟩ (.int .i64 6)).setCell ⟨gb712, 1, none⟩ (.string (⟨#[]⟩ : ByteArray))).setCell ⟨gb712, 2, none⟩ (.int .i64 0)).setCell ⟨gb712, 3, none⟩ (.slice Ao54 y709.length co54)).heap[gb706]? = some (.cells #[.int .i64 t700, .string t701, .int .i64 t702, .slice Ao8 t703.length co8] 40 (0, 0))) := ⟨by (with_reducible repeat (first | refine blk_drewN ?_ _ | refine blk_drew ?_ | refine blk_alloc ?_ _)); refine blk_far ?_ NB706_712.out _; (with_reducible repeat (first | refine blk_drewN ?_ _ | refine blk_drew ?_ | refine blk_alloc ?_ _)); refine blk_far ?_ NB706_712.out _; (with_reducible repeat (first | refine blk_drewN ?_ _ | refine blk_drew ?_ | refine blk_alloc ?_ _)); refine blk_far ?_ NB706_712.out _; (with_reducible repeat (first | refine blk_drewN ?_ _ | refine blk_drew ?_ | refine blk_alloc ?_ _)); refine blk_far ?_ NB706_712.out _; (with_reducible repeat (first | refine blk_drewN ?_ _ | refine blk_drew ?_ | refine blk_alloc ?_ _)); exact BK706.out⟩
                have n2_ : Aside0 (((((w55.setCell ⟨gb712, 0, none⟩ (.int .i64 6)).setCell ⟨gb712, 1, none⟩ (.string (⟨#[]⟩ : ByteArray))).setCell ⟨gb712, 2, none⟩ (.int .i64 0)).setCell ⟨gb712, 3, none⟩ (.slice Ao54 y709.length co54)).heap[gb712]? = some (.cells #[.int .i64 6, .string (⟨#[]⟩ : ByteArray), .int .i64 0, .slice Ao54 y709.length co54] 40 (0, 0))) := ⟨by (with_reducible repeat (first | refine blk_drewN ?_ _ | refine blk_drew ?_ | refine blk_alloc ?_ _)); refine blk_put (cs := #[.int .i64 6, .string (⟨#[]⟩ : ByteArray), .int .i64 0, .slice none 0 0]) ?_ 3 _ rfl; (with_reducible repeat (first | refine blk_drewN ?_ _ | refine blk_drew ?_ | refine blk_alloc ?_ _)); refine blk_put (cs := #[.int .i64 6, .string (⟨#[]⟩ : ByteArray), .int .i64 0, .slice none 0 0]) ?_ 2 _ rfl; (with_reducible repeat (first | refine blk_drewN ?_ _ | refine blk_drew ?_ | refine blk_alloc ?_ _)); refine blk_put (cs := #[.int .i64 6, .string (⟨#[]⟩ : ByteArray), .int .i64 0, .slice none 0 0]) ?_ 1 _ rfl; (with_reducible repeat (first | refine blk_drewN ?_ _ | refine blk_drew ?_ | refine blk_alloc ?_ _)); refine blk_put (cs := #[.int .i64 0, .string (⟨#[]⟩ : ByteArray), .int .i64 0, .slice none 0 0]) ?_ 0 _ rfl; (with_reducible repeat (first | refine blk_drewN ?_ _ | refine blk_drew ?_ | refine blk_alloc ?_ _)); exact BK712.out⟩
                have n3_ : Aside0 (Below w.heap.size w ((((w55.setCell ⟨gb712, 0, none⟩ (.int .i64 6)).setCell ⟨gb712, 1, none⟩ (.string (⟨#[]⟩ : ByteArray))).setCell ⟨gb712, 2, none⟩ (.int .i64 0)).setCell ⟨gb712, 3, none⟩ (.slice Ao54 y709.length co54))) := ⟨by repeat (first | (with_reducible first | exact HB.out | apply below_alloc | apply pw_below_drewN | apply below_drew1 | refine below_set ?_ GE706.out | refine below_set ?_ GE712.out) | exact HB.out)⟩
                (try clear HO711)
                (try clear HO_707003)
                (try clear BK706)
                (try clear BK712)
                (try clear HB)
                generalize ((((w55.setCell ⟨gb712, 0, none⟩ (.int .i64 6)).setCell ⟨gb712, 1, none⟩ (.string (⟨#[]⟩ : ByteArray))).setCell ⟨gb712, 2, none⟩ (.int .i64 0)).setCell ⟨gb712, 3, none⟩ (.slice Ao54 y709.length co54)) = w58 at n0_ nz_ n1_ n2_ n3_ ⊢
                have HO711 := n0_
                have HO_707003 := nz_
                have BK706 := n1_
                have BK712 := n2_
                have HB := n3_
                clear n0_ nz_ n1_ n2_ n3_
                have n0_ := Aside0.mk (Kd.N_drew HO711.out)
                have nz_ := Aside0.mk (Kd.N_drew HO_707003.out)
                have n1_ := Aside0.mk (blk_drew BK706.out)
                have n2_ := Aside0.mk (blk_drew BK712.out)
                have n3_ := Aside0.mk (below_drew1 HB.out)
                clear HO711
                clear HO_707003
                clear BK706
                clear BK712
                clear HB
                have HO711 := n0_
                have HO_707003 := nz_
                have BK706 := n1_
                have BK712 := n2_
                have HB := n3_
                clear n0_ nz_ n1_ n2_ n3_
                refine start_ (n := 29) (S := fun w' => w'.cell? ⟨gb706, 0, none⟩ = some (.int .i64 t700) ∧ w'.cell? ⟨gb706, 1, none⟩ = some (.string t701) ∧ w'.cell? ⟨gb706, 2, none⟩ = some (.int .i64 t702) ∧ w'.cell? ⟨gb706, 3, none⟩ = some (.slice Ao8 t703.length co8) ∧ w'.cell? ⟨gb712, 0, none⟩ = some (.int .i64 6) ∧ w'.cell? ⟨gb712, 1, none⟩ = some (.string (⟨#[]⟩ : ByteArray)) ∧ w'.cell? ⟨gb712, 2, none⟩ = some (.int .i64 0) ∧ w'.cell? ⟨gb712, 3, none⟩ = some (.slice Ao54 y709.length co54)) (ds := []) #[false, false, false, false, false, false, false, false, false, false, false, false, false, false, false, false, false, false, false, false, false, false, false, false, false, false, false, false, false] (by kernel_rfl) rfl rfl ⟨(blk_cell BK706.out 0).trans rfl, (blk_cell BK706.out 1).trans rfl, (blk_cell BK706.out 2).trans rfl, (blk_cell BK706.out 3).trans rfl, (blk_cell BK712.out 0).trans rfl, (blk_cell BK712.out 1).trans rfl, (blk_cell BK712.out 2).trans rfl, (blk_cell BK712.out 3).trans rfl⟩ (fun hHeld => ?_); refine with_tabW laws_FnNodes.tab10 laws_FnNodes.bits10 (fun HT_ HW_ => ?_)
                generalize w58.drew = w59 at HO711 HO_707003 BK706 BK712 HB hHeld ⊢
                refine pure_ (i := 2) (N := some 31) (v := ?_) (a' := ?_) #[false, false, true, false, false, false, false, false, false, false, false, false, false, false, false, false, false, false, false, false, false, false, false, false, false, false, false, false, false] rfl rfl (any_of HT_.out (by kernel_rfl)) (fun _ _ _ h => h) (Or.inl ⟨by rfl, ?_⟩) ?_ ?_
                rotate_left
                · intro w'
                  go_simp
                  with_reducible rfl
                rotate_left
                · simp only [Act.put, List.setIfInBounds_toArray, List.set_cons_zero, List.set_cons_succ, i64_w, i32_w]
                  rfl
                refine take_ (i := 0) (N := some 29) (v := ?_) (a' := ?_) #[true, false, true, false, false, false, false, false, false, false, false, false, false, false, false, false, false, false, false, false, false, false, false, false, false, false, false, false, false] rfl rfl (take_ofW HT_.out HW_.out (by kernel_rfl)) (fun _ _ _ h => h) (Or.inl ⟨by rfl, ?_⟩) hHeld ?_ ?_
                rotate_left
                · rintro w' ⟨s0, s1, s2, s3, s4, s5, s6, s7⟩
                  go_simp
                  with_reducible rfl
                rotate_left
                · simp only [Act.put, List.setIfInBounds_toArray, List.set_cons_zero, List.set_cons_succ, i64_w, i32_w]
                  rfl
                refine one_ (i := 1) (N := some 30) #[true, true, true, false, false, false, false, false, false, false, false, false, false, false, false, false, false, false, false, false, false, false, false, false, false, false, false, false, false] rfl rfl (one_of HT_.out (by kernel_rfl)) (by decide) (fun K hK => ?_)
                refine goes_ Try.func41 (by kernel_rfl) rfl #[.agg #[.int .i64 t700, .string t701, .int .i64 t702, .slice Ao8 t703.length co8]] (by rfl) rfl rfl (by (try simp only [List.map_toArray, List.map_cons, List.map_nil]); first | done | rfl | (simp only [List.length_drop, List.length_take]; rfl)) ?_
                with_reducible refine (impl_Nodes.calls k1 t700 t701 t702 _ _ t703 t713 _ ?side1 ?side2 A14.out).mono ?_
                (case side1 => repeat (first | exact (Kd.N_reads' HO_707003.out).2.2 | (with_reducible refine Kd.C_alloc ?_ _) | (with_reducible refine Kd.C_drewN ?_ _) | (with_reducible refine Kd.C_drew ?_)))
                (case side2 => exact (Kd.N_reads' HO_707003.out).2.1)
                rintro e w60 ⟨rfl, hb⟩
                refine ⟨_, rfl, ?_⟩
                have n0_ := Aside0.mk (Kd.N_below (by (with_reducible repeat (first | apply Kd.N_alloc | apply Kd.N_drewN | apply Kd.N_drew)); exact HO711.out) hb)
                have nz_ := Aside0.mk (Kd.N_below (by (with_reducible repeat (first | apply Kd.N_alloc | apply Kd.N_drewN | apply Kd.N_drew)); exact HO_707003.out) hb)
                have n1_ := Aside0.mk (blk_below (g := gb706) (o := .cells #[.int .i64 t700, .string t701, .int .i64 t702, .slice Ao8 t703.length co8] 40 (0, 0)) (by (with_reducible repeat (first | refine blk_drewN ?_ _ | refine blk_drew ?_ | refine blk_alloc ?_ _)); exact BK706.out) hb)
                have n2_ := Aside0.mk (blk_below (g := gb712) (o := .cells #[.int .i64 6, .string (⟨#[]⟩ : ByteArray), .int .i64 0, .slice Ao54 y709.length co54] 40 (0, 0)) (by (with_reducible repeat (first | refine blk_drewN ?_ _ | refine blk_drew ?_ | refine blk_alloc ?_ _)); exact BK712.out) hb)
                have n3_ := Aside0.mk (below_step (by repeat (first | (with_reducible first | exact HB.out | apply below_alloc | apply pw_below_drewN | apply below_drew1 | refine below_set ?_ GE706.out | refine below_set ?_ GE712.out) | exact HB.out)) hb)
                clear HO711
                clear HO_707003
                clear BK706
                clear BK712
                clear HB
                have HO711 := n0_
                have HO_707003 := nz_
                have BK706 := n1_
                have BK712 := n2_
                have HB := n3_
                clear n0_ nz_ n1_ n2_ n3_
                (try clear hb)
                (try clear hb2)
                (try clear hk)
                (try clear hi)
                refine hK.out _ _ ⟨(blk_cell BK706.out 0).trans rfl, (blk_cell BK706.out 1).trans rfl, (blk_cell BK706.out 2).trans rfl, (blk_cell BK706.out 3).trans rfl, (blk_cell BK712.out 0).trans rfl, (blk_cell BK712.out 1).trans rfl, (blk_cell BK712.out 2).trans rfl, (blk_cell BK712.out 3).trans rfl⟩ (fun hHeld => ?_)
                clear hK K
                refine norm_ (a' := ?_) ?_ ?_
                rotate_left
                · show Act.put _ (some 30) _ = _
                  simp only [Act.put, List.setIfInBounds_toArray, List.set_cons_zero, List.set_cons_succ, i64_w, i32_w]
                  rfl
                refine pure_ (i := 3) (N := some 32) (v := ?_) (a' := ?_) #[true, true, true, true, false, false, false, false, false, false, false, false, false, false, false, false, false, false, false, false, false, false, false, false, false, false, false, false, false] rfl rfl (any_of HT_.out (by kernel_rfl)) (fun _ _ _ h => h) (Or.inl ⟨by rfl, ?_⟩) ?_ ?_
                rotate_left
                · intro w'
                  go_simp
                  with_reducible rfl
                rotate_left
                · simp only [Act.put, List.setIfInBounds_toArray, List.set_cons_zero, List.set_cons_succ, i64_w, i32_w]
                  rfl
                refine pure_ (i := 4) (N := some 33) (v := ?_) (a' := ?_) #[true, true, true, true, true, false, false, false, false, false, false, false, false, false, false, false, false, false, false, false, false, false, false, false, false, false, false, false, false] rfl rfl (any_of HT_.out (by kernel_rfl)) (fun _ _ _ h => h) (Or.inl ⟨by rfl, ?_⟩) ?_ ?_
                rotate_left
                · intro w'
                  go_simp
                  with_reducible rfl
                rotate_left
                · simp only [Act.put, List.setIfInBounds_toArray, List.set_cons_zero, List.set_cons_succ, i64_w, i32_w]
                  rfl
                refine pure_ (i := 5) (N := some 34) (v := ?_) (a' := ?_) #[true, true, true, true, true, true, false, false, false, false, false, false, false, false, false, false, false, false, false, false, false, false, false, false, false, false, false, false, false] rfl rfl (any_of HT_.out (by kernel_rfl)) (fun _ _ _ h => h) (Or.inl ⟨by rfl, ?_⟩) ?_ ?_
                rotate_left
                · intro w'
                  go_simp
                  with_reducible rfl
                rotate_left
                · simp only [Act.put, List.setIfInBounds_toArray, List.set_cons_zero, List.set_cons_succ, i64_w, i32_w]
                  rfl
                refine take_ (i := 6) (N := some 35) (v := ?_) (a' := ?_) #[true, true, true, true, true, true, true, false, false, false, false, false, false, false, false, false, false, false, false, false, false, false, false, false, false, false, false, false, false] rfl rfl (take_ofW HT_.out HW_.out (by kernel_rfl)) (fun _ _ _ h => h) (Or.inl ⟨by rfl, ?_⟩) hHeld ?_ ?_
                rotate_left
                · rintro w' ⟨s0, s1, s2, s3, s4, s5, s6, s7⟩
                  go_simp
                  with_reducible rfl
                rotate_left
                · simp only [Act.put, List.setIfInBounds_toArray, List.set_cons_zero, List.set_cons_succ, i64_w, i32_w]
                  rfl
                refine one_ (i := 7) (N := some 36) #[true, true, true, true, true, true, true, true, false, false, false, false, false, false, false, false, false, false, false, false, false, false, false, false, false, false, false, false, false] rfl rfl (one_of HT_.out (by kernel_rfl)) (by decide) (fun K hK => ?_)
                refine goes_ Try.func46 (by kernel_rfl) rfl #[.agg #[.int .i64 t700, .string t701, .int .i64 t702, .slice Ao8 t703.length co8]] (by rfl) rfl rfl (by (try simp only [List.map_toArray, List.map_cons, List.map_nil]); first | done | rfl | (simp only [List.length_drop, List.length_take]; rfl)) ?_
                with_reducible refine (spec_Nodes.calls k1 t700 t701 t702 _ _ t703 t714 _ ?side1 ?side2 A16.out).mono ?_
                (case side1 => repeat (first | exact (Kd.N_reads' HO_707003.out).2.2 | (with_reducible refine Kd.C_alloc ?_ _) | (with_reducible refine Kd.C_drewN ?_ _) | (with_reducible refine Kd.C_drew ?_)))
                (case side2 => exact (Kd.N_reads' HO_707003.out).2.1)
                rintro e w61 ⟨rfl, hb⟩
                refine ⟨_, rfl, ?_⟩
                have n0_ := Aside0.mk (Kd.N_below (by (with_reducible repeat (first | apply Kd.N_alloc | apply Kd.N_drewN | apply Kd.N_drew)); exact HO711.out) hb)
                have nz_ := Aside0.mk (Kd.N_below (by (with_reducible repeat (first | apply Kd.N_alloc | apply Kd.N_drewN | apply Kd.N_drew)); exact HO_707003.out) hb)
                have n1_ := Aside0.mk (blk_below (g := gb706) (o := .cells #[.int .i64 t700, .string t701, .int .i64 t702, .slice Ao8 t703.length co8] 40 (0, 0)) (by (with_reducible repeat (first | refine blk_drewN ?_ _ | refine blk_drew ?_ | refine blk_alloc ?_ _)); exact BK706.out) hb)
                have n2_ := Aside0.mk (blk_below (g := gb712) (o := .cells #[.int .i64 6, .string (⟨#[]⟩ : ByteArray), .int .i64 0, .slice Ao54 y709.length co54] 40 (0, 0)) (by (with_reducible repeat (first | refine blk_drewN ?_ _ | refine blk_drew ?_ | refine blk_alloc ?_ _)); exact BK712.out) hb)
                have n3_ := Aside0.mk (below_step (by repeat (first | (with_reducible first | exact HB.out | apply below_alloc | apply pw_below_drewN | apply below_drew1 | refine below_set ?_ GE706.out | refine below_set ?_ GE712.out) | exact HB.out)) hb)
                clear HO711
                clear HO_707003
                clear BK706
                clear BK712
                clear HB
                have HO711 := n0_
                have HO_707003 := nz_
                have BK706 := n1_
                have BK712 := n2_
                have HB := n3_
                clear n0_ nz_ n1_ n2_ n3_
                (try clear hb)
                (try clear hb2)
                (try clear hk)
                (try clear hi)
                refine hK.out _ _ ⟨(blk_cell BK706.out 0).trans rfl, (blk_cell BK706.out 1).trans rfl, (blk_cell BK706.out 2).trans rfl, (blk_cell BK706.out 3).trans rfl, (blk_cell BK712.out 0).trans rfl, (blk_cell BK712.out 1).trans rfl, (blk_cell BK712.out 2).trans rfl, (blk_cell BK712.out 3).trans rfl⟩ (fun hHeld => ?_)
                clear hK K
                refine norm_ (a' := ?_) ?_ ?_
                rotate_left
                · show Act.put _ (some 36) _ = _
                  simp only [Act.put, List.setIfInBounds_toArray, List.set_cons_zero, List.set_cons_succ, i64_w, i32_w]
                  rfl
                refine pure_ (i := 8) (N := some 37) (v := ?_) (a' := ?_) #[true, true, true, true, true, true, true, true, true, false, false, false, false, false, false, false, false, false, false, false, false, false, false, false, false, false, false, false, false] rfl rfl (any_of HT_.out (by kernel_rfl)) (fun _ _ _ h => h) (Or.inl ⟨by rfl, ?_⟩) ?_ ?_
                rotate_left
                · intro w'
                  go_simp
                  with_reducible rfl
                rotate_left
                · simp only [Act.put, List.setIfInBounds_toArray, List.set_cons_zero, List.set_cons_succ, i64_w, i32_w]
                  rfl
                refine pure_ (i := 9) (N := some 38) (v := ?_) (a' := ?_) #[true, true, true, true, true, true, true, true, true, true, false, false, false, false, false, false, false, false, false, false, false, false, false, false, false, false, false, false, false] rfl rfl (any_of HT_.out (by kernel_rfl)) (fun _ _ _ h => h) (Or.inl ⟨by rfl, ?_⟩) ?_ ?_
                rotate_left
                · intro w'
                  go_simp
                  with_reducible rfl
                rotate_left
                · simp only [Act.put, List.setIfInBounds_toArray, List.set_cons_zero, List.set_cons_succ, i64_w, i32_w]
                  rfl
                refine pure_ (i := 10) (N := some 39) (v := ?_) (a' := ?_) #[true, true, true, true, true, true, true, true, true, true, true, false, false, false, false, false, false, false, false, false, false, false, false, false, false, false, false, false, false] rfl rfl (any_of HT_.out (by kernel_rfl)) (fun _ _ _ h => h) (Or.inl ⟨by rfl, ?_⟩) ?_ ?_
                rotate_left
                · intro w'
                  go_simp
                  with_reducible rfl
                rotate_left
                · simp only [Act.put, List.setIfInBounds_toArray, List.set_cons_zero, List.set_cons_succ, i64_w, i32_w]
                  rfl
                refine pure_ (i := 13) (N := some 42) (v := ?_) (a' := ?_) #[true, true, true, true, true, true, true, true, true, true, true, false, false, true, false, false, false, false, false, false, false, false, false, false, false, false, false, false, false] rfl rfl (any_of HT_.out (by kernel_rfl)) (fun _ _ _ h => h) (Or.inl ⟨by rfl, ?_⟩) ?_ ?_
                rotate_left
                · intro w'
                  go_simp
                  with_reducible rfl
                rotate_left
                · simp only [Act.put, List.setIfInBounds_toArray, List.set_cons_zero, List.set_cons_succ, i64_w, i32_w]
                  rfl
                refine pure_ (i := 14) (N := some 43) (v := ?_) (a' := ?_) #[true, true, true, true, true, true, true, true, true, true, true, false, false, true, true, false, false, false, false, false, false, false, false, false, false, false, false, false, false] rfl rfl (any_of HT_.out (by kernel_rfl)) (fun _ _ _ h => h) (Or.inl ⟨by rfl, ?_⟩) ?_ ?_
                rotate_left
                · intro w'
                  go_simp
                  with_reducible rfl
                rotate_left
                · simp only [Act.put, List.setIfInBounds_toArray, List.set_cons_zero, List.set_cons_succ, i64_w, i32_w]
                  rfl
                refine take_ (i := 11) (N := some 40) (v := ?_) (a' := ?_) #[true, true, true, true, true, true, true, true, true, true, true, true, false, true, true, false, false, false, false, false, false, false, false, false, false, false, false, false, false] rfl rfl (take_ofW HT_.out HW_.out (by kernel_rfl)) (fun _ _ _ h => h) (Or.inl ⟨by rfl, ?_⟩) hHeld ?_ ?_
                rotate_left
                · rintro w' ⟨s0, s1, s2, s3, s4, s5, s6, s7⟩
                  go_simp
                  with_reducible rfl
                rotate_left
                · simp only [Act.put, List.setIfInBounds_toArray, List.set_cons_zero, List.set_cons_succ, i64_w, i32_w]
                  rfl
                refine one_ (i := 12) (N := some 41) #[true, true, true, true, true, true, true, true, true, true, true, true, true, true, true, false, false, false, false, false, false, false, false, false, false, false, false, false, false] rfl rfl (one_of HT_.out (by kernel_rfl)) (by decide) (fun K hK => ?_)
                refine goes_ Try.func41 (by kernel_rfl) rfl #[.agg #[.int .i64 6, .string (⟨#[]⟩ : ByteArray), .int .i64 0, .slice Ao54 y709.length co54]] (by rfl) rfl rfl (by (try simp only [List.map_toArray, List.map_cons, List.map_nil]); first | done | rfl | (simp only [List.length_drop, List.length_take]; rfl)) ?_
                with_reducible refine (impl_Nodes.calls k1 6 (⟨#[]⟩ : ByteArray) 0 _ _ y709 t715 _ ?side1 ?side2 A18.out).mono ?_
                (case side1 => repeat (first | exact (Kd.N_reads' HO711.out).2.2 | (with_reducible refine Kd.C_alloc ?_ _) | (with_reducible refine Kd.C_drewN ?_ _) | (with_reducible refine Kd.C_drew ?_)))
                (case side2 => exact (Kd.N_reads' HO711.out).2.1)
                rintro e w62 ⟨rfl, hb⟩
                refine ⟨_, rfl, ?_⟩
                have n0_ := Aside0.mk (Kd.N_below (by (with_reducible repeat (first | apply Kd.N_alloc | apply Kd.N_drewN | apply Kd.N_drew)); exact HO711.out) hb)
                have nz_ := Aside0.mk (Kd.N_below (by (with_reducible repeat (first | apply Kd.N_alloc | apply Kd.N_drewN | apply Kd.N_drew)); exact HO_707003.out) hb)
                have n1_ := Aside0.mk (blk_below (g := gb706) (o := .cells #[.int .i64 t700, .string t701, .int .i64 t702, .slice Ao8 t703.length co8] 40 (0, 0)) (by (with_reducible repeat (first | refine blk_drewN ?_ _ | refine blk_drew ?_ | refine blk_alloc ?_ _)); exact BK706.out) hb)
                have n2_ := Aside0.mk (blk_below (g := gb712) (o := .cells #[.int .i64 6, .string (⟨#[]⟩ : ByteArray), .int .i64 0, .slice Ao54 y709.length co54] 40 (0, 0)) (by (with_reducible repeat (first | refine blk_drewN ?_ _ | refine blk_drew ?_ | refine blk_alloc ?_ _)); exact BK712.out) hb)
                have n3_ := Aside0.mk (below_step (by repeat (first | (with_reducible first | exact HB.out | apply below_alloc | apply pw_below_drewN | apply below_drew1 | refine below_set ?_ GE706.out | refine below_set ?_ GE712.out) | exact HB.out)) hb)
                clear HO711
                clear HO_707003
                clear BK706
                clear BK712
                clear HB
                have HO711 := n0_
                have HO_707003 := nz_
                have BK706 := n1_
                have BK712 := n2_
                have HB := n3_
                clear n0_ nz_ n1_ n2_ n3_
                (try clear hb)
                (try clear hb2)
                (try clear hk)
                (try clear hi)
                refine hK.out _ _ ⟨(blk_cell BK706.out 0).trans rfl, (blk_cell BK706.out 1).trans rfl, (blk_cell BK706.out 2).trans rfl, (blk_cell BK706.out 3).trans rfl, (blk_cell BK712.out 0).trans rfl, (blk_cell BK712.out 1).trans rfl, (blk_cell BK712.out 2).trans rfl, (blk_cell BK712.out 3).trans rfl⟩ (fun hHeld => ?_)
                clear hK K
                refine norm_ (a' := ?_) ?_ ?_
                rotate_left
                · show Act.put _ (some 41) _ = _
                  simp only [Act.put, List.setIfInBounds_toArray, List.set_cons_zero, List.set_cons_succ, i64_w, i32_w]
                  rfl
                refine pure_ (i := 15) (N := some 44) (v := ?_) (a' := ?_) #[true, true, true, true, true, true, true, true, true, true, true, true, true, true, true, true, false, false, false, false, false, false, false, false, false, false, false, false, false] rfl rfl (any_of HT_.out (by kernel_rfl)) (fun _ _ _ h => h) (Or.inl ⟨by rfl, ?_⟩) ?_ ?_
                rotate_left
                · intro w'
                  go_simp
                  with_reducible rfl
                rotate_left
                · simp only [Act.put, List.setIfInBounds_toArray, List.set_cons_zero, List.set_cons_succ, i64_w, i32_w]
                  rfl
                refine pure_ (i := 16) (N := some 45) (v := ?_) (a' := ?_) #[true, true, true, true, true, true, true, true, true, true, true, true, true, true, true, true, true, false, false, false, false, false, false, false, false, false, false, false, false] rfl rfl (any_of HT_.out (by kernel_rfl)) (fun _ _ _ h => h) (Or.inl ⟨by rfl, ?_⟩) ?_ ?_
                rotate_left
                · intro w'
                  go_simp
                  with_reducible rfl
                rotate_left
                · simp only [Act.put, List.setIfInBounds_toArray, List.set_cons_zero, List.set_cons_succ, i64_w, i32_w]
                  rfl
                refine pure_ (i := 17) (N := some 46) (v := ?_) (a' := ?_) #[true, true, true, true, true, true, true, true, true, true, true, true, true, true, true, true, true, true, false, false, false, false, false, false, false, false, false, false, false] rfl rfl (any_of HT_.out (by kernel_rfl)) (fun _ _ _ h => h) (Or.inl ⟨by rfl, ?_⟩) ?_ ?_
                rotate_left
                · intro w'
                  go_simp
                  with_reducible rfl
                rotate_left
                · simp only [Act.put, List.setIfInBounds_toArray, List.set_cons_zero, List.set_cons_succ, i64_w, i32_w]
                  rfl
                refine pure_ (i := 18) (N := some 47) (v := undef) (a' := ?_) #[true, true, true, true, true, true, true, true, true, true, true, true, true, true, true, true, true, true, true, false, false, false, false, false, false, false, false, false, false] rfl rfl (any_of HT_.out (by kernel_rfl)) (fun _ _ _ h => h) (Or.inr ⟨by rfl, rfl⟩) ?_ ?_
                rotate_left
                · simp only [Act.put, List.setIfInBounds_toArray, List.set_cons_zero, List.set_cons_succ, i64_w, i32_w]
                  rfl
                refine pure_ (i := 19) (N := some 48) (v := undef) (a' := ?_) #[true, true, true, true, true, true, true, true, true, true, true, true, true, true, true, true, true, true, true, true, false, false, false, false, false, false, false, false, false] rfl rfl (any_of HT_.out (by kernel_rfl)) (fun _ _ _ h => h) (Or.inr ⟨by rfl, rfl⟩) ?_ ?_
                rotate_left
                · simp only [Act.put, List.setIfInBounds_toArray, List.set_cons_zero, List.set_cons_succ, i64_w, i32_w]
                  rfl
                refine pure_ (i := 20) (N := some 49) (v := undef) (a' := ?_) #[true, true, true, true, true, true, true, true, true, true, true, true, true, true, true, true, true, true, true, true, true, false, false, false, false, false, false, false, false] rfl rfl (any_of HT_.out (by kernel_rfl)) (fun _ _ _ h => h) (Or.inr ⟨by rfl, rfl⟩) ?_ ?_
                rotate_left
                · simp only [Act.put, List.setIfInBounds_toArray, List.set_cons_zero, List.set_cons_succ, i64_w, i32_w]
                  rfl
                refine pure_ (i := 21) (N := some 50) (v := undef) (a' := ?_) #[true, true, true, true, true, true, true, true, true, true, true, true, true, true, true, true, true, true, true, true, true, true, false, false, false, false, false, false, false] rfl rfl (any_of HT_.out (by kernel_rfl)) (fun _ _ _ h => h) (Or.inr ⟨by rfl, rfl⟩) ?_ ?_
                rotate_left
                · simp only [Act.put, List.setIfInBounds_toArray, List.set_cons_zero, List.set_cons_succ, i64_w, i32_w]
                  rfl
                refine pure_ (i := 22) (N := some 51) (v := undef) (a' := ?_) #[true, true, true, true, true, true, true, true, true, true, true, true, true, true, true, true, true, true, true, true, true, true, true, false, false, false, false, false, false] rfl rfl (any_of HT_.out (by kernel_rfl)) (fun _ _ _ h => h) (Or.inr ⟨by rfl, rfl⟩) ?_ ?_
                rotate_left
                · simp only [Act.put, List.setIfInBounds_toArray, List.set_cons_zero, List.set_cons_succ, i64_w, i32_w]
                  rfl
                refine pure_ (i := 23) (N := some 52) (v := undef) (a' := ?_) #[true, true, true, true, true, true, true, true, true, true, true, true, true, true, true, true, true, true, true, true, true, true, true, true, false, false, false, false, false] rfl rfl (any_of HT_.out (by kernel_rfl)) (fun _ _ _ h => h) (Or.inr ⟨by rfl, rfl⟩) ?_ ?_
                rotate_left
                · simp only [Act.put, List.setIfInBounds_toArray, List.set_cons_zero, List.set_cons_succ, i64_w, i32_w]
                  rfl
                refine pure_ (i := 24) (N := some 53) (v := undef) (a' := ?_) #[true, true, true, true, true, true, true, true, true, true, true, true, true, true, true, true, true, true, true, true, true, true, true, true, true, false, false, false, false] rfl rfl (any_of HT_.out (by kernel_rfl)) (fun _ _ _ h => h) (Or.inr ⟨by rfl, rfl⟩) ?_ ?_
                rotate_left
                · simp only [Act.put, List.setIfInBounds_toArray, List.set_cons_zero, List.set_cons_succ, i64_w, i32_w]
                  rfl
                refine pure_ (i := 25) (N := some 54) (v := undef) (a' := ?_) #[true, true, true, true, true, true, true, true, true, true, true, true, true, true, true, true, true, true, true, true, true, true, true, true, true, true, false, false, false] rfl rfl (any_of HT_.out (by kernel_rfl)) (fun _ _ _ h => h) (Or.inr ⟨by rfl, rfl⟩) ?_ ?_
                rotate_left
                · simp only [Act.put, List.setIfInBounds_toArray, List.set_cons_zero, List.set_cons_succ, i64_w, i32_w]
                  rfl
                refine pure_ (i := 26) (N := some 55) (v := undef) (a' := ?_) #[true, true, true, true, true, true, true, true, true, true, true, true, true, true, true, true, true, true, true, true, true, true, true, true, true, true, true, false, false] rfl rfl (any_of HT_.out (by kernel_rfl)) (fun _ _ _ h => h) (Or.inr ⟨by rfl, rfl⟩) ?_ ?_
                rotate_left
                · simp only [Act.put, List.setIfInBounds_toArray, List.set_cons_zero, List.set_cons_succ, i64_w, i32_w]
                  rfl
                refine pure_ (i := 27) (N := some 56) (v := ?_) (a' := ?_) #[true, true, true, true, true, true, true, true, true, true, true, true, true, true, true, true, true, true, true, true, true, true, true, true, true, true, true, true, false] rfl rfl (any_of HT_.out (by kernel_rfl)) (fun _ _ _ h => h) (Or.inl ⟨by rfl, ?_⟩) ?_ ?_
                rotate_left
                · intro w'
                  go_simp
                  with_reducible rfl
                rotate_left
                · simp only [Act.put, List.setIfInBounds_toArray, List.set_cons_zero, List.set_cons_succ, i64_w, i32_w]
                  rfl
                refine pure_ (i := 28) (N := some 2) (v := ?_) (a' := ?_) #[true, true, true, true, true, true, true, true, true, true, true, true, true, true, true, true, true, true, true, true, true, true, true, true, true, true, true, true, true] rfl rfl (any_of HT_.out (by kernel_rfl)) (fun _ _ _ h => h) (Or.inl ⟨by rfl, ?_⟩) ?_ ?_
                rotate_left
                · intro w'
                  go_simp
                  with_reducible rfl
                rotate_left
                · simp only [Act.put, List.setIfInBounds_toArray, List.set_cons_zero, List.set_cons_succ, i64_w, i32_w]
                  rfl
                refine done_ (done_of HT_.out (by kernel_rfl)) ?_
                try go_wp2
                go_ret
                exact ⟨by first | rfl | (simp [errW_none, errW_some] <;> rfl) | (simp [*, errW_none, errW_some] <;> rfl), by repeat (first | (with_reducible first | exact HB.out | apply below_alloc | apply pw_below_drewN | apply below_drew1 | refine below_set ?_ GE706.out | refine below_set ?_ GE712.out) | exact HB.out)⟩
            · rw [if_neg c17] at H
              have c17b0 : (x4_1 == t714) = false := beq_eq_false_iff_ne.mpr c17
              have c17b1 : (x4_1 != t714) = true := bne_iff_ne.mpr c17
              obtain rfl := Option.some.inj H
              have hcz63_0 : wr.cell? ⟨gb706, 0, none⟩ = some (.int .i64 t700) := (blk_cell BK706.out 0).trans rfl
              have hcz63_1 : wr.cell? ⟨gb706, 1, none⟩ = some (.string t701) := (blk_cell BK706.out 1).trans rfl
              have hcz63_2 : wr.cell? ⟨gb706, 2, none⟩ = some (.int .i64 t702) := (blk_cell BK706.out 2).trans rfl
              have hcz63_3 : wr.cell? ⟨gb706, 3, none⟩ = some (.slice Ao8 t703.length co8) := (blk_cell BK706.out 3).trans rfl
              have hfz63_0 := blk_frozen BK706.out 0
              have hfz63_1 := blk_frozen BK706.out 1
              have hfz63_2 := blk_frozen BK706.out 2
              have hfz63_3 := blk_frozen BK706.out 3
              try go_wp2_with (first | ((with_reducible refine gate_dst (N := 27) rfl ?_); refine Kd.N_lit k40 _ 40 ?hg (N' := 27) ?hd (xs := ([(⟨t700, t701, t702, t703⟩ : S40)] : List (S40))) (inner := [.int .i64 t700, .string t701, .int .i64 t702, .slice Ao8 t703.length co8]) (ok := (fun k_ => k_ ≠ gb706)) (okp := (fun k_ => k_ ≠ gb706)) ?hr ?hp (fun _ hk => hk) ((show ∀ k_, wr.heap.size ≤ k_ → (fun k_ => k_ ≠ gb706) k_ from fun k_ hk => Kd.freshB (g := gb706) (o := .cells #[.int .i64 t700, .string t701, .int .i64 t702, .slice Ao8 t703.length co8] 40 (0, 0)) (by (with_reducible repeat (first | refine blk_drewN ?_ _ | refine blk_drew ?_ | refine blk_alloc ?_ _)); exact BK706.out) k_ hk) _ (Nat.le_refl _)) (Below.refl _ _) (Nat.le_refl _) (by simp) ?_; (case hd => rfl); (case hg => rfl); (case hr => first | (go_simp; done) | (go_simp; rfl)); (case hp => exact (Reps.c4 (show Kd.FK k40 _ _ (⟨t700, t701, t702, t703⟩ : S40) [.int .i64 t700, .string t701, .int .i64 t702, .slice Ao8 t703.length co8] from (k40_mkF _ _ (⟨t700, t701, t702, t703⟩ : S40) (Kd.N_reads' (Kd.N_mono (ok' := (fun k_ => k_ ≠ gb706)) (HO_707003.out) (fun k_ hk => hk))).2.1 (Kd.N_F (Kd.N_mono (ok' := (fun k_ => k_ ≠ gb706)) (HO_707003.out) (fun k_ hk => hk))))) (Reps.none _ _))); intro v710 w64 ho65 hb hg_ hnew_; clear hg_ hnew_; (first | rw [← Ny709.out] at ho65 | (simp only [Int.reduceToNat] at ho65; rw [← Ny709.out] at ho65)); have n0_ := Aside0.mk (Kd.N_lower ho65 (below_size (by repeat (first | (with_reducible first | exact HB.out | apply below_alloc | apply pw_below_drewN | apply below_drew1 | refine below_set ?_ GE706.out) | exact HB.out)))); have n1_ := Aside0.mk (blk_below (g := gb706) (o := .cells #[.int .i64 t700, .string t701, .int .i64 t702, .slice Ao8 t703.length co8] 40 (0, 0)) (by (with_reducible repeat (first | refine blk_drewN ?_ _ | refine blk_drew ?_ | refine blk_alloc ?_ _)); exact BK706.out) hb); have n2_ := Aside0.mk (below_step (by repeat (first | (with_reducible first | exact HB.out | apply below_alloc | apply pw_below_drewN | apply below_drew1 | refine below_set ?_ GE706.out) | exact HB.out)) hb); clear BK706; clear HB; have nz_ := Aside0.mk (Kd.N_below (by (with_reducible repeat (first | apply Kd.N_alloc | apply Kd.N_drewN | apply Kd.N_drew)); exact HO_707003.out) hb); clear HO_707003; have HO_707003 := nz_; clear nz_; have HO711 := n0_; have BK706 := n1_; have HB := n2_; clear n0_ n1_ n2_; clear hb ho65; obtain ⟨Ao66, co66, eo66⟩ := Kd.N_slice HO711.out; subst eo66) | ((with_reducible refine gate_dst (N := 6) rfl ?_); refine box_event ?hg (N := 6) ?hd (cs := #[.int .i64 0, .string (⟨#[]⟩ : ByteArray), .int .i64 0, .slice none 0 0]) (t := 40) ?hr ?_; (case hd => rfl); (case hg => rfl); (case hr => first | (go_simp; done) | (go_simp; rfl)); intro gb712 hg w67 hbox hb; have n0_ := Aside0.mk (Kd.N_below (Kd.N_elderB (by (with_reducible repeat (first | apply Kd.N_alloc | apply Kd.N_drewN | apply Kd.N_drew)); exact HO711.out) gb712 (Nat.le_of_eq hg.symm)) hb); have n1_ := Aside0.mk (blk_below (g := gb706) (o := .cells #[.int .i64 t700, .string t701, .int .i64 t702, .slice Ao8 t703.length co8] 40 (0, 0)) (by (with_reducible repeat (first | refine blk_drewN ?_ _ | refine blk_drew ?_ | refine blk_alloc ?_ _)); exact BK706.out) hb); have n2_ := Aside0.mk (below_step (by repeat (first | (with_reducible first | exact HB.out | apply below_alloc | apply pw_below_drewN | apply below_drew1 | refine below_set ?_ GE706.out) | exact HB.out)) hb); have n3_ := Aside0.mk (hbox); have n4_ := Aside0.mk ((by rw [hg]; exact (below_size (by repeat (first | (with_reducible first | exact HB.out | apply below_alloc | apply pw_below_drewN | apply below_drew1 | refine below_set ?_ GE706.out) | exact HB.out))) : w.heap.size ≤ gb712)); have n5_ := Aside0.mk ((by rw [hg]; exact (below_size (by repeat (first | (with_reducible first | exact HB.out | apply below_alloc | apply pw_below_drewN | apply below_drew1 | refine below_set ?_ GE706.out) | exact HB.out))) : w.heap.size ≤ gb712)); have n6_ := Aside0.mk ((by rw [hg]; exact Nat.ne_of_lt (blk_lt (g := gb706) (o := .cells #[.int .i64 t700, .string t701, .int .i64 t702, .slice Ao8 t703.length co8] 40 (0, 0)) (by (with_reducible repeat (first | refine blk_drewN ?_ _ | refine blk_drew ?_ | refine blk_alloc ?_ _)); exact BK706.out)) : gb706 ≠ gb712)); have n7_ := Aside0.mk ((by rw [hg]; exact Nat.ne_of_gt (blk_lt (g := gb706) (o := .cells #[.int .i64 t700, .string t701, .int .i64 t702, .slice Ao8 t703.length co8] 40 (0, 0)) (by (with_reducible repeat (first | refine blk_drewN ?_ _ | refine blk_drew ?_ | refine blk_alloc ?_ _)); exact BK706.out)) : gb712 ≠ gb706)); have nz_ := Aside0.mk (Kd.N_below (Kd.N_elderB (by (with_reducible repeat (first | apply Kd.N_alloc | apply Kd.N_drewN | apply Kd.N_drew)); exact HO_707003.out) gb712 (Nat.le_of_eq hg.symm)) hb); clear HO_707003; have HO_707003 := nz_; clear nz_; clear HO711; clear BK706; clear HB; have HO711 := n0_; have BK706 := n1_; have HB := n2_; have BK712 := n3_; have GW712 := n4_; have GE712 := n5_; have NB706_712 := n6_; have NB712_706 := n7_; clear n0_ n1_ n2_ n3_ n4_ n5_ n6_ n7_; clear hb hbox hg; have hnb68 := NB712_706.out; have hnc68 := NB706_712.out; have hcz69_0 : w67.cell? ⟨gb712, 0, none⟩ = some (.int .i64 0) := (blk_cell BK712.out 0).trans rfl; have hcz69_1 : w67.cell? ⟨gb712, 1, none⟩ = some (.string (⟨#[]⟩ : ByteArray)) := (blk_cell BK712.out 1).trans rfl; have hcz69_2 : w67.cell? ⟨gb712, 2, none⟩ = some (.int .i64 0) := (blk_cell BK712.out 2).trans rfl; have hcz69_3 : w67.cell? ⟨gb712, 3, none⟩ = some (.slice none 0 0) := (blk_cell BK712.out 3).trans rfl; have hfz69_0 := blk_frozen BK712.out 0; have hfz69_1 := blk_frozen BK712.out 1; have hfz69_2 := blk_frozen BK712.out 2; have hfz69_3 := blk_frozen BK712.out 3))
              have n0_ : Aside0 (Kd.N k40 40 ((((w67.setCell ⟨gb712, 0, none⟩ (.int .i64 6)).setCell ⟨gb712, 1, none⟩ (.string (⟨#[]⟩ : ByteArray))).setCell ⟨gb712, 2, none⟩ (.int .i64 0)).setCell ⟨gb712, 3, none⟩ (.slice Ao66 y709.length co66)) w.heap.size (fun k_ => k_ ≠ gb706 ∧ k_ ≠ gb712) (.slice Ao66 y709.length co66) y709) := ⟨by (with_reducible repeat (first | apply Kd.N_alloc | apply Kd.N_drewN | apply Kd.N_drew)); exact Kd.N_mono (Kd.N_far (p := ⟨gb712, 3, none⟩) (Kd.N_far (p := ⟨gb712, 2, none⟩) (Kd.N_far (p := ⟨gb712, 1, none⟩) (Kd.N_far (p := ⟨gb712, 0, none⟩) (Kd.N_mono HO711.out (fun k_ hk => (⟨hk, hk.2⟩ : _ ∧ k_ ≠ gb712))) (fun _ hk => hk.2) (.int .i64 6)) (fun _ hk => hk.2) (.string (⟨#[]⟩ : ByteArray))) (fun _ hk => hk.2) (.int .i64 0)) (fun _ hk => hk.2) (.slice Ao66 y709.length co66)) (fun _ hk => ⟨hk.1.1, hk.1.2⟩)⟩
              have nz_ : Aside0 (Kd.N k40 40 ((((w67.setCell ⟨gb712, 0, none⟩ (.int .i64 6)).setCell ⟨gb712, 1, none⟩ (.string (⟨#[]⟩ : ByteArray))).setCell ⟨gb712, 2, none⟩ (.int .i64 0)).setCell ⟨gb712, 3, none⟩ (.slice Ao66 y709.length co66)) w.heap.size (fun k_ => k_ ≠ gb706 ∧ k_ ≠ gb712) (.slice Ao8 t703.length co8) t703) := ⟨by (with_reducible repeat (first | apply Kd.N_alloc | apply Kd.N_drewN | apply Kd.N_drew)); exact Kd.N_mono (Kd.N_far (p := ⟨gb712, 3, none⟩) (Kd.N_far (p := ⟨gb712, 2, none⟩) (Kd.N_far (p := ⟨gb712, 1, none⟩) (Kd.N_far (p := ⟨gb712, 0, none⟩) (Kd.N_mono HO_707003.out (fun k_ hk => (⟨hk, hk.2⟩ : _ ∧ k_ ≠ gb712))) (fun _ hk => hk.2) (.int .i64 6)) (fun _ hk => hk.2) (.string (⟨#[]⟩ : ByteArray))) (fun _ hk => hk.2) (.int .i64 0)) (fun _ hk => hk.2) (.slice Ao66 y709.length co66)) (fun _ hk => ⟨hk.1.1, hk.1.2⟩)⟩
              have n1_ : Aside0 (((((w67.setCell ⟨gb712, 0, none⟩ (.int .i64 6)).setCell ⟨gb712, 1, none⟩ (.string (⟨#[]⟩ : ByteArray))).setCell ⟨gb712, 2, none⟩ (.int .i64 0)).setCell ⟨gb712, 3, none⟩ (.slice Ao66 y709.length co66)).heap[gb706]? = some (.cells #[.int .i64 t700, .string t701, .int .i64 t702, .slice Ao8 t703.length co8] 40 (0, 0))) := ⟨by (with_reducible repeat (first | refine blk_drewN ?_ _ | refine blk_drew ?_ | refine blk_alloc ?_ _)); refine blk_far ?_ NB706_712.out _; (with_reducible repeat (first | refine blk_drewN ?_ _ | refine blk_drew ?_ | refine blk_alloc ?_ _)); refine blk_far ?_ NB706_712.out _; (with_reducible repeat (first | refine blk_drewN ?_ _ | refine blk_drew ?_ | refine blk_alloc ?_ _)); refine blk_far ?_ NB706_712.out _; (with_reducible repeat (first | refine blk_drewN ?_ _ | refine blk_drew ?_ | refine blk_alloc ?_ _)); refine blk_far ?_ NB706_712.out _; (with_reducible repeat (first | refine blk_drewN ?_ _ | refine blk_drew ?_ | refine blk_alloc ?_ _)); exact BK706.out⟩
              have n2_ : Aside0 (((((w67.setCell ⟨gb712, 0, none⟩ (.int .i64 6)).setCell ⟨gb712, 1, none⟩ (.string (⟨#[]⟩ : ByteArray))).setCell ⟨gb712, 2, none⟩ (.int .i64 0)).setCell ⟨gb712, 3, none⟩ (.slice Ao66 y709.length co66)).heap[gb712]? = some (.cells #[.int .i64 6, .string (⟨#[]⟩ : ByteArray), .int .i64 0, .slice Ao66 y709.length co66] 40 (0, 0))) := ⟨by (with_reducible repeat (first | refine blk_drewN ?_ _ | refine blk_drew ?_ | refine blk_alloc ?_ _)); refine blk_put (cs := #[.int .i64 6, .string (⟨#[]⟩ : ByteArray), .int .i64 0, .slice none 0 0]) ?_ 3 _ rfl; (with_reducible repeat (first | refine blk_drewN ?_ _ | refine blk_drew ?_ | refine blk_alloc ?_ _)); refine blk_put (cs := #[.int .i64 6, .string (⟨#[]⟩ : ByteArray), .int .i64 0, .slice none 0 0]) ?_ 2 _ rfl; (with_reducible repeat (first | refine blk_drewN ?_ _ | refine blk_drew ?_ | refine blk_alloc ?_ _)); refine blk_put (cs := #[.int .i64 6, .string (⟨#[]⟩ : ByteArray), .int .i64 0, .slice none 0 0]) ?_ 1 _ rfl; (with_reducible repeat (first | refine blk_drewN ?_ _ | refine blk_drew ?_ | refine blk_alloc ?_ _)); refine blk_put (cs := #[.int .i64 0, .string (⟨#[]⟩ : ByteArray), .int .i64 0, .slice none 0 0]) ?_ 0 _ rfl; (with_reducible repeat (first | refine blk_drewN ?_ _ | refine blk_drew ?_ | refine blk_alloc ?_ _)); exact BK712.out⟩
              have n3_ : Aside0 (Below w.heap.size w ((((w67.setCell ⟨gb712, 0, none⟩ (.int .i64 6)).setCell ⟨gb712, 1, none⟩ (.string (⟨#[]⟩ : ByteArray))).setCell ⟨gb712, 2, none⟩ (.int .i64 0)).setCell ⟨gb712, 3, none⟩ (.slice Ao66 y709.length co66))) := ⟨by repeat (first | (with_reducible first | exact HB.out | apply below_alloc | apply pw_below_drewN | apply below_drew1 | refine below_set ?_ GE706.out | refine below_set ?_ GE712.out) | exact HB.out)⟩
              (try clear HO711)
              (try clear HO_707003)
              (try clear BK706)
              (try clear BK712)
              (try clear HB)
              generalize ((((w67.setCell ⟨gb712, 0, none⟩ (.int .i64 6)).setCell ⟨gb712, 1, none⟩ (.string (⟨#[]⟩ : ByteArray))).setCell ⟨gb712, 2, none⟩ (.int .i64 0)).setCell ⟨gb712, 3, none⟩ (.slice Ao66 y709.length co66)) = w70 at n0_ nz_ n1_ n2_ n3_ ⊢
              have HO711 := n0_
              have HO_707003 := nz_
              have BK706 := n1_
              have BK712 := n2_
              have HB := n3_
              clear n0_ nz_ n1_ n2_ n3_
              have n0_ := Aside0.mk (Kd.N_drew HO711.out)
              have nz_ := Aside0.mk (Kd.N_drew HO_707003.out)
              have n1_ := Aside0.mk (blk_drew BK706.out)
              have n2_ := Aside0.mk (blk_drew BK712.out)
              have n3_ := Aside0.mk (below_drew1 HB.out)
              clear HO711
              clear HO_707003
              clear BK706
              clear BK712
              clear HB
              have HO711 := n0_
              have HO_707003 := nz_
              have BK706 := n1_
              have BK712 := n2_
              have HB := n3_
              clear n0_ nz_ n1_ n2_ n3_
              refine start_ (n := 29) (S := fun w' => w'.cell? ⟨gb706, 0, none⟩ = some (.int .i64 t700) ∧ w'.cell? ⟨gb706, 1, none⟩ = some (.string t701) ∧ w'.cell? ⟨gb706, 2, none⟩ = some (.int .i64 t702) ∧ w'.cell? ⟨gb706, 3, none⟩ = some (.slice Ao8 t703.length co8)) (ds := []) #[false, false, false, false, false, false, false, false, false, false, false, false, false, false, false, false, false, false, false, false, false, false, false, false, false, false, false, false, false] (by kernel_rfl) rfl rfl ⟨(blk_cell BK706.out 0).trans rfl, (blk_cell BK706.out 1).trans rfl, (blk_cell BK706.out 2).trans rfl, (blk_cell BK706.out 3).trans rfl⟩ (fun hHeld => ?_); refine with_tabW laws_FnNodes.tab10 laws_FnNodes.bits10 (fun HT_ HW_ => ?_)
              generalize w70.drew = w71 at HO711 HO_707003 BK706 BK712 HB hHeld ⊢
              refine pure_ (i := 2) (N := some 31) (v := ?_) (a' := ?_) #[false, false, true, false, false, false, false, false, false, false, false, false, false, false, false, false, false, false, false, false, false, false, false, false, false, false, false, false, false] rfl rfl (any_of HT_.out (by kernel_rfl)) (fun _ _ _ h => h) (Or.inl ⟨by rfl, ?_⟩) ?_ ?_
              rotate_left
              · intro w'
                go_simp
                with_reducible rfl
              rotate_left
              · simp only [Act.put, List.setIfInBounds_toArray, List.set_cons_zero, List.set_cons_succ, i64_w, i32_w]
                rfl
              refine take_ (i := 0) (N := some 29) (v := ?_) (a' := ?_) #[true, false, true, false, false, false, false, false, false, false, false, false, false, false, false, false, false, false, false, false, false, false, false, false, false, false, false, false, false] rfl rfl (take_ofW HT_.out HW_.out (by kernel_rfl)) (fun _ _ _ h => h) (Or.inl ⟨by rfl, ?_⟩) hHeld ?_ ?_
              rotate_left
              · rintro w' ⟨s0, s1, s2, s3⟩
                go_simp
                with_reducible rfl
              rotate_left
              · simp only [Act.put, List.setIfInBounds_toArray, List.set_cons_zero, List.set_cons_succ, i64_w, i32_w]
                rfl
              refine one_ (i := 1) (N := some 30) #[true, true, true, false, false, false, false, false, false, false, false, false, false, false, false, false, false, false, false, false, false, false, false, false, false, false, false, false, false] rfl rfl (one_of HT_.out (by kernel_rfl)) (by decide) (fun K hK => ?_)
              refine goes_ Try.func41 (by kernel_rfl) rfl #[.agg #[.int .i64 t700, .string t701, .int .i64 t702, .slice Ao8 t703.length co8]] (by rfl) rfl rfl (by (try simp only [List.map_toArray, List.map_cons, List.map_nil]); first | done | rfl | (simp only [List.length_drop, List.length_take]; rfl)) ?_
              with_reducible refine (impl_Nodes.calls k1 t700 t701 t702 _ _ t703 t713 _ ?side1 ?side2 A14.out).mono ?_
              (case side1 => repeat (first | exact (Kd.N_reads' HO_707003.out).2.2 | (with_reducible refine Kd.C_alloc ?_ _) | (with_reducible refine Kd.C_drewN ?_ _) | (with_reducible refine Kd.C_drew ?_)))
              (case side2 => exact (Kd.N_reads' HO_707003.out).2.1)
              rintro e w72 ⟨rfl, hb⟩
              refine ⟨_, rfl, ?_⟩
              have n0_ := Aside0.mk (Kd.N_below (by (with_reducible repeat (first | apply Kd.N_alloc | apply Kd.N_drewN | apply Kd.N_drew)); exact HO711.out) hb)
              have nz_ := Aside0.mk (Kd.N_below (by (with_reducible repeat (first | apply Kd.N_alloc | apply Kd.N_drewN | apply Kd.N_drew)); exact HO_707003.out) hb)
              have n1_ := Aside0.mk (blk_below (g := gb706) (o := .cells #[.int .i64 t700, .string t701, .int .i64 t702, .slice Ao8 t703.length co8] 40 (0, 0)) (by (with_reducible repeat (first | refine blk_drewN ?_ _ | refine blk_drew ?_ | refine blk_alloc ?_ _)); exact BK706.out) hb)
              have n2_ := Aside0.mk (blk_below (g := gb712) (o := .cells #[.int .i64 6, .string (⟨#[]⟩ : ByteArray), .int .i64 0, .slice Ao66 y709.length co66] 40 (0, 0)) (by (with_reducible repeat (first | refine blk_drewN ?_ _ | refine blk_drew ?_ | refine blk_alloc ?_ _)); exact BK712.out) hb)
              have n3_ := Aside0.mk (below_step (by repeat (first | (with_reducible first | exact HB.out | apply below_alloc | apply pw_below_drewN | apply below_drew1 | refine below_set ?_ GE706.out | refine below_set ?_ GE712.out) | exact HB.out)) hb)
              clear HO711
              clear HO_707003
              clear BK706
              clear BK712
              clear HB
              have HO711 := n0_
              have HO_707003 := nz_
              have BK706 := n1_
              have BK712 := n2_
              have HB := n3_
              clear n0_ nz_ n1_ n2_ n3_
              (try clear hb)
              (try clear hb2)
              (try clear hk)
              (try clear hi)
              refine hK.out _ _ ⟨(blk_cell BK706.out 0).trans rfl, (blk_cell BK706.out 1).trans rfl, (blk_cell BK706.out 2).trans rfl, (blk_cell BK706.out 3).trans rfl⟩ (fun hHeld => ?_)
              clear hK K
              refine norm_ (a' := ?_) ?_ ?_
              rotate_left
              · show Act.put _ (some 30) _ = _
                simp only [Act.put, List.setIfInBounds_toArray, List.set_cons_zero, List.set_cons_succ, i64_w, i32_w]
                rfl
              refine pure_ (i := 3) (N := some 32) (v := ?_) (a' := ?_) #[true, true, true, true, false, false, false, false, false, false, false, false, false, false, false, false, false, false, false, false, false, false, false, false, false, false, false, false, false] rfl rfl (any_of HT_.out (by kernel_rfl)) (fun _ _ _ h => h) (Or.inl ⟨by rfl, ?_⟩) ?_ ?_
              rotate_left
              · intro w'
                go_simp
                with_reducible rfl
              rotate_left
              · simp only [Act.put, List.setIfInBounds_toArray, List.set_cons_zero, List.set_cons_succ, i64_w, i32_w]
                rfl
              refine pure_ (i := 4) (N := some 33) (v := ?_) (a' := ?_) #[true, true, true, true, true, false, false, false, false, false, false, false, false, false, false, false, false, false, false, false, false, false, false, false, false, false, false, false, false] rfl rfl (any_of HT_.out (by kernel_rfl)) (fun _ _ _ h => h) (Or.inl ⟨by rfl, ?_⟩) ?_ ?_
              rotate_left
              · intro w'
                go_simp
                with_reducible rfl
              rotate_left
              · simp only [Act.put, List.setIfInBounds_toArray, List.set_cons_zero, List.set_cons_succ, i64_w, i32_w]
                rfl
              refine pure_ (i := 5) (N := some 34) (v := ?_) (a' := ?_) #[true, true, true, true, true, true, false, false, false, false, false, false, false, false, false, false, false, false, false, false, false, false, false, false, false, false, false, false, false] rfl rfl (any_of HT_.out (by kernel_rfl)) (fun _ _ _ h => h) (Or.inl ⟨by rfl, ?_⟩) ?_ ?_
              rotate_left
              · intro w'
                go_simp
                with_reducible rfl
              rotate_left
              · simp only [Act.put, List.setIfInBounds_toArray, List.set_cons_zero, List.set_cons_succ, i64_w, i32_w]
                rfl
              refine take_ (i := 6) (N := some 35) (v := ?_) (a' := ?_) #[true, true, true, true, true, true, true, false, false, false, false, false, false, false, false, false, false, false, false, false, false, false, false, false, false, false, false, false, false] rfl rfl (take_ofW HT_.out HW_.out (by kernel_rfl)) (fun _ _ _ h => h) (Or.inl ⟨by rfl, ?_⟩) hHeld ?_ ?_
              rotate_left
              · rintro w' ⟨s0, s1, s2, s3⟩
                go_simp
                with_reducible rfl
              rotate_left
              · simp only [Act.put, List.setIfInBounds_toArray, List.set_cons_zero, List.set_cons_succ, i64_w, i32_w]
                rfl
              refine one_ (i := 7) (N := some 36) #[true, true, true, true, true, true, true, true, false, false, false, false, false, false, false, false, false, false, false, false, false, false, false, false, false, false, false, false, false] rfl rfl (one_of HT_.out (by kernel_rfl)) (by decide) (fun K hK => ?_)
              refine goes_ Try.func46 (by kernel_rfl) rfl #[.agg #[.int .i64 t700, .string t701, .int .i64 t702, .slice Ao8 t703.length co8]] (by rfl) rfl rfl (by (try simp only [List.map_toArray, List.map_cons, List.map_nil]); first | done | rfl | (simp only [List.length_drop, List.length_take]; rfl)) ?_
              with_reducible refine (spec_Nodes.calls k1 t700 t701 t702 _ _ t703 t714 _ ?side1 ?side2 A16.out).mono ?_
              (case side1 => repeat (first | exact (Kd.N_reads' HO_707003.out).2.2 | (with_reducible refine Kd.C_alloc ?_ _) | (with_reducible refine Kd.C_drewN ?_ _) | (with_reducible refine Kd.C_drew ?_)))
              (case side2 => exact (Kd.N_reads' HO_707003.out).2.1)
              rintro e w73 ⟨rfl, hb⟩
              refine ⟨_, rfl, ?_⟩
              have n0_ := Aside0.mk (Kd.N_below (by (with_reducible repeat (first | apply Kd.N_alloc | apply Kd.N_drewN | apply Kd.N_drew)); exact HO711.out) hb)
              have nz_ := Aside0.mk (Kd.N_below (by (with_reducible repeat (first | apply Kd.N_alloc | apply Kd.N_drewN | apply Kd.N_drew)); exact HO_707003.out) hb)
              have n1_ := Aside0.mk (blk_below (g := gb706) (o := .cells #[.int .i64 t700, .string t701, .int .i64 t702, .slice Ao8 t703.length co8] 40 (0, 0)) (by (with_reducible repeat (first | refine blk_drewN ?_ _ | refine blk_drew ?_ | refine blk_alloc ?_ _)); exact BK706.out) hb)
              have n2_ := Aside0.mk (blk_below (g := gb712) (o := .cells #[.int .i64 6, .string (⟨#[]⟩ : ByteArray), .int .i64 0, .slice Ao66 y709.length co66] 40 (0, 0)) (by (with_reducible repeat (first | refine blk_drewN ?_ _ | refine blk_drew ?_ | refine blk_alloc ?_ _)); exact BK712.out) hb)
              have n3_ := Aside0.mk (below_step (by repeat (first | (with_reducible first | exact HB.out | apply below_alloc | apply pw_below_drewN | apply below_drew1 | refine below_set ?_ GE706.out | refine below_set ?_ GE712.out) | exact HB.out)) hb)
              clear HO711
              clear HO_707003
              clear BK706
              clear BK712
              clear HB
              have HO711 := n0_
              have HO_707003 := nz_
              have BK706 := n1_
              have BK712 := n2_
              have HB := n3_
              clear n0_ nz_ n1_ n2_ n3_
              (try clear hb)
              (try clear hb2)
              (try clear hk)
              (try clear hi)
              refine hK.out _ _ ⟨(blk_cell BK706.out 0).trans rfl, (blk_cell BK706.out 1).trans rfl, (blk_cell BK706.out 2).trans rfl, (blk_cell BK706.out 3).trans rfl⟩ (fun hHeld => ?_)
              clear hK K
              refine norm_ (a' := ?_) ?_ ?_
              rotate_left
              · show Act.put _ (some 36) _ = _
                simp only [Act.put, List.setIfInBounds_toArray, List.set_cons_zero, List.set_cons_succ, i64_w, i32_w]
                rfl
              refine pure_ (i := 8) (N := some 37) (v := ?_) (a' := ?_) #[true, true, true, true, true, true, true, true, true, false, false, false, false, false, false, false, false, false, false, false, false, false, false, false, false, false, false, false, false] rfl rfl (any_of HT_.out (by kernel_rfl)) (fun _ _ _ h => h) (Or.inl ⟨by rfl, ?_⟩) ?_ ?_
              rotate_left
              · intro w'
                go_simp
                with_reducible rfl
              rotate_left
              · simp only [Act.put, List.setIfInBounds_toArray, List.set_cons_zero, List.set_cons_succ, i64_w, i32_w]
                rfl
              refine pure_ (i := 9) (N := some 38) (v := ?_) (a' := ?_) #[true, true, true, true, true, true, true, true, true, true, false, false, false, false, false, false, false, false, false, false, false, false, false, false, false, false, false, false, false] rfl rfl (any_of HT_.out (by kernel_rfl)) (fun _ _ _ h => h) (Or.inl ⟨by rfl, ?_⟩) ?_ ?_
              rotate_left
              · intro w'
                go_simp
                with_reducible rfl
              rotate_left
              · simp only [Act.put, List.setIfInBounds_toArray, List.set_cons_zero, List.set_cons_succ, i64_w, i32_w]
                rfl
              refine pure_ (i := 10) (N := some 39) (v := ?_) (a' := ?_) #[true, true, true, true, true, true, true, true, true, true, true, false, false, false, false, false, false, false, false, false, false, false, false, false, false, false, false, false, false] rfl rfl (any_of HT_.out (by kernel_rfl)) (fun _ _ _ h => h) (Or.inl ⟨by rfl, ?_⟩) ?_ ?_
              rotate_left
              · intro w'
                go_simp
                with_reducible rfl
              rotate_left
              · simp only [Act.put, List.setIfInBounds_toArray, List.set_cons_zero, List.set_cons_succ, i64_w, i32_w]
                rfl
              refine pure_ (i := 11) (N := some 40) (v := undef) (a' := ?_) #[true, true, true, true, true, true, true, true, true, true, true, true, false, false, false, false, false, false, false, false, false, false, false, false, false, false, false, false, false] rfl rfl (any_of HT_.out (by kernel_rfl)) (fun _ _ _ h => h) (Or.inr ⟨by rfl, rfl⟩) ?_ ?_
              rotate_left
              · simp only [Act.put, List.setIfInBounds_toArray, List.set_cons_zero, List.set_cons_succ, i64_w, i32_w]
                rfl
              refine pure_ (i := 12) (N := some 41) (v := undef) (a' := ?_) #[true, true, true, true, true, true, true, true, true, true, true, true, true, false, false, false, false, false, false, false, false, false, false, false, false, false, false, false, false] rfl rfl (any_of HT_.out (by kernel_rfl)) (fun _ _ _ h => h) (Or.inr ⟨by rfl, rfl⟩) ?_ ?_
              rotate_left
              · simp only [Act.put, List.setIfInBounds_toArray, List.set_cons_zero, List.set_cons_succ, i64_w, i32_w]
                rfl
              refine pure_ (i := 13) (N := some 42) (v := undef) (a' := ?_) #[true, true, true, true, true, true, true, true, true, true, true, true, true, true, false, false, false, false, false, false, false, false, false, false, false, false, false, false, false] rfl rfl (any_of HT_.out (by kernel_rfl)) (fun _ _ _ h => h) (Or.inr ⟨by rfl, rfl⟩) ?_ ?_
              rotate_left
              · simp only [Act.put, List.setIfInBounds_toArray, List.set_cons_zero, List.set_cons_succ, i64_w, i32_w]
                rfl
              refine pure_ (i := 14) (N := some 43) (v := undef) (a' := ?_) #[true, true, true, true, true, true, true, true, true, true, true, true, true, true, true, false, false, false, false, false, false, false, false, false, false, false, false, false, false] rfl rfl (any_of HT_.out (by kernel_rfl)) (fun _ _ _ h => h) (Or.inr ⟨by rfl, rfl⟩) ?_ ?_
              rotate_left
              · simp only [Act.put, List.setIfInBounds_toArray, List.set_cons_zero, List.set_cons_succ, i64_w, i32_w]
                rfl
              refine pure_ (i := 15) (N := some 44) (v := undef) (a' := ?_) #[true, true, true, true, true, true, true, true, true, true, true, true, true, true, true, true, false, false, false, false, false, false, false, false, false, false, false, false, false] rfl rfl (any_of HT_.out (by kernel_rfl)) (fun _ _ _ h => h) (Or.inr ⟨by rfl, rfl⟩) ?_ ?_
              rotate_left
              · simp only [Act.put, List.setIfInBounds_toArray, List.set_cons_zero, List.set_cons_succ, i64_w, i32_w]
                rfl
              refine pure_ (i := 16) (N := some 45) (v := ?_) (a' := ?_) #[true, true, true, true, true, true, true, true, true, true, true, true, true, true, true, true, true, false, false, false, false, false, false, false, false, false, false, false, false] rfl rfl (any_of HT_.out (by kernel_rfl)) (fun _ _ _ h => h) (Or.inl ⟨by rfl, ?_⟩) ?_ ?_
              rotate_left
              · intro w'
                go_simp
                with_reducible rfl
              rotate_left
              · simp only [Act.put, List.setIfInBounds_toArray, List.set_cons_zero, List.set_cons_succ, i64_w, i32_w]
                rfl
              refine pure_ (i := 17) (N := some 46) (v := ?_) (a' := ?_) #[true, true, true, true, true, true, true, true, true, true, true, true, true, true, true, true, true, true, false, false, false, false, false, false, false, false, false, false, false] rfl rfl (any_of HT_.out (by kernel_rfl)) (fun _ _ _ h => h) (Or.inl ⟨by rfl, ?_⟩) ?_ ?_
              rotate_left
              · intro w'
                go_simp
                with_reducible rfl
              rotate_left
              · simp only [Act.put, List.setIfInBounds_toArray, List.set_cons_zero, List.set_cons_succ, i64_w, i32_w]
                rfl
              refine pure_ (i := 18) (N := some 47) (v := undef) (a' := ?_) #[true, true, true, true, true, true, true, true, true, true, true, true, true, true, true, true, true, true, true, false, false, false, false, false, false, false, false, false, false] rfl rfl (any_of HT_.out (by kernel_rfl)) (fun _ _ _ h => h) (Or.inr ⟨by rfl, rfl⟩) ?_ ?_
              rotate_left
              · simp only [Act.put, List.setIfInBounds_toArray, List.set_cons_zero, List.set_cons_succ, i64_w, i32_w]
                rfl
              refine pure_ (i := 19) (N := some 48) (v := undef) (a' := ?_) #[true, true, true, true, true, true, true, true, true, true, true, true, true, true, true, true, true, true, true, true, false, false, false, false, false, false, false, false, false] rfl rfl (any_of HT_.out (by kernel_rfl)) (fun _ _ _ h => h) (Or.inr ⟨by rfl, rfl⟩) ?_ ?_
              rotate_left
              · simp only [Act.put, List.setIfInBounds_toArray, List.set_cons_zero, List.set_cons_succ, i64_w, i32_w]
                rfl
              refine pure_ (i := 20) (N := some 49) (v := undef) (a' := ?_) #[true, true, true, true, true, true, true, true, true, true, true, true, true, true, true, true, true, true, true, true, true, false, false, false, false, false, false, false, false] rfl rfl (any_of HT_.out (by kernel_rfl)) (fun _ _ _ h => h) (Or.inr ⟨by rfl, rfl⟩) ?_ ?_
              rotate_left
              · simp only [Act.put, List.setIfInBounds_toArray, List.set_cons_zero, List.set_cons_succ, i64_w, i32_w]
                rfl
              refine pure_ (i := 21) (N := some 50) (v := undef) (a' := ?_) #[true, true, true, true, true, true, true, true, true, true, true, true, true, true, true, true, true, true, true, true, true, true, false, false, false, false, false, false, false] rfl rfl (any_of HT_.out (by kernel_rfl)) (fun _ _ _ h => h) (Or.inr ⟨by rfl, rfl⟩) ?_ ?_
              rotate_left
              · simp only [Act.put, List.setIfInBounds_toArray, List.set_cons_zero, List.set_cons_succ, i64_w, i32_w]
                rfl
              refine pure_ (i := 22) (N := some 51) (v := undef) (a' := ?_) #[true, true, true, true, true, true, true, true, true, true, true, true, true, true, true, true, true, true, true, true, true, true, true, false, false, false, false, false, false] rfl rfl (any_of HT_.out (by kernel_rfl)) (fun _ _ _ h => h) (Or.inr ⟨by rfl, rfl⟩) ?_ ?_
              rotate_left
              · simp only [Act.put, List.setIfInBounds_toArray, List.set_cons_zero, List.set_cons_succ, i64_w, i32_w]
                rfl
              refine pure_ (i := 23) (N := some 52) (v := undef) (a' := ?_) #[true, true, true, true, true, true, true, true, true, true, true, true, true, true, true, true, true, true, true, true, true, true, true, true, false, false, false, false, false] rfl rfl (any_of HT_.out (by kernel_rfl)) (fun _ _ _ h => h) (Or.inr ⟨by rfl, rfl⟩) ?_ ?_
              rotate_left
              · simp only [Act.put, List.setIfInBounds_toArray, List.set_cons_zero, List.set_cons_succ, i64_w, i32_w]
                rfl
              refine pure_ (i := 24) (N := some 53) (v := undef) (a' := ?_) #[true, true, true, true, true, true, true, true, true, true, true, true, true, true, true, true, true, true, true, true, true, true, true, true, true, false, false, false, false] rfl rfl (any_of HT_.out (by kernel_rfl)) (fun _ _ _ h => h) (Or.inr ⟨by rfl, rfl⟩) ?_ ?_
              rotate_left
              · simp only [Act.put, List.setIfInBounds_toArray, List.set_cons_zero, List.set_cons_succ, i64_w, i32_w]
                rfl
              refine pure_ (i := 25) (N := some 54) (v := undef) (a' := ?_) #[true, true, true, true, true, true, true, true, true, true, true, true, true, true, true, true, true, true, true, true, true, true, true, true, true, true, false, false, false] rfl rfl (any_of HT_.out (by kernel_rfl)) (fun _ _ _ h => h) (Or.inr ⟨by rfl, rfl⟩) ?_ ?_
              rotate_left
              · simp only [Act.put, List.setIfInBounds_toArray, List.set_cons_zero, List.set_cons_succ, i64_w, i32_w]
                rfl
              refine pure_ (i := 26) (N := some 55) (v := undef) (a' := ?_) #[true, true, true, true, true, true, true, true, true, true, true, true, true, true, true, true, true, true, true, true, true, true, true, true, true, true, true, false, false] rfl rfl (any_of HT_.out (by kernel_rfl)) (fun _ _ _ h => h) (Or.inr ⟨by rfl, rfl⟩) ?_ ?_
              rotate_left
              · simp only [Act.put, List.setIfInBounds_toArray, List.set_cons_zero, List.set_cons_succ, i64_w, i32_w]
                rfl
              refine pure_ (i := 27) (N := some 56) (v := ?_) (a' := ?_) #[true, true, true, true, true, true, true, true, true, true, true, true, true, true, true, true, true, true, true, true, true, true, true, true, true, true, true, true, false] rfl rfl (any_of HT_.out (by kernel_rfl)) (fun _ _ _ h => h) (Or.inl ⟨by rfl, ?_⟩) ?_ ?_
              rotate_left
              · intro w'
                go_simp
                with_reducible rfl
              rotate_left
              · simp only [Act.put, List.setIfInBounds_toArray, List.set_cons_zero, List.set_cons_succ, i64_w, i32_w]
                rfl
              refine pure_ (i := 28) (N := some 2) (v := ?_) (a' := ?_) #[true, true, true, true, true, true, true, true, true, true, true, true, true, true, true, true, true, true, true, true, true, true, true, true, true, true, true, true, true] rfl rfl (any_of HT_.out (by kernel_rfl)) (fun _ _ _ h => h) (Or.inl ⟨by rfl, ?_⟩) ?_ ?_
              rotate_left
              · intro w'
                go_simp
                with_reducible rfl
              rotate_left
              · simp only [Act.put, List.setIfInBounds_toArray, List.set_cons_zero, List.set_cons_succ, i64_w, i32_w]
                rfl
              refine done_ (done_of HT_.out (by kernel_rfl)) ?_
              try go_wp2
              go_ret
              exact ⟨by first | rfl | (simp [errW_none, errW_some] <;> rfl) | (simp [*, errW_none, errW_some] <;> rfl), by repeat (first | (with_reducible first | exact HB.out | apply below_alloc | apply pw_below_drewN | apply below_drew1 | refine below_set ?_ GE706.out | refine below_set ?_ GE712.out) | exact HB.out)⟩
          · rw [if_neg c15] at H
            have c15b0 : (t713 == x4_1) = false := beq_eq_false_iff_ne.mpr c15
            have c15b1 : (t713 != x4_1) = true := bne_iff_ne.mpr c15
            obtain rfl := Option.some.inj H
            have hcz74_0 : wr.cell? ⟨gb706, 0, none⟩ = some (.int .i64 t700) := (blk_cell BK706.out 0).trans rfl
            have hcz74_1 : wr.cell? ⟨gb706, 1, none⟩ = some (.string t701) := (blk_cell BK706.out 1).trans rfl
            have hcz74_2 : wr.cell? ⟨gb706, 2, none⟩ = some (.int .i64 t702) := (blk_cell BK706.out 2).trans rfl
            have hcz74_3 : wr.cell? ⟨gb706, 3, none⟩ = some (.slice Ao8 t703.length co8) := (blk_cell BK706.out 3).trans rfl
            have hfz74_0 := blk_frozen BK706.out 0
            have hfz74_1 := blk_frozen BK706.out 1
            have hfz74_2 := blk_frozen BK706.out 2
            have hfz74_3 := blk_frozen BK706.out 3
            try go_wp2_with (first | ((with_reducible refine gate_dst (N := 27) rfl ?_); refine Kd.N_lit k40 _ 40 ?hg (N' := 27) ?hd (xs := ([(⟨t700, t701, t702, t703⟩ : S40)] : List (S40))) (inner := [.int .i64 t700, .string t701, .int .i64 t702, .slice Ao8 t703.length co8]) (ok := (fun k_ => k_ ≠ gb706)) (okp := (fun k_ => k_ ≠ gb706)) ?hr ?hp (fun _ hk => hk) ((show ∀ k_, wr.heap.size ≤ k_ → (fun k_ => k_ ≠ gb706) k_ from fun k_ hk => Kd.freshB (g := gb706) (o := .cells #[.int .i64 t700, .string t701, .int .i64 t702, .slice Ao8 t703.length co8] 40 (0, 0)) (by (with_reducible repeat (first | refine blk_drewN ?_ _ | refine blk_drew ?_ | refine blk_alloc ?_ _)); exact BK706.out) k_ hk) _ (Nat.le_refl _)) (Below.refl _ _) (Nat.le_refl _) (by simp) ?_; (case hd => rfl); (case hg => rfl); (case hr => first | (go_simp; done) | (go_simp; rfl)); (case hp => exact (Reps.c4 (show Kd.FK k40 _ _ (⟨t700, t701, t702, t703⟩ : S40) [.int .i64 t700, .string t701, .int .i64 t702, .slice Ao8 t703.length co8] from (k40_mkF _ _ (⟨t700, t701, t702, t703⟩ : S40) (Kd.N_reads' (Kd.N_mono (ok' := (fun k_ => k_ ≠ gb706)) (HO_707003.out) (fun k_ hk => hk))).2.1 (Kd.N_F (Kd.N_mono (ok' := (fun k_ => k_ ≠ gb706)) (HO_707003.out) (fun k_ hk => hk))))) (Reps.none _ _))); intro v710 w75 ho76 hb hg_ hnew_; clear hg_ hnew_; (first | rw [← Ny709.out] at ho76 | (simp only [Int.reduceToNat] at ho76; rw [← Ny709.out] at ho76)); have n0_ := Aside0.mk (Kd.N_lower ho76 (below_size (by repeat (first | (with_reducible first | exact HB.out | apply below_alloc | apply pw_below_drewN | apply below_drew1 | refine below_set ?_ GE706.out) | exact HB.out)))); have n1_ := Aside0.mk (blk_below (g := gb706) (o := .cells #[.int .i64 t700, .string t701, .int .i64 t702, .slice Ao8 t703.length co8] 40 (0, 0)) (by (with_reducible repeat (first | refine blk_drewN ?_ _ | refine blk_drew ?_ | refine blk_alloc ?_ _)); exact BK706.out) hb); have n2_ := Aside0.mk (below_step (by repeat (first | (with_reducible first | exact HB.out | apply below_alloc | apply pw_below_drewN | apply below_drew1 | refine below_set ?_ GE706.out) | exact HB.out)) hb); clear BK706; clear HB; have nz_ := Aside0.mk (Kd.N_below (by (with_reducible repeat (first | apply Kd.N_alloc | apply Kd.N_drewN | apply Kd.N_drew)); exact HO_707003.out) hb); clear HO_707003; have HO_707003 := nz_; clear nz_; have HO711 := n0_; have BK706 := n1_; have HB := n2_; clear n0_ n1_ n2_; clear hb ho76; obtain ⟨Ao77, co77, eo77⟩ := Kd.N_slice HO711.out; subst eo77) | ((with_reducible refine gate_dst (N := 6) rfl ?_); refine box_event ?hg (N := 6) ?hd (cs := #[.int .i64 0, .string (⟨#[]⟩ : ByteArray), .int .i64 0, .slice none 0 0]) (t := 40) ?hr ?_; (case hd => rfl); (case hg => rfl); (case hr => first | (go_simp; done) | (go_simp; rfl)); intro gb712 hg w78 hbox hb; have n0_ := Aside0.mk (Kd.N_below (Kd.N_elderB (by (with_reducible repeat (first | apply Kd.N_alloc | apply Kd.N_drewN | apply Kd.N_drew)); exact HO711.out) gb712 (Nat.le_of_eq hg.symm)) hb); have n1_ := Aside0.mk (blk_below (g := gb706) (o := .cells #[.int .i64 t700, .string t701, .int .i64 t702, .slice Ao8 t703.length co8] 40 (0, 0)) (by (with_reducible repeat (first | refine blk_drewN ?_ _ | refine blk_drew ?_ | refine blk_alloc ?_ _)); exact BK706.out) hb); have n2_ := Aside0.mk (below_step (by repeat (first | (with_reducible first | exact HB.out | apply below_alloc | apply pw_below_drewN | apply below_drew1 | refine below_set ?_ GE706.out) | exact HB.out)) hb); have n3_ := Aside0.mk (hbox); have n4_ := Aside0.mk ((by rw [hg]; exact (below_size (by repeat (first | (with_reducible first | exact HB.out | apply below_alloc | apply pw_below_drewN | apply below_drew1 | refine below_set ?_ GE706.out) | exact HB.out))) : w.heap.size ≤ gb712)); have n5_ := Aside0.mk ((by rw [hg]; exact (below_size (by repeat (first | (with_reducible first | exact HB.out | apply below_alloc | apply pw_below_drewN | apply below_drew1 | refine below_set ?_ GE706.out) | exact HB.out))) : w.heap.size ≤ gb712)); have n6_ := Aside0.mk ((by rw [hg]; exact Nat.ne_of_lt (blk_lt (g := gb706) (o := .cells #[.int .i64 t700, .string t701, .int .i64 t702, .slice Ao8 t703.length co8] 40 (0, 0)) (by (with_reducible repeat (first | refine blk_drewN ?_ _ | refine blk_drew ?_ | refine blk_alloc ?_ _)); exact BK706.out)) : gb706 ≠ gb712)); have n7_ := Aside0.mk ((by rw [hg]; exact Nat.ne_of_gt (blk_lt (g := gb706) (o := .cells #[.int .i64 t700, .string t701, .int .i64 t702, .slice Ao8 t703.length co8] 40 (0, 0)) (by (with_reducible repeat (first | refine blk_drewN ?_ _ | refine blk_drew ?_ | refine blk_alloc ?_ _)); exact BK706.out)) : gb712 ≠ gb706)); have nz_ := Aside0.mk (Kd.N_below (Kd.N_elderB (by (with_reducible repeat (first | apply Kd.N_alloc | apply Kd.N_drewN | apply Kd.N_drew)); exact HO_707003.out) gb712 (Nat.le_of_eq hg.symm)) hb); clear HO_707003; have HO_707003 := nz_; clear nz_; clear HO711; clear BK706; clear HB; have HO711 := n0_; have BK706 := n1_; have HB := n2_; have BK712 := n3_; have GW712 := n4_; have GE712 := n5_; have NB706_712 := n6_; have NB712_706 := n7_; clear n0_ n1_ n2_ n3_ n4_ n5_ n6_ n7_; clear hb hbox hg; have hnb79 := NB712_706.out; have hnc79 := NB706_712.out; have hcz80_0 : w78.cell? ⟨gb712, 0, none⟩ = some (.int .i64 0) := (blk_cell BK712.out 0).trans rfl; have hcz80_1 : w78.cell? ⟨gb712, 1, none⟩ = some (.string (⟨#[]⟩ : ByteArray)) := (blk_cell BK712.out 1).trans rfl; have hcz80_2 : w78.cell? ⟨gb712, 2, none⟩ = some (.int .i64 0) := (blk_cell BK712.out 2).trans rfl; have hcz80_3 : w78.cell? ⟨gb712, 3, none⟩ = some (.slice none 0 0) := (blk_cell BK712.out 3).trans rfl; have hfz80_0 := blk_frozen BK712.out 0; have hfz80_1 := blk_frozen BK712.out 1; have hfz80_2 := blk_frozen BK712.out 2; have hfz80_3 := blk_frozen BK712.out 3))
            have n0_ : Aside0 (Kd.N k40 40 ((((w78.setCell ⟨gb712, 0, none⟩ (.int .i64 6)).setCell ⟨gb712, 1, none⟩ (.string (⟨#[]⟩ : ByteArray))).setCell ⟨gb712, 2, none⟩ (.int .i64 0)).setCell ⟨gb712, 3, none⟩ (.slice Ao77 y709.length co77)) w.heap.size (fun k_ => k_ ≠ gb706 ∧ k_ ≠ gb712) (.slice Ao77 y709.length co77) y709) := ⟨by (with_reducible repeat (first | apply Kd.N_alloc | apply Kd.N_drewN | apply Kd.N_drew)); exact Kd.N_mono (Kd.N_far (p := ⟨gb712, 3, none⟩) (Kd.N_far (p := ⟨gb712, 2, none⟩) (Kd.N_far (p := ⟨gb712, 1, none⟩) (Kd.N_far (p := ⟨gb712, 0, none⟩) (Kd.N_mono HO711.out (fun k_ hk => (⟨hk, hk.2⟩ : _ ∧ k_ ≠ gb712))) (fun _ hk => hk.2) (.int .i64 6)) (fun _ hk => hk.2) (.string (⟨#[]⟩ : ByteArray))) (fun _ hk => hk.2) (.int .i64 0)) (fun _ hk => hk.2) (.slice Ao77 y709.length co77)) (fun _ hk => ⟨hk.1.1, hk.1.2⟩)⟩
            have nz_ : Aside0 (Kd.N k40 40 ((((w78.setCell ⟨gb712, 0, none⟩ (.int .i64 6)).setCell ⟨gb712, 1, none⟩ (.string (⟨#[]⟩ : ByteArray))).setCell ⟨gb712, 2, none⟩ (.int .i64 0)).setCell ⟨gb712, 3, none⟩ (.slice Ao77 y709.length co77)) w.heap.size (fun k_ => k_ ≠ gb706 ∧ k_ ≠ gb712) (.slice Ao8 t703.length co8) t703) := ⟨by (with_reducible repeat (first | apply Kd.N_alloc | apply Kd.N_drewN | apply Kd.N_drew)); exact Kd.N_mono (Kd.N_far (p := ⟨gb712, 3, none⟩) (Kd.N_far (p := ⟨gb712, 2, none⟩) (Kd.N_far (p := ⟨gb712, 1, none⟩) (Kd.N_far (p := ⟨gb712, 0, none⟩) (Kd.N_mono HO_707003.out (fun k_ hk => (⟨hk, hk.2⟩ : _ ∧ k_ ≠ gb712))) (fun _ hk => hk.2) (.int .i64 6)) (fun _ hk => hk.2) (.string (⟨#[]⟩ : ByteArray))) (fun _ hk => hk.2) (.int .i64 0)) (fun _ hk => hk.2) (.slice Ao77 y709.length co77)) (fun _ hk => ⟨hk.1.1, hk.1.2⟩)⟩
            have n1_ : Aside0 (((((w78.setCell ⟨gb712, 0, none⟩ (.int .i64 6)).setCell ⟨gb712, 1, none⟩ (.string (⟨#[]⟩ : ByteArray))).setCell ⟨gb712, 2, none⟩ (.int .i64 0)).setCell ⟨gb712, 3, none⟩ (.slice Ao77 y709.length co77)).heap[gb706]? = some (.cells #[.int .i64 t700, .string t701, .int .i64 t702, .slice Ao8 t703.length co8] 40 (0, 0))) := ⟨by (with_reducible repeat (first | refine blk_drewN ?_ _ | refine blk_drew ?_ | refine blk_alloc ?_ _)); refine blk_far ?_ NB706_712.out _; (with_reducible repeat (first | refine blk_drewN ?_ _ | refine blk_drew ?_ | refine blk_alloc ?_ _)); refine blk_far ?_ NB706_712.out _; (with_reducible repeat (first | refine blk_drewN ?_ _ | refine blk_drew ?_ | refine blk_alloc ?_ _)); refine blk_far ?_ NB706_712.out _; (with_reducible repeat (first | refine blk_drewN ?_ _ | refine blk_drew ?_ | refine blk_alloc ?_ _)); refine blk_far ?_ NB706_712.out _; (with_reducible repeat (first | refine blk_drewN ?_ _ | refine blk_drew ?_ | refine blk_alloc ?_ _)); exact BK706.out⟩
            have n2_ : Aside0 (((((w78.setCell ⟨gb712, 0, none⟩ (.int .i64 6)).setCell ⟨gb712, 1, none⟩ (.string (⟨#[]⟩ : ByteArray))).setCell ⟨gb712, 2, none⟩ (.int .i64 0)).setCell ⟨gb712, 3, none⟩ (.slice Ao77 y709.length co77)).heap[gb712]? = some (.cells #[.int .i64 6, .string (⟨#[]⟩ : ByteArray), .int .i64 0, .slice Ao77 y709.length co77] 40 (0, 0))) := ⟨by (with_reducible repeat (first | refine blk_drewN ?_ _ | refine blk_drew ?_ | refine blk_alloc ?_ _)); refine blk_put (cs := #[.int .i64 6, .string (⟨#[]⟩ : ByteArray), .int .i64 0, .slice none 0 0]) ?_ 3 _ rfl; (with_reducible repeat (first | refine blk_drewN ?_ _ | refine blk_drew ?_ | refine blk_alloc ?_ _)); refine blk_put (cs := #[.int .i64 6, .string (⟨#[]⟩ : ByteArray), .int .i64 0, .slice none 0 0]) ?_ 2 _ rfl; (with_reducible repeat (first | refine blk_drewN ?_ _ | refine blk_drew ?_ | refine blk_alloc ?_ _)); refine blk_put (cs := #[.int .i64 6, .string (⟨#[]⟩ : ByteArray), .int .i64 0, .slice none 0 0]) ?_ 1 _ rfl; (with_reducible repeat (first | refine blk_drewN ?_ _ | refine blk_drew ?_ | refine blk_alloc ?_ _)); refine blk_put (cs := #[.int .i64 0, .string (⟨#[]⟩ : ByteArray), .int .i64 0, .slice none 0 0]) ?_ 0 _ rfl; (with_reducible repeat (first | refine blk_drewN ?_ _ | refine blk_drew ?_ | refine blk_alloc ?_ _)); exact BK712.out⟩
            have n3_ : Aside0 (Below w.heap.size w ((((w78.setCell ⟨gb712, 0, none⟩ (.int .i64 6)).setCell ⟨gb712, 1, none⟩ (.string (⟨#[]⟩ : ByteArray))).setCell ⟨gb712, 2, none⟩ (.int .i64 0)).setCell ⟨gb712, 3, none⟩ (.slice Ao77 y709.length co77))) := ⟨by repeat (first | (with_reducible first | exact HB.out | apply below_alloc | apply pw_below_drewN | apply below_drew1 | refine below_set ?_ GE706.out | refine below_set ?_ GE712.out) | exact HB.out)⟩
            (try clear HO711)
            (try clear HO_707003)
            (try clear BK706)
            (try clear BK712)
            (try clear HB)
            generalize ((((w78.setCell ⟨gb712, 0, none⟩ (.int .i64 6)).setCell ⟨gb712, 1, none⟩ (.string (⟨#[]⟩ : ByteArray))).setCell ⟨gb712, 2, none⟩ (.int .i64 0)).setCell ⟨gb712, 3, none⟩ (.slice Ao77 y709.length co77)) = w81 at n0_ nz_ n1_ n2_ n3_ ⊢
            have HO711 := n0_
            have HO_707003 := nz_
            have BK706 := n1_
            have BK712 := n2_
            have HB := n3_
            clear n0_ nz_ n1_ n2_ n3_
            have n0_ := Aside0.mk (Kd.N_drew HO711.out)
            have nz_ := Aside0.mk (Kd.N_drew HO_707003.out)
            have n1_ := Aside0.mk (blk_drew BK706.out)
            have n2_ := Aside0.mk (blk_drew BK712.out)
            have n3_ := Aside0.mk (below_drew1 HB.out)
            clear HO711
            clear HO_707003
            clear BK706
            clear BK712
            clear HB
            have HO711 := n0_
            have HO_707003 := nz_
            have BK706 := n1_
            have BK712 := n2_
            have HB := n3_
            clear n0_ nz_ n1_ n2_ n3_
            refine start_ (n := 29) (S := fun w' => w'.cell? ⟨gb706, 0, none⟩ = some (.int .i64 t700) ∧ w'.cell? ⟨gb706, 1, none⟩ = some (.string t701) ∧ w'.cell? ⟨gb706, 2, none⟩ = some (.int .i64 t702) ∧ w'.cell? ⟨gb706, 3, none⟩ = some (.slice Ao8 t703.length co8)) (ds := []) #[false, false, false, false, false, false, false, false, false, false, false, false, false, false, false, false, false, false, false, false, false, false, false, false, false, false, false, false, false] (by kernel_rfl) rfl rfl ⟨(blk_cell BK706.out 0).trans rfl, (blk_cell BK706.out 1).trans rfl, (blk_cell BK706.out 2).trans rfl, (blk_cell BK706.out 3).trans rfl⟩ (fun hHeld => ?_); refine with_tabW laws_FnNodes.tab10 laws_FnNodes.bits10 (fun HT_ HW_ => ?_)
            generalize w81.drew = w82 at HO711 HO_707003 BK706 BK712 HB hHeld ⊢
            refine pure_ (i := 2) (N := some 31) (v := ?_) (a' := ?_) #[false, false, true, false, false, false, false, false, false, false, false, false, false, false, false, false, false, false, false, false, false, false, false, false, false, false, false, false, false] rfl rfl (any_of HT_.out (by kernel_rfl)) (fun _ _ _ h => h) (Or.inl ⟨by rfl, ?_⟩) ?_ ?_
            rotate_left
            · intro w'
              go_simp
              with_reducible rfl
            rotate_left
            · simp only [Act.put, List.setIfInBounds_toArray, List.set_cons_zero, List.set_cons_succ, i64_w, i32_w]
              rfl
            refine take_ (i := 0) (N := some 29) (v := ?_) (a' := ?_) #[true, false, true, false, false, false, false, false, false, false, false, false, false, false, false, false, false, false, false, false, false, false, false, false, false, false, false, false, false] rfl rfl (take_ofW HT_.out HW_.out (by kernel_rfl)) (fun _ _ _ h => h) (Or.inl ⟨by rfl, ?_⟩) hHeld ?_ ?_
            rotate_left
            · rintro w' ⟨s0, s1, s2, s3⟩
              go_simp
              with_reducible rfl
            rotate_left
            · simp only [Act.put, List.setIfInBounds_toArray, List.set_cons_zero, List.set_cons_succ, i64_w, i32_w]
              rfl
            refine one_ (i := 1) (N := some 30) #[true, true, true, false, false, false, false, false, false, false, false, false, false, false, false, false, false, false, false, false, false, false, false, false, false, false, false, false, false] rfl rfl (one_of HT_.out (by kernel_rfl)) (by decide) (fun K hK => ?_)
            refine goes_ Try.func41 (by kernel_rfl) rfl #[.agg #[.int .i64 t700, .string t701, .int .i64 t702, .slice Ao8 t703.length co8]] (by rfl) rfl rfl (by (try simp only [List.map_toArray, List.map_cons, List.map_nil]); first | done | rfl | (simp only [List.length_drop, List.length_take]; rfl)) ?_
            with_reducible refine (impl_Nodes.calls k1 t700 t701 t702 _ _ t703 t713 _ ?side1 ?side2 A14.out).mono ?_
            (case side1 => repeat (first | exact (Kd.N_reads' HO_707003.out).2.2 | (with_reducible refine Kd.C_alloc ?_ _) | (with_reducible refine Kd.C_drewN ?_ _) | (with_reducible refine Kd.C_drew ?_)))
            (case side2 => exact (Kd.N_reads' HO_707003.out).2.1)
            rintro e w83 ⟨rfl, hb⟩
            refine ⟨_, rfl, ?_⟩
            have n0_ := Aside0.mk (Kd.N_below (by (with_reducible repeat (first | apply Kd.N_alloc | apply Kd.N_drewN | apply Kd.N_drew)); exact HO711.out) hb)
            have nz_ := Aside0.mk (Kd.N_below (by (with_reducible repeat (first | apply Kd.N_alloc | apply Kd.N_drewN | apply Kd.N_drew)); exact HO_707003.out) hb)
            have n1_ := Aside0.mk (blk_below (g := gb706) (o := .cells #[.int .i64 t700, .string t701, .int .i64 t702, .slice Ao8 t703.length co8] 40 (0, 0)) (by (with_reducible repeat (first | refine blk_drewN ?_ _ | refine blk_drew ?_ | refine blk_alloc ?_ _)); exact BK706.out) hb)
            have n2_ := Aside0.mk (blk_below (g := gb712) (o := .cells #[.int .i64 6, .string (⟨#[]⟩ : ByteArray), .int .i64 0, .slice Ao77 y709.length co77] 40 (0, 0)) (by (with_reducible repeat (first | refine blk_drewN ?_ _ | refine blk_drew ?_ | refine blk_alloc ?_ _)); exact BK712.out) hb)
            have n3_ := Aside0.mk (below_step (by repeat (first | (with_reducible first | exact HB.out | apply below_alloc | apply pw_below_drewN | apply below_drew1 | refine below_set ?_ GE706.out | refine below_set ?_ GE712.out) | exact HB.out)) hb)
            clear HO711
            clear HO_707003
            clear BK706
            clear BK712
            clear HB
            have HO711 := n0_
            have HO_707003 := nz_
            have BK706 := n1_
            have BK712 := n2_
            have HB := n3_
            clear n0_ nz_ n1_ n2_ n3_
            (try clear hb)
            (try clear hb2)
            (try clear hk)
            (try clear hi)
            refine hK.out _ _ ⟨(blk_cell BK706.out 0).trans rfl, (blk_cell BK706.out 1).trans rfl, (blk_cell BK706.out 2).trans rfl, (blk_cell BK706.out 3).trans rfl⟩ (fun hHeld => ?_)
            clear hK K
            refine norm_ (a' := ?_) ?_ ?_
            rotate_left
            · show Act.put _ (some 30) _ = _
              simp only [Act.put, List.setIfInBounds_toArray, List.set_cons_zero, List.set_cons_succ, i64_w, i32_w]
              rfl
            refine pure_ (i := 3) (N := some 32) (v := ?_) (a' := ?_) #[true, true, true, true, false, false, false, false, false, false, false, false, false, false, false, false, false, false, false, false, false, false, false, false, false, false, false, false, false] rfl rfl (any_of HT_.out (by kernel_rfl)) (fun _ _ _ h => h) (Or.inl ⟨by rfl, ?_⟩) ?_ ?_
            rotate_left
            · intro w'
              go_simp
              with_reducible rfl
            rotate_left
            · simp only [Act.put, List.setIfInBounds_toArray, List.set_cons_zero, List.set_cons_succ, i64_w, i32_w]
              rfl
            refine pure_ (i := 4) (N := some 33) (v := ?_) (a' := ?_) #[true, true, true, true, true, false, false, false, false, false, false, false, false, false, false, false, false, false, false, false, false, false, false, false, false, false, false, false, false] rfl rfl (any_of HT_.out (by kernel_rfl)) (fun _ _ _ h => h) (Or.inl ⟨by rfl, ?_⟩) ?_ ?_
            rotate_left
            · intro w'
              go_simp
              with_reducible rfl
            rotate_left
            · simp only [Act.put, List.setIfInBounds_toArray, List.set_cons_zero, List.set_cons_succ, i64_w, i32_w]
              rfl
            refine pure_ (i := 5) (N := some 34) (v := undef) (a' := ?_) #[true, true, true, true, true, true, false, false, false, false, false, false, false, false, false, false, false, false, false, false, false, false, false, false, false, false, false, false, false] rfl rfl (any_of HT_.out (by kernel_rfl)) (fun _ _ _ h => h) (Or.inr ⟨by rfl, rfl⟩) ?_ ?_
            rotate_left
            · simp only [Act.put, List.setIfInBounds_toArray, List.set_cons_zero, List.set_cons_succ, i64_w, i32_w]
              rfl
            refine pure_ (i := 6) (N := some 35) (v := undef) (a' := ?_) #[true, true, true, true, true, true, true, false, false, false, false, false, false, false, false, false, false, false, false, false, false, false, false, false, false, false, false, false, false] rfl rfl (any_of HT_.out (by kernel_rfl)) (fun _ _ _ h => h) (Or.inr ⟨by rfl, rfl⟩) ?_ ?_
            rotate_left
            · simp only [Act.put, List.setIfInBounds_toArray, List.set_cons_zero, List.set_cons_succ, i64_w, i32_w]
              rfl
            refine pure_ (i := 7) (N := some 36) (v := undef) (a' := ?_) #[true, true, true, true, true, true, true, true, false, false, false, false, false, false, false, false, false, false, false, false, false, false, false, false, false, false, false, false, false] rfl rfl (any_of HT_.out (by kernel_rfl)) (fun _ _ _ h => h) (Or.inr ⟨by rfl, rfl⟩) ?_ ?_
            rotate_left
            · simp only [Act.put, List.setIfInBounds_toArray, List.set_cons_zero, List.set_cons_succ, i64_w, i32_w]
              rfl
            refine pure_ (i := 8) (N := some 37) (v := undef) (a' := ?_) #[true, true, true, true, true, true, true, true, true, false, false, false, false, false, false, false, false, false, false, false, false, false, false, false, false, false, false, false, false] rfl rfl (any_of HT_.out (by kernel_rfl)) (fun _ _ _ h => h) (Or.inr ⟨by rfl, rfl⟩) ?_ ?_
            rotate_left
            · simp only [Act.put, List.setIfInBounds_toArray, List.set_cons_zero, List.set_cons_succ, i64_w, i32_w]
              rfl
            refine pure_ (i := 9) (N := some 38) (v := ?_) (a' := ?_) #[true, true, true, true, true, true, true, true, true, true, false, false, false, false, false, false, false, false, false, false, false, false, false, false, false, false, false, false, false] rfl rfl (any_of HT_.out (by kernel_rfl)) (fun _ _ _ h => h) (Or.inl ⟨by rfl, ?_⟩) ?_ ?_
            rotate_left
            · intro w'
              go_simp
              with_reducible rfl
            rotate_left
            · simp only [Act.put, List.setIfInBounds_toArray, List.set_cons_zero, List.set_cons_succ, i64_w, i32_w]
              rfl
            refine pure_ (i := 10) (N := some 39) (v := ?_) (a' := ?_) #[true, true, true, true, true, true, true, true, true, true, true, false, false, false, false, false, false, false, false, false, false, false, false, false, false, false, false, false, false] rfl rfl (any_of HT_.out (by kernel_rfl)) (fun _ _ _ h => h) (Or.inl ⟨by rfl, ?_⟩) ?_ ?_
            rotate_left
            · intro w'
              go_simp
              with_reducible rfl
            rotate_left
            · simp only [Act.put, List.setIfInBounds_toArray, List.set_cons_zero, List.set_cons_succ, i64_w, i32_w]
              rfl
            refine pure_ (i := 11) (N := some 40) (v := undef) (a' := ?_) #[true, true, true, true, true, true, true, true, true, true, true, true, false, false, false, false, false, false, false, false, false, false, false, false, false, false, false, false, false] rfl rfl (any_of HT_.out (by kernel_rfl)) (fun _ _ _ h => h) (Or.inr ⟨by rfl, rfl⟩) ?_ ?_
            rotate_left
            · simp only [Act.put, List.setIfInBounds_toArray, List.set_cons_zero, List.set_cons_succ, i64_w, i32_w]
              rfl
            refine pure_ (i := 12) (N := some 41) (v := undef) (a' := ?_) #[true, true, true, true, true, true, true, true, true, true, true, true, true, false, false, false, false, false, false, false, false, false, false, false, false, false, false, false, false] rfl rfl (any_of HT_.out (by kernel_rfl)) (fun _ _ _ h => h) (Or.inr ⟨by rfl, rfl⟩) ?_ ?_
            rotate_left
            · simp only [Act.put, List.setIfInBounds_toArray, List.set_cons_zero, List.set_cons_succ, i64_w, i32_w]
              rfl
            refine pure_ (i := 13) (N := some 42) (v := undef) (a' := ?_) #[true, true, true, true, true, true, true, true, true, true, true, true, true, true, false, false, false, false, false, false, false, false, false, false, false, false, false, false, false] rfl rfl (any_of HT_.out (by kernel_rfl)) (fun _ _ _ h => h) (Or.inr ⟨by rfl, rfl⟩) ?_ ?_
            rotate_left
            · simp only [Act.put, List.setIfInBounds_toArray, List.set_cons_zero, List.set_cons_succ, i64_w, i32_w]
              rfl
            refine pure_ (i := 14) (N := some 43) (v := undef) (a' := ?_) #[true, true, true, true, true, true, true, true, true, true, true, true, true, true, true, false, false, false, false, false, false, false, false, false, false, false, false, false, false] rfl rfl (any_of HT_.out (by kernel_rfl)) (fun _ _ _ h => h) (Or.inr ⟨by rfl, rfl⟩) ?_ ?_
            rotate_left
            · simp only [Act.put, List.setIfInBounds_toArray, List.set_cons_zero, List.set_cons_succ, i64_w, i32_w]
              rfl
            refine pure_ (i := 15) (N := some 44) (v := undef) (a' := ?_) #[true, true, true, true, true, true, true, true, true, true, true, true, true, true, true, true, false, false, false, false, false, false, false, false, false, false, false, false, false] rfl rfl (any_of HT_.out (by kernel_rfl)) (fun _ _ _ h => h) (Or.inr ⟨by rfl, rfl⟩) ?_ ?_
            rotate_left
            · simp only [Act.put, List.setIfInBounds_toArray, List.set_cons_zero, List.set_cons_succ, i64_w, i32_w]
              rfl
            refine pure_ (i := 16) (N := some 45) (v := ?_) (a' := ?_) #[true, true, true, true, true, true, true, true, true, true, true, true, true, true, true, true, true, false, false, false, false, false, false, false, false, false, false, false, false] rfl rfl (any_of HT_.out (by kernel_rfl)) (fun _ _ _ h => h) (Or.inl ⟨by rfl, ?_⟩) ?_ ?_
            rotate_left
            · intro w'
              go_simp
              with_reducible rfl
            rotate_left
            · simp only [Act.put, List.setIfInBounds_toArray, List.set_cons_zero, List.set_cons_succ, i64_w, i32_w]
              rfl
            refine pure_ (i := 17) (N := some 46) (v := ?_) (a' := ?_) #[true, true, true, true, true, true, true, true, true, true, true, true, true, true, true, true, true, true, false, false, false, false, false, false, false, false, false, false, false] rfl rfl (any_of HT_.out (by kernel_rfl)) (fun _ _ _ h => h) (Or.inl ⟨by rfl, ?_⟩) ?_ ?_
            rotate_left
            · intro w'
              go_simp
              with_reducible rfl
            rotate_left
            · simp only [Act.put, List.setIfInBounds_toArray, List.set_cons_zero, List.set_cons_succ, i64_w, i32_w]
              rfl
            refine pure_ (i := 18) (N := some 47) (v := undef) (a' := ?_) #[true, true, true, true, true, true, true, true, true, true, true, true, true, true, true, true, true, true, true, false, false, false, false, false, false, false, false, false, false] rfl rfl (any_of HT_.out (by kernel_rfl)) (fun _ _ _ h => h) (Or.inr ⟨by rfl, rfl⟩) ?_ ?_
            rotate_left
            · simp only [Act.put, List.setIfInBounds_toArray, List.set_cons_zero, List.set_cons_succ, i64_w, i32_w]
              rfl
            refine pure_ (i := 19) (N := some 48) (v := undef) (a' := ?_) #[true, true, true, true, true, true, true, true, true, true, true, true, true, true, true, true, true, true, true, true, false, false, false, false, false, false, false, false, false] rfl rfl (any_of HT_.out (by kernel_rfl)) (fun _ _ _ h => h) (Or.inr ⟨by rfl, rfl⟩) ?_ ?_
            rotate_left
            · simp only [Act.put, List.setIfInBounds_toArray, List.set_cons_zero, List.set_cons_succ, i64_w, i32_w]
              rfl
            refine pure_ (i := 20) (N := some 49) (v := undef) (a' := ?_) #[true, true, true, true, true, true, true, true, true, true, true, true, true, true, true, true, true, true, true, true, true, false, false, false, false, false, false, false, false] rfl rfl (any_of HT_.out (by kernel_rfl)) (fun _ _ _ h => h) (Or.inr ⟨by rfl, rfl⟩) ?_ ?_
            rotate_left
            · simp only [Act.put, List.setIfInBounds_toArray, List.set_cons_zero, List.set_cons_succ, i64_w, i32_w]
              rfl
            refine pure_ (i := 21) (N := some 50) (v := undef) (a' := ?_) #[true, true, true, true, true, true, true, true, true, true, true, true, true, true, true, true, true, true, true, true, true, true, false, false, false, false, false, false, false] rfl rfl (any_of HT_.out (by kernel_rfl)) (fun _ _ _ h => h) (Or.inr ⟨by rfl, rfl⟩) ?_ ?_
            rotate_left
            · simp only [Act.put, List.setIfInBounds_toArray, List.set_cons_zero, List.set_cons_succ, i64_w, i32_w]
              rfl
            refine pure_ (i := 22) (N := some 51) (v := undef) (a' := ?_) #[true, true, true, true, true, true, true, true, true, true, true, true, true, true, true, true, true, true, true, true, true, true, true, false, false, false, false, false, false] rfl rfl (any_of HT_.out (by kernel_rfl)) (fun _ _ _ h => h) (Or.inr ⟨by rfl, rfl⟩) ?_ ?_
            rotate_left
            · simp only [Act.put, List.setIfInBounds_toArray, List.set_cons_zero, List.set_cons_succ, i64_w, i32_w]
              rfl
            refine pure_ (i := 23) (N := some 52) (v := undef) (a' := ?_) #[true, true, true, true, true, true, true, true, true, true, true, true, true, true, true, true, true, true, true, true, true, true, true, true, false, false, false, false, false] rfl rfl (any_of HT_.out (by kernel_rfl)) (fun _ _ _ h => h) (Or.inr ⟨by rfl, rfl⟩) ?_ ?_
            rotate_left
            · simp only [Act.put, List.setIfInBounds_toArray, List.set_cons_zero, List.set_cons_succ, i64_w, i32_w]
              rfl
            refine pure_ (i := 24) (N := some 53) (v := undef) (a' := ?_) #[true, true, true, true, true, true, true, true, true, true, true, true, true, true, true, true, true, true, true, true, true, true, true, true, true, false, false, false, false] rfl rfl (any_of HT_.out (by kernel_rfl)) (fun _ _ _ h => h) (Or.inr ⟨by rfl, rfl⟩) ?_ ?_
            rotate_left
            · simp only [Act.put, List.setIfInBounds_toArray, List.set_cons_zero, List.set_cons_succ, i64_w, i32_w]
              rfl
            refine pure_ (i := 25) (N := some 54) (v := undef) (a' := ?_) #[true, true, true, true, true, true, true, true, true, true, true, true, true, true, true, true, true, true, true, true, true, true, true, true, true, true, false, false, false] rfl rfl (any_of HT_.out (by kernel_rfl)) (fun _ _ _ h => h) (Or.inr ⟨by rfl, rfl⟩) ?_ ?_
            rotate_left
            · simp only [Act.put, List.setIfInBounds_toArray, List.set_cons_zero, List.set_cons_succ, i64_w, i32_w]
              rfl
            refine pure_ (i := 26) (N := some 55) (v := undef) (a' := ?_) #[true, true, true, true, true, true, true, true, true, true, true, true, true, true, true, true, true, true, true, true, true, true, true, true, true, true, true, false, false] rfl rfl (any_of HT_.out (by kernel_rfl)) (fun _ _ _ h => h) (Or.inr ⟨by rfl, rfl⟩) ?_ ?_
            rotate_left
            · simp only [Act.put, List.setIfInBounds_toArray, List.set_cons_zero, List.set_cons_succ, i64_w, i32_w]
              rfl
            refine pure_ (i := 27) (N := some 56) (v := ?_) (a' := ?_) #[true, true, true, true, true, true, true, true, true, true, true, true, true, true, true, true, true, true, true, true, true, true, true, true, true, true, true, true, false] rfl rfl (any_of HT_.out (by kernel_rfl)) (fun _ _ _ h => h) (Or.inl ⟨by rfl, ?_⟩) ?_ ?_
            rotate_left
            · intro w'
              go_simp
              with_reducible rfl
            rotate_left
            · simp only [Act.put, List.setIfInBounds_toArray, List.set_cons_zero, List.set_cons_succ, i64_w, i32_w]
              rfl
            refine pure_ (i := 28) (N := some 2) (v := ?_) (a' := ?_) #[true, true, true, true, true, true, true, true, true, true, true, true, true, true, true, true, true, true, true, true, true, true, true, true, true, true, true, true, true] rfl rfl (any_of HT_.out (by kernel_rfl)) (fun _ _ _ h => h) (Or.inl ⟨by rfl, ?_⟩) ?_ ?_
            rotate_left
            · intro w'
              go_simp
              with_reducible rfl
            rotate_left
            · simp only [Act.put, List.setIfInBounds_toArray, List.set_cons_zero, List.set_cons_succ, i64_w, i32_w]
              rfl
            refine done_ (done_of HT_.out (by kernel_rfl)) ?_
            try go_wp2
            go_ret
            exact ⟨by first | rfl | (simp [errW_none, errW_some] <;> rfl) | (simp [*, errW_none, errW_some] <;> rfl), by repeat (first | (with_reducible first | exact HB.out | apply below_alloc | apply pw_below_drewN | apply below_drew1 | refine below_set ?_ GE706.out | refine below_set ?_ GE712.out) | exact HB.out)⟩

/-- THE ONE PURE STATEMENT of laws_FnNodes: yours. -/
def laws_FnNodes.Pure : Prop := ∀ (l0 : List Int), l0.length ≤ maxLen → l0.length * 1 ≤ 140737488351232 → (∀ x ∈ l0, (Lit.int .u8 x).wf = true) → ∃ k, laws_FnNodes.f k l0 = some true
theorem laws_FnNodes.walk (P : laws_FnNodes.Pure) (a0 : Option Addr) (len0 cap0 : Nat) (z0 : List Int) (w : World) (w0 : (a0 = none ∧ len0 = 0 ∧ cap0 = 0 ∧ z0 = []) ∨ ∃ x, a0 = some x ∧ len0 ≤ cap0 ∧ cap0 ≤ maxLen ∧ z0.length = cap0 ∧ (∀ i, i < z0.length → w.cell? (x.add i) = some (.int .u8 (z0.getD i 0))) ∧ ∀ n ∈ z0, (Lit.int .u8 n).wf = true) (y0 : len0 * 1 ≤ 140737488351232) :
    Calls Try.prog 10 #[.slice a0 len0 cap0] w fun e w' => e = .returned (.bool true) ∧ Below w.heap.size w w' := by
  obtain ⟨l0, rfl, hr0, hm0, hw0, hc0⟩ := ReadsInt.ofRowC w0
  obtain ⟨k, h⟩ := P l0 hm0 y0 hw0
  refine (laws_FnNodes.calls k _ _ l0 true w (Kd.C_of_reads (d := (0 : Int)) (h1 := fun _ => rfl) hr0) hc0 h).mono ?_
  rintro e w' ⟨rfl, hd⟩
  exact ⟨rfl, hd⟩

end Go.Proofs.Ytbbndlagginnoaa.Q
