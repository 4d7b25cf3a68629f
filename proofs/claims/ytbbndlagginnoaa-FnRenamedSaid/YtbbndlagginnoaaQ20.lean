/- Written by a program of this session (drive.py) over the translation: a part of the proofs of the laws; nothing is asked beyond what each statement says. -/
import Derived.Test.YtbbndlagginnoaaQ0
import Derived.Test.YtbbndlagginnoaaQ1
import Derived.Test.YtbbndlagginnoaaQ7
import Derived.Test.YtbbndlagginnoaaQ13
import Derived.Test.YtbbndlagginnoaaQ14
import Derived.Test.YtbbndlagginnoaaQ17
import Derived.Test.YtbbndlagginnoaaQ19
import Derived.Test.YtbbndlagginnoaaFColumns
namespace Go.Proofs.Ytbbndlagginnoaa.Q
open Go.RowKit Go.Proofs.YtbbndlagginnoaaW.PrintWords Go.Proofs.YtbbndlagginnoaaW.PrintLast Go.Proofs.YtbbndlagginnoaaW.PrintMore
attribute [local go_sem] max2_int min2_int max_two min_two max_three min_three max_four min_four   -- for this text's walks alone
set_option linter.unusedVariables false
set_option linter.unusedSimpArgs false

/-! ### laws_FnRenamed: function 8 -/
def laws_FnRenamed.j0 : Nat → ByteArray → Bool → Int → ByteArray → Int → List (S40) → Option (Bool)
  | 0, _, _, _, _, _, _ => none
  | k + 1, x4, x33, x605000, x605001, x605002, x605003 => if x33 = true then (some false) else ((impl_Renamed.f k x605000 x605001 x605002 x605003 x4 (⟨#[102, 114, 101, 115, 104, 32, 111, 110, 101]⟩ : ByteArray)).bind fun bt621 => ((impl_Renamed.f k bt621.1 bt621.2.1 bt621.2.2.1 bt621.2.2.2 (⟨#[102, 114, 101, 115, 104, 32, 111, 110, 101]⟩ : ByteArray) x4).bind fun bt628 => ((laws_sameExpr.f k bt628.1 bt628.2.1 bt628.2.2.1 bt628.2.2.2 x605000 x605001 x605002 x605003).bind fun t634 => (if t634 = true then ((impl_Columns.f k bt621.1 bt621.2.1 bt621.2.2.1 bt621.2.2.2).bind fun t635 => ((spec_Has.f k t635 x4).bind fun t638 => (if t638 = true then (some false) else ((impl_Renamed.f k x605000 x605001 x605002 x605003 x4 x4).bind fun bt639 => ((laws_sameExpr.f k bt639.1 bt639.2.1 bt639.2.2.1 bt639.2.2.2 x605000 x605001 x605002 x605003).bind fun t645 => (some t645)))))) else (some false)))))
def laws_FnRenamed.f (k : Nat) (l0 : List Int) : Option (Bool) := (laws_big.f l0).bind fun t595 => (if t595 = true then (some true) else ((spec_DrawRenamed.f k l0).bind fun bt596 => ((impl_Renamed.f k bt596.1 bt596.2.1 bt596.2.2.1 bt596.2.2.2.1 bt596.2.2.2.2.1 bt596.2.2.2.2.2).bind fun bt605 => ((spec_Renamed.f k bt596.1 bt596.2.1 bt596.2.2.1 bt596.2.2.2.1 bt596.2.2.2.2.1 bt596.2.2.2.2.2).bind fun bt612 => ((laws_sameExpr.f k bt605.1 bt605.2.1 bt605.2.2.1 bt605.2.2.2 bt612.1 bt612.2.1 bt612.2.2.1 bt612.2.2.2).bind fun t618 => (if t618 = true then ((impl_Nodes.f k bt605.1 bt605.2.1 bt605.2.2.1 bt605.2.2.2).bind fun t619 => ((impl_Nodes.f k bt596.1 bt596.2.1 bt596.2.2.1 bt596.2.2.2.1).bind fun t620 => (laws_FnRenamed.j0 k bt596.2.2.2.2.1 (t619 != t620) bt596.1 bt596.2.1 bt596.2.2.1 bt596.2.2.2.1))) else (laws_FnRenamed.j0 k bt596.2.2.2.2.1 true bt596.1 bt596.2.1 bt596.2.2.1 bt596.2.2.2.1)))))))
def laws_FnRenamed.T5 : Bool × List (List Nat × List Nat) := (true, [([], []), ([], []), ([], []), ([], []), ([1, 2, 3], [1, 2, 3]), ([0, 4, 4], [0, 4]), ([5], [5]), ([6, 5], [6]), ([7], [7]), ([8, 7, 7], [7, 8]), ([7], [7]), ([10, 9, 7], [7, 10]), ([9, 11, 7], [7, 9, 11]), ([7, 12], [7, 12])])
def laws_FnRenamed.B5 : List Nat := [0, 0, 0, 0, 14, 31, 63, 127, 255, 511, 255, 2047, 4095, 8191]
theorem laws_FnRenamed.tab5 : rtab .any (opsOf Try.f8 5) = laws_FnRenamed.T5 := by kernel_rfl
theorem laws_FnRenamed.bits5 : waitsOk laws_FnRenamed.T5.2 laws_FnRenamed.B5 = true := by kernel_rfl
def laws_FnRenamed.T8 : Bool × List (List Nat × List Nat) := (true, [([], []), ([], []), ([0, 1], [0, 1]), ([], []), ([2, 3, 2], [2, 3]), ([4, 4], [4]), ([5], [5]), ([6, 5, 5], [5, 6]), ([5], [5]), ([7, 8, 7, 5], [5, 7, 8]), ([9, 5], [5, 9]), ([5, 10], [5, 10]), ([11, 9], [11]), ([12], [12]), ([12], [12]), ([12], [12]), ([13, 14, 15, 12, 12], [12, 13, 14, 15]), ([12], [12]), ([16, 17, 16, 12], [12, 16, 17]), ([12, 18], [12, 18]), ([19, 18, 0, 1, 2, 3, 4, 5, 6, 7, 8, 9, 10, 11, 12, 13, 14, 15, 16, 17, 18, 19], [19])])
def laws_FnRenamed.B8 : List Nat := [0, 0, 3, 0, 15, 31, 63, 127, 63, 511, 1023, 2047, 4095, 8191, 8191, 8191, 65535, 8191, 262143, 524287, 1048575]
theorem laws_FnRenamed.tab8 : rtab .any (opsOf Try.f8 8) = laws_FnRenamed.T8 := by kernel_rfl
theorem laws_FnRenamed.bits8 : waitsOk laws_FnRenamed.T8.2 laws_FnRenamed.B8 = true := by kernel_rfl
set_option maxHeartbeats 8000000 in
set_option maxRecDepth 100000 in
theorem laws_FnRenamed.calls (k : Nat) (A0 : Option Addr) (c0 : Nat) (l0 : List Int) (r : Bool) (w : World) (hr0 : Kd.C (Kd.int .u8) w A0 l0.length l0) (hc0 : l0.length ≤ c0) (h : laws_FnRenamed.f k l0 = some r) :
    Calls Try.prog 8 #[.slice A0 l0.length c0] w fun e w' => e = .returned (.bool r) ∧ Below w.heap.size w w' := by
  have hu40 := Try.underlying40
  have HR0 := Aside0.mk hr0
  have HC0 := Aside0.mk hc0
  clear hr0 hc0
  have HB := Aside0.mk (Below.refl w.heap.size w)
  have H : ((laws_big.f l0).bind fun t595 => (if t595 = true then (some true) else ((spec_DrawRenamed.f k l0).bind fun bt596 => ((impl_Renamed.f k bt596.1 bt596.2.1 bt596.2.2.1 bt596.2.2.2.1 bt596.2.2.2.2.1 bt596.2.2.2.2.2).bind fun bt605 => ((spec_Renamed.f k bt596.1 bt596.2.1 bt596.2.2.1 bt596.2.2.2.1 bt596.2.2.2.2.1 bt596.2.2.2.2.2).bind fun bt612 => ((laws_sameExpr.f k bt605.1 bt605.2.1 bt605.2.2.1 bt605.2.2.2 bt612.1 bt612.2.1 bt612.2.2.1 bt612.2.2.2).bind fun t618 => (if t618 = true then ((impl_Nodes.f k bt605.1 bt605.2.1 bt605.2.2.1 bt605.2.2.2).bind fun t619 => ((impl_Nodes.f k bt596.1 bt596.2.1 bt596.2.2.1 bt596.2.2.2.1).bind fun t620 => (laws_FnRenamed.j0 k bt596.2.2.2.2.1 (t619 != t620) bt596.1 bt596.2.1 bt596.2.2.1 bt596.2.2.2.1))) else (laws_FnRenamed.j0 k bt596.2.2.2.2.1 true bt596.1 bt596.2.1 bt596.2.2.1 bt596.2.2.2.1)))))))) = some r := h
  clear h
  replace H := Option.bind_eq_some_iff.mp H
  obtain ⟨t595, A20, H⟩ := H
  replace H : (if t595 = true then (some true) else ((spec_DrawRenamed.f k l0).bind fun bt596 => ((impl_Renamed.f k bt596.1 bt596.2.1 bt596.2.2.1 bt596.2.2.2.1 bt596.2.2.2.2.1 bt596.2.2.2.2.2).bind fun bt605 => ((spec_Renamed.f k bt596.1 bt596.2.1 bt596.2.2.1 bt596.2.2.2.1 bt596.2.2.2.2.1 bt596.2.2.2.2.2).bind fun bt612 => ((laws_sameExpr.f k bt605.1 bt605.2.1 bt605.2.2.1 bt605.2.2.2 bt612.1 bt612.2.1 bt612.2.2.1 bt612.2.2.2).bind fun t618 => (if t618 = true then ((impl_Nodes.f k bt605.1 bt605.2.1 bt605.2.2.1 bt605.2.2.2).bind fun t619 => ((impl_Nodes.f k bt596.1 bt596.2.1 bt596.2.2.1 bt596.2.2.2.1).bind fun t620 => (laws_FnRenamed.j0 k bt596.2.2.2.2.1 (t619 != t620) bt596.1 bt596.2.1 bt596.2.2.1 bt596.2.2.2.1))) else (laws_FnRenamed.j0 k bt596.2.2.2.2.1 true bt596.1 bt596.2.1 bt596.2.2.1 bt596.2.2.2.1))))))) = some r := H
  have A2 := Aside0.mk A20
  clear A20
  by_cases c3 : t595 = true
  · subst c3
    have H1 : (some true) = some r := by rw [if_pos rfl] at H; exact H
    clear H
    have H := H1
    clear H1
    obtain rfl := Option.some.inj H
    go_enter Try.func8, Try.ntmps8
    go_wp2_with (first | ((with_reducible refine gate_callee (f := 11) rfl ?_); refine goesL_ (some 9) rfl rfl Try.func11 (by kernel_rfl) rfl #[.slice A0 l0.length c0] rfl (by (try simp only [List.map_toArray, List.map_cons, List.map_nil]); first | done | rfl | (simp only [List.length_drop, List.length_take]; rfl)) ?_; (with_reducible refine (laws_big.calls _ _ l0 true _ ?side1 ?side2 A2.out).mono ?_); (case side1 => repeat (first | exact HR0.out | (with_reducible refine Kd.C_alloc ?_ _) | (with_reducible refine Kd.C_drewN ?_ _) | (with_reducible refine Kd.C_drew ?_))); (case side2 => exact HC0.out); rintro e w' ⟨rfl, ⟨nd, rfl⟩⟩; refine ⟨_, rfl, ?_⟩))
    go_ret
    exact ⟨by first | rfl | (simp [errW_none, errW_some] <;> rfl) | (simp [*, errW_none, errW_some] <;> rfl), by repeat (first | (with_reducible first | exact HB.out | apply below_alloc | apply pw_below_drewN | apply below_drew1) | exact HB.out)⟩
  · replace c3 := Bool.eq_false_iff.mpr c3
    subst c3
    have H1 : ((spec_DrawRenamed.f k l0).bind fun bt596 => ((impl_Renamed.f k bt596.1 bt596.2.1 bt596.2.2.1 bt596.2.2.2.1 bt596.2.2.2.2.1 bt596.2.2.2.2.2).bind fun bt605 => ((spec_Renamed.f k bt596.1 bt596.2.1 bt596.2.2.1 bt596.2.2.2.1 bt596.2.2.2.2.1 bt596.2.2.2.2.2).bind fun bt612 => ((laws_sameExpr.f k bt605.1 bt605.2.1 bt605.2.2.1 bt605.2.2.2 bt612.1 bt612.2.1 bt612.2.2.1 bt612.2.2.2).bind fun t618 => (if t618 = true then ((impl_Nodes.f k bt605.1 bt605.2.1 bt605.2.2.1 bt605.2.2.2).bind fun t619 => ((impl_Nodes.f k bt596.1 bt596.2.1 bt596.2.2.1 bt596.2.2.2.1).bind fun t620 => (laws_FnRenamed.j0 k bt596.2.2.2.2.1 (t619 != t620) bt596.1 bt596.2.1 bt596.2.2.1 bt596.2.2.2.1))) else (laws_FnRenamed.j0 k bt596.2.2.2.2.1 true bt596.1 bt596.2.1 bt596.2.2.1 bt596.2.2.2.1)))))) = some r := by rw [if_neg (show ¬ (false = true) by decide)] at H; exact H
    clear H
    have H := H1
    clear H1
    replace H := Option.bind_eq_some_iff.mp H
    obtain ⟨⟨t596, t597, t598, t599, t602, t603⟩, A40, H⟩ := H
    replace H : ((impl_Renamed.f k t596 t597 t598 t599 t602 t603).bind fun bt605 => ((spec_Renamed.f k t596 t597 t598 t599 t602 t603).bind fun bt612 => ((laws_sameExpr.f k bt605.1 bt605.2.1 bt605.2.2.1 bt605.2.2.2 bt612.1 bt612.2.1 bt612.2.2.1 bt612.2.2.2).bind fun t618 => (if t618 = true then ((impl_Nodes.f k bt605.1 bt605.2.1 bt605.2.2.1 bt605.2.2.2).bind fun t619 => ((impl_Nodes.f k t596 t597 t598 t599).bind fun t620 => (laws_FnRenamed.j0 k t602 (t619 != t620) t596 t597 t598 t599))) else (laws_FnRenamed.j0 k t602 true t596 t597 t598 t599))))) = some r := H
    have A4 := Aside0.mk A40
    clear A40
    replace H := Option.bind_eq_some_iff.mp H
    obtain ⟨⟨t605, t606, t607, t608⟩, A50, H⟩ := H
    replace H : ((spec_Renamed.f k t596 t597 t598 t599 t602 t603).bind fun bt612 => ((laws_sameExpr.f k t605 t606 t607 t608 bt612.1 bt612.2.1 bt612.2.2.1 bt612.2.2.2).bind fun t618 => (if t618 = true then ((impl_Nodes.f k t605 t606 t607 t608).bind fun t619 => ((impl_Nodes.f k t596 t597 t598 t599).bind fun t620 => (laws_FnRenamed.j0 k t602 (t619 != t620) t596 t597 t598 t599))) else (laws_FnRenamed.j0 k t602 true t596 t597 t598 t599)))) = some r := H
    have A5 := Aside0.mk A50
    clear A50
    have HC6 := Aside0.mk H
    clear H
    go_enter Try.func8, Try.ntmps8
    go_upto_region 5 with (first | ((with_reducible refine gate_callee (f := 11) rfl ?_); refine goesL_ (some 9) rfl rfl Try.func11 (by kernel_rfl) rfl #[.slice A0 l0.length c0] rfl (by (try simp only [List.map_toArray, List.map_cons, List.map_nil]); first | done | rfl | (simp only [List.length_drop, List.length_take]; rfl)) ?_; (with_reducible refine (laws_big.calls _ _ l0 false _ ?side1 ?side2 A2.out).mono ?_); (case side1 => repeat (first | exact HR0.out | (with_reducible refine Kd.C_alloc ?_ _) | (with_reducible refine Kd.C_drewN ?_ _) | (with_reducible refine Kd.C_drew ?_))); (case side2 => exact HC0.out); rintro e w' ⟨rfl, ⟨nd, rfl⟩⟩; refine ⟨_, rfl, ?_⟩) | ((with_reducible refine gate_callee (f := 39) rfl ?_); refine goesL_ (some 12) rfl rfl Try.func39 (by kernel_rfl) rfl #[.slice A0 l0.length c0] rfl (by (try simp only [List.map_toArray, List.map_cons, List.map_nil]); first | done | rfl | (simp only [List.length_drop, List.length_take]; rfl)) ?_; (with_reducible refine (spec_DrawRenamed.calls k _ _ l0 t596 t597 t598 t599 t602 t603 _ ?side1 ?side2 A4.out).mono ?_); (case side1 => repeat (first | exact HR0.out | (with_reducible refine Kd.C_alloc ?_ _) | (with_reducible refine Kd.C_drewN ?_ _) | (with_reducible refine Kd.C_drew ?_))); (case side2 => exact HC0.out); rintro e w7 ⟨v600, rfl, ho0, hb⟩; refine ⟨_, rfl, ?_⟩; have n0_ := Aside0.mk (Kd.N_lower (Kd.N_mono (ok' := fun k_ => True) ho0 (fun k_ hk_ => trivial)) (below_size (by repeat (first | (with_reducible first | exact HB.out | apply below_alloc | apply pw_below_drewN | apply below_drew1) | exact HB.out)))); have n1_ := Aside0.mk (below_step (by repeat (first | (with_reducible first | exact HB.out | apply below_alloc | apply pw_below_drewN | apply below_drew1) | exact HB.out)) hb); clear HB; have HO601 := n0_; have HB := n1_; clear n0_ n1_; (try clear hb); (try clear hb2); (try clear hk); (try clear hi); (try clear ho0)) | ((with_reducible refine gate_dst (N := 3) rfl ?_); refine box_event ?hg (N := 3) ?hd (cs := #[.int .i64 0, .string (⟨#[]⟩ : ByteArray), .int .i64 0, .slice none 0 0]) (t := 40) ?hr ?_; (case hd => rfl); (case hg => rfl); (case hr => first | (go_simp; done) | (go_simp; rfl)); intro gb604 hg w8 hbox hb; have n0_ := Aside0.mk (Kd.N_below (Kd.N_elderB (by (with_reducible repeat (first | apply Kd.N_alloc | apply Kd.N_drewN | apply Kd.N_drew)); exact HO601.out) gb604 (Nat.le_of_eq hg.symm)) hb); have n1_ := Aside0.mk (below_step (by repeat (first | (with_reducible first | exact HB.out | apply below_alloc | apply pw_below_drewN | apply below_drew1) | exact HB.out)) hb); have n2_ := Aside0.mk (hbox); have n3_ := Aside0.mk ((by rw [hg]; exact (below_size (by repeat (first | (with_reducible first | exact HB.out | apply below_alloc | apply pw_below_drewN | apply below_drew1) | exact HB.out))) : w.heap.size ≤ gb604)); have n4_ := Aside0.mk ((by rw [hg]; exact (below_size (by repeat (first | (with_reducible first | exact HB.out | apply below_alloc | apply pw_below_drewN | apply below_drew1) | exact HB.out))) : w.heap.size ≤ gb604)); clear HO601; clear HB; have HO601 := n0_; have HB := n1_; have BK604 := n2_; have GW604 := n3_; have GE604 := n4_; clear n0_ n1_ n2_ n3_ n4_; clear hb hbox hg; have hcz9_0 : w8.cell? ⟨gb604, 0, none⟩ = some (.int .i64 0) := (blk_cell BK604.out 0).trans rfl; have hcz9_1 : w8.cell? ⟨gb604, 1, none⟩ = some (.string (⟨#[]⟩ : ByteArray)) := (blk_cell BK604.out 1).trans rfl; have hcz9_2 : w8.cell? ⟨gb604, 2, none⟩ = some (.int .i64 0) := (blk_cell BK604.out 2).trans rfl; have hcz9_3 : w8.cell? ⟨gb604, 3, none⟩ = some (.slice none 0 0) := (blk_cell BK604.out 3).trans rfl; have hfz9_0 := blk_frozen BK604.out 0; have hfz9_1 := blk_frozen BK604.out 1; have hfz9_2 := blk_frozen BK604.out 2; have hfz9_3 := blk_frozen BK604.out 3; obtain ⟨Ao10, co10, eo10⟩ := Kd.N_slice HO601.out; subst eo10) | ((with_reducible refine gate_callee (f := 35) rfl ?_); refine goesL_ (some 19) rfl rfl Try.func35 (by kernel_rfl) rfl #[.agg #[.int .i64 t596, .string t597, .int .i64 t598, .slice Ao10 t599.length co10], .string t602, .string t603] rfl (by (try simp only [List.map_toArray, List.map_cons, List.map_nil]); first | done | rfl | (simp only [List.length_drop, List.length_take]; rfl)) ?_; (with_reducible refine (impl_Renamed.calls k t596 t597 t598 _ _ t599 t602 t603 t605 t606 t607 t608 _ ?side1 ?side2 A5.out).mono ?_); (case side1 => refine (Kd.N_reads' (e := 40) (base := w.heap.size) (ok := fun k_ => (True ∧ k_ ≠ gb604)) (n := t599.length) (c := co10) ?_).2.2; exact (by (with_reducible repeat (first | apply Kd.N_alloc | apply Kd.N_drewN | apply Kd.N_drew)); exact (Kd.N_mono (Kd.N_far (p := ⟨gb604, 3, none⟩) (Kd.N_far (p := ⟨gb604, 2, none⟩) (Kd.N_far (p := ⟨gb604, 1, none⟩) (Kd.N_far (p := ⟨gb604, 0, none⟩) (Kd.N_mono HO601.out (fun k_ hk => (⟨hk, hk.2⟩ : _ ∧ k_ ≠ gb604))) (fun _ hk => hk.2) (.int .i64 t596)) (fun _ hk => hk.2) (.string t597)) (fun _ hk => hk.2) (.int .i64 t598)) (fun _ hk => hk.2) (.slice Ao10 t599.length co10)) (fun _ h_ => h_.1)))); (case side2 => exact (Kd.N_reads' HO601.out).2.1); rintro e w11 ⟨v609, rfl, ho0, hb⟩; refine ⟨_, rfl, ?_⟩; have n0_ := Aside0.mk (Kd.N_elder' (by (with_reducible repeat (first | apply Kd.N_alloc | apply Kd.N_drewN | apply Kd.N_drew)); exact (Kd.N_mono (Kd.N_far (p := ⟨gb604, 3, none⟩) (Kd.N_far (p := ⟨gb604, 2, none⟩) (Kd.N_far (p := ⟨gb604, 1, none⟩) (Kd.N_far (p := ⟨gb604, 0, none⟩) (Kd.N_mono HO601.out (fun k_ hk => (⟨hk, hk.2⟩ : _ ∧ k_ ≠ gb604))) (fun _ hk => hk.2) (.int .i64 t596)) (fun _ hk => hk.2) (.string t597)) (fun _ hk => hk.2) (.int .i64 t598)) (fun _ hk => hk.2) (.slice Ao10 t599.length co10)) (fun _ h_ => h_.1))) (by first | exact Kd.N_base ho0 | exact Kd.R_base ho0) hb); have n1_ := Aside0.mk (Kd.N_lower (Kd.N_mono (ok' := fun k_ => some k_ ≠ (.slice Ao10 t599.length co10 : Value).ownBlock ∧ k_ ≠ gb604) (Kd.R_N (Kd.R_bound ho0)) (fun k_ hk_ => ⟨(Kd.fresh' (Kd.N_lt (by (with_reducible repeat (first | apply Kd.N_alloc | apply Kd.N_drewN | apply Kd.N_drew)); exact (Kd.N_mono (Kd.N_far (p := ⟨gb604, 3, none⟩) (Kd.N_far (p := ⟨gb604, 2, none⟩) (Kd.N_far (p := ⟨gb604, 1, none⟩) (Kd.N_far (p := ⟨gb604, 0, none⟩) (Kd.N_mono HO601.out (fun k_ hk => (⟨hk, hk.2⟩ : _ ∧ k_ ≠ gb604))) (fun _ hk => hk.2) (.int .i64 t596)) (fun _ hk => hk.2) (.string t597)) (fun _ hk => hk.2) (.int .i64 t598)) (fun _ hk => hk.2) (.slice Ao10 t599.length co10)) (fun _ h_ => h_.1)))) k_ hk_.2.1), (Kd.freshB (g := gb604) (o := .cells #[.int .i64 t596, .string t597, .int .i64 t598, .slice Ao10 t599.length co10] 40 (0, 0)) (by (with_reducible repeat (first | refine blk_drewN ?_ _ | refine blk_drew ?_ | refine blk_alloc ?_ _)); refine blk_put (cs := #[.int .i64 t596, .string t597, .int .i64 t598, .slice none 0 0]) ?_ 3 _ rfl; (with_reducible repeat (first | refine blk_drewN ?_ _ | refine blk_drew ?_ | refine blk_alloc ?_ _)); refine blk_put (cs := #[.int .i64 t596, .string t597, .int .i64 0, .slice none 0 0]) ?_ 2 _ rfl; (with_reducible repeat (first | refine blk_drewN ?_ _ | refine blk_drew ?_ | refine blk_alloc ?_ _)); refine blk_put (cs := #[.int .i64 t596, .string (⟨#[]⟩ : ByteArray), .int .i64 0, .slice none 0 0]) ?_ 1 _ rfl; (with_reducible repeat (first | refine blk_drewN ?_ _ | refine blk_drew ?_ | refine blk_alloc ?_ _)); refine blk_put (cs := #[.int .i64 0, .string (⟨#[]⟩ : ByteArray), .int .i64 0, .slice none 0 0]) ?_ 0 _ rfl; (with_reducible repeat (first | refine blk_drewN ?_ _ | refine blk_drew ?_ | refine blk_alloc ?_ _)); exact BK604.out) k_ hk_.2.1)⟩)) (below_size (by repeat (first | (with_reducible first | exact HB.out | apply below_alloc | apply pw_below_drewN | apply below_drew1 | refine below_set ?_ GE604.out) | exact HB.out)))); have n2_ := Aside0.mk (blk_below (g := gb604) (o := .cells #[.int .i64 t596, .string t597, .int .i64 t598, .slice Ao10 t599.length co10] 40 (0, 0)) (by (with_reducible repeat (first | refine blk_drewN ?_ _ | refine blk_drew ?_ | refine blk_alloc ?_ _)); refine blk_put (cs := #[.int .i64 t596, .string t597, .int .i64 t598, .slice none 0 0]) ?_ 3 _ rfl; (with_reducible repeat (first | refine blk_drewN ?_ _ | refine blk_drew ?_ | refine blk_alloc ?_ _)); refine blk_put (cs := #[.int .i64 t596, .string t597, .int .i64 0, .slice none 0 0]) ?_ 2 _ rfl; (with_reducible repeat (first | refine blk_drewN ?_ _ | refine blk_drew ?_ | refine blk_alloc ?_ _)); refine blk_put (cs := #[.int .i64 t596, .string (⟨#[]⟩ : ByteArray), .int .i64 0, .slice none 0 0]) ?_ 1 _ rfl; (with_reducible repeat (first | refine blk_drewN ?_ _ | refine blk_drew ?_ | refine blk_alloc ?_ _)); refine blk_put (cs := #[.int .i64 0, .string (⟨#[]⟩ : ByteArray), .int .i64 0, .slice none 0 0]) ?_ 0 _ rfl; (with_reducible repeat (first | refine blk_drewN ?_ _ | refine blk_drew ?_ | refine blk_alloc ?_ _)); exact BK604.out) hb); have n3_ := Aside0.mk (below_step (by repeat (first | (with_reducible first | exact HB.out | apply below_alloc | apply pw_below_drewN | apply below_drew1 | refine below_set ?_ GE604.out) | exact HB.out)) hb); clear HO601; clear BK604; clear HB; have HO601 := n0_; have HO610 := n1_; have BK604 := n2_; have HB := n3_; clear n0_ n1_ n2_ n3_; (try clear hb); (try clear hb2); (try clear hk); (try clear hi); (try clear ho0)) | ((with_reducible refine gate_dst (N := 6) rfl ?_); refine box_event ?hg (N := 6) ?hd (cs := #[.int .i64 0, .string (⟨#[]⟩ : ByteArray), .int .i64 0, .slice none 0 0]) (t := 40) ?hr ?_; (case hd => rfl); (case hg => rfl); (case hr => first | (go_simp; done) | (go_simp; rfl)); intro gb611 hg w12 hbox hb; have n0_ := Aside0.mk (Kd.N_below (Kd.N_elderB (by (with_reducible repeat (first | apply Kd.N_alloc | apply Kd.N_drewN | apply Kd.N_drew)); exact HO601.out) gb611 (Nat.le_of_eq hg.symm)) hb); have n1_ := Aside0.mk (Kd.N_below (Kd.N_elderB (by (with_reducible repeat (first | apply Kd.N_alloc | apply Kd.N_drewN | apply Kd.N_drew)); exact HO610.out) gb611 (Nat.le_of_eq hg.symm)) hb); have n2_ := Aside0.mk (blk_below (g := gb604) (o := .cells #[.int .i64 t596, .string t597, .int .i64 t598, .slice Ao10 t599.length co10] 40 (0, 0)) (by (with_reducible repeat (first | refine blk_drewN ?_ _ | refine blk_drew ?_ | refine blk_alloc ?_ _)); exact BK604.out) hb); have n3_ := Aside0.mk (below_step (by repeat (first | (with_reducible first | exact HB.out | apply below_alloc | apply pw_below_drewN | apply below_drew1 | refine below_set ?_ GE604.out) | exact HB.out)) hb); have n4_ := Aside0.mk (hbox); have n5_ := Aside0.mk ((by rw [hg]; exact (below_size (by repeat (first | (with_reducible first | exact HB.out | apply below_alloc | apply pw_below_drewN | apply below_drew1 | refine below_set ?_ GE604.out) | exact HB.out))) : w.heap.size ≤ gb611)); have n6_ := Aside0.mk ((by rw [hg]; exact (below_size (by repeat (first | (with_reducible first | exact HB.out | apply below_alloc | apply pw_below_drewN | apply below_drew1 | refine below_set ?_ GE604.out) | exact HB.out))) : w.heap.size ≤ gb611)); have n7_ := Aside0.mk ((by rw [hg]; exact Nat.ne_of_lt (blk_lt (g := gb604) (o := .cells #[.int .i64 t596, .string t597, .int .i64 t598, .slice Ao10 t599.length co10] 40 (0, 0)) (by (with_reducible repeat (first | refine blk_drewN ?_ _ | refine blk_drew ?_ | refine blk_alloc ?_ _)); exact BK604.out)) : gb604 ≠ gb611)); have n8_ := Aside0.mk ((by rw [hg]; exact Nat.ne_of_gt (blk_lt (g := gb604) (o := .cells #[.int .i64 t596, .string t597, .int .i64 t598, .slice Ao10 t599.length co10] 40 (0, 0)) (by (with_reducible repeat (first | refine blk_drewN ?_ _ | refine blk_drew ?_ | refine blk_alloc ?_ _)); exact BK604.out)) : gb611 ≠ gb604)); clear HO601; clear HO610; clear BK604; clear HB; have HO601 := n0_; have HO610 := n1_; have BK604 := n2_; have HB := n3_; have BK611 := n4_; have GW611 := n5_; have GE611 := n6_; have NB604_611 := n7_; have NB611_604 := n8_; clear n0_ n1_ n2_ n3_ n4_ n5_ n6_ n7_ n8_; clear hb hbox hg; have hnb13 := NB611_604.out; have hnc13 := NB604_611.out; have hcz14_0 : w12.cell? ⟨gb611, 0, none⟩ = some (.int .i64 0) := (blk_cell BK611.out 0).trans rfl; have hcz14_1 : w12.cell? ⟨gb611, 1, none⟩ = some (.string (⟨#[]⟩ : ByteArray)) := (blk_cell BK611.out 1).trans rfl; have hcz14_2 : w12.cell? ⟨gb611, 2, none⟩ = some (.int .i64 0) := (blk_cell BK611.out 2).trans rfl; have hcz14_3 : w12.cell? ⟨gb611, 3, none⟩ = some (.slice none 0 0) := (blk_cell BK611.out 3).trans rfl; have hfz14_0 := blk_frozen BK611.out 0; have hfz14_1 := blk_frozen BK611.out 1; have hfz14_2 := blk_frozen BK611.out 2; have hfz14_3 := blk_frozen BK611.out 3; obtain ⟨Ao15, co15, eo15⟩ := Kd.N_slice HO610.out; subst eo15))
    (try simp only [Act.put, List.setIfInBounds_toArray, List.set_cons_zero, List.set_cons_succ])
    go_cut [33] (fun v33 wc => ∃ (kq : Nat) (x33_5 : Bool), v33 = .bool x33_5 ∧ Aside0 (laws_FnRenamed.j0 kq t602 x33_5 t596 t597 t598 t599 = some r) ∧ Aside0 (kq ≤ k) ∧ Aside0 (Kd.N k40 40 wc w.heap.size (fun k_ => some k_ ≠ ((.slice Ao15 t608.length co15) : Value).ownBlock ∧ k_ ≠ gb604 ∧ k_ ≠ gb611) (.slice Ao10 t599.length co10) t599) ∧ Aside0 (Kd.N k40 40 wc w.heap.size (fun k_ => some k_ ≠ ((.slice Ao10 t599.length co10) : Value).ownBlock ∧ k_ ≠ gb604 ∧ k_ ≠ gb611) (.slice Ao15 t608.length co15) t608) ∧ Aside0 (wc.heap[gb604]? = some (.cells #[.int .i64 t596, .string t597, .int .i64 t598, (.slice Ao10 t599.length co10)] 40 (0, 0))) ∧ Aside0 (wc.heap[gb611]? = some (.cells #[.int .i64 t605, .string t606, .int .i64 t607, (.slice Ao15 t608.length co15)] 40 (0, 0))) ∧ Aside0 (Below w.heap.size w wc))
    case first =>
      have H := HC6.out
      clear HC6
      replace H := Option.bind_eq_some_iff.mp H
      obtain ⟨⟨t612, t613, t614, t615⟩, A160, H⟩ := H
      replace H : ((laws_sameExpr.f k t605 t606 t607 t608 t612 t613 t614 t615).bind fun t618 => (if t618 = true then ((impl_Nodes.f k t605 t606 t607 t608).bind fun t619 => ((impl_Nodes.f k t596 t597 t598 t599).bind fun t620 => (laws_FnRenamed.j0 k t602 (t619 != t620) t596 t597 t598 t599))) else (laws_FnRenamed.j0 k t602 true t596 t597 t598 t599))) = some r := H
      have A16 := Aside0.mk A160
      clear A160
      replace H := Option.bind_eq_some_iff.mp H
      obtain ⟨t618, A170, H⟩ := H
      replace H : (if t618 = true then ((impl_Nodes.f k t605 t606 t607 t608).bind fun t619 => ((impl_Nodes.f k t596 t597 t598 t599).bind fun t620 => (laws_FnRenamed.j0 k t602 (t619 != t620) t596 t597 t598 t599))) else (laws_FnRenamed.j0 k t602 true t596 t597 t598 t599)) = some r := H
      have A17 := Aside0.mk A170
      clear A170
      by_cases c18 : t618 = true
      · subst c18
        have H1 : ((impl_Nodes.f k t605 t606 t607 t608).bind fun t619 => ((impl_Nodes.f k t596 t597 t598 t599).bind fun t620 => (laws_FnRenamed.j0 k t602 (t619 != t620) t596 t597 t598 t599))) = some r := by rw [if_pos rfl] at H; exact H
        clear H
        have H := H1
        clear H1
        replace H := Option.bind_eq_some_iff.mp H
        obtain ⟨t619, A190, H⟩ := H
        replace H : ((impl_Nodes.f k t596 t597 t598 t599).bind fun t620 => (laws_FnRenamed.j0 k t602 (t619 != t620) t596 t597 t598 t599)) = some r := H
        have A19 := Aside0.mk A190
        clear A190
        replace H := Option.bind_eq_some_iff.mp H
        obtain ⟨t620, A200, H⟩ := H
        replace H : (laws_FnRenamed.j0 k t602 (t619 != t620) t596 t597 t598 t599) = some r := H
        have A20 := Aside0.mk A200
        clear A200
        have H' := Aside0.mk H
        clear H
        try go_wp2
        have n0_ : Aside0 (Kd.N k40 40 ((((w12.setCell ⟨gb611, 0, none⟩ (.int .i64 t605)).setCell ⟨gb611, 1, none⟩ (.string t606)).setCell ⟨gb611, 2, none⟩ (.int .i64 t607)).setCell ⟨gb611, 3, none⟩ (.slice Ao15 t608.length co15)) w.heap.size (fun k_ => some k_ ≠ (.slice Ao15 t608.length co15 : Value).ownBlock ∧ k_ ≠ gb604 ∧ k_ ≠ gb611) (.slice Ao10 t599.length co10) t599) := ⟨by (with_reducible repeat (first | apply Kd.N_alloc | apply Kd.N_drewN | apply Kd.N_drew)); exact Kd.N_mono (Kd.N_far (p := ⟨gb611, 3, none⟩) (Kd.N_far (p := ⟨gb611, 2, none⟩) (Kd.N_far (p := ⟨gb611, 1, none⟩) (Kd.N_far (p := ⟨gb611, 0, none⟩) (Kd.N_mono HO601.out (fun k_ hk => (⟨hk, hk.2⟩ : _ ∧ k_ ≠ gb611))) (fun _ hk => hk.2) (.int .i64 t605)) (fun _ hk => hk.2) (.string t606)) (fun _ hk => hk.2) (.int .i64 t607)) (fun _ hk => hk.2) (.slice Ao15 t608.length co15)) (fun _ hk => ⟨hk.1.1.2, ⟨hk.1.1.1.2, hk.1.2⟩⟩)⟩
        have n1_ : Aside0 (Kd.N k40 40 ((((w12.setCell ⟨gb611, 0, none⟩ (.int .i64 t605)).setCell ⟨gb611, 1, none⟩ (.string t606)).setCell ⟨gb611, 2, none⟩ (.int .i64 t607)).setCell ⟨gb611, 3, none⟩ (.slice Ao15 t608.length co15)) w.heap.size (fun k_ => some k_ ≠ (.slice Ao10 t599.length co10 : Value).ownBlock ∧ k_ ≠ gb604 ∧ k_ ≠ gb611) (.slice Ao15 t608.length co15) t608) := ⟨by (with_reducible repeat (first | apply Kd.N_alloc | apply Kd.N_drewN | apply Kd.N_drew)); exact Kd.N_mono (Kd.N_far (p := ⟨gb611, 3, none⟩) (Kd.N_far (p := ⟨gb611, 2, none⟩) (Kd.N_far (p := ⟨gb611, 1, none⟩) (Kd.N_far (p := ⟨gb611, 0, none⟩) (Kd.N_mono HO610.out (fun k_ hk => (⟨hk, hk.2⟩ : _ ∧ k_ ≠ gb611))) (fun _ hk => hk.2) (.int .i64 t605)) (fun _ hk => hk.2) (.string t606)) (fun _ hk => hk.2) (.int .i64 t607)) (fun _ hk => hk.2) (.slice Ao15 t608.length co15)) (fun _ hk => ⟨hk.1.1.1, ⟨hk.1.1.2, hk.1.2⟩⟩)⟩
        have n2_ : Aside0 (((((w12.setCell ⟨gb611, 0, none⟩ (.int .i64 t605)).setCell ⟨gb611, 1, none⟩ (.string t606)).setCell ⟨gb611, 2, none⟩ (.int .i64 t607)).setCell ⟨gb611, 3, none⟩ (.slice Ao15 t608.length co15)).heap[gb604]? = some (.cells #[.int .i64 t596, .string t597, .int .i64 t598, .slice Ao10 t599.length co10] 40 (0, 0))) := ⟨by (with_reducible repeat (first | refine blk_drewN ?_ _ | refine blk_drew ?_ | refine blk_alloc ?_ _)); refine blk_far ?_ NB604_611.out _; (with_reducible repeat (first | refine blk_drewN ?_ _ | refine blk_drew ?_ | refine blk_alloc ?_ _)); refine blk_far ?_ NB604_611.out _; (with_reducible repeat (first | refine blk_drewN ?_ _ | refine blk_drew ?_ | refine blk_alloc ?_ _)); refine blk_far ?_ NB604_611.out _; (with_reducible repeat (first | refine blk_drewN ?_ _ | refine blk_drew ?_ | refine blk_alloc ?_ _)); refine blk_far ?_ NB604_611.out _; (with_reducible repeat (first | refine blk_drewN ?_ _ | refine blk_drew ?_ | refine blk_alloc ?_ _)); exact BK604.out⟩
        have n3_ : Aside0 (((((w12.setCell ⟨gb611, 0, none⟩ (.int .i64 t605)).setCell ⟨gb611, 1, none⟩ (.string t606)).setCell ⟨gb611, 2, none⟩ (.int .i64 t607)).setCell ⟨gb611, 3, none⟩ (.slice Ao15 t608.length co15)).heap[gb611]? = some (.cells #[.int .i64 t605, .string t606, .int .i64 t607, .slice Ao15 t608.length co15] 40 (0, 0))) := ⟨by (with_reducible repeat (first | refine blk_drewN ?_ _ | refine blk_drew ?_ | refine blk_alloc ?_ _)); refine blk_put (cs := #[.int .i64 t605, .string t606, .int .i64 t607, .slice none 0 0]) ?_ 3 _ rfl; (with_reducible repeat (first | refine blk_drewN ?_ _ | refine blk_drew ?_ | refine blk_alloc ?_ _)); refine blk_put (cs := #[.int .i64 t605, .string t606, .int .i64 0, .slice none 0 0]) ?_ 2 _ rfl; (with_reducible repeat (first | refine blk_drewN ?_ _ | refine blk_drew ?_ | refine blk_alloc ?_ _)); refine blk_put (cs := #[.int .i64 t605, .string (⟨#[]⟩ : ByteArray), .int .i64 0, .slice none 0 0]) ?_ 1 _ rfl; (with_reducible repeat (first | refine blk_drewN ?_ _ | refine blk_drew ?_ | refine blk_alloc ?_ _)); refine blk_put (cs := #[.int .i64 0, .string (⟨#[]⟩ : ByteArray), .int .i64 0, .slice none 0 0]) ?_ 0 _ rfl; (with_reducible repeat (first | refine blk_drewN ?_ _ | refine blk_drew ?_ | refine blk_alloc ?_ _)); exact BK611.out⟩
        have n4_ : Aside0 (Below w.heap.size w ((((w12.setCell ⟨gb611, 0, none⟩ (.int .i64 t605)).setCell ⟨gb611, 1, none⟩ (.string t606)).setCell ⟨gb611, 2, none⟩ (.int .i64 t607)).setCell ⟨gb611, 3, none⟩ (.slice Ao15 t608.length co15))) := ⟨by repeat (first | (with_reducible first | exact HB.out | apply below_alloc | apply pw_below_drewN | apply below_drew1 | refine below_set ?_ GE604.out | refine below_set ?_ GE611.out) | exact HB.out)⟩
        (try clear HO601)
        (try clear HO610)
        (try clear BK604)
        (try clear BK611)
        (try clear HB)
        generalize ((((w12.setCell ⟨gb611, 0, none⟩ (.int .i64 t605)).setCell ⟨gb611, 1, none⟩ (.string t606)).setCell ⟨gb611, 2, none⟩ (.int .i64 t607)).setCell ⟨gb611, 3, none⟩ (.slice Ao15 t608.length co15)) = w21 at n0_ n1_ n2_ n3_ n4_ ⊢
        have HO601 := n0_
        have HO610 := n1_
        have BK604 := n2_
        have BK611 := n3_
        have HB := n4_
        clear n0_ n1_ n2_ n3_ n4_
        have n0_ := Aside0.mk (Kd.N_drew HO601.out)
        have n1_ := Aside0.mk (Kd.N_drew HO610.out)
        have n2_ := Aside0.mk (blk_drew BK604.out)
        have n3_ := Aside0.mk (blk_drew BK611.out)
        have n4_ := Aside0.mk (below_drew1 HB.out)
        clear HO601
        clear HO610
        clear BK604
        clear BK611
        clear HB
        have HO601 := n0_
        have HO610 := n1_
        have BK604 := n2_
        have BK611 := n3_
        have HB := n4_
        clear n0_ n1_ n2_ n3_ n4_
        refine start_ (n := 14) (S := fun w' => w'.cell? ⟨gb611, 0, none⟩ = some (.int .i64 t605) ∧ w'.cell? ⟨gb611, 1, none⟩ = some (.string t606) ∧ w'.cell? ⟨gb611, 2, none⟩ = some (.int .i64 t607) ∧ w'.cell? ⟨gb611, 3, none⟩ = some (.slice Ao15 t608.length co15) ∧ w'.cell? ⟨gb604, 0, none⟩ = some (.int .i64 t596) ∧ w'.cell? ⟨gb604, 1, none⟩ = some (.string t597) ∧ w'.cell? ⟨gb604, 2, none⟩ = some (.int .i64 t598) ∧ w'.cell? ⟨gb604, 3, none⟩ = some (.slice Ao10 t599.length co10)) (ds := []) #[false, false, false, false, false, false, false, false, false, false, false, false, false, false] (by kernel_rfl) rfl rfl ⟨(blk_cell BK611.out 0).trans rfl, (blk_cell BK611.out 1).trans rfl, (blk_cell BK611.out 2).trans rfl, (blk_cell BK611.out 3).trans rfl, (blk_cell BK604.out 0).trans rfl, (blk_cell BK604.out 1).trans rfl, (blk_cell BK604.out 2).trans rfl, (blk_cell BK604.out 3).trans rfl⟩ (fun hHeld => ?_); refine with_tabW laws_FnRenamed.tab5 laws_FnRenamed.bits5 (fun HT_ HW_ => ?_)
        generalize w21.drew = w22 at HO601 HO610 BK604 BK611 HB hHeld ⊢
        refine pure_ (i := 2) (N := some 22) (v := ?_) (a' := ?_) #[false, false, true, false, false, false, false, false, false, false, false, false, false, false] rfl rfl (any_of HT_.out (by kernel_rfl)) (fun _ _ _ h => h) (Or.inl ⟨by rfl, ?_⟩) ?_ ?_
        rotate_left
        · intro w'
          go_simp
          with_reducible rfl
        rotate_left
        · simp only [Act.put, List.setIfInBounds_toArray, List.set_cons_zero, List.set_cons_succ, i64_w, i32_w]
          rfl
        refine pure_ (i := 3) (N := some 23) (v := ?_) (a' := ?_) #[false, false, true, true, false, false, false, false, false, false, false, false, false, false] rfl rfl (any_of HT_.out (by kernel_rfl)) (fun _ _ _ h => h) (Or.inl ⟨by rfl, ?_⟩) ?_ ?_
        rotate_left
        · intro w'
          go_simp
          with_reducible rfl
        rotate_left
        · simp only [Act.put, List.setIfInBounds_toArray, List.set_cons_zero, List.set_cons_succ, i64_w, i32_w]
          rfl
        refine take_ (i := 0) (N := some 20) (v := ?_) (a' := ?_) #[true, false, true, true, false, false, false, false, false, false, false, false, false, false] rfl rfl (take_ofW HT_.out HW_.out (by kernel_rfl)) (fun _ _ _ h => h) (Or.inl ⟨by rfl, ?_⟩) hHeld ?_ ?_
        rotate_left
        · rintro w' ⟨s0, s1, s2, s3, s4, s5, s6, s7⟩
          go_simp
          with_reducible rfl
        rotate_left
        · simp only [Act.put, List.setIfInBounds_toArray, List.set_cons_zero, List.set_cons_succ, i64_w, i32_w]
          rfl
        refine take_ (i := 1) (N := some 21) (v := ?_) (a' := ?_) #[true, true, true, true, false, false, false, false, false, false, false, false, false, false] rfl rfl (take_ofW HT_.out HW_.out (by kernel_rfl)) (fun _ _ _ h => h) (Or.inl ⟨by rfl, ?_⟩) hHeld ?_ ?_
        rotate_left
        · rintro w' ⟨s0, s1, s2, s3, s4, s5, s6, s7⟩
          go_simp
          with_reducible rfl
        rotate_left
        · simp only [Act.put, List.setIfInBounds_toArray, List.set_cons_zero, List.set_cons_succ, i64_w, i32_w]
          rfl
        refine one_ (i := 4) (N := some 24) #[true, true, true, true, true, false, false, false, false, false, false, false, false, false] rfl rfl (one_of HT_.out (by kernel_rfl)) (by decide) (fun K hK => ?_)
        refine goes_ Try.func33 (by kernel_rfl) rfl #[.agg #[.int .i64 t596, .string t597, .int .i64 t598, .slice Ao10 t599.length co10], .string t602, .string t603] (by rfl) rfl rfl (by (try simp only [List.map_toArray, List.map_cons, List.map_nil]); first | done | rfl | (simp only [List.length_drop, List.length_take]; rfl)) ?_
        with_reducible refine (spec_Renamed.calls k t596 t597 t598 _ _ t599 t602 t603 t612 t613 t614 t615 _ ?side1 ?side2 A16.out).mono ?_
        (case side1 => repeat (first | exact (Kd.N_reads' HO601.out).2.2 | (with_reducible refine Kd.C_alloc ?_ _) | (with_reducible refine Kd.C_drewN ?_ _) | (with_reducible refine Kd.C_drew ?_)))
        (case side2 => exact (Kd.N_reads' HO601.out).2.1)
        rintro e w23 ⟨v616, rfl, ho0, hb⟩
        refine ⟨_, rfl, ?_⟩
        have n0_ := Aside0.mk (Kd.N_elder' (by (with_reducible repeat (first | apply Kd.N_alloc | apply Kd.N_drewN | apply Kd.N_drew)); exact HO601.out) (by first | exact Kd.N_base ho0 | exact Kd.R_base ho0) hb)
        have n1_ := Aside0.mk (Kd.N_elder' (by (with_reducible repeat (first | apply Kd.N_alloc | apply Kd.N_drewN | apply Kd.N_drew)); exact HO610.out) (by first | exact Kd.N_base ho0 | exact Kd.R_base ho0) hb)
        have n2_ := Aside0.mk (Kd.N_lower (Kd.N_mono (ok' := fun k_ => some k_ ≠ (.slice Ao10 t599.length co10 : Value).ownBlock ∧ some k_ ≠ (.slice Ao15 t608.length co15 : Value).ownBlock ∧ k_ ≠ gb604 ∧ k_ ≠ gb611) (Kd.R_N (Kd.R_bound ho0)) (fun k_ hk_ => ⟨(Kd.fresh' (Kd.N_lt (by (with_reducible repeat (first | apply Kd.N_alloc | apply Kd.N_drewN | apply Kd.N_drew)); exact HO601.out)) k_ hk_.2.1), (Kd.fresh' (Kd.N_lt (by (with_reducible repeat (first | apply Kd.N_alloc | apply Kd.N_drewN | apply Kd.N_drew)); exact HO610.out)) k_ hk_.2.1), (Kd.freshB (g := gb604) (o := .cells #[.int .i64 t596, .string t597, .int .i64 t598, .slice Ao10 t599.length co10] 40 (0, 0)) (by (with_reducible repeat (first | refine blk_drewN ?_ _ | refine blk_drew ?_ | refine blk_alloc ?_ _)); exact BK604.out) k_ hk_.2.1), (Kd.freshB (g := gb611) (o := .cells #[.int .i64 t605, .string t606, .int .i64 t607, .slice Ao15 t608.length co15] 40 (0, 0)) (by (with_reducible repeat (first | refine blk_drewN ?_ _ | refine blk_drew ?_ | refine blk_alloc ?_ _)); exact BK611.out) k_ hk_.2.1)⟩)) (below_size (by repeat (first | (with_reducible first | exact HB.out | apply below_alloc | apply pw_below_drewN | apply below_drew1 | refine below_set ?_ GE604.out | refine below_set ?_ GE611.out) | exact HB.out))))
        have n3_ := Aside0.mk (blk_below (g := gb604) (o := .cells #[.int .i64 t596, .string t597, .int .i64 t598, .slice Ao10 t599.length co10] 40 (0, 0)) (by (with_reducible repeat (first | refine blk_drewN ?_ _ | refine blk_drew ?_ | refine blk_alloc ?_ _)); exact BK604.out) hb)
        have n4_ := Aside0.mk (blk_below (g := gb611) (o := .cells #[.int .i64 t605, .string t606, .int .i64 t607, .slice Ao15 t608.length co15] 40 (0, 0)) (by (with_reducible repeat (first | refine blk_drewN ?_ _ | refine blk_drew ?_ | refine blk_alloc ?_ _)); exact BK611.out) hb)
        have n5_ := Aside0.mk (below_step (by repeat (first | (with_reducible first | exact HB.out | apply below_alloc | apply pw_below_drewN | apply below_drew1 | refine below_set ?_ GE604.out | refine below_set ?_ GE611.out) | exact HB.out)) hb)
        clear HO601
        clear HO610
        clear BK604
        clear BK611
        clear HB
        have HO601 := n0_
        have HO610 := n1_
        have HO617 := n2_
        have BK604 := n3_
        have BK611 := n4_
        have HB := n5_
        clear n0_ n1_ n2_ n3_ n4_ n5_
        (try clear hb)
        (try clear hb2)
        (try clear hk)
        (try clear hi)
        (try clear ho0)
        obtain ⟨Ao24, co24, eo24⟩ := Kd.N_slice HO617.out
        (first | subst eo24 | (injection eo24 with f1_ f2_ f3_; have f4_ := f1_.symm; have f5_ := f3_.symm; clear f1_ f2_ f3_; subst f4_; subst f5_))
        refine hK.out _ _ ⟨(blk_cell BK611.out 0).trans rfl, (blk_cell BK611.out 1).trans rfl, (blk_cell BK611.out 2).trans rfl, (blk_cell BK611.out 3).trans rfl, (blk_cell BK604.out 0).trans rfl, (blk_cell BK604.out 1).trans rfl, (blk_cell BK604.out 2).trans rfl, (blk_cell BK604.out 3).trans rfl⟩ (fun hHeld => ?_)
        clear hK K
        refine norm_ (a' := ?_) ?_ ?_
        rotate_left
        · show Act.put _ (some 24) _ = _
          simp only [Act.put, List.setIfInBounds_toArray, List.set_cons_zero, List.set_cons_succ, i64_w, i32_w]
          rfl
        refine one_ (i := 5) (N := some 25) #[true, true, true, true, true, true, false, false, false, false, false, false, false, false] rfl rfl (one_of HT_.out (by kernel_rfl)) (by decide) (fun K hK => ?_)
        refine goes_ Try.func40 (by kernel_rfl) rfl #[.agg #[.int .i64 t605, .string t606, .int .i64 t607, .slice Ao15 t608.length co15], .agg #[.int .i64 t612, .string t613, .int .i64 t614, .slice Ao24 t615.length co24]] (by rfl) rfl rfl (by (try simp only [List.map_toArray, List.map_cons, List.map_nil]); first | done | rfl | (simp only [List.length_drop, List.length_take]; rfl)) ?_
        with_reducible refine (laws_sameExpr.calls k t605 t606 t607 _ _ t608 t612 t613 t614 _ _ t615 true _ ?side1 ?side2 ?side3 ?side4 A17.out).mono ?_
        (case side1 => repeat (first | exact (Kd.N_reads' HO610.out).2.2 | (with_reducible refine Kd.C_alloc ?_ _) | (with_reducible refine Kd.C_drewN ?_ _) | (with_reducible refine Kd.C_drew ?_)))
        (case side2 => exact (Kd.N_reads' HO610.out).2.1)
        (case side3 => repeat (first | exact (Kd.N_reads' HO617.out).2.2 | (with_reducible refine Kd.C_alloc ?_ _) | (with_reducible refine Kd.C_drewN ?_ _) | (with_reducible refine Kd.C_drew ?_)))
        (case side4 => exact (Kd.N_reads' HO617.out).2.1)
        rintro e w25 ⟨rfl, hb⟩
        refine ⟨_, rfl, ?_⟩
        have n0_ := Aside0.mk (Kd.N_below (by (with_reducible repeat (first | apply Kd.N_alloc | apply Kd.N_drewN | apply Kd.N_drew)); exact HO601.out) hb)
        have n1_ := Aside0.mk (Kd.N_below (by (with_reducible repeat (first | apply Kd.N_alloc | apply Kd.N_drewN | apply Kd.N_drew)); exact HO610.out) hb)
        have n2_ := Aside0.mk (Kd.N_below (by (with_reducible repeat (first | apply Kd.N_alloc | apply Kd.N_drewN | apply Kd.N_drew)); exact HO617.out) hb)
        have n3_ := Aside0.mk (blk_below (g := gb604) (o := .cells #[.int .i64 t596, .string t597, .int .i64 t598, .slice Ao10 t599.length co10] 40 (0, 0)) (by (with_reducible repeat (first | refine blk_drewN ?_ _ | refine blk_drew ?_ | refine blk_alloc ?_ _)); exact BK604.out) hb)
        have n4_ := Aside0.mk (blk_below (g := gb611) (o := .cells #[.int .i64 t605, .string t606, .int .i64 t607, .slice Ao15 t608.length co15] 40 (0, 0)) (by (with_reducible repeat (first | refine blk_drewN ?_ _ | refine blk_drew ?_ | refine blk_alloc ?_ _)); exact BK611.out) hb)
        have n5_ := Aside0.mk (below_step (by repeat (first | (with_reducible first | exact HB.out | apply below_alloc | apply pw_below_drewN | apply below_drew1 | refine below_set ?_ GE604.out | refine below_set ?_ GE611.out) | exact HB.out)) hb)
        clear HO601
        clear HO610
        clear HO617
        clear BK604
        clear BK611
        clear HB
        have HO601 := n0_
        have HO610 := n1_
        have HO617 := n2_
        have BK604 := n3_
        have BK611 := n4_
        have HB := n5_
        clear n0_ n1_ n2_ n3_ n4_ n5_
        (try clear hb)
        (try clear hb2)
        (try clear hk)
        (try clear hi)
        refine hK.out _ _ ⟨(blk_cell BK611.out 0).trans rfl, (blk_cell BK611.out 1).trans rfl, (blk_cell BK611.out 2).trans rfl, (blk_cell BK611.out 3).trans rfl, (blk_cell BK604.out 0).trans rfl, (blk_cell BK604.out 1).trans rfl, (blk_cell BK604.out 2).trans rfl, (blk_cell BK604.out 3).trans rfl⟩ (fun hHeld => ?_)
        clear hK K
        refine norm_ (a' := ?_) ?_ ?_
        rotate_left
        · show Act.put _ (some 25) _ = _
          simp only [Act.put, List.setIfInBounds_toArray, List.set_cons_zero, List.set_cons_succ, i64_w, i32_w]
          rfl
        refine pure_ (i := 6) (N := some 26) (v := ?_) (a' := ?_) #[true, true, true, true, true, true, true, false, false, false, false, false, false, false] rfl rfl (any_of HT_.out (by kernel_rfl)) (fun _ _ _ h => h) (Or.inl ⟨by rfl, ?_⟩) ?_ ?_
        rotate_left
        · intro w'
          go_simp
          with_reducible rfl
        rotate_left
        · simp only [Act.put, List.setIfInBounds_toArray, List.set_cons_zero, List.set_cons_succ, i64_w, i32_w]
          rfl
        refine pure_ (i := 7) (N := some 27) (v := ?_) (a' := ?_) #[true, true, true, true, true, true, true, true, false, false, false, false, false, false] rfl rfl (any_of HT_.out (by kernel_rfl)) (fun _ _ _ h => h) (Or.inl ⟨by rfl, ?_⟩) ?_ ?_
        rotate_left
        · intro w'
          go_simp
          with_reducible rfl
        rotate_left
        · simp only [Act.put, List.setIfInBounds_toArray, List.set_cons_zero, List.set_cons_succ, i64_w, i32_w]
          rfl
        refine take_ (i := 8) (N := some 28) (v := ?_) (a' := ?_) #[true, true, true, true, true, true, true, true, true, false, false, false, false, false] rfl rfl (take_ofW HT_.out HW_.out (by kernel_rfl)) (fun _ _ _ h => h) (Or.inl ⟨by rfl, ?_⟩) hHeld ?_ ?_
        rotate_left
        · rintro w' ⟨s0, s1, s2, s3, s4, s5, s6, s7⟩
          go_simp
          with_reducible rfl
        rotate_left
        · simp only [Act.put, List.setIfInBounds_toArray, List.set_cons_zero, List.set_cons_succ, i64_w, i32_w]
          rfl
        refine take_ (i := 10) (N := some 30) (v := ?_) (a' := ?_) #[true, true, true, true, true, true, true, true, true, false, true, false, false, false] rfl rfl (take_ofW HT_.out HW_.out (by kernel_rfl)) (fun _ _ _ h => h) (Or.inl ⟨by rfl, ?_⟩) hHeld ?_ ?_
        rotate_left
        · rintro w' ⟨s0, s1, s2, s3, s4, s5, s6, s7⟩
          go_simp
          with_reducible rfl
        rotate_left
        · simp only [Act.put, List.setIfInBounds_toArray, List.set_cons_zero, List.set_cons_succ, i64_w, i32_w]
          rfl
        refine one_ (i := 9) (N := some 29) #[true, true, true, true, true, true, true, true, true, true, true, false, false, false] rfl rfl (one_of HT_.out (by kernel_rfl)) (by decide) (fun K hK => ?_)
        refine goes_ Try.func41 (by kernel_rfl) rfl #[.agg #[.int .i64 t605, .string t606, .int .i64 t607, .slice Ao15 t608.length co15]] (by rfl) rfl rfl (by (try simp only [List.map_toArray, List.map_cons, List.map_nil]); first | done | rfl | (simp only [List.length_drop, List.length_take]; rfl)) ?_
        with_reducible refine (impl_Nodes.calls k t605 t606 t607 _ _ t608 t619 _ ?side1 ?side2 A19.out).mono ?_
        (case side1 => repeat (first | exact (Kd.N_reads' HO610.out).2.2 | (with_reducible refine Kd.C_alloc ?_ _) | (with_reducible refine Kd.C_drewN ?_ _) | (with_reducible refine Kd.C_drew ?_)))
        (case side2 => exact (Kd.N_reads' HO610.out).2.1)
        rintro e w26 ⟨rfl, hb⟩
        refine ⟨_, rfl, ?_⟩
        have n0_ := Aside0.mk (Kd.N_below (by (with_reducible repeat (first | apply Kd.N_alloc | apply Kd.N_drewN | apply Kd.N_drew)); exact HO601.out) hb)
        have n1_ := Aside0.mk (Kd.N_below (by (with_reducible repeat (first | apply Kd.N_alloc | apply Kd.N_drewN | apply Kd.N_drew)); exact HO610.out) hb)
        have n2_ := Aside0.mk (Kd.N_below (by (with_reducible repeat (first | apply Kd.N_alloc | apply Kd.N_drewN | apply Kd.N_drew)); exact HO617.out) hb)
        have n3_ := Aside0.mk (blk_below (g := gb604) (o := .cells #[.int .i64 t596, .string t597, .int .i64 t598, .slice Ao10 t599.length co10] 40 (0, 0)) (by (with_reducible repeat (first | refine blk_drewN ?_ _ | refine blk_drew ?_ | refine blk_alloc ?_ _)); exact BK604.out) hb)
        have n4_ := Aside0.mk (blk_below (g := gb611) (o := .cells #[.int .i64 t605, .string t606, .int .i64 t607, .slice Ao15 t608.length co15] 40 (0, 0)) (by (with_reducible repeat (first | refine blk_drewN ?_ _ | refine blk_drew ?_ | refine blk_alloc ?_ _)); exact BK611.out) hb)
        have n5_ := Aside0.mk (below_step (by repeat (first | (with_reducible first | exact HB.out | apply below_alloc | apply pw_below_drewN | apply below_drew1 | refine below_set ?_ GE604.out | refine below_set ?_ GE611.out) | exact HB.out)) hb)
        clear HO601
        clear HO610
        clear HO617
        clear BK604
        clear BK611
        clear HB
        have HO601 := n0_
        have HO610 := n1_
        have HO617 := n2_
        have BK604 := n3_
        have BK611 := n4_
        have HB := n5_
        clear n0_ n1_ n2_ n3_ n4_ n5_
        (try clear hb)
        (try clear hb2)
        (try clear hk)
        (try clear hi)
        refine hK.out _ _ ⟨(blk_cell BK611.out 0).trans rfl, (blk_cell BK611.out 1).trans rfl, (blk_cell BK611.out 2).trans rfl, (blk_cell BK611.out 3).trans rfl, (blk_cell BK604.out 0).trans rfl, (blk_cell BK604.out 1).trans rfl, (blk_cell BK604.out 2).trans rfl, (blk_cell BK604.out 3).trans rfl⟩ (fun hHeld => ?_)
        clear hK K
        refine norm_ (a' := ?_) ?_ ?_
        rotate_left
        · show Act.put _ (some 29) _ = _
          simp only [Act.put, List.setIfInBounds_toArray, List.set_cons_zero, List.set_cons_succ, i64_w, i32_w]
          rfl
        refine one_ (i := 11) (N := some 31) #[true, true, true, true, true, true, true, true, true, true, true, true, false, false] rfl rfl (one_of HT_.out (by kernel_rfl)) (by decide) (fun K hK => ?_)
        refine goes_ Try.func41 (by kernel_rfl) rfl #[.agg #[.int .i64 t596, .string t597, .int .i64 t598, .slice Ao10 t599.length co10]] (by rfl) rfl rfl (by (try simp only [List.map_toArray, List.map_cons, List.map_nil]); first | done | rfl | (simp only [List.length_drop, List.length_take]; rfl)) ?_
        with_reducible refine (impl_Nodes.calls k t596 t597 t598 _ _ t599 t620 _ ?side1 ?side2 A20.out).mono ?_
        (case side1 => repeat (first | exact (Kd.N_reads' HO601.out).2.2 | (with_reducible refine Kd.C_alloc ?_ _) | (with_reducible refine Kd.C_drewN ?_ _) | (with_reducible refine Kd.C_drew ?_)))
        (case side2 => exact (Kd.N_reads' HO601.out).2.1)
        rintro e w27 ⟨rfl, hb⟩
        refine ⟨_, rfl, ?_⟩
        have n0_ := Aside0.mk (Kd.N_below (by (with_reducible repeat (first | apply Kd.N_alloc | apply Kd.N_drewN | apply Kd.N_drew)); exact HO601.out) hb)
        have n1_ := Aside0.mk (Kd.N_below (by (with_reducible repeat (first | apply Kd.N_alloc | apply Kd.N_drewN | apply Kd.N_drew)); exact HO610.out) hb)
        have n2_ := Aside0.mk (Kd.N_below (by (with_reducible repeat (first | apply Kd.N_alloc | apply Kd.N_drewN | apply Kd.N_drew)); exact HO617.out) hb)
        have n3_ := Aside0.mk (blk_below (g := gb604) (o := .cells #[.int .i64 t596, .string t597, .int .i64 t598, .slice Ao10 t599.length co10] 40 (0, 0)) (by (with_reducible repeat (first | refine blk_drewN ?_ _ | refine blk_drew ?_ | refine blk_alloc ?_ _)); exact BK604.out) hb)
        have n4_ := Aside0.mk (blk_below (g := gb611) (o := .cells #[.int .i64 t605, .string t606, .int .i64 t607, .slice Ao15 t608.length co15] 40 (0, 0)) (by (with_reducible repeat (first | refine blk_drewN ?_ _ | refine blk_drew ?_ | refine blk_alloc ?_ _)); exact BK611.out) hb)
        have n5_ := Aside0.mk (below_step (by repeat (first | (with_reducible first | exact HB.out | apply below_alloc | apply pw_below_drewN | apply below_drew1 | refine below_set ?_ GE604.out | refine below_set ?_ GE611.out) | exact HB.out)) hb)
        clear HO601
        clear HO610
        clear HO617
        clear BK604
        clear BK611
        clear HB
        have HO601 := n0_
        have HO610 := n1_
        have HO617 := n2_
        have BK604 := n3_
        have BK611 := n4_
        have HB := n5_
        clear n0_ n1_ n2_ n3_ n4_ n5_
        (try clear hb)
        (try clear hb2)
        (try clear hk)
        (try clear hi)
        refine hK.out _ _ ⟨(blk_cell BK611.out 0).trans rfl, (blk_cell BK611.out 1).trans rfl, (blk_cell BK611.out 2).trans rfl, (blk_cell BK611.out 3).trans rfl, (blk_cell BK604.out 0).trans rfl, (blk_cell BK604.out 1).trans rfl, (blk_cell BK604.out 2).trans rfl, (blk_cell BK604.out 3).trans rfl⟩ (fun hHeld => ?_)
        clear hK K
        refine norm_ (a' := ?_) ?_ ?_
        rotate_left
        · show Act.put _ (some 31) _ = _
          simp only [Act.put, List.setIfInBounds_toArray, List.set_cons_zero, List.set_cons_succ, i64_w, i32_w]
          rfl
        refine pure_ (i := 12) (N := some 32) (v := ?_) (a' := ?_) #[true, true, true, true, true, true, true, true, true, true, true, true, true, false] rfl rfl (any_of HT_.out (by kernel_rfl)) (fun _ _ _ h => h) (Or.inl ⟨by rfl, ?_⟩) ?_ ?_
        rotate_left
        · intro w'
          go_simp
          with_reducible rfl
        rotate_left
        · simp only [Act.put, List.setIfInBounds_toArray, List.set_cons_zero, List.set_cons_succ, i64_w, i32_w]
          rfl
        refine pure_ (i := 13) (N := some 33) (v := ?_) (a' := ?_) #[true, true, true, true, true, true, true, true, true, true, true, true, true, true] rfl rfl (any_of HT_.out (by kernel_rfl)) (fun _ _ _ h => h) (Or.inl ⟨by rfl, ?_⟩) ?_ ?_
        rotate_left
        · intro w'
          go_simp
          with_reducible rfl
        rotate_left
        · simp only [Act.put, List.setIfInBounds_toArray, List.set_cons_zero, List.set_cons_succ, i64_w, i32_w]
          rfl
        refine done_ (done_of HT_.out (by kernel_rfl)) ?_
        try go_wp2
        go_meet
        case rel => exact ⟨_, ((t619 != t620)), (by first | rfl | (simp; done) | (simp [*]; done)), H', ⟨by first | omega | exact Nat.le_refl _⟩, ⟨by (with_reducible repeat (first | apply Kd.N_alloc | apply Kd.N_drewN | apply Kd.N_drew)); exact Kd.N_mono HO601.out (fun _ hk => ⟨hk.1.1, ⟨hk.1.2.1, hk.1.2.2⟩⟩)⟩, ⟨by (with_reducible repeat (first | apply Kd.N_alloc | apply Kd.N_drewN | apply Kd.N_drew)); exact Kd.N_mono HO610.out (fun _ hk => ⟨hk.1.1, ⟨hk.1.2.1, hk.1.2.2⟩⟩)⟩, ⟨by (with_reducible repeat (first | refine blk_drewN ?_ _ | refine blk_drew ?_ | refine blk_alloc ?_ _)); exact BK604.out⟩, ⟨by (with_reducible repeat (first | refine blk_drewN ?_ _ | refine blk_drew ?_ | refine blk_alloc ?_ _)); exact BK611.out⟩, ⟨by repeat (first | (with_reducible first | exact HB.out | apply below_alloc | apply pw_below_drewN | apply below_drew1 | refine below_set ?_ GE604.out | refine below_set ?_ GE611.out) | exact HB.out)⟩⟩
      · replace c18 := Bool.eq_false_iff.mpr c18
        subst c18
        have H1 : (laws_FnRenamed.j0 k t602 true t596 t597 t598 t599) = some r := by rw [if_neg (show ¬ (false = true) by decide)] at H; exact H
        clear H
        have H := H1
        clear H1
        have H' := Aside0.mk H
        clear H
        try go_wp2
        have n0_ : Aside0 (Kd.N k40 40 ((((w12.setCell ⟨gb611, 0, none⟩ (.int .i64 t605)).setCell ⟨gb611, 1, none⟩ (.string t606)).setCell ⟨gb611, 2, none⟩ (.int .i64 t607)).setCell ⟨gb611, 3, none⟩ (.slice Ao15 t608.length co15)) w.heap.size (fun k_ => some k_ ≠ (.slice Ao15 t608.length co15 : Value).ownBlock ∧ k_ ≠ gb604 ∧ k_ ≠ gb611) (.slice Ao10 t599.length co10) t599) := ⟨by (with_reducible repeat (first | apply Kd.N_alloc | apply Kd.N_drewN | apply Kd.N_drew)); exact Kd.N_mono (Kd.N_far (p := ⟨gb611, 3, none⟩) (Kd.N_far (p := ⟨gb611, 2, none⟩) (Kd.N_far (p := ⟨gb611, 1, none⟩) (Kd.N_far (p := ⟨gb611, 0, none⟩) (Kd.N_mono HO601.out (fun k_ hk => (⟨hk, hk.2⟩ : _ ∧ k_ ≠ gb611))) (fun _ hk => hk.2) (.int .i64 t605)) (fun _ hk => hk.2) (.string t606)) (fun _ hk => hk.2) (.int .i64 t607)) (fun _ hk => hk.2) (.slice Ao15 t608.length co15)) (fun _ hk => ⟨hk.1.1.2, ⟨hk.1.1.1.2, hk.1.2⟩⟩)⟩
        have n1_ : Aside0 (Kd.N k40 40 ((((w12.setCell ⟨gb611, 0, none⟩ (.int .i64 t605)).setCell ⟨gb611, 1, none⟩ (.string t606)).setCell ⟨gb611, 2, none⟩ (.int .i64 t607)).setCell ⟨gb611, 3, none⟩ (.slice Ao15 t608.length co15)) w.heap.size (fun k_ => some k_ ≠ (.slice Ao10 t599.length co10 : Value).ownBlock ∧ k_ ≠ gb604 ∧ k_ ≠ gb611) (.slice Ao15 t608.length co15) t608) := ⟨by (with_reducible repeat (first | apply Kd.N_alloc | apply Kd.N_drewN | apply Kd.N_drew)); exact Kd.N_mono (Kd.N_far (p := ⟨gb611, 3, none⟩) (Kd.N_far (p := ⟨gb611, 2, none⟩) (Kd.N_far (p := ⟨gb611, 1, none⟩) (Kd.N_far (p := ⟨gb611, 0, none⟩) (Kd.N_mono HO610.out (fun k_ hk => (⟨hk, hk.2⟩ : _ ∧ k_ ≠ gb611))) (fun _ hk => hk.2) (.int .i64 t605)) (fun _ hk => hk.2) (.string t606)) (fun _ hk => hk.2) (.int .i64 t607)) (fun _ hk => hk.2) (.slice Ao15 t608.length co15)) (fun _ hk => ⟨hk.1.1.1, ⟨hk.1.1.2, hk.1.2⟩⟩)⟩
        have n2_ : Aside0 (((((w12.setCell ⟨gb611, 0, none⟩ (.int .i64 t605)).setCell ⟨gb611, 1, none⟩ (.string t606)).setCell ⟨gb611, 2, none⟩ (.int .i64 t607)).setCell ⟨gb611, 3, none⟩ (.slice Ao15 t608.length co15)).heap[gb604]? = some (.cells #[.int .i64 t596, .string t597, .int .i64 t598, .slice Ao10 t599.length co10] 40 (0, 0))) := ⟨by (with_reducible repeat (first | refine blk_drewN ?_ _ | refine blk_drew ?_ | refine blk_alloc ?_ _)); refine blk_far ?_ NB604_611.out _; (with_reducible repeat (first | refine blk_drewN ?_ _ | refine blk_drew ?_ | refine blk_alloc ?_ _)); refine blk_far ?_ NB604_611.out _; (with_reducible repeat (first | refine blk_drewN ?_ _ | refine blk_drew ?_ | refine blk_alloc ?_ _)); refine blk_far ?_ NB604_611.out _; (with_reducible repeat (first | refine blk_drewN ?_ _ | refine blk_drew ?_ | refine blk_alloc ?_ _)); refine blk_far ?_ NB604_611.out _; (with_reducible repeat (first | refine blk_drewN ?_ _ | refine blk_drew ?_ | refine blk_alloc ?_ _)); exact BK604.out⟩
        have n3_ : Aside0 (((((w12.setCell ⟨gb611, 0, none⟩ (.int .i64 t605)).setCell ⟨gb611, 1, none⟩ (.string t606)).setCell ⟨gb611, 2, none⟩ (.int .i64 t607)).setCell ⟨gb611, 3, none⟩ (.slice Ao15 t608.length co15)).heap[gb611]? = some (.cells #[.int .i64 t605, .string t606, .int .i64 t607, .slice Ao15 t608.length co15] 40 (0, 0))) := ⟨by (with_reducible repeat (first | refine blk_drewN ?_ _ | refine blk_drew ?_ | refine blk_alloc ?_ _)); refine blk_put (cs := #[.int .i64 t605, .string t606, .int .i64 t607, .slice none 0 0]) ?_ 3 _ rfl; (with_reducible repeat (first | refine blk_drewN ?_ _ | refine blk_drew ?_ | refine blk_alloc ?_ _)); refine blk_put (cs := #[.int .i64 t605, .string t606, .int .i64 0, .slice none 0 0]) ?_ 2 _ rfl; (with_reducible repeat (first | refine blk_drewN ?_ _ | refine blk_drew ?_ | refine blk_alloc ?_ _)); refine blk_put (cs := #[.int .i64 t605, .string (⟨#[]⟩ : ByteArray), .int .i64 0, .slice none 0 0]) ?_ 1 _ rfl; (with_reducible repeat (first | refine blk_drewN ?_ _ | refine blk_drew ?_ | refine blk_alloc ?_ _)); refine blk_put (cs := #[.int .i64 0, .string (⟨#[]⟩ : ByteArray), .int .i64 0, .slice none 0 0]) ?_ 0 _ rfl; (with_reducible repeat (first | refine blk_drewN ?_ _ | refine blk_drew ?_ | refine blk_alloc ?_ _)); exact BK611.out⟩
        have n4_ : Aside0 (Below w.heap.size w ((((w12.setCell ⟨gb611, 0, none⟩ (.int .i64 t605)).setCell ⟨gb611, 1, none⟩ (.string t606)).setCell ⟨gb611, 2, none⟩ (.int .i64 t607)).setCell ⟨gb611, 3, none⟩ (.slice Ao15 t608.length co15))) := ⟨by repeat (first | (with_reducible first | exact HB.out | apply below_alloc | apply pw_below_drewN | apply below_drew1 | refine below_set ?_ GE604.out | refine below_set ?_ GE611.out) | exact HB.out)⟩
        (try clear HO601)
        (try clear HO610)
        (try clear BK604)
        (try clear BK611)
        (try clear HB)
        generalize ((((w12.setCell ⟨gb611, 0, none⟩ (.int .i64 t605)).setCell ⟨gb611, 1, none⟩ (.string t606)).setCell ⟨gb611, 2, none⟩ (.int .i64 t607)).setCell ⟨gb611, 3, none⟩ (.slice Ao15 t608.length co15)) = w28 at n0_ n1_ n2_ n3_ n4_ ⊢
        have HO601 := n0_
        have HO610 := n1_
        have BK604 := n2_
        have BK611 := n3_
        have HB := n4_
        clear n0_ n1_ n2_ n3_ n4_
        have n0_ := Aside0.mk (Kd.N_drew HO601.out)
        have n1_ := Aside0.mk (Kd.N_drew HO610.out)
        have n2_ := Aside0.mk (blk_drew BK604.out)
        have n3_ := Aside0.mk (blk_drew BK611.out)
        have n4_ := Aside0.mk (below_drew1 HB.out)
        clear HO601
        clear HO610
        clear BK604
        clear BK611
        clear HB
        have HO601 := n0_
        have HO610 := n1_
        have BK604 := n2_
        have BK611 := n3_
        have HB := n4_
        clear n0_ n1_ n2_ n3_ n4_
        refine start_ (n := 14) (S := fun w' => w'.cell? ⟨gb611, 0, none⟩ = some (.int .i64 t605) ∧ w'.cell? ⟨gb611, 1, none⟩ = some (.string t606) ∧ w'.cell? ⟨gb611, 2, none⟩ = some (.int .i64 t607) ∧ w'.cell? ⟨gb611, 3, none⟩ = some (.slice Ao15 t608.length co15) ∧ w'.cell? ⟨gb604, 0, none⟩ = some (.int .i64 t596) ∧ w'.cell? ⟨gb604, 1, none⟩ = some (.string t597) ∧ w'.cell? ⟨gb604, 2, none⟩ = some (.int .i64 t598) ∧ w'.cell? ⟨gb604, 3, none⟩ = some (.slice Ao10 t599.length co10)) (ds := []) #[false, false, false, false, false, false, false, false, false, false, false, false, false, false] (by kernel_rfl) rfl rfl ⟨(blk_cell BK611.out 0).trans rfl, (blk_cell BK611.out 1).trans rfl, (blk_cell BK611.out 2).trans rfl, (blk_cell BK611.out 3).trans rfl, (blk_cell BK604.out 0).trans rfl, (blk_cell BK604.out 1).trans rfl, (blk_cell BK604.out 2).trans rfl, (blk_cell BK604.out 3).trans rfl⟩ (fun hHeld => ?_); refine with_tabW laws_FnRenamed.tab5 laws_FnRenamed.bits5 (fun HT_ HW_ => ?_)
        generalize w28.drew = w29 at HO601 HO610 BK604 BK611 HB hHeld ⊢
        refine pure_ (i := 2) (N := some 22) (v := ?_) (a' := ?_) #[false, false, true, false, false, false, false, false, false, false, false, false, false, false] rfl rfl (any_of HT_.out (by kernel_rfl)) (fun _ _ _ h => h) (Or.inl ⟨by rfl, ?_⟩) ?_ ?_
        rotate_left
        · intro w'
          go_simp
          with_reducible rfl
        rotate_left
        · simp only [Act.put, List.setIfInBounds_toArray, List.set_cons_zero, List.set_cons_succ, i64_w, i32_w]
          rfl
        refine pure_ (i := 3) (N := some 23) (v := ?_) (a' := ?_) #[false, false, true, true, false, false, false, false, false, false, false, false, false, false] rfl rfl (any_of HT_.out (by kernel_rfl)) (fun _ _ _ h => h) (Or.inl ⟨by rfl, ?_⟩) ?_ ?_
        rotate_left
        · intro w'
          go_simp
          with_reducible rfl
        rotate_left
        · simp only [Act.put, List.setIfInBounds_toArray, List.set_cons_zero, List.set_cons_succ, i64_w, i32_w]
          rfl
        refine take_ (i := 0) (N := some 20) (v := ?_) (a' := ?_) #[true, false, true, true, false, false, false, false, false, false, false, false, false, false] rfl rfl (take_ofW HT_.out HW_.out (by kernel_rfl)) (fun _ _ _ h => h) (Or.inl ⟨by rfl, ?_⟩) hHeld ?_ ?_
        rotate_left
        · rintro w' ⟨s0, s1, s2, s3, s4, s5, s6, s7⟩
          go_simp
          with_reducible rfl
        rotate_left
        · simp only [Act.put, List.setIfInBounds_toArray, List.set_cons_zero, List.set_cons_succ, i64_w, i32_w]
          rfl
        refine take_ (i := 1) (N := some 21) (v := ?_) (a' := ?_) #[true, true, true, true, false, false, false, false, false, false, false, false, false, false] rfl rfl (take_ofW HT_.out HW_.out (by kernel_rfl)) (fun _ _ _ h => h) (Or.inl ⟨by rfl, ?_⟩) hHeld ?_ ?_
        rotate_left
        · rintro w' ⟨s0, s1, s2, s3, s4, s5, s6, s7⟩
          go_simp
          with_reducible rfl
        rotate_left
        · simp only [Act.put, List.setIfInBounds_toArray, List.set_cons_zero, List.set_cons_succ, i64_w, i32_w]
          rfl
        refine one_ (i := 4) (N := some 24) #[true, true, true, true, true, false, false, false, false, false, false, false, false, false] rfl rfl (one_of HT_.out (by kernel_rfl)) (by decide) (fun K hK => ?_)
        refine goes_ Try.func33 (by kernel_rfl) rfl #[.agg #[.int .i64 t596, .string t597, .int .i64 t598, .slice Ao10 t599.length co10], .string t602, .string t603] (by rfl) rfl rfl (by (try simp only [List.map_toArray, List.map_cons, List.map_nil]); first | done | rfl | (simp only [List.length_drop, List.length_take]; rfl)) ?_
        with_reducible refine (spec_Renamed.calls k t596 t597 t598 _ _ t599 t602 t603 t612 t613 t614 t615 _ ?side1 ?side2 A16.out).mono ?_
        (case side1 => repeat (first | exact (Kd.N_reads' HO601.out).2.2 | (with_reducible refine Kd.C_alloc ?_ _) | (with_reducible refine Kd.C_drewN ?_ _) | (with_reducible refine Kd.C_drew ?_)))
        (case side2 => exact (Kd.N_reads' HO601.out).2.1)
        rintro e w30 ⟨v616, rfl, ho0, hb⟩
        refine ⟨_, rfl, ?_⟩
        have n0_ := Aside0.mk (Kd.N_elder' (by (with_reducible repeat (first | apply Kd.N_alloc | apply Kd.N_drewN | apply Kd.N_drew)); exact HO601.out) (by first | exact Kd.N_base ho0 | exact Kd.R_base ho0) hb)
        have n1_ := Aside0.mk (Kd.N_elder' (by (with_reducible repeat (first | apply Kd.N_alloc | apply Kd.N_drewN | apply Kd.N_drew)); exact HO610.out) (by first | exact Kd.N_base ho0 | exact Kd.R_base ho0) hb)
        have n2_ := Aside0.mk (Kd.N_lower (Kd.N_mono (ok' := fun k_ => some k_ ≠ (.slice Ao10 t599.length co10 : Value).ownBlock ∧ some k_ ≠ (.slice Ao15 t608.length co15 : Value).ownBlock ∧ k_ ≠ gb604 ∧ k_ ≠ gb611) (Kd.R_N (Kd.R_bound ho0)) (fun k_ hk_ => ⟨(Kd.fresh' (Kd.N_lt (by (with_reducible repeat (first | apply Kd.N_alloc | apply Kd.N_drewN | apply Kd.N_drew)); exact HO601.out)) k_ hk_.2.1), (Kd.fresh' (Kd.N_lt (by (with_reducible repeat (first | apply Kd.N_alloc | apply Kd.N_drewN | apply Kd.N_drew)); exact HO610.out)) k_ hk_.2.1), (Kd.freshB (g := gb604) (o := .cells #[.int .i64 t596, .string t597, .int .i64 t598, .slice Ao10 t599.length co10] 40 (0, 0)) (by (with_reducible repeat (first | refine blk_drewN ?_ _ | refine blk_drew ?_ | refine blk_alloc ?_ _)); exact BK604.out) k_ hk_.2.1), (Kd.freshB (g := gb611) (o := .cells #[.int .i64 t605, .string t606, .int .i64 t607, .slice Ao15 t608.length co15] 40 (0, 0)) (by (with_reducible repeat (first | refine blk_drewN ?_ _ | refine blk_drew ?_ | refine blk_alloc ?_ _)); exact BK611.out) k_ hk_.2.1)⟩)) (below_size (by repeat (first | (with_reducible first | exact HB.out | apply below_alloc | apply pw_below_drewN | apply below_drew1 | refine below_set ?_ GE604.out | refine below_set ?_ GE611.out) | exact HB.out))))
        have n3_ := Aside0.mk (blk_below (g := gb604) (o := .cells #[.int .i64 t596, .string t597, .int .i64 t598, .slice Ao10 t599.length co10] 40 (0, 0)) (by (with_reducible repeat (first | refine blk_drewN ?_ _ | refine blk_drew ?_ | refine blk_alloc ?_ _)); exact BK604.out) hb)
        have n4_ := Aside0.mk (blk_below (g := gb611) (o := .cells #[.int .i64 t605, .string t606, .int .i64 t607, .slice Ao15 t608.length co15] 40 (0, 0)) (by (with_reducible repeat (first | refine blk_drewN ?_ _ | refine blk_drew ?_ | refine blk_alloc ?_ _)); exact BK611.out) hb)
        have n5_ := Aside0.mk (below_step (by repeat (first | (with_reducible first | exact HB.out | apply below_alloc | apply pw_below_drewN | apply below_drew1 | refine below_set ?_ GE604.out | refine below_set ?_ GE611.out) | exact HB.out)) hb)
        clear HO601
        clear HO610
        clear BK604
        clear BK611
        clear HB
        have HO601 := n0_
        have HO610 := n1_
        have HO617 := n2_
        have BK604 := n3_
        have BK611 := n4_
        have HB := n5_
        clear n0_ n1_ n2_ n3_ n4_ n5_
        (try clear hb)
        (try clear hb2)
        (try clear hk)
        (try clear hi)
        (try clear ho0)
        obtain ⟨Ao31, co31, eo31⟩ := Kd.N_slice HO617.out
        (first | subst eo31 | (injection eo31 with f1_ f2_ f3_; have f4_ := f1_.symm; have f5_ := f3_.symm; clear f1_ f2_ f3_; subst f4_; subst f5_))
        refine hK.out _ _ ⟨(blk_cell BK611.out 0).trans rfl, (blk_cell BK611.out 1).trans rfl, (blk_cell BK611.out 2).trans rfl, (blk_cell BK611.out 3).trans rfl, (blk_cell BK604.out 0).trans rfl, (blk_cell BK604.out 1).trans rfl, (blk_cell BK604.out 2).trans rfl, (blk_cell BK604.out 3).trans rfl⟩ (fun hHeld => ?_)
        clear hK K
        refine norm_ (a' := ?_) ?_ ?_
        rotate_left
        · show Act.put _ (some 24) _ = _
          simp only [Act.put, List.setIfInBounds_toArray, List.set_cons_zero, List.set_cons_succ, i64_w, i32_w]
          rfl
        refine one_ (i := 5) (N := some 25) #[true, true, true, true, true, true, false, false, false, false, false, false, false, false] rfl rfl (one_of HT_.out (by kernel_rfl)) (by decide) (fun K hK => ?_)
        refine goes_ Try.func40 (by kernel_rfl) rfl #[.agg #[.int .i64 t605, .string t606, .int .i64 t607, .slice Ao15 t608.length co15], .agg #[.int .i64 t612, .string t613, .int .i64 t614, .slice Ao31 t615.length co31]] (by rfl) rfl rfl (by (try simp only [List.map_toArray, List.map_cons, List.map_nil]); first | done | rfl | (simp only [List.length_drop, List.length_take]; rfl)) ?_
        with_reducible refine (laws_sameExpr.calls k t605 t606 t607 _ _ t608 t612 t613 t614 _ _ t615 false _ ?side1 ?side2 ?side3 ?side4 A17.out).mono ?_
        (case side1 => repeat (first | exact (Kd.N_reads' HO610.out).2.2 | (with_reducible refine Kd.C_alloc ?_ _) | (with_reducible refine Kd.C_drewN ?_ _) | (with_reducible refine Kd.C_drew ?_)))
        (case side2 => exact (Kd.N_reads' HO610.out).2.1)
        (case side3 => repeat (first | exact (Kd.N_reads' HO617.out).2.2 | (with_reducible refine Kd.C_alloc ?_ _) | (with_reducible refine Kd.C_drewN ?_ _) | (with_reducible refine Kd.C_drew ?_)))
        (case side4 => exact (Kd.N_reads' HO617.out).2.1)
        rintro e w32 ⟨rfl, hb⟩
        refine ⟨_, rfl, ?_⟩
        have n0_ := Aside0.mk (Kd.N_below (by (with_reducible repeat (first | apply Kd.N_alloc | apply Kd.N_drewN | apply Kd.N_drew)); exact HO601.out) hb)
        have n1_ := Aside0.mk (Kd.N_below (by (with_reducible repeat (first | apply Kd.N_alloc | apply Kd.N_drewN | apply Kd.N_drew)); exact HO610.out) hb)
        have n2_ := Aside0.mk (Kd.N_below (by (with_reducible repeat (first | apply Kd.N_alloc | apply Kd.N_drewN | apply Kd.N_drew)); exact HO617.out) hb)
        have n3_ := Aside0.mk (blk_below (g := gb604) (o := .cells #[.int .i64 t596, .string t597, .int .i64 t598, .slice Ao10 t599.length co10] 40 (0, 0)) (by (with_reducible repeat (first | refine blk_drewN ?_ _ | refine blk_drew ?_ | refine blk_alloc ?_ _)); exact BK604.out) hb)
        have n4_ := Aside0.mk (blk_below (g := gb611) (o := .cells #[.int .i64 t605, .string t606, .int .i64 t607, .slice Ao15 t608.length co15] 40 (0, 0)) (by (with_reducible repeat (first | refine blk_drewN ?_ _ | refine blk_drew ?_ | refine blk_alloc ?_ _)); exact BK611.out) hb)
        have n5_ := Aside0.mk (below_step (by repeat (first | (with_reducible first | exact HB.out | apply below_alloc | apply pw_below_drewN | apply below_drew1 | refine below_set ?_ GE604.out | refine below_set ?_ GE611.out) | exact HB.out)) hb)
        clear HO601
        clear HO610
        clear HO617
        clear BK604
        clear BK611
        clear HB
        have HO601 := n0_
        have HO610 := n1_
        have HO617 := n2_
        have BK604 := n3_
        have BK611 := n4_
        have HB := n5_
        clear n0_ n1_ n2_ n3_ n4_ n5_
        (try clear hb)
        (try clear hb2)
        (try clear hk)
        (try clear hi)
        refine hK.out _ _ ⟨(blk_cell BK611.out 0).trans rfl, (blk_cell BK611.out 1).trans rfl, (blk_cell BK611.out 2).trans rfl, (blk_cell BK611.out 3).trans rfl, (blk_cell BK604.out 0).trans rfl, (blk_cell BK604.out 1).trans rfl, (blk_cell BK604.out 2).trans rfl, (blk_cell BK604.out 3).trans rfl⟩ (fun hHeld => ?_)
        clear hK K
        refine norm_ (a' := ?_) ?_ ?_
        rotate_left
        · show Act.put _ (some 25) _ = _
          simp only [Act.put, List.setIfInBounds_toArray, List.set_cons_zero, List.set_cons_succ, i64_w, i32_w]
          rfl
        refine pure_ (i := 6) (N := some 26) (v := ?_) (a' := ?_) #[true, true, true, true, true, true, true, false, false, false, false, false, false, false] rfl rfl (any_of HT_.out (by kernel_rfl)) (fun _ _ _ h => h) (Or.inl ⟨by rfl, ?_⟩) ?_ ?_
        rotate_left
        · intro w'
          go_simp
          with_reducible rfl
        rotate_left
        · simp only [Act.put, List.setIfInBounds_toArray, List.set_cons_zero, List.set_cons_succ, i64_w, i32_w]
          rfl
        refine pure_ (i := 7) (N := some 27) (v := ?_) (a' := ?_) #[true, true, true, true, true, true, true, true, false, false, false, false, false, false] rfl rfl (any_of HT_.out (by kernel_rfl)) (fun _ _ _ h => h) (Or.inl ⟨by rfl, ?_⟩) ?_ ?_
        rotate_left
        · intro w'
          go_simp
          with_reducible rfl
        rotate_left
        · simp only [Act.put, List.setIfInBounds_toArray, List.set_cons_zero, List.set_cons_succ, i64_w, i32_w]
          rfl
        refine pure_ (i := 8) (N := some 28) (v := undef) (a' := ?_) #[true, true, true, true, true, true, true, true, true, false, false, false, false, false] rfl rfl (any_of HT_.out (by kernel_rfl)) (fun _ _ _ h => h) (Or.inr ⟨by rfl, rfl⟩) ?_ ?_
        rotate_left
        · simp only [Act.put, List.setIfInBounds_toArray, List.set_cons_zero, List.set_cons_succ, i64_w, i32_w]
          rfl
        refine pure_ (i := 9) (N := some 29) (v := undef) (a' := ?_) #[true, true, true, true, true, true, true, true, true, true, false, false, false, false] rfl rfl (any_of HT_.out (by kernel_rfl)) (fun _ _ _ h => h) (Or.inr ⟨by rfl, rfl⟩) ?_ ?_
        rotate_left
        · simp only [Act.put, List.setIfInBounds_toArray, List.set_cons_zero, List.set_cons_succ, i64_w, i32_w]
          rfl
        refine pure_ (i := 10) (N := some 30) (v := undef) (a' := ?_) #[true, true, true, true, true, true, true, true, true, true, true, false, false, false] rfl rfl (any_of HT_.out (by kernel_rfl)) (fun _ _ _ h => h) (Or.inr ⟨by rfl, rfl⟩) ?_ ?_
        rotate_left
        · simp only [Act.put, List.setIfInBounds_toArray, List.set_cons_zero, List.set_cons_succ, i64_w, i32_w]
          rfl
        refine pure_ (i := 11) (N := some 31) (v := undef) (a' := ?_) #[true, true, true, true, true, true, true, true, true, true, true, true, false, false] rfl rfl (any_of HT_.out (by kernel_rfl)) (fun _ _ _ h => h) (Or.inr ⟨by rfl, rfl⟩) ?_ ?_
        rotate_left
        · simp only [Act.put, List.setIfInBounds_toArray, List.set_cons_zero, List.set_cons_succ, i64_w, i32_w]
          rfl
        refine pure_ (i := 12) (N := some 32) (v := undef) (a' := ?_) #[true, true, true, true, true, true, true, true, true, true, true, true, true, false] rfl rfl (any_of HT_.out (by kernel_rfl)) (fun _ _ _ h => h) (Or.inr ⟨by rfl, rfl⟩) ?_ ?_
        rotate_left
        · simp only [Act.put, List.setIfInBounds_toArray, List.set_cons_zero, List.set_cons_succ, i64_w, i32_w]
          rfl
        refine pure_ (i := 13) (N := some 33) (v := ?_) (a' := ?_) #[true, true, true, true, true, true, true, true, true, true, true, true, true, true] rfl rfl (any_of HT_.out (by kernel_rfl)) (fun _ _ _ h => h) (Or.inl ⟨by rfl, ?_⟩) ?_ ?_
        rotate_left
        · intro w'
          go_simp
          with_reducible rfl
        rotate_left
        · simp only [Act.put, List.setIfInBounds_toArray, List.set_cons_zero, List.set_cons_succ, i64_w, i32_w]
          rfl
        refine done_ (done_of HT_.out (by kernel_rfl)) ?_
        try go_wp2
        go_meet
        case rel => exact ⟨_, (true), (by first | rfl | (simp; done) | (simp [*]; done)), H', ⟨by first | omega | exact Nat.le_refl _⟩, ⟨by (with_reducible repeat (first | apply Kd.N_alloc | apply Kd.N_drewN | apply Kd.N_drew)); exact Kd.N_mono HO601.out (fun _ hk => ⟨hk.1.1, ⟨hk.1.2.1, hk.1.2.2⟩⟩)⟩, ⟨by (with_reducible repeat (first | apply Kd.N_alloc | apply Kd.N_drewN | apply Kd.N_drew)); exact Kd.N_mono HO610.out (fun _ hk => ⟨hk.1.1, ⟨hk.1.2.1, hk.1.2.2⟩⟩)⟩, ⟨by (with_reducible repeat (first | refine blk_drewN ?_ _ | refine blk_drew ?_ | refine blk_alloc ?_ _)); exact BK604.out⟩, ⟨by (with_reducible repeat (first | refine blk_drewN ?_ _ | refine blk_drew ?_ | refine blk_alloc ?_ _)); exact BK611.out⟩, ⟨by repeat (first | (with_reducible first | exact HB.out | apply below_alloc | apply pw_below_drewN | apply below_drew1 | refine below_set ?_ GE604.out | refine below_set ?_ GE611.out) | exact HB.out)⟩⟩
    case rest =>
      clear HC6
      try clear c1
      try clear p2
      try clear c3
      try clear c4
      try clear c8
      try clear c11
      try clear c13
      try clear c18
      try clear hcz14_0
      try clear hcz14_1
      try clear hcz14_2
      try clear hcz14_3
      try clear hcz9_0
      try clear hcz9_1
      try clear hcz9_2
      try clear hcz9_3
      try clear hfz14_0
      try clear hfz14_1
      try clear hfz14_2
      try clear hfz14_3
      try clear hfz9_0
      try clear hfz9_1
      try clear hfz9_2
      try clear hfz9_3
      obtain ⟨kq, x33_5, rfl, HA, HJ5, HO_605003, HO_612003, BK604, BK611, HB⟩ := hcut
      cases kq with
      | zero => exact absurd HA.out (by simp [laws_FnRenamed.j0])
      | succ kj5 =>
        have H := HA.out
        clear HA
        simp only [laws_FnRenamed.j0] at H
        by_cases c33 : x33_5 = true
        · subst c33
          have H1 : (some false) = some r := by rw [if_pos rfl] at H; exact H
          clear H
          have H := H1
          clear H1
          obtain rfl := Option.some.inj H
          go_wp2
          go_ret
          exact ⟨by first | rfl | (simp [errW_none, errW_some] <;> rfl) | (simp [*, errW_none, errW_some] <;> rfl), by repeat (first | (with_reducible first | exact HB.out | apply below_alloc | apply pw_below_drewN | apply below_drew1 | refine below_set ?_ GE604.out | refine below_set ?_ GE611.out) | exact HB.out)⟩
        · replace c33 := Bool.eq_false_iff.mpr c33
          subst c33
          have H1 : ((impl_Renamed.f kj5 t596 t597 t598 t599 t602 (⟨#[102, 114, 101, 115, 104, 32, 111, 110, 101]⟩ : ByteArray)).bind fun bt621 => ((impl_Renamed.f kj5 bt621.1 bt621.2.1 bt621.2.2.1 bt621.2.2.2 (⟨#[102, 114, 101, 115, 104, 32, 111, 110, 101]⟩ : ByteArray) t602).bind fun bt628 => ((laws_sameExpr.f kj5 bt628.1 bt628.2.1 bt628.2.2.1 bt628.2.2.2 t596 t597 t598 t599).bind fun t634 => (if t634 = true then ((impl_Columns.f kj5 bt621.1 bt621.2.1 bt621.2.2.1 bt621.2.2.2).bind fun t635 => ((spec_Has.f kj5 t635 t602).bind fun t638 => (if t638 = true then (some false) else ((impl_Renamed.f kj5 t596 t597 t598 t599 t602 t602).bind fun bt639 => ((laws_sameExpr.f kj5 bt639.1 bt639.2.1 bt639.2.2.1 bt639.2.2.2 t596 t597 t598 t599).bind fun t645 => (some t645)))))) else (some false))))) = some r := by rw [if_neg (show ¬ (false = true) by decide)] at H; exact H
          clear H
          have H := H1
          clear H1
          replace H := Option.bind_eq_some_iff.mp H
          obtain ⟨⟨t621, t622, t623, t624⟩, A340, H⟩ := H
          replace H : ((impl_Renamed.f kj5 t621 t622 t623 t624 (⟨#[102, 114, 101, 115, 104, 32, 111, 110, 101]⟩ : ByteArray) t602).bind fun bt628 => ((laws_sameExpr.f kj5 bt628.1 bt628.2.1 bt628.2.2.1 bt628.2.2.2 t596 t597 t598 t599).bind fun t634 => (if t634 = true then ((impl_Columns.f kj5 t621 t622 t623 t624).bind fun t635 => ((spec_Has.f kj5 t635 t602).bind fun t638 => (if t638 = true then (some false) else ((impl_Renamed.f kj5 t596 t597 t598 t599 t602 t602).bind fun bt639 => ((laws_sameExpr.f kj5 bt639.1 bt639.2.1 bt639.2.2.1 bt639.2.2.2 t596 t597 t598 t599).bind fun t645 => (some t645)))))) else (some false)))) = some r := H
          have A34 := Aside0.mk A340
          clear A340
          replace H := Option.bind_eq_some_iff.mp H
          obtain ⟨⟨t628, t629, t630, t631⟩, A350, H⟩ := H
          replace H : ((laws_sameExpr.f kj5 t628 t629 t630 t631 t596 t597 t598 t599).bind fun t634 => (if t634 = true then ((impl_Columns.f kj5 t621 t622 t623 t624).bind fun t635 => ((spec_Has.f kj5 t635 t602).bind fun t638 => (if t638 = true then (some false) else ((impl_Renamed.f kj5 t596 t597 t598 t599 t602 t602).bind fun bt639 => ((laws_sameExpr.f kj5 bt639.1 bt639.2.1 bt639.2.2.1 bt639.2.2.2 t596 t597 t598 t599).bind fun t645 => (some t645)))))) else (some false))) = some r := H
          have A35 := Aside0.mk A350
          clear A350
          replace H := Option.bind_eq_some_iff.mp H
          obtain ⟨t634, A360, H⟩ := H
          replace H : (if t634 = true then ((impl_Columns.f kj5 t621 t622 t623 t624).bind fun t635 => ((spec_Has.f kj5 t635 t602).bind fun t638 => (if t638 = true then (some false) else ((impl_Renamed.f kj5 t596 t597 t598 t599 t602 t602).bind fun bt639 => ((laws_sameExpr.f kj5 bt639.1 bt639.2.1 bt639.2.2.1 bt639.2.2.2 t596 t597 t598 t599).bind fun t645 => (some t645)))))) else (some false)) = some r := H
          have A36 := Aside0.mk A360
          clear A360
          by_cases c37 : t634 = true
          · subst c37
            have H1 : ((impl_Columns.f kj5 t621 t622 t623 t624).bind fun t635 => ((spec_Has.f kj5 t635 t602).bind fun t638 => (if t638 = true then (some false) else ((impl_Renamed.f kj5 t596 t597 t598 t599 t602 t602).bind fun bt639 => ((laws_sameExpr.f kj5 bt639.1 bt639.2.1 bt639.2.2.1 bt639.2.2.2 t596 t597 t598 t599).bind fun t645 => (some t645)))))) = some r := by rw [if_pos rfl] at H; exact H
            clear H
            have H := H1
            clear H1
            replace H := Option.bind_eq_some_iff.mp H
            obtain ⟨t635, A380, H⟩ := H
            replace H : ((spec_Has.f kj5 t635 t602).bind fun t638 => (if t638 = true then (some false) else ((impl_Renamed.f kj5 t596 t597 t598 t599 t602 t602).bind fun bt639 => ((laws_sameExpr.f kj5 bt639.1 bt639.2.1 bt639.2.2.1 bt639.2.2.2 t596 t597 t598 t599).bind fun t645 => (some t645))))) = some r := H
            have A38 := Aside0.mk A380
            clear A380
            replace H := Option.bind_eq_some_iff.mp H
            obtain ⟨t638, A390, H⟩ := H
            replace H : (if t638 = true then (some false) else ((impl_Renamed.f kj5 t596 t597 t598 t599 t602 t602).bind fun bt639 => ((laws_sameExpr.f kj5 bt639.1 bt639.2.1 bt639.2.2.1 bt639.2.2.2 t596 t597 t598 t599).bind fun t645 => (some t645)))) = some r := H
            have A39 := Aside0.mk A390
            clear A390
            by_cases c40 : t638 = true
            · subst c40
              have H1 : (some false) = some r := by rw [if_pos rfl] at H; exact H
              clear H
              have H := H1
              clear H1
              obtain rfl := Option.some.inj H
              have hnb41 := NB604_611.out
              have hnc41 := NB611_604.out
              have hcz42_0 : wc.cell? ⟨gb604, 0, none⟩ = some (.int .i64 t596) := (blk_cell BK604.out 0).trans rfl
              have hcz42_1 : wc.cell? ⟨gb604, 1, none⟩ = some (.string t597) := (blk_cell BK604.out 1).trans rfl
              have hcz42_2 : wc.cell? ⟨gb604, 2, none⟩ = some (.int .i64 t598) := (blk_cell BK604.out 2).trans rfl
              have hcz42_3 : wc.cell? ⟨gb604, 3, none⟩ = some (.slice Ao10 t599.length co10) := (blk_cell BK604.out 3).trans rfl
              have hfz42_0 := blk_frozen BK604.out 0
              have hfz42_1 := blk_frozen BK604.out 1
              have hfz42_2 := blk_frozen BK604.out 2
              have hfz42_3 := blk_frozen BK604.out 3
              try go_wp2_with (first | ((with_reducible refine gate_callee (f := 35) rfl ?_); refine goesL_ (some 36) rfl rfl Try.func35 (by kernel_rfl) rfl #[.agg #[.int .i64 t596, .string t597, .int .i64 t598, .slice Ao10 t599.length co10], .string t602, .string (⟨#[102, 114, 101, 115, 104, 32, 111, 110, 101]⟩ : ByteArray)] rfl (by (try simp only [List.map_toArray, List.map_cons, List.map_nil]); first | done | rfl | (simp only [List.length_drop, List.length_take]; rfl)) ?_; (with_reducible refine (impl_Renamed.calls kj5 t596 t597 t598 _ _ t599 t602 (⟨#[102, 114, 101, 115, 104, 32, 111, 110, 101]⟩ : ByteArray) t621 t622 t623 t624 _ ?side1 ?side2 A34.out).mono ?_); (case side1 => repeat (first | exact (Kd.N_reads' HO_605003.out).2.2 | (with_reducible refine Kd.C_alloc ?_ _) | (with_reducible refine Kd.C_drewN ?_ _) | (with_reducible refine Kd.C_drew ?_))); (case side2 => exact (Kd.N_reads' HO_605003.out).2.1); rintro e w43 ⟨v625, rfl, ho0, hb⟩; refine ⟨_, rfl, ?_⟩; have n0_ := Aside0.mk (Kd.N_elder' (by (with_reducible repeat (first | apply Kd.N_alloc | apply Kd.N_drewN | apply Kd.N_drew)); exact HO_605003.out) (by first | exact Kd.N_base ho0 | exact Kd.R_base ho0) hb); have n1_ := Aside0.mk (Kd.N_elder' (by (with_reducible repeat (first | apply Kd.N_alloc | apply Kd.N_drewN | apply Kd.N_drew)); exact HO_612003.out) (by first | exact Kd.N_base ho0 | exact Kd.R_base ho0) hb); have n2_ := Aside0.mk (Kd.N_lower (Kd.N_mono (ok' := fun k_ => some k_ ≠ (.slice Ao10 t599.length co10 : Value).ownBlock ∧ some k_ ≠ (.slice Ao15 t608.length co15 : Value).ownBlock ∧ k_ ≠ gb604 ∧ k_ ≠ gb611) (Kd.R_N (Kd.R_bound ho0)) (fun k_ hk_ => ⟨(Kd.fresh' (Kd.N_lt (by (with_reducible repeat (first | apply Kd.N_alloc | apply Kd.N_drewN | apply Kd.N_drew)); exact HO_605003.out)) k_ hk_.2.1), (Kd.fresh' (Kd.N_lt (by (with_reducible repeat (first | apply Kd.N_alloc | apply Kd.N_drewN | apply Kd.N_drew)); exact HO_612003.out)) k_ hk_.2.1), (Kd.freshB (g := gb604) (o := .cells #[.int .i64 t596, .string t597, .int .i64 t598, .slice Ao10 t599.length co10] 40 (0, 0)) (by (with_reducible repeat (first | refine blk_drewN ?_ _ | refine blk_drew ?_ | refine blk_alloc ?_ _)); exact BK604.out) k_ hk_.2.1), (Kd.freshB (g := gb611) (o := .cells #[.int .i64 t605, .string t606, .int .i64 t607, .slice Ao15 t608.length co15] 40 (0, 0)) (by (with_reducible repeat (first | refine blk_drewN ?_ _ | refine blk_drew ?_ | refine blk_alloc ?_ _)); exact BK611.out) k_ hk_.2.1)⟩)) (below_size (by repeat (first | (with_reducible first | exact HB.out | apply below_alloc | apply pw_below_drewN | apply below_drew1 | refine below_set ?_ GE604.out | refine below_set ?_ GE611.out) | exact HB.out)))); have n3_ := Aside0.mk (blk_below (g := gb604) (o := .cells #[.int .i64 t596, .string t597, .int .i64 t598, .slice Ao10 t599.length co10] 40 (0, 0)) (by (with_reducible repeat (first | refine blk_drewN ?_ _ | refine blk_drew ?_ | refine blk_alloc ?_ _)); exact BK604.out) hb); have n4_ := Aside0.mk (blk_below (g := gb611) (o := .cells #[.int .i64 t605, .string t606, .int .i64 t607, .slice Ao15 t608.length co15] 40 (0, 0)) (by (with_reducible repeat (first | refine blk_drewN ?_ _ | refine blk_drew ?_ | refine blk_alloc ?_ _)); exact BK611.out) hb); have n5_ := Aside0.mk (below_step (by repeat (first | (with_reducible first | exact HB.out | apply below_alloc | apply pw_below_drewN | apply below_drew1 | refine below_set ?_ GE604.out | refine below_set ?_ GE611.out) | exact HB.out)) hb); clear HO_605003; clear HO_612003; clear BK604; clear BK611; clear HB; have HO_605003 := n0_; have HO_612003 := n1_; have HO626 := n2_; have BK604 := n3_; have BK611 := n4_; have HB := n5_; clear n0_ n1_ n2_ n3_ n4_ n5_; (try clear hb); (try clear hb2); (try clear hk); (try clear hi); (try clear ho0)) | ((with_reducible refine gate_dst (N := 7) rfl ?_); refine box_event ?hg (N := 7) ?hd (cs := #[.int .i64 0, .string (⟨#[]⟩ : ByteArray), .int .i64 0, .slice none 0 0]) (t := 40) ?hr ?_; (case hd => rfl); (case hg => rfl); (case hr => first | (go_simp; done) | (go_simp; rfl)); intro gb627 hg w44 hbox hb; have n0_ := Aside0.mk (Kd.N_below (Kd.N_elderB (by (with_reducible repeat (first | apply Kd.N_alloc | apply Kd.N_drewN | apply Kd.N_drew)); exact HO_605003.out) gb627 (Nat.le_of_eq hg.symm)) hb); have n1_ := Aside0.mk (Kd.N_below (Kd.N_elderB (by (with_reducible repeat (first | apply Kd.N_alloc | apply Kd.N_drewN | apply Kd.N_drew)); exact HO_612003.out) gb627 (Nat.le_of_eq hg.symm)) hb); have n2_ := Aside0.mk (Kd.N_below (Kd.N_elderB (by (with_reducible repeat (first | apply Kd.N_alloc | apply Kd.N_drewN | apply Kd.N_drew)); exact HO626.out) gb627 (Nat.le_of_eq hg.symm)) hb); have n3_ := Aside0.mk (blk_below (g := gb604) (o := .cells #[.int .i64 t596, .string t597, .int .i64 t598, .slice Ao10 t599.length co10] 40 (0, 0)) (by (with_reducible repeat (first | refine blk_drewN ?_ _ | refine blk_drew ?_ | refine blk_alloc ?_ _)); exact BK604.out) hb); have n4_ := Aside0.mk (blk_below (g := gb611) (o := .cells #[.int .i64 t605, .string t606, .int .i64 t607, .slice Ao15 t608.length co15] 40 (0, 0)) (by (with_reducible repeat (first | refine blk_drewN ?_ _ | refine blk_drew ?_ | refine blk_alloc ?_ _)); exact BK611.out) hb); have n5_ := Aside0.mk (below_step (by repeat (first | (with_reducible first | exact HB.out | apply below_alloc | apply pw_below_drewN | apply below_drew1 | refine below_set ?_ GE604.out | refine below_set ?_ GE611.out) | exact HB.out)) hb); have n6_ := Aside0.mk (hbox); have n7_ := Aside0.mk ((by rw [hg]; exact (below_size (by repeat (first | (with_reducible first | exact HB.out | apply below_alloc | apply pw_below_drewN | apply below_drew1 | refine below_set ?_ GE604.out | refine below_set ?_ GE611.out) | exact HB.out))) : w.heap.size ≤ gb627)); have n8_ := Aside0.mk ((by rw [hg]; exact (below_size (by repeat (first | (with_reducible first | exact HB.out | apply below_alloc | apply pw_below_drewN | apply below_drew1 | refine below_set ?_ GE604.out | refine below_set ?_ GE611.out) | exact HB.out))) : w.heap.size ≤ gb627)); have n9_ := Aside0.mk ((by rw [hg]; exact Nat.ne_of_lt (blk_lt (g := gb604) (o := .cells #[.int .i64 t596, .string t597, .int .i64 t598, .slice Ao10 t599.length co10] 40 (0, 0)) (by (with_reducible repeat (first | refine blk_drewN ?_ _ | refine blk_drew ?_ | refine blk_alloc ?_ _)); exact BK604.out)) : gb604 ≠ gb627)); have n10_ := Aside0.mk ((by rw [hg]; exact Nat.ne_of_gt (blk_lt (g := gb604) (o := .cells #[.int .i64 t596, .string t597, .int .i64 t598, .slice Ao10 t599.length co10] 40 (0, 0)) (by (with_reducible repeat (first | refine blk_drewN ?_ _ | refine blk_drew ?_ | refine blk_alloc ?_ _)); exact BK604.out)) : gb627 ≠ gb604)); have n11_ := Aside0.mk ((by rw [hg]; exact Nat.ne_of_lt (blk_lt (g := gb611) (o := .cells #[.int .i64 t605, .string t606, .int .i64 t607, .slice Ao15 t608.length co15] 40 (0, 0)) (by (with_reducible repeat (first | refine blk_drewN ?_ _ | refine blk_drew ?_ | refine blk_alloc ?_ _)); exact BK611.out)) : gb611 ≠ gb627)); have n12_ := Aside0.mk ((by rw [hg]; exact Nat.ne_of_gt (blk_lt (g := gb611) (o := .cells #[.int .i64 t605, .string t606, .int .i64 t607, .slice Ao15 t608.length co15] 40 (0, 0)) (by (with_reducible repeat (first | refine blk_drewN ?_ _ | refine blk_drew ?_ | refine blk_alloc ?_ _)); exact BK611.out)) : gb627 ≠ gb611)); clear HO_605003; clear HO_612003; clear HO626; clear BK604; clear BK611; clear HB; have HO_605003 := n0_; have HO_612003 := n1_; have HO626 := n2_; have BK604 := n3_; have BK611 := n4_; have HB := n5_; have BK627 := n6_; have GW627 := n7_; have GE627 := n8_; have NB604_627 := n9_; have NB627_604 := n10_; have NB611_627 := n11_; have NB627_611 := n12_; clear n0_ n1_ n2_ n3_ n4_ n5_ n6_ n7_ n8_ n9_ n10_ n11_ n12_; clear hb hbox hg; have hnb45 := NB627_604.out; have hnc45 := NB604_627.out; have hnb46 := NB627_611.out; have hnc46 := NB611_627.out; have hcz47_0 : w44.cell? ⟨gb627, 0, none⟩ = some (.int .i64 0) := (blk_cell BK627.out 0).trans rfl; have hcz47_1 : w44.cell? ⟨gb627, 1, none⟩ = some (.string (⟨#[]⟩ : ByteArray)) := (blk_cell BK627.out 1).trans rfl; have hcz47_2 : w44.cell? ⟨gb627, 2, none⟩ = some (.int .i64 0) := (blk_cell BK627.out 2).trans rfl; have hcz47_3 : w44.cell? ⟨gb627, 3, none⟩ = some (.slice none 0 0) := (blk_cell BK627.out 3).trans rfl; have hfz47_0 := blk_frozen BK627.out 0; have hfz47_1 := blk_frozen BK627.out 1; have hfz47_2 := blk_frozen BK627.out 2; have hfz47_3 := blk_frozen BK627.out 3; obtain ⟨Ao48, co48, eo48⟩ := Kd.N_slice HO626.out; subst eo48))
              have n0_ : Aside0 (Kd.N k40 40 ((((w44.setCell ⟨gb627, 0, none⟩ (.int .i64 t621)).setCell ⟨gb627, 1, none⟩ (.string t622)).setCell ⟨gb627, 2, none⟩ (.int .i64 t623)).setCell ⟨gb627, 3, none⟩ (.slice Ao48 t624.length co48)) w.heap.size (fun k_ => some k_ ≠ (.slice Ao15 t608.length co15 : Value).ownBlock ∧ some k_ ≠ (.slice Ao48 t624.length co48 : Value).ownBlock ∧ k_ ≠ gb604 ∧ k_ ≠ gb611 ∧ k_ ≠ gb627) (.slice Ao10 t599.length co10) t599) := ⟨by (with_reducible repeat (first | apply Kd.N_alloc | apply Kd.N_drewN | apply Kd.N_drew)); exact Kd.N_mono (Kd.N_far (p := ⟨gb627, 3, none⟩) (Kd.N_far (p := ⟨gb627, 2, none⟩) (Kd.N_far (p := ⟨gb627, 1, none⟩) (Kd.N_far (p := ⟨gb627, 0, none⟩) (Kd.N_mono HO_605003.out (fun k_ hk => (⟨hk, hk.2⟩ : _ ∧ k_ ≠ gb627))) (fun _ hk => hk.2) (.int .i64 t621)) (fun _ hk => hk.2) (.string t622)) (fun _ hk => hk.2) (.int .i64 t623)) (fun _ hk => hk.2) (.slice Ao48 t624.length co48)) (fun _ hk => ⟨hk.1.1.1.1, ⟨hk.1.1.2, ⟨hk.1.1.1.2.1, ⟨hk.1.1.1.2.2, hk.1.2⟩⟩⟩⟩)⟩
              have n1_ : Aside0 (Kd.N k40 40 ((((w44.setCell ⟨gb627, 0, none⟩ (.int .i64 t621)).setCell ⟨gb627, 1, none⟩ (.string t622)).setCell ⟨gb627, 2, none⟩ (.int .i64 t623)).setCell ⟨gb627, 3, none⟩ (.slice Ao48 t624.length co48)) w.heap.size (fun k_ => some k_ ≠ (.slice Ao10 t599.length co10 : Value).ownBlock ∧ some k_ ≠ (.slice Ao48 t624.length co48 : Value).ownBlock ∧ k_ ≠ gb604 ∧ k_ ≠ gb611 ∧ k_ ≠ gb627) (.slice Ao15 t608.length co15) t608) := ⟨by (with_reducible repeat (first | apply Kd.N_alloc | apply Kd.N_drewN | apply Kd.N_drew)); exact Kd.N_mono (Kd.N_far (p := ⟨gb627, 3, none⟩) (Kd.N_far (p := ⟨gb627, 2, none⟩) (Kd.N_far (p := ⟨gb627, 1, none⟩) (Kd.N_far (p := ⟨gb627, 0, none⟩) (Kd.N_mono HO_612003.out (fun k_ hk => (⟨hk, hk.2⟩ : _ ∧ k_ ≠ gb627))) (fun _ hk => hk.2) (.int .i64 t621)) (fun _ hk => hk.2) (.string t622)) (fun _ hk => hk.2) (.int .i64 t623)) (fun _ hk => hk.2) (.slice Ao48 t624.length co48)) (fun _ hk => ⟨hk.1.1.1.1, ⟨hk.1.1.2, ⟨hk.1.1.1.2.1, ⟨hk.1.1.1.2.2, hk.1.2⟩⟩⟩⟩)⟩
              have n2_ : Aside0 (Kd.N k40 40 ((((w44.setCell ⟨gb627, 0, none⟩ (.int .i64 t621)).setCell ⟨gb627, 1, none⟩ (.string t622)).setCell ⟨gb627, 2, none⟩ (.int .i64 t623)).setCell ⟨gb627, 3, none⟩ (.slice Ao48 t624.length co48)) w.heap.size (fun k_ => some k_ ≠ (.slice Ao10 t599.length co10 : Value).ownBlock ∧ some k_ ≠ (.slice Ao15 t608.length co15 : Value).ownBlock ∧ k_ ≠ gb604 ∧ k_ ≠ gb611 ∧ k_ ≠ gb627) (.slice Ao48 t624.length co48) t624) := ⟨by (with_reducible repeat (first | apply Kd.N_alloc | apply Kd.N_drewN | apply Kd.N_drew)); exact Kd.N_mono (Kd.N_far (p := ⟨gb627, 3, none⟩) (Kd.N_far (p := ⟨gb627, 2, none⟩) (Kd.N_far (p := ⟨gb627, 1, none⟩) (Kd.N_far (p := ⟨gb627, 0, none⟩) (Kd.N_mono HO626.out (fun k_ hk => (⟨hk, hk.2⟩ : _ ∧ k_ ≠ gb627))) (fun _ hk => hk.2) (.int .i64 t621)) (fun _ hk => hk.2) (.string t622)) (fun _ hk => hk.2) (.int .i64 t623)) (fun _ hk => hk.2) (.slice Ao48 t624.length co48)) (fun _ hk => ⟨hk.1.1.1, ⟨hk.1.1.2.1, ⟨hk.1.1.2.2.1, ⟨hk.1.1.2.2.2, hk.1.2⟩⟩⟩⟩)⟩
              have n3_ : Aside0 (((((w44.setCell ⟨gb627, 0, none⟩ (.int .i64 t621)).setCell ⟨gb627, 1, none⟩ (.string t622)).setCell ⟨gb627, 2, none⟩ (.int .i64 t623)).setCell ⟨gb627, 3, none⟩ (.slice Ao48 t624.length co48)).heap[gb604]? = some (.cells #[.int .i64 t596, .string t597, .int .i64 t598, .slice Ao10 t599.length co10] 40 (0, 0))) := ⟨by (with_reducible repeat (first | refine blk_drewN ?_ _ | refine blk_drew ?_ | refine blk_alloc ?_ _)); refine blk_far ?_ NB604_627.out _; (with_reducible repeat (first | refine blk_drewN ?_ _ | refine blk_drew ?_ | refine blk_alloc ?_ _)); refine blk_far ?_ NB604_627.out _; (with_reducible repeat (first | refine blk_drewN ?_ _ | refine blk_drew ?_ | refine blk_alloc ?_ _)); refine blk_far ?_ NB604_627.out _; (with_reducible repeat (first | refine blk_drewN ?_ _ | refine blk_drew ?_ | refine blk_alloc ?_ _)); refine blk_far ?_ NB604_627.out _; (with_reducible repeat (first | refine blk_drewN ?_ _ | refine blk_drew ?_ | refine blk_alloc ?_ _)); exact BK604.out⟩
              have n4_ : Aside0 (((((w44.setCell ⟨gb627, 0, none⟩ (.int .i64 t621)).setCell ⟨gb627, 1, none⟩ (.string t622)).setCell ⟨gb627, 2, none⟩ (.int .i64 t623)).setCell ⟨gb627, 3, none⟩ (.slice Ao48 t624.length co48)).heap[gb611]? = some (.cells #[.int .i64 t605, .string t606, .int .i64 t607, .slice Ao15 t608.length co15] 40 (0, 0))) := ⟨by (with_reducible repeat (first | refine blk_drewN ?_ _ | refine blk_drew ?_ | refine blk_alloc ?_ _)); refine blk_far ?_ NB611_627.out _; (with_reducible repeat (first | refine blk_drewN ?_ _ | refine blk_drew ?_ | refine blk_alloc ?_ _)); refine blk_far ?_ NB611_627.out _; (with_reducible repeat (first | refine blk_drewN ?_ _ | refine blk_drew ?_ | refine blk_alloc ?_ _)); refine blk_far ?_ NB611_627.out _; (with_reducible repeat (first | refine blk_drewN ?_ _ | refine blk_drew ?_ | refine blk_alloc ?_ _)); refine blk_far ?_ NB611_627.out _; (with_reducible repeat (first | refine blk_drewN ?_ _ | refine blk_drew ?_ | refine blk_alloc ?_ _)); exact BK611.out⟩
              have n5_ : Aside0 (((((w44.setCell ⟨gb627, 0, none⟩ (.int .i64 t621)).setCell ⟨gb627, 1, none⟩ (.string t622)).setCell ⟨gb627, 2, none⟩ (.int .i64 t623)).setCell ⟨gb627, 3, none⟩ (.slice Ao48 t624.length co48)).heap[gb627]? = some (.cells #[.int .i64 t621, .string t622, .int .i64 t623, .slice Ao48 t624.length co48] 40 (0, 0))) := ⟨by (with_reducible repeat (first | refine blk_drewN ?_ _ | refine blk_drew ?_ | refine blk_alloc ?_ _)); refine blk_put (cs := #[.int .i64 t621, .string t622, .int .i64 t623, .slice none 0 0]) ?_ 3 _ rfl; (with_reducible repeat (first | refine blk_drewN ?_ _ | refine blk_drew ?_ | refine blk_alloc ?_ _)); refine blk_put (cs := #[.int .i64 t621, .string t622, .int .i64 0, .slice none 0 0]) ?_ 2 _ rfl; (with_reducible repeat (first | refine blk_drewN ?_ _ | refine blk_drew ?_ | refine blk_alloc ?_ _)); refine blk_put (cs := #[.int .i64 t621, .string (⟨#[]⟩ : ByteArray), .int .i64 0, .slice none 0 0]) ?_ 1 _ rfl; (with_reducible repeat (first | refine blk_drewN ?_ _ | refine blk_drew ?_ | refine blk_alloc ?_ _)); refine blk_put (cs := #[.int .i64 0, .string (⟨#[]⟩ : ByteArray), .int .i64 0, .slice none 0 0]) ?_ 0 _ rfl; (with_reducible repeat (first | refine blk_drewN ?_ _ | refine blk_drew ?_ | refine blk_alloc ?_ _)); exact BK627.out⟩
              have n6_ : Aside0 (Below w.heap.size w ((((w44.setCell ⟨gb627, 0, none⟩ (.int .i64 t621)).setCell ⟨gb627, 1, none⟩ (.string t622)).setCell ⟨gb627, 2, none⟩ (.int .i64 t623)).setCell ⟨gb627, 3, none⟩ (.slice Ao48 t624.length co48))) := ⟨by repeat (first | (with_reducible first | exact HB.out | apply below_alloc | apply pw_below_drewN | apply below_drew1 | refine below_set ?_ GE604.out | refine below_set ?_ GE611.out | refine below_set ?_ GE627.out) | exact HB.out)⟩
              (try clear HO_605003)
              (try clear HO_612003)
              (try clear HO626)
              (try clear BK604)
              (try clear BK611)
              (try clear BK627)
              (try clear HB)
              generalize ((((w44.setCell ⟨gb627, 0, none⟩ (.int .i64 t621)).setCell ⟨gb627, 1, none⟩ (.string t622)).setCell ⟨gb627, 2, none⟩ (.int .i64 t623)).setCell ⟨gb627, 3, none⟩ (.slice Ao48 t624.length co48)) = w49 at n0_ n1_ n2_ n3_ n4_ n5_ n6_ ⊢
              have HO_605003 := n0_
              have HO_612003 := n1_
              have HO626 := n2_
              have BK604 := n3_
              have BK611 := n4_
              have BK627 := n5_
              have HB := n6_
              clear n0_ n1_ n2_ n3_ n4_ n5_ n6_
              have n0_ := Aside0.mk (Kd.N_drew HO_605003.out)
              have n1_ := Aside0.mk (Kd.N_drew HO_612003.out)
              have n2_ := Aside0.mk (Kd.N_drew HO626.out)
              have n3_ := Aside0.mk (blk_drew BK604.out)
              have n4_ := Aside0.mk (blk_drew BK611.out)
              have n5_ := Aside0.mk (blk_drew BK627.out)
              have n6_ := Aside0.mk (below_drew1 HB.out)
              clear HO_605003
              clear HO_612003
              clear HO626
              clear BK604
              clear BK611
              clear BK627
              clear HB
              have HO_605003 := n0_
              have HO_612003 := n1_
              have HO626 := n2_
              have BK604 := n3_
              have BK611 := n4_
              have BK627 := n5_
              have HB := n6_
              clear n0_ n1_ n2_ n3_ n4_ n5_ n6_
              refine start_ (n := 21) (S := fun w' => w'.cell? ⟨gb627, 0, none⟩ = some (.int .i64 t621) ∧ w'.cell? ⟨gb627, 1, none⟩ = some (.string t622) ∧ w'.cell? ⟨gb627, 2, none⟩ = some (.int .i64 t623) ∧ w'.cell? ⟨gb627, 3, none⟩ = some (.slice Ao48 t624.length co48) ∧ w'.cell? ⟨gb604, 0, none⟩ = some (.int .i64 t596) ∧ w'.cell? ⟨gb604, 1, none⟩ = some (.string t597) ∧ w'.cell? ⟨gb604, 2, none⟩ = some (.int .i64 t598) ∧ w'.cell? ⟨gb604, 3, none⟩ = some (.slice Ao10 t599.length co10)) (ds := []) #[false, false, false, false, false, false, false, false, false, false, false, false, false, false, false, false, false, false, false, false, false] (by kernel_rfl) rfl rfl ⟨(blk_cell BK627.out 0).trans rfl, (blk_cell BK627.out 1).trans rfl, (blk_cell BK627.out 2).trans rfl, (blk_cell BK627.out 3).trans rfl, (blk_cell BK604.out 0).trans rfl, (blk_cell BK604.out 1).trans rfl, (blk_cell BK604.out 2).trans rfl, (blk_cell BK604.out 3).trans rfl⟩ (fun hHeld => ?_); refine with_tabW laws_FnRenamed.tab8 laws_FnRenamed.bits8 (fun HT_ HW_ => ?_)
              generalize w49.drew = w50 at HO_605003 HO_612003 HO626 BK604 BK611 BK627 HB hHeld ⊢
              refine pure_ (i := 1) (N := some 38) (v := ?_) (a' := ?_) #[false, true, false, false, false, false, false, false, false, false, false, false, false, false, false, false, false, false, false, false, false] rfl rfl (any_of HT_.out (by kernel_rfl)) (fun _ _ _ h => h) (Or.inl ⟨by rfl, ?_⟩) ?_ ?_
              rotate_left
              · intro w'
                go_simp
                with_reducible rfl
              rotate_left
              · simp only [Act.put, List.setIfInBounds_toArray, List.set_cons_zero, List.set_cons_succ, i64_w, i32_w]
                rfl
              refine take_ (i := 0) (N := some 37) (v := ?_) (a' := ?_) #[true, true, false, false, false, false, false, false, false, false, false, false, false, false, false, false, false, false, false, false, false] rfl rfl (take_ofW HT_.out HW_.out (by kernel_rfl)) (fun _ _ _ h => h) (Or.inl ⟨by rfl, ?_⟩) hHeld ?_ ?_
              rotate_left
              · rintro w' ⟨s0, s1, s2, s3, s4, s5, s6, s7⟩
                go_simp
                with_reducible rfl
              rotate_left
              · simp only [Act.put, List.setIfInBounds_toArray, List.set_cons_zero, List.set_cons_succ, i64_w, i32_w]
                rfl
              refine take_ (i := 3) (N := some 40) (v := ?_) (a' := ?_) #[true, true, false, true, false, false, false, false, false, false, false, false, false, false, false, false, false, false, false, false, false] rfl rfl (take_ofW HT_.out HW_.out (by kernel_rfl)) (fun _ _ _ h => h) (Or.inl ⟨by rfl, ?_⟩) hHeld ?_ ?_
              rotate_left
              · rintro w' ⟨s0, s1, s2, s3, s4, s5, s6, s7⟩
                go_simp
                with_reducible rfl
              rotate_left
              · simp only [Act.put, List.setIfInBounds_toArray, List.set_cons_zero, List.set_cons_succ, i64_w, i32_w]
                rfl
              refine one_ (i := 2) (N := some 39) #[true, true, true, true, false, false, false, false, false, false, false, false, false, false, false, false, false, false, false, false, false] rfl rfl (one_of HT_.out (by kernel_rfl)) (by decide) (fun K hK => ?_)
              refine goes_ Try.func35 (by kernel_rfl) rfl #[.agg #[.int .i64 t621, .string t622, .int .i64 t623, .slice Ao48 t624.length co48], .string (⟨#[102, 114, 101, 115, 104, 32, 111, 110, 101]⟩ : ByteArray), .string t602] (by rfl) rfl rfl (by (try simp only [List.map_toArray, List.map_cons, List.map_nil]); first | done | rfl | (simp only [List.length_drop, List.length_take]; rfl)) ?_
              with_reducible refine (impl_Renamed.calls kj5 t621 t622 t623 _ _ t624 (⟨#[102, 114, 101, 115, 104, 32, 111, 110, 101]⟩ : ByteArray) t602 t628 t629 t630 t631 _ ?side1 ?side2 A35.out).mono ?_
              (case side1 => repeat (first | exact (Kd.N_reads' HO626.out).2.2 | (with_reducible refine Kd.C_alloc ?_ _) | (with_reducible refine Kd.C_drewN ?_ _) | (with_reducible refine Kd.C_drew ?_)))
              (case side2 => exact (Kd.N_reads' HO626.out).2.1)
              rintro e w51 ⟨v632, rfl, ho0, hb⟩
              refine ⟨_, rfl, ?_⟩
              have n0_ := Aside0.mk (Kd.N_elder' (by (with_reducible repeat (first | apply Kd.N_alloc | apply Kd.N_drewN | apply Kd.N_drew)); exact HO_605003.out) (by first | exact Kd.N_base ho0 | exact Kd.R_base ho0) hb)
              have n1_ := Aside0.mk (Kd.N_elder' (by (with_reducible repeat (first | apply Kd.N_alloc | apply Kd.N_drewN | apply Kd.N_drew)); exact HO_612003.out) (by first | exact Kd.N_base ho0 | exact Kd.R_base ho0) hb)
              have n2_ := Aside0.mk (Kd.N_elder' (by (with_reducible repeat (first | apply Kd.N_alloc | apply Kd.N_drewN | apply Kd.N_drew)); exact HO626.out) (by first | exact Kd.N_base ho0 | exact Kd.R_base ho0) hb)
              have n3_ := Aside0.mk (Kd.N_lower (Kd.N_mono (ok' := fun k_ => some k_ ≠ (.slice Ao10 t599.length co10 : Value).ownBlock ∧ some k_ ≠ (.slice Ao15 t608.length co15 : Value).ownBlock ∧ some k_ ≠ (.slice Ao48 t624.length co48 : Value).ownBlock ∧ k_ ≠ gb604 ∧ k_ ≠ gb611 ∧ k_ ≠ gb627) (Kd.R_N (Kd.R_bound ho0)) (fun k_ hk_ => ⟨(Kd.fresh' (Kd.N_lt (by (with_reducible repeat (first | apply Kd.N_alloc | apply Kd.N_drewN | apply Kd.N_drew)); exact HO_605003.out)) k_ hk_.2.1), (Kd.fresh' (Kd.N_lt (by (with_reducible repeat (first | apply Kd.N_alloc | apply Kd.N_drewN | apply Kd.N_drew)); exact HO_612003.out)) k_ hk_.2.1), (Kd.fresh' (Kd.N_lt (by (with_reducible repeat (first | apply Kd.N_alloc | apply Kd.N_drewN | apply Kd.N_drew)); exact HO626.out)) k_ hk_.2.1), (Kd.freshB (g := gb604) (o := .cells #[.int .i64 t596, .string t597, .int .i64 t598, .slice Ao10 t599.length co10] 40 (0, 0)) (by (with_reducible repeat (first | refine blk_drewN ?_ _ | refine blk_drew ?_ | refine blk_alloc ?_ _)); exact BK604.out) k_ hk_.2.1), (Kd.freshB (g := gb611) (o := .cells #[.int .i64 t605, .string t606, .int .i64 t607, .slice Ao15 t608.length co15] 40 (0, 0)) (by (with_reducible repeat (first | refine blk_drewN ?_ _ | refine blk_drew ?_ | refine blk_alloc ?_ _)); exact BK611.out) k_ hk_.2.1), (Kd.freshB (g := gb627) (o := .cells #[.int .i64 t621, .string t622, .int .i64 t623, .slice Ao48 t624.length co48] 40 (0, 0)) (by (with_reducible repeat (first | refine blk_drewN ?_ _ | refine blk_drew ?_ | refine blk_alloc ?_ _)); exact BK627.out) k_ hk_.2.1)⟩)) (below_size (by repeat (first | (with_reducible first | exact HB.out | apply below_alloc | apply pw_below_drewN | apply below_drew1 | refine below_set ?_ GE604.out | refine below_set ?_ GE611.out | refine below_set ?_ GE627.out) | exact HB.out))))
              have n4_ := Aside0.mk (blk_below (g := gb604) (o := .cells #[.int .i64 t596, .string t597, .int .i64 t598, .slice Ao10 t599.length co10] 40 (0, 0)) (by (with_reducible repeat (first | refine blk_drewN ?_ _ | refine blk_drew ?_ | refine blk_alloc ?_ _)); exact BK604.out) hb)
              have n5_ := Aside0.mk (blk_below (g := gb611) (o := .cells #[.int .i64 t605, .string t606, .int .i64 t607, .slice Ao15 t608.length co15] 40 (0, 0)) (by (with_reducible repeat (first | refine blk_drewN ?_ _ | refine blk_drew ?_ | refine blk_alloc ?_ _)); exact BK611.out) hb)
              have n6_ := Aside0.mk (blk_below (g := gb627) (o := .cells #[.int .i64 t621, .string t622, .int .i64 t623, .slice Ao48 t624.length co48] 40 (0, 0)) (by (with_reducible repeat (first | refine blk_drewN ?_ _ | refine blk_drew ?_ | refine blk_alloc ?_ _)); exact BK627.out) hb)
              have n7_ := Aside0.mk (below_step (by repeat (first | (with_reducible first | exact HB.out | apply below_alloc | apply pw_below_drewN | apply below_drew1 | refine below_set ?_ GE604.out | refine below_set ?_ GE611.out | refine below_set ?_ GE627.out) | exact HB.out)) hb)
              clear HO_605003
              clear HO_612003
              clear HO626
              clear BK604
              clear BK611
              clear BK627
              clear HB
              have HO_605003 := n0_
              have HO_612003 := n1_
              have HO626 := n2_
              have HO633 := n3_
              have BK604 := n4_
              have BK611 := n5_
              have BK627 := n6_
              have HB := n7_
              clear n0_ n1_ n2_ n3_ n4_ n5_ n6_ n7_
              (try clear hb)
              (try clear hb2)
              (try clear hk)
              (try clear hi)
              (try clear ho0)
              obtain ⟨Ao52, co52, eo52⟩ := Kd.N_slice HO633.out
              (first | subst eo52 | (injection eo52 with f1_ f2_ f3_; have f4_ := f1_.symm; have f5_ := f3_.symm; clear f1_ f2_ f3_; subst f4_; subst f5_))
              refine hK.out _ _ ⟨(blk_cell BK627.out 0).trans rfl, (blk_cell BK627.out 1).trans rfl, (blk_cell BK627.out 2).trans rfl, (blk_cell BK627.out 3).trans rfl, (blk_cell BK604.out 0).trans rfl, (blk_cell BK604.out 1).trans rfl, (blk_cell BK604.out 2).trans rfl, (blk_cell BK604.out 3).trans rfl⟩ (fun hHeld => ?_)
              clear hK K
              refine norm_ (a' := ?_) ?_ ?_
              rotate_left
              · show Act.put _ (some 39) _ = _
                simp only [Act.put, List.setIfInBounds_toArray, List.set_cons_zero, List.set_cons_succ, i64_w, i32_w]
                rfl
              refine one_ (i := 4) (N := some 41) #[true, true, true, true, true, false, false, false, false, false, false, false, false, false, false, false, false, false, false, false, false] rfl rfl (one_of HT_.out (by kernel_rfl)) (by decide) (fun K hK => ?_)
              refine goes_ Try.func40 (by kernel_rfl) rfl #[.agg #[.int .i64 t628, .string t629, .int .i64 t630, .slice Ao52 t631.length co52], .agg #[.int .i64 t596, .string t597, .int .i64 t598, .slice Ao10 t599.length co10]] (by rfl) rfl rfl (by (try simp only [List.map_toArray, List.map_cons, List.map_nil]); first | done | rfl | (simp only [List.length_drop, List.length_take]; rfl)) ?_
              with_reducible refine (laws_sameExpr.calls kj5 t628 t629 t630 _ _ t631 t596 t597 t598 _ _ t599 true _ ?side1 ?side2 ?side3 ?side4 A36.out).mono ?_
              (case side1 => repeat (first | exact (Kd.N_reads' HO633.out).2.2 | (with_reducible refine Kd.C_alloc ?_ _) | (with_reducible refine Kd.C_drewN ?_ _) | (with_reducible refine Kd.C_drew ?_)))
              (case side2 => exact (Kd.N_reads' HO633.out).2.1)
              (case side3 => repeat (first | exact (Kd.N_reads' HO_605003.out).2.2 | (with_reducible refine Kd.C_alloc ?_ _) | (with_reducible refine Kd.C_drewN ?_ _) | (with_reducible refine Kd.C_drew ?_)))
              (case side4 => exact (Kd.N_reads' HO_605003.out).2.1)
              rintro e w53 ⟨rfl, hb⟩
              refine ⟨_, rfl, ?_⟩
              have n0_ := Aside0.mk (Kd.N_below (by (with_reducible repeat (first | apply Kd.N_alloc | apply Kd.N_drewN | apply Kd.N_drew)); exact HO_605003.out) hb)
              have n1_ := Aside0.mk (Kd.N_below (by (with_reducible repeat (first | apply Kd.N_alloc | apply Kd.N_drewN | apply Kd.N_drew)); exact HO_612003.out) hb)
              have n2_ := Aside0.mk (Kd.N_below (by (with_reducible repeat (first | apply Kd.N_alloc | apply Kd.N_drewN | apply Kd.N_drew)); exact HO626.out) hb)
              have n3_ := Aside0.mk (Kd.N_below (by (with_reducible repeat (first | apply Kd.N_alloc | apply Kd.N_drewN | apply Kd.N_drew)); exact HO633.out) hb)
              have n4_ := Aside0.mk (blk_below (g := gb604) (o := .cells #[.int .i64 t596, .string t597, .int .i64 t598, .slice Ao10 t599.length co10] 40 (0, 0)) (by (with_reducible repeat (first | refine blk_drewN ?_ _ | refine blk_drew ?_ | refine blk_alloc ?_ _)); exact BK604.out) hb)
              have n5_ := Aside0.mk (blk_below (g := gb611) (o := .cells #[.int .i64 t605, .string t606, .int .i64 t607, .slice Ao15 t608.length co15] 40 (0, 0)) (by (with_reducible repeat (first | refine blk_drewN ?_ _ | refine blk_drew ?_ | refine blk_alloc ?_ _)); exact BK611.out) hb)
              have n6_ := Aside0.mk (blk_below (g := gb627) (o := .cells #[.int .i64 t621, .string t622, .int .i64 t623, .slice Ao48 t624.length co48] 40 (0, 0)) (by (with_reducible repeat (first | refine blk_drewN ?_ _ | refine blk_drew ?_ | refine blk_alloc ?_ _)); exact BK627.out) hb)
              have n7_ := Aside0.mk (below_step (by repeat (first | (with_reducible first | exact HB.out | apply below_alloc | apply pw_below_drewN | apply below_drew1 | refine below_set ?_ GE604.out | refine below_set ?_ GE611.out | refine below_set ?_ GE627.out) | exact HB.out)) hb)
              clear HO_605003
              clear HO_612003
              clear HO626
              clear HO633
              clear BK604
              clear BK611
              clear BK627
              clear HB
              have HO_605003 := n0_
              have HO_612003 := n1_
              have HO626 := n2_
              have HO633 := n3_
              have BK604 := n4_
              have BK611 := n5_
              have BK627 := n6_
              have HB := n7_
              clear n0_ n1_ n2_ n3_ n4_ n5_ n6_ n7_
              (try clear hb)
              (try clear hb2)
              (try clear hk)
              (try clear hi)
              refine hK.out _ _ ⟨(blk_cell BK627.out 0).trans rfl, (blk_cell BK627.out 1).trans rfl, (blk_cell BK627.out 2).trans rfl, (blk_cell BK627.out 3).trans rfl, (blk_cell BK604.out 0).trans rfl, (blk_cell BK604.out 1).trans rfl, (blk_cell BK604.out 2).trans rfl, (blk_cell BK604.out 3).trans rfl⟩ (fun hHeld => ?_)
              clear hK K
              refine norm_ (a' := ?_) ?_ ?_
              rotate_left
              · show Act.put _ (some 41) _ = _
                simp only [Act.put, List.setIfInBounds_toArray, List.set_cons_zero, List.set_cons_succ, i64_w, i32_w]
                rfl
              refine pure_ (i := 5) (N := some 42) (v := ?_) (a' := ?_) #[true, true, true, true, true, true, false, false, false, false, false, false, false, false, false, false, false, false, false, false, false] rfl rfl (any_of HT_.out (by kernel_rfl)) (fun _ _ _ h => h) (Or.inl ⟨by rfl, ?_⟩) ?_ ?_
              rotate_left
              · intro w'
                go_simp
                with_reducible rfl
              rotate_left
              · simp only [Act.put, List.setIfInBounds_toArray, List.set_cons_zero, List.set_cons_succ, i64_w, i32_w]
                rfl
              refine pure_ (i := 8) (N := some 45) (v := ?_) (a' := ?_) #[true, true, true, true, true, true, false, false, true, false, false, false, false, false, false, false, false, false, false, false, false] rfl rfl (any_of HT_.out (by kernel_rfl)) (fun _ _ _ h => h) (Or.inl ⟨by rfl, ?_⟩) ?_ ?_
              rotate_left
              · intro w'
                go_simp
                with_reducible rfl
              rotate_left
              · simp only [Act.put, List.setIfInBounds_toArray, List.set_cons_zero, List.set_cons_succ, i64_w, i32_w]
                rfl
              refine take_ (i := 6) (N := some 43) (v := ?_) (a' := ?_) #[true, true, true, true, true, true, true, false, true, false, false, false, false, false, false, false, false, false, false, false, false] rfl rfl (take_ofW HT_.out HW_.out (by kernel_rfl)) (fun _ _ _ h => h) (Or.inl ⟨by rfl, ?_⟩) hHeld ?_ ?_
              rotate_left
              · rintro w' ⟨s0, s1, s2, s3, s4, s5, s6, s7⟩
                go_simp
                with_reducible rfl
              rotate_left
              · simp only [Act.put, List.setIfInBounds_toArray, List.set_cons_zero, List.set_cons_succ, i64_w, i32_w]
                rfl
              refine one_ (i := 7) (N := some 44) #[true, true, true, true, true, true, true, true, true, false, false, false, false, false, false, false, false, false, false, false, false] rfl rfl (one_of HT_.out (by kernel_rfl)) (by decide) (fun K hK => ?_)
              refine goes_ Try.func42 (by kernel_rfl) rfl #[.agg #[.int .i64 t621, .string t622, .int .i64 t623, .slice Ao48 t624.length co48]] (by rfl) rfl rfl (by (try simp only [List.map_toArray, List.map_cons, List.map_nil]); first | done | rfl | (simp only [List.length_drop, List.length_take]; rfl)) ?_
              with_reducible refine (impl_Columns.calls kj5 t621 t622 t623 _ _ t624 t635 _ ?side1 ?side2 A38.out).mono ?_
              (case side1 => repeat (first | exact (Kd.N_reads' HO626.out).2.2 | (with_reducible refine Kd.C_alloc ?_ _) | (with_reducible refine Kd.C_drewN ?_ _) | (with_reducible refine Kd.C_drew ?_)))
              (case side2 => exact (Kd.N_reads' HO626.out).2.1)
              rintro e w54 ⟨v636, rfl, ho0, hb⟩
              refine ⟨_, rfl, ?_⟩
              have n0_ := Aside0.mk (Kd.N_elder' (by (with_reducible repeat (first | apply Kd.N_alloc | apply Kd.N_drewN | apply Kd.N_drew)); exact HO_605003.out) (Kd.R_base ho0) hb)
              have n1_ := Aside0.mk (Kd.N_elder' (by (with_reducible repeat (first | apply Kd.N_alloc | apply Kd.N_drewN | apply Kd.N_drew)); exact HO_612003.out) (Kd.R_base ho0) hb)
              have n2_ := Aside0.mk (Kd.N_elder' (by (with_reducible repeat (first | apply Kd.N_alloc | apply Kd.N_drewN | apply Kd.N_drew)); exact HO626.out) (Kd.R_base ho0) hb)
              have n3_ := Aside0.mk (Kd.N_elder' (by (with_reducible repeat (first | apply Kd.N_alloc | apply Kd.N_drewN | apply Kd.N_drew)); exact HO633.out) (Kd.R_base ho0) hb)
              have n4_ := Aside0.mk (Kd.R_lower ho0 (below_size (by repeat (first | (with_reducible first | exact HB.out | apply below_alloc | apply pw_below_drewN | apply below_drew1 | refine below_set ?_ GE604.out | refine below_set ?_ GE611.out | refine below_set ?_ GE627.out) | exact HB.out))))
              have n5_ := Aside0.mk (blk_below (g := gb604) (o := .cells #[.int .i64 t596, .string t597, .int .i64 t598, .slice Ao10 t599.length co10] 40 (0, 0)) (by (with_reducible repeat (first | refine blk_drewN ?_ _ | refine blk_drew ?_ | refine blk_alloc ?_ _)); exact BK604.out) hb)
              have n6_ := Aside0.mk (blk_below (g := gb611) (o := .cells #[.int .i64 t605, .string t606, .int .i64 t607, .slice Ao15 t608.length co15] 40 (0, 0)) (by (with_reducible repeat (first | refine blk_drewN ?_ _ | refine blk_drew ?_ | refine blk_alloc ?_ _)); exact BK611.out) hb)
              have n7_ := Aside0.mk (blk_below (g := gb627) (o := .cells #[.int .i64 t621, .string t622, .int .i64 t623, .slice Ao48 t624.length co48] 40 (0, 0)) (by (with_reducible repeat (first | refine blk_drewN ?_ _ | refine blk_drew ?_ | refine blk_alloc ?_ _)); exact BK627.out) hb)
              have n8_ := Aside0.mk (below_step (by repeat (first | (with_reducible first | exact HB.out | apply below_alloc | apply pw_below_drewN | apply below_drew1 | refine below_set ?_ GE604.out | refine below_set ?_ GE611.out | refine below_set ?_ GE627.out) | exact HB.out)) hb)
              clear HO_605003
              clear HO_612003
              clear HO626
              clear HO633
              clear BK604
              clear BK611
              clear BK627
              clear HB
              have HO_605003 := n0_
              have HO_612003 := n1_
              have HO626 := n2_
              have HO633 := n3_
              have HO637 := n4_
              have BK604 := n5_
              have BK611 := n6_
              have BK627 := n7_
              have HB := n8_
              clear n0_ n1_ n2_ n3_ n4_ n5_ n6_ n7_ n8_
              (try clear hb)
              (try clear hb2)
              (try clear hk)
              (try clear hi)
              (try clear ho0)
              obtain ⟨Ao55, co55, eo55⟩ := Kd.R_slice HO637.out
              (first | subst eo55 | (injection eo55 with f1_ f2_ f3_; have f4_ := f1_.symm; have f5_ := f3_.symm; clear f1_ f2_ f3_; subst f4_; subst f5_))
              refine hK.out _ _ ⟨(blk_cell BK627.out 0).trans rfl, (blk_cell BK627.out 1).trans rfl, (blk_cell BK627.out 2).trans rfl, (blk_cell BK627.out 3).trans rfl, (blk_cell BK604.out 0).trans rfl, (blk_cell BK604.out 1).trans rfl, (blk_cell BK604.out 2).trans rfl, (blk_cell BK604.out 3).trans rfl⟩ (fun hHeld => ?_)
              clear hK K
              refine norm_ (a' := ?_) ?_ ?_
              rotate_left
              · show Act.put _ (some 44) _ = _
                simp only [Act.put, List.setIfInBounds_toArray, List.set_cons_zero, List.set_cons_succ, i64_w, i32_w]
                rfl
              refine one_ (i := 9) (N := some 46) #[true, true, true, true, true, true, true, true, true, true, false, false, false, false, false, false, false, false, false, false, false] rfl rfl (one_of HT_.out (by kernel_rfl)) (by decide) (fun K hK => ?_)
              refine goes_ Try.func19 (by kernel_rfl) rfl #[.slice Ao55 t635.length co55, .string t602] (by rfl) rfl rfl (by (try simp only [List.map_toArray, List.map_cons, List.map_nil]); first | done | rfl | (simp only [List.length_drop, List.length_take]; rfl)) ?_
              with_reducible refine (spec_Has.calls kj5 _ _ t635 t602 true _ ?side1 ?side2 A39.out).mono ?_
              (case side1 => repeat (first | exact (Kd.R_reads' HO637.out).2.2 | (with_reducible refine Kd.C_alloc ?_ _) | (with_reducible refine Kd.C_drewN ?_ _) | (with_reducible refine Kd.C_drew ?_)))
              (case side2 => exact (Kd.R_reads' HO637.out).2.1)
              rintro e w' ⟨rfl, ⟨nd, rfl⟩⟩
              refine ⟨_, rfl, ?_⟩
              refine hK.out _ _ ⟨(blk_cell BK627.out 0).trans rfl, (blk_cell BK627.out 1).trans rfl, (blk_cell BK627.out 2).trans rfl, (blk_cell BK627.out 3).trans rfl, (blk_cell BK604.out 0).trans rfl, (blk_cell BK604.out 1).trans rfl, (blk_cell BK604.out 2).trans rfl, (blk_cell BK604.out 3).trans rfl⟩ (fun hHeld => ?_)
              clear hK K
              refine norm_ (a' := ?_) ?_ ?_
              rotate_left
              · show Act.put _ (some 46) _ = _
                simp only [Act.put, List.setIfInBounds_toArray, List.set_cons_zero, List.set_cons_succ, i64_w, i32_w]
                rfl
              refine pure_ (i := 10) (N := some 47) (v := ?_) (a' := ?_) #[true, true, true, true, true, true, true, true, true, true, true, false, false, false, false, false, false, false, false, false, false] rfl rfl (any_of HT_.out (by kernel_rfl)) (fun _ _ _ h => h) (Or.inl ⟨by rfl, ?_⟩) ?_ ?_
              rotate_left
              · intro w'
                go_simp
                with_reducible rfl
              rotate_left
              · simp only [Act.put, List.setIfInBounds_toArray, List.set_cons_zero, List.set_cons_succ, i64_w, i32_w]
                rfl
              refine pure_ (i := 11) (N := some 48) (v := ?_) (a' := ?_) #[true, true, true, true, true, true, true, true, true, true, true, true, false, false, false, false, false, false, false, false, false] rfl rfl (any_of HT_.out (by kernel_rfl)) (fun _ _ _ h => h) (Or.inl ⟨by rfl, ?_⟩) ?_ ?_
              rotate_left
              · intro w'
                go_simp
                with_reducible rfl
              rotate_left
              · simp only [Act.put, List.setIfInBounds_toArray, List.set_cons_zero, List.set_cons_succ, i64_w, i32_w]
                rfl
              refine pure_ (i := 12) (N := some 49) (v := ?_) (a' := ?_) #[true, true, true, true, true, true, true, true, true, true, true, true, true, false, false, false, false, false, false, false, false] rfl rfl (any_of HT_.out (by kernel_rfl)) (fun _ _ _ h => h) (Or.inl ⟨by rfl, ?_⟩) ?_ ?_
              rotate_left
              · intro w'
                go_simp
                with_reducible rfl
              rotate_left
              · simp only [Act.put, List.setIfInBounds_toArray, List.set_cons_zero, List.set_cons_succ, i64_w, i32_w]
                rfl
              refine pure_ (i := 13) (N := some 50) (v := undef) (a' := ?_) #[true, true, true, true, true, true, true, true, true, true, true, true, true, true, false, false, false, false, false, false, false] rfl rfl (any_of HT_.out (by kernel_rfl)) (fun _ _ _ h => h) (Or.inr ⟨by rfl, rfl⟩) ?_ ?_
              rotate_left
              · simp only [Act.put, List.setIfInBounds_toArray, List.set_cons_zero, List.set_cons_succ, i64_w, i32_w]
                rfl
              refine pure_ (i := 14) (N := some 51) (v := undef) (a' := ?_) #[true, true, true, true, true, true, true, true, true, true, true, true, true, true, true, false, false, false, false, false, false] rfl rfl (any_of HT_.out (by kernel_rfl)) (fun _ _ _ h => h) (Or.inr ⟨by rfl, rfl⟩) ?_ ?_
              rotate_left
              · simp only [Act.put, List.setIfInBounds_toArray, List.set_cons_zero, List.set_cons_succ, i64_w, i32_w]
                rfl
              refine pure_ (i := 15) (N := some 52) (v := undef) (a' := ?_) #[true, true, true, true, true, true, true, true, true, true, true, true, true, true, true, true, false, false, false, false, false] rfl rfl (any_of HT_.out (by kernel_rfl)) (fun _ _ _ h => h) (Or.inr ⟨by rfl, rfl⟩) ?_ ?_
              rotate_left
              · simp only [Act.put, List.setIfInBounds_toArray, List.set_cons_zero, List.set_cons_succ, i64_w, i32_w]
                rfl
              refine pure_ (i := 16) (N := some 53) (v := undef) (a' := ?_) #[true, true, true, true, true, true, true, true, true, true, true, true, true, true, true, true, true, false, false, false, false] rfl rfl (any_of HT_.out (by kernel_rfl)) (fun _ _ _ h => h) (Or.inr ⟨by rfl, rfl⟩) ?_ ?_
              rotate_left
              · simp only [Act.put, List.setIfInBounds_toArray, List.set_cons_zero, List.set_cons_succ, i64_w, i32_w]
                rfl
              refine pure_ (i := 17) (N := some 54) (v := undef) (a' := ?_) #[true, true, true, true, true, true, true, true, true, true, true, true, true, true, true, true, true, true, false, false, false] rfl rfl (any_of HT_.out (by kernel_rfl)) (fun _ _ _ h => h) (Or.inr ⟨by rfl, rfl⟩) ?_ ?_
              rotate_left
              · simp only [Act.put, List.setIfInBounds_toArray, List.set_cons_zero, List.set_cons_succ, i64_w, i32_w]
                rfl
              refine pure_ (i := 18) (N := some 55) (v := undef) (a' := ?_) #[true, true, true, true, true, true, true, true, true, true, true, true, true, true, true, true, true, true, true, false, false] rfl rfl (any_of HT_.out (by kernel_rfl)) (fun _ _ _ h => h) (Or.inr ⟨by rfl, rfl⟩) ?_ ?_
              rotate_left
              · simp only [Act.put, List.setIfInBounds_toArray, List.set_cons_zero, List.set_cons_succ, i64_w, i32_w]
                rfl
              refine pure_ (i := 19) (N := some 56) (v := ?_) (a' := ?_) #[true, true, true, true, true, true, true, true, true, true, true, true, true, true, true, true, true, true, true, true, false] rfl rfl (any_of HT_.out (by kernel_rfl)) (fun _ _ _ h => h) (Or.inl ⟨by rfl, ?_⟩) ?_ ?_
              rotate_left
              · intro w'
                go_simp
                with_reducible rfl
              rotate_left
              · simp only [Act.put, List.setIfInBounds_toArray, List.set_cons_zero, List.set_cons_succ, i64_w, i32_w]
                rfl
              refine pure_ (i := 20) (N := some 2) (v := ?_) (a' := ?_) #[true, true, true, true, true, true, true, true, true, true, true, true, true, true, true, true, true, true, true, true, true] rfl rfl (any_of HT_.out (by kernel_rfl)) (fun _ _ _ h => h) (Or.inl ⟨by rfl, ?_⟩) ?_ ?_
              rotate_left
              · intro w'
                go_simp
                with_reducible rfl
              rotate_left
              · simp only [Act.put, List.setIfInBounds_toArray, List.set_cons_zero, List.set_cons_succ, i64_w, i32_w]
                rfl
              refine done_ (done_of HT_.out (by kernel_rfl)) ?_
              try go_wp2
              go_ret
              exact ⟨by first | rfl | (simp [errW_none, errW_some] <;> rfl) | (simp [*, errW_none, errW_some] <;> rfl), by repeat (first | (with_reducible first | exact HB.out | apply below_alloc | apply pw_below_drewN | apply below_drew1 | refine below_set ?_ GE604.out | refine below_set ?_ GE611.out | refine below_set ?_ GE627.out) | exact HB.out)⟩
            · replace c40 := Bool.eq_false_iff.mpr c40
              subst c40
              have H1 : ((impl_Renamed.f kj5 t596 t597 t598 t599 t602 t602).bind fun bt639 => ((laws_sameExpr.f kj5 bt639.1 bt639.2.1 bt639.2.2.1 bt639.2.2.2 t596 t597 t598 t599).bind fun t645 => (some t645))) = some r := by rw [if_neg (show ¬ (false = true) by decide)] at H; exact H
              clear H
              have H := H1
              clear H1
              replace H := Option.bind_eq_some_iff.mp H
              obtain ⟨⟨t639, t640, t641, t642⟩, A560, H⟩ := H
              replace H : ((laws_sameExpr.f kj5 t639 t640 t641 t642 t596 t597 t598 t599).bind fun t645 => (some t645)) = some r := H
              have A56 := Aside0.mk A560
              clear A560
              replace H := Option.bind_eq_some_iff.mp H
              obtain ⟨t645, A570, H⟩ := H
              replace H : (some t645) = some r := H
              have A57 := Aside0.mk A570
              clear A570
              obtain rfl := Option.some.inj H
              have hnb58 := NB604_611.out
              have hnc58 := NB611_604.out
              have hcz59_0 : wc.cell? ⟨gb604, 0, none⟩ = some (.int .i64 t596) := (blk_cell BK604.out 0).trans rfl
              have hcz59_1 : wc.cell? ⟨gb604, 1, none⟩ = some (.string t597) := (blk_cell BK604.out 1).trans rfl
              have hcz59_2 : wc.cell? ⟨gb604, 2, none⟩ = some (.int .i64 t598) := (blk_cell BK604.out 2).trans rfl
              have hcz59_3 : wc.cell? ⟨gb604, 3, none⟩ = some (.slice Ao10 t599.length co10) := (blk_cell BK604.out 3).trans rfl
              have hfz59_0 := blk_frozen BK604.out 0
              have hfz59_1 := blk_frozen BK604.out 1
              have hfz59_2 := blk_frozen BK604.out 2
              have hfz59_3 := blk_frozen BK604.out 3
              try go_wp2_with (first | ((with_reducible refine gate_callee (f := 35) rfl ?_); refine goesL_ (some 36) rfl rfl Try.func35 (by kernel_rfl) rfl #[.agg #[.int .i64 t596, .string t597, .int .i64 t598, .slice Ao10 t599.length co10], .string t602, .string (⟨#[102, 114, 101, 115, 104, 32, 111, 110, 101]⟩ : ByteArray)] rfl (by (try simp only [List.map_toArray, List.map_cons, List.map_nil]); first | done | rfl | (simp only [List.length_drop, List.length_take]; rfl)) ?_; (with_reducible refine (impl_Renamed.calls kj5 t596 t597 t598 _ _ t599 t602 (⟨#[102, 114, 101, 115, 104, 32, 111, 110, 101]⟩ : ByteArray) t621 t622 t623 t624 _ ?side1 ?side2 A34.out).mono ?_); (case side1 => repeat (first | exact (Kd.N_reads' HO_605003.out).2.2 | (with_reducible refine Kd.C_alloc ?_ _) | (with_reducible refine Kd.C_drewN ?_ _) | (with_reducible refine Kd.C_drew ?_))); (case side2 => exact (Kd.N_reads' HO_605003.out).2.1); rintro e w60 ⟨v625, rfl, ho0, hb⟩; refine ⟨_, rfl, ?_⟩; have n0_ := Aside0.mk (Kd.N_elder' (by (with_reducible repeat (first | apply Kd.N_alloc | apply Kd.N_drewN | apply Kd.N_drew)); exact HO_605003.out) (by first | exact Kd.N_base ho0 | exact Kd.R_base ho0) hb); have n1_ := Aside0.mk (Kd.N_elder' (by (with_reducible repeat (first | apply Kd.N_alloc | apply Kd.N_drewN | apply Kd.N_drew)); exact HO_612003.out) (by first | exact Kd.N_base ho0 | exact Kd.R_base ho0) hb); have n2_ := Aside0.mk (Kd.N_lower (Kd.N_mono (ok' := fun k_ => some k_ ≠ (.slice Ao10 t599.length co10 : Value).ownBlock ∧ some k_ ≠ (.slice Ao15 t608.length co15 : Value).ownBlock ∧ k_ ≠ gb604 ∧ k_ ≠ gb611) (Kd.R_N (Kd.R_bound ho0)) (fun k_ hk_ => ⟨(Kd.fresh' (Kd.N_lt (by (with_reducible repeat (first | apply Kd.N_alloc | apply Kd.N_drewN | apply Kd.N_drew)); exact HO_605003.out)) k_ hk_.2.1), (Kd.fresh' (Kd.N_lt (by (with_reducible repeat (first | apply Kd.N_alloc | apply Kd.N_drewN | apply Kd.N_drew)); exact HO_612003.out)) k_ hk_.2.1), (Kd.freshB (g := gb604) (o := .cells #[.int .i64 t596, .string t597, .int .i64 t598, .slice Ao10 t599.length co10] 40 (0, 0)) (by (with_reducible repeat (first | refine blk_drewN ?_ _ | refine blk_drew ?_ | refine blk_alloc ?_ _)); exact BK604.out) k_ hk_.2.1), (Kd.freshB (g := gb611) (o := .cells #[.int .i64 t605, .string t606, .int .i64 t607, .slice Ao15 t608.length co15] 40 (0, 0)) (by (with_reducible repeat (first | refine blk_drewN ?_ _ | refine blk_drew ?_ | refine blk_alloc ?_ _)); exact BK611.out) k_ hk_.2.1)⟩)) (below_size (by repeat (first | (with_reducible first | exact HB.out | apply below_alloc | apply pw_below_drewN | apply below_drew1 | refine below_set ?_ GE604.out | refine below_set ?_ GE611.out) | exact HB.out)))); have n3_ := Aside0.mk (blk_below (g := gb604) (o := .cells #[.int .i64 t596, .string t597, .int .i64 t598, .slice Ao10 t599.length co10] 40 (0, 0)) (by (with_reducible repeat (first | refine blk_drewN ?_ _ | refine blk_drew ?_ | refine blk_alloc ?_ _)); exact BK604.out) hb); have n4_ := Aside0.mk (blk_below (g := gb611) (o := .cells #[.int .i64 t605, .string t606, .int .i64 t607, .slice Ao15 t608.length co15] 40 (0, 0)) (by (with_reducible repeat (first | refine blk_drewN ?_ _ | refine blk_drew ?_ | refine blk_alloc ?_ _)); exact BK611.out) hb); have n5_ := Aside0.mk (below_step (by repeat (first | (with_reducible first | exact HB.out | apply below_alloc | apply pw_below_drewN | apply below_drew1 | refine below_set ?_ GE604.out | refine below_set ?_ GE611.out) | exact HB.out)) hb); clear HO_605003; clear HO_612003; clear BK604; clear BK611; clear HB; have HO_605003 := n0_; have HO_612003 := n1_; have HO626 := n2_; have BK604 := n3_; have BK611 := n4_; have HB := n5_; clear n0_ n1_ n2_ n3_ n4_ n5_; (try clear hb); (try clear hb2); (try clear hk); (try clear hi); (try clear ho0)) | ((with_reducible refine gate_dst (N := 7) rfl ?_); refine box_event ?hg (N := 7) ?hd (cs := #[.int .i64 0, .string (⟨#[]⟩ : ByteArray), .int .i64 0, .slice none 0 0]) (t := 40) ?hr ?_; (case hd => rfl); (case hg => rfl); (case hr => first | (go_simp; done) | (go_simp; rfl)); intro gb627 hg w61 hbox hb; have n0_ := Aside0.mk (Kd.N_below (Kd.N_elderB (by (with_reducible repeat (first | apply Kd.N_alloc | apply Kd.N_drewN | apply Kd.N_drew)); exact HO_605003.out) gb627 (Nat.le_of_eq hg.symm)) hb); have n1_ := Aside0.mk (Kd.N_below (Kd.N_elderB (by (with_reducible repeat (first | apply Kd.N_alloc | apply Kd.N_drewN | apply Kd.N_drew)); exact HO_612003.out) gb627 (Nat.le_of_eq hg.symm)) hb); have n2_ := Aside0.mk (Kd.N_below (Kd.N_elderB (by (with_reducible repeat (first | apply Kd.N_alloc | apply Kd.N_drewN | apply Kd.N_drew)); exact HO626.out) gb627 (Nat.le_of_eq hg.symm)) hb); have n3_ := Aside0.mk (blk_below (g := gb604) (o := .cells #[.int .i64 t596, .string t597, .int .i64 t598, .slice Ao10 t599.length co10] 40 (0, 0)) (by (with_reducible repeat (first | refine blk_drewN ?_ _ | refine blk_drew ?_ | refine blk_alloc ?_ _)); exact BK604.out) hb); have n4_ := Aside0.mk (blk_below (g := gb611) (o := .cells #[.int .i64 t605, .string t606, .int .i64 t607, .slice Ao15 t608.length co15] 40 (0, 0)) (by (with_reducible repeat (first | refine blk_drewN ?_ _ | refine blk_drew ?_ | refine blk_alloc ?_ _)); exact BK611.out) hb); have n5_ := Aside0.mk (below_step (by repeat (first | (with_reducible first | exact HB.out | apply below_alloc | apply pw_below_drewN | apply below_drew1 | refine below_set ?_ GE604.out | refine below_set ?_ GE611.out) | exact HB.out)) hb); have n6_ := Aside0.mk (hbox); have n7_ := Aside0.mk ((by rw [hg]; exact (below_size (by repeat (first | (with_reducible first | exact HB.out | apply below_alloc | apply pw_below_drewN | apply below_drew1 | refine below_set ?_ GE604.out | refine below_set ?_ GE611.out) | exact HB.out))) : w.heap.size ≤ gb627)); have n8_ := Aside0.mk ((by rw [hg]; exact (below_size (by repeat (first | (with_reducible first | exact HB.out | apply below_alloc | apply pw_below_drewN | apply below_drew1 | refine below_set ?_ GE604.out | refine below_set ?_ GE611.out) | exact HB.out))) : w.heap.size ≤ gb627)); have n9_ := Aside0.mk ((by rw [hg]; exact Nat.ne_of_lt (blk_lt (g := gb604) (o := .cells #[.int .i64 t596, .string t597, .int .i64 t598, .slice Ao10 t599.length co10] 40 (0, 0)) (by (with_reducible repeat (first | refine blk_drewN ?_ _ | refine blk_drew ?_ | refine blk_alloc ?_ _)); exact BK604.out)) : gb604 ≠ gb627)); have n10_ := Aside0.mk ((by rw [hg]; exact Nat.ne_of_gt (blk_lt (g := gb604) (o := .cells #[.int .i64 t596, .string t597, .int .i64 t598, .slice Ao10 t599.length co10] 40 (0, 0)) (by (with_reducible repeat (first | refine blk_drewN ?_ _ | refine blk_drew ?_ | refine blk_alloc ?_ _)); exact BK604.out)) : gb627 ≠ gb604)); have n11_ := Aside0.mk ((by rw [hg]; exact Nat.ne_of_lt (blk_lt (g := gb611) (o := .cells #[.int .i64 t605, .string t606, .int .i64 t607, .slice Ao15 t608.length co15] 40 (0, 0)) (by (with_reducible repeat (first | refine blk_drewN ?_ _ | refine blk_drew ?_ | refine blk_alloc ?_ _)); exact BK611.out)) : gb611 ≠ gb627)); have n12_ := Aside0.mk ((by rw [hg]; exact Nat.ne_of_gt (blk_lt (g := gb611) (o := .cells #[.int .i64 t605, .string t606, .int .i64 t607, .slice Ao15 t608.length co15] 40 (0, 0)) (by (with_reducible repeat (first | refine blk_drewN ?_ _ | refine blk_drew ?_ | refine blk_alloc ?_ _)); exact BK611.out)) : gb627 ≠ gb611)); clear HO_605003; clear HO_612003; clear HO626; clear BK604; clear BK611; clear HB; have HO_605003 := n0_; have HO_612003 := n1_; have HO626 := n2_; have BK604 := n3_; have BK611 := n4_; have HB := n5_; have BK627 := n6_; have GW627 := n7_; have GE627 := n8_; have NB604_627 := n9_; have NB627_604 := n10_; have NB611_627 := n11_; have NB627_611 := n12_; clear n0_ n1_ n2_ n3_ n4_ n5_ n6_ n7_ n8_ n9_ n10_ n11_ n12_; clear hb hbox hg; have hnb62 := NB627_604.out; have hnc62 := NB604_627.out; have hnb63 := NB627_611.out; have hnc63 := NB611_627.out; have hcz64_0 : w61.cell? ⟨gb627, 0, none⟩ = some (.int .i64 0) := (blk_cell BK627.out 0).trans rfl; have hcz64_1 : w61.cell? ⟨gb627, 1, none⟩ = some (.string (⟨#[]⟩ : ByteArray)) := (blk_cell BK627.out 1).trans rfl; have hcz64_2 : w61.cell? ⟨gb627, 2, none⟩ = some (.int .i64 0) := (blk_cell BK627.out 2).trans rfl; have hcz64_3 : w61.cell? ⟨gb627, 3, none⟩ = some (.slice none 0 0) := (blk_cell BK627.out 3).trans rfl; have hfz64_0 := blk_frozen BK627.out 0; have hfz64_1 := blk_frozen BK627.out 1; have hfz64_2 := blk_frozen BK627.out 2; have hfz64_3 := blk_frozen BK627.out 3; obtain ⟨Ao65, co65, eo65⟩ := Kd.N_slice HO626.out; subst eo65))
              have n0_ : Aside0 (Kd.N k40 40 ((((w61.setCell ⟨gb627, 0, none⟩ (.int .i64 t621)).setCell ⟨gb627, 1, none⟩ (.string t622)).setCell ⟨gb627, 2, none⟩ (.int .i64 t623)).setCell ⟨gb627, 3, none⟩ (.slice Ao65 t624.length co65)) w.heap.size (fun k_ => some k_ ≠ (.slice Ao15 t608.length co15 : Value).ownBlock ∧ some k_ ≠ (.slice Ao65 t624.length co65 : Value).ownBlock ∧ k_ ≠ gb604 ∧ k_ ≠ gb611 ∧ k_ ≠ gb627) (.slice Ao10 t599.length co10) t599) := ⟨by (with_reducible repeat (first | apply Kd.N_alloc | apply Kd.N_drewN | apply Kd.N_drew)); exact Kd.N_mono (Kd.N_far (p := ⟨gb627, 3, none⟩) (Kd.N_far (p := ⟨gb627, 2, none⟩) (Kd.N_far (p := ⟨gb627, 1, none⟩) (Kd.N_far (p := ⟨gb627, 0, none⟩) (Kd.N_mono HO_605003.out (fun k_ hk => (⟨hk, hk.2⟩ : _ ∧ k_ ≠ gb627))) (fun _ hk => hk.2) (.int .i64 t621)) (fun _ hk => hk.2) (.string t622)) (fun _ hk => hk.2) (.int .i64 t623)) (fun _ hk => hk.2) (.slice Ao65 t624.length co65)) (fun _ hk => ⟨hk.1.1.1.1, ⟨hk.1.1.2, ⟨hk.1.1.1.2.1, ⟨hk.1.1.1.2.2, hk.1.2⟩⟩⟩⟩)⟩
              have n1_ : Aside0 (Kd.N k40 40 ((((w61.setCell ⟨gb627, 0, none⟩ (.int .i64 t621)).setCell ⟨gb627, 1, none⟩ (.string t622)).setCell ⟨gb627, 2, none⟩ (.int .i64 t623)).setCell ⟨gb627, 3, none⟩ (.slice Ao65 t624.length co65)) w.heap.size (fun k_ => some k_ ≠ (.slice Ao10 t599.length co10 : Value).ownBlock ∧ some k_ ≠ (.slice Ao65 t624.length co65 : Value).ownBlock ∧ k_ ≠ gb604 ∧ k_ ≠ gb611 ∧ k_ ≠ gb627) (.slice Ao15 t608.length co15) t608) := ⟨by (with_reducible repeat (first | apply Kd.N_alloc | apply Kd.N_drewN | apply Kd.N_drew)); exact Kd.N_mono (Kd.N_far (p := ⟨gb627, 3, none⟩) (Kd.N_far (p := ⟨gb627, 2, none⟩) (Kd.N_far (p := ⟨gb627, 1, none⟩) (Kd.N_far (p := ⟨gb627, 0, none⟩) (Kd.N_mono HO_612003.out (fun k_ hk => (⟨hk, hk.2⟩ : _ ∧ k_ ≠ gb627))) (fun _ hk => hk.2) (.int .i64 t621)) (fun _ hk => hk.2) (.string t622)) (fun _ hk => hk.2) (.int .i64 t623)) (fun _ hk => hk.2) (.slice Ao65 t624.length co65)) (fun _ hk => ⟨hk.1.1.1.1, ⟨hk.1.1.2, ⟨hk.1.1.1.2.1, ⟨hk.1.1.1.2.2, hk.1.2⟩⟩⟩⟩)⟩
              have n2_ : Aside0 (Kd.N k40 40 ((((w61.setCell ⟨gb627, 0, none⟩ (.int .i64 t621)).setCell ⟨gb627, 1, none⟩ (.string t622)).setCell ⟨gb627, 2, none⟩ (.int .i64 t623)).setCell ⟨gb627, 3, none⟩ (.slice Ao65 t624.length co65)) w.heap.size (fun k_ => some k_ ≠ (.slice Ao10 t599.length co10 : Value).ownBlock ∧ some k_ ≠ (.slice Ao15 t608.length co15 : Value).ownBlock ∧ k_ ≠ gb604 ∧ k_ ≠ gb611 ∧ k_ ≠ gb627) (.slice Ao65 t624.length co65) t624) := ⟨by (with_reducible repeat (first | apply Kd.N_alloc | apply Kd.N_drewN | apply Kd.N_drew)); exact Kd.N_mono (Kd.N_far (p := ⟨gb627, 3, none⟩) (Kd.N_far (p := ⟨gb627, 2, none⟩) (Kd.N_far (p := ⟨gb627, 1, none⟩) (Kd.N_far (p := ⟨gb627, 0, none⟩) (Kd.N_mono HO626.out (fun k_ hk => (⟨hk, hk.2⟩ : _ ∧ k_ ≠ gb627))) (fun _ hk => hk.2) (.int .i64 t621)) (fun _ hk => hk.2) (.string t622)) (fun _ hk => hk.2) (.int .i64 t623)) (fun _ hk => hk.2) (.slice Ao65 t624.length co65)) (fun _ hk => ⟨hk.1.1.1, ⟨hk.1.1.2.1, ⟨hk.1.1.2.2.1, ⟨hk.1.1.2.2.2, hk.1.2⟩⟩⟩⟩)⟩
              have n3_ : Aside0 (((((w61.setCell ⟨gb627, 0, none⟩ (.int .i64 t621)).setCell ⟨gb627, 1, none⟩ (.string t622)).setCell ⟨gb627, 2, none⟩ (.int .i64 t623)).setCell ⟨gb627, 3, none⟩ (.slice Ao65 t624.length co65)).heap[gb604]? = some (.cells #[.int .i64 t596, .string t597, .int .i64 t598, .slice Ao10 t599.length co10] 40 (0, 0))) := ⟨by (with_reducible repeat (first | refine blk_drewN ?_ _ | refine blk_drew ?_ | refine blk_alloc ?_ _)); refine blk_far ?_ NB604_627.out _; (with_reducible repeat (first | refine blk_drewN ?_ _ | refine blk_drew ?_ | refine blk_alloc ?_ _)); refine blk_far ?_ NB604_627.out _; (with_reducible repeat (first | refine blk_drewN ?_ _ | refine blk_drew ?_ | refine blk_alloc ?_ _)); refine blk_far ?_ NB604_627.out _; (with_reducible repeat (first | refine blk_drewN ?_ _ | refine blk_drew ?_ | refine blk_alloc ?_ _)); refine blk_far ?_ NB604_627.out _; (with_reducible repeat (first | refine blk_drewN ?_ _ | refine blk_drew ?_ | refine blk_alloc ?_ _)); exact BK604.out⟩
              have n4_ : Aside0 (((((w61.setCell ⟨gb627, 0, none⟩ (.int .i64 t621)).setCell ⟨gb627, 1, none⟩ (.string t622)).setCell ⟨gb627, 2, none⟩ (.int .i64 t623)).setCell ⟨gb627, 3, none⟩ (.slice Ao65 t624.length co65)).heap[gb611]? = some (.cells #[.int .i64 t605, .string t606, .int .i64 t607, .slice Ao15 t608.length co15] 40 (0, 0))) := ⟨by (with_reducible repeat (first | refine blk_drewN ?_ _ | refine blk_drew ?_ | refine blk_alloc ?_ _)); refine blk_far ?_ NB611_627.out _; (with_reducible repeat (first | refine blk_drewN ?_ _ | refine blk_drew ?_ | refine blk_alloc ?_ _)); refine blk_far ?_ NB611_627.out _; (with_reducible repeat (first | refine blk_drewN ?_ _ | refine blk_drew ?_ | refine blk_alloc ?_ _)); refine blk_far ?_ NB611_627.out _; (with_reducible repeat (first | refine blk_drewN ?_ _ | refine blk_drew ?_ | refine blk_alloc ?_ _)); refine blk_far ?_ NB611_627.out _; (with_reducible repeat (first | refine blk_drewN ?_ _ | refine blk_drew ?_ | refine blk_alloc ?_ _)); exact BK611.out⟩
              have n5_ : Aside0 (((((w61.setCell ⟨gb627, 0, none⟩ (.int .i64 t621)).setCell ⟨gb627, 1, none⟩ (.string t622)).setCell ⟨gb627, 2, none⟩ (.int .i64 t623)).setCell ⟨gb627, 3, none⟩ (.slice Ao65 t624.length co65)).heap[gb627]? = some (.cells #[.int .i64 t621, .string t622, .int .i64 t623, .slice Ao65 t624.length co65] 40 (0, 0))) := ⟨by (with_reducible repeat (first | refine blk_drewN ?_ _ | refine blk_drew ?_ | refine blk_alloc ?_ _)); refine blk_put (cs := #[.int .i64 t621, .string t622, .int .i64 t623, .slice none 0 0]) ?_ 3 _ rfl; (with_reducible repeat (first | refine blk_drewN ?_ _ | refine blk_drew ?_ | refine blk_alloc ?_ _)); refine blk_put (cs := #[.int .i64 t621, .string t622, .int .i64 0, .slice none 0 0]) ?_ 2 _ rfl; (with_reducible repeat (first | refine blk_drewN ?_ _ | refine blk_drew ?_ | refine blk_alloc ?_ _)); refine blk_put (cs := #[.int .i64 t621, .string (⟨#[]⟩ : ByteArray), .int .i64 0, .slice none 0 0]) ?_ 1 _ rfl; (with_reducible repeat (first | refine blk_drewN ?_ _ | refine blk_drew ?_ | refine blk_alloc ?_ _)); refine blk_put (cs := #[.int .i64 0, .string (⟨#[]⟩ : ByteArray), .int .i64 0, .slice none 0 0]) ?_ 0 _ rfl; (with_reducible repeat (first | refine blk_drewN ?_ _ | refine blk_drew ?_ | refine blk_alloc ?_ _)); exact BK627.out⟩
              have n6_ : Aside0 (Below w.heap.size w ((((w61.setCell ⟨gb627, 0, none⟩ (.int .i64 t621)).setCell ⟨gb627, 1, none⟩ (.string t622)).setCell ⟨gb627, 2, none⟩ (.int .i64 t623)).setCell ⟨gb627, 3, none⟩ (.slice Ao65 t624.length co65))) := ⟨by repeat (first | (with_reducible first | exact HB.out | apply below_alloc | apply pw_below_drewN | apply below_drew1 | refine below_set ?_ GE604.out | refine below_set ?_ GE611.out | refine below_set ?_ GE627.out) | exact HB.out)⟩
              (try clear HO_605003)
              (try clear HO_612003)
              (try clear HO626)
              (try clear BK604)
              (try clear BK611)
              (try clear BK627)
              (try clear HB)
              generalize ((((w61.setCell ⟨gb627, 0, none⟩ (.int .i64 t621)).setCell ⟨gb627, 1, none⟩ (.string t622)).setCell ⟨gb627, 2, none⟩ (.int .i64 t623)).setCell ⟨gb627, 3, none⟩ (.slice Ao65 t624.length co65)) = w66 at n0_ n1_ n2_ n3_ n4_ n5_ n6_ ⊢
              have HO_605003 := n0_
              have HO_612003 := n1_
              have HO626 := n2_
              have BK604 := n3_
              have BK611 := n4_
              have BK627 := n5_
              have HB := n6_
              clear n0_ n1_ n2_ n3_ n4_ n5_ n6_
              have n0_ := Aside0.mk (Kd.N_drew HO_605003.out)
              have n1_ := Aside0.mk (Kd.N_drew HO_612003.out)
              have n2_ := Aside0.mk (Kd.N_drew HO626.out)
              have n3_ := Aside0.mk (blk_drew BK604.out)
              have n4_ := Aside0.mk (blk_drew BK611.out)
              have n5_ := Aside0.mk (blk_drew BK627.out)
              have n6_ := Aside0.mk (below_drew1 HB.out)
              clear HO_605003
              clear HO_612003
              clear HO626
              clear BK604
              clear BK611
              clear BK627
              clear HB
              have HO_605003 := n0_
              have HO_612003 := n1_
              have HO626 := n2_
              have BK604 := n3_
              have BK611 := n4_
              have BK627 := n5_
              have HB := n6_
              clear n0_ n1_ n2_ n3_ n4_ n5_ n6_
              refine start_ (n := 21) (S := fun w' => w'.cell? ⟨gb627, 0, none⟩ = some (.int .i64 t621) ∧ w'.cell? ⟨gb627, 1, none⟩ = some (.string t622) ∧ w'.cell? ⟨gb627, 2, none⟩ = some (.int .i64 t623) ∧ w'.cell? ⟨gb627, 3, none⟩ = some (.slice Ao65 t624.length co65) ∧ w'.cell? ⟨gb604, 0, none⟩ = some (.int .i64 t596) ∧ w'.cell? ⟨gb604, 1, none⟩ = some (.string t597) ∧ w'.cell? ⟨gb604, 2, none⟩ = some (.int .i64 t598) ∧ w'.cell? ⟨gb604, 3, none⟩ = some (.slice Ao10 t599.length co10)) (ds := []) #[false, false, false, false, false, false, false, false, false, false, false, false, false, false, false, false, false, false, false, false, false] (by kernel_rfl) rfl rfl ⟨(blk_cell BK627.out 0).trans rfl, (blk_cell BK627.out 1).trans rfl, (blk_cell BK627.out 2).trans rfl, (blk_cell BK627.out 3).trans rfl, (blk_cell BK604.out 0).trans rfl, (blk_cell BK604.out 1).trans rfl, (blk_cell BK604.out 2).trans rfl, (blk_cell BK604.out 3).trans rfl⟩ (fun hHeld => ?_); refine with_tabW laws_FnRenamed.tab8 laws_FnRenamed.bits8 (fun HT_ HW_ => ?_)
              generalize w66.drew = w67 at HO_605003 HO_612003 HO626 BK604 BK611 BK627 HB hHeld ⊢
              refine pure_ (i := 1) (N := some 38) (v := ?_) (a' := ?_) #[false, true, false, false, false, false, false, false, false, false, false, false, false, false, false, false, false, false, false, false, false] rfl rfl (any_of HT_.out (by kernel_rfl)) (fun _ _ _ h => h) (Or.inl ⟨by rfl, ?_⟩) ?_ ?_
              rotate_left
              · intro w'
                go_simp
                with_reducible rfl
              rotate_left
              · simp only [Act.put, List.setIfInBounds_toArray, List.set_cons_zero, List.set_cons_succ, i64_w, i32_w]
                rfl
              refine take_ (i := 0) (N := some 37) (v := ?_) (a' := ?_) #[true, true, false, false, false, false, false, false, false, false, false, false, false, false, false, false, false, false, false, false, false] rfl rfl (take_ofW HT_.out HW_.out (by kernel_rfl)) (fun _ _ _ h => h) (Or.inl ⟨by rfl, ?_⟩) hHeld ?_ ?_
              rotate_left
              · rintro w' ⟨s0, s1, s2, s3, s4, s5, s6, s7⟩
                go_simp
                with_reducible rfl
              rotate_left
              · simp only [Act.put, List.setIfInBounds_toArray, List.set_cons_zero, List.set_cons_succ, i64_w, i32_w]
                rfl
              refine take_ (i := 3) (N := some 40) (v := ?_) (a' := ?_) #[true, true, false, true, false, false, false, false, false, false, false, false, false, false, false, false, false, false, false, false, false] rfl rfl (take_ofW HT_.out HW_.out (by kernel_rfl)) (fun _ _ _ h => h) (Or.inl ⟨by rfl, ?_⟩) hHeld ?_ ?_
              rotate_left
              · rintro w' ⟨s0, s1, s2, s3, s4, s5, s6, s7⟩
                go_simp
                with_reducible rfl
              rotate_left
              · simp only [Act.put, List.setIfInBounds_toArray, List.set_cons_zero, List.set_cons_succ, i64_w, i32_w]
                rfl
              refine one_ (i := 2) (N := some 39) #[true, true, true, true, false, false, false, false, false, false, false, false, false, false, false, false, false, false, false, false, false] rfl rfl (one_of HT_.out (by kernel_rfl)) (by decide) (fun K hK => ?_)
              refine goes_ Try.func35 (by kernel_rfl) rfl #[.agg #[.int .i64 t621, .string t622, .int .i64 t623, .slice Ao65 t624.length co65], .string (⟨#[102, 114, 101, 115, 104, 32, 111, 110, 101]⟩ : ByteArray), .string t602] (by rfl) rfl rfl (by (try simp only [List.map_toArray, List.map_cons, List.map_nil]); first | done | rfl | (simp only [List.length_drop, List.length_take]; rfl)) ?_
              with_reducible refine (impl_Renamed.calls kj5 t621 t622 t623 _ _ t624 (⟨#[102, 114, 101, 115, 104, 32, 111, 110, 101]⟩ : ByteArray) t602 t628 t629 t630 t631 _ ?side1 ?side2 A35.out).mono ?_
              (case side1 => repeat (first | exact (Kd.N_reads' HO626.out).2.2 | (with_reducible refine Kd.C_alloc ?_ _) | (with_reducible refine Kd.C_drewN ?_ _) | (with_reducible refine Kd.C_drew ?_)))
              (case side2 => exact (Kd.N_reads' HO626.out).2.1)
              rintro e w68 ⟨v632, rfl, ho0, hb⟩
              refine ⟨_, rfl, ?_⟩
              have n0_ := Aside0.mk (Kd.N_elder' (by (with_reducible repeat (first | apply Kd.N_alloc | apply Kd.N_drewN | apply Kd.N_drew)); exact HO_605003.out) (by first | exact Kd.N_base ho0 | exact Kd.R_base ho0) hb)
              have n1_ := Aside0.mk (Kd.N_elder' (by (with_reducible repeat (first | apply Kd.N_alloc | apply Kd.N_drewN | apply Kd.N_drew)); exact HO_612003.out) (by first | exact Kd.N_base ho0 | exact Kd.R_base ho0) hb)
              have n2_ := Aside0.mk (Kd.N_elder' (by (with_reducible repeat (first | apply Kd.N_alloc | apply Kd.N_drewN | apply Kd.N_drew)); exact HO626.out) (by first | exact Kd.N_base ho0 | exact Kd.R_base ho0) hb)
              have n3_ := Aside0.mk (Kd.N_lower (Kd.N_mono (ok' := fun k_ => some k_ ≠ (.slice Ao10 t599.length co10 : Value).ownBlock ∧ some k_ ≠ (.slice Ao15 t608.length co15 : Value).ownBlock ∧ some k_ ≠ (.slice Ao65 t624.length co65 : Value).ownBlock ∧ k_ ≠ gb604 ∧ k_ ≠ gb611 ∧ k_ ≠ gb627) (Kd.R_N (Kd.R_bound ho0)) (fun k_ hk_ => ⟨(Kd.fresh' (Kd.N_lt (by (with_reducible repeat (first | apply Kd.N_alloc | apply Kd.N_drewN | apply Kd.N_drew)); exact HO_605003.out)) k_ hk_.2.1), (Kd.fresh' (Kd.N_lt (by (with_reducible repeat (first | apply Kd.N_alloc | apply Kd.N_drewN | apply Kd.N_drew)); exact HO_612003.out)) k_ hk_.2.1), (Kd.fresh' (Kd.N_lt (by (with_reducible repeat (first | apply Kd.N_alloc | apply Kd.N_drewN | apply Kd.N_drew)); exact HO626.out)) k_ hk_.2.1), (Kd.freshB (g := gb604) (o := .cells #[.int .i64 t596, .string t597, .int .i64 t598, .slice Ao10 t599.length co10] 40 (0, 0)) (by (with_reducible repeat (first | refine blk_drewN ?_ _ | refine blk_drew ?_ | refine blk_alloc ?_ _)); exact BK604.out) k_ hk_.2.1), (Kd.freshB (g := gb611) (o := .cells #[.int .i64 t605, .string t606, .int .i64 t607, .slice Ao15 t608.length co15] 40 (0, 0)) (by (with_reducible repeat (first | refine blk_drewN ?_ _ | refine blk_drew ?_ | refine blk_alloc ?_ _)); exact BK611.out) k_ hk_.2.1), (Kd.freshB (g := gb627) (o := .cells #[.int .i64 t621, .string t622, .int .i64 t623, .slice Ao65 t624.length co65] 40 (0, 0)) (by (with_reducible repeat (first | refine blk_drewN ?_ _ | refine blk_drew ?_ | refine blk_alloc ?_ _)); exact BK627.out) k_ hk_.2.1)⟩)) (below_size (by repeat (first | (with_reducible first | exact HB.out | apply below_alloc | apply pw_below_drewN | apply below_drew1 | refine below_set ?_ GE604.out | refine below_set ?_ GE611.out | refine below_set ?_ GE627.out) | exact HB.out))))
              have n4_ := Aside0.mk (blk_below (g := gb604) (o := .cells #[.int .i64 t596, .string t597, .int .i64 t598, .slice Ao10 t599.length co10] 40 (0, 0)) (by (with_reducible repeat (first | refine blk_drewN ?_ _ | refine blk_drew ?_ | refine blk_alloc ?_ _)); exact BK604.out) hb)
              have n5_ := Aside0.mk (blk_below (g := gb611) (o := .cells #[.int .i64 t605, .string t606, .int .i64 t607, .slice Ao15 t608.length co15] 40 (0, 0)) (by (with_reducible repeat (first | refine blk_drewN ?_ _ | refine blk_drew ?_ | refine blk_alloc ?_ _)); exact BK611.out) hb)
              have n6_ := Aside0.mk (blk_below (g := gb627) (o := .cells #[.int .i64 t621, .string t622, .int .i64 t623, .slice Ao65 t624.length co65] 40 (0, 0)) (by (with_reducible repeat (first | refine blk_drewN ?_ _ | refine blk_drew ?_ | refine blk_alloc ?_ _)); exact BK627.out) hb)
              have n7_ := Aside0.mk (below_step (by repeat (first | (with_reducible first | exact HB.out | apply below_alloc | apply pw_below_drewN | apply below_drew1 | refine below_set ?_ GE604.out | refine below_set ?_ GE611.out | refine below_set ?_ GE627.out) | exact HB.out)) hb)
              clear HO_605003
              clear HO_612003
              clear HO626
              clear BK604
              clear BK611
              clear BK627
              clear HB
              have HO_605003 := n0_
              have HO_612003 := n1_
              have HO626 := n2_
              have HO633 := n3_
              have BK604 := n4_
              have BK611 := n5_
              have BK627 := n6_
              have HB := n7_
              clear n0_ n1_ n2_ n3_ n4_ n5_ n6_ n7_
              (try clear hb)
              (try clear hb2)
              (try clear hk)
              (try clear hi)
              (try clear ho0)
              obtain ⟨Ao69, co69, eo69⟩ := Kd.N_slice HO633.out
              (first | subst eo69 | (injection eo69 with f1_ f2_ f3_; have f4_ := f1_.symm; have f5_ := f3_.symm; clear f1_ f2_ f3_; subst f4_; subst f5_))
              refine hK.out _ _ ⟨(blk_cell BK627.out 0).trans rfl, (blk_cell BK627.out 1).trans rfl, (blk_cell BK627.out 2).trans rfl, (blk_cell BK627.out 3).trans rfl, (blk_cell BK604.out 0).trans rfl, (blk_cell BK604.out 1).trans rfl, (blk_cell BK604.out 2).trans rfl, (blk_cell BK604.out 3).trans rfl⟩ (fun hHeld => ?_)
              clear hK K
              refine norm_ (a' := ?_) ?_ ?_
              rotate_left
              · show Act.put _ (some 39) _ = _
                simp only [Act.put, List.setIfInBounds_toArray, List.set_cons_zero, List.set_cons_succ, i64_w, i32_w]
                rfl
              refine one_ (i := 4) (N := some 41) #[true, true, true, true, true, false, false, false, false, false, false, false, false, false, false, false, false, false, false, false, false] rfl rfl (one_of HT_.out (by kernel_rfl)) (by decide) (fun K hK => ?_)
              refine goes_ Try.func40 (by kernel_rfl) rfl #[.agg #[.int .i64 t628, .string t629, .int .i64 t630, .slice Ao69 t631.length co69], .agg #[.int .i64 t596, .string t597, .int .i64 t598, .slice Ao10 t599.length co10]] (by rfl) rfl rfl (by (try simp only [List.map_toArray, List.map_cons, List.map_nil]); first | done | rfl | (simp only [List.length_drop, List.length_take]; rfl)) ?_
              with_reducible refine (laws_sameExpr.calls kj5 t628 t629 t630 _ _ t631 t596 t597 t598 _ _ t599 true _ ?side1 ?side2 ?side3 ?side4 A36.out).mono ?_
              (case side1 => repeat (first | exact (Kd.N_reads' HO633.out).2.2 | (with_reducible refine Kd.C_alloc ?_ _) | (with_reducible refine Kd.C_drewN ?_ _) | (with_reducible refine Kd.C_drew ?_)))
              (case side2 => exact (Kd.N_reads' HO633.out).2.1)
              (case side3 => repeat (first | exact (Kd.N_reads' HO_605003.out).2.2 | (with_reducible refine Kd.C_alloc ?_ _) | (with_reducible refine Kd.C_drewN ?_ _) | (with_reducible refine Kd.C_drew ?_)))
              (case side4 => exact (Kd.N_reads' HO_605003.out).2.1)
              rintro e w70 ⟨rfl, hb⟩
              refine ⟨_, rfl, ?_⟩
              have n0_ := Aside0.mk (Kd.N_below (by (with_reducible repeat (first | apply Kd.N_alloc | apply Kd.N_drewN | apply Kd.N_drew)); exact HO_605003.out) hb)
              have n1_ := Aside0.mk (Kd.N_below (by (with_reducible repeat (first | apply Kd.N_alloc | apply Kd.N_drewN | apply Kd.N_drew)); exact HO_612003.out) hb)
              have n2_ := Aside0.mk (Kd.N_below (by (with_reducible repeat (first | apply Kd.N_alloc | apply Kd.N_drewN | apply Kd.N_drew)); exact HO626.out) hb)
              have n3_ := Aside0.mk (Kd.N_below (by (with_reducible repeat (first | apply Kd.N_alloc | apply Kd.N_drewN | apply Kd.N_drew)); exact HO633.out) hb)
              have n4_ := Aside0.mk (blk_below (g := gb604) (o := .cells #[.int .i64 t596, .string t597, .int .i64 t598, .slice Ao10 t599.length co10] 40 (0, 0)) (by (with_reducible repeat (first | refine blk_drewN ?_ _ | refine blk_drew ?_ | refine blk_alloc ?_ _)); exact BK604.out) hb)
              have n5_ := Aside0.mk (blk_below (g := gb611) (o := .cells #[.int .i64 t605, .string t606, .int .i64 t607, .slice Ao15 t608.length co15] 40 (0, 0)) (by (with_reducible repeat (first | refine blk_drewN ?_ _ | refine blk_drew ?_ | refine blk_alloc ?_ _)); exact BK611.out) hb)
              have n6_ := Aside0.mk (blk_below (g := gb627) (o := .cells #[.int .i64 t621, .string t622, .int .i64 t623, .slice Ao65 t624.length co65] 40 (0, 0)) (by (with_reducible repeat (first | refine blk_drewN ?_ _ | refine blk_drew ?_ | refine blk_alloc ?_ _)); exact BK627.out) hb)
              have n7_ := Aside0.mk (below_step (by repeat (first | (with_reducible first | exact HB.out | apply below_alloc | apply pw_below_drewN | apply below_drew1 | refine below_set ?_ GE604.out | refine below_set ?_ GE611.out | refine below_set ?_ GE627.out) | exact HB.out)) hb)
              clear HO_605003
              clear HO_612003
              clear HO626
              clear HO633
              clear BK604
              clear BK611
              clear BK627
              clear HB
              have HO_605003 := n0_
              have HO_612003 := n1_
              have HO626 := n2_
              have HO633 := n3_
              have BK604 := n4_
              have BK611 := n5_
              have BK627 := n6_
              have HB := n7_
              clear n0_ n1_ n2_ n3_ n4_ n5_ n6_ n7_
              (try clear hb)
              (try clear hb2)
              (try clear hk)
              (try clear hi)
              refine hK.out _ _ ⟨(blk_cell BK627.out 0).trans rfl, (blk_cell BK627.out 1).trans rfl, (blk_cell BK627.out 2).trans rfl, (blk_cell BK627.out 3).trans rfl, (blk_cell BK604.out 0).trans rfl, (blk_cell BK604.out 1).trans rfl, (blk_cell BK604.out 2).trans rfl, (blk_cell BK604.out 3).trans rfl⟩ (fun hHeld => ?_)
              clear hK K
              refine norm_ (a' := ?_) ?_ ?_
              rotate_left
              · show Act.put _ (some 41) _ = _
                simp only [Act.put, List.setIfInBounds_toArray, List.set_cons_zero, List.set_cons_succ, i64_w, i32_w]
                rfl
              refine pure_ (i := 5) (N := some 42) (v := ?_) (a' := ?_) #[true, true, true, true, true, true, false, false, false, false, false, false, false, false, false, false, false, false, false, false, false] rfl rfl (any_of HT_.out (by kernel_rfl)) (fun _ _ _ h => h) (Or.inl ⟨by rfl, ?_⟩) ?_ ?_
              rotate_left
              · intro w'
                go_simp
                with_reducible rfl
              rotate_left
              · simp only [Act.put, List.setIfInBounds_toArray, List.set_cons_zero, List.set_cons_succ, i64_w, i32_w]
                rfl
              refine pure_ (i := 8) (N := some 45) (v := ?_) (a' := ?_) #[true, true, true, true, true, true, false, false, true, false, false, false, false, false, false, false, false, false, false, false, false] rfl rfl (any_of HT_.out (by kernel_rfl)) (fun _ _ _ h => h) (Or.inl ⟨by rfl, ?_⟩) ?_ ?_
              rotate_left
              · intro w'
                go_simp
                with_reducible rfl
              rotate_left
              · simp only [Act.put, List.setIfInBounds_toArray, List.set_cons_zero, List.set_cons_succ, i64_w, i32_w]
                rfl
              refine take_ (i := 6) (N := some 43) (v := ?_) (a' := ?_) #[true, true, true, true, true, true, true, false, true, false, false, false, false, false, false, false, false, false, false, false, false] rfl rfl (take_ofW HT_.out HW_.out (by kernel_rfl)) (fun _ _ _ h => h) (Or.inl ⟨by rfl, ?_⟩) hHeld ?_ ?_
              rotate_left
              · rintro w' ⟨s0, s1, s2, s3, s4, s5, s6, s7⟩
                go_simp
                with_reducible rfl
              rotate_left
              · simp only [Act.put, List.setIfInBounds_toArray, List.set_cons_zero, List.set_cons_succ, i64_w, i32_w]
                rfl
              refine one_ (i := 7) (N := some 44) #[true, true, true, true, true, true, true, true, true, false, false, false, false, false, false, false, false, false, false, false, false] rfl rfl (one_of HT_.out (by kernel_rfl)) (by decide) (fun K hK => ?_)
              refine goes_ Try.func42 (by kernel_rfl) rfl #[.agg #[.int .i64 t621, .string t622, .int .i64 t623, .slice Ao65 t624.length co65]] (by rfl) rfl rfl (by (try simp only [List.map_toArray, List.map_cons, List.map_nil]); first | done | rfl | (simp only [List.length_drop, List.length_take]; rfl)) ?_
              with_reducible refine (impl_Columns.calls kj5 t621 t622 t623 _ _ t624 t635 _ ?side1 ?side2 A38.out).mono ?_
              (case side1 => repeat (first | exact (Kd.N_reads' HO626.out).2.2 | (with_reducible refine Kd.C_alloc ?_ _) | (with_reducible refine Kd.C_drewN ?_ _) | (with_reducible refine Kd.C_drew ?_)))
              (case side2 => exact (Kd.N_reads' HO626.out).2.1)
              rintro e w71 ⟨v636, rfl, ho0, hb⟩
              refine ⟨_, rfl, ?_⟩
              have n0_ := Aside0.mk (Kd.N_elder' (by (with_reducible repeat (first | apply Kd.N_alloc | apply Kd.N_drewN | apply Kd.N_drew)); exact HO_605003.out) (Kd.R_base ho0) hb)
              have n1_ := Aside0.mk (Kd.N_elder' (by (with_reducible repeat (first | apply Kd.N_alloc | apply Kd.N_drewN | apply Kd.N_drew)); exact HO_612003.out) (Kd.R_base ho0) hb)
              have n2_ := Aside0.mk (Kd.N_elder' (by (with_reducible repeat (first | apply Kd.N_alloc | apply Kd.N_drewN | apply Kd.N_drew)); exact HO626.out) (Kd.R_base ho0) hb)
              have n3_ := Aside0.mk (Kd.N_elder' (by (with_reducible repeat (first | apply Kd.N_alloc | apply Kd.N_drewN | apply Kd.N_drew)); exact HO633.out) (Kd.R_base ho0) hb)
              have n4_ := Aside0.mk (Kd.R_lower ho0 (below_size (by repeat (first | (with_reducible first | exact HB.out | apply below_alloc | apply pw_below_drewN | apply below_drew1 | refine below_set ?_ GE604.out | refine below_set ?_ GE611.out | refine below_set ?_ GE627.out) | exact HB.out))))
              have n5_ := Aside0.mk (blk_below (g := gb604) (o := .cells #[.int .i64 t596, .string t597, .int .i64 t598, .slice Ao10 t599.length co10] 40 (0, 0)) (by (with_reducible repeat (first | refine blk_drewN ?_ _ | refine blk_drew ?_ | refine blk_alloc ?_ _)); exact BK604.out) hb)
              have n6_ := Aside0.mk (blk_below (g := gb611) (o := .cells #[.int .i64 t605, .string t606, .int .i64 t607, .slice Ao15 t608.length co15] 40 (0, 0)) (by (with_reducible repeat (first | refine blk_drewN ?_ _ | refine blk_drew ?_ | refine blk_alloc ?_ _)); exact BK611.out) hb)
              have n7_ := Aside0.mk (blk_below (g := gb627) (o := .cells #[.int .i64 t621, .string t622, .int .i64 t623, .slice Ao65 t624.length co65] 40 (0, 0)) (by (with_reducible repeat (first | refine blk_drewN ?_ _ | refine blk_drew ?_ | refine blk_alloc ?_ _)); exact BK627.out) hb)
              have n8_ := Aside0.mk (below_step (by repeat (first | (with_reducible first | exact HB.out | apply below_alloc | apply pw_below_drewN | apply below_drew1 | refine below_set ?_ GE604.out | refine below_set ?_ GE611.out | refine below_set ?_ GE627.out) | exact HB.out)) hb)
              clear HO_605003
              clear HO_612003
              clear HO626
              clear HO633
              clear BK604
              clear BK611
              clear BK627
              clear HB
              have HO_605003 := n0_
              have HO_612003 := n1_
              have HO626 := n2_
              have HO633 := n3_
              have HO637 := n4_
              have BK604 := n5_
              have BK611 := n6_
              have BK627 := n7_
              have HB := n8_
              clear n0_ n1_ n2_ n3_ n4_ n5_ n6_ n7_ n8_
              (try clear hb)
              (try clear hb2)
              (try clear hk)
              (try clear hi)
              (try clear ho0)
              obtain ⟨Ao72, co72, eo72⟩ := Kd.R_slice HO637.out
              (first | subst eo72 | (injection eo72 with f1_ f2_ f3_; have f4_ := f1_.symm; have f5_ := f3_.symm; clear f1_ f2_ f3_; subst f4_; subst f5_))
              refine hK.out _ _ ⟨(blk_cell BK627.out 0).trans rfl, (blk_cell BK627.out 1).trans rfl, (blk_cell BK627.out 2).trans rfl, (blk_cell BK627.out 3).trans rfl, (blk_cell BK604.out 0).trans rfl, (blk_cell BK604.out 1).trans rfl, (blk_cell BK604.out 2).trans rfl, (blk_cell BK604.out 3).trans rfl⟩ (fun hHeld => ?_)
              clear hK K
              refine norm_ (a' := ?_) ?_ ?_
              rotate_left
              · show Act.put _ (some 44) _ = _
                simp only [Act.put, List.setIfInBounds_toArray, List.set_cons_zero, List.set_cons_succ, i64_w, i32_w]
                rfl
              refine one_ (i := 9) (N := some 46) #[true, true, true, true, true, true, true, true, true, true, false, false, false, false, false, false, false, false, false, false, false] rfl rfl (one_of HT_.out (by kernel_rfl)) (by decide) (fun K hK => ?_)
              refine goes_ Try.func19 (by kernel_rfl) rfl #[.slice Ao72 t635.length co72, .string t602] (by rfl) rfl rfl (by (try simp only [List.map_toArray, List.map_cons, List.map_nil]); first | done | rfl | (simp only [List.length_drop, List.length_take]; rfl)) ?_
              with_reducible refine (spec_Has.calls kj5 _ _ t635 t602 false _ ?side1 ?side2 A39.out).mono ?_
              (case side1 => repeat (first | exact (Kd.R_reads' HO637.out).2.2 | (with_reducible refine Kd.C_alloc ?_ _) | (with_reducible refine Kd.C_drewN ?_ _) | (with_reducible refine Kd.C_drew ?_)))
              (case side2 => exact (Kd.R_reads' HO637.out).2.1)
              rintro e w' ⟨rfl, ⟨nd, rfl⟩⟩
              refine ⟨_, rfl, ?_⟩
              refine hK.out _ _ ⟨(blk_cell BK627.out 0).trans rfl, (blk_cell BK627.out 1).trans rfl, (blk_cell BK627.out 2).trans rfl, (blk_cell BK627.out 3).trans rfl, (blk_cell BK604.out 0).trans rfl, (blk_cell BK604.out 1).trans rfl, (blk_cell BK604.out 2).trans rfl, (blk_cell BK604.out 3).trans rfl⟩ (fun hHeld => ?_)
              clear hK K
              refine norm_ (a' := ?_) ?_ ?_
              rotate_left
              · show Act.put _ (some 46) _ = _
                simp only [Act.put, List.setIfInBounds_toArray, List.set_cons_zero, List.set_cons_succ, i64_w, i32_w]
                rfl
              refine pure_ (i := 10) (N := some 47) (v := ?_) (a' := ?_) #[true, true, true, true, true, true, true, true, true, true, true, false, false, false, false, false, false, false, false, false, false] rfl rfl (any_of HT_.out (by kernel_rfl)) (fun _ _ _ h => h) (Or.inl ⟨by rfl, ?_⟩) ?_ ?_
              rotate_left
              · intro w'
                go_simp
                with_reducible rfl
              rotate_left
              · simp only [Act.put, List.setIfInBounds_toArray, List.set_cons_zero, List.set_cons_succ, i64_w, i32_w]
                rfl
              refine pure_ (i := 11) (N := some 48) (v := ?_) (a' := ?_) #[true, true, true, true, true, true, true, true, true, true, true, true, false, false, false, false, false, false, false, false, false] rfl rfl (any_of HT_.out (by kernel_rfl)) (fun _ _ _ h => h) (Or.inl ⟨by rfl, ?_⟩) ?_ ?_
              rotate_left
              · intro w'
                go_simp
                with_reducible rfl
              rotate_left
              · simp only [Act.put, List.setIfInBounds_toArray, List.set_cons_zero, List.set_cons_succ, i64_w, i32_w]
                rfl
              refine pure_ (i := 12) (N := some 49) (v := ?_) (a' := ?_) #[true, true, true, true, true, true, true, true, true, true, true, true, true, false, false, false, false, false, false, false, false] rfl rfl (any_of HT_.out (by kernel_rfl)) (fun _ _ _ h => h) (Or.inl ⟨by rfl, ?_⟩) ?_ ?_
              rotate_left
              · intro w'
                go_simp
                with_reducible rfl
              rotate_left
              · simp only [Act.put, List.setIfInBounds_toArray, List.set_cons_zero, List.set_cons_succ, i64_w, i32_w]
                rfl
              refine pure_ (i := 14) (N := some 51) (v := ?_) (a' := ?_) #[true, true, true, true, true, true, true, true, true, true, true, true, true, false, true, false, false, false, false, false, false] rfl rfl (any_of HT_.out (by kernel_rfl)) (fun _ _ _ h => h) (Or.inl ⟨by rfl, ?_⟩) ?_ ?_
              rotate_left
              · intro w'
                go_simp
                with_reducible rfl
              rotate_left
              · simp only [Act.put, List.setIfInBounds_toArray, List.set_cons_zero, List.set_cons_succ, i64_w, i32_w]
                rfl
              refine pure_ (i := 15) (N := some 52) (v := ?_) (a' := ?_) #[true, true, true, true, true, true, true, true, true, true, true, true, true, false, true, true, false, false, false, false, false] rfl rfl (any_of HT_.out (by kernel_rfl)) (fun _ _ _ h => h) (Or.inl ⟨by rfl, ?_⟩) ?_ ?_
              rotate_left
              · intro w'
                go_simp
                with_reducible rfl
              rotate_left
              · simp only [Act.put, List.setIfInBounds_toArray, List.set_cons_zero, List.set_cons_succ, i64_w, i32_w]
                rfl
              refine take_ (i := 13) (N := some 50) (v := ?_) (a' := ?_) #[true, true, true, true, true, true, true, true, true, true, true, true, true, true, true, true, false, false, false, false, false] rfl rfl (take_ofW HT_.out HW_.out (by kernel_rfl)) (fun _ _ _ h => h) (Or.inl ⟨by rfl, ?_⟩) hHeld ?_ ?_
              rotate_left
              · rintro w' ⟨s0, s1, s2, s3, s4, s5, s6, s7⟩
                go_simp
                with_reducible rfl
              rotate_left
              · simp only [Act.put, List.setIfInBounds_toArray, List.set_cons_zero, List.set_cons_succ, i64_w, i32_w]
                rfl
              refine take_ (i := 17) (N := some 54) (v := ?_) (a' := ?_) #[true, true, true, true, true, true, true, true, true, true, true, true, true, true, true, true, false, true, false, false, false] rfl rfl (take_ofW HT_.out HW_.out (by kernel_rfl)) (fun _ _ _ h => h) (Or.inl ⟨by rfl, ?_⟩) hHeld ?_ ?_
              rotate_left
              · rintro w' ⟨s0, s1, s2, s3, s4, s5, s6, s7⟩
                go_simp
                with_reducible rfl
              rotate_left
              · simp only [Act.put, List.setIfInBounds_toArray, List.set_cons_zero, List.set_cons_succ, i64_w, i32_w]
                rfl
              refine one_ (i := 16) (N := some 53) #[true, true, true, true, true, true, true, true, true, true, true, true, true, true, true, true, true, true, false, false, false] rfl rfl (one_of HT_.out (by kernel_rfl)) (by decide) (fun K hK => ?_)
              refine goes_ Try.func35 (by kernel_rfl) rfl #[.agg #[.int .i64 t596, .string t597, .int .i64 t598, .slice Ao10 t599.length co10], .string t602, .string t602] (by rfl) rfl rfl (by (try simp only [List.map_toArray, List.map_cons, List.map_nil]); first | done | rfl | (simp only [List.length_drop, List.length_take]; rfl)) ?_
              with_reducible refine (impl_Renamed.calls kj5 t596 t597 t598 _ _ t599 t602 t602 t639 t640 t641 t642 _ ?side1 ?side2 A56.out).mono ?_
              (case side1 => repeat (first | exact (Kd.N_reads' HO_605003.out).2.2 | (with_reducible refine Kd.C_alloc ?_ _) | (with_reducible refine Kd.C_drewN ?_ _) | (with_reducible refine Kd.C_drew ?_)))
              (case side2 => exact (Kd.N_reads' HO_605003.out).2.1)
              rintro e w73 ⟨v643, rfl, ho0, hb⟩
              refine ⟨_, rfl, ?_⟩
              have n0_ := Aside0.mk (Kd.N_elder' (by (with_reducible repeat (first | apply Kd.N_alloc | apply Kd.N_drewN | apply Kd.N_drew)); exact HO_605003.out) (by first | exact Kd.N_base ho0 | exact Kd.R_base ho0) hb)
              have n1_ := Aside0.mk (Kd.N_elder' (by (with_reducible repeat (first | apply Kd.N_alloc | apply Kd.N_drewN | apply Kd.N_drew)); exact HO_612003.out) (by first | exact Kd.N_base ho0 | exact Kd.R_base ho0) hb)
              have n2_ := Aside0.mk (Kd.N_elder' (by (with_reducible repeat (first | apply Kd.N_alloc | apply Kd.N_drewN | apply Kd.N_drew)); exact HO626.out) (by first | exact Kd.N_base ho0 | exact Kd.R_base ho0) hb)
              have n3_ := Aside0.mk (Kd.N_elder' (by (with_reducible repeat (first | apply Kd.N_alloc | apply Kd.N_drewN | apply Kd.N_drew)); exact HO633.out) (by first | exact Kd.N_base ho0 | exact Kd.R_base ho0) hb)
              have n4_ := Aside0.mk (Kd.R_below (by (with_reducible repeat (first | apply Kd.R_alloc | apply Kd.R_drewN | apply Kd.R_drew)); exact HO637.out) hb)
              have n5_ := Aside0.mk (Kd.N_lower (Kd.N_mono (ok' := fun k_ => some k_ ≠ (.slice Ao10 t599.length co10 : Value).ownBlock ∧ some k_ ≠ (.slice Ao15 t608.length co15 : Value).ownBlock ∧ some k_ ≠ (.slice Ao65 t624.length co65 : Value).ownBlock ∧ some k_ ≠ (.slice Ao69 t631.length co69 : Value).ownBlock ∧ some k_ ≠ (.slice Ao72 t635.length co72 : Value).ownBlock ∧ k_ ≠ gb604 ∧ k_ ≠ gb611 ∧ k_ ≠ gb627) (Kd.R_N (Kd.R_bound ho0)) (fun k_ hk_ => ⟨(Kd.fresh' (Kd.N_lt (by (with_reducible repeat (first | apply Kd.N_alloc | apply Kd.N_drewN | apply Kd.N_drew)); exact HO_605003.out)) k_ hk_.2.1), (Kd.fresh' (Kd.N_lt (by (with_reducible repeat (first | apply Kd.N_alloc | apply Kd.N_drewN | apply Kd.N_drew)); exact HO_612003.out)) k_ hk_.2.1), (Kd.fresh' (Kd.N_lt (by (with_reducible repeat (first | apply Kd.N_alloc | apply Kd.N_drewN | apply Kd.N_drew)); exact HO626.out)) k_ hk_.2.1), (Kd.fresh' (Kd.N_lt (by (with_reducible repeat (first | apply Kd.N_alloc | apply Kd.N_drewN | apply Kd.N_drew)); exact HO633.out)) k_ hk_.2.1), (Kd.fresh' (Kd.R_lt (by (with_reducible repeat (first | apply Kd.R_alloc | apply Kd.R_drewN | apply Kd.R_drew)); exact HO637.out)) k_ hk_.2.1), (Kd.freshB (g := gb604) (o := .cells #[.int .i64 t596, .string t597, .int .i64 t598, .slice Ao10 t599.length co10] 40 (0, 0)) (by (with_reducible repeat (first | refine blk_drewN ?_ _ | refine blk_drew ?_ | refine blk_alloc ?_ _)); exact BK604.out) k_ hk_.2.1), (Kd.freshB (g := gb611) (o := .cells #[.int .i64 t605, .string t606, .int .i64 t607, .slice Ao15 t608.length co15] 40 (0, 0)) (by (with_reducible repeat (first | refine blk_drewN ?_ _ | refine blk_drew ?_ | refine blk_alloc ?_ _)); exact BK611.out) k_ hk_.2.1), (Kd.freshB (g := gb627) (o := .cells #[.int .i64 t621, .string t622, .int .i64 t623, .slice Ao65 t624.length co65] 40 (0, 0)) (by (with_reducible repeat (first | refine blk_drewN ?_ _ | refine blk_drew ?_ | refine blk_alloc ?_ _)); exact BK627.out) k_ hk_.2.1)⟩)) (below_size (by repeat (first | (with_reducible first | exact HB.out | apply below_alloc | apply pw_below_drewN | apply below_drew1 | refine below_set ?_ GE604.out | refine below_set ?_ GE611.out | refine below_set ?_ GE627.out) | exact HB.out))))
              have n6_ := Aside0.mk (blk_below (g := gb604) (o := .cells #[.int .i64 t596, .string t597, .int .i64 t598, .slice Ao10 t599.length co10] 40 (0, 0)) (by (with_reducible repeat (first | refine blk_drewN ?_ _ | refine blk_drew ?_ | refine blk_alloc ?_ _)); exact BK604.out) hb)
              have n7_ := Aside0.mk (blk_below (g := gb611) (o := .cells #[.int .i64 t605, .string t606, .int .i64 t607, .slice Ao15 t608.length co15] 40 (0, 0)) (by (with_reducible repeat (first | refine blk_drewN ?_ _ | refine blk_drew ?_ | refine blk_alloc ?_ _)); exact BK611.out) hb)
              have n8_ := Aside0.mk (blk_below (g := gb627) (o := .cells #[.int .i64 t621, .string t622, .int .i64 t623, .slice Ao65 t624.length co65] 40 (0, 0)) (by (with_reducible repeat (first | refine blk_drewN ?_ _ | refine blk_drew ?_ | refine blk_alloc ?_ _)); exact BK627.out) hb)
              have n9_ := Aside0.mk (below_step (by repeat (first | (with_reducible first | exact HB.out | apply below_alloc | apply pw_below_drewN | apply below_drew1 | refine below_set ?_ GE604.out | refine below_set ?_ GE611.out | refine below_set ?_ GE627.out) | exact HB.out)) hb)
              clear HO_605003
              clear HO_612003
              clear HO626
              clear HO633
              clear HO637
              clear BK604
              clear BK611
              clear BK627
              clear HB
              have HO_605003 := n0_
              have HO_612003 := n1_
              have HO626 := n2_
              have HO633 := n3_
              have HO637 := n4_
              have HO644 := n5_
              have BK604 := n6_
              have BK611 := n7_
              have BK627 := n8_
              have HB := n9_
              clear n0_ n1_ n2_ n3_ n4_ n5_ n6_ n7_ n8_ n9_
              (try clear hb)
              (try clear hb2)
              (try clear hk)
              (try clear hi)
              (try clear ho0)
              obtain ⟨Ao74, co74, eo74⟩ := Kd.N_slice HO644.out
              (first | subst eo74 | (injection eo74 with f1_ f2_ f3_; have f4_ := f1_.symm; have f5_ := f3_.symm; clear f1_ f2_ f3_; subst f4_; subst f5_))
              refine hK.out _ _ ⟨(blk_cell BK627.out 0).trans rfl, (blk_cell BK627.out 1).trans rfl, (blk_cell BK627.out 2).trans rfl, (blk_cell BK627.out 3).trans rfl, (blk_cell BK604.out 0).trans rfl, (blk_cell BK604.out 1).trans rfl, (blk_cell BK604.out 2).trans rfl, (blk_cell BK604.out 3).trans rfl⟩ (fun hHeld => ?_)
              clear hK K
              refine norm_ (a' := ?_) ?_ ?_
              rotate_left
              · show Act.put _ (some 53) _ = _
                simp only [Act.put, List.setIfInBounds_toArray, List.set_cons_zero, List.set_cons_succ, i64_w, i32_w]
                rfl
              refine one_ (i := 18) (N := some 55) #[true, true, true, true, true, true, true, true, true, true, true, true, true, true, true, true, true, true, true, false, false] rfl rfl (one_of HT_.out (by kernel_rfl)) (by decide) (fun K hK => ?_)
              refine goes_ Try.func40 (by kernel_rfl) rfl #[.agg #[.int .i64 t639, .string t640, .int .i64 t641, .slice Ao74 t642.length co74], .agg #[.int .i64 t596, .string t597, .int .i64 t598, .slice Ao10 t599.length co10]] (by rfl) rfl rfl (by (try simp only [List.map_toArray, List.map_cons, List.map_nil]); first | done | rfl | (simp only [List.length_drop, List.length_take]; rfl)) ?_
              with_reducible refine (laws_sameExpr.calls kj5 t639 t640 t641 _ _ t642 t596 t597 t598 _ _ t599 t645 _ ?side1 ?side2 ?side3 ?side4 A57.out).mono ?_
              (case side1 => repeat (first | exact (Kd.N_reads' HO644.out).2.2 | (with_reducible refine Kd.C_alloc ?_ _) | (with_reducible refine Kd.C_drewN ?_ _) | (with_reducible refine Kd.C_drew ?_)))
              (case side2 => exact (Kd.N_reads' HO644.out).2.1)
              (case side3 => repeat (first | exact (Kd.N_reads' HO_605003.out).2.2 | (with_reducible refine Kd.C_alloc ?_ _) | (with_reducible refine Kd.C_drewN ?_ _) | (with_reducible refine Kd.C_drew ?_)))
              (case side4 => exact (Kd.N_reads' HO_605003.out).2.1)
              rintro e w75 ⟨rfl, hb⟩
              refine ⟨_, rfl, ?_⟩
              have n0_ := Aside0.mk (Kd.N_below (by (with_reducible repeat (first | apply Kd.N_alloc | apply Kd.N_drewN | apply Kd.N_drew)); exact HO_605003.out) hb)
              have n1_ := Aside0.mk (Kd.N_below (by (with_reducible repeat (first | apply Kd.N_alloc | apply Kd.N_drewN | apply Kd.N_drew)); exact HO_612003.out) hb)
              have n2_ := Aside0.mk (Kd.N_below (by (with_reducible repeat (first | apply Kd.N_alloc | apply Kd.N_drewN | apply Kd.N_drew)); exact HO626.out) hb)
              have n3_ := Aside0.mk (Kd.N_below (by (with_reducible repeat (first | apply Kd.N_alloc | apply Kd.N_drewN | apply Kd.N_drew)); exact HO633.out) hb)
              have n4_ := Aside0.mk (Kd.R_below (by (with_reducible repeat (first | apply Kd.R_alloc | apply Kd.R_drewN | apply Kd.R_drew)); exact HO637.out) hb)
              have n5_ := Aside0.mk (Kd.N_below (by (with_reducible repeat (first | apply Kd.N_alloc | apply Kd.N_drewN | apply Kd.N_drew)); exact HO644.out) hb)
              have n6_ := Aside0.mk (blk_below (g := gb604) (o := .cells #[.int .i64 t596, .string t597, .int .i64 t598, .slice Ao10 t599.length co10] 40 (0, 0)) (by (with_reducible repeat (first | refine blk_drewN ?_ _ | refine blk_drew ?_ | refine blk_alloc ?_ _)); exact BK604.out) hb)
              have n7_ := Aside0.mk (blk_below (g := gb611) (o := .cells #[.int .i64 t605, .string t606, .int .i64 t607, .slice Ao15 t608.length co15] 40 (0, 0)) (by (with_reducible repeat (first | refine blk_drewN ?_ _ | refine blk_drew ?_ | refine blk_alloc ?_ _)); exact BK611.out) hb)
              have n8_ := Aside0.mk (blk_below (g := gb627) (o := .cells #[.int .i64 t621, .string t622, .int .i64 t623, .slice Ao65 t624.length co65] 40 (0, 0)) (by (with_reducible repeat (first | refine blk_drewN ?_ _ | refine blk_drew ?_ | refine blk_alloc ?_ _)); exact BK627.out) hb)
              have n9_ := Aside0.mk (below_step (by repeat (first | (with_reducible first | exact HB.out | apply below_alloc | apply pw_below_drewN | apply below_drew1 | refine below_set ?_ GE604.out | refine below_set ?_ GE611.out | refine below_set ?_ GE627.out) | exact HB.out)) hb)
              clear HO_605003
              clear HO_612003
              clear HO626
              clear HO633
              clear HO637
              clear HO644
              clear BK604
              clear BK611
              clear BK627
              clear HB
              have HO_605003 := n0_
              have HO_612003 := n1_
              have HO626 := n2_
              have HO633 := n3_
              have HO637 := n4_
              have HO644 := n5_
              have BK604 := n6_
              have BK611 := n7_
              have BK627 := n8_
              have HB := n9_
              clear n0_ n1_ n2_ n3_ n4_ n5_ n6_ n7_ n8_ n9_
              (try clear hb)
              (try clear hb2)
              (try clear hk)
              (try clear hi)
              refine hK.out _ _ ⟨(blk_cell BK627.out 0).trans rfl, (blk_cell BK627.out 1).trans rfl, (blk_cell BK627.out 2).trans rfl, (blk_cell BK627.out 3).trans rfl, (blk_cell BK604.out 0).trans rfl, (blk_cell BK604.out 1).trans rfl, (blk_cell BK604.out 2).trans rfl, (blk_cell BK604.out 3).trans rfl⟩ (fun hHeld => ?_)
              clear hK K
              refine norm_ (a' := ?_) ?_ ?_
              rotate_left
              · show Act.put _ (some 55) _ = _
                simp only [Act.put, List.setIfInBounds_toArray, List.set_cons_zero, List.set_cons_succ, i64_w, i32_w]
                rfl
              refine pure_ (i := 19) (N := some 56) (v := ?_) (a' := ?_) #[true, true, true, true, true, true, true, true, true, true, true, true, true, true, true, true, true, true, true, true, false] rfl rfl (any_of HT_.out (by kernel_rfl)) (fun _ _ _ h => h) (Or.inl ⟨by rfl, ?_⟩) ?_ ?_
              rotate_left
              · intro w'
                go_simp
                with_reducible rfl
              rotate_left
              · simp only [Act.put, List.setIfInBounds_toArray, List.set_cons_zero, List.set_cons_succ, i64_w, i32_w]
                rfl
              refine pure_ (i := 20) (N := some 2) (v := ?_) (a' := ?_) #[true, true, true, true, true, true, true, true, true, true, true, true, true, true, true, true, true, true, true, true, true] rfl rfl (any_of HT_.out (by kernel_rfl)) (fun _ _ _ h => h) (Or.inl ⟨by rfl, ?_⟩) ?_ ?_
              rotate_left
              · intro w'
                go_simp
                with_reducible rfl
              rotate_left
              · simp only [Act.put, List.setIfInBounds_toArray, List.set_cons_zero, List.set_cons_succ, i64_w, i32_w]
                rfl
              refine done_ (done_of HT_.out (by kernel_rfl)) ?_
              try go_wp2
              go_ret
              exact ⟨by first | rfl | (simp [errW_none, errW_some] <;> rfl) | (simp [*, errW_none, errW_some] <;> rfl), by repeat (first | (with_reducible first | exact HB.out | apply below_alloc | apply pw_below_drewN | apply below_drew1 | refine below_set ?_ GE604.out | refine below_set ?_ GE611.out | refine below_set ?_ GE627.out) | exact HB.out)⟩
          · replace c37 := Bool.eq_false_iff.mpr c37
            subst c37
            have H1 : (some false) = some r := by rw [if_neg (show ¬ (false = true) by decide)] at H; exact H
            clear H
            have H := H1
            clear H1
            obtain rfl := Option.some.inj H
            have hnb76 := NB604_611.out
            have hnc76 := NB611_604.out
            have hcz77_0 : wc.cell? ⟨gb604, 0, none⟩ = some (.int .i64 t596) := (blk_cell BK604.out 0).trans rfl
            have hcz77_1 : wc.cell? ⟨gb604, 1, none⟩ = some (.string t597) := (blk_cell BK604.out 1).trans rfl
            have hcz77_2 : wc.cell? ⟨gb604, 2, none⟩ = some (.int .i64 t598) := (blk_cell BK604.out 2).trans rfl
            have hcz77_3 : wc.cell? ⟨gb604, 3, none⟩ = some (.slice Ao10 t599.length co10) := (blk_cell BK604.out 3).trans rfl
            have hfz77_0 := blk_frozen BK604.out 0
            have hfz77_1 := blk_frozen BK604.out 1
            have hfz77_2 := blk_frozen BK604.out 2
            have hfz77_3 := blk_frozen BK604.out 3
            try go_wp2_with (first | ((with_reducible refine gate_callee (f := 35) rfl ?_); refine goesL_ (some 36) rfl rfl Try.func35 (by kernel_rfl) rfl #[.agg #[.int .i64 t596, .string t597, .int .i64 t598, .slice Ao10 t599.length co10], .string t602, .string (⟨#[102, 114, 101, 115, 104, 32, 111, 110, 101]⟩ : ByteArray)] rfl (by (try simp only [List.map_toArray, List.map_cons, List.map_nil]); first | done | rfl | (simp only [List.length_drop, List.length_take]; rfl)) ?_; (with_reducible refine (impl_Renamed.calls kj5 t596 t597 t598 _ _ t599 t602 (⟨#[102, 114, 101, 115, 104, 32, 111, 110, 101]⟩ : ByteArray) t621 t622 t623 t624 _ ?side1 ?side2 A34.out).mono ?_); (case side1 => repeat (first | exact (Kd.N_reads' HO_605003.out).2.2 | (with_reducible refine Kd.C_alloc ?_ _) | (with_reducible refine Kd.C_drewN ?_ _) | (with_reducible refine Kd.C_drew ?_))); (case side2 => exact (Kd.N_reads' HO_605003.out).2.1); rintro e w78 ⟨v625, rfl, ho0, hb⟩; refine ⟨_, rfl, ?_⟩; have n0_ := Aside0.mk (Kd.N_elder' (by (with_reducible repeat (first | apply Kd.N_alloc | apply Kd.N_drewN | apply Kd.N_drew)); exact HO_605003.out) (by first | exact Kd.N_base ho0 | exact Kd.R_base ho0) hb); have n1_ := Aside0.mk (Kd.N_elder' (by (with_reducible repeat (first | apply Kd.N_alloc | apply Kd.N_drewN | apply Kd.N_drew)); exact HO_612003.out) (by first | exact Kd.N_base ho0 | exact Kd.R_base ho0) hb); have n2_ := Aside0.mk (Kd.N_lower (Kd.N_mono (ok' := fun k_ => some k_ ≠ (.slice Ao10 t599.length co10 : Value).ownBlock ∧ some k_ ≠ (.slice Ao15 t608.length co15 : Value).ownBlock ∧ k_ ≠ gb604 ∧ k_ ≠ gb611) (Kd.R_N (Kd.R_bound ho0)) (fun k_ hk_ => ⟨(Kd.fresh' (Kd.N_lt (by (with_reducible repeat (first | apply Kd.N_alloc | apply Kd.N_drewN | apply Kd.N_drew)); exact HO_605003.out)) k_ hk_.2.1), (Kd.fresh' (Kd.N_lt (by (with_reducible repeat (first | apply Kd.N_alloc | apply Kd.N_drewN | apply Kd.N_drew)); exact HO_612003.out)) k_ hk_.2.1), (Kd.freshB (g := gb604) (o := .cells #[.int .i64 t596, .string t597, .int .i64 t598, .slice Ao10 t599.length co10] 40 (0, 0)) (by (with_reducible repeat (first | refine blk_drewN ?_ _ | refine blk_drew ?_ | refine blk_alloc ?_ _)); exact BK604.out) k_ hk_.2.1), (Kd.freshB (g := gb611) (o := .cells #[.int .i64 t605, .string t606, .int .i64 t607, .slice Ao15 t608.length co15] 40 (0, 0)) (by (with_reducible repeat (first | refine blk_drewN ?_ _ | refine blk_drew ?_ | refine blk_alloc ?_ _)); exact BK611.out) k_ hk_.2.1)⟩)) (below_size (by repeat (first | (with_reducible first | exact HB.out | apply below_alloc | apply pw_below_drewN | apply below_drew1 | refine below_set ?_ GE604.out | refine below_set ?_ GE611.out) | exact HB.out)))); have n3_ := Aside0.mk (blk_below (g := gb604) (o := .cells #[.int .i64 t596, .string t597, .int .i64 t598, .slice Ao10 t599.length co10] 40 (0, 0)) (by (with_reducible repeat (first | refine blk_drewN ?_ _ | refine blk_drew ?_ | refine blk_alloc ?_ _)); exact BK604.out) hb); have n4_ := Aside0.mk (blk_below (g := gb611) (o := .cells #[.int .i64 t605, .string t606, .int .i64 t607, .slice Ao15 t608.length co15] 40 (0, 0)) (by (with_reducible repeat (first | refine blk_drewN ?_ _ | refine blk_drew ?_ | refine blk_alloc ?_ _)); exact BK611.out) hb); have n5_ := Aside0.mk (below_step (by repeat (first | (with_reducible first | exact HB.out | apply below_alloc | apply pw_below_drewN | apply below_drew1 | refine below_set ?_ GE604.out | refine below_set ?_ GE611.out) | exact HB.out)) hb); clear HO_605003; clear HO_612003; clear BK604; clear BK611; clear HB; have HO_605003 := n0_; have HO_612003 := n1_; have HO626 := n2_; have BK604 := n3_; have BK611 := n4_; have HB := n5_; clear n0_ n1_ n2_ n3_ n4_ n5_; (try clear hb); (try clear hb2); (try clear hk); (try clear hi); (try clear ho0)) | ((with_reducible refine gate_dst (N := 7) rfl ?_); refine box_event ?hg (N := 7) ?hd (cs := #[.int .i64 0, .string (⟨#[]⟩ : ByteArray), .int .i64 0, .slice none 0 0]) (t := 40) ?hr ?_; (case hd => rfl); (case hg => rfl); (case hr => first | (go_simp; done) | (go_simp; rfl)); intro gb627 hg w79 hbox hb; have n0_ := Aside0.mk (Kd.N_below (Kd.N_elderB (by (with_reducible repeat (first | apply Kd.N_alloc | apply Kd.N_drewN | apply Kd.N_drew)); exact HO_605003.out) gb627 (Nat.le_of_eq hg.symm)) hb); have n1_ := Aside0.mk (Kd.N_below (Kd.N_elderB (by (with_reducible repeat (first | apply Kd.N_alloc | apply Kd.N_drewN | apply Kd.N_drew)); exact HO_612003.out) gb627 (Nat.le_of_eq hg.symm)) hb); have n2_ := Aside0.mk (Kd.N_below (Kd.N_elderB (by (with_reducible repeat (first | apply Kd.N_alloc | apply Kd.N_drewN | apply Kd.N_drew)); exact HO626.out) gb627 (Nat.le_of_eq hg.symm)) hb); have n3_ := Aside0.mk (blk_below (g := gb604) (o := .cells #[.int .i64 t596, .string t597, .int .i64 t598, .slice Ao10 t599.length co10] 40 (0, 0)) (by (with_reducible repeat (first | refine blk_drewN ?_ _ | refine blk_drew ?_ | refine blk_alloc ?_ _)); exact BK604.out) hb); have n4_ := Aside0.mk (blk_below (g := gb611) (o := .cells #[.int .i64 t605, .string t606, .int .i64 t607, .slice Ao15 t608.length co15] 40 (0, 0)) (by (with_reducible repeat (first | refine blk_drewN ?_ _ | refine blk_drew ?_ | refine blk_alloc ?_ _)); exact BK611.out) hb); have n5_ := Aside0.mk (below_step (by repeat (first | (with_reducible first | exact HB.out | apply below_alloc | apply pw_below_drewN | apply below_drew1 | refine below_set ?_ GE604.out | refine below_set ?_ GE611.out) | exact HB.out)) hb); have n6_ := Aside0.mk (hbox); have n7_ := Aside0.mk ((by rw [hg]; exact (below_size (by repeat (first | (with_reducible first | exact HB.out | apply below_alloc | apply pw_below_drewN | apply below_drew1 | refine below_set ?_ GE604.out | refine below_set ?_ GE611.out) | exact HB.out))) : w.heap.size ≤ gb627)); have n8_ := Aside0.mk ((by rw [hg]; exact (below_size (by repeat (first | (with_reducible first | exact HB.out | apply below_alloc | apply pw_below_drewN | apply below_drew1 | refine below_set ?_ GE604.out | refine below_set ?_ GE611.out) | exact HB.out))) : w.heap.size ≤ gb627)); have n9_ := Aside0.mk ((by rw [hg]; exact Nat.ne_of_lt (blk_lt (g := gb604) (o := .cells #[.int .i64 t596, .string t597, .int .i64 t598, .slice Ao10 t599.length co10] 40 (0, 0)) (by (with_reducible repeat (first | refine blk_drewN ?_ _ | refine blk_drew ?_ | refine blk_alloc ?_ _)); exact BK604.out)) : gb604 ≠ gb627)); have n10_ := Aside0.mk ((by rw [hg]; exact Nat.ne_of_gt (blk_lt (g := gb604) (o := .cells #[.int .i64 t596, .string t597, .int .i64 t598, .slice Ao10 t599.length co10] 40 (0, 0)) (by (with_reducible repeat (first | refine blk_drewN ?_ _ | refine blk_drew ?_ | refine blk_alloc ?_ _)); exact BK604.out)) : gb627 ≠ gb604)); have n11_ := Aside0.mk ((by rw [hg]; exact Nat.ne_of_lt (blk_lt (g := gb611) (o := .cells #[.int .i64 t605, .string t606, .int .i64 t607, .slice Ao15 t608.length co15] 40 (0, 0)) (by (with_reducible repeat (first | refine blk_drewN ?_ _ | refine blk_drew ?_ | refine blk_alloc ?_ _)); exact BK611.out)) : gb611 ≠ gb627)); have n12_ := Aside0.mk ((by rw [hg]; exact Nat.ne_of_gt (blk_lt (g := gb611) (o := .cells #[.int .i64 t605, .string t606, .int .i64 t607, .slice Ao15 t608.length co15] 40 (0, 0)) (by (with_reducible repeat (first | refine blk_drewN ?_ _ | refine blk_drew ?_ | refine blk_alloc ?_ _)); exact BK611.out)) : gb627 ≠ gb611)); clear HO_605003; clear HO_612003; clear HO626; clear BK604; clear BK611; clear HB; have HO_605003 := n0_; have HO_612003 := n1_; have HO626 := n2_; have BK604 := n3_; have BK611 := n4_; have HB := n5_; have BK627 := n6_; have GW627 := n7_; have GE627 := n8_; have NB604_627 := n9_; have NB627_604 := n10_; have NB611_627 := n11_; have NB627_611 := n12_; clear n0_ n1_ n2_ n3_ n4_ n5_ n6_ n7_ n8_ n9_ n10_ n11_ n12_; clear hb hbox hg; have hnb80 := NB627_604.out; have hnc80 := NB604_627.out; have hnb81 := NB627_611.out; have hnc81 := NB611_627.out; have hcz82_0 : w79.cell? ⟨gb627, 0, none⟩ = some (.int .i64 0) := (blk_cell BK627.out 0).trans rfl; have hcz82_1 : w79.cell? ⟨gb627, 1, none⟩ = some (.string (⟨#[]⟩ : ByteArray)) := (blk_cell BK627.out 1).trans rfl; have hcz82_2 : w79.cell? ⟨gb627, 2, none⟩ = some (.int .i64 0) := (blk_cell BK627.out 2).trans rfl; have hcz82_3 : w79.cell? ⟨gb627, 3, none⟩ = some (.slice none 0 0) := (blk_cell BK627.out 3).trans rfl; have hfz82_0 := blk_frozen BK627.out 0; have hfz82_1 := blk_frozen BK627.out 1; have hfz82_2 := blk_frozen BK627.out 2; have hfz82_3 := blk_frozen BK627.out 3; obtain ⟨Ao83, co83, eo83⟩ := Kd.N_slice HO626.out; subst eo83))
            have n0_ : Aside0 (Kd.N k40 40 ((((w79.setCell ⟨gb627, 0, none⟩ (.int .i64 t621)).setCell ⟨gb627, 1, none⟩ (.string t622)).setCell ⟨gb627, 2, none⟩ (.int .i64 t623)).setCell ⟨gb627, 3, none⟩ (.slice Ao83 t624.length co83)) w.heap.size (fun k_ => some k_ ≠ (.slice Ao15 t608.length co15 : Value).ownBlock ∧ some k_ ≠ (.slice Ao83 t624.length co83 : Value).ownBlock ∧ k_ ≠ gb604 ∧ k_ ≠ gb611 ∧ k_ ≠ gb627) (.slice Ao10 t599.length co10) t599) := ⟨by (with_reducible repeat (first | apply Kd.N_alloc | apply Kd.N_drewN | apply Kd.N_drew)); exact Kd.N_mono (Kd.N_far (p := ⟨gb627, 3, none⟩) (Kd.N_far (p := ⟨gb627, 2, none⟩) (Kd.N_far (p := ⟨gb627, 1, none⟩) (Kd.N_far (p := ⟨gb627, 0, none⟩) (Kd.N_mono HO_605003.out (fun k_ hk => (⟨hk, hk.2⟩ : _ ∧ k_ ≠ gb627))) (fun _ hk => hk.2) (.int .i64 t621)) (fun _ hk => hk.2) (.string t622)) (fun _ hk => hk.2) (.int .i64 t623)) (fun _ hk => hk.2) (.slice Ao83 t624.length co83)) (fun _ hk => ⟨hk.1.1.1.1, ⟨hk.1.1.2, ⟨hk.1.1.1.2.1, ⟨hk.1.1.1.2.2, hk.1.2⟩⟩⟩⟩)⟩
            have n1_ : Aside0 (Kd.N k40 40 ((((w79.setCell ⟨gb627, 0, none⟩ (.int .i64 t621)).setCell ⟨gb627, 1, none⟩ (.string t622)).setCell ⟨gb627, 2, none⟩ (.int .i64 t623)).setCell ⟨gb627, 3, none⟩ (.slice Ao83 t624.length co83)) w.heap.size (fun k_ => some k_ ≠ (.slice Ao10 t599.length co10 : Value).ownBlock ∧ some k_ ≠ (.slice Ao83 t624.length co83 : Value).ownBlock ∧ k_ ≠ gb604 ∧ k_ ≠ gb611 ∧ k_ ≠ gb627) (.slice Ao15 t608.length co15) t608) := ⟨by (with_reducible repeat (first | apply Kd.N_alloc | apply Kd.N_drewN | apply Kd.N_drew)); exact Kd.N_mono (Kd.N_far (p := ⟨gb627, 3, none⟩) (Kd.N_far (p := ⟨gb627, 2, none⟩) (Kd.N_far (p := ⟨gb627, 1, none⟩) (Kd.N_far (p := ⟨gb627, 0, none⟩) (Kd.N_mono HO_612003.out (fun k_ hk => (⟨hk, hk.2⟩ : _ ∧ k_ ≠ gb627))) (fun _ hk => hk.2) (.int .i64 t621)) (fun _ hk => hk.2) (.string t622)) (fun _ hk => hk.2) (.int .i64 t623)) (fun _ hk => hk.2) (.slice Ao83 t624.length co83)) (fun _ hk => ⟨hk.1.1.1.1, ⟨hk.1.1.2, ⟨hk.1.1.1.2.1, ⟨hk.1.1.1.2.2, hk.1.2⟩⟩⟩⟩)⟩
            have n2_ : Aside0 (Kd.N k40 40 ((((w79.setCell ⟨gb627, 0, none⟩ (.int .i64 t621)).setCell ⟨gb627, 1, none⟩ (.string t622)).setCell ⟨gb627, 2, none⟩ (.int .i64 t623)).setCell ⟨gb627, 3, none⟩ (.slice Ao83 t624.length co83)) w.heap.size (fun k_ => some k_ ≠ (.slice Ao10 t599.length co10 : Value).ownBlock ∧ some k_ ≠ (.slice Ao15 t608.length co15 : Value).ownBlock ∧ k_ ≠ gb604 ∧ k_ ≠ gb611 ∧ k_ ≠ gb627) (.slice Ao83 t624.length co83) t624) := ⟨by (with_reducible repeat (first | apply Kd.N_alloc | apply Kd.N_drewN | apply Kd.N_drew)); exact Kd.N_mono (Kd.N_far (p := ⟨gb627, 3, none⟩) (Kd.N_far (p := ⟨gb627, 2, none⟩) (Kd.N_far (p := ⟨gb627, 1, none⟩) (Kd.N_far (p := ⟨gb627, 0, none⟩) (Kd.N_mono HO626.out (fun k_ hk => (⟨hk, hk.2⟩ : _ ∧ k_ ≠ gb627))) (fun _ hk => hk.2) (.int .i64 t621)) (fun _ hk => hk.2) (.string t622)) (fun _ hk => hk.2) (.int .i64 t623)) (fun _ hk => hk.2) (.slice Ao83 t624.length co83)) (fun _ hk => ⟨hk.1.1.1, ⟨hk.1.1.2.1, ⟨hk.1.1.2.2.1, ⟨hk.1.1.2.2.2, hk.1.2⟩⟩⟩⟩)⟩
            have n3_ : Aside0 (((((w79.setCell ⟨gb627, 0, none⟩ (.int .i64 t621)).setCell ⟨gb627, 1, none⟩ (.string t622)).setCell ⟨gb627, 2, none⟩ (.int .i64 t623)).setCell ⟨gb627, 3, none⟩ (.slice Ao83 t624.length co83)).heap[gb604]? = some (.cells #[.int .i64 t596, .string t597, .int .i64 t598, .slice Ao10 t599.length co10] 40 (0, 0))) := ⟨by (with_reducible repeat (first | refine blk_drewN ?_ _ | refine blk_drew ?_ | refine blk_alloc ?_ _)); refine blk_far ?_ NB604_627.out _; (with_reducible repeat (first | refine blk_drewN ?_ _ | refine blk_drew ?_ | refine blk_alloc ?_ _)); refine blk_far ?_ NB604_627.out _; (with_reducible repeat (first | refine blk_drewN ?_ _ | refine blk_drew ?_ | refine blk_alloc ?_ _)); refine blk_far ?_ NB604_627.out _; (with_reducible repeat (first | refine blk_drewN ?_ _ | refine blk_drew ?_ | refine blk_alloc ?_ _)); refine blk_far ?_ NB604_627.out _; (with_reducible repeat (first | refine blk_drewN ?_ _ | refine blk_drew ?_ | refine blk_alloc ?_ _)); exact BK604.out⟩
            have n4_ : Aside0 (((((w79.setCell ⟨gb627, 0, none⟩ (.int .i64 t621)).setCell ⟨gb627, 1, none⟩ (.string t622)).setCell ⟨gb627, 2, none⟩ (.int .i64 t623)).setCell ⟨gb627, 3, none⟩ (.slice Ao83 t624.length co83)).heap[gb611]? = some (.cells #[.int .i64 t605, .string t606, .int .i64 t607, .slice Ao15 t608.length co15] 40 (0, 0))) := ⟨by (with_reducible repeat (first | refine blk_drewN ?_ _ | refine blk_drew ?_ | refine blk_alloc ?_ _)); refine blk_far ?_ NB611_627.out _; (with_reducible repeat (first | refine blk_drewN ?_ _ | refine blk_drew ?_ | refine blk_alloc ?_ _)); refine blk_far ?_ NB611_627.out _; (with_reducible repeat (first | refine blk_drewN ?_ _ | refine blk_drew ?_ | refine blk_alloc ?_ _)); refine blk_far ?_ NB611_627.out _; (with_reducible repeat (first | refine blk_drewN ?_ _ | refine blk_drew ?_ | refine blk_alloc ?_ _)); refine blk_far ?_ NB611_627.out _; (with_reducible repeat (first | refine blk_drewN ?_ _ | refine blk_drew ?_ | refine blk_alloc ?_ _)); exact BK611.out⟩
            have n5_ : Aside0 (((((w79.setCell ⟨gb627, 0, none⟩ (.int .i64 t621)).setCell ⟨gb627, 1, none⟩ (.string t622)).setCell ⟨gb627, 2, none⟩ (.int .i64 t623)).setCell ⟨gb627, 3, none⟩ (.slice Ao83 t624.length co83)).heap[gb627]? = some (.cells #[.int .i64 t621, .string t622, .int .i64 t623, .slice Ao83 t624.length co83] 40 (0, 0))) := ⟨by (with_reducible repeat (first | refine blk_drewN ?_ _ | refine blk_drew ?_ | refine blk_alloc ?_ _)); refine blk_put (cs := #[.int .i64 t621, .string t622, .int .i64 t623, .slice none 0 0]) ?_ 3 _ rfl; (with_reducible repeat (first | refine blk_drewN ?_ _ | refine blk_drew ?_ | refine blk_alloc ?_ _)); refine blk_put (cs := #[.int .i64 t621, .string t622, .int .i64 0, .slice none 0 0]) ?_ 2 _ rfl; (with_reducible repeat (first | refine blk_drewN ?_ _ | refine blk_drew ?_ | refine blk_alloc ?_ _)); refine blk_put (cs := #[.int .i64 t621, .string (⟨#[]⟩ : ByteArray), .int .i64 0, .slice none 0 0]) ?_ 1 _ rfl; (with_reducible repeat (first | refine blk_drewN ?_ _ | refine blk_drew ?_ | refine blk_alloc ?_ _)); refine blk_put (cs := #[.int .i64 0, .string (⟨#[]⟩ : ByteArray), .int .i64 0, .slice none 0 0]) ?_ 0 _ rfl; (with_reducible repeat (first | refine blk_drewN ?_ _ | refine blk_drew ?_ | refine blk_alloc ?_ _)); exact BK627.out⟩
            have n6_ : Aside0 (Below w.heap.size w ((((w79.setCell ⟨gb627, 0, none⟩ (.int .i64 t621)).setCell ⟨gb627, 1, none⟩ (.string t622)).setCell ⟨gb627, 2, none⟩ (.int .i64 t623)).setCell ⟨gb627, 3, none⟩ (.slice Ao83 t624.length co83))) := ⟨by repeat (first | (with_reducible first | exact HB.out | apply below_alloc | apply pw_below_drewN | apply below_drew1 | refine below_set ?_ GE604.out | refine below_set ?_ GE611.out | refine below_set ?_ GE627.out) | exact HB.out)⟩
            (try clear HO_605003)
            (try clear HO_612003)
            (try clear HO626)
            (try clear BK604)
            (try clear BK611)
            (try clear BK627)
            (try clear HB)
            generalize ((((w79.setCell ⟨gb627, 0, none⟩ (.int .i64 t621)).setCell ⟨gb627, 1, none⟩ (.string t622)).setCell ⟨gb627, 2, none⟩ (.int .i64 t623)).setCell ⟨gb627, 3, none⟩ (.slice Ao83 t624.length co83)) = w84 at n0_ n1_ n2_ n3_ n4_ n5_ n6_ ⊢
            have HO_605003 := n0_
            have HO_612003 := n1_
            have HO626 := n2_
            have BK604 := n3_
            have BK611 := n4_
            have BK627 := n5_
            have HB := n6_
            clear n0_ n1_ n2_ n3_ n4_ n5_ n6_
            have n0_ := Aside0.mk (Kd.N_drew HO_605003.out)
            have n1_ := Aside0.mk (Kd.N_drew HO_612003.out)
            have n2_ := Aside0.mk (Kd.N_drew HO626.out)
            have n3_ := Aside0.mk (blk_drew BK604.out)
            have n4_ := Aside0.mk (blk_drew BK611.out)
            have n5_ := Aside0.mk (blk_drew BK627.out)
            have n6_ := Aside0.mk (below_drew1 HB.out)
            clear HO_605003
            clear HO_612003
            clear HO626
            clear BK604
            clear BK611
            clear BK627
            clear HB
            have HO_605003 := n0_
            have HO_612003 := n1_
            have HO626 := n2_
            have BK604 := n3_
            have BK611 := n4_
            have BK627 := n5_
            have HB := n6_
            clear n0_ n1_ n2_ n3_ n4_ n5_ n6_
            refine start_ (n := 21) (S := fun w' => w'.cell? ⟨gb627, 0, none⟩ = some (.int .i64 t621) ∧ w'.cell? ⟨gb627, 1, none⟩ = some (.string t622) ∧ w'.cell? ⟨gb627, 2, none⟩ = some (.int .i64 t623) ∧ w'.cell? ⟨gb627, 3, none⟩ = some (.slice Ao83 t624.length co83) ∧ w'.cell? ⟨gb604, 0, none⟩ = some (.int .i64 t596) ∧ w'.cell? ⟨gb604, 1, none⟩ = some (.string t597) ∧ w'.cell? ⟨gb604, 2, none⟩ = some (.int .i64 t598) ∧ w'.cell? ⟨gb604, 3, none⟩ = some (.slice Ao10 t599.length co10)) (ds := []) #[false, false, false, false, false, false, false, false, false, false, false, false, false, false, false, false, false, false, false, false, false] (by kernel_rfl) rfl rfl ⟨(blk_cell BK627.out 0).trans rfl, (blk_cell BK627.out 1).trans rfl, (blk_cell BK627.out 2).trans rfl, (blk_cell BK627.out 3).trans rfl, (blk_cell BK604.out 0).trans rfl, (blk_cell BK604.out 1).trans rfl, (blk_cell BK604.out 2).trans rfl, (blk_cell BK604.out 3).trans rfl⟩ (fun hHeld => ?_); refine with_tabW laws_FnRenamed.tab8 laws_FnRenamed.bits8 (fun HT_ HW_ => ?_)
            generalize w84.drew = w85 at HO_605003 HO_612003 HO626 BK604 BK611 BK627 HB hHeld ⊢
            refine pure_ (i := 1) (N := some 38) (v := ?_) (a' := ?_) #[false, true, false, false, false, false, false, false, false, false, false, false, false, false, false, false, false, false, false, false, false] rfl rfl (any_of HT_.out (by kernel_rfl)) (fun _ _ _ h => h) (Or.inl ⟨by rfl, ?_⟩) ?_ ?_
            rotate_left
            · intro w'
              go_simp
              with_reducible rfl
            rotate_left
            · simp only [Act.put, List.setIfInBounds_toArray, List.set_cons_zero, List.set_cons_succ, i64_w, i32_w]
              rfl
            refine take_ (i := 0) (N := some 37) (v := ?_) (a' := ?_) #[true, true, false, false, false, false, false, false, false, false, false, false, false, false, false, false, false, false, false, false, false] rfl rfl (take_ofW HT_.out HW_.out (by kernel_rfl)) (fun _ _ _ h => h) (Or.inl ⟨by rfl, ?_⟩) hHeld ?_ ?_
            rotate_left
            · rintro w' ⟨s0, s1, s2, s3, s4, s5, s6, s7⟩
              go_simp
              with_reducible rfl
            rotate_left
            · simp only [Act.put, List.setIfInBounds_toArray, List.set_cons_zero, List.set_cons_succ, i64_w, i32_w]
              rfl
            refine take_ (i := 3) (N := some 40) (v := ?_) (a' := ?_) #[true, true, false, true, false, false, false, false, false, false, false, false, false, false, false, false, false, false, false, false, false] rfl rfl (take_ofW HT_.out HW_.out (by kernel_rfl)) (fun _ _ _ h => h) (Or.inl ⟨by rfl, ?_⟩) hHeld ?_ ?_
            rotate_left
            · rintro w' ⟨s0, s1, s2, s3, s4, s5, s6, s7⟩
              go_simp
              with_reducible rfl
            rotate_left
            · simp only [Act.put, List.setIfInBounds_toArray, List.set_cons_zero, List.set_cons_succ, i64_w, i32_w]
              rfl
            refine one_ (i := 2) (N := some 39) #[true, true, true, true, false, false, false, false, false, false, false, false, false, false, false, false, false, false, false, false, false] rfl rfl (one_of HT_.out (by kernel_rfl)) (by decide) (fun K hK => ?_)
            refine goes_ Try.func35 (by kernel_rfl) rfl #[.agg #[.int .i64 t621, .string t622, .int .i64 t623, .slice Ao83 t624.length co83], .string (⟨#[102, 114, 101, 115, 104, 32, 111, 110, 101]⟩ : ByteArray), .string t602] (by rfl) rfl rfl (by (try simp only [List.map_toArray, List.map_cons, List.map_nil]); first | done | rfl | (simp only [List.length_drop, List.length_take]; rfl)) ?_
            with_reducible refine (impl_Renamed.calls kj5 t621 t622 t623 _ _ t624 (⟨#[102, 114, 101, 115, 104, 32, 111, 110, 101]⟩ : ByteArray) t602 t628 t629 t630 t631 _ ?side1 ?side2 A35.out).mono ?_
            (case side1 => repeat (first | exact (Kd.N_reads' HO626.out).2.2 | (with_reducible refine Kd.C_alloc ?_ _) | (with_reducible refine Kd.C_drewN ?_ _) | (with_reducible refine Kd.C_drew ?_)))
            (case side2 => exact (Kd.N_reads' HO626.out).2.1)
            rintro e w86 ⟨v632, rfl, ho0, hb⟩
            refine ⟨_, rfl, ?_⟩
            have n0_ := Aside0.mk (Kd.N_elder' (by (with_reducible repeat (first | apply Kd.N_alloc | apply Kd.N_drewN | apply Kd.N_drew)); exact HO_605003.out) (by first | exact Kd.N_base ho0 | exact Kd.R_base ho0) hb)
            have n1_ := Aside0.mk (Kd.N_elder' (by (with_reducible repeat (first | apply Kd.N_alloc | apply Kd.N_drewN | apply Kd.N_drew)); exact HO_612003.out) (by first | exact Kd.N_base ho0 | exact Kd.R_base ho0) hb)
            have n2_ := Aside0.mk (Kd.N_elder' (by (with_reducible repeat (first | apply Kd.N_alloc | apply Kd.N_drewN | apply Kd.N_drew)); exact HO626.out) (by first | exact Kd.N_base ho0 | exact Kd.R_base ho0) hb)
            have n3_ := Aside0.mk (Kd.N_lower (Kd.N_mono (ok' := fun k_ => some k_ ≠ (.slice Ao10 t599.length co10 : Value).ownBlock ∧ some k_ ≠ (.slice Ao15 t608.length co15 : Value).ownBlock ∧ some k_ ≠ (.slice Ao83 t624.length co83 : Value).ownBlock ∧ k_ ≠ gb604 ∧ k_ ≠ gb611 ∧ k_ ≠ gb627) (Kd.R_N (Kd.R_bound ho0)) (fun k_ hk_ => ⟨(Kd.fresh' (Kd.N_lt (by (with_reducible repeat (first | apply Kd.N_alloc | apply Kd.N_drewN | apply Kd.N_drew)); exact HO_605003.out)) k_ hk_.2.1), (Kd.fresh' (Kd.N_lt (by (with_reducible repeat (first | apply Kd.N_alloc | apply Kd.N_drewN | apply Kd.N_drew)); exact HO_612003.out)) k_ hk_.2.1), (Kd.fresh' (Kd.N_lt (by (with_reducible repeat (first | apply Kd.N_alloc | apply Kd.N_drewN | apply Kd.N_drew)); exact HO626.out)) k_ hk_.2.1), (Kd.freshB (g := gb604) (o := .cells #[.int .i64 t596, .string t597, .int .i64 t598, .slice Ao10 t599.length co10] 40 (0, 0)) (by (with_reducible repeat (first | refine blk_drewN ?_ _ | refine blk_drew ?_ | refine blk_alloc ?_ _)); exact BK604.out) k_ hk_.2.1), (Kd.freshB (g := gb611) (o := .cells #[.int .i64 t605, .string t606, .int .i64 t607, .slice Ao15 t608.length co15] 40 (0, 0)) (by (with_reducible repeat (first | refine blk_drewN ?_ _ | refine blk_drew ?_ | refine blk_alloc ?_ _)); exact BK611.out) k_ hk_.2.1), (Kd.freshB (g := gb627) (o := .cells #[.int .i64 t621, .string t622, .int .i64 t623, .slice Ao83 t624.length co83] 40 (0, 0)) (by (with_reducible repeat (first | refine blk_drewN ?_ _ | refine blk_drew ?_ | refine blk_alloc ?_ _)); exact BK627.out) k_ hk_.2.1)⟩)) (below_size (by repeat (first | (with_reducible first | exact HB.out | apply below_alloc | apply pw_below_drewN | apply below_drew1 | refine below_set ?_ GE604.out | refine below_set ?_ GE611.out | refine below_set ?_ GE627.out) | exact HB.out))))
            have n4_ := Aside0.mk (blk_below (g := gb604) (o := .cells #[.int .i64 t596, .string t597, .int .i64 t598, .slice Ao10 t599.length co10] 40 (0, 0)) (by (with_reducible repeat (first | refine blk_drewN ?_ _ | refine blk_drew ?_ | refine blk_alloc ?_ _)); exact BK604.out) hb)
            have n5_ := Aside0.mk (blk_below (g := gb611) (o := .cells #[.int .i64 t605, .string t606, .int .i64 t607, .slice Ao15 t608.length co15] 40 (0, 0)) (by (with_reducible repeat (first | refine blk_drewN ?_ _ | refine blk_drew ?_ | refine blk_alloc ?_ _)); exact BK611.out) hb)
            have n6_ := Aside0.mk (blk_below (g := gb627) (o := .cells #[.int .i64 t621, .string t622, .int .i64 t623, .slice Ao83 t624.length co83] 40 (0, 0)) (by (with_reducible repeat (first | refine blk_drewN ?_ _ | refine blk_drew ?_ | refine blk_alloc ?_ _)); exact BK627.out) hb)
            have n7_ := Aside0.mk (below_step (by repeat (first | (with_reducible first | exact HB.out | apply below_alloc | apply pw_below_drewN | apply below_drew1 | refine below_set ?_ GE604.out | refine below_set ?_ GE611.out | refine below_set ?_ GE627.out) | exact HB.out)) hb)
            clear HO_605003
            clear HO_612003
            clear HO626
            clear BK604
            clear BK611
            clear BK627
            clear HB
            have HO_605003 := n0_
            have HO_612003 := n1_
            have HO626 := n2_
            have HO633 := n3_
            have BK604 := n4_
            have BK611 := n5_
            have BK627 := n6_
            have HB := n7_
            clear n0_ n1_ n2_ n3_ n4_ n5_ n6_ n7_
            (try clear hb)
            (try clear hb2)
            (try clear hk)
            (try clear hi)
            (try clear ho0)
            obtain ⟨Ao87, co87, eo87⟩ := Kd.N_slice HO633.out
            (first | subst eo87 | (injection eo87 with f1_ f2_ f3_; have f4_ := f1_.symm; have f5_ := f3_.symm; clear f1_ f2_ f3_; subst f4_; subst f5_))
            refine hK.out _ _ ⟨(blk_cell BK627.out 0).trans rfl, (blk_cell BK627.out 1).trans rfl, (blk_cell BK627.out 2).trans rfl, (blk_cell BK627.out 3).trans rfl, (blk_cell BK604.out 0).trans rfl, (blk_cell BK604.out 1).trans rfl, (blk_cell BK604.out 2).trans rfl, (blk_cell BK604.out 3).trans rfl⟩ (fun hHeld => ?_)
            clear hK K
            refine norm_ (a' := ?_) ?_ ?_
            rotate_left
            · show Act.put _ (some 39) _ = _
              simp only [Act.put, List.setIfInBounds_toArray, List.set_cons_zero, List.set_cons_succ, i64_w, i32_w]
              rfl
            refine one_ (i := 4) (N := some 41) #[true, true, true, true, true, false, false, false, false, false, false, false, false, false, false, false, false, false, false, false, false] rfl rfl (one_of HT_.out (by kernel_rfl)) (by decide) (fun K hK => ?_)
            refine goes_ Try.func40 (by kernel_rfl) rfl #[.agg #[.int .i64 t628, .string t629, .int .i64 t630, .slice Ao87 t631.length co87], .agg #[.int .i64 t596, .string t597, .int .i64 t598, .slice Ao10 t599.length co10]] (by rfl) rfl rfl (by (try simp only [List.map_toArray, List.map_cons, List.map_nil]); first | done | rfl | (simp only [List.length_drop, List.length_take]; rfl)) ?_
            with_reducible refine (laws_sameExpr.calls kj5 t628 t629 t630 _ _ t631 t596 t597 t598 _ _ t599 false _ ?side1 ?side2 ?side3 ?side4 A36.out).mono ?_
            (case side1 => repeat (first | exact (Kd.N_reads' HO633.out).2.2 | (with_reducible refine Kd.C_alloc ?_ _) | (with_reducible refine Kd.C_drewN ?_ _) | (with_reducible refine Kd.C_drew ?_)))
            (case side2 => exact (Kd.N_reads' HO633.out).2.1)
            (case side3 => repeat (first | exact (Kd.N_reads' HO_605003.out).2.2 | (with_reducible refine Kd.C_alloc ?_ _) | (with_reducible refine Kd.C_drewN ?_ _) | (with_reducible refine Kd.C_drew ?_)))
            (case side4 => exact (Kd.N_reads' HO_605003.out).2.1)
            rintro e w88 ⟨rfl, hb⟩
            refine ⟨_, rfl, ?_⟩
            have n0_ := Aside0.mk (Kd.N_below (by (with_reducible repeat (first | apply Kd.N_alloc | apply Kd.N_drewN | apply Kd.N_drew)); exact HO_605003.out) hb)
            have n1_ := Aside0.mk (Kd.N_below (by (with_reducible repeat (first | apply Kd.N_alloc | apply Kd.N_drewN | apply Kd.N_drew)); exact HO_612003.out) hb)
            have n2_ := Aside0.mk (Kd.N_below (by (with_reducible repeat (first | apply Kd.N_alloc | apply Kd.N_drewN | apply Kd.N_drew)); exact HO626.out) hb)
            have n3_ := Aside0.mk (Kd.N_below (by (with_reducible repeat (first | apply Kd.N_alloc | apply Kd.N_drewN | apply Kd.N_drew)); exact HO633.out) hb)
            have n4_ := Aside0.mk (blk_below (g := gb604) (o := .cells #[.int .i64 t596, .string t597, .int .i64 t598, .slice Ao10 t599.length co10] 40 (0, 0)) (by (with_reducible repeat (first | refine blk_drewN ?_ _ | refine blk_drew ?_ | refine blk_alloc ?_ _)); exact BK604.out) hb)
            have n5_ := Aside0.mk (blk_below (g := gb611) (o := .cells #[.int .i64 t605, .string t606, .int .i64 t607, .slice Ao15 t608.length co15] 40 (0, 0)) (by (with_reducible repeat (first | refine blk_drewN ?_ _ | refine blk_drew ?_ | refine blk_alloc ?_ _)); exact BK611.out) hb)
            have n6_ := Aside0.mk (blk_below (g := gb627) (o := .cells #[.int .i64 t621, .string t622, .int .i64 t623, .slice Ao83 t624.length co83] 40 (0, 0)) (by (with_reducible repeat (first | refine blk_drewN ?_ _ | refine blk_drew ?_ | refine blk_alloc ?_ _)); exact BK627.out) hb)
            have n7_ := Aside0.mk (below_step (by repeat (first | (with_reducible first | exact HB.out | apply below_alloc | apply pw_below_drewN | apply below_drew1 | refine below_set ?_ GE604.out | refine below_set ?_ GE611.out | refine below_set ?_ GE627.out) | exact HB.out)) hb)
            clear HO_605003
            clear HO_612003
            clear HO626
            clear HO633
            clear BK604
            clear BK611
            clear BK627
            clear HB
            have HO_605003 := n0_
            have HO_612003 := n1_
            have HO626 := n2_
            have HO633 := n3_
            have BK604 := n4_
            have BK611 := n5_
            have BK627 := n6_
            have HB := n7_
            clear n0_ n1_ n2_ n3_ n4_ n5_ n6_ n7_
            (try clear hb)
            (try clear hb2)
            (try clear hk)
            (try clear hi)
            refine hK.out _ _ ⟨(blk_cell BK627.out 0).trans rfl, (blk_cell BK627.out 1).trans rfl, (blk_cell BK627.out 2).trans rfl, (blk_cell BK627.out 3).trans rfl, (blk_cell BK604.out 0).trans rfl, (blk_cell BK604.out 1).trans rfl, (blk_cell BK604.out 2).trans rfl, (blk_cell BK604.out 3).trans rfl⟩ (fun hHeld => ?_)
            clear hK K
            refine norm_ (a' := ?_) ?_ ?_
            rotate_left
            · show Act.put _ (some 41) _ = _
              simp only [Act.put, List.setIfInBounds_toArray, List.set_cons_zero, List.set_cons_succ, i64_w, i32_w]
              rfl
            refine pure_ (i := 5) (N := some 42) (v := ?_) (a' := ?_) #[true, true, true, true, true, true, false, false, false, false, false, false, false, false, false, false, false, false, false, false, false] rfl rfl (any_of HT_.out (by kernel_rfl)) (fun _ _ _ h => h) (Or.inl ⟨by rfl, ?_⟩) ?_ ?_
            rotate_left
            · intro w'
              go_simp
              with_reducible rfl
            rotate_left
            · simp only [Act.put, List.setIfInBounds_toArray, List.set_cons_zero, List.set_cons_succ, i64_w, i32_w]
              rfl
            refine pure_ (i := 6) (N := some 43) (v := undef) (a' := ?_) #[true, true, true, true, true, true, true, false, false, false, false, false, false, false, false, false, false, false, false, false, false] rfl rfl (any_of HT_.out (by kernel_rfl)) (fun _ _ _ h => h) (Or.inr ⟨by rfl, rfl⟩) ?_ ?_
            rotate_left
            · simp only [Act.put, List.setIfInBounds_toArray, List.set_cons_zero, List.set_cons_succ, i64_w, i32_w]
              rfl
            refine pure_ (i := 7) (N := some 44) (v := undef) (a' := ?_) #[true, true, true, true, true, true, true, true, false, false, false, false, false, false, false, false, false, false, false, false, false] rfl rfl (any_of HT_.out (by kernel_rfl)) (fun _ _ _ h => h) (Or.inr ⟨by rfl, rfl⟩) ?_ ?_
            rotate_left
            · simp only [Act.put, List.setIfInBounds_toArray, List.set_cons_zero, List.set_cons_succ, i64_w, i32_w]
              rfl
            refine pure_ (i := 8) (N := some 45) (v := undef) (a' := ?_) #[true, true, true, true, true, true, true, true, true, false, false, false, false, false, false, false, false, false, false, false, false] rfl rfl (any_of HT_.out (by kernel_rfl)) (fun _ _ _ h => h) (Or.inr ⟨by rfl, rfl⟩) ?_ ?_
            rotate_left
            · simp only [Act.put, List.setIfInBounds_toArray, List.set_cons_zero, List.set_cons_succ, i64_w, i32_w]
              rfl
            refine pure_ (i := 9) (N := some 46) (v := undef) (a' := ?_) #[true, true, true, true, true, true, true, true, true, true, false, false, false, false, false, false, false, false, false, false, false] rfl rfl (any_of HT_.out (by kernel_rfl)) (fun _ _ _ h => h) (Or.inr ⟨by rfl, rfl⟩) ?_ ?_
            rotate_left
            · simp only [Act.put, List.setIfInBounds_toArray, List.set_cons_zero, List.set_cons_succ, i64_w, i32_w]
              rfl
            refine pure_ (i := 10) (N := some 47) (v := undef) (a' := ?_) #[true, true, true, true, true, true, true, true, true, true, true, false, false, false, false, false, false, false, false, false, false] rfl rfl (any_of HT_.out (by kernel_rfl)) (fun _ _ _ h => h) (Or.inr ⟨by rfl, rfl⟩) ?_ ?_
            rotate_left
            · simp only [Act.put, List.setIfInBounds_toArray, List.set_cons_zero, List.set_cons_succ, i64_w, i32_w]
              rfl
            refine pure_ (i := 11) (N := some 48) (v := ?_) (a' := ?_) #[true, true, true, true, true, true, true, true, true, true, true, true, false, false, false, false, false, false, false, false, false] rfl rfl (any_of HT_.out (by kernel_rfl)) (fun _ _ _ h => h) (Or.inl ⟨by rfl, ?_⟩) ?_ ?_
            rotate_left
            · intro w'
              go_simp
              with_reducible rfl
            rotate_left
            · simp only [Act.put, List.setIfInBounds_toArray, List.set_cons_zero, List.set_cons_succ, i64_w, i32_w]
              rfl
            refine pure_ (i := 12) (N := some 49) (v := ?_) (a' := ?_) #[true, true, true, true, true, true, true, true, true, true, true, true, true, false, false, false, false, false, false, false, false] rfl rfl (any_of HT_.out (by kernel_rfl)) (fun _ _ _ h => h) (Or.inl ⟨by rfl, ?_⟩) ?_ ?_
            rotate_left
            · intro w'
              go_simp
              with_reducible rfl
            rotate_left
            · simp only [Act.put, List.setIfInBounds_toArray, List.set_cons_zero, List.set_cons_succ, i64_w, i32_w]
              rfl
            refine pure_ (i := 13) (N := some 50) (v := undef) (a' := ?_) #[true, true, true, true, true, true, true, true, true, true, true, true, true, true, false, false, false, false, false, false, false] rfl rfl (any_of HT_.out (by kernel_rfl)) (fun _ _ _ h => h) (Or.inr ⟨by rfl, rfl⟩) ?_ ?_
            rotate_left
            · simp only [Act.put, List.setIfInBounds_toArray, List.set_cons_zero, List.set_cons_succ, i64_w, i32_w]
              rfl
            refine pure_ (i := 14) (N := some 51) (v := undef) (a' := ?_) #[true, true, true, true, true, true, true, true, true, true, true, true, true, true, true, false, false, false, false, false, false] rfl rfl (any_of HT_.out (by kernel_rfl)) (fun _ _ _ h => h) (Or.inr ⟨by rfl, rfl⟩) ?_ ?_
            rotate_left
            · simp only [Act.put, List.setIfInBounds_toArray, List.set_cons_zero, List.set_cons_succ, i64_w, i32_w]
              rfl
            refine pure_ (i := 15) (N := some 52) (v := undef) (a' := ?_) #[true, true, true, true, true, true, true, true, true, true, true, true, true, true, true, true, false, false, false, false, false] rfl rfl (any_of HT_.out (by kernel_rfl)) (fun _ _ _ h => h) (Or.inr ⟨by rfl, rfl⟩) ?_ ?_
            rotate_left
            · simp only [Act.put, List.setIfInBounds_toArray, List.set_cons_zero, List.set_cons_succ, i64_w, i32_w]
              rfl
            refine pure_ (i := 16) (N := some 53) (v := undef) (a' := ?_) #[true, true, true, true, true, true, true, true, true, true, true, true, true, true, true, true, true, false, false, false, false] rfl rfl (any_of HT_.out (by kernel_rfl)) (fun _ _ _ h => h) (Or.inr ⟨by rfl, rfl⟩) ?_ ?_
            rotate_left
            · simp only [Act.put, List.setIfInBounds_toArray, List.set_cons_zero, List.set_cons_succ, i64_w, i32_w]
              rfl
            refine pure_ (i := 17) (N := some 54) (v := undef) (a' := ?_) #[true, true, true, true, true, true, true, true, true, true, true, true, true, true, true, true, true, true, false, false, false] rfl rfl (any_of HT_.out (by kernel_rfl)) (fun _ _ _ h => h) (Or.inr ⟨by rfl, rfl⟩) ?_ ?_
            rotate_left
            · simp only [Act.put, List.setIfInBounds_toArray, List.set_cons_zero, List.set_cons_succ, i64_w, i32_w]
              rfl
            refine pure_ (i := 18) (N := some 55) (v := undef) (a' := ?_) #[true, true, true, true, true, true, true, true, true, true, true, true, true, true, true, true, true, true, true, false, false] rfl rfl (any_of HT_.out (by kernel_rfl)) (fun _ _ _ h => h) (Or.inr ⟨by rfl, rfl⟩) ?_ ?_
            rotate_left
            · simp only [Act.put, List.setIfInBounds_toArray, List.set_cons_zero, List.set_cons_succ, i64_w, i32_w]
              rfl
            refine pure_ (i := 19) (N := some 56) (v := ?_) (a' := ?_) #[true, true, true, true, true, true, true, true, true, true, true, true, true, true, true, true, true, true, true, true, false] rfl rfl (any_of HT_.out (by kernel_rfl)) (fun _ _ _ h => h) (Or.inl ⟨by rfl, ?_⟩) ?_ ?_
            rotate_left
            · intro w'
              go_simp
              with_reducible rfl
            rotate_left
            · simp only [Act.put, List.setIfInBounds_toArray, List.set_cons_zero, List.set_cons_succ, i64_w, i32_w]
              rfl
            refine pure_ (i := 20) (N := some 2) (v := ?_) (a' := ?_) #[true, true, true, true, true, true, true, true, true, true, true, true, true, true, true, true, true, true, true, true, true] rfl rfl (any_of HT_.out (by kernel_rfl)) (fun _ _ _ h => h) (Or.inl ⟨by rfl, ?_⟩) ?_ ?_
            rotate_left
            · intro w'
              go_simp
              with_reducible rfl
            rotate_left
            · simp only [Act.put, List.setIfInBounds_toArray, List.set_cons_zero, List.set_cons_succ, i64_w, i32_w]
              rfl
            refine done_ (done_of HT_.out (by kernel_rfl)) ?_
            try go_wp2
            go_ret
            exact ⟨by first | rfl | (simp [errW_none, errW_some] <;> rfl) | (simp [*, errW_none, errW_some] <;> rfl), by repeat (first | (with_reducible first | exact HB.out | apply below_alloc | apply pw_below_drewN | apply below_drew1 | refine below_set ?_ GE604.out | refine below_set ?_ GE611.out | refine below_set ?_ GE627.out) | exact HB.out)⟩

/-- THE ONE PURE STATEMENT of laws_FnRenamed: yours. -/
def laws_FnRenamed.Pure : Prop := ∀ (l0 : List Int), l0.length ≤ maxLen → l0.length * 1 ≤ 140737488351232 → (∀ x ∈ l0, (Lit.int .u8 x).wf = true) → ∃ k, laws_FnRenamed.f k l0 = some true
theorem laws_FnRenamed.walk (P : laws_FnRenamed.Pure) (a0 : Option Addr) (len0 cap0 : Nat) (z0 : List Int) (w : World) (w0 : (a0 = none ∧ len0 = 0 ∧ cap0 = 0 ∧ z0 = []) ∨ ∃ x, a0 = some x ∧ len0 ≤ cap0 ∧ cap0 ≤ maxLen ∧ z0.length = cap0 ∧ (∀ i, i < z0.length → w.cell? (x.add i) = some (.int .u8 (z0.getD i 0))) ∧ ∀ n ∈ z0, (Lit.int .u8 n).wf = true) (y0 : len0 * 1 ≤ 140737488351232) :
    Calls Try.prog 8 #[.slice a0 len0 cap0] w fun e w' => e = .returned (.bool true) ∧ Below w.heap.size w w' := by
  obtain ⟨l0, rfl, hr0, hm0, hw0, hc0⟩ := ReadsInt.ofRowC w0
  obtain ⟨k, h⟩ := P l0 hm0 y0 hw0
  refine (laws_FnRenamed.calls k _ _ l0 true w (Kd.C_of_reads (d := (0 : Int)) (h1 := fun _ => rfl) hr0) hc0 h).mono ?_
  rintro e w' ⟨rfl, hd⟩
  exact ⟨rfl, hd⟩

end Go.Proofs.Ytbbndlagginnoaa.Q
