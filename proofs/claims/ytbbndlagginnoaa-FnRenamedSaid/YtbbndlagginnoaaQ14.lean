/- Written by a program of this session (drive.py) over the translation: a part of the proofs of the laws; nothing is asked beyond what each statement says. -/
import Derived.Test.YtbbndlagginnoaaQ0
namespace Go.Proofs.Ytbbndlagginnoaa.Q
open Go.RowKit Go.Proofs.YtbbndlagginnoaaW.PrintWords Go.Proofs.YtbbndlagginnoaaW.PrintLast Go.Proofs.YtbbndlagginnoaaW.PrintMore
attribute [local go_sem] max2_int min2_int max_two min_two max_three min_three max_four min_four   -- for this text's walks alone
set_option linter.unusedVariables false
set_option linter.unusedSimpArgs false

/-! ### impl_Renamed: function 35 -/
mutual
def impl_Renamed.j0 : Nat → ByteArray → ByteArray → Bool → Int → ByteArray → Int → List (S40) → Int → ByteArray → Int → Option (Int × ByteArray × Int × (List (S40)))
  | 0, _, _, _, _, _, _, _, _, _, _ => none
  | k + 1, x1, x2, x25, x414000, x414001, x414002, x414003, x416000, x416001, x416002 => if x25 = true then (impl_Renamed.j1 k x1 x2 x414000 x414001 x414002 x414003 x416000 x2 x416002) else (impl_Renamed.j1 k x1 x2 x414000 x414001 x414002 x414003 x416000 x416001 x416002)
def impl_Renamed.j1 : Nat → ByteArray → ByteArray → Int → ByteArray → Int → List (S40) → Int → ByteArray → Int → Option (Int × ByteArray × Int × (List (S40)))
  | 0, _, _, _, _, _, _, _, _, _ => none
  | k + 1, x1, x2, x414000, x414001, x414002, x414003, x416000, x416001, x416002 => impl_Renamed.l0 k x1 x2 x414003 (x414003.length : Int) 0 x416000 x416001 x416002 ([] : List (S40))
def impl_Renamed.l0 : Nat → ByteArray → ByteArray → List (S40) → Int → Int → Int → ByteArray → Int → List (S40) → Option (Int × ByteArray × Int × (List (S40)))
  | 0, _, _, _, _, _, _, _, _, _ => none
  | k + 1, x1, x2, x29, x30, x31, x416000, x416001, x416002, x416003 => if x31 < x30 then (if 0 ≤ x31 then (if x31 < (x29.length : Int) then ((impl_Renamed.f k ((rd_T40 x29 x31).f0) ((rd_T40 x29 x31).f1) ((rd_T40 x29 x31).f2) ((rd_T40 x29 x31).f3) x1 x2).bind fun bt418 => (if x416003.length < 2513169434916 then (impl_Renamed.l0 k x1 x2 x29 x30 (wrap64 (x31 + 1)) x416000 x416001 x416002 (x416003 ++ [(⟨bt418.1, bt418.2.1, bt418.2.2.1, bt418.2.2.2⟩ : S40)])) else (none))) else (none)) else (none)) else (some (x416000, x416001, x416002, x416003))
def impl_Renamed.f : Nat → Int → ByteArray → Int → List (S40) → ByteArray → ByteArray → Option (Int × ByteArray × Int × (List (S40)))
  | 0, _, _, _, _, _, _ => none
  | k + 1, a0_0, a0_1, a0_2, l0_3, a1, a2 => if a0_0 = 0 then (impl_Renamed.j0 k a1 a2 (a0_1.toList == a1.toList) a0_0 a0_1 a0_2 l0_3 a0_0 a0_1 a0_2) else (impl_Renamed.j0 k a1 a2 false a0_0 a0_1 a0_2 l0_3 a0_0 a0_1 a0_2)
end
def impl_Renamed.T7 : Bool × List (List Nat × List Nat) := (true, [([], []), ([0], [0]), ([], []), ([], []), ([], []), ([2, 3, 4], [2, 3, 4]), ([5], [5]), ([1, 6, 5], [1, 6]), ([0, 1, 2, 3, 4, 5, 6, 7], []), ([8, 7, 7, 0, 1, 2, 3, 4, 5, 6, 7], [7, 8])])
def impl_Renamed.B7 : List Nat := [0, 1, 0, 0, 0, 28, 60, 127, 255, 511]
theorem impl_Renamed.tab7 : rtab .any (opsOf Try.f35 7) = impl_Renamed.T7 := by kernel_rfl
theorem impl_Renamed.bits7 : waitsOk impl_Renamed.T7.2 impl_Renamed.B7 = true := by kernel_rfl
set_option maxHeartbeats 8000000 in
set_option maxRecDepth 100000 in
theorem impl_Renamed.calls (k : Nat) : ∀ (a0_0 : Int) (a0_1 : ByteArray) (a0_2 : Int) (A0_3 : Option Addr) (c0_3 : Nat) (l0_3 : List (S40)) (a1 : ByteArray) (a2 : ByteArray) (r1 : Int) (r2 : ByteArray) (r3 : Int) (r4 : List (S40)) (w : World) (hr0_3 : Kd.C k40 w A0_3 l0_3.length l0_3) (hc0_3 : l0_3.length ≤ c0_3) (h : impl_Renamed.f k a0_0 a0_1 a0_2 l0_3 a1 a2 = some (r1, r2, r3, r4)),
    Calls Try.prog 35 #[.agg #[.int .i64 a0_0, .string a0_1, .int .i64 a0_2, .slice A0_3 l0_3.length c0_3], .string a1, .string a2] w fun e w' => ∃ v3_ : Value, e = .returned (.agg #[.int .i64 r1, .string r2, .int .i64 r3, v3_]) ∧ Kd.R k40 40 w' w.heap.size (fun _ => True) v3_ r4 ∧ Below w.heap.size w w' := by
  induction k using Nat.strongRecOn with
  | _ k ih =>
  intro a0_0 a0_1 a0_2 A0_3 c0_3 l0_3 a1 a2 r1 r2 r3 r4 w hr0_3 hc0_3 h
  cases k with
  | zero => exact absurd h (by simp [impl_Renamed.f])
  | succ k =>
  simp only [impl_Renamed.f] at h
  have hu40 := Try.underlying40
  have HR0_3 := Aside0.mk hr0_3
  have HC0_3 := Aside0.mk hc0_3
  clear hr0_3 hc0_3
  have HB := Aside0.mk (Below.refl w.heap.size w)
  have H : (if a0_0 = 0 then (impl_Renamed.j0 k a1 a2 (a0_1.toList == a1.toList) a0_0 a0_1 a0_2 l0_3 a0_0 a0_1 a0_2) else (impl_Renamed.j0 k a1 a2 false a0_0 a0_1 a0_2 l0_3 a0_0 a0_1 a0_2)) = some (r1, r2, r3, r4) := h
  clear h
  have HC4 := Aside0.mk H
  clear H
  go_enter Try.func35, Try.ntmps35
  go_upto_region 2 with (first | ((with_reducible refine gate_dst (N := 3) rfl ?_); refine box_event ?hg (N := 3) ?hd (cs := #[.int .i64 a0_0, .string a0_1, .int .i64 a0_2, .slice A0_3 l0_3.length c0_3]) (t := 40) ?hr ?_; (case hd => rfl); (case hg => rfl); (case hr => first | (go_simp; done) | (go_simp; rfl)); intro gb413 hg w5 hbox hb; have n0_ := Aside0.mk (below_step (by repeat (first | (with_reducible first | exact HB.out | apply below_alloc | apply pw_below_drewN | apply below_drew1) | exact HB.out)) hb); have n1_ := Aside0.mk (hbox); have n2_ := Aside0.mk ((by rw [hg]; exact (below_size (by repeat (first | (with_reducible first | exact HB.out | apply below_alloc | apply pw_below_drewN | apply below_drew1) | exact HB.out))) : w.heap.size ≤ gb413)); have n3_ := Aside0.mk ((by rw [hg]; exact (below_size (by repeat (first | (with_reducible first | exact HB.out | apply below_alloc | apply pw_below_drewN | apply below_drew1) | exact HB.out))) : w.heap.size ≤ gb413)); clear HB; have HB := n0_; have BK413 := n1_; have GW413 := n2_; have GE413 := n3_; clear n0_ n1_ n2_ n3_; clear hb hbox hg) | ((with_reducible refine gate_dst (N := 6) rfl ?_); refine box_event ?hg (N := 6) ?hd (cs := #[.int .i64 0, .string (⟨#[]⟩ : ByteArray), .int .i64 0, .slice none 0 0]) (t := 40) ?hr ?_; (case hd => rfl); (case hg => rfl); (case hr => first | (go_simp; done) | (go_simp; rfl)); intro gb414 hg w6 hbox hb; have n0_ := Aside0.mk (blk_below (g := gb413) (o := .cells #[.int .i64 a0_0, .string a0_1, .int .i64 a0_2, .slice A0_3 l0_3.length c0_3] 40 (0, 0)) (by (with_reducible repeat (first | refine blk_drewN ?_ _ | refine blk_drew ?_ | refine blk_alloc ?_ _)); exact BK413.out) hb); have n1_ := Aside0.mk (below_step (by repeat (first | (with_reducible first | exact HB.out | apply below_alloc | apply pw_below_drewN | apply below_drew1 | refine below_set ?_ GE413.out) | exact HB.out)) hb); have n2_ := Aside0.mk (hbox); have n3_ := Aside0.mk ((by rw [hg]; exact (below_size (by repeat (first | (with_reducible first | exact HB.out | apply below_alloc | apply pw_below_drewN | apply below_drew1 | refine below_set ?_ GE413.out) | exact HB.out))) : w.heap.size ≤ gb414)); have n4_ := Aside0.mk ((by rw [hg]; exact (below_size (by repeat (first | (with_reducible first | exact HB.out | apply below_alloc | apply pw_below_drewN | apply below_drew1 | refine below_set ?_ GE413.out) | exact HB.out))) : w.heap.size ≤ gb414)); have n5_ := Aside0.mk ((by rw [hg]; exact Nat.ne_of_lt (blk_lt (g := gb413) (o := .cells #[.int .i64 a0_0, .string a0_1, .int .i64 a0_2, .slice A0_3 l0_3.length c0_3] 40 (0, 0)) (by (with_reducible repeat (first | refine blk_drewN ?_ _ | refine blk_drew ?_ | refine blk_alloc ?_ _)); exact BK413.out)) : gb413 ≠ gb414)); have n6_ := Aside0.mk ((by rw [hg]; exact Nat.ne_of_gt (blk_lt (g := gb413) (o := .cells #[.int .i64 a0_0, .string a0_1, .int .i64 a0_2, .slice A0_3 l0_3.length c0_3] 40 (0, 0)) (by (with_reducible repeat (first | refine blk_drewN ?_ _ | refine blk_drew ?_ | refine blk_alloc ?_ _)); exact BK413.out)) : gb414 ≠ gb413)); clear BK413; clear HB; have BK413 := n0_; have HB := n1_; have BK414 := n2_; have GW414 := n3_; have GE414 := n4_; have NB413_414 := n5_; have NB414_413 := n6_; clear n0_ n1_ n2_ n3_ n4_ n5_ n6_; clear hb hbox hg; have hnb7 := NB413_414.out; have hnc7 := NB414_413.out; have hcz8_0 : w6.cell? ⟨gb413, 0, none⟩ = some (.int .i64 a0_0) := (blk_cell BK413.out 0).trans rfl; have hcz8_1 : w6.cell? ⟨gb413, 1, none⟩ = some (.string a0_1) := (blk_cell BK413.out 1).trans rfl; have hcz8_2 : w6.cell? ⟨gb413, 2, none⟩ = some (.int .i64 a0_2) := (blk_cell BK413.out 2).trans rfl; have hcz8_3 : w6.cell? ⟨gb413, 3, none⟩ = some (.slice A0_3 l0_3.length c0_3) := (blk_cell BK413.out 3).trans rfl; have hfz8_0 := blk_frozen BK413.out 0; have hfz8_1 := blk_frozen BK413.out 1; have hfz8_2 := blk_frozen BK413.out 2; have hfz8_3 := blk_frozen BK413.out 3) | ((with_reducible refine gate_dst (N := 7) rfl ?_); refine box_event ?hg (N := 7) ?hd (cs := #[.int .i64 0, .string (⟨#[]⟩ : ByteArray), .int .i64 0, .slice none 0 0]) (t := 40) ?hr ?_; (case hd => rfl); (case hg => rfl); (case hr => first | (go_simp; done) | (go_simp; rfl)); intro gb415 hg w9 hbox hb; have n0_ := Aside0.mk (blk_below (g := gb413) (o := .cells #[.int .i64 a0_0, .string a0_1, .int .i64 a0_2, .slice A0_3 l0_3.length c0_3] 40 (0, 0)) (by (with_reducible repeat (first | refine blk_drewN ?_ _ | refine blk_drew ?_ | refine blk_alloc ?_ _)); exact BK413.out) hb); have n1_ := Aside0.mk (blk_below (g := gb414) (o := .cells #[.int .i64 0, .string (⟨#[]⟩ : ByteArray), .int .i64 0, .slice none 0 0] 40 (0, 0)) (by (with_reducible repeat (first | refine blk_drewN ?_ _ | refine blk_drew ?_ | refine blk_alloc ?_ _)); exact BK414.out) hb); have n2_ := Aside0.mk (below_step (by repeat (first | (with_reducible first | exact HB.out | apply below_alloc | apply pw_below_drewN | apply below_drew1 | refine below_set ?_ GE413.out | refine below_set ?_ GE414.out) | exact HB.out)) hb); have n3_ := Aside0.mk (hbox); have n4_ := Aside0.mk ((by rw [hg]; exact (below_size (by repeat (first | (with_reducible first | exact HB.out | apply below_alloc | apply pw_below_drewN | apply below_drew1 | refine below_set ?_ GE413.out | refine below_set ?_ GE414.out) | exact HB.out))) : w.heap.size ≤ gb415)); have n5_ := Aside0.mk ((by rw [hg]; exact (below_size (by repeat (first | (with_reducible first | exact HB.out | apply below_alloc | apply pw_below_drewN | apply below_drew1 | refine below_set ?_ GE413.out | refine below_set ?_ GE414.out) | exact HB.out))) : w.heap.size ≤ gb415)); have n6_ := Aside0.mk ((by rw [hg]; exact Nat.ne_of_lt (blk_lt (g := gb413) (o := .cells #[.int .i64 a0_0, .string a0_1, .int .i64 a0_2, .slice A0_3 l0_3.length c0_3] 40 (0, 0)) (by (with_reducible repeat (first | refine blk_drewN ?_ _ | refine blk_drew ?_ | refine blk_alloc ?_ _)); exact BK413.out)) : gb413 ≠ gb415)); have n7_ := Aside0.mk ((by rw [hg]; exact Nat.ne_of_gt (blk_lt (g := gb413) (o := .cells #[.int .i64 a0_0, .string a0_1, .int .i64 a0_2, .slice A0_3 l0_3.length c0_3] 40 (0, 0)) (by (with_reducible repeat (first | refine blk_drewN ?_ _ | refine blk_drew ?_ | refine blk_alloc ?_ _)); exact BK413.out)) : gb415 ≠ gb413)); have n8_ := Aside0.mk ((by rw [hg]; exact Nat.ne_of_lt (blk_lt (g := gb414) (o := .cells #[.int .i64 0, .string (⟨#[]⟩ : ByteArray), .int .i64 0, .slice none 0 0] 40 (0, 0)) (by (with_reducible repeat (first | refine blk_drewN ?_ _ | refine blk_drew ?_ | refine blk_alloc ?_ _)); exact BK414.out)) : gb414 ≠ gb415)); have n9_ := Aside0.mk ((by rw [hg]; exact Nat.ne_of_gt (blk_lt (g := gb414) (o := .cells #[.int .i64 0, .string (⟨#[]⟩ : ByteArray), .int .i64 0, .slice none 0 0] 40 (0, 0)) (by (with_reducible repeat (first | refine blk_drewN ?_ _ | refine blk_drew ?_ | refine blk_alloc ?_ _)); exact BK414.out)) : gb415 ≠ gb414)); clear BK413; clear BK414; clear HB; have BK413 := n0_; have BK414 := n1_; have HB := n2_; have BK415 := n3_; have GW415 := n4_; have GE415 := n5_; have NB413_415 := n6_; have NB415_413 := n7_; have NB414_415 := n8_; have NB415_414 := n9_; clear n0_ n1_ n2_ n3_ n4_ n5_ n6_ n7_ n8_ n9_; clear hb hbox hg; have hnb10 := NB415_413.out; have hnc10 := NB413_415.out; have hnb11 := NB415_414.out; have hnc11 := NB414_415.out; have hcz12_0 : w9.cell? ⟨gb415, 0, none⟩ = some (.int .i64 0) := (blk_cell BK415.out 0).trans rfl; have hcz12_1 : w9.cell? ⟨gb415, 1, none⟩ = some (.string (⟨#[]⟩ : ByteArray)) := (blk_cell BK415.out 1).trans rfl; have hcz12_2 : w9.cell? ⟨gb415, 2, none⟩ = some (.int .i64 0) := (blk_cell BK415.out 2).trans rfl; have hcz12_3 : w9.cell? ⟨gb415, 3, none⟩ = some (.slice none 0 0) := (blk_cell BK415.out 3).trans rfl; have hfz12_0 := blk_frozen BK415.out 0; have hfz12_1 := blk_frozen BK415.out 1; have hfz12_2 := blk_frozen BK415.out 2; have hfz12_3 := blk_frozen BK415.out 3))
  (try simp only [Act.put, List.setIfInBounds_toArray, List.set_cons_zero, List.set_cons_succ])
  go_cut [25] (fun v25 wc => ∃ (kq : Nat) (x25_3 : Bool), v25 = .bool x25_3 ∧ Aside0 (impl_Renamed.j0 kq a1 a2 x25_3 a0_0 a0_1 a0_2 l0_3 a0_0 a0_1 a0_2 = some (r1, r2, r3, r4)) ∧ Aside0 (kq ≤ k) ∧ Aside0 (wc.heap[gb413]? = some (.cells #[.int .i64 a0_0, .string a0_1, .int .i64 a0_2, (.slice A0_3 l0_3.length c0_3)] 40 (0, 0))) ∧ Aside0 (wc.heap[gb414]? = some (.cells #[.int .i64 0, .string (⟨#[]⟩ : ByteArray), .int .i64 0, (.slice none 0 0)] 40 (0, 0))) ∧ Aside0 (wc.heap[gb415]? = some (.cells #[.int .i64 a0_0, .string a0_1, .int .i64 a0_2, (.slice none 0 0)] 40 (0, 0))) ∧ Aside0 (Below w.heap.size w wc))
  case first =>
    have H := HC4.out
    clear HC4
    by_cases c13 : a0_0 = 0
    · rw [if_pos c13] at H
      have c13b0 : (a0_0 == 0) = true := beq_iff_eq.mpr c13
      have c13b1 : (a0_0 != 0) = false := bne_eq_false_iff_eq.mpr c13
      clear c13
      (first | rw [c13b0] | (simp only [i64_w, i32_w]; rw [c13b0]) | skip)
      have H' := Aside0.mk H
      clear H
      have hnb14 := NB413_414.out
      have hnc14 := NB414_413.out
      have hnb15 := NB413_415.out
      have hnc15 := NB415_413.out
      have hcz16_0 : w9.cell? ⟨gb413, 0, none⟩ = some (.int .i64 a0_0) := (blk_cell BK413.out 0).trans rfl
      have hcz16_1 : w9.cell? ⟨gb413, 1, none⟩ = some (.string a0_1) := (blk_cell BK413.out 1).trans rfl
      have hcz16_2 : w9.cell? ⟨gb413, 2, none⟩ = some (.int .i64 a0_2) := (blk_cell BK413.out 2).trans rfl
      have hcz16_3 : w9.cell? ⟨gb413, 3, none⟩ = some (.slice A0_3 l0_3.length c0_3) := (blk_cell BK413.out 3).trans rfl
      have hfz16_0 := blk_frozen BK413.out 0
      have hfz16_1 := blk_frozen BK413.out 1
      have hfz16_2 := blk_frozen BK413.out 2
      have hfz16_3 := blk_frozen BK413.out 3
      go_wp2
      go_meet
      case rel => exact ⟨_, ((a0_1.toList == a1.toList)), (by first | rfl | (simp; done) | (simp [*]; done)), H', ⟨by first | omega | exact Nat.le_refl _⟩, ⟨by (with_reducible repeat (first | refine blk_drewN ?_ _ | refine blk_drew ?_ | refine blk_alloc ?_ _)); refine blk_far ?_ NB413_415.out _; (with_reducible repeat (first | refine blk_drewN ?_ _ | refine blk_drew ?_ | refine blk_alloc ?_ _)); refine blk_far ?_ NB413_415.out _; (with_reducible repeat (first | refine blk_drewN ?_ _ | refine blk_drew ?_ | refine blk_alloc ?_ _)); refine blk_far ?_ NB413_415.out _; (with_reducible repeat (first | refine blk_drewN ?_ _ | refine blk_drew ?_ | refine blk_alloc ?_ _)); refine blk_far ?_ NB413_415.out _; (with_reducible repeat (first | refine blk_drewN ?_ _ | refine blk_drew ?_ | refine blk_alloc ?_ _)); exact BK413.out⟩, ⟨by (with_reducible repeat (first | refine blk_drewN ?_ _ | refine blk_drew ?_ | refine blk_alloc ?_ _)); refine blk_far ?_ NB414_415.out _; (with_reducible repeat (first | refine blk_drewN ?_ _ | refine blk_drew ?_ | refine blk_alloc ?_ _)); refine blk_far ?_ NB414_415.out _; (with_reducible repeat (first | refine blk_drewN ?_ _ | refine blk_drew ?_ | refine blk_alloc ?_ _)); refine blk_far ?_ NB414_415.out _; (with_reducible repeat (first | refine blk_drewN ?_ _ | refine blk_drew ?_ | refine blk_alloc ?_ _)); refine blk_far ?_ NB414_415.out _; (with_reducible repeat (first | refine blk_drewN ?_ _ | refine blk_drew ?_ | refine blk_alloc ?_ _)); exact BK414.out⟩, ⟨by (with_reducible repeat (first | refine blk_drewN ?_ _ | refine blk_drew ?_ | refine blk_alloc ?_ _)); refine blk_put (cs := #[.int .i64 a0_0, .string a0_1, .int .i64 a0_2, .slice none 0 0]) ?_ 3 _ rfl; (with_reducible repeat (first | refine blk_drewN ?_ _ | refine blk_drew ?_ | refine blk_alloc ?_ _)); refine blk_put (cs := #[.int .i64 a0_0, .string a0_1, .int .i64 0, .slice none 0 0]) ?_ 2 _ rfl; (with_reducible repeat (first | refine blk_drewN ?_ _ | refine blk_drew ?_ | refine blk_alloc ?_ _)); refine blk_put (cs := #[.int .i64 a0_0, .string (⟨#[]⟩ : ByteArray), .int .i64 0, .slice none 0 0]) ?_ 1 _ rfl; (with_reducible repeat (first | refine blk_drewN ?_ _ | refine blk_drew ?_ | refine blk_alloc ?_ _)); refine blk_put (cs := #[.int .i64 0, .string (⟨#[]⟩ : ByteArray), .int .i64 0, .slice none 0 0]) ?_ 0 _ rfl; (with_reducible repeat (first | refine blk_drewN ?_ _ | refine blk_drew ?_ | refine blk_alloc ?_ _)); exact BK415.out⟩, ⟨by repeat (first | (with_reducible first | exact HB.out | apply below_alloc | apply pw_below_drewN | apply below_drew1 | refine below_set ?_ GE413.out | refine below_set ?_ GE414.out | refine below_set ?_ GE415.out) | exact HB.out)⟩⟩
    · rw [if_neg c13] at H
      have c13b0 : (a0_0 == 0) = false := beq_eq_false_iff_ne.mpr c13
      have c13b1 : (a0_0 != 0) = true := bne_iff_ne.mpr c13
      (first | rw [c13b0] | (simp only [i64_w, i32_w]; rw [c13b0]) | skip)
      have H' := Aside0.mk H
      clear H
      have hnb17 := NB413_414.out
      have hnc17 := NB414_413.out
      have hnb18 := NB413_415.out
      have hnc18 := NB415_413.out
      have hcz19_0 : w9.cell? ⟨gb413, 0, none⟩ = some (.int .i64 a0_0) := (blk_cell BK413.out 0).trans rfl
      have hcz19_1 : w9.cell? ⟨gb413, 1, none⟩ = some (.string a0_1) := (blk_cell BK413.out 1).trans rfl
      have hcz19_2 : w9.cell? ⟨gb413, 2, none⟩ = some (.int .i64 a0_2) := (blk_cell BK413.out 2).trans rfl
      have hcz19_3 : w9.cell? ⟨gb413, 3, none⟩ = some (.slice A0_3 l0_3.length c0_3) := (blk_cell BK413.out 3).trans rfl
      have hfz19_0 := blk_frozen BK413.out 0
      have hfz19_1 := blk_frozen BK413.out 1
      have hfz19_2 := blk_frozen BK413.out 2
      have hfz19_3 := blk_frozen BK413.out 3
      go_wp2
      go_meet
      case rel => exact ⟨_, (false), (by first | rfl | (simp; done) | (simp [*]; done)), H', ⟨by first | omega | exact Nat.le_refl _⟩, ⟨by (with_reducible repeat (first | refine blk_drewN ?_ _ | refine blk_drew ?_ | refine blk_alloc ?_ _)); refine blk_far ?_ NB413_415.out _; (with_reducible repeat (first | refine blk_drewN ?_ _ | refine blk_drew ?_ | refine blk_alloc ?_ _)); refine blk_far ?_ NB413_415.out _; (with_reducible repeat (first | refine blk_drewN ?_ _ | refine blk_drew ?_ | refine blk_alloc ?_ _)); refine blk_far ?_ NB413_415.out _; (with_reducible repeat (first | refine blk_drewN ?_ _ | refine blk_drew ?_ | refine blk_alloc ?_ _)); refine blk_far ?_ NB413_415.out _; (with_reducible repeat (first | refine blk_drewN ?_ _ | refine blk_drew ?_ | refine blk_alloc ?_ _)); exact BK413.out⟩, ⟨by (with_reducible repeat (first | refine blk_drewN ?_ _ | refine blk_drew ?_ | refine blk_alloc ?_ _)); refine blk_far ?_ NB414_415.out _; (with_reducible repeat (first | refine blk_drewN ?_ _ | refine blk_drew ?_ | refine blk_alloc ?_ _)); refine blk_far ?_ NB414_415.out _; (with_reducible repeat (first | refine blk_drewN ?_ _ | refine blk_drew ?_ | refine blk_alloc ?_ _)); refine blk_far ?_ NB414_415.out _; (with_reducible repeat (first | refine blk_drewN ?_ _ | refine blk_drew ?_ | refine blk_alloc ?_ _)); refine blk_far ?_ NB414_415.out _; (with_reducible repeat (first | refine blk_drewN ?_ _ | refine blk_drew ?_ | refine blk_alloc ?_ _)); exact BK414.out⟩, ⟨by (with_reducible repeat (first | refine blk_drewN ?_ _ | refine blk_drew ?_ | refine blk_alloc ?_ _)); refine blk_put (cs := #[.int .i64 a0_0, .string a0_1, .int .i64 a0_2, .slice none 0 0]) ?_ 3 _ rfl; (with_reducible repeat (first | refine blk_drewN ?_ _ | refine blk_drew ?_ | refine blk_alloc ?_ _)); refine blk_put (cs := #[.int .i64 a0_0, .string a0_1, .int .i64 0, .slice none 0 0]) ?_ 2 _ rfl; (with_reducible repeat (first | refine blk_drewN ?_ _ | refine blk_drew ?_ | refine blk_alloc ?_ _)); refine blk_put (cs := #[.int .i64 a0_0, .string (⟨#[]⟩ : ByteArray), .int .i64 0, .slice none 0 0]) ?_ 1 _ rfl; (with_reducible repeat (first | refine blk_drewN ?_ _ | refine blk_drew ?_ | refine blk_alloc ?_ _)); refine blk_put (cs := #[.int .i64 0, .string (⟨#[]⟩ : ByteArray), .int .i64 0, .slice none 0 0]) ?_ 0 _ rfl; (with_reducible repeat (first | refine blk_drewN ?_ _ | refine blk_drew ?_ | refine blk_alloc ?_ _)); exact BK415.out⟩, ⟨by repeat (first | (with_reducible first | exact HB.out | apply below_alloc | apply pw_below_drewN | apply below_drew1 | refine below_set ?_ GE413.out | refine below_set ?_ GE414.out | refine below_set ?_ GE415.out) | exact HB.out)⟩⟩
  case rest =>
    clear HC4
    try clear c1
    try clear p2
    try clear c3
    try clear c7
    try clear c10
    try clear c11
    try clear c13
    try clear c13b0
    try clear c13b1
    try clear c14
    try clear c15
    try clear c17
    try clear c18
    try clear hcz12_0
    try clear hcz12_1
    try clear hcz12_2
    try clear hcz12_3
    try clear hcz16_0
    try clear hcz16_1
    try clear hcz16_2
    try clear hcz16_3
    try clear hcz19_0
    try clear hcz19_1
    try clear hcz19_2
    try clear hcz19_3
    try clear hcz8_0
    try clear hcz8_1
    try clear hcz8_2
    try clear hcz8_3
    try clear hfz12_0
    try clear hfz12_1
    try clear hfz12_2
    try clear hfz12_3
    try clear hfz16_0
    try clear hfz16_1
    try clear hfz16_2
    try clear hfz16_3
    try clear hfz19_0
    try clear hfz19_1
    try clear hfz19_2
    try clear hfz19_3
    try clear hfz8_0
    try clear hfz8_1
    try clear hfz8_2
    try clear hfz8_3
    obtain ⟨kq, x25_3, rfl, HA, HJ3, BK413, BK414, BK415, HB⟩ := hcut
    cases kq with
    | zero => exact absurd HA.out (by simp [impl_Renamed.j0])
    | succ kj3 =>
      have H := HA.out
      clear HA
      simp only [impl_Renamed.j0] at H
      have HC20 := Aside0.mk H
      clear H
      go_upto_if 25 with (fail)
      go_cut [] (fun wc => ∃ (kq : Nat) (x416001_19 : ByteArray), Aside0 (impl_Renamed.j1 kq a1 a2 a0_0 a0_1 a0_2 l0_3 a0_0 x416001_19 a0_2 = some (r1, r2, r3, r4)) ∧ Aside0 (kq ≤ kj3) ∧ Aside0 (wc.heap[gb413]? = some (.cells #[.int .i64 a0_0, .string a0_1, .int .i64 a0_2, (.slice A0_3 l0_3.length c0_3)] 40 (0, 0))) ∧ Aside0 (wc.heap[gb414]? = some (.cells #[.int .i64 0, .string (⟨#[]⟩ : ByteArray), .int .i64 0, (.slice none 0 0)] 40 (0, 0))) ∧ Aside0 (wc.heap[gb415]? = some (.cells #[.int .i64 a0_0, .string x416001_19, .int .i64 a0_2, (.slice none 0 0)] 40 (0, 0))) ∧ Aside0 (Below w.heap.size w wc))
      case first =>
        have H := HC20.out
        clear HC20
        by_cases c21 : x25_3 = true
        · subst c21
          have H1 : (impl_Renamed.j1 kj3 a1 a2 a0_0 a0_1 a0_2 l0_3 a0_0 a2 a0_2) = some (r1, r2, r3, r4) := by rw [if_pos rfl] at H; exact H
          clear H
          have H := H1
          clear H1
          have H' := Aside0.mk H
          clear H
          have hnb22 := NB415_413.out
          have hnc22 := NB413_415.out
          have hnb23 := NB415_414.out
          have hnc23 := NB414_415.out
          have hcz24_0 : wc.cell? ⟨gb415, 0, none⟩ = some (.int .i64 a0_0) := (blk_cell BK415.out 0).trans rfl
          have hcz24_1 : wc.cell? ⟨gb415, 1, none⟩ = some (.string a0_1) := (blk_cell BK415.out 1).trans rfl
          have hcz24_2 : wc.cell? ⟨gb415, 2, none⟩ = some (.int .i64 a0_2) := (blk_cell BK415.out 2).trans rfl
          have hcz24_3 : wc.cell? ⟨gb415, 3, none⟩ = some (.slice none 0 0) := (blk_cell BK415.out 3).trans rfl
          have hfz24_0 := blk_frozen BK415.out 0
          have hfz24_1 := blk_frozen BK415.out 1
          have hfz24_2 := blk_frozen BK415.out 2
          have hfz24_3 := blk_frozen BK415.out 3
          go_wp2
          go_meet
          case rel => exact ⟨_, (a2), H', ⟨by have := HJ3.out; first | omega | exact Nat.le_refl _⟩, ⟨by (with_reducible repeat (first | refine blk_drewN ?_ _ | refine blk_drew ?_ | refine blk_alloc ?_ _)); refine blk_far ?_ NB413_415.out _; (with_reducible repeat (first | refine blk_drewN ?_ _ | refine blk_drew ?_ | refine blk_alloc ?_ _)); exact BK413.out⟩, ⟨by (with_reducible repeat (first | refine blk_drewN ?_ _ | refine blk_drew ?_ | refine blk_alloc ?_ _)); refine blk_far ?_ NB414_415.out _; (with_reducible repeat (first | refine blk_drewN ?_ _ | refine blk_drew ?_ | refine blk_alloc ?_ _)); exact BK414.out⟩, ⟨by (with_reducible repeat (first | refine blk_drewN ?_ _ | refine blk_drew ?_ | refine blk_alloc ?_ _)); refine blk_put (cs := #[.int .i64 a0_0, .string a0_1, .int .i64 a0_2, .slice none 0 0]) ?_ 1 _ rfl; (with_reducible repeat (first | refine blk_drewN ?_ _ | refine blk_drew ?_ | refine blk_alloc ?_ _)); exact BK415.out⟩, ⟨by repeat (first | (with_reducible first | exact HB.out | apply below_alloc | apply pw_below_drewN | apply below_drew1 | refine below_set ?_ GE413.out | refine below_set ?_ GE414.out | refine below_set ?_ GE415.out) | exact HB.out)⟩⟩
        · replace c21 := Bool.eq_false_iff.mpr c21
          subst c21
          have H1 : (impl_Renamed.j1 kj3 a1 a2 a0_0 a0_1 a0_2 l0_3 a0_0 a0_1 a0_2) = some (r1, r2, r3, r4) := by rw [if_neg (show ¬ (false = true) by decide)] at H; exact H
          clear H
          have H := H1
          clear H1
          have H' := Aside0.mk H
          clear H
          go_wp2
          go_meet
          case rel => exact ⟨_, (a0_1), H', ⟨by have := HJ3.out; first | omega | exact Nat.le_refl _⟩, ⟨by (with_reducible repeat (first | refine blk_drewN ?_ _ | refine blk_drew ?_ | refine blk_alloc ?_ _)); exact BK413.out⟩, ⟨by (with_reducible repeat (first | refine blk_drewN ?_ _ | refine blk_drew ?_ | refine blk_alloc ?_ _)); exact BK414.out⟩, ⟨by (with_reducible repeat (first | refine blk_drewN ?_ _ | refine blk_drew ?_ | refine blk_alloc ?_ _)); exact BK415.out⟩, ⟨by repeat (first | (with_reducible first | exact HB.out | apply below_alloc | apply pw_below_drewN | apply below_drew1 | refine below_set ?_ GE413.out | refine below_set ?_ GE414.out | refine below_set ?_ GE415.out) | exact HB.out)⟩⟩
      case rest =>
        clear HC20
        try clear c1
        try clear c2
        try clear p2
        try clear c3
        try clear c7
        try clear c10
        try clear c11
        try clear c13
        try clear c13b0
        try clear c13b1
        try clear c14
        try clear c15
        try clear c17
        try clear c18
        try clear c21
        try clear c22
        try clear c23
        try clear hcz12_0
        try clear hcz12_1
        try clear hcz12_2
        try clear hcz12_3
        try clear hcz16_0
        try clear hcz16_1
        try clear hcz16_2
        try clear hcz16_3
        try clear hcz19_0
        try clear hcz19_1
        try clear hcz19_2
        try clear hcz19_3
        try clear hcz24_0
        try clear hcz24_1
        try clear hcz24_2
        try clear hcz24_3
        try clear hcz8_0
        try clear hcz8_1
        try clear hcz8_2
        try clear hcz8_3
        try clear hfz12_0
        try clear hfz12_1
        try clear hfz12_2
        try clear hfz12_3
        try clear hfz16_0
        try clear hfz16_1
        try clear hfz16_2
        try clear hfz16_3
        try clear hfz19_0
        try clear hfz19_1
        try clear hfz19_2
        try clear hfz19_3
        try clear hfz24_0
        try clear hfz24_1
        try clear hfz24_2
        try clear hfz24_3
        try clear hfz8_0
        try clear hfz8_1
        try clear hfz8_2
        try clear hfz8_3
        try clear p2
        obtain ⟨kq, x416001_19, HA, HJ19, BK413, BK414, BK415, HB⟩ := hcut
        cases kq with
        | zero => exact absurd HA.out (by simp [impl_Renamed.j1])
        | succ kj19 =>
          have H := HA.out
          clear HA
          simp only [impl_Renamed.j1] at H
          have H' := Aside0.mk H
          clear H
          have hnb25 := NB413_414.out
          have hnc25 := NB414_413.out
          have hnb26 := NB413_415.out
          have hnc26 := NB415_413.out
          have hcz27_0 : wc.cell? ⟨gb413, 0, none⟩ = some (.int .i64 a0_0) := (blk_cell BK413.out 0).trans rfl
          have hcz27_1 : wc.cell? ⟨gb413, 1, none⟩ = some (.string a0_1) := (blk_cell BK413.out 1).trans rfl
          have hcz27_2 : wc.cell? ⟨gb413, 2, none⟩ = some (.int .i64 a0_2) := (blk_cell BK413.out 2).trans rfl
          have hcz27_3 : wc.cell? ⟨gb413, 3, none⟩ = some (.slice A0_3 l0_3.length c0_3) := (blk_cell BK413.out 3).trans rfl
          have hfz27_0 := blk_frozen BK413.out 0
          have hfz27_1 := blk_frozen BK413.out 1
          have hfz27_2 := blk_frozen BK413.out 2
          have hfz27_3 := blk_frozen BK413.out 3
          go_wp2
          go_loopg [31] kj19 (fun kq v31 w' => ∃ (x31_3 : Int) (x416003_3 : List (S40)) (u416003 : Value), v31 = .int .i64 x31_3 ∧ Aside0 (impl_Renamed.l0 kq a1 a2 l0_3 (l0_3.length : Int) x31_3 a0_0 x416001_19 a0_2 x416003_3 = some (r1, r2, r3, r4)) ∧ Aside0 (kq ≤ kj19) ∧ Aside0 (Kd.R k40 40 w' w.heap.size (fun k_ => k_ ≠ gb413 ∧ k_ ≠ gb414 ∧ k_ ≠ gb415) u416003 x416003_3) ∧ Aside0 (w'.heap[gb413]? = some (.cells #[.int .i64 a0_0, .string a0_1, .int .i64 a0_2, (.slice A0_3 l0_3.length c0_3)] 40 (0, 0))) ∧ Aside0 (w'.heap[gb414]? = some (.cells #[.int .i64 0, .string (⟨#[]⟩ : ByteArray), .int .i64 0, (.slice none 0 0)] 40 (0, 0))) ∧ Aside0 (w'.heap[gb415]? = some (.cells #[.int .i64 a0_0, .string x416001_19, .int .i64 a0_2, u416003] 40 (0, 0))) ∧ Aside0 (Below w.heap.size w w'))
          case atStart => exact ⟨(0), (([] : List (S40))), (.slice none 0 0), (by first | rfl | (simp; done) | (simp [*]; done)), H', ⟨Nat.le_refl _⟩, ⟨by first | exact Kd.R_nil _ _ _ _ _ | exact Kd.N_nil _ _ _ _ _ | exact Kd.V_nil _ _ _ _ _ | exact Kd.Q_nil _ _ _ _ _ | exact Kd.S_nil _ _ _ _ _⟩, ⟨by (with_reducible repeat (first | refine blk_drewN ?_ _ | refine blk_drew ?_ | refine blk_alloc ?_ _)); exact BK413.out⟩, ⟨by (with_reducible repeat (first | refine blk_drewN ?_ _ | refine blk_drew ?_ | refine blk_alloc ?_ _)); exact BK414.out⟩, ⟨by (with_reducible repeat (first | refine blk_drewN ?_ _ | refine blk_drew ?_ | refine blk_alloc ?_ _)); exact BK415.out⟩, ⟨by repeat (first | (with_reducible first | exact HB.out | apply below_alloc | apply pw_below_drewN | apply below_drew1 | refine below_set ?_ GE413.out | refine below_set ?_ GE414.out | refine below_set ?_ GE415.out) | exact HB.out)⟩⟩
          case round =>
            clear H'
            try clear c1
            try clear c2
            try clear p2
            try clear c3
            try clear c7
            try clear c10
            try clear c11
            try clear c13
            try clear c13b0
            try clear c13b1
            try clear c14
            try clear c15
            try clear c17
            try clear c18
            try clear c21
            try clear c22
            try clear c23
            try clear c25
            try clear c26
            try clear hcz12_0
            try clear hcz12_1
            try clear hcz12_2
            try clear hcz12_3
            try clear hcz16_0
            try clear hcz16_1
            try clear hcz16_2
            try clear hcz16_3
            try clear hcz19_0
            try clear hcz19_1
            try clear hcz19_2
            try clear hcz19_3
            try clear hcz24_0
            try clear hcz24_1
            try clear hcz24_2
            try clear hcz24_3
            try clear hcz27_0
            try clear hcz27_1
            try clear hcz27_2
            try clear hcz27_3
            try clear hcz8_0
            try clear hcz8_1
            try clear hcz8_2
            try clear hcz8_3
            try clear hfz12_0
            try clear hfz12_1
            try clear hfz12_2
            try clear hfz12_3
            try clear hfz16_0
            try clear hfz16_1
            try clear hfz16_2
            try clear hfz16_3
            try clear hfz19_0
            try clear hfz19_1
            try clear hfz19_2
            try clear hfz19_3
            try clear hfz24_0
            try clear hfz24_1
            try clear hfz24_2
            try clear hfz24_3
            try clear hfz27_0
            try clear hfz27_1
            try clear hfz27_2
            try clear hfz27_3
            try clear hfz8_0
            try clear hfz8_1
            try clear hfz8_2
            try clear hfz8_3
            try clear p2
            obtain ⟨x31_3, x416003_3, u416003, rfl, HA, HK3, HO_416003, BK413, BK414, BK415, HB⟩ := hrel
            cases gk with
            | zero => exact absurd HA.out (by simp [impl_Renamed.l0])
            | succ k3 =>
              have H := HA.out
              clear HA
              simp only [impl_Renamed.l0] at H
              by_cases c28 : x31_3 < (l0_3.length : Int)
              · rw [if_pos c28] at H
                have c28b0 : decide (x31_3 < (l0_3.length : Int)) = true := decide_eq_true c28
                clear c28
                by_cases c29 : 0 ≤ x31_3
                · rw [if_pos c29] at H
                  have c29b0 : decide (0 ≤ x31_3) = true := decide_eq_true c29
                  clear c29
                  by_cases c30 : x31_3 < (l0_3.length : Int)
                  · rw [if_pos c30] at H
                    have c30b0 : decide (x31_3 < (l0_3.length : Int)) = true := decide_eq_true c30
                    clear c30
                    replace H := Option.bind_eq_some_iff.mp H
                    obtain ⟨⟨t418, t419, t420, t421⟩, A310, H⟩ := H
                    replace H : (if x416003_3.length < 2513169434916 then (impl_Renamed.l0 k3 a1 a2 l0_3 (l0_3.length : Int) (wrap64 (x31_3 + 1)) a0_0 x416001_19 a0_2 (x416003_3 ++ [(⟨t418, t419, t420, t421⟩ : S40)])) else (none)) = some (r1, r2, r3, r4) := H
                    have A31 := Aside0.mk A310
                    clear A310
                    by_cases c32 : x416003_3.length < 2513169434916
                    · rw [if_pos c32] at H
                      have LMc32 := Aside0.mk c32
                      clear c32
                      obtain ⟨y424, hy424⟩ : ∃ y_ : List (S40), y_ = (x416003_3 ++ [(⟨t418, t419, t420, t421⟩ : S40)]) := ⟨_, rfl⟩
                      replace H : (impl_Renamed.l0 k3 a1 a2 l0_3 (l0_3.length : Int) (wrap64 (x31_3 + 1)) a0_0 x416001_19 a0_2 y424) = some (r1, r2, r3, r4) := by first | (rw [hy424]; with_reducible exact H) | (have H2_ := (Option.bind_some _ _).symm.trans H; rw [hy424]; with_reducible exact H2_) | (have H2_ := (Option.bind_some _ _).symm.trans H; with_reducible exact H2_) | with_reducible exact H | (rw [hy424]; exact H) | exact H
                      have Ny424 := Aside0.mk hy424
                      clear hy424
                      have H' := Aside0.mk H
                      clear H
                      have p416 : 0 ≤ (x31_3 : Int) := of_decide_eq_true (by first | (with_reducible assumption) | assumption)
                      have q416 : x31_3 < (l0_3.length : Int) := of_decide_eq_true (by first | (with_reducible assumption) | assumption)
                      obtain ⟨ad416, A416_3, c416_3, e416, hx416_0, hx416_1, hx416_2, hx416_3, hl416_3, hi416_3⟩ := at_T40 HR0_3.out x31_3 p416 q416
                      cases e416
                      replace hx416_0 := (HB.out.cell (World.block_lt_of_cell? w _ hx416_0)).trans hx416_0
                      replace hx416_1 := (HB.out.cell (World.block_lt_of_cell? w _ hx416_1)).trans hx416_1
                      replace hx416_2 := (HB.out.cell (World.block_lt_of_cell? w _ hx416_2)).trans hx416_2
                      replace hx416_3 := (HB.out.cell (World.block_lt_of_cell? w _ hx416_3)).trans hx416_3
                      have HR416_3 := Aside0.mk hi416_3
                      have HC416_3 := Aside0.mk hl416_3
                      clear hi416_3 hl416_3
                      replace p416 := eq_true p416
                      replace q416 := eq_true q416
                      try go_wp2_with (first | ((with_reducible refine gate_dst (N := 9) rfl ?_); refine box_event ?hg (N := 9) ?hd (cs := #[.int .i64 0, .string (⟨#[]⟩ : ByteArray), .int .i64 0, .slice none 0 0]) (t := 40) ?hr ?_; (case hd => rfl); (case hg => rfl); (case hr => first | (go_simp; done) | (go_simp; rfl)); intro gb417 hg w33 hbox hb; have n0_ := Aside0.mk (Kd.R_below (Kd.R_elderB (by (with_reducible repeat (first | apply Kd.R_alloc | apply Kd.R_drewN | apply Kd.R_drew)); exact HO_416003.out) gb417 (Nat.le_of_eq hg.symm)) hb); have n1_ := Aside0.mk (blk_below (g := gb413) (o := .cells #[.int .i64 a0_0, .string a0_1, .int .i64 a0_2, .slice (some ad416) l0_3.length c0_3] 40 (0, 0)) (by (with_reducible repeat (first | refine blk_drewN ?_ _ | refine blk_drew ?_ | refine blk_alloc ?_ _)); exact BK413.out) hb); have n2_ := Aside0.mk (blk_below (g := gb414) (o := .cells #[.int .i64 0, .string (⟨#[]⟩ : ByteArray), .int .i64 0, .slice none 0 0] 40 (0, 0)) (by (with_reducible repeat (first | refine blk_drewN ?_ _ | refine blk_drew ?_ | refine blk_alloc ?_ _)); exact BK414.out) hb); have n3_ := Aside0.mk (blk_below (g := gb415) (o := .cells #[.int .i64 a0_0, .string x416001_19, .int .i64 a0_2, u416003] 40 (0, 0)) (by (with_reducible repeat (first | refine blk_drewN ?_ _ | refine blk_drew ?_ | refine blk_alloc ?_ _)); exact BK415.out) hb); have n4_ := Aside0.mk (below_step (by repeat (first | (with_reducible first | exact HB.out | apply below_alloc | apply pw_below_drewN | apply below_drew1 | refine below_set ?_ GE413.out | refine below_set ?_ GE414.out | refine below_set ?_ GE415.out) | exact HB.out)) hb); have n5_ := Aside0.mk (hbox); have n6_ := Aside0.mk ((by rw [hg]; exact (below_size (by repeat (first | (with_reducible first | exact HB.out | apply below_alloc | apply pw_below_drewN | apply below_drew1 | refine below_set ?_ GE413.out | refine below_set ?_ GE414.out | refine below_set ?_ GE415.out) | exact HB.out))) : w.heap.size ≤ gb417)); have n7_ := Aside0.mk ((by rw [hg]; exact (below_size (by repeat (first | (with_reducible first | exact HB.out | apply below_alloc | apply pw_below_drewN | apply below_drew1 | refine below_set ?_ GE413.out | refine below_set ?_ GE414.out | refine below_set ?_ GE415.out) | exact HB.out))) : w.heap.size ≤ gb417)); have n8_ := Aside0.mk ((by rw [hg]; exact Nat.ne_of_lt (blk_lt (g := gb413) (o := .cells #[.int .i64 a0_0, .string a0_1, .int .i64 a0_2, .slice (some ad416) l0_3.length c0_3] 40 (0, 0)) (by (with_reducible repeat (first | refine blk_drewN ?_ _ | refine blk_drew ?_ | refine blk_alloc ?_ _)); exact BK413.out)) : gb413 ≠ gb417)); have n9_ := Aside0.mk ((by rw [hg]; exact Nat.ne_of_gt (blk_lt (g := gb413) (o := .cells #[.int .i64 a0_0, .string a0_1, .int .i64 a0_2, .slice (some ad416) l0_3.length c0_3] 40 (0, 0)) (by (with_reducible repeat (first | refine blk_drewN ?_ _ | refine blk_drew ?_ | refine blk_alloc ?_ _)); exact BK413.out)) : gb417 ≠ gb413)); have n10_ := Aside0.mk ((by rw [hg]; exact Nat.ne_of_lt (blk_lt (g := gb414) (o := .cells #[.int .i64 0, .string (⟨#[]⟩ : ByteArray), .int .i64 0, .slice none 0 0] 40 (0, 0)) (by (with_reducible repeat (first | refine blk_drewN ?_ _ | refine blk_drew ?_ | refine blk_alloc ?_ _)); exact BK414.out)) : gb414 ≠ gb417)); have n11_ := Aside0.mk ((by rw [hg]; exact Nat.ne_of_gt (blk_lt (g := gb414) (o := .cells #[.int .i64 0, .string (⟨#[]⟩ : ByteArray), .int .i64 0, .slice none 0 0] 40 (0, 0)) (by (with_reducible repeat (first | refine blk_drewN ?_ _ | refine blk_drew ?_ | refine blk_alloc ?_ _)); exact BK414.out)) : gb417 ≠ gb414)); have n12_ := Aside0.mk ((by rw [hg]; exact Nat.ne_of_lt (blk_lt (g := gb415) (o := .cells #[.int .i64 a0_0, .string x416001_19, .int .i64 a0_2, u416003] 40 (0, 0)) (by (with_reducible repeat (first | refine blk_drewN ?_ _ | refine blk_drew ?_ | refine blk_alloc ?_ _)); exact BK415.out)) : gb415 ≠ gb417)); have n13_ := Aside0.mk ((by rw [hg]; exact Nat.ne_of_gt (blk_lt (g := gb415) (o := .cells #[.int .i64 a0_0, .string x416001_19, .int .i64 a0_2, u416003] 40 (0, 0)) (by (with_reducible repeat (first | refine blk_drewN ?_ _ | refine blk_drew ?_ | refine blk_alloc ?_ _)); exact BK415.out)) : gb417 ≠ gb415)); clear HO_416003; clear BK413; clear BK414; clear BK415; clear HB; have HO_416003 := n0_; have BK413 := n1_; have BK414 := n2_; have BK415 := n3_; have HB := n4_; have BK417 := n5_; have GW417 := n6_; have GE417 := n7_; have NB413_417 := n8_; have NB417_413 := n9_; have NB414_417 := n10_; have NB417_414 := n11_; have NB415_417 := n12_; have NB417_415 := n13_; clear n0_ n1_ n2_ n3_ n4_ n5_ n6_ n7_ n8_ n9_ n10_ n11_ n12_ n13_; clear hb hbox hg; have hnb34 := NB417_413.out; have hnc34 := NB413_417.out; have hnb35 := NB417_414.out; have hnc35 := NB414_417.out; have hnb36 := NB417_415.out; have hnc36 := NB415_417.out; have hcz37_0 : w33.cell? ⟨gb417, 0, none⟩ = some (.int .i64 0) := (blk_cell BK417.out 0).trans rfl; have hcz37_1 : w33.cell? ⟨gb417, 1, none⟩ = some (.string (⟨#[]⟩ : ByteArray)) := (blk_cell BK417.out 1).trans rfl; have hcz37_2 : w33.cell? ⟨gb417, 2, none⟩ = some (.int .i64 0) := (blk_cell BK417.out 2).trans rfl; have hcz37_3 : w33.cell? ⟨gb417, 3, none⟩ = some (.slice none 0 0) := (blk_cell BK417.out 3).trans rfl; have hfz37_0 := blk_frozen BK417.out 0; have hfz37_1 := blk_frozen BK417.out 1; have hfz37_2 := blk_frozen BK417.out 2; have hfz37_3 := blk_frozen BK417.out 3))
                      have n0_ : Aside0 (Kd.R k40 40 ((((w33.setCell ⟨gb417, 0, none⟩ (.int .i64 ((rd_T40 l0_3 x31_3).f0))).setCell ⟨gb417, 1, none⟩ (.string ((rd_T40 l0_3 x31_3).f1))).setCell ⟨gb417, 2, none⟩ (.int .i64 ((rd_T40 l0_3 x31_3).f2))).setCell ⟨gb417, 3, none⟩ (.slice A416_3 ((rd_T40 l0_3 x31_3).f3).length c416_3)) w.heap.size (fun k_ => k_ ≠ gb413 ∧ k_ ≠ gb414 ∧ k_ ≠ gb415 ∧ k_ ≠ gb417) u416003 x416003_3) := ⟨by (with_reducible repeat (first | apply Kd.R_alloc | apply Kd.R_drewN | apply Kd.R_drew)); exact Kd.R_mono (Kd.R_far (p := ⟨gb417, 3, none⟩) (Kd.R_far (p := ⟨gb417, 2, none⟩) (Kd.R_far (p := ⟨gb417, 1, none⟩) (Kd.R_far (p := ⟨gb417, 0, none⟩) (Kd.R_mono HO_416003.out (fun k_ hk => (⟨hk, hk.2⟩ : _ ∧ k_ ≠ gb417))) (fun _ hk => hk.2) (.int .i64 ((rd_T40 l0_3 x31_3).f0))) (fun _ hk => hk.2) (.string ((rd_T40 l0_3 x31_3).f1))) (fun _ hk => hk.2) (.int .i64 ((rd_T40 l0_3 x31_3).f2))) (fun _ hk => hk.2) (.slice A416_3 ((rd_T40 l0_3 x31_3).f3).length c416_3)) (fun _ hk => ⟨hk.1.1.1, ⟨hk.1.1.2.1, ⟨hk.1.1.2.2, hk.1.2⟩⟩⟩)⟩
                      have n1_ : Aside0 (((((w33.setCell ⟨gb417, 0, none⟩ (.int .i64 ((rd_T40 l0_3 x31_3).f0))).setCell ⟨gb417, 1, none⟩ (.string ((rd_T40 l0_3 x31_3).f1))).setCell ⟨gb417, 2, none⟩ (.int .i64 ((rd_T40 l0_3 x31_3).f2))).setCell ⟨gb417, 3, none⟩ (.slice A416_3 ((rd_T40 l0_3 x31_3).f3).length c416_3)).heap[gb413]? = some (.cells #[.int .i64 a0_0, .string a0_1, .int .i64 a0_2, .slice (some ad416) l0_3.length c0_3] 40 (0, 0))) := ⟨by (with_reducible repeat (first | refine blk_drewN ?_ _ | refine blk_drew ?_ | refine blk_alloc ?_ _)); refine blk_far ?_ NB413_417.out _; (with_reducible repeat (first | refine blk_drewN ?_ _ | refine blk_drew ?_ | refine blk_alloc ?_ _)); refine blk_far ?_ NB413_417.out _; (with_reducible repeat (first | refine blk_drewN ?_ _ | refine blk_drew ?_ | refine blk_alloc ?_ _)); refine blk_far ?_ NB413_417.out _; (with_reducible repeat (first | refine blk_drewN ?_ _ | refine blk_drew ?_ | refine blk_alloc ?_ _)); refine blk_far ?_ NB413_417.out _; (with_reducible repeat (first | refine blk_drewN ?_ _ | refine blk_drew ?_ | refine blk_alloc ?_ _)); exact BK413.out⟩
                      have n2_ : Aside0 (((((w33.setCell ⟨gb417, 0, none⟩ (.int .i64 ((rd_T40 l0_3 x31_3).f0))).setCell ⟨gb417, 1, none⟩ (.string ((rd_T40 l0_3 x31_3).f1))).setCell ⟨gb417, 2, none⟩ (.int .i64 ((rd_T40 l0_3 x31_3).f2))).setCell ⟨gb417, 3, none⟩ (.slice A416_3 ((rd_T40 l0_3 x31_3).f3).length c416_3)).heap[gb414]? = some (.cells #[.int .i64 0, .string (⟨#[]⟩ : ByteArray), .int .i64 0, .slice none 0 0] 40 (0, 0))) := ⟨by (with_reducible repeat (first | refine blk_drewN ?_ _ | refine blk_drew ?_ | refine blk_alloc ?_ _)); refine blk_far ?_ NB414_417.out _; (with_reducible repeat (first | refine blk_drewN ?_ _ | refine blk_drew ?_ | refine blk_alloc ?_ _)); refine blk_far ?_ NB414_417.out _; (with_reducible repeat (first | refine blk_drewN ?_ _ | refine blk_drew ?_ | refine blk_alloc ?_ _)); refine blk_far ?_ NB414_417.out _; (with_reducible repeat (first | refine blk_drewN ?_ _ | refine blk_drew ?_ | refine blk_alloc ?_ _)); refine blk_far ?_ NB414_417.out _; (with_reducible repeat (first | refine blk_drewN ?_ _ | refine blk_drew ?_ | refine blk_alloc ?_ _)); exact BK414.out⟩
                      have n3_ : Aside0 (((((w33.setCell ⟨gb417, 0, none⟩ (.int .i64 ((rd_T40 l0_3 x31_3).f0))).setCell ⟨gb417, 1, none⟩ (.string ((rd_T40 l0_3 x31_3).f1))).setCell ⟨gb417, 2, none⟩ (.int .i64 ((rd_T40 l0_3 x31_3).f2))).setCell ⟨gb417, 3, none⟩ (.slice A416_3 ((rd_T40 l0_3 x31_3).f3).length c416_3)).heap[gb415]? = some (.cells #[.int .i64 a0_0, .string x416001_19, .int .i64 a0_2, u416003] 40 (0, 0))) := ⟨by (with_reducible repeat (first | refine blk_drewN ?_ _ | refine blk_drew ?_ | refine blk_alloc ?_ _)); refine blk_far ?_ NB415_417.out _; (with_reducible repeat (first | refine blk_drewN ?_ _ | refine blk_drew ?_ | refine blk_alloc ?_ _)); refine blk_far ?_ NB415_417.out _; (with_reducible repeat (first | refine blk_drewN ?_ _ | refine blk_drew ?_ | refine blk_alloc ?_ _)); refine blk_far ?_ NB415_417.out _; (with_reducible repeat (first | refine blk_drewN ?_ _ | refine blk_drew ?_ | refine blk_alloc ?_ _)); refine blk_far ?_ NB415_417.out _; (with_reducible repeat (first | refine blk_drewN ?_ _ | refine blk_drew ?_ | refine blk_alloc ?_ _)); exact BK415.out⟩
                      have n4_ : Aside0 (((((w33.setCell ⟨gb417, 0, none⟩ (.int .i64 ((rd_T40 l0_3 x31_3).f0))).setCell ⟨gb417, 1, none⟩ (.string ((rd_T40 l0_3 x31_3).f1))).setCell ⟨gb417, 2, none⟩ (.int .i64 ((rd_T40 l0_3 x31_3).f2))).setCell ⟨gb417, 3, none⟩ (.slice A416_3 ((rd_T40 l0_3 x31_3).f3).length c416_3)).heap[gb417]? = some (.cells #[.int .i64 ((rd_T40 l0_3 x31_3).f0), .string ((rd_T40 l0_3 x31_3).f1), .int .i64 ((rd_T40 l0_3 x31_3).f2), .slice A416_3 ((rd_T40 l0_3 x31_3).f3).length c416_3] 40 (0, 0))) := ⟨by (with_reducible repeat (first | refine blk_drewN ?_ _ | refine blk_drew ?_ | refine blk_alloc ?_ _)); refine blk_put (cs := #[.int .i64 ((rd_T40 l0_3 x31_3).f0), .string ((rd_T40 l0_3 x31_3).f1), .int .i64 ((rd_T40 l0_3 x31_3).f2), .slice none 0 0]) ?_ 3 _ rfl; (with_reducible repeat (first | refine blk_drewN ?_ _ | refine blk_drew ?_ | refine blk_alloc ?_ _)); refine blk_put (cs := #[.int .i64 ((rd_T40 l0_3 x31_3).f0), .string ((rd_T40 l0_3 x31_3).f1), .int .i64 0, .slice none 0 0]) ?_ 2 _ rfl; (with_reducible repeat (first | refine blk_drewN ?_ _ | refine blk_drew ?_ | refine blk_alloc ?_ _)); refine blk_put (cs := #[.int .i64 ((rd_T40 l0_3 x31_3).f0), .string (⟨#[]⟩ : ByteArray), .int .i64 0, .slice none 0 0]) ?_ 1 _ rfl; (with_reducible repeat (first | refine blk_drewN ?_ _ | refine blk_drew ?_ | refine blk_alloc ?_ _)); refine blk_put (cs := #[.int .i64 0, .string (⟨#[]⟩ : ByteArray), .int .i64 0, .slice none 0 0]) ?_ 0 _ rfl; (with_reducible repeat (first | refine blk_drewN ?_ _ | refine blk_drew ?_ | refine blk_alloc ?_ _)); exact BK417.out⟩
                      have n5_ : Aside0 (Below w.heap.size w ((((w33.setCell ⟨gb417, 0, none⟩ (.int .i64 ((rd_T40 l0_3 x31_3).f0))).setCell ⟨gb417, 1, none⟩ (.string ((rd_T40 l0_3 x31_3).f1))).setCell ⟨gb417, 2, none⟩ (.int .i64 ((rd_T40 l0_3 x31_3).f2))).setCell ⟨gb417, 3, none⟩ (.slice A416_3 ((rd_T40 l0_3 x31_3).f3).length c416_3))) := ⟨by repeat (first | (with_reducible first | exact HB.out | apply below_alloc | apply pw_below_drewN | apply below_drew1 | refine below_set ?_ GE413.out | refine below_set ?_ GE414.out | refine below_set ?_ GE415.out | refine below_set ?_ GE417.out) | exact HB.out)⟩
                      (try clear HO_416003)
                      (try clear BK413)
                      (try clear BK414)
                      (try clear BK415)
                      (try clear BK417)
                      (try clear HB)
                      generalize ((((w33.setCell ⟨gb417, 0, none⟩ (.int .i64 ((rd_T40 l0_3 x31_3).f0))).setCell ⟨gb417, 1, none⟩ (.string ((rd_T40 l0_3 x31_3).f1))).setCell ⟨gb417, 2, none⟩ (.int .i64 ((rd_T40 l0_3 x31_3).f2))).setCell ⟨gb417, 3, none⟩ (.slice A416_3 ((rd_T40 l0_3 x31_3).f3).length c416_3)) = w38 at n0_ n1_ n2_ n3_ n4_ n5_ ⊢
                      have HO_416003 := n0_
                      have BK413 := n1_
                      have BK414 := n2_
                      have BK415 := n3_
                      have BK417 := n4_
                      have HB := n5_
                      clear n0_ n1_ n2_ n3_ n4_ n5_
                      have n0_ := Aside0.mk (Kd.R_drew HO_416003.out)
                      have n1_ := Aside0.mk (blk_drew BK413.out)
                      have n2_ := Aside0.mk (blk_drew BK414.out)
                      have n3_ := Aside0.mk (blk_drew BK415.out)
                      have n4_ := Aside0.mk (blk_drew BK417.out)
                      have n5_ := Aside0.mk (below_drew1 HB.out)
                      clear HO_416003
                      clear BK413
                      clear BK414
                      clear BK415
                      clear BK417
                      clear HB
                      have HO_416003 := n0_
                      have BK413 := n1_
                      have BK414 := n2_
                      have BK415 := n3_
                      have BK417 := n4_
                      have HB := n5_
                      clear n0_ n1_ n2_ n3_ n4_ n5_
                      refine start_ (n := 10) (S := fun w' => w'.cell? ⟨gb415, 0, none⟩ = some (.int .i64 a0_0) ∧ w'.cell? ⟨gb415, 1, none⟩ = some (.string x416001_19) ∧ w'.cell? ⟨gb415, 2, none⟩ = some (.int .i64 a0_2) ∧ w'.cell? ⟨gb415, 3, none⟩ = some (u416003) ∧ w'.cell? ⟨gb417, 0, none⟩ = some (.int .i64 ((rd_T40 l0_3 x31_3).f0)) ∧ w'.cell? ⟨gb417, 1, none⟩ = some (.string ((rd_T40 l0_3 x31_3).f1)) ∧ w'.cell? ⟨gb417, 2, none⟩ = some (.int .i64 ((rd_T40 l0_3 x31_3).f2)) ∧ w'.cell? ⟨gb417, 3, none⟩ = some (.slice A416_3 ((rd_T40 l0_3 x31_3).f3).length c416_3)) (ds := [9]) #[false, false, false, false, false, false, false, false, false, false] (by kernel_rfl) rfl rfl ⟨(blk_cell BK415.out 0).trans rfl, (blk_cell BK415.out 1).trans rfl, (blk_cell BK415.out 2).trans rfl, (blk_cell BK415.out 3).trans rfl, (blk_cell BK417.out 0).trans rfl, (blk_cell BK417.out 1).trans rfl, (blk_cell BK417.out 2).trans rfl, (blk_cell BK417.out 3).trans rfl⟩ (fun hHeld => ?_); refine with_tabW impl_Renamed.tab7 impl_Renamed.bits7 (fun HT_ HW_ => ?_)
                      generalize w38.drew = w39 at HO_416003 BK413 BK414 BK415 BK417 HB hHeld ⊢
                      refine pure_ (i := 0) (N := some 35) (v := ?_) (a' := ?_) #[true, false, false, false, false, false, false, false, false, false] rfl rfl (any_of HT_.out (by kernel_rfl)) (fun _ _ _ h => h) (Or.inl ⟨by rfl, ?_⟩) ?_ ?_
                      rotate_left
                      · intro w'
                        go_simp
                        with_reducible rfl
                      rotate_left
                      · simp only [Act.put, List.setIfInBounds_toArray, List.set_cons_zero, List.set_cons_succ, i64_w, i32_w]
                        rfl
                      refine pure_ (i := 3) (N := some 38) (v := ?_) (a' := ?_) #[true, false, false, true, false, false, false, false, false, false] rfl rfl (any_of HT_.out (by kernel_rfl)) (fun _ _ _ h => h) (Or.inl ⟨by rfl, ?_⟩) ?_ ?_
                      rotate_left
                      · intro w'
                        go_simp
                        with_reducible rfl
                      rotate_left
                      · simp only [Act.put, List.setIfInBounds_toArray, List.set_cons_zero, List.set_cons_succ, i64_w, i32_w]
                        rfl
                      refine pure_ (i := 4) (N := some 39) (v := ?_) (a' := ?_) #[true, false, false, true, true, false, false, false, false, false] rfl rfl (any_of HT_.out (by kernel_rfl)) (fun _ _ _ h => h) (Or.inl ⟨by rfl, ?_⟩) ?_ ?_
                      rotate_left
                      · intro w'
                        go_simp
                        with_reducible rfl
                      rotate_left
                      · simp only [Act.put, List.setIfInBounds_toArray, List.set_cons_zero, List.set_cons_succ, i64_w, i32_w]
                        rfl
                      refine take_ (i := 1) (N := some 36) (v := ?_) (a' := ?_) #[true, true, false, true, true, false, false, false, false, false] rfl rfl (take_ofW HT_.out HW_.out (by kernel_rfl)) (fun _ _ _ h => h) (Or.inl ⟨by rfl, ?_⟩) hHeld ?_ ?_
                      rotate_left
                      · rintro w' ⟨s0, s1, s2, s3, s4, s5, s6, s7⟩
                        go_simp
                        with_reducible rfl
                      rotate_left
                      · simp only [Act.put, List.setIfInBounds_toArray, List.set_cons_zero, List.set_cons_succ, i64_w, i32_w]
                        rfl
                      refine take_ (i := 2) (N := some 37) (v := ?_) (a' := ?_) #[true, true, true, true, true, false, false, false, false, false] rfl rfl (take_ofW HT_.out HW_.out (by kernel_rfl)) (fun _ _ _ h => h) (Or.inl ⟨by rfl, ?_⟩) hHeld ?_ ?_
                      rotate_left
                      · rintro w' ⟨s0, s1, s2, s3, s4, s5, s6, s7⟩
                        go_simp
                        with_reducible rfl
                      rotate_left
                      · simp only [Act.put, List.setIfInBounds_toArray, List.set_cons_zero, List.set_cons_succ, i64_w, i32_w]
                        rfl
                      refine one_ (i := 5) (N := some 40) #[true, true, true, true, true, true, false, false, false, false] rfl rfl (one_of HT_.out (by kernel_rfl)) (by decide) (fun K hK => ?_)
                      refine goes_ Try.func35 (by kernel_rfl) rfl #[.agg #[.int .i64 ((rd_T40 l0_3 x31_3).f0), .string ((rd_T40 l0_3 x31_3).f1), .int .i64 ((rd_T40 l0_3 x31_3).f2), .slice A416_3 ((rd_T40 l0_3 x31_3).f3).length c416_3], .string a1, .string a2] (by rfl) rfl rfl (by (try simp only [List.map_toArray, List.map_cons, List.map_nil]); first | done | rfl | (simp only [List.length_drop, List.length_take]; rfl)) ?_
                      with_reducible refine (ih k3 (by have := HJ3.out; have := HJ19.out; have := HK3.out; omega) ((rd_T40 l0_3 x31_3).f0) ((rd_T40 l0_3 x31_3).f1) ((rd_T40 l0_3 x31_3).f2) _ _ ((rd_T40 l0_3 x31_3).f3) a1 a2 t418 t419 t420 t421 _ ?side1 ?side2 A31.out).mono ?_
                      (case side1 => repeat (first | exact (Kd.C_below HR416_3.out HB.out) | (with_reducible refine Kd.C_alloc ?_ _) | (with_reducible refine Kd.C_drewN ?_ _) | (with_reducible refine Kd.C_drew ?_)))
                      (case side2 => exact HC416_3.out)
                      rintro e w40 ⟨v422, rfl, ho0, hb⟩
                      refine ⟨_, rfl, ?_⟩
                      have n0_ := Aside0.mk (Kd.R_elder' (by (with_reducible repeat (first | apply Kd.R_alloc | apply Kd.R_drewN | apply Kd.R_drew)); exact HO_416003.out) (Kd.R_base ho0) hb)
                      have n1_ := Aside0.mk (Kd.R_lower (Kd.R_newB (Kd.R_newB (Kd.R_newB (Kd.R_newB (Kd.R_new' ho0 (Kd.R_lt (by (with_reducible repeat (first | apply Kd.R_alloc | apply Kd.R_drewN | apply Kd.R_drew)); exact HO_416003.out))) (g := gb413) (o := .cells #[.int .i64 a0_0, .string a0_1, .int .i64 a0_2, .slice (some ad416) l0_3.length c0_3] 40 (0, 0)) (by (with_reducible repeat (first | refine blk_drewN ?_ _ | refine blk_drew ?_ | refine blk_alloc ?_ _)); exact BK413.out)) (g := gb414) (o := .cells #[.int .i64 0, .string (⟨#[]⟩ : ByteArray), .int .i64 0, .slice none 0 0] 40 (0, 0)) (by (with_reducible repeat (first | refine blk_drewN ?_ _ | refine blk_drew ?_ | refine blk_alloc ?_ _)); exact BK414.out)) (g := gb415) (o := .cells #[.int .i64 a0_0, .string x416001_19, .int .i64 a0_2, u416003] 40 (0, 0)) (by (with_reducible repeat (first | refine blk_drewN ?_ _ | refine blk_drew ?_ | refine blk_alloc ?_ _)); exact BK415.out)) (g := gb417) (o := .cells #[.int .i64 ((rd_T40 l0_3 x31_3).f0), .string ((rd_T40 l0_3 x31_3).f1), .int .i64 ((rd_T40 l0_3 x31_3).f2), .slice A416_3 ((rd_T40 l0_3 x31_3).f3).length c416_3] 40 (0, 0)) (by (with_reducible repeat (first | refine blk_drewN ?_ _ | refine blk_drew ?_ | refine blk_alloc ?_ _)); exact BK417.out)) (below_size (by repeat (first | (with_reducible first | exact HB.out | apply below_alloc | apply pw_below_drewN | apply below_drew1 | refine below_set ?_ GE413.out | refine below_set ?_ GE414.out | refine below_set ?_ GE415.out | refine below_set ?_ GE417.out) | exact HB.out))))
                      have n2_ := Aside0.mk (blk_below (g := gb413) (o := .cells #[.int .i64 a0_0, .string a0_1, .int .i64 a0_2, .slice (some ad416) l0_3.length c0_3] 40 (0, 0)) (by (with_reducible repeat (first | refine blk_drewN ?_ _ | refine blk_drew ?_ | refine blk_alloc ?_ _)); exact BK413.out) hb)
                      have n3_ := Aside0.mk (blk_below (g := gb414) (o := .cells #[.int .i64 0, .string (⟨#[]⟩ : ByteArray), .int .i64 0, .slice none 0 0] 40 (0, 0)) (by (with_reducible repeat (first | refine blk_drewN ?_ _ | refine blk_drew ?_ | refine blk_alloc ?_ _)); exact BK414.out) hb)
                      have n4_ := Aside0.mk (blk_below (g := gb415) (o := .cells #[.int .i64 a0_0, .string x416001_19, .int .i64 a0_2, u416003] 40 (0, 0)) (by (with_reducible repeat (first | refine blk_drewN ?_ _ | refine blk_drew ?_ | refine blk_alloc ?_ _)); exact BK415.out) hb)
                      have n5_ := Aside0.mk (blk_below (g := gb417) (o := .cells #[.int .i64 ((rd_T40 l0_3 x31_3).f0), .string ((rd_T40 l0_3 x31_3).f1), .int .i64 ((rd_T40 l0_3 x31_3).f2), .slice A416_3 ((rd_T40 l0_3 x31_3).f3).length c416_3] 40 (0, 0)) (by (with_reducible repeat (first | refine blk_drewN ?_ _ | refine blk_drew ?_ | refine blk_alloc ?_ _)); exact BK417.out) hb)
                      have n6_ := Aside0.mk (below_step (by repeat (first | (with_reducible first | exact HB.out | apply below_alloc | apply pw_below_drewN | apply below_drew1 | refine below_set ?_ GE413.out | refine below_set ?_ GE414.out | refine below_set ?_ GE415.out | refine below_set ?_ GE417.out) | exact HB.out)) hb)
                      clear HO_416003
                      clear BK413
                      clear BK414
                      clear BK415
                      clear BK417
                      clear HB
                      have HO_416003 := n0_
                      have HO423 := n1_
                      have BK413 := n2_
                      have BK414 := n3_
                      have BK415 := n4_
                      have BK417 := n5_
                      have HB := n6_
                      clear n0_ n1_ n2_ n3_ n4_ n5_ n6_
                      (try clear hb)
                      (try clear hb2)
                      (try clear hk)
                      (try clear hi)
                      (try clear ho0)
                      obtain ⟨Ao42, co42, eo42⟩ := Kd.R_slice HO423.out
                      (first | subst eo42 | (injection eo42 with f1_ f2_ f3_; have f4_ := f1_.symm; have f5_ := f3_.symm; clear f1_ f2_ f3_; subst f4_; subst f5_))
                      refine hK.out _ _ ⟨(blk_cell BK415.out 0).trans rfl, (blk_cell BK415.out 1).trans rfl, (blk_cell BK415.out 2).trans rfl, (blk_cell BK415.out 3).trans rfl, (blk_cell BK417.out 0).trans rfl, (blk_cell BK417.out 1).trans rfl, (blk_cell BK417.out 2).trans rfl, (blk_cell BK417.out 3).trans rfl⟩ (fun hHeld => ?_)
                      clear hK K
                      refine norm_ (a' := ?_) ?_ ?_
                      rotate_left
                      · show Act.put _ (some 40) _ = _
                        simp only [Act.put, List.setIfInBounds_toArray, List.set_cons_zero, List.set_cons_succ, i64_w, i32_w]
                        rfl
                      refine one_ (i := 6) (N := some 41) #[true, true, true, true, true, true, true, false, false, false] rfl rfl (one_of HT_.out (by kernel_rfl)) (by decide) (fun K hK => ?_)
                      refine value_ (w1 := ?_) (v := ?_) (by rfl) rfl ?_ ?_
                      rotate_left 2
                      · go_simp
                        constructor
                        · rfl
                        · rfl
                      refine hK.out _ _ ⟨(blk_cell (blk_alloc BK415.out _) 0).trans rfl, (blk_cell (blk_alloc BK415.out _) 1).trans rfl, (blk_cell (blk_alloc BK415.out _) 2).trans rfl, (blk_cell (blk_alloc BK415.out _) 3).trans rfl, (blk_cell (blk_alloc BK417.out _) 0).trans rfl, (blk_cell (blk_alloc BK417.out _) 1).trans rfl, (blk_cell (blk_alloc BK417.out _) 2).trans rfl, (blk_cell (blk_alloc BK417.out _) 3).trans rfl⟩ (fun hHeld => ?_)
                      clear hK K
                      refine norm_ (a' := ?_) ?_ ?_
                      rotate_left
                      · show Act.put _ (some 41) _ = _
                        simp only [Act.put, List.setIfInBounds_toArray, List.set_cons_zero, List.set_cons_succ, i64_w, i32_w]
                        rfl
                      refine one_ (i := 7) (N := some 42) #[true, true, true, true, true, true, true, true, false, false] rfl rfl (one_of HT_.out (by kernel_rfl)) (by decide) (fun K hK => ?_)
                      refine Kd.R_append_step k40 (w0 := w) w.heap.size (by rfl) (.tmp 36) (.tmp 41) 38 40 (.agg #[(.int .i64 0), (.string ⟨#[]⟩), (.int .i64 0), (.slice none 0 0)]) 56 rfl Try.underlying38 info40 rfl (by decide) (by omega) u416003 x416003_3 (⟨t418, t419, t420, t421⟩ : S40) [.int .i64 t418, .string t419, .int .i64 t420, .slice Ao42 t421.length co42] (fun k_ => k_ ≠ gb413 ∧ k_ ≠ gb414 ∧ k_ ≠ gb415 ∧ k_ ≠ gb417) (fun k_ => ((fun k_ => k_ ≠ gb413 ∧ k_ ≠ gb414 ∧ k_ ≠ gb415 ∧ k_ ≠ gb417)) k_ ∧ some k_ ≠ (u416003 : Value).ownBlock) rfl rfl ?aP (fun _ hk => hk) ?aF ?aO ?aB ?aS ?aL ?_
                      (case aP => exact k40_mkM _ _ _ (⟨t418, t419, t420, t421⟩ : S40) (Kd.R_mono (HO423.out) (fun k_ hk => ⟨⟨hk.1.1.1.2, ⟨hk.1.1.2, ⟨hk.1.2, hk.2⟩⟩⟩, hk.1.1.1.1.2⟩)))
                      (case aB => exact (by repeat (first | (with_reducible first | exact HB.out | apply below_alloc | apply pw_below_drewN | apply below_drew1 | refine below_set ?_ GE413.out | refine below_set ?_ GE414.out | refine below_set ?_ GE415.out | refine below_set ?_ GE417.out) | exact HB.out)))
                      (case aF => exact (fun k_ hk => ⟨Kd.freshB (g := gb413) (o := .cells #[.int .i64 a0_0, .string a0_1, .int .i64 a0_2, .slice (some ad416) l0_3.length c0_3] 40 (0, 0)) (by (with_reducible repeat (first | refine blk_drewN ?_ _ | refine blk_drew ?_ | refine blk_alloc ?_ _)); exact BK413.out) k_ hk, Kd.freshB (g := gb414) (o := .cells #[.int .i64 0, .string (⟨#[]⟩ : ByteArray), .int .i64 0, .slice none 0 0] 40 (0, 0)) (by (with_reducible repeat (first | refine blk_drewN ?_ _ | refine blk_drew ?_ | refine blk_alloc ?_ _)); exact BK414.out) k_ hk, Kd.freshB (g := gb415) (o := .cells #[.int .i64 a0_0, .string x416001_19, .int .i64 a0_2, u416003] 40 (0, 0)) (by (with_reducible repeat (first | refine blk_drewN ?_ _ | refine blk_drew ?_ | refine blk_alloc ?_ _)); exact BK415.out) k_ hk, Kd.freshB (g := gb417) (o := .cells #[.int .i64 ((rd_T40 l0_3 x31_3).f0), .string ((rd_T40 l0_3 x31_3).f1), .int .i64 ((rd_T40 l0_3 x31_3).f2), .slice A416_3 ((rd_T40 l0_3 x31_3).f3).length c416_3] 40 (0, 0)) (by (with_reducible repeat (first | refine blk_drewN ?_ _ | refine blk_drew ?_ | refine blk_alloc ?_ _)); exact BK417.out) k_ hk⟩))
                      (case aO => exact (by (with_reducible repeat (first | apply Kd.R_alloc | apply Kd.R_drewN | apply Kd.R_drew)); exact Kd.R_mono HO_416003.out (fun _ hk => ⟨hk.1.1, ⟨hk.1.2.1, ⟨hk.1.2.2.1, hk.1.2.2.2⟩⟩⟩)))
                      (case aS => exact (below_size (by repeat (first | (with_reducible first | exact HB.out | apply below_alloc | apply pw_below_drewN | apply below_drew1 | refine below_set ?_ GE413.out | refine below_set ?_ GE414.out | refine below_set ?_ GE415.out | refine below_set ?_ GE417.out) | exact HB.out))))
                      (case aL => have := LMc32.out; omega)
                      intro v425 w41 ho hb hg hat
                      rw [← Ny424.out] at ho
                      have n0_ := Aside0.mk (blk_grown (g := gb413) (o := .cells #[.int .i64 a0_0, .string a0_1, .int .i64 a0_2, .slice (some ad416) l0_3.length c0_3] 40 (0, 0)) (by (with_reducible repeat (first | refine blk_drewN ?_ _ | refine blk_drew ?_ | refine blk_alloc ?_ _)); exact BK413.out) hg (Kd.R_away HO_416003.out (fun _ hk => hk.1.1)))
                      have n1_ := Aside0.mk (blk_grown (g := gb414) (o := .cells #[.int .i64 0, .string (⟨#[]⟩ : ByteArray), .int .i64 0, .slice none 0 0] 40 (0, 0)) (by (with_reducible repeat (first | refine blk_drewN ?_ _ | refine blk_drew ?_ | refine blk_alloc ?_ _)); exact BK414.out) hg (Kd.R_away HO_416003.out (fun _ hk => hk.1.2.1)))
                      have n2_ := Aside0.mk (blk_grown (g := gb415) (o := .cells #[.int .i64 a0_0, .string x416001_19, .int .i64 a0_2, u416003] 40 (0, 0)) (by (with_reducible repeat (first | refine blk_drewN ?_ _ | refine blk_drew ?_ | refine blk_alloc ?_ _)); exact BK415.out) hg (Kd.R_away HO_416003.out (fun _ hk => hk.1.2.2.1)))
                      have n3_ := Aside0.mk (blk_grown (g := gb417) (o := .cells #[.int .i64 ((rd_T40 l0_3 x31_3).f0), .string ((rd_T40 l0_3 x31_3).f1), .int .i64 ((rd_T40 l0_3 x31_3).f2), .slice A416_3 ((rd_T40 l0_3 x31_3).f3).length c416_3] 40 (0, 0)) (by (with_reducible repeat (first | refine blk_drewN ?_ _ | refine blk_drew ?_ | refine blk_alloc ?_ _)); exact BK417.out) hg (Kd.R_away HO_416003.out (fun _ hk => hk.1.2.2.2)))
                      have n4_ := Aside0.mk (hb)
                      have n5_ := Aside0.mk (ho)
                      clear BK413
                      clear BK414
                      clear BK415
                      clear BK417
                      clear HB
                      clear HO_416003
                      clear HO423
                      have BK413 := n0_
                      have BK414 := n1_
                      have BK415 := n2_
                      have BK417 := n3_
                      have HB := n4_
                      have HO426 := n5_
                      clear n0_ n1_ n2_ n3_ n4_ n5_
                      clear ho hb hg hat
                      obtain ⟨Ao43, co43, eo43⟩ := Kd.R_slice HO426.out
                      (first | subst eo43 | (injection eo43 with f1_ f2_ f3_; have f4_ := f1_.symm; have f5_ := f3_.symm; clear f1_ f2_ f3_; subst f4_; subst f5_))
                      refine hK.out _ _ ⟨(blk_cell BK415.out 0).trans rfl, (blk_cell BK415.out 1).trans rfl, (blk_cell BK415.out 2).trans rfl, (blk_cell BK415.out 3).trans rfl, (blk_cell BK417.out 0).trans rfl, (blk_cell BK417.out 1).trans rfl, (blk_cell BK417.out 2).trans rfl, (blk_cell BK417.out 3).trans rfl⟩ (fun hHeld => ?_)
                      clear hK K
                      refine norm_ (a' := ?_) ?_ ?_
                      rotate_left
                      · show Act.put _ (some 42) _ = _
                        simp only [Act.put, List.setIfInBounds_toArray, List.set_cons_zero, List.set_cons_succ, i64_w, i32_w]
                        rfl
                      refine pure_ (i := 8) (N := some 43) (v := ?_) (a' := ?_) #[true, true, true, true, true, true, true, true, true, false] rfl rfl (any_of HT_.out (by kernel_rfl)) (fun _ _ _ h => h) (Or.inl ⟨by rfl, ?_⟩) ?_ ?_
                      rotate_left
                      · intro w'
                        go_simp
                        with_reducible rfl
                      rotate_left
                      · simp only [Act.put, List.setIfInBounds_toArray, List.set_cons_zero, List.set_cons_succ, i64_w, i32_w]
                        rfl
                      refine last_ (i := 9) (N := none) #[true, true, true, true, true, true, true, true, true, true] rfl rfl (one_of HT_.out (by kernel_rfl)) (by decide) (fun K hK => ?_)
                      have hs44 : w41.cell? ⟨gb415, 3, none⟩ = some (u416003) := (blk_cell BK415.out 3).trans rfl
                      have hfs44 := blk_frozen BK415.out 3
                      have hns44_0 := NB413_415.out
                      have hns44_1 := NB414_415.out
                      have hns44_3 := NB417_415.out
                      have hms44_0 := NB415_413.out
                      have hms44_1 := NB415_414.out
                      have hms44_3 := NB415_417.out
                      refine skip_ (w1 := ?_) (by rfl) rfl ?_ ?_
                      rotate_left
                      · go_simp
                        rfl
                      refine hK.out _ _ ?_
                      clear hK K
                      refine done_ (done_of HT_.out (by kernel_rfl)) ?_
                      try go_wp2
                      go_roundg k3
                      case measure => have := HJ3.out; have := HJ19.out; have := HK3.out; omega
                      case rel => exact ⟨(wrap64 (x31_3 + 1)), (y424), (.slice Ao43 y424.length co43), (by first | rfl | (simp; done) | (simp [*]; done)), H', ⟨by have := HJ3.out; have := HJ19.out; have := HK3.out; omega⟩, ⟨by (with_reducible repeat (first | apply Kd.R_alloc | apply Kd.R_drewN | apply Kd.R_drew)); exact Kd.R_mono (Kd.R_far (p := ⟨gb415, 3, none⟩) (Kd.R_mono HO426.out (fun k_ hk => (⟨hk, hk.2.2.1⟩ : _ ∧ k_ ≠ gb415))) (fun _ hk => hk.2) (.slice Ao43 y424.length co43)) (fun _ hk => ⟨hk.1.1, ⟨hk.1.2.1, hk.1.2.2.1⟩⟩)⟩, ⟨by (with_reducible repeat (first | refine blk_drewN ?_ _ | refine blk_drew ?_ | refine blk_alloc ?_ _)); refine blk_far ?_ NB413_415.out _; (with_reducible repeat (first | refine blk_drewN ?_ _ | refine blk_drew ?_ | refine blk_alloc ?_ _)); exact BK413.out⟩, ⟨by (with_reducible repeat (first | refine blk_drewN ?_ _ | refine blk_drew ?_ | refine blk_alloc ?_ _)); refine blk_far ?_ NB414_415.out _; (with_reducible repeat (first | refine blk_drewN ?_ _ | refine blk_drew ?_ | refine blk_alloc ?_ _)); exact BK414.out⟩, ⟨by (with_reducible repeat (first | refine blk_drewN ?_ _ | refine blk_drew ?_ | refine blk_alloc ?_ _)); refine blk_put (cs := #[.int .i64 a0_0, .string x416001_19, .int .i64 a0_2, u416003]) ?_ 3 _ rfl; (with_reducible repeat (first | refine blk_drewN ?_ _ | refine blk_drew ?_ | refine blk_alloc ?_ _)); exact BK415.out⟩, ⟨by repeat (first | (with_reducible first | exact HB.out | apply below_alloc | apply pw_below_drewN | apply below_drew1 | refine below_set ?_ GE413.out | refine below_set ?_ GE414.out | refine below_set ?_ GE415.out | refine below_set ?_ GE417.out) | exact HB.out)⟩⟩
                    · rw [if_neg c32] at H
                      exact absurd H (by simp)
                  · rw [if_neg c30] at H
                    exact absurd H (by simp)
                · rw [if_neg c29] at H
                  exact absurd H (by simp)
              · rw [if_neg c28] at H
                have c28b0 : decide (x31_3 < (l0_3.length : Int)) = false := decide_eq_false c28
                clear c28
                simp only [Option.some.injEq, Prod.mk.injEq] at H
                obtain ⟨rfl, rfl, rfl, rfl⟩ := H
                have hnb45 := NB415_413.out
                have hnc45 := NB413_415.out
                have hnb46 := NB415_414.out
                have hnc46 := NB414_415.out
                have hcz47_0 : wr.cell? ⟨gb415, 0, none⟩ = some (.int .i64 a0_0) := (blk_cell BK415.out 0).trans rfl
                have hcz47_1 : wr.cell? ⟨gb415, 1, none⟩ = some (.string x416001_19) := (blk_cell BK415.out 1).trans rfl
                have hcz47_2 : wr.cell? ⟨gb415, 2, none⟩ = some (.int .i64 a0_2) := (blk_cell BK415.out 2).trans rfl
                have hcz47_3 : wr.cell? ⟨gb415, 3, none⟩ = some (u416003) := (blk_cell BK415.out 3).trans rfl
                have hfz47_0 := blk_frozen BK415.out 0
                have hfz47_1 := blk_frozen BK415.out 1
                have hfz47_2 := blk_frozen BK415.out 2
                have hfz47_3 := blk_frozen BK415.out 3
                have hnb48 := NB414_413.out
                have hnc48 := NB413_414.out
                have hcz49_0 : wr.cell? ⟨gb414, 0, none⟩ = some (.int .i64 0) := (blk_cell BK414.out 0).trans rfl
                have hcz49_1 : wr.cell? ⟨gb414, 1, none⟩ = some (.string (⟨#[]⟩ : ByteArray)) := (blk_cell BK414.out 1).trans rfl
                have hcz49_2 : wr.cell? ⟨gb414, 2, none⟩ = some (.int .i64 0) := (blk_cell BK414.out 2).trans rfl
                have hcz49_3 : wr.cell? ⟨gb414, 3, none⟩ = some (.slice none 0 0) := (blk_cell BK414.out 3).trans rfl
                have hfz49_0 := blk_frozen BK414.out 0
                have hfz49_1 := blk_frozen BK414.out 1
                have hfz49_2 := blk_frozen BK414.out 2
                have hfz49_3 := blk_frozen BK414.out 3
                obtain ⟨Ao50, co50, eo50⟩ := Kd.R_slice HO_416003.out
                subst eo50
                go_wp2
                refine bodyPost_ret (results_cell_row rfl _ _ gb414 40 #[.int .i64 a0_0, .string x416001_19, .int .i64 a0_2, .slice Ao50 x416003_3.length co50] (0, 0) _ rfl (by (with_reducible repeat (first | refine blk_drewN ?_ _ | refine blk_drew ?_ | refine blk_alloc ?_ _)); refine blk_put (cs := #[.int .i64 a0_0, .string x416001_19, .int .i64 a0_2, .slice none 0 0]) ?_ 3 _ rfl; (with_reducible repeat (first | refine blk_drewN ?_ _ | refine blk_drew ?_ | refine blk_alloc ?_ _)); refine blk_put (cs := #[.int .i64 a0_0, .string x416001_19, .int .i64 0, .slice none 0 0]) ?_ 2 _ rfl; (with_reducible repeat (first | refine blk_drewN ?_ _ | refine blk_drew ?_ | refine blk_alloc ?_ _)); refine blk_put (cs := #[.int .i64 a0_0, .string (⟨#[]⟩ : ByteArray), .int .i64 0, .slice none 0 0]) ?_ 1 _ rfl; (with_reducible repeat (first | refine blk_drewN ?_ _ | refine blk_drew ?_ | refine blk_alloc ?_ _)); refine blk_put (cs := #[.int .i64 0, .string (⟨#[]⟩ : ByteArray), .int .i64 0, .slice none 0 0]) ?_ 0 _ rfl; (with_reducible repeat (first | refine blk_drewN ?_ _ | refine blk_drew ?_ | refine blk_alloc ?_ _)); exact BK414.out) Try.underlying40 rfl (by kernel_rfl)) rfl ?_
                exact ⟨_, by first | rfl | (simp [errW_none, errW_some] <;> rfl) | (simp [*, errW_none, errW_some] <;> rfl), by (with_reducible repeat (first | apply Kd.R_alloc | apply Kd.R_drewN | apply Kd.R_drew)); exact Kd.R_mono (Kd.R_far (p := ⟨gb414, 3, none⟩) (Kd.R_far (p := ⟨gb414, 2, none⟩) (Kd.R_far (p := ⟨gb414, 1, none⟩) (Kd.R_far (p := ⟨gb414, 0, none⟩) (Kd.R_mono HO_416003.out (fun k_ hk => (⟨hk, hk.2.1⟩ : _ ∧ k_ ≠ gb414))) (fun _ hk => hk.2) (.int .i64 a0_0)) (fun _ hk => hk.2) (.string x416001_19)) (fun _ hk => hk.2) (.int .i64 a0_2)) (fun _ hk => hk.2) (.slice Ao50 x416003_3.length co50)) (fun _ hk => trivial), by repeat (first | (with_reducible first | exact HB.out | apply below_alloc | apply pw_below_drewN | apply below_drew1 | refine below_set ?_ GE413.out | refine below_set ?_ GE414.out | refine below_set ?_ GE415.out) | exact HB.out)⟩

end Go.Proofs.Ytbbndlagginnoaa.Q
