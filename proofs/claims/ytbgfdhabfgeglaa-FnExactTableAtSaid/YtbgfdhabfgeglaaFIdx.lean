/- slices.IndexFunc and ContainsFunc over structs, with closures that only read. -/
import Derived.Test.YtbgfdhabfgeglaaQ0
namespace Go.Proofs.Ytbgfdhabfgeglaa.Q
open Go Go.RowKit Go.Proofs.YtbgfdhabfgeglaaW.PrintWords Go.Proofs.YtbgfdhabfgeglaaW.PrintLast Go.Proofs.YtbgfdhabfgeglaaW.PrintMore
set_option linter.unusedVariables false
set_option linter.unusedSimpArgs false
/-- The place of the first element that p holds of, counted from i; -1 where there is none. -/
def idxB {α : Type} (p : α → Bool) : List α → Nat → Int
  | [], _ => -1
  | x :: l, i => if p x then (i : Int) else idxB p l (i + 1)
theorem idxB_any {α : Type} (p : α → Bool) : ∀ (l : List α) (i : Nat), decide (0 ≤ idxB p l i) = l.any p
  | [], _ => rfl
  | x :: l, i => by
    cases h : p x with
    | true => simp [idxB, h]
    | false => simp [idxB, h, idxB_any p l (i + 1)]
def colAt1.p (s : ByteArray) (x : S78) : Bool := x.f0.toList == s.toList
theorem colAt1.gives (s : ByteArray) (x : S78) (A5 : Option Addr) (c5 : Nat) (w : World) (P : Nat) (hP : w.heap[P]? = some (.cells #[.string s] 9 (0, 0))) :
    Calls Try.prog 37 #[.agg #[.string x.f0, .int .i64 x.f1.f0, .int .i64 x.f1.f1, .string x.f1.f2, .bool x.f2, .slice A5 x.f3.length c5], .pointer (some ⟨P, 0, none⟩)] w fun e w' => e = .returned (.bool (colAt1.p s x)) ∧ Below w.heap.size w w' := by
  have HP := Aside0.mk hP
  clear hP
  all_goals go_enter Try.func37, Try.ntmps37
  all_goals go_wp2_with (first | ((with_reducible refine gate_dst (N := 2) rfl ?_); refine box_event ?hg (N := 2) ?hd (cs := #[.string x.f0, .int .i64 x.f1.f0, .int .i64 x.f1.f1, .string x.f1.f2, .bool x.f2, .slice A5 x.f3.length c5]) (t := 78) ?hr ?_; (case hd => rfl); (case hg => rfl); (case hr => first | (go_simp; done) | (go_simp; rfl)); intro g2 hg w2 hbox hb; have cz0 : w2.cell? ⟨g2, 0, none⟩ = some (.string x.f0) := (blk_cell hbox 0).trans rfl; have fz0 := blk_frozen hbox 0; have cz1 : w2.cell? ⟨g2, 1, none⟩ = some (.int .i64 x.f1.f0) := (blk_cell hbox 1).trans rfl; have fz1 := blk_frozen hbox 1; have cz2 : w2.cell? ⟨g2, 2, none⟩ = some (.int .i64 x.f1.f1) := (blk_cell hbox 2).trans rfl; have fz2 := blk_frozen hbox 2; have cz3 : w2.cell? ⟨g2, 3, none⟩ = some (.string x.f1.f2) := (blk_cell hbox 3).trans rfl; have fz3 := blk_frozen hbox 3; have cz4 : w2.cell? ⟨g2, 4, none⟩ = some (.bool x.f2) := (blk_cell hbox 4).trans rfl; have fz4 := blk_frozen hbox 4; have cz5 : w2.cell? ⟨g2, 5, none⟩ = some (.slice A5 x.f3.length c5) := (blk_cell hbox 5).trans rfl; have fz5 := blk_frozen hbox 5; have czP : w2.cell? ⟨P, 0, none⟩ = some (.string s) := (blk_cell (blk_below HP.out hb) 0).trans rfl; have N2 := Aside0.mk hb; clear hb hbox hg))
  all_goals go_ret
  all_goals exact ⟨by simp_all [colAt1.p], N2.out⟩
set_option maxHeartbeats 2000000 in
theorem colAt1.idx (s : ByteArray) (A : Option Addr) (c : Nat) (l : List S78) (w : World) (P : Nat) (hr : Kd.C k78 w A l.length l) (hP : w.heap[P]? = some (.cells #[.string s] 9 (0, 0))) :
    Calls Try.prog 36 #[.slice A l.length c, .func (.func 37) #[] #[.pointer (some ⟨P, 0, none⟩)]] w fun e w' => e = .returned (.int .i64 (idxB (colAt1.p s) l 0)) ∧ Below w.heap.size w w' := by
  have hmax : l.length ≤ 9223372036854775807 := hr.2.1
  have HX : Aside0 _ := Aside0.mk (show _ ∧ _ ∧ _ from ⟨hr, hP, hmax⟩)
  obtain ⟨R, hR⟩ : ∃ R, R = idxB (colAt1.p s) l 0 := ⟨_, rfl⟩
  rw [← hR]
  have HR : Aside0 _ := Aside0.mk hR
  clear hr hP hmax hR
  have hu := Try.underlying78
  go_enter Try.func36, Try.ntmps36
  go_wp2_with fail
  go_loopg [5, 8] (l.length + 1) (fun kq _ s8 wr => ∃ (v : Int), s8 = .int .i64 v ∧ Aside0 (∃ (j : Nat), v = (j : Int) ∧ j ≤ l.length ∧ l.length + 1 = kq + j ∧ idxB (colAt1.p s) (l.drop j) j = R ∧ Below w.heap.size w wr))
  case atStart => exact ⟨0, rfl, ⟨0, rfl, Nat.zero_le _, by omega, by rw [List.drop_zero]; exact HR.out.symm, Below.refl _ _⟩⟩
  case round =>
    obtain ⟨v, rfl, HZ⟩ := hrel
    obtain ⟨j, hv, hj, hk, he, hbw⟩ := HZ.out
    clear HZ
    by_cases hjl : j < l.length
    · rw [List.drop_eq_getElem_cons hjl] at he
      simp only [idxB] at he
      have hel : l[j] = rd_T78 l v := by
        subst hv
        unfold rd_T78
        rw [Int.toNat_natCast, List.getD_eq_getElem?_getD, List.getElem?_eq_getElem hjl]
        rfl
      rw [hel] at he
      have p1 : 0 ≤ v := by omega
      have q1 : v < (l.length : Int) := by omega
      have d1 : decide (v < (l.length : Int)) = true := decide_eq_true q1
      obtain ⟨ad, A5, c5, e3, hx0, hx1, hx2, hx3, hx4, hx5, hl0, hi0⟩ := at_T78 HX.out.1 v p1 q1
      cases e3
      replace hx0 := (hbw.cell (World.block_lt_of_cell? w _ hx0)).trans hx0
      replace hx1 := (hbw.cell (World.block_lt_of_cell? w _ hx1)).trans hx1
      replace hx2 := (hbw.cell (World.block_lt_of_cell? w _ hx2)).trans hx2
      replace hx3 := (hbw.cell (World.block_lt_of_cell? w _ hx3)).trans hx3
      replace hx4 := (hbw.cell (World.block_lt_of_cell? w _ hx4)).trans hx4
      replace hx5 := (hbw.cell (World.block_lt_of_cell? w _ hx5)).trans hx5
      have hPw := blk_below HX.out.2.1 hbw
      have HY : Aside0 _ := Aside0.mk (show _ ∧ _ ∧ _ ∧ _ ∧ _ from ⟨hbw, hPw, hk, hv, hjl⟩)
      have HE : Aside0 _ := Aside0.mk he
      clear hbw hPw hk he hel hv
      clear hj hjl
      replace p1 := eq_true p1
      replace q1 := eq_true q1
      cases hp : colAt1.p s (rd_T78 l v) with
      | false =>
        have HE1 : Aside0 (idxB (colAt1.p s) (l.drop (j + 1)) (j + 1) = R) := ⟨by have := HE.out; rwa [hp, if_neg (by simp)] at this⟩
        have HPp := Aside0.mk hp
        clear HE hp
        go_wp2_with (first
          | (go_at_call 37; obtain ⟨hbw, hPw, hk, hv, hjl⟩ := HY.out; refine (colAt1.gives s (rd_T78 l v) A5 c5 _ P hPw).mono ?_; rintro e w2 ⟨rfl, a1⟩; rw [HPp.out]; have HN : Aside0 _ := Aside0.mk (below_step hbw a1); clear a1 hbw hPw hk hv hjl))
        go_roundg (gk - 1)
        case measure => have := HY.out.2.2.1; have := HY.out.2.2.2.2; omega
        case rel =>
          obtain ⟨hbw, hPw, hk, hv, hjl⟩ := HY.out
          have hmax := HX.out.2.2
          exact ⟨wrap64 (v + 1), rfl, ⟨j + 1, by unfold wrap64; omega, by omega, by omega, HE1.out, HN.out⟩⟩
      | true =>
        have hE : R = v := by have := HE.out; rw [hp, if_pos rfl] at this; rw [← this]; exact HY.out.2.2.2.1.symm
        have HPp := Aside0.mk hp
        clear HE hp HR
        subst hE
        go_wp2_with (first
          | (go_at_call 37; obtain ⟨hbw, hPw, hk, hv, hjl⟩ := HY.out; refine (colAt1.gives s (rd_T78 l R) A5 c5 _ P hPw).mono ?_; rintro e w2 ⟨rfl, a1⟩; rw [HPp.out]; have HN : Aside0 _ := Aside0.mk (below_step hbw a1); clear a1 hbw hPw hk hv hjl))
        go_ret
        exact ⟨rfl, HN.out⟩
    · rw [List.drop_eq_nil_of_le (by omega)] at he
      have he : -1 = R := he
      subst he
      have d1 : decide (v < (l.length : Int)) = false := decide_eq_false (by omega)
      have HN : Aside0 _ := Aside0.mk hbw
      clear hbw hk hj hjl hv HR
      go_wp2_with fail
      go_ret
      exact ⟨rfl, HN.out⟩
def ruleAt1.p (s : ByteArray) (x : S66) : Bool := x.f0.toList == s.toList
theorem ruleAt1.gives (s : ByteArray) (x : S66) (A2 : Option Addr) (c2 : Nat) (A3 : Option Addr) (c3 : Nat) (A5 : Option Addr) (c5 : Nat) (w : World) (P : Nat) (hP : w.heap[P]? = some (.cells #[.string s] 9 (0, 0))) :
    Calls Try.prog 32 #[.agg #[.string x.f0, .int .i64 x.f1, .slice A2 x.f2.length c2, .slice A3 x.f3.length c3, .string x.f4, .slice A5 x.f5.length c5], .pointer (some ⟨P, 0, none⟩)] w fun e w' => e = .returned (.bool (ruleAt1.p s x)) ∧ Below w.heap.size w w' := by
  have HP := Aside0.mk hP
  clear hP
  all_goals go_enter Try.func32, Try.ntmps32
  all_goals go_wp2_with (first | ((with_reducible refine gate_dst (N := 2) rfl ?_); refine box_event ?hg (N := 2) ?hd (cs := #[.string x.f0, .int .i64 x.f1, .slice A2 x.f2.length c2, .slice A3 x.f3.length c3, .string x.f4, .slice A5 x.f5.length c5]) (t := 66) ?hr ?_; (case hd => rfl); (case hg => rfl); (case hr => first | (go_simp; done) | (go_simp; rfl)); intro g2 hg w2 hbox hb; have cz0 : w2.cell? ⟨g2, 0, none⟩ = some (.string x.f0) := (blk_cell hbox 0).trans rfl; have fz0 := blk_frozen hbox 0; have cz1 : w2.cell? ⟨g2, 1, none⟩ = some (.int .i64 x.f1) := (blk_cell hbox 1).trans rfl; have fz1 := blk_frozen hbox 1; have cz2 : w2.cell? ⟨g2, 2, none⟩ = some (.slice A2 x.f2.length c2) := (blk_cell hbox 2).trans rfl; have fz2 := blk_frozen hbox 2; have cz3 : w2.cell? ⟨g2, 3, none⟩ = some (.slice A3 x.f3.length c3) := (blk_cell hbox 3).trans rfl; have fz3 := blk_frozen hbox 3; have cz4 : w2.cell? ⟨g2, 4, none⟩ = some (.string x.f4) := (blk_cell hbox 4).trans rfl; have fz4 := blk_frozen hbox 4; have cz5 : w2.cell? ⟨g2, 5, none⟩ = some (.slice A5 x.f5.length c5) := (blk_cell hbox 5).trans rfl; have fz5 := blk_frozen hbox 5; have czP : w2.cell? ⟨P, 0, none⟩ = some (.string s) := (blk_cell (blk_below HP.out hb) 0).trans rfl; have N2 := Aside0.mk hb; clear hb hbox hg))
  all_goals go_ret
  all_goals exact ⟨by simp_all [ruleAt1.p], N2.out⟩
set_option maxHeartbeats 2000000 in
theorem ruleAt1.idx (s : ByteArray) (A : Option Addr) (c : Nat) (l : List S66) (w : World) (P : Nat) (hr : Kd.C k66 w A l.length l) (hP : w.heap[P]? = some (.cells #[.string s] 9 (0, 0))) :
    Calls Try.prog 31 #[.slice A l.length c, .func (.func 32) #[] #[.pointer (some ⟨P, 0, none⟩)]] w fun e w' => e = .returned (.int .i64 (idxB (ruleAt1.p s) l 0)) ∧ Below w.heap.size w w' := by
  have hmax : l.length ≤ 9223372036854775807 := hr.2.1
  have HX : Aside0 _ := Aside0.mk (show _ ∧ _ ∧ _ from ⟨hr, hP, hmax⟩)
  obtain ⟨R, hR⟩ : ∃ R, R = idxB (ruleAt1.p s) l 0 := ⟨_, rfl⟩
  rw [← hR]
  have HR : Aside0 _ := Aside0.mk hR
  clear hr hP hmax hR
  have hu := Try.underlying66
  go_enter Try.func31, Try.ntmps31
  go_wp2_with fail
  go_loopg [5, 8] (l.length + 1) (fun kq _ s8 wr => ∃ (v : Int), s8 = .int .i64 v ∧ Aside0 (∃ (j : Nat), v = (j : Int) ∧ j ≤ l.length ∧ l.length + 1 = kq + j ∧ idxB (ruleAt1.p s) (l.drop j) j = R ∧ Below w.heap.size w wr))
  case atStart => exact ⟨0, rfl, ⟨0, rfl, Nat.zero_le _, by omega, by rw [List.drop_zero]; exact HR.out.symm, Below.refl _ _⟩⟩
  case round =>
    obtain ⟨v, rfl, HZ⟩ := hrel
    obtain ⟨j, hv, hj, hk, he, hbw⟩ := HZ.out
    clear HZ
    by_cases hjl : j < l.length
    · rw [List.drop_eq_getElem_cons hjl] at he
      simp only [idxB] at he
      have hel : l[j] = rd_T66 l v := by
        subst hv
        unfold rd_T66
        rw [Int.toNat_natCast, List.getD_eq_getElem?_getD, List.getElem?_eq_getElem hjl]
        rfl
      rw [hel] at he
      have p1 : 0 ≤ v := by omega
      have q1 : v < (l.length : Int) := by omega
      have d1 : decide (v < (l.length : Int)) = true := decide_eq_true q1
      obtain ⟨ad, A2, c2, A3, c3, A5, c5, e3, hx0, hx1, hx2, hx3, hx4, hx5, hl0, hi0, hl1, hi1, hl2, hi2⟩ := at_T66 HX.out.1 v p1 q1
      cases e3
      replace hx0 := (hbw.cell (World.block_lt_of_cell? w _ hx0)).trans hx0
      replace hx1 := (hbw.cell (World.block_lt_of_cell? w _ hx1)).trans hx1
      replace hx2 := (hbw.cell (World.block_lt_of_cell? w _ hx2)).trans hx2
      replace hx3 := (hbw.cell (World.block_lt_of_cell? w _ hx3)).trans hx3
      replace hx4 := (hbw.cell (World.block_lt_of_cell? w _ hx4)).trans hx4
      replace hx5 := (hbw.cell (World.block_lt_of_cell? w _ hx5)).trans hx5
      have hPw := blk_below HX.out.2.1 hbw
      have HY : Aside0 _ := Aside0.mk (show _ ∧ _ ∧ _ ∧ _ ∧ _ from ⟨hbw, hPw, hk, hv, hjl⟩)
      have HE : Aside0 _ := Aside0.mk he
      clear hbw hPw hk he hel hv
      clear hj hjl
      replace p1 := eq_true p1
      replace q1 := eq_true q1
      cases hp : ruleAt1.p s (rd_T66 l v) with
      | false =>
        have HE1 : Aside0 (idxB (ruleAt1.p s) (l.drop (j + 1)) (j + 1) = R) := ⟨by have := HE.out; rwa [hp, if_neg (by simp)] at this⟩
        have HPp := Aside0.mk hp
        clear HE hp
        go_wp2_with (first
          | (go_at_call 32; obtain ⟨hbw, hPw, hk, hv, hjl⟩ := HY.out; refine (ruleAt1.gives s (rd_T66 l v) A2 c2 A3 c3 A5 c5 _ P hPw).mono ?_; rintro e w2 ⟨rfl, a1⟩; rw [HPp.out]; have HN : Aside0 _ := Aside0.mk (below_step hbw a1); clear a1 hbw hPw hk hv hjl))
        go_roundg (gk - 1)
        case measure => have := HY.out.2.2.1; have := HY.out.2.2.2.2; omega
        case rel =>
          obtain ⟨hbw, hPw, hk, hv, hjl⟩ := HY.out
          have hmax := HX.out.2.2
          exact ⟨wrap64 (v + 1), rfl, ⟨j + 1, by unfold wrap64; omega, by omega, by omega, HE1.out, HN.out⟩⟩
      | true =>
        have hE : R = v := by have := HE.out; rw [hp, if_pos rfl] at this; rw [← this]; exact HY.out.2.2.2.1.symm
        have HPp := Aside0.mk hp
        clear HE hp HR
        subst hE
        go_wp2_with (first
          | (go_at_call 32; obtain ⟨hbw, hPw, hk, hv, hjl⟩ := HY.out; refine (ruleAt1.gives s (rd_T66 l R) A2 c2 A3 c3 A5 c5 _ P hPw).mono ?_; rintro e w2 ⟨rfl, a1⟩; rw [HPp.out]; have HN : Aside0 _ := Aside0.mk (below_step hbw a1); clear a1 hbw hPw hk hv hjl))
        go_ret
        exact ⟨rfl, HN.out⟩
    · rw [List.drop_eq_nil_of_le (by omega)] at he
      have he : -1 = R := he
      subst he
      have d1 : decide (v < (l.length : Int)) = false := decide_eq_false (by omega)
      have HN : Aside0 _ := Aside0.mk hbw
      clear hbw hk hj hjl hv HR
      go_wp2_with fail
      go_ret
      exact ⟨rfl, HN.out⟩
def tableAt1.p (s : ByteArray) (x : S31) : Bool := x.f0.toList == s.toList
theorem tableAt1.gives (s : ByteArray) (x : S31) (A1 : Option Addr) (c1 : Nat) (A2 : Option Addr) (c2 : Nat) (w : World) (P : Nat) (hP : w.heap[P]? = some (.cells #[.string s] 9 (0, 0))) :
    Calls Try.prog 42 #[.agg #[.string x.f0, .slice A1 x.f1.length c1, .slice A2 x.f2.length c2, .int .i64 x.f3], .pointer (some ⟨P, 0, none⟩)] w fun e w' => e = .returned (.bool (tableAt1.p s x)) ∧ Below w.heap.size w w' := by
  have HP := Aside0.mk hP
  clear hP
  all_goals go_enter Try.func42, Try.ntmps42
  all_goals go_wp2_with (first | ((with_reducible refine gate_dst (N := 2) rfl ?_); refine box_event ?hg (N := 2) ?hd (cs := #[.string x.f0, .slice A1 x.f1.length c1, .slice A2 x.f2.length c2, .int .i64 x.f3]) (t := 31) ?hr ?_; (case hd => rfl); (case hg => rfl); (case hr => first | (go_simp; done) | (go_simp; rfl)); intro g2 hg w2 hbox hb; have cz0 : w2.cell? ⟨g2, 0, none⟩ = some (.string x.f0) := (blk_cell hbox 0).trans rfl; have fz0 := blk_frozen hbox 0; have cz1 : w2.cell? ⟨g2, 1, none⟩ = some (.slice A1 x.f1.length c1) := (blk_cell hbox 1).trans rfl; have fz1 := blk_frozen hbox 1; have cz2 : w2.cell? ⟨g2, 2, none⟩ = some (.slice A2 x.f2.length c2) := (blk_cell hbox 2).trans rfl; have fz2 := blk_frozen hbox 2; have cz3 : w2.cell? ⟨g2, 3, none⟩ = some (.int .i64 x.f3) := (blk_cell hbox 3).trans rfl; have fz3 := blk_frozen hbox 3; have czP : w2.cell? ⟨P, 0, none⟩ = some (.string s) := (blk_cell (blk_below HP.out hb) 0).trans rfl; have N2 := Aside0.mk hb; clear hb hbox hg))
  all_goals go_ret
  all_goals exact ⟨by simp_all [tableAt1.p], N2.out⟩
set_option maxHeartbeats 2000000 in
theorem tableAt1.idx (s : ByteArray) (A : Option Addr) (c : Nat) (l : List S31) (w : World) (P : Nat) (hr : Kd.C k31 w A l.length l) (hP : w.heap[P]? = some (.cells #[.string s] 9 (0, 0))) :
    Calls Try.prog 41 #[.slice A l.length c, .func (.func 42) #[] #[.pointer (some ⟨P, 0, none⟩)]] w fun e w' => e = .returned (.int .i64 (idxB (tableAt1.p s) l 0)) ∧ Below w.heap.size w w' := by
  have hmax : l.length ≤ 9223372036854775807 := hr.2.1
  have HX : Aside0 _ := Aside0.mk (show _ ∧ _ ∧ _ from ⟨hr, hP, hmax⟩)
  obtain ⟨R, hR⟩ : ∃ R, R = idxB (tableAt1.p s) l 0 := ⟨_, rfl⟩
  rw [← hR]
  have HR : Aside0 _ := Aside0.mk hR
  clear hr hP hmax hR
  have hu := Try.underlying31
  go_enter Try.func41, Try.ntmps41
  go_wp2_with fail
  go_loopg [5, 8] (l.length + 1) (fun kq _ s8 wr => ∃ (v : Int), s8 = .int .i64 v ∧ Aside0 (∃ (j : Nat), v = (j : Int) ∧ j ≤ l.length ∧ l.length + 1 = kq + j ∧ idxB (tableAt1.p s) (l.drop j) j = R ∧ Below w.heap.size w wr))
  case atStart => exact ⟨0, rfl, ⟨0, rfl, Nat.zero_le _, by omega, by rw [List.drop_zero]; exact HR.out.symm, Below.refl _ _⟩⟩
  case round =>
    obtain ⟨v, rfl, HZ⟩ := hrel
    obtain ⟨j, hv, hj, hk, he, hbw⟩ := HZ.out
    clear HZ
    by_cases hjl : j < l.length
    · rw [List.drop_eq_getElem_cons hjl] at he
      simp only [idxB] at he
      have hel : l[j] = rd_T31 l v := by
        subst hv
        unfold rd_T31
        rw [Int.toNat_natCast, List.getD_eq_getElem?_getD, List.getElem?_eq_getElem hjl]
        rfl
      rw [hel] at he
      have p1 : 0 ≤ v := by omega
      have q1 : v < (l.length : Int) := by omega
      have d1 : decide (v < (l.length : Int)) = true := decide_eq_true q1
      obtain ⟨ad, A1, c1, A2, c2, e3, hx0, hx1, hx2, hx3, hl0, hi0, hl1, hi1⟩ := at_T31 HX.out.1 v p1 q1
      cases e3
      replace hx0 := (hbw.cell (World.block_lt_of_cell? w _ hx0)).trans hx0
      replace hx1 := (hbw.cell (World.block_lt_of_cell? w _ hx1)).trans hx1
      replace hx2 := (hbw.cell (World.block_lt_of_cell? w _ hx2)).trans hx2
      replace hx3 := (hbw.cell (World.block_lt_of_cell? w _ hx3)).trans hx3
      have hPw := blk_below HX.out.2.1 hbw
      have HY : Aside0 _ := Aside0.mk (show _ ∧ _ ∧ _ ∧ _ ∧ _ from ⟨hbw, hPw, hk, hv, hjl⟩)
      have HE : Aside0 _ := Aside0.mk he
      clear hbw hPw hk he hel hv
      clear hj hjl
      replace p1 := eq_true p1
      replace q1 := eq_true q1
      cases hp : tableAt1.p s (rd_T31 l v) with
      | false =>
        have HE1 : Aside0 (idxB (tableAt1.p s) (l.drop (j + 1)) (j + 1) = R) := ⟨by have := HE.out; rwa [hp, if_neg (by simp)] at this⟩
        have HPp := Aside0.mk hp
        clear HE hp
        go_wp2_with (first
          | (go_at_call 42; obtain ⟨hbw, hPw, hk, hv, hjl⟩ := HY.out; refine (tableAt1.gives s (rd_T31 l v) A1 c1 A2 c2 _ P hPw).mono ?_; rintro e w2 ⟨rfl, a1⟩; rw [HPp.out]; have HN : Aside0 _ := Aside0.mk (below_step hbw a1); clear a1 hbw hPw hk hv hjl))
        go_roundg (gk - 1)
        case measure => have := HY.out.2.2.1; have := HY.out.2.2.2.2; omega
        case rel =>
          obtain ⟨hbw, hPw, hk, hv, hjl⟩ := HY.out
          have hmax := HX.out.2.2
          exact ⟨wrap64 (v + 1), rfl, ⟨j + 1, by unfold wrap64; omega, by omega, by omega, HE1.out, HN.out⟩⟩
      | true =>
        have hE : R = v := by have := HE.out; rw [hp, if_pos rfl] at this; rw [← this]; exact HY.out.2.2.2.1.symm
        have HPp := Aside0.mk hp
        clear HE hp HR
        subst hE
        go_wp2_with (first
          | (go_at_call 42; obtain ⟨hbw, hPw, hk, hv, hjl⟩ := HY.out; refine (tableAt1.gives s (rd_T31 l R) A1 c1 A2 c2 _ P hPw).mono ?_; rintro e w2 ⟨rfl, a1⟩; rw [HPp.out]; have HN : Aside0 _ := Aside0.mk (below_step hbw a1); clear a1 hbw hPw hk hv hjl))
        go_ret
        exact ⟨rfl, HN.out⟩
    · rw [List.drop_eq_nil_of_le (by omega)] at he
      have he : -1 = R := he
      subst he
      have d1 : decide (v < (l.length : Int)) = false := decide_eq_false (by omega)
      have HN : Aside0 _ := Aside0.mk hbw
      clear hbw hk hj hjl hv HR
      go_wp2_with fail
      go_ret
      exact ⟨rfl, HN.out⟩
def taken1.p (s : ByteArray) (x : S89) : Bool := x.f0.toList == s.toList
theorem taken1.gives (s : ByteArray) (x : S89) (w : World) (P : Nat) (hP : w.heap[P]? = some (.cells #[.string s] 9 (0, 0))) :
    Calls Try.prog 45 #[.agg #[.string x.f0, .int .i64 x.f1], .pointer (some ⟨P, 0, none⟩)] w fun e w' => e = .returned (.bool (taken1.p s x)) ∧ Below w.heap.size w w' := by
  have HP := Aside0.mk hP
  clear hP
  all_goals go_enter Try.func45, Try.ntmps45
  all_goals go_wp2_with (first | ((with_reducible refine gate_dst (N := 2) rfl ?_); refine box_event ?hg (N := 2) ?hd (cs := #[.string x.f0, .int .i64 x.f1]) (t := 89) ?hr ?_; (case hd => rfl); (case hg => rfl); (case hr => first | (go_simp; done) | (go_simp; rfl)); intro g2 hg w2 hbox hb; have cz0 : w2.cell? ⟨g2, 0, none⟩ = some (.string x.f0) := (blk_cell hbox 0).trans rfl; have fz0 := blk_frozen hbox 0; have cz1 : w2.cell? ⟨g2, 1, none⟩ = some (.int .i64 x.f1) := (blk_cell hbox 1).trans rfl; have fz1 := blk_frozen hbox 1; have czP : w2.cell? ⟨P, 0, none⟩ = some (.string s) := (blk_cell (blk_below HP.out hb) 0).trans rfl; have N2 := Aside0.mk hb; clear hb hbox hg))
  all_goals go_ret
  all_goals exact ⟨by simp_all [taken1.p], N2.out⟩
set_option maxHeartbeats 2000000 in
theorem taken1.idx (s : ByteArray) (A : Option Addr) (c : Nat) (l : List S89) (w : World) (P : Nat) (hr : Kd.C k89 w A l.length l) (hP : w.heap[P]? = some (.cells #[.string s] 9 (0, 0))) :
    Calls Try.prog 81 #[.slice A l.length c, .func (.func 45) #[] #[.pointer (some ⟨P, 0, none⟩)]] w fun e w' => e = .returned (.int .i64 (idxB (taken1.p s) l 0)) ∧ Below w.heap.size w w' := by
  have hmax : l.length ≤ 9223372036854775807 := hr.2.1
  have HX : Aside0 _ := Aside0.mk (show _ ∧ _ ∧ _ from ⟨hr, hP, hmax⟩)
  obtain ⟨R, hR⟩ : ∃ R, R = idxB (taken1.p s) l 0 := ⟨_, rfl⟩
  rw [← hR]
  have HR : Aside0 _ := Aside0.mk hR
  clear hr hP hmax hR
  have hu := Try.underlying89
  go_enter Try.func81, Try.ntmps81
  go_wp2_with fail
  go_loopg [5, 8] (l.length + 1) (fun kq _ s8 wr => ∃ (v : Int), s8 = .int .i64 v ∧ Aside0 (∃ (j : Nat), v = (j : Int) ∧ j ≤ l.length ∧ l.length + 1 = kq + j ∧ idxB (taken1.p s) (l.drop j) j = R ∧ Below w.heap.size w wr))
  case atStart => exact ⟨0, rfl, ⟨0, rfl, Nat.zero_le _, by omega, by rw [List.drop_zero]; exact HR.out.symm, Below.refl _ _⟩⟩
  case round =>
    obtain ⟨v, rfl, HZ⟩ := hrel
    obtain ⟨j, hv, hj, hk, he, hbw⟩ := HZ.out
    clear HZ
    by_cases hjl : j < l.length
    · rw [List.drop_eq_getElem_cons hjl] at he
      simp only [idxB] at he
      have hel : l[j] = rd_T89 l v := by
        subst hv
        unfold rd_T89
        rw [Int.toNat_natCast, List.getD_eq_getElem?_getD, List.getElem?_eq_getElem hjl]
        rfl
      rw [hel] at he
      have p1 : 0 ≤ v := by omega
      have q1 : v < (l.length : Int) := by omega
      have d1 : decide (v < (l.length : Int)) = true := decide_eq_true q1
      obtain ⟨ad, e3, hx0, hx1⟩ := at_T89 HX.out.1 v p1 q1
      cases e3
      replace hx0 := (hbw.cell (World.block_lt_of_cell? w _ hx0)).trans hx0
      replace hx1 := (hbw.cell (World.block_lt_of_cell? w _ hx1)).trans hx1
      have hPw := blk_below HX.out.2.1 hbw
      have HY : Aside0 _ := Aside0.mk (show _ ∧ _ ∧ _ ∧ _ ∧ _ from ⟨hbw, hPw, hk, hv, hjl⟩)
      have HE : Aside0 _ := Aside0.mk he
      clear hbw hPw hk he hel hv
      clear hj hjl
      replace p1 := eq_true p1
      replace q1 := eq_true q1
      cases hp : taken1.p s (rd_T89 l v) with
      | false =>
        have HE1 : Aside0 (idxB (taken1.p s) (l.drop (j + 1)) (j + 1) = R) := ⟨by have := HE.out; rwa [hp, if_neg (by simp)] at this⟩
        have HPp := Aside0.mk hp
        clear HE hp
        go_wp2_with (first
          | (go_at_call 45; obtain ⟨hbw, hPw, hk, hv, hjl⟩ := HY.out; refine (taken1.gives s (rd_T89 l v)  _ P hPw).mono ?_; rintro e w2 ⟨rfl, a1⟩; rw [HPp.out]; have HN : Aside0 _ := Aside0.mk (below_step hbw a1); clear a1 hbw hPw hk hv hjl))
        go_roundg (gk - 1)
        case measure => have := HY.out.2.2.1; have := HY.out.2.2.2.2; omega
        case rel =>
          obtain ⟨hbw, hPw, hk, hv, hjl⟩ := HY.out
          have hmax := HX.out.2.2
          exact ⟨wrap64 (v + 1), rfl, ⟨j + 1, by unfold wrap64; omega, by omega, by omega, HE1.out, HN.out⟩⟩
      | true =>
        have hE : R = v := by have := HE.out; rw [hp, if_pos rfl] at this; rw [← this]; exact HY.out.2.2.2.1.symm
        have HPp := Aside0.mk hp
        clear HE hp HR
        subst hE
        go_wp2_with (first
          | (go_at_call 45; obtain ⟨hbw, hPw, hk, hv, hjl⟩ := HY.out; refine (taken1.gives s (rd_T89 l R)  _ P hPw).mono ?_; rintro e w2 ⟨rfl, a1⟩; rw [HPp.out]; have HN : Aside0 _ := Aside0.mk (below_step hbw a1); clear a1 hbw hPw hk hv hjl))
        go_ret
        exact ⟨rfl, HN.out⟩
    · rw [List.drop_eq_nil_of_le (by omega)] at he
      have he : -1 = R := he
      subst he
      have d1 : decide (v < (l.length : Int)) = false := decide_eq_false (by omega)
      have HN : Aside0 _ := Aside0.mk hbw
      clear hbw hk hj hjl hv HR
      go_wp2_with fail
      go_ret
      exact ⟨rfl, HN.out⟩
theorem taken1.any (s : ByteArray) (A : Option Addr) (c : Nat) (l : List S89) (w : World) (P : Nat) (hr : Kd.C k89 w A l.length l) (hP : w.heap[P]? = some (.cells #[.string s] 9 (0, 0))) :
    Calls Try.prog 44 #[.slice A l.length c, .func (.func 45) #[] #[.pointer (some ⟨P, 0, none⟩)]] w fun e w' => e = .returned (.bool (l.any (taken1.p s))) ∧ Below w.heap.size w w' := by
  have HI : Aside0 _ := Aside0.mk (taken1.idx s A c l w P hr hP)
  have HA : Aside0 _ := Aside0.mk (idxB_any (taken1.p s) l 0)
  clear hr hP
  generalize idxB (taken1.p s) l 0 = i at HI HA
  go_enter Try.func44, Try.ntmps44
  go_wp2_with (first | (go_at_call 81; refine HI.out.mono ?_; rintro e w' ⟨rfl, a1⟩; have HN := Aside0.mk a1; clear a1))
  go_ret
  exact ⟨by rw [← HA.out]; rfl, HN.out⟩
def taken2.p (s : ByteArray) (x : S93) : Bool := x.f0.toList == s.toList
theorem taken2.gives (s : ByteArray) (x : S93) (A2 : Option Addr) (c2 : Nat) (w : World) (P : Nat) (hP : w.heap[P]? = some (.cells #[.string s] 9 (0, 0))) :
    Calls Try.prog 47 #[.agg #[.string x.f0, .string x.f1, .slice A2 x.f2.length c2, .bool x.f3], .pointer (some ⟨P, 0, none⟩)] w fun e w' => e = .returned (.bool (taken2.p s x)) ∧ Below w.heap.size w w' := by
  have HP := Aside0.mk hP
  clear hP
  all_goals go_enter Try.func47, Try.ntmps47
  all_goals go_wp2_with (first | ((with_reducible refine gate_dst (N := 2) rfl ?_); refine box_event ?hg (N := 2) ?hd (cs := #[.string x.f0, .string x.f1, .slice A2 x.f2.length c2, .bool x.f3]) (t := 93) ?hr ?_; (case hd => rfl); (case hg => rfl); (case hr => first | (go_simp; done) | (go_simp; rfl)); intro g2 hg w2 hbox hb; have cz0 : w2.cell? ⟨g2, 0, none⟩ = some (.string x.f0) := (blk_cell hbox 0).trans rfl; have fz0 := blk_frozen hbox 0; have cz1 : w2.cell? ⟨g2, 1, none⟩ = some (.string x.f1) := (blk_cell hbox 1).trans rfl; have fz1 := blk_frozen hbox 1; have cz2 : w2.cell? ⟨g2, 2, none⟩ = some (.slice A2 x.f2.length c2) := (blk_cell hbox 2).trans rfl; have fz2 := blk_frozen hbox 2; have cz3 : w2.cell? ⟨g2, 3, none⟩ = some (.bool x.f3) := (blk_cell hbox 3).trans rfl; have fz3 := blk_frozen hbox 3; have czP : w2.cell? ⟨P, 0, none⟩ = some (.string s) := (blk_cell (blk_below HP.out hb) 0).trans rfl; have N2 := Aside0.mk hb; clear hb hbox hg))
  all_goals go_ret
  all_goals exact ⟨by simp_all [taken2.p], N2.out⟩
set_option maxHeartbeats 2000000 in
theorem taken2.idx (s : ByteArray) (A : Option Addr) (c : Nat) (l : List S93) (w : World) (P : Nat) (hr : Kd.C k93 w A l.length l) (hP : w.heap[P]? = some (.cells #[.string s] 9 (0, 0))) :
    Calls Try.prog 82 #[.slice A l.length c, .func (.func 47) #[] #[.pointer (some ⟨P, 0, none⟩)]] w fun e w' => e = .returned (.int .i64 (idxB (taken2.p s) l 0)) ∧ Below w.heap.size w w' := by
  have hmax : l.length ≤ 9223372036854775807 := hr.2.1
  have HX : Aside0 _ := Aside0.mk (show _ ∧ _ ∧ _ from ⟨hr, hP, hmax⟩)
  obtain ⟨R, hR⟩ : ∃ R, R = idxB (taken2.p s) l 0 := ⟨_, rfl⟩
  rw [← hR]
  have HR : Aside0 _ := Aside0.mk hR
  clear hr hP hmax hR
  have hu := Try.underlying93
  go_enter Try.func82, Try.ntmps82
  go_wp2_with fail
  go_loopg [5, 8] (l.length + 1) (fun kq _ s8 wr => ∃ (v : Int), s8 = .int .i64 v ∧ Aside0 (∃ (j : Nat), v = (j : Int) ∧ j ≤ l.length ∧ l.length + 1 = kq + j ∧ idxB (taken2.p s) (l.drop j) j = R ∧ Below w.heap.size w wr))
  case atStart => exact ⟨0, rfl, ⟨0, rfl, Nat.zero_le _, by omega, by rw [List.drop_zero]; exact HR.out.symm, Below.refl _ _⟩⟩
  case round =>
    obtain ⟨v, rfl, HZ⟩ := hrel
    obtain ⟨j, hv, hj, hk, he, hbw⟩ := HZ.out
    clear HZ
    by_cases hjl : j < l.length
    · rw [List.drop_eq_getElem_cons hjl] at he
      simp only [idxB] at he
      have hel : l[j] = rd_T93 l v := by
        subst hv
        unfold rd_T93
        rw [Int.toNat_natCast, List.getD_eq_getElem?_getD, List.getElem?_eq_getElem hjl]
        rfl
      rw [hel] at he
      have p1 : 0 ≤ v := by omega
      have q1 : v < (l.length : Int) := by omega
      have d1 : decide (v < (l.length : Int)) = true := decide_eq_true q1
      obtain ⟨ad, A2, c2, e3, hx0, hx1, hx2, hx3, hl0, hi0⟩ := at_T93 HX.out.1 v p1 q1
      cases e3
      replace hx0 := (hbw.cell (World.block_lt_of_cell? w _ hx0)).trans hx0
      replace hx1 := (hbw.cell (World.block_lt_of_cell? w _ hx1)).trans hx1
      replace hx2 := (hbw.cell (World.block_lt_of_cell? w _ hx2)).trans hx2
      replace hx3 := (hbw.cell (World.block_lt_of_cell? w _ hx3)).trans hx3
      have hPw := blk_below HX.out.2.1 hbw
      have HY : Aside0 _ := Aside0.mk (show _ ∧ _ ∧ _ ∧ _ ∧ _ from ⟨hbw, hPw, hk, hv, hjl⟩)
      have HE : Aside0 _ := Aside0.mk he
      clear hbw hPw hk he hel hv
      clear hj hjl
      replace p1 := eq_true p1
      replace q1 := eq_true q1
      cases hp : taken2.p s (rd_T93 l v) with
      | false =>
        have HE1 : Aside0 (idxB (taken2.p s) (l.drop (j + 1)) (j + 1) = R) := ⟨by have := HE.out; rwa [hp, if_neg (by simp)] at this⟩
        have HPp := Aside0.mk hp
        clear HE hp
        go_wp2_with (first
          | (go_at_call 47; obtain ⟨hbw, hPw, hk, hv, hjl⟩ := HY.out; refine (taken2.gives s (rd_T93 l v) A2 c2 _ P hPw).mono ?_; rintro e w2 ⟨rfl, a1⟩; rw [HPp.out]; have HN : Aside0 _ := Aside0.mk (below_step hbw a1); clear a1 hbw hPw hk hv hjl))
        go_roundg (gk - 1)
        case measure => have := HY.out.2.2.1; have := HY.out.2.2.2.2; omega
        case rel =>
          obtain ⟨hbw, hPw, hk, hv, hjl⟩ := HY.out
          have hmax := HX.out.2.2
          exact ⟨wrap64 (v + 1), rfl, ⟨j + 1, by unfold wrap64; omega, by omega, by omega, HE1.out, HN.out⟩⟩
      | true =>
        have hE : R = v := by have := HE.out; rw [hp, if_pos rfl] at this; rw [← this]; exact HY.out.2.2.2.1.symm
        have HPp := Aside0.mk hp
        clear HE hp HR
        subst hE
        go_wp2_with (first
          | (go_at_call 47; obtain ⟨hbw, hPw, hk, hv, hjl⟩ := HY.out; refine (taken2.gives s (rd_T93 l R) A2 c2 _ P hPw).mono ?_; rintro e w2 ⟨rfl, a1⟩; rw [HPp.out]; have HN : Aside0 _ := Aside0.mk (below_step hbw a1); clear a1 hbw hPw hk hv hjl))
        go_ret
        exact ⟨rfl, HN.out⟩
    · rw [List.drop_eq_nil_of_le (by omega)] at he
      have he : -1 = R := he
      subst he
      have d1 : decide (v < (l.length : Int)) = false := decide_eq_false (by omega)
      have HN : Aside0 _ := Aside0.mk hbw
      clear hbw hk hj hjl hv HR
      go_wp2_with fail
      go_ret
      exact ⟨rfl, HN.out⟩
theorem taken2.any (s : ByteArray) (A : Option Addr) (c : Nat) (l : List S93) (w : World) (P : Nat) (hr : Kd.C k93 w A l.length l) (hP : w.heap[P]? = some (.cells #[.string s] 9 (0, 0))) :
    Calls Try.prog 46 #[.slice A l.length c, .func (.func 47) #[] #[.pointer (some ⟨P, 0, none⟩)]] w fun e w' => e = .returned (.bool (l.any (taken2.p s))) ∧ Below w.heap.size w w' := by
  have HI : Aside0 _ := Aside0.mk (taken2.idx s A c l w P hr hP)
  have HA : Aside0 _ := Aside0.mk (idxB_any (taken2.p s) l 0)
  clear hr hP
  generalize idxB (taken2.p s) l 0 = i at HI HA
  go_enter Try.func46, Try.ntmps46
  go_wp2_with (first | (go_at_call 82; refine HI.out.mono ?_; rintro e w' ⟨rfl, a1⟩; have HN := Aside0.mk a1; clear a1))
  go_ret
  exact ⟨by rw [← HA.out]; rfl, HN.out⟩
def taken3.p (s : ByteArray) (x : S97) : Bool := x.f0.toList == s.toList
theorem taken3.gives (s : ByteArray) (x : S97) (A2 : Option Addr) (c2 : Nat) (A3 : Option Addr) (c3 : Nat) (w : World) (P : Nat) (hP : w.heap[P]? = some (.cells #[.string s] 9 (0, 0))) :
    Calls Try.prog 49 #[.agg #[.string x.f0, .string x.f1, .slice A2 x.f2.length c2, .slice A3 x.f3.length c3], .pointer (some ⟨P, 0, none⟩)] w fun e w' => e = .returned (.bool (taken3.p s x)) ∧ Below w.heap.size w w' := by
  have HP := Aside0.mk hP
  clear hP
  all_goals go_enter Try.func49, Try.ntmps49
  all_goals go_wp2_with (first | ((with_reducible refine gate_dst (N := 2) rfl ?_); refine box_event ?hg (N := 2) ?hd (cs := #[.string x.f0, .string x.f1, .slice A2 x.f2.length c2, .slice A3 x.f3.length c3]) (t := 97) ?hr ?_; (case hd => rfl); (case hg => rfl); (case hr => first | (go_simp; done) | (go_simp; rfl)); intro g2 hg w2 hbox hb; have cz0 : w2.cell? ⟨g2, 0, none⟩ = some (.string x.f0) := (blk_cell hbox 0).trans rfl; have fz0 := blk_frozen hbox 0; have cz1 : w2.cell? ⟨g2, 1, none⟩ = some (.string x.f1) := (blk_cell hbox 1).trans rfl; have fz1 := blk_frozen hbox 1; have cz2 : w2.cell? ⟨g2, 2, none⟩ = some (.slice A2 x.f2.length c2) := (blk_cell hbox 2).trans rfl; have fz2 := blk_frozen hbox 2; have cz3 : w2.cell? ⟨g2, 3, none⟩ = some (.slice A3 x.f3.length c3) := (blk_cell hbox 3).trans rfl; have fz3 := blk_frozen hbox 3; have czP : w2.cell? ⟨P, 0, none⟩ = some (.string s) := (blk_cell (blk_below HP.out hb) 0).trans rfl; have N2 := Aside0.mk hb; clear hb hbox hg))
  all_goals go_ret
  all_goals exact ⟨by simp_all [taken3.p], N2.out⟩
set_option maxHeartbeats 2000000 in
theorem taken3.idx (s : ByteArray) (A : Option Addr) (c : Nat) (l : List S97) (w : World) (P : Nat) (hr : Kd.C k97 w A l.length l) (hP : w.heap[P]? = some (.cells #[.string s] 9 (0, 0))) :
    Calls Try.prog 83 #[.slice A l.length c, .func (.func 49) #[] #[.pointer (some ⟨P, 0, none⟩)]] w fun e w' => e = .returned (.int .i64 (idxB (taken3.p s) l 0)) ∧ Below w.heap.size w w' := by
  have hmax : l.length ≤ 9223372036854775807 := hr.2.1
  have HX : Aside0 _ := Aside0.mk (show _ ∧ _ ∧ _ from ⟨hr, hP, hmax⟩)
  obtain ⟨R, hR⟩ : ∃ R, R = idxB (taken3.p s) l 0 := ⟨_, rfl⟩
  rw [← hR]
  have HR : Aside0 _ := Aside0.mk hR
  clear hr hP hmax hR
  have hu := Try.underlying97
  go_enter Try.func83, Try.ntmps83
  go_wp2_with fail
  go_loopg [5, 8] (l.length + 1) (fun kq _ s8 wr => ∃ (v : Int), s8 = .int .i64 v ∧ Aside0 (∃ (j : Nat), v = (j : Int) ∧ j ≤ l.length ∧ l.length + 1 = kq + j ∧ idxB (taken3.p s) (l.drop j) j = R ∧ Below w.heap.size w wr))
  case atStart => exact ⟨0, rfl, ⟨0, rfl, Nat.zero_le _, by omega, by rw [List.drop_zero]; exact HR.out.symm, Below.refl _ _⟩⟩
  case round =>
    obtain ⟨v, rfl, HZ⟩ := hrel
    obtain ⟨j, hv, hj, hk, he, hbw⟩ := HZ.out
    clear HZ
    by_cases hjl : j < l.length
    · rw [List.drop_eq_getElem_cons hjl] at he
      simp only [idxB] at he
      have hel : l[j] = rd_T97 l v := by
        subst hv
        unfold rd_T97
        rw [Int.toNat_natCast, List.getD_eq_getElem?_getD, List.getElem?_eq_getElem hjl]
        rfl
      rw [hel] at he
      have p1 : 0 ≤ v := by omega
      have q1 : v < (l.length : Int) := by omega
      have d1 : decide (v < (l.length : Int)) = true := decide_eq_true q1
      obtain ⟨ad, A2, c2, A3, c3, e3, hx0, hx1, hx2, hx3, hl0, hi0, hl1, hi1⟩ := at_T97 HX.out.1 v p1 q1
      cases e3
      replace hx0 := (hbw.cell (World.block_lt_of_cell? w _ hx0)).trans hx0
      replace hx1 := (hbw.cell (World.block_lt_of_cell? w _ hx1)).trans hx1
      replace hx2 := (hbw.cell (World.block_lt_of_cell? w _ hx2)).trans hx2
      replace hx3 := (hbw.cell (World.block_lt_of_cell? w _ hx3)).trans hx3
      have hPw := blk_below HX.out.2.1 hbw
      have HY : Aside0 _ := Aside0.mk (show _ ∧ _ ∧ _ ∧ _ ∧ _ from ⟨hbw, hPw, hk, hv, hjl⟩)
      have HE : Aside0 _ := Aside0.mk he
      clear hbw hPw hk he hel hv
      clear hj hjl
      replace p1 := eq_true p1
      replace q1 := eq_true q1
      cases hp : taken3.p s (rd_T97 l v) with
      | false =>
        have HE1 : Aside0 (idxB (taken3.p s) (l.drop (j + 1)) (j + 1) = R) := ⟨by have := HE.out; rwa [hp, if_neg (by simp)] at this⟩
        have HPp := Aside0.mk hp
        clear HE hp
        go_wp2_with (first
          | (go_at_call 49; obtain ⟨hbw, hPw, hk, hv, hjl⟩ := HY.out; refine (taken3.gives s (rd_T97 l v) A2 c2 A3 c3 _ P hPw).mono ?_; rintro e w2 ⟨rfl, a1⟩; rw [HPp.out]; have HN : Aside0 _ := Aside0.mk (below_step hbw a1); clear a1 hbw hPw hk hv hjl))
        go_roundg (gk - 1)
        case measure => have := HY.out.2.2.1; have := HY.out.2.2.2.2; omega
        case rel =>
          obtain ⟨hbw, hPw, hk, hv, hjl⟩ := HY.out
          have hmax := HX.out.2.2
          exact ⟨wrap64 (v + 1), rfl, ⟨j + 1, by unfold wrap64; omega, by omega, by omega, HE1.out, HN.out⟩⟩
      | true =>
        have hE : R = v := by have := HE.out; rw [hp, if_pos rfl] at this; rw [← this]; exact HY.out.2.2.2.1.symm
        have HPp := Aside0.mk hp
        clear HE hp HR
        subst hE
        go_wp2_with (first
          | (go_at_call 49; obtain ⟨hbw, hPw, hk, hv, hjl⟩ := HY.out; refine (taken3.gives s (rd_T97 l R) A2 c2 A3 c3 _ P hPw).mono ?_; rintro e w2 ⟨rfl, a1⟩; rw [HPp.out]; have HN : Aside0 _ := Aside0.mk (below_step hbw a1); clear a1 hbw hPw hk hv hjl))
        go_ret
        exact ⟨rfl, HN.out⟩
    · rw [List.drop_eq_nil_of_le (by omega)] at he
      have he : -1 = R := he
      subst he
      have d1 : decide (v < (l.length : Int)) = false := decide_eq_false (by omega)
      have HN : Aside0 _ := Aside0.mk hbw
      clear hbw hk hj hjl hv HR
      go_wp2_with fail
      go_ret
      exact ⟨rfl, HN.out⟩
theorem taken3.any (s : ByteArray) (A : Option Addr) (c : Nat) (l : List S97) (w : World) (P : Nat) (hr : Kd.C k97 w A l.length l) (hP : w.heap[P]? = some (.cells #[.string s] 9 (0, 0))) :
    Calls Try.prog 48 #[.slice A l.length c, .func (.func 49) #[] #[.pointer (some ⟨P, 0, none⟩)]] w fun e w' => e = .returned (.bool (l.any (taken3.p s))) ∧ Below w.heap.size w w' := by
  have HI : Aside0 _ := Aside0.mk (taken3.idx s A c l w P hr hP)
  have HA : Aside0 _ := Aside0.mk (idxB_any (taken3.p s) l 0)
  clear hr hP
  generalize idxB (taken3.p s) l 0 = i at HI HA
  go_enter Try.func48, Try.ntmps48
  go_wp2_with (first | (go_at_call 83; refine HI.out.mono ?_; rintro e w' ⟨rfl, a1⟩; have HN := Aside0.mk a1; clear a1))
  go_ret
  exact ⟨by rw [← HA.out]; rfl, HN.out⟩
end Go.Proofs.Ytbgfdhabfgeglaa.Q
