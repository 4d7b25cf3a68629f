/- impl.Columns: the texts of the columns are gathered by impl.columns, sorted and compacted. -/
import Derived.Test.YthkepfodengceaaQ0
import Derived.Test.YthkepfodengceaaShelf
import Derived.Lib.OwnBridge
import Derived.Lib.RowBridge
import Derived.Sort.OwnSorted
namespace Go.Proofs.Ythkepfodengceaa.Q
open Go Go.RowKit Go.Lib Go.Sort Go.Proofs Go.Proofs.YthkepfodengceaaW.PrintWords Go.Proofs.YthkepfodengceaaW.PrintLast Go.Proofs.YthkepfodengceaaW.PrintMore
set_option linter.unusedVariables false
set_option linter.unusedSimpArgs false
mutual
/-- The texts of the columns of some conditions, behind those that there are. -/
def colsL : Nat → List S26 → List ByteArray → Option (List ByteArray)
  | 0, _, _ => none
  | _ + 1, [], xs => some xs
  | k + 1, x :: l, xs => (colsF k x.f0 x.f1 x.f3 xs).bind fun r => colsL k l r
def colsF : Nat → Int → ByteArray → List S26 → List ByteArray → Option (List ByteArray)
  | 0, _, _, _, _ => none
  | k + 1, a, t, l, xs => if a = 0 then (if (xs.length + 1) * 16 ≤ 140737488355328 then colsL k l (xs ++ [t]) else none) else colsL k l xs
end
abbrev columns.S (k : Nat) : Prop := ∀ (w0 : World) (a : Int) (t : ByteArray) (m : Int) (A : Option Addr) (c : Nat) (l : List S26) (v : Value) (xs r : List ByteArray) (w : World) (hC : Kd.C k26 w0 A l.length l) (hc : l.length ≤ c) (hb : Below w0.heap.size w0 w) (hv : Kd.R Kd.string 9 w w0.heap.size (fun _ => True) v xs) (h : colsF k a t l xs = some r),
    Calls Try.prog 37 #[.agg #[.int .i64 a, .string t, .int .i64 m, .slice A l.length c], v] w fun e w' => ∃ v1, e = .returned v1 ∧ Kd.R Kd.string 9 w' w0.heap.size (fun _ => True) v1 r ∧ Below w0.heap.size w0 w'
set_option maxHeartbeats 4000000 in
set_option maxRecDepth 100000 in
theorem columns.kids (k : Nat) (ih : ∀ j, j < k → columns.S j) (w0 : World) (a : Int) (t : ByteArray) (m : Int) (A : Option Addr) (c : Nat) (l : List S26) (v : Value) (xs r : List ByteArray) (w : World) (hC : Kd.C k26 w0 A l.length l) (hc : l.length ≤ c) (hb : Below w0.heap.size w0 w) (hv : Kd.R Kd.string 9 w w0.heap.size (fun _ => True) v xs) (ha : (a == 0) = false) (ha2 : ¬ a = 0) (h : colsL k l xs = some r) :
    Calls Try.prog 37 #[.agg #[.int .i64 a, .string t, .int .i64 m, .slice A l.length c], v] w fun e w' => ∃ v1, e = .returned v1 ∧ Kd.R Kd.string 9 w' w0.heap.size (fun _ => True) v1 r ∧ Below w0.heap.size w0 w' := by
  have hmax : l.length ≤ 9223372036854775807 := hC.2.1
  have HX : Aside0 _ := Aside0.mk (show _ ∧ _ ∧ _ ∧ _ ∧ _ ∧ _ from ⟨hC, hc, hb, hv, h, hmax⟩)
  clear hC hc hb hv h hmax
  have hu := Try.underlying26
  go_enter Try.func37, Try.ntmps37
  go_wp2_with (first
    | ((with_reducible refine gate_dst (N := 2) rfl ?_); refine box_event ?hg (N := 2) ?hd (cs := #[.int .i64 a, .string t, .int .i64 m, .slice A l.length c]) (t := 26) ?hr ?_; (case hd => rfl); (case hg => rfl); (case hr => first | (go_simp; done) | (go_simp; rfl)); intro g2 hg w2 hbox hb; have czg2w2_0 : w2.cell? ⟨g2, 0, none⟩ = some (.int .i64 a) := (blk_cell hbox 0).trans rfl; have fzg2w2_0 := blk_frozen hbox 0; have czg2w2_1 : w2.cell? ⟨g2, 1, none⟩ = some (.string t) := (blk_cell hbox 1).trans rfl; have fzg2w2_1 := blk_frozen hbox 1; have czg2w2_2 : w2.cell? ⟨g2, 2, none⟩ = some (.int .i64 m) := (blk_cell hbox 2).trans rfl; have fzg2w2_2 := blk_frozen hbox 2; have czg2w2_3 : w2.cell? ⟨g2, 3, none⟩ = some (.slice A l.length c) := (blk_cell hbox 3).trans rfl; have fzg2w2_3 := blk_frozen hbox 3; have HB : Aside0 _ := Aside0.mk (below_step HX.out.2.2.1 hb); have HV : Aside0 _ := Aside0.mk (Kd.R_below HX.out.2.2.2.1 hb); clear hb hbox hg))
  go_loopg [1, 18] k (fun kq s1 s18 wr => ∃ (v18 : Int), s18 = .int .i64 v18 ∧ Aside0 (∃ (j : Nat) (ys : List ByteArray), v18 = (j : Int) ∧ j ≤ l.length ∧ kq ≤ k ∧ colsL kq (l.drop j) ys = some r ∧ Below w0.heap.size w0 wr ∧ Kd.R Kd.string 9 wr w0.heap.size (fun _ => True) s1 ys))
  case atStart => exact ⟨0, rfl, ⟨0, xs, rfl, Nat.zero_le _, Nat.le_refl _, by rw [List.drop_zero]; exact HX.out.2.2.2.2.1, HB.out, HV.out⟩⟩
  case round =>
    clear HB HV
    obtain ⟨v18, rfl, HR⟩ := hrel
    obtain ⟨j, ys, hv, hj, hk, he, hbw, hvw⟩ := HR.out
    clear HR
    cases gk with
    | zero => exact absurd he (by simp [colsL])
    | succ k1 =>
      by_cases hjl : j < l.length
      · rw [List.drop_eq_getElem_cons hjl] at he
        simp only [colsL] at he
        have he0 := he
        clear he
        obtain ⟨zs, hq, he⟩ := Option.bind_eq_some_iff.1 he0
        clear he0
        have hel : l[j] = rd_T26 l v18 := by
          subst hv
          unfold rd_T26
          rw [Int.toNat_natCast, List.getD_eq_getElem?_getD, List.getElem?_eq_getElem hjl]
          rfl
        rw [hel] at hq
        have p1 : 0 ≤ v18 := by omega
        have q1 : v18 < (l.length : Int) := by omega
        have d1 : decide (v18 < (l.length : Int)) = true := decide_eq_true q1
        have d2 : decide (0 ≤ v18) = true := decide_eq_true p1
        obtain ⟨ad, A3, c3, e3, hx0, hx1, hx2, hx3, hl3, hi3⟩ := at_T26 HX.out.1 v18 p1 q1
        cases e3
        replace hx0 := (hbw.cell (World.block_lt_of_cell? w0 _ hx0)).trans hx0
        replace hx1 := (hbw.cell (World.block_lt_of_cell? w0 _ hx1)).trans hx1
        replace hx2 := (hbw.cell (World.block_lt_of_cell? w0 _ hx2)).trans hx2
        replace hx3 := (hbw.cell (World.block_lt_of_cell? w0 _ hx3)).trans hx3
        have HY : Aside0 _ := Aside0.mk (show _ ∧ _ ∧ _ ∧ _ ∧ _ ∧ _ ∧ _ ∧ _ from ⟨hi3, hl3, hbw, hvw, hq, hk, hv, hjl⟩)
        have HE : Aside0 _ := Aside0.mk he
        clear hi3 hl3 hbw hvw hq hk he hel hv
        clear hj hjl
        replace p1 := eq_true p1
        replace q1 := eq_true q1
        go_wp2_with (first
          | ((with_reducible refine gate_dst (N := 6) rfl ?_); refine box_event ?hg (N := 6) ?hd (cs := #[.int .i64 0, .string (⟨#[]⟩ : ByteArray), .int .i64 0, .slice none 0 0]) (t := 26) ?hr ?_; (case hd => rfl); (case hg => rfl); (case hr => first | (go_simp; done) | (go_simp; rfl)); intro g6 hg w6 hbox hb; have czg6w6_0 : w6.cell? ⟨g6, 0, none⟩ = some (.int .i64 0) := (blk_cell hbox 0).trans rfl; have fzg6w6_0 := blk_frozen hbox 0; have czg6w6_1 : w6.cell? ⟨g6, 1, none⟩ = some (.string (⟨#[]⟩ : ByteArray)) := (blk_cell hbox 1).trans rfl; have fzg6w6_1 := blk_frozen hbox 1; have czg6w6_2 : w6.cell? ⟨g6, 2, none⟩ = some (.int .i64 0) := (blk_cell hbox 2).trans rfl; have fzg6w6_2 := blk_frozen hbox 2; have czg6w6_3 : w6.cell? ⟨g6, 3, none⟩ = some (.slice none 0 0) := (blk_cell hbox 3).trans rfl; have fzg6w6_3 := blk_frozen hbox 3; have N6 : Aside0 _ := Aside0.mk (show _ ∧ _ ∧ _ from ⟨hb, hbox, hg⟩); clear hb hbox hg)
          | ((with_reducible refine gate_store (t := 26) (p := 6) (v := .tmp 21) rfl ?_); refine store_event (t := 26) (p := 6) (v := .tmp 21) (w1 := ((((w6.setCell ⟨g6, 0, none⟩ (.int .i64 (rd_T26 l v18).f0)).setCell ⟨g6, 1, none⟩ (.string (rd_T26 l v18).f1)).setCell ⟨g6, 2, none⟩ (.int .i64 (rd_T26 l v18).f2)).setCell ⟨g6, 3, none⟩ (.slice A3 (rd_T26 l v18).f3.length c3))) ?hg ?ho ?hn ?hr ?_; (case ho => rfl); (case hg => rfl); (case hn => rfl); (case hr => first | (go_simp; done) | (go_simp; rfl)); intro w7 hw; have x6 : w7.heap[g6]? = some (.cells #[.int .i64 (rd_T26 l v18).f0, .string (rd_T26 l v18).f1, .int .i64 (rd_T26 l v18).f2, .slice A3 (rd_T26 l v18).f3.length c3] 26 (0, 0)) := (by rw [hw]; exact (blk_put (cs := #[.int .i64 (rd_T26 l v18).f0, .string (rd_T26 l v18).f1, .int .i64 (rd_T26 l v18).f2, .slice none 0 0]) (blk_put (cs := #[.int .i64 (rd_T26 l v18).f0, .string (rd_T26 l v18).f1, .int .i64 0, .slice none 0 0]) (blk_put (cs := #[.int .i64 (rd_T26 l v18).f0, .string (⟨#[]⟩ : ByteArray), .int .i64 0, .slice none 0 0]) (blk_put (cs := #[.int .i64 0, .string (⟨#[]⟩ : ByteArray), .int .i64 0, .slice none 0 0]) N6.out.2.1 0 (.int .i64 (rd_T26 l v18).f0) rfl) 1 (.string (rd_T26 l v18).f1) rfl) 2 (.int .i64 (rd_T26 l v18).f2) rfl) 3 (.slice A3 (rd_T26 l v18).f3.length c3) rfl)); have xl : Below w0.heap.size w0 w7 := (by have h1_ := HY.out.2.2.1.size; have h2_ := N6.out.2.2; have h3_ : w0.heap.size ≤ g6 := (by omega); rw [hw]; exact below_set (below_set (below_set (below_set (below_step HY.out.2.2.1 N6.out.1) h3_) h3_) h3_) h3_); have xk : KeepBut w6 w7 g6 none := (by rw [hw]; exact KeepBut.set_ (KeepBut.set_ (KeepBut.set_ (KeepBut.set_ (KeepBut.refl _ _ _) 0 _) 1 _) 2 _) 3 _); have N7 : Aside0 _ := Aside0.mk (show _ ∧ _ from ⟨xl, (Kd.R_mono (Kd.R_keep (Kd.R_below (Kd.R_bound HY.out.2.2.2.1) N6.out.1) xk (fun k_ h_ => by have h1_ := h_.2.2.1; have h2_ := N6.out.2.2; omega)) (fun _ _ => trivial) : Kd.R Kd.string 9 w7 w0.heap.size (fun _ => True) u1 _)⟩); have czg6w7_0 : w7.cell? ⟨g6, 0, none⟩ = some (.int .i64 (rd_T26 l v18).f0) := (blk_cell x6 0).trans rfl; have fzg6w7_0 := blk_frozen x6 0; have czg6w7_1 : w7.cell? ⟨g6, 1, none⟩ = some (.string (rd_T26 l v18).f1) := (blk_cell x6 1).trans rfl; have fzg6w7_1 := blk_frozen x6 1; have czg6w7_2 : w7.cell? ⟨g6, 2, none⟩ = some (.int .i64 (rd_T26 l v18).f2) := (blk_cell x6 2).trans rfl; have fzg6w7_2 := blk_frozen x6 2; have czg6w7_3 : w7.cell? ⟨g6, 3, none⟩ = some (.slice A3 (rd_T26 l v18).f3.length c3) := (blk_cell x6 3).trans rfl; have fzg6w7_3 := blk_frozen x6 3; clear xl xk x6 hw)
          | (go_at_call 37; obtain ⟨hi3, hl3, hbw, hvw, hq, hk, hv, hjl⟩ := HY.out; refine (ih k1 (by omega) w0 (rd_T26 l v18).f0 (rd_T26 l v18).f1 (rd_T26 l v18).f2 A3 c3 (rd_T26 l v18).f3 u1 _ _ _ hi3 hl3 N7.out.1 N7.out.2 hq).mono ?_; rintro e w8 ⟨v8, rfl, a1, a2⟩; have HN : Aside0 _ := Aside0.mk (show _ ∧ _ from ⟨a1, a2⟩); clear a1 a2 hi3 hl3 hbw hvw hq hk hv hjl))
        go_roundg k1
        case measure => exact Nat.lt_succ_self _
        case rel =>
          obtain ⟨hi3, hl3, hbw, hvw, hq, hk, hv, hjl⟩ := HY.out
          have hmax := HX.out.2.2.2.2.2
          exact ⟨wrap64 (v18 + 1), rfl, ⟨j + 1, zs, by unfold wrap64; omega, by omega, by omega, HE.out, HN.out.2, HN.out.1⟩⟩
      · rw [List.drop_eq_nil_of_le (by omega)] at he
        simp only [colsL, Option.some.injEq] at he
        subst he
        have d1 : decide (v18 < (l.length : Int)) = false := decide_eq_false (by omega)
        have HN : Aside0 _ := Aside0.mk (show _ ∧ _ from ⟨hvw, hbw⟩)
        clear hvw hbw hk hj hjl hv
        go_wp2_with fail
        go_ret
        exact ⟨_, rfl, HN.out.1, HN.out.2⟩
set_option maxHeartbeats 4000000 in
set_option maxRecDepth 100000 in
theorem columns.own (k : Nat) (ih : ∀ j, j < k → columns.S j) (w0 : World) (t : ByteArray) (m : Int) (A : Option Addr) (c : Nat) (l : List S26) (v : Value) (xs r : List ByteArray) (w : World) (hC : Kd.C k26 w0 A l.length l) (hc : l.length ≤ c) (hb : Below w0.heap.size w0 w) (hv : Kd.R Kd.string 9 w w0.heap.size (fun _ => True) v xs) (hl : (xs.length + 1) * 16 ≤ 140737488355328) (h : colsL k l (xs ++ [t]) = some r) :
    Calls Try.prog 37 #[.agg #[.int .i64 0, .string t, .int .i64 m, .slice A l.length c], v] w fun e w' => ∃ v1, e = .returned v1 ∧ Kd.R Kd.string 9 w' w0.heap.size (fun _ => True) v1 r ∧ Below w0.heap.size w0 w' := by
  have hmax : l.length ≤ 9223372036854775807 := hC.2.1
  have HX : Aside0 _ := Aside0.mk (show _ ∧ _ ∧ _ ∧ _ ∧ _ ∧ _ from ⟨hC, hc, hb, hv, h, hmax⟩)
  clear hC hc hb hv h hmax
  have HL : Aside0 _ := Aside0.mk hl
  clear hl
  have hu := Try.underlying26
  go_enter Try.func37, Try.ntmps37
  go_wp2_with (first
    | ((with_reducible refine gate_dst (N := 2) rfl ?_); refine box_event ?hg (N := 2) ?hd (cs := #[.int .i64 0, .string t, .int .i64 m, .slice A l.length c]) (t := 26) ?hr ?_; (case hd => rfl); (case hg => rfl); (case hr => first | (go_simp; done) | (go_simp; rfl)); intro g2 hg w2 hbox hb; have czg2w2_0 : w2.cell? ⟨g2, 0, none⟩ = some (.int .i64 0) := (blk_cell hbox 0).trans rfl; have fzg2w2_0 := blk_frozen hbox 0; have czg2w2_1 : w2.cell? ⟨g2, 1, none⟩ = some (.string t) := (blk_cell hbox 1).trans rfl; have fzg2w2_1 := blk_frozen hbox 1; have czg2w2_2 : w2.cell? ⟨g2, 2, none⟩ = some (.int .i64 m) := (blk_cell hbox 2).trans rfl; have fzg2w2_2 := blk_frozen hbox 2; have czg2w2_3 : w2.cell? ⟨g2, 3, none⟩ = some (.slice A l.length c) := (blk_cell hbox 3).trans rfl; have fzg2w2_3 := blk_frozen hbox 3; have HB : Aside0 _ := Aside0.mk (below_step HX.out.2.2.1 hb); have HV : Aside0 _ := Aside0.mk (Kd.R_below HX.out.2.2.2.1 hb); have BK2 : Aside0 _ := Aside0.mk hbox; have HNE : Aside0 (v.ownBlock ≠ some g2) := ⟨fun e_ => by have := Kd.R_lt HX.out.2.2.2.1 g2 e_; omega⟩; clear hb hbox hg)
    | ((with_reducible refine gate_builtin (b := .append) (xs := #[.tmp 10, .tmp 13]) rfl ?_); at_builtin; refine Kd.R_append Kd.string (w0 := w0) w0.heap.size rfl (.tmp 10) (.tmp 13) 28 9 (.string ⟨#[]⟩) 16 rfl Try.underlying28 info9 rfl (by decide) (by omega) v xs t [.string t] (fun _ => True) (fun _ => False) rfl rfl ?aP (fun _ hk => hk.elim) ?aF ?aO ?aB ?aS ?aL ?_; (case aP => exact rfl); (case aB => exact HB.out); (case aF => exact (fun _ _ => trivial)); (case aO => exact HV.out); (case aS => exact HB.out.size); (case aL => exact HL.out); intro v3 w3 ho hb hg hat; have BK3 := (hg.block g2 (blk_lt BK2.out) (fun e_ => HNE.out e_.symm)).trans BK2.out; have czg2w3_0 : w3.cell? ⟨g2, 0, none⟩ = some (.int .i64 0) := (blk_cell BK3 0).trans rfl; have fzg2w3_0 := blk_frozen BK3 0; have czg2w3_1 : w3.cell? ⟨g2, 1, none⟩ = some (.string t) := (blk_cell BK3 1).trans rfl; have fzg2w3_1 := blk_frozen BK3 1; have czg2w3_2 : w3.cell? ⟨g2, 2, none⟩ = some (.int .i64 m) := (blk_cell BK3 2).trans rfl; have fzg2w3_2 := blk_frozen BK3 2; have czg2w3_3 : w3.cell? ⟨g2, 3, none⟩ = some (.slice A l.length c) := (blk_cell BK3 3).trans rfl; have fzg2w3_3 := blk_frozen BK3 3; have n0_ := Aside0.mk hb; have n1_ := Aside0.mk ho; clear HB HV BK2; have HB := n0_; have HV := n1_; clear n0_ n1_ ho hb hg hat BK3))
  go_loopg [1, 18] k (fun kq s1 s18 wr => ∃ (v18 : Int), s18 = .int .i64 v18 ∧ Aside0 (∃ (j : Nat) (ys : List ByteArray), v18 = (j : Int) ∧ j ≤ l.length ∧ kq ≤ k ∧ colsL kq (l.drop j) ys = some r ∧ Below w0.heap.size w0 wr ∧ Kd.R Kd.string 9 wr w0.heap.size (fun _ => True) s1 ys))
  case atStart => exact ⟨0, rfl, ⟨0, (xs ++ [t]), rfl, Nat.zero_le _, Nat.le_refl _, by rw [List.drop_zero]; exact HX.out.2.2.2.2.1, HB.out, HV.out⟩⟩
  case round =>
    clear HB HV
    obtain ⟨v18, rfl, HR⟩ := hrel
    obtain ⟨j, ys, hv, hj, hk, he, hbw, hvw⟩ := HR.out
    clear HR
    cases gk with
    | zero => exact absurd he (by simp [colsL])
    | succ k1 =>
      by_cases hjl : j < l.length
      · rw [List.drop_eq_getElem_cons hjl] at he
        simp only [colsL] at he
        have he0 := he
        clear he
        obtain ⟨zs, hq, he⟩ := Option.bind_eq_some_iff.1 he0
        clear he0
        have hel : l[j] = rd_T26 l v18 := by
          subst hv
          unfold rd_T26
          rw [Int.toNat_natCast, List.getD_eq_getElem?_getD, List.getElem?_eq_getElem hjl]
          rfl
        rw [hel] at hq
        have p1 : 0 ≤ v18 := by omega
        have q1 : v18 < (l.length : Int) := by omega
        have d1 : decide (v18 < (l.length : Int)) = true := decide_eq_true q1
        have d2 : decide (0 ≤ v18) = true := decide_eq_true p1
        obtain ⟨ad, A3, c3, e3, hx0, hx1, hx2, hx3, hl3, hi3⟩ := at_T26 HX.out.1 v18 p1 q1
        cases e3
        replace hx0 := (hbw.cell (World.block_lt_of_cell? w0 _ hx0)).trans hx0
        replace hx1 := (hbw.cell (World.block_lt_of_cell? w0 _ hx1)).trans hx1
        replace hx2 := (hbw.cell (World.block_lt_of_cell? w0 _ hx2)).trans hx2
        replace hx3 := (hbw.cell (World.block_lt_of_cell? w0 _ hx3)).trans hx3
        have HY : Aside0 _ := Aside0.mk (show _ ∧ _ ∧ _ ∧ _ ∧ _ ∧ _ ∧ _ ∧ _ from ⟨hi3, hl3, hbw, hvw, hq, hk, hv, hjl⟩)
        have HE : Aside0 _ := Aside0.mk he
        clear hi3 hl3 hbw hvw hq hk he hel hv
        clear hj hjl
        replace p1 := eq_true p1
        replace q1 := eq_true q1
        go_wp2_with (first
          | ((with_reducible refine gate_dst (N := 6) rfl ?_); refine box_event ?hg (N := 6) ?hd (cs := #[.int .i64 0, .string (⟨#[]⟩ : ByteArray), .int .i64 0, .slice none 0 0]) (t := 26) ?hr ?_; (case hd => rfl); (case hg => rfl); (case hr => first | (go_simp; done) | (go_simp; rfl)); intro g6 hg w6 hbox hb; have czg6w6_0 : w6.cell? ⟨g6, 0, none⟩ = some (.int .i64 0) := (blk_cell hbox 0).trans rfl; have fzg6w6_0 := blk_frozen hbox 0; have czg6w6_1 : w6.cell? ⟨g6, 1, none⟩ = some (.string (⟨#[]⟩ : ByteArray)) := (blk_cell hbox 1).trans rfl; have fzg6w6_1 := blk_frozen hbox 1; have czg6w6_2 : w6.cell? ⟨g6, 2, none⟩ = some (.int .i64 0) := (blk_cell hbox 2).trans rfl; have fzg6w6_2 := blk_frozen hbox 2; have czg6w6_3 : w6.cell? ⟨g6, 3, none⟩ = some (.slice none 0 0) := (blk_cell hbox 3).trans rfl; have fzg6w6_3 := blk_frozen hbox 3; have N6 : Aside0 _ := Aside0.mk (show _ ∧ _ ∧ _ from ⟨hb, hbox, hg⟩); clear hb hbox hg)
          | ((with_reducible refine gate_store (t := 26) (p := 6) (v := .tmp 21) rfl ?_); refine store_event (t := 26) (p := 6) (v := .tmp 21) (w1 := ((((w6.setCell ⟨g6, 0, none⟩ (.int .i64 (rd_T26 l v18).f0)).setCell ⟨g6, 1, none⟩ (.string (rd_T26 l v18).f1)).setCell ⟨g6, 2, none⟩ (.int .i64 (rd_T26 l v18).f2)).setCell ⟨g6, 3, none⟩ (.slice A3 (rd_T26 l v18).f3.length c3))) ?hg ?ho ?hn ?hr ?_; (case ho => rfl); (case hg => rfl); (case hn => rfl); (case hr => first | (go_simp; done) | (go_simp; rfl)); intro w7 hw; have x6 : w7.heap[g6]? = some (.cells #[.int .i64 (rd_T26 l v18).f0, .string (rd_T26 l v18).f1, .int .i64 (rd_T26 l v18).f2, .slice A3 (rd_T26 l v18).f3.length c3] 26 (0, 0)) := (by rw [hw]; exact (blk_put (cs := #[.int .i64 (rd_T26 l v18).f0, .string (rd_T26 l v18).f1, .int .i64 (rd_T26 l v18).f2, .slice none 0 0]) (blk_put (cs := #[.int .i64 (rd_T26 l v18).f0, .string (rd_T26 l v18).f1, .int .i64 0, .slice none 0 0]) (blk_put (cs := #[.int .i64 (rd_T26 l v18).f0, .string (⟨#[]⟩ : ByteArray), .int .i64 0, .slice none 0 0]) (blk_put (cs := #[.int .i64 0, .string (⟨#[]⟩ : ByteArray), .int .i64 0, .slice none 0 0]) N6.out.2.1 0 (.int .i64 (rd_T26 l v18).f0) rfl) 1 (.string (rd_T26 l v18).f1) rfl) 2 (.int .i64 (rd_T26 l v18).f2) rfl) 3 (.slice A3 (rd_T26 l v18).f3.length c3) rfl)); have xl : Below w0.heap.size w0 w7 := (by have h1_ := HY.out.2.2.1.size; have h2_ := N6.out.2.2; have h3_ : w0.heap.size ≤ g6 := (by omega); rw [hw]; exact below_set (below_set (below_set (below_set (below_step HY.out.2.2.1 N6.out.1) h3_) h3_) h3_) h3_); have xk : KeepBut w6 w7 g6 none := (by rw [hw]; exact KeepBut.set_ (KeepBut.set_ (KeepBut.set_ (KeepBut.set_ (KeepBut.refl _ _ _) 0 _) 1 _) 2 _) 3 _); have N7 : Aside0 _ := Aside0.mk (show _ ∧ _ from ⟨xl, (Kd.R_mono (Kd.R_keep (Kd.R_below (Kd.R_bound HY.out.2.2.2.1) N6.out.1) xk (fun k_ h_ => by have h1_ := h_.2.2.1; have h2_ := N6.out.2.2; omega)) (fun _ _ => trivial) : Kd.R Kd.string 9 w7 w0.heap.size (fun _ => True) u1 _)⟩); have czg6w7_0 : w7.cell? ⟨g6, 0, none⟩ = some (.int .i64 (rd_T26 l v18).f0) := (blk_cell x6 0).trans rfl; have fzg6w7_0 := blk_frozen x6 0; have czg6w7_1 : w7.cell? ⟨g6, 1, none⟩ = some (.string (rd_T26 l v18).f1) := (blk_cell x6 1).trans rfl; have fzg6w7_1 := blk_frozen x6 1; have czg6w7_2 : w7.cell? ⟨g6, 2, none⟩ = some (.int .i64 (rd_T26 l v18).f2) := (blk_cell x6 2).trans rfl; have fzg6w7_2 := blk_frozen x6 2; have czg6w7_3 : w7.cell? ⟨g6, 3, none⟩ = some (.slice A3 (rd_T26 l v18).f3.length c3) := (blk_cell x6 3).trans rfl; have fzg6w7_3 := blk_frozen x6 3; clear xl xk x6 hw)
          | (go_at_call 37; obtain ⟨hi3, hl3, hbw, hvw, hq, hk, hv, hjl⟩ := HY.out; refine (ih k1 (by omega) w0 (rd_T26 l v18).f0 (rd_T26 l v18).f1 (rd_T26 l v18).f2 A3 c3 (rd_T26 l v18).f3 u1 _ _ _ hi3 hl3 N7.out.1 N7.out.2 hq).mono ?_; rintro e w8 ⟨v8, rfl, a1, a2⟩; have HN : Aside0 _ := Aside0.mk (show _ ∧ _ from ⟨a1, a2⟩); clear a1 a2 hi3 hl3 hbw hvw hq hk hv hjl))
        go_roundg k1
        case measure => exact Nat.lt_succ_self _
        case rel =>
          obtain ⟨hi3, hl3, hbw, hvw, hq, hk, hv, hjl⟩ := HY.out
          have hmax := HX.out.2.2.2.2.2
          exact ⟨wrap64 (v18 + 1), rfl, ⟨j + 1, zs, by unfold wrap64; omega, by omega, by omega, HE.out, HN.out.2, HN.out.1⟩⟩
      · rw [List.drop_eq_nil_of_le (by omega)] at he
        simp only [colsL, Option.some.injEq] at he
        subst he
        have d1 : decide (v18 < (l.length : Int)) = false := decide_eq_false (by omega)
        have HN : Aside0 _ := Aside0.mk (show _ ∧ _ from ⟨hvw, hbw⟩)
        clear hvw hbw hk hj hjl hv
        go_wp2_with fail
        go_ret
        exact ⟨_, rfl, HN.out.1, HN.out.2⟩
theorem columns.all (k : Nat) : columns.S k := by
  induction k using Nat.strongRecOn with
  | _ k ih =>
  intro w0 a t m A c l v xs r w hC hc hb hv h
  cases k with
  | zero => exact absurd h (by simp [colsF])
  | succ k =>
  have ih' : ∀ j, j < k → columns.S j := fun j hj => ih j (by omega)
  simp only [colsF] at h
  by_cases a0 : a = 0
  · subst a0
    rw [if_pos rfl] at h
    by_cases hl : (xs.length + 1) * 16 ≤ 140737488355328
    · rw [if_pos hl] at h
      exact columns.own k ih' w0 t m A c l v xs r w hC hc hb hv hl h
    · rw [if_neg hl] at h
      cases h
  · rw [if_neg a0] at h
    exact columns.kids k ih' w0 a t m A c l v xs r w hC hc hb hv (beq_eq_false_iff_ne.2 a0) a0 h
/-- The texts, sorted, each once. -/
def sortedB (xs : List ByteArray) : List ByteArray := (Lib.compact ((xs.map (·.data.toList)).mergeSort fun x y => decide (x ≤ y))).map (fun l => (⟨l.toArray⟩ : ByteArray))
theorem sortedB_nil : sortedB [] = [] := by simp [sortedB, Lib.compact, Lib.compactUpTo]
theorem encs_map (xs : List ByteArray) : (xs.map (·.data.toList)).map encStr = xs.map Value.string := by
  rw [List.map_map]
  rfl
theorem encs_back (ss : List (List UInt8)) : (ss.map (fun l => (⟨l.toArray⟩ : ByteArray))).map Value.string = ss.map encStr := by
  rw [List.map_map]
  rfl
theorem sort_own (w0 w : World) (g n cap : Nat) (ss : List (List UInt8)) (hn : ss.length = n) (hl : n < 4611686018427387904) (ho : w.ownsRow w0.heap.size 9 1 (.slice (some ⟨g, 0, none⟩) n cap) n (ss.map encStr)) (hb : Below w0.heap.size w0 w) :
    Calls Try.prog 67 #[.slice (some ⟨g, 0, none⟩) n cap] w fun e w' => e = .returned (.tuple #[]) ∧ w'.ownsRow w0.heap.size 9 1 (.slice (some ⟨g, 0, none⟩) n cap) n ((ss.mergeSort fun x y => decide (x ≤ y)).map encStr) ∧ Below w0.heap.size w0 w' := by
  obtain ⟨g', cap', e, hbg, hgl, hnc, hcm, hln, hH⟩ := holds_of_ownsRow ho (by simp)
  cases e
  subst hn
  refine (Try.slices_Sort_string g 0 cap ss w hH hgl hl).mono ?_
  rintro e w' ⟨rfl, nn, os, rfl⟩
  rcases ho.2 with ⟨h0, _⟩ | ⟨g', cap', cur, hv, hbase, hbl, h1, h2, h3, h4⟩
  · cases h0
  cases hv
  have hs := ownsRow_sorted (n := nn) (os := os) (ts := ss.mergeSort fun x y => decide (x ≤ y)) (List.length_mergeSort ss) hbase hbl h1 h2 h3
  exact ⟨rfl, hs, hb.grown (grownBy_sorted _) hb.size (fun j hj => by cases hj; exact hbase)⟩
theorem compact_own (w0 w : World) (g n cap : Nat) (ss : List (List UInt8)) (hn : ss.length = n) (ho : w.ownsRow w0.heap.size 9 1 (.slice (some ⟨g, 0, none⟩) n cap) n (ss.map encStr)) (hb : Below w0.heap.size w0 w) :
    Calls Try.prog 68 #[.slice (some ⟨g, 0, none⟩) n cap] w fun e w' => ∃ v1, e = .returned v1 ∧ w'.ownsRow w0.heap.size 9 1 v1 (Lib.compact ss).length ((Lib.compact ss).map encStr) ∧ Below w0.heap.size w0 w' := by
  obtain ⟨g', cap', e, hbg, hgl, hnc, hcm, hln, hH⟩ := holds_of_ownsRow ho (by simp)
  cases e
  subst hn
  have hle := Lib.compact_length_le ss
  refine (Try.slices_Compact_string g 0 cap ss w hH (by simp [maxLen] at hcm; omega) hnc).mono ?_
  rintro e w' ⟨rfl, q, rfl⟩
  have hc := ownsRow_putRow (q := q) (k := (Lib.compact ss).length) (ys := Lib.compact ss ++ List.replicate (ss.length - (Lib.compact ss).length) []) ho (by simp; omega) hle
  rw [List.take_left] at hc
  exact ⟨_, rfl, hc, below_putRow hb hbg⟩
theorem rising.calls (w0 w : World) (v : Value) (xs : List ByteArray) (hv : Kd.R Kd.string 9 w w0.heap.size (fun _ => True) v xs) (hb : Below w0.heap.size w0 w) (hl : xs.length * 16 ≤ 140737488355328) :
    Calls Try.prog 36 #[v] w fun e w' => ∃ v1, e = .returned v1 ∧ Kd.R Kd.string 9 w' w0.heap.size (fun _ => True) v1 (sortedB xs) ∧ Below w0.heap.size w0 w' := by
  have ho : w.ownsRow w0.heap.size 9 1 v xs.length (xs.map Value.string) := Kd.own_of_R hv
  by_cases h0 : v = .slice none 0 0
  · subst h0
    have hx : xs = [] := by
      obtain ⟨A, c, e, _⟩ := Kd.R_reads hv
      injection e with _ e _
      exact List.length_eq_zero_iff.1 e.symm
    subst hx
    clear ho hl
    have HX : Aside0 _ := Aside0.mk (show _ ∧ _ from ⟨hv, hb⟩)
    clear hv hb
    go_enter Try.func36, Try.ntmps36
    go_wp2_with (first
      | (go_at_call 67; refine (Try.slices_Sort_string_none none 0 _).mono ?_; rintro e w' ⟨rfl, rfl⟩)
      | (go_at_call 68; refine (Try.slices_Compact_string_empty none 0 _).mono ?_; rintro e w' ⟨rfl, rfl⟩))
    go_ret
    exact ⟨_, rfl, by rw [sortedB_nil]; exact HX.out.1, HX.out.2⟩
  · rw [← encs_map] at ho
    obtain ⟨g, cap, rfl, hbg, hgl, hnc, hcm, hln, hH⟩ := holds_of_ownsRow ho h0
    have h1 := sort_own w0 w g xs.length cap _ hln (by omega) ho hb
    have h2 := fun w' => compact_own w0 w' g xs.length cap ((xs.map (·.data.toList)).mergeSort fun x y => decide (x ≤ y)) (by rw [List.length_mergeSort]; exact hln)
    have es : sortedB xs = (Lib.compact ((xs.map (·.data.toList)).mergeSort fun x y => decide (x ≤ y))).map (fun l => (⟨l.toArray⟩ : ByteArray)) := rfl
    rw [es]
    clear es
    generalize ((xs.map (·.data.toList)).mergeSort fun x y => decide (x ≤ y)) = s1 at h1 h2 ⊢
    have H1 : Aside0 _ := Aside0.mk h1
    have H2 : Aside0 _ := Aside0.mk h2
    clear h1 h2 ho hH hv hb hl
    generalize hnn : xs.length = nn at *
    clear hnn
    go_enter Try.func36, Try.ntmps36
    go_wp2_with (first
      | (go_at_call 67; refine H1.out.mono ?_; rintro e w1 ⟨rfl, a1, a2⟩; have N1 : Aside0 _ := Aside0.mk (show _ ∧ _ from ⟨a1, a2⟩); clear a1 a2)
      | (go_at_call 68; refine (H2.out _ N1.out.1 N1.out.2).mono ?_; rintro e w2 ⟨v1, rfl, a1, a2⟩; have N2 : Aside0 _ := Aside0.mk (show _ ∧ _ from ⟨a1, a2⟩); clear a1 a2))
    go_ret
    refine ⟨_, rfl, Kd.R_of_own (h1 := fun _ => rfl) ?_ (fun _ _ => trivial), N2.out.2⟩
    have := N2.out.1
    rw [← encs_back] at this
    simpa [encs] using this
def impl_Columns.f (k : Nat) (a : Int) (t : ByteArray) (m : Int) (l : List S26) : Option (List ByteArray) := (colsF k a t l []).bind fun xs => if xs.length * 16 ≤ 140737488355328 then some (sortedB xs) else none
set_option maxHeartbeats 2000000 in
theorem impl_Columns.calls (k : Nat) (a0_0 : Int) (a0_1 : ByteArray) (a0_2 : Int) (A0_3 : Option Addr) (c0_3 : Nat) (l0_3 : List S26) (r : List ByteArray) (w : World) (hr0_3 : Kd.C k26 w A0_3 l0_3.length l0_3) (hc0_3 : l0_3.length ≤ c0_3) (h : impl_Columns.f k a0_0 a0_1 a0_2 l0_3 = some r) :
    Calls Try.prog 10 #[.agg #[.int .i64 a0_0, .string a0_1, .int .i64 a0_2, .slice A0_3 l0_3.length c0_3]] w fun e w' => ∃ v0_ : Value, e = .returned v0_ ∧ Kd.R Kd.string 9 w' w.heap.size (fun _ => True) v0_ r ∧ Below w.heap.size w w' := by
  unfold impl_Columns.f at h
  obtain ⟨xs, hx, h⟩ := Option.bind_eq_some_iff.1 h
  by_cases hl : xs.length * 16 ≤ 140737488355328
  case neg => rw [if_neg hl] at h; cases h
  rw [if_pos hl] at h
  obtain rfl := Option.some.inj h
  have HX : Aside0 _ := Aside0.mk (show _ ∧ _ ∧ _ ∧ _ from ⟨hr0_3, hc0_3, hx, hl⟩)
  clear hr0_3 hc0_3 hx hl h
  go_enter Try.func10, Try.ntmps10
  go_wp2_with (first
    | ((with_reducible refine gate_dst (N := 1) rfl ?_); refine box_event ?hg (N := 1) ?hd (cs := #[.int .i64 a0_0, .string a0_1, .int .i64 a0_2, .slice A0_3 l0_3.length c0_3]) (t := 26) ?hr ?_; (case hd => rfl); (case hg => rfl); (case hr => first | (go_simp; done) | (go_simp; rfl)); intro g1 hg w1 hbox hb; have czg1w1_0 : w1.cell? ⟨g1, 0, none⟩ = some (.int .i64 a0_0) := (blk_cell hbox 0).trans rfl; have fzg1w1_0 := blk_frozen hbox 0; have czg1w1_1 : w1.cell? ⟨g1, 1, none⟩ = some (.string a0_1) := (blk_cell hbox 1).trans rfl; have fzg1w1_1 := blk_frozen hbox 1; have czg1w1_2 : w1.cell? ⟨g1, 2, none⟩ = some (.int .i64 a0_2) := (blk_cell hbox 2).trans rfl; have fzg1w1_2 := blk_frozen hbox 2; have czg1w1_3 : w1.cell? ⟨g1, 3, none⟩ = some (.slice A0_3 l0_3.length c0_3) := (blk_cell hbox 3).trans rfl; have fzg1w1_3 := blk_frozen hbox 3; have N1 := Aside0.mk hb; clear hb hbox hg)
    | (go_at_call 37; refine (columns.all k w a0_0 a0_1 a0_2 A0_3 c0_3 l0_3 (.slice none 0 0) [] xs _ HX.out.1 HX.out.2.1 N1.out (Kd.R_nil _ _ _ _ _) HX.out.2.2.1).mono ?_; rintro e w2 ⟨v2, rfl, a1, a2⟩; have N2 : Aside0 _ := Aside0.mk (show _ ∧ _ from ⟨a1, a2⟩); clear a1 a2)
    | (go_at_call 36; refine (rising.calls w _ v2 xs N2.out.1 N2.out.2 HX.out.2.2.2).mono ?_; rintro e w3 ⟨v3, rfl, a1, a2⟩; have N3 : Aside0 _ := Aside0.mk (show _ ∧ _ from ⟨a1, a2⟩); clear a1 a2))
  go_ret
  exact ⟨_, rfl, N3.out.1, N3.out.2⟩
end Go.Proofs.Ythkepfodengceaa.Q
