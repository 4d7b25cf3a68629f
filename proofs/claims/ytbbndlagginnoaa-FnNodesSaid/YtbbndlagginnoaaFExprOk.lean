/- impl.ExprOk: the walk of impl.isExpr, its closure and slices.ContainsFunc over the kids. -/
import Derived.Test.YtbbndlagginnoaaQ22
import Derived.Test.YtbbndlagginnoaaQ0
namespace Go.Proofs.Ytbbndlagginnoaa.Q
open Go Go.RowKit Go.Lib Go.Proofs.YtbbndlagginnoaaW.PrintWords Go.Proofs.YtbbndlagginnoaaW.PrintLast Go.Proofs.YtbbndlagginnoaaW.PrintMore
set_option linter.unusedVariables false
set_option linter.unusedSimpArgs false
/-- Is a node (its kids aside) made as a node of its kind may be? -/
def nodeOk (a : Int) (t : ByteArray) (m : Int) (n : Nat) : Option Bool :=
  if ¬ (0 ≤ a ∧ a ≤ 18) then some false else
  (impl_kidsOf.f a).bind fun q => if ¬ ((n : Int) = q) then some false else
  (if a = 0 then impl_NameOk.f t else some true).bind fun b => if b = false then some false else
  if a = 2 ∧ t.size > 100 then some false else
  if a ≠ 0 ∧ a ≠ 2 ∧ ¬ (t.toList = []) then some false else
  if a = 1 ∧ ¬ (0 ≤ m ∧ m ≤ 999999999) then some false else
  if a ≠ 1 ∧ m ≠ 0 then some false else some true
mutual
def isExprAny : Nat → List S40 → Int → Option (Bool × Int)
  | 0, _, _ => none
  | _ + 1, [], n => some (false, n)
  | k + 1, x :: l, n => (isExprF k x.f0 x.f1 x.f2 x.f3 n).bind fun r => if r.1 = true then isExprAny k l r.2 else some (true, r.2)
def isExprF : Nat → Int → ByteArray → Int → List S40 → Int → Option (Bool × Int)
  | 0, _, _, _, _, _ => none
  | k + 1, a, t, m, l, n => if n - 1 < 0 then some (false, n - 1) else (nodeOk a t m l.length).bind fun b => if b = false then some (false, n - 1) else (isExprAny k l (n - 1)).bind fun r => some (!r.1, r.2)
end
theorem isExpr_range : ∀ k, (∀ l n r, isExprAny k l n = some r → 0 ≤ n → -1 ≤ r.2 ∧ r.2 ≤ n ∧ (r.1 = false → 0 ≤ r.2)) ∧ (∀ a t m l n r, isExprF k a t m l n = some r → 0 ≤ n → -1 ≤ r.2 ∧ r.2 ≤ n ∧ (r.1 = true → 0 ≤ r.2)) := by
  intro k
  induction k with
  | zero => exact ⟨fun l n r h => by simp [isExprAny] at h, fun a t m l n r h => by simp [isExprF] at h⟩
  | succ k ih =>
    constructor
    · intro l n r h h0
      cases l with
      | nil =>
        simp only [isExprAny, Option.some.injEq] at h
        subst h
        exact ⟨by show -1 ≤ n; omega, Int.le_refl n, fun _ => h0⟩
      | cons x l =>
        simp only [isExprAny] at h
        obtain ⟨q, hq, h⟩ := Option.bind_eq_some_iff.1 h
        obtain ⟨a1, a2, a3⟩ := ih.2 _ _ _ _ _ _ hq h0
        by_cases hr : q.1 = true
        · rw [if_pos hr] at h
          obtain ⟨b1, b2, b3⟩ := ih.1 _ _ _ h (a3 hr)
          exact ⟨b1, by omega, b3⟩
        · rw [if_neg hr] at h
          obtain rfl := Option.some.inj h
          exact ⟨a1, a2, fun e => by cases e⟩
    · intro a t m l n r h h0
      simp only [isExprF] at h
      by_cases h1 : n - 1 < 0
      · rw [if_pos h1] at h
        obtain rfl := Option.some.inj h
        exact ⟨by show -1 ≤ n - 1; omega, by show n - 1 ≤ n; omega, fun e => by cases e⟩
      · rw [if_neg h1] at h
        obtain ⟨b, hb, h⟩ := Option.bind_eq_some_iff.1 h
        by_cases hb2 : b = false
        · rw [if_pos hb2] at h
          obtain rfl := Option.some.inj h
          exact ⟨by show -1 ≤ n - 1; omega, by show n - 1 ≤ n; omega, fun e => by cases e⟩
        · rw [if_neg hb2] at h
          obtain ⟨q, hq, h⟩ := Option.bind_eq_some_iff.1 h
          obtain ⟨c1, c2, c3⟩ := ih.1 _ _ _ hq (by omega)
          obtain rfl := Option.some.inj h
          exact ⟨c1, by show q.2 ≤ n; omega, fun e => c3 (by simpa using e)⟩

abbrev isExpr.S (k : Nat) : Prop := ∀ (w0 : World) (a : Int) (t : ByteArray) (m : Int) (A : Option Addr) (c : Nat) (l : List S40) (n n' : Int) (r : Bool) (w : World) (B : Nat) (hC : Kd.C k40 w0 A l.length l) (hc : l.length ≤ c) (hb : Below w0.heap.size w0 w) (hg : w0.heap.size ≤ B) (hB : w.heap[B]? = some (.cells #[.int .i64 n] 3 (0, 0))) (h0 : 0 ≤ n) (h1 : n ≤ 40) (h : isExprF k a t m l n = some (r, n')),
    Calls Try.prog 71 #[.agg #[.int .i64 a, .string t, .int .i64 m, .slice A l.length c], .pointer (some ⟨B, 0, none⟩)] w fun e w' => e = .returned (.bool r) ∧ Below w0.heap.size w0 w' ∧ KeepBut w w' B none ∧ w'.heap[B]? = some (.cells #[.int .i64 n'] 3 (0, 0))
theorem C_from {w0 w : World} {A : Option Addr} {n : Nat} {l : List S40} (h : Kd.C k40 w0 A n l) (hb : Below w0.heap.size w0 w) : Kd.C k40 w A n l := Kd.C_below h hb

set_option maxHeartbeats 2000000 in
theorem isExpr1.calls (k : Nat) (ih : isExpr.S k) (w0 : World) (x : S40) (A : Option Addr) (c : Nat) (n n' : Int) (r : Bool) (w : World) (B P : Nat) (hC : Kd.C k40 w0 A x.f3.length x.f3) (hc : x.f3.length ≤ c) (hb : Below w0.heap.size w0 w) (hg : w0.heap.size ≤ B) (hB : w.heap[B]? = some (.cells #[.int .i64 n] 3 (0, 0))) (h0 : 0 ≤ n) (h1 : n ≤ 40)
    (hP : w.heap[P]? = some (.cells #[.pointer (some ⟨B, 0, none⟩)] 71 (0, 0))) (h : isExprF k x.f0 x.f1 x.f2 x.f3 n = some (r, n')) :
    Calls Try.prog 92 #[.agg #[.int .i64 x.f0, .string x.f1, .int .i64 x.f2, .slice A x.f3.length c], .pointer (some ⟨P, 0, none⟩)] w fun e w' => e = .returned (.bool (!r)) ∧ Below w0.heap.size w0 w' ∧ KeepBut w w' B none ∧ w'.heap[B]? = some (.cells #[.int .i64 n'] 3 (0, 0)) := by
  have HX : Aside0 _ := Aside0.mk (show _ ∧ _ ∧ _ ∧ _ ∧ _ ∧ _ ∧ _ ∧ _ ∧ _ from ⟨hC, hc, hb, hg, hB, h0, h1, hP, h⟩)
  clear hC hc hb hg hB h0 h1 hP h
  go_enter Try.func92, Try.ntmps92
  go_wp2_with (first
    | ((with_reducible refine gate_dst (N := 2) rfl ?_); refine box_event ?hg (N := 2) ?hd (cs := #[.int .i64 x.f0, .string x.f1, .int .i64 x.f2, .slice A x.f3.length c]) (t := 40) ?hr ?_; (case hd => rfl); (case hg => rfl); (case hr => first | (go_simp; done) | (go_simp; rfl)); intro g2 hg w2 hbox hb; have czg2w2_0 : w2.cell? ⟨g2, 0, none⟩ = some (.int .i64 x.f0) := (blk_cell hbox 0).trans rfl; have fzg2w2_0 := blk_frozen hbox 0; have czg2w2_1 : w2.cell? ⟨g2, 1, none⟩ = some (.string x.f1) := (blk_cell hbox 1).trans rfl; have fzg2w2_1 := blk_frozen hbox 1; have czg2w2_2 : w2.cell? ⟨g2, 2, none⟩ = some (.int .i64 x.f2) := (blk_cell hbox 2).trans rfl; have fzg2w2_2 := blk_frozen hbox 2; have czg2w2_3 : w2.cell? ⟨g2, 3, none⟩ = some (.slice A x.f3.length c) := (blk_cell hbox 3).trans rfl; have fzg2w2_3 := blk_frozen hbox 3; have czP : w2.cell? ⟨P, 0, none⟩ = some (.pointer (some ⟨B, 0, none⟩)) := (blk_cell (blk_below HX.out.2.2.2.2.2.2.2.1 hb) 0).trans rfl; have N2 := Aside0.mk hb; clear hb hbox hg)
    | (go_at_call 71; obtain ⟨hC, hc, hb0, hg0, hB, h0, h1, hP, h⟩ := HX.out; refine (ih w0 x.f0 x.f1 x.f2 A c x.f3 n n' r _ B hC hc (below_step hb0 N2.out) hg0 (blk_below hB N2.out) h0 h1 h).mono ?_; rintro e w3 ⟨rfl, a1, a2, a3⟩; have M : Aside0 _ := Aside0.mk (show _ ∧ _ ∧ _ from ⟨a1, (KeepBut.of_below N2.out B none).trans a2 (.inl rfl), a3⟩); clear a1 a2 a3 hC hc hb0 hg0 hB h0 h1 hP h))
  go_ret
  exact ⟨rfl, M.out.1, M.out.2.1, M.out.2.2⟩

set_option maxHeartbeats 4000000 in
theorem isExprIdx (k : Nat) (ih : ∀ j, j < k → isExpr.S j) (w0 : World) (A : Option Addr) (c : Nat) (l : List S40) (n n' : Int) (r : Bool) (w : World) (B P : Nat) (hC : Kd.C k40 w0 A l.length l) (hc : l.length ≤ c) (hb : Below w0.heap.size w0 w) (hg : w0.heap.size ≤ B) (hB : w.heap[B]? = some (.cells #[.int .i64 n] 3 (0, 0))) (h0 : 0 ≤ n) (h1 : n ≤ 40)
    (hP : w.heap[P]? = some (.cells #[.pointer (some ⟨B, 0, none⟩)] 71 (0, 0))) (hPB : P ≠ B) (h : isExprAny k l n = some (r, n')) :
    Calls Try.prog 101 #[.slice A l.length c, .func (.func 92) #[] #[.pointer (some ⟨P, 0, none⟩)]] w fun e w' => ∃ i : Int, e = .returned (.int .i64 i) ∧ decide (0 ≤ i) = r ∧ Below w0.heap.size w0 w' ∧ KeepBut w w' B none ∧ w'.heap[B]? = some (.cells #[.int .i64 n'] 3 (0, 0)) := by
  have hmax : l.length ≤ 9223372036854775807 := hC.2.1
  have HX : Aside0 _ := Aside0.mk (show _ ∧ _ ∧ _ ∧ _ ∧ _ ∧ _ ∧ _ ∧ _ ∧ _ ∧ _ ∧ _ from ⟨hC, hc, hb, hg, hB, h0, h1, hP, hPB, h, hmax⟩)
  clear hC hc hb hg hB h0 h1 hP hPB h hmax
  have hu := Try.underlying40
  go_enter Try.func101, Try.ntmps101
  go_wp2_with fail
  go_loopg [5, 8] k (fun kq _ s8 wr => ∃ (v : Int), s8 = .int .i64 v ∧ Aside0 (∃ (j : Nat) (m : Int), v = (j : Int) ∧ j ≤ l.length ∧ kq ≤ k ∧ isExprAny kq (l.drop j) m = some (r, n') ∧ 0 ≤ m ∧ m ≤ 40 ∧ Below w0.heap.size w0 wr ∧ KeepBut w wr B none ∧ wr.heap[B]? = some (.cells #[.int .i64 m] 3 (0, 0))))
  case atStart => exact ⟨0, rfl, ⟨0, n, rfl, Nat.zero_le _, Nat.le_refl _, by rw [List.drop_zero]; exact HX.out.2.2.2.2.2.2.2.2.2.1, HX.out.2.2.2.2.2.1, HX.out.2.2.2.2.2.2.1, HX.out.2.2.1, KeepBut.refl w B none, HX.out.2.2.2.2.1⟩⟩
  case round =>
    obtain ⟨v, rfl, HR⟩ := hrel
    obtain ⟨j, m, hv, hj, hk, he, m0, m1, hbw, hkw, hBw⟩ := HR.out
    clear HR
    cases gk with
    | zero => exact absurd he (by simp [isExprAny])
    | succ k1 =>
      by_cases hjl : j < l.length
      · rw [List.drop_eq_getElem_cons hjl] at he
        simp only [isExprAny] at he
        have he0 := he
        clear he
        obtain ⟨⟨q, m2⟩, hq, he⟩ := Option.bind_eq_some_iff.1 he0
        clear he0
        obtain ⟨r1, r2, r3⟩ := (isExpr_range k1).2 _ _ _ _ _ _ hq m0
        have hel : l[j] = rd_T40 l v := by
          subst hv
          unfold rd_T40
          rw [Int.toNat_natCast, List.getD_eq_getElem?_getD, List.getElem?_eq_getElem hjl]
          rfl
        rw [hel] at hq
        have p1 : 0 ≤ v := by omega
        have q1 : v < (l.length : Int) := by omega
        have d1 : decide (v < (l.length : Int)) = true := decide_eq_true q1
        have d2 : decide (0 ≤ v) = true := decide_eq_true p1
        obtain ⟨ad, A3, c3, e3, hx0, hx1, hx2, hx3, hl3, hi3⟩ := at_T40 HX.out.1 v p1 q1
        cases e3
        replace hx0 := (hbw.cell (World.block_lt_of_cell? w0 _ hx0)).trans hx0
        replace hx1 := (hbw.cell (World.block_lt_of_cell? w0 _ hx1)).trans hx1
        replace hx2 := (hbw.cell (World.block_lt_of_cell? w0 _ hx2)).trans hx2
        replace hx3 := (hbw.cell (World.block_lt_of_cell? w0 _ hx3)).trans hx3
        have hPw : wr.heap[P]? = some (.cells #[.pointer (some ⟨B, 0, none⟩)] 71 (0, 0)) := (hkw.2 P (blk_lt HX.out.2.2.2.2.2.2.2.1) HX.out.2.2.2.2.2.2.2.2.1 (by simp)).trans HX.out.2.2.2.2.2.2.2.1
        have HY : Aside0 _ := Aside0.mk (show _ ∧ _ ∧ _ ∧ _ ∧ _ ∧ _ ∧ _ ∧ _ ∧ _ ∧ _ ∧ _ ∧ _ from ⟨hi3, hl3, hbw, hBw, m0, m1, hPw, hq, hkw, hk, hv, hjl⟩)
        have HQ : Aside0 _ := Aside0.mk (show _ ∧ _ ∧ _ from ⟨r1, r2, r3⟩)
        have HE : Aside0 _ := Aside0.mk he
        clear hi3 hl3 hbw hBw m0 m1 hPw hq hkw hk r1 r2 r3 he hel hv
        clear hj hjl
        replace p1 := eq_true p1
        replace q1 := eq_true q1
        cases q with
        | true =>
          have HE1 : Aside0 (isExprAny k1 (l.drop (j + 1)) m2 = some (r, n') ∧ 0 ≤ m2 ∧ m2 ≤ m) := ⟨by have := HE.out; rwa [if_pos rfl] at this, HQ.out.2.2 rfl, HQ.out.2.1⟩
          clear HE HQ
          go_wp2_with (first
            | (go_at_call 92; obtain ⟨hi3, hl3, hbw, hBw, m0, m1, hPw, hq, hkw, hk, hv, hjl⟩ := HY.out; refine (isExpr1.calls k1 (ih k1 (by omega)) w0 (rd_T40 l v) A3 c3 m m2 true _ B P hi3 hl3 hbw HX.out.2.2.2.1 hBw m0 m1 hPw hq).mono ?_; rintro e w2 ⟨rfl, a1, a2, a3⟩; have HN : Aside0 _ := Aside0.mk (show _ ∧ _ ∧ _ from ⟨a1, hkw.trans a2 (.inl rfl), a3⟩); clear a1 a2 a3 hi3 hl3 hbw hBw m0 m1 hPw hq hkw hk hv hjl))
          go_roundg k1
          case measure => exact Nat.lt_succ_self _
          case rel =>
            obtain ⟨hi3, hl3, hbw, hBw, m0, m1, hPw, hq, hkw, hk, hv, hjl⟩ := HY.out
            have hmax := HX.out.2.2.2.2.2.2.2.2.2.2
            exact ⟨wrap64 (v + 1), rfl, ⟨j + 1, m2, by unfold wrap64; omega, by omega, by omega, HE1.out.1, HE1.out.2.1, Int.le_trans HE1.out.2.2 m1, HN.out.1, HN.out.2.1, HN.out.2.2⟩⟩
        | false =>
          obtain ⟨e1, e2⟩ := Prod.mk.inj (Option.some.inj (show some (true, m2) = some (r, n') by have := HE.out; rwa [if_neg (by simp)] at this))
          subst e1
          subst e2
          go_wp2_with (first
            | (go_at_call 92; obtain ⟨hi3, hl3, hbw, hBw, m0, m1, hPw, hq, hkw, hk, hv, hjl⟩ := HY.out; refine (isExpr1.calls k1 (ih k1 (by omega)) w0 (rd_T40 l v) A3 c3 m m2 false _ B P hi3 hl3 hbw HX.out.2.2.2.1 hBw m0 m1 hPw hq).mono ?_; rintro e w2 ⟨rfl, a1, a2, a3⟩; have HN : Aside0 _ := Aside0.mk (show _ ∧ _ ∧ _ from ⟨a1, hkw.trans a2 (.inl rfl), a3⟩); clear a1 a2 a3 hi3 hl3 hbw hBw m0 m1 hPw hq hkw hk hv hjl))
          go_ret
          exact ⟨v, rfl, d2, HN.out.1, HN.out.2.1, HN.out.2.2⟩
      · rw [List.drop_eq_nil_of_le (by omega)] at he
        simp only [isExprAny, Option.some.injEq, Prod.mk.injEq] at he
        obtain ⟨e1, e2⟩ := he
        subst e1
        subst e2
        have d1 : decide (v < (l.length : Int)) = false := decide_eq_false (by omega)
        have HN : Aside0 _ := Aside0.mk (show _ ∧ _ ∧ _ from ⟨hbw, hkw, hBw⟩)
        clear hbw hkw hBw hk hj hjl m0 m1 hv
        go_wp2_with fail
        go_ret
        exact ⟨-1, rfl, rfl, HN.out.1, HN.out.2.1, HN.out.2.2⟩
theorem isExprContains (k : Nat) (ih : ∀ j, j < k → isExpr.S j) (w0 : World) (A : Option Addr) (c : Nat) (l : List S40) (n n' : Int) (r : Bool) (w : World) (B P : Nat) (hC : Kd.C k40 w0 A l.length l) (hc : l.length ≤ c) (hb : Below w0.heap.size w0 w) (hg : w0.heap.size ≤ B) (hB : w.heap[B]? = some (.cells #[.int .i64 n] 3 (0, 0))) (h0 : 0 ≤ n) (h1 : n ≤ 40)
    (hP : w.heap[P]? = some (.cells #[.pointer (some ⟨B, 0, none⟩)] 71 (0, 0))) (hPB : P ≠ B) (h : isExprAny k l n = some (r, n')) :
    Calls Try.prog 91 #[.slice A l.length c, .func (.func 92) #[] #[.pointer (some ⟨P, 0, none⟩)]] w fun e w' => e = .returned (.bool r) ∧ Below w0.heap.size w0 w' ∧ KeepBut w w' B none ∧ w'.heap[B]? = some (.cells #[.int .i64 n'] 3 (0, 0)) := by
  have HI : Aside0 _ := Aside0.mk (isExprIdx k ih w0 A c l n n' r w B P hC hc hb hg hB h0 h1 hP hPB h)
  clear hC hc hb hg hB h0 h1 hP hPB h
  go_enter Try.func91, Try.ntmps91
  go_wp2_with (first
    | (go_at_call 101; refine HI.out.mono ?_; rintro e w' ⟨i, rfl, hi, a1, a2, a3⟩; have HN : Aside0 _ := Aside0.mk (show _ ∧ _ ∧ _ ∧ _ from ⟨hi, a1, a2, a3⟩); clear hi a1 a2 a3))
  go_ret
  exact ⟨by rw [← HN.out.1]; rfl, HN.out.2.1, HN.out.2.2.1, HN.out.2.2.2⟩
set_option maxHeartbeats 4000000 in
theorem isExpr.caseA (w0 : World) (a : Int) (t : ByteArray) (m : Int) (A : Option Addr) (c : Nat) (l : List S40) (n n2 : Int) (w : World) (B : Nat) (hC : Kd.C k40 w0 A l.length l) (hc : l.length ≤ c) (hb : Below w0.heap.size w0 w) (hg : w0.heap.size ≤ B) (hB : w.heap[B]? = some (.cells #[.int .i64 n] 3 (0, 0))) (hwr : wrap64 (n - 1) = n2) (hn : decide (n2 < 0) = true) :
    Calls Try.prog 71 #[.agg #[.int .i64 a, .string t, .int .i64 m, .slice A l.length c], .pointer (some ⟨B, 0, none⟩)] w fun e w' => e = .returned (.bool (false)) ∧ Below w0.heap.size w0 w' ∧ KeepBut w w' B none ∧ w'.heap[B]? = some (.cells #[.int .i64 n2] 3 (0, 0)) := by
  have HX : Aside0 _ := Aside0.mk (show _ ∧ _ ∧ _ ∧ _ ∧ _ from ⟨hC, hc, hb, hg, hB⟩)
  clear hC hc hb hg hB
  go_enter Try.func71, Try.ntmps71
  go_wp2_with (first
    | ((with_reducible refine gate_dst (N := 2) rfl ?_); refine box_event ?hg (N := 2) ?hd (cs := #[.int .i64 a, .string t, .int .i64 m, .slice A l.length c]) (t := 40) ?hr ?_; (case hd => rfl); (case hg => rfl); (case hr => first | (go_simp; done) | (go_simp; rfl)); intro g2 hg w2 hbox hb; have N2 : Aside0 _ := Aside0.mk (show _ ∧ _ ∧ _ from ⟨hb, hbox, (by have h1_ := blk_lt HX.out.2.2.2.2; omega : g2 ≠ B)⟩); clear hb hbox hg)
    | ((with_reducible refine gate_dst (N := 3) rfl ?_); refine box_event ?hg (N := 3) ?hd (cs := #[.pointer (some ⟨B, 0, none⟩)]) (t := 71) ?hr ?_; (case hd => rfl); (case hg => rfl); (case hr => first | (go_simp; done) | (go_simp; rfl)); intro g3 hg w3 hbox hb; have czb : w3.cell? ⟨B, 0, none⟩ = some (.int .i64 n) := (blk_cell (blk_below (blk_below HX.out.2.2.2.2 N2.out.1) hb) 0).trans rfl; have fzb := blk_frozen (blk_below (blk_below HX.out.2.2.2.2 N2.out.1) hb) 0; have czp : w3.cell? ⟨g3, 0, none⟩ = some (.pointer (some ⟨B, 0, none⟩)) := (blk_cell hbox 0).trans rfl; have N3 : Aside0 _ := Aside0.mk (show _ ∧ _ ∧ _ ∧ _ from ⟨hb, hbox, blk_below N2.out.2.1 hb, (by have h1_ := blk_lt (blk_below HX.out.2.2.2.2 N2.out.1); omega : g3 ≠ B)⟩); clear hb hbox hg)
    | ((with_reducible refine gate_store (t := 3) (p := 9) (v := .tmp 8) rfl ?_); refine store_event (t := 3) (p := 9) (v := .tmp 8) (w1 := w3.setCell ⟨B, 0, none⟩ (.int .i64 n2)) ?hg ?ho ?hn ?hr ?_; (case ho => rfl); (case hg => rfl); (case hn => rfl); (case hr => first | (go_simp; done) | (go_simp; rfl)); intro w4 hw; have x2 : w4.heap[g2]? = some (.cells #[.int .i64 a, .string t, .int .i64 m, .slice A l.length c] 40 (0, 0)) := (by rw [hw]; exact blk_far N3.out.2.2.1 N2.out.2.2 _); have x3 : w4.heap[g3]? = some (.cells #[.pointer (some ⟨B, 0, none⟩)] 71 (0, 0)) := (by rw [hw]; exact blk_far N3.out.2.1 N3.out.2.2.2 _); have xb : w4.heap[B]? = some (.cells #[.int .i64 n2] 3 (0, 0)) := (by rw [hw]; exact blk_put (blk_below (blk_below HX.out.2.2.2.2 N2.out.1) N3.out.1) 0 _ rfl); have xl : Below w0.heap.size w0 w4 := (by rw [hw]; exact below_set (below_step (below_step HX.out.2.2.1 N2.out.1) N3.out.1) HX.out.2.2.2.1); have xk : KeepBut w w4 B none := (by rw [hw]; exact KeepBut.set_ ((KeepBut.of_below N2.out.1 B none).trans (KeepBut.of_below N3.out.1 B none) (.inl rfl)) 0 _); have N4 : Aside0 _ := Aside0.mk (show _ ∧ _ ∧ _ ∧ _ from ⟨xl, xk, xb, x3⟩); have ybl : w4.cell? ⟨B, 0, none⟩ = some (.int .i64 n2) := (blk_cell xb 0).trans rfl; have yp : w4.cell? ⟨g3, 0, none⟩ = some (.pointer (some ⟨B, 0, none⟩)) := (blk_cell x3 0).trans rfl; have czg2w4_0 : w4.cell? ⟨g2, 0, none⟩ = some (.int .i64 a) := (blk_cell x2 0).trans rfl; have fzg2w4_0 := blk_frozen x2 0; have czg2w4_1 : w4.cell? ⟨g2, 1, none⟩ = some (.string t) := (blk_cell x2 1).trans rfl; have fzg2w4_1 := blk_frozen x2 1; have czg2w4_2 : w4.cell? ⟨g2, 2, none⟩ = some (.int .i64 m) := (blk_cell x2 2).trans rfl; have fzg2w4_2 := blk_frozen x2 2; have czg2w4_3 : w4.cell? ⟨g2, 3, none⟩ = some (.slice A l.length c) := (blk_cell x2 3).trans rfl; have fzg2w4_3 := blk_frozen x2 3; clear xl xk xb x2 x3 hw))
  go_quiet (fail)
  go_wp2_with fail
  go_ret
  exact ⟨rfl, by repeat (first | exact N4.out.1 | (with_reducible refine pw_below_drewN ?_ _)), by repeat (first | exact N4.out.2.1 | (with_reducible refine keep_drewN ?_ _)), by repeat (first | exact N4.out.2.2.1 | (with_reducible refine blk_drewN ?_ _))⟩
set_option maxHeartbeats 4000000 in
theorem isExpr.caseB (w0 : World) (a : Int) (t : ByteArray) (m : Int) (A : Option Addr) (c : Nat) (l : List S40) (n n2 : Int) (w : World) (B : Nat) (hC : Kd.C k40 w0 A l.length l) (hc : l.length ≤ c) (hb : Below w0.heap.size w0 w) (hg : w0.heap.size ≤ B) (hB : w.heap[B]? = some (.cells #[.int .i64 n] 3 (0, 0))) (hwr : wrap64 (n - 1) = n2) (hn : decide (n2 < 0) = false) (hW : impl_within.f a 0 18 = some false) :
    Calls Try.prog 71 #[.agg #[.int .i64 a, .string t, .int .i64 m, .slice A l.length c], .pointer (some ⟨B, 0, none⟩)] w fun e w' => e = .returned (.bool (false)) ∧ Below w0.heap.size w0 w' ∧ KeepBut w w' B none ∧ w'.heap[B]? = some (.cells #[.int .i64 n2] 3 (0, 0)) := by
  have HX : Aside0 _ := Aside0.mk (show _ ∧ _ ∧ _ ∧ _ ∧ _ from ⟨hC, hc, hb, hg, hB⟩)
  clear hC hc hb hg hB
  replace hW : Aside0 _ := Aside0.mk hW
  go_enter Try.func71, Try.ntmps71
  go_wp2_with (first
    | ((with_reducible refine gate_dst (N := 2) rfl ?_); refine box_event ?hg (N := 2) ?hd (cs := #[.int .i64 a, .string t, .int .i64 m, .slice A l.length c]) (t := 40) ?hr ?_; (case hd => rfl); (case hg => rfl); (case hr => first | (go_simp; done) | (go_simp; rfl)); intro g2 hg w2 hbox hb; have N2 : Aside0 _ := Aside0.mk (show _ ∧ _ ∧ _ from ⟨hb, hbox, (by have h1_ := blk_lt HX.out.2.2.2.2; omega : g2 ≠ B)⟩); clear hb hbox hg)
    | ((with_reducible refine gate_dst (N := 3) rfl ?_); refine box_event ?hg (N := 3) ?hd (cs := #[.pointer (some ⟨B, 0, none⟩)]) (t := 71) ?hr ?_; (case hd => rfl); (case hg => rfl); (case hr => first | (go_simp; done) | (go_simp; rfl)); intro g3 hg w3 hbox hb; have czb : w3.cell? ⟨B, 0, none⟩ = some (.int .i64 n) := (blk_cell (blk_below (blk_below HX.out.2.2.2.2 N2.out.1) hb) 0).trans rfl; have fzb := blk_frozen (blk_below (blk_below HX.out.2.2.2.2 N2.out.1) hb) 0; have czp : w3.cell? ⟨g3, 0, none⟩ = some (.pointer (some ⟨B, 0, none⟩)) := (blk_cell hbox 0).trans rfl; have N3 : Aside0 _ := Aside0.mk (show _ ∧ _ ∧ _ ∧ _ from ⟨hb, hbox, blk_below N2.out.2.1 hb, (by have h1_ := blk_lt (blk_below HX.out.2.2.2.2 N2.out.1); omega : g3 ≠ B)⟩); clear hb hbox hg)
    | ((with_reducible refine gate_store (t := 3) (p := 9) (v := .tmp 8) rfl ?_); refine store_event (t := 3) (p := 9) (v := .tmp 8) (w1 := w3.setCell ⟨B, 0, none⟩ (.int .i64 n2)) ?hg ?ho ?hn ?hr ?_; (case ho => rfl); (case hg => rfl); (case hn => rfl); (case hr => first | (go_simp; done) | (go_simp; rfl)); intro w4 hw; have x2 : w4.heap[g2]? = some (.cells #[.int .i64 a, .string t, .int .i64 m, .slice A l.length c] 40 (0, 0)) := (by rw [hw]; exact blk_far N3.out.2.2.1 N2.out.2.2 _); have x3 : w4.heap[g3]? = some (.cells #[.pointer (some ⟨B, 0, none⟩)] 71 (0, 0)) := (by rw [hw]; exact blk_far N3.out.2.1 N3.out.2.2.2 _); have xb : w4.heap[B]? = some (.cells #[.int .i64 n2] 3 (0, 0)) := (by rw [hw]; exact blk_put (blk_below (blk_below HX.out.2.2.2.2 N2.out.1) N3.out.1) 0 _ rfl); have xl : Below w0.heap.size w0 w4 := (by rw [hw]; exact below_set (below_step (below_step HX.out.2.2.1 N2.out.1) N3.out.1) HX.out.2.2.2.1); have xk : KeepBut w w4 B none := (by rw [hw]; exact KeepBut.set_ ((KeepBut.of_below N2.out.1 B none).trans (KeepBut.of_below N3.out.1 B none) (.inl rfl)) 0 _); have N4 : Aside0 _ := Aside0.mk (show _ ∧ _ ∧ _ ∧ _ from ⟨xl, xk, xb, x3⟩); have ybl : w4.cell? ⟨B, 0, none⟩ = some (.int .i64 n2) := (blk_cell xb 0).trans rfl; have yp : w4.cell? ⟨g3, 0, none⟩ = some (.pointer (some ⟨B, 0, none⟩)) := (blk_cell x3 0).trans rfl; have czg2w4_0 : w4.cell? ⟨g2, 0, none⟩ = some (.int .i64 a) := (blk_cell x2 0).trans rfl; have fzg2w4_0 := blk_frozen x2 0; have czg2w4_1 : w4.cell? ⟨g2, 1, none⟩ = some (.string t) := (blk_cell x2 1).trans rfl; have fzg2w4_1 := blk_frozen x2 1; have czg2w4_2 : w4.cell? ⟨g2, 2, none⟩ = some (.int .i64 m) := (blk_cell x2 2).trans rfl; have fzg2w4_2 := blk_frozen x2 2; have czg2w4_3 : w4.cell? ⟨g2, 3, none⟩ = some (.slice A l.length c) := (blk_cell x2 3).trans rfl; have fzg2w4_3 := blk_frozen x2 3; clear xl xk xb x2 x3 hw))
  go_quiet (first | (go_at_call 88; (with_reducible refine (impl_within.calls a 0 18 false _ hW.out).mono ?_); rintro e w_ ⟨rfl, ⟨nd, rfl⟩⟩; exact ⟨rfl, _, World.drewN_drewN _ _ _⟩))
  go_wp2_with fail
  go_ret
  exact ⟨rfl, by repeat (first | exact N4.out.1 | (with_reducible refine pw_below_drewN ?_ _)), by repeat (first | exact N4.out.2.1 | (with_reducible refine keep_drewN ?_ _)), by repeat (first | exact N4.out.2.2.1 | (with_reducible refine blk_drewN ?_ _))⟩
set_option maxHeartbeats 4000000 in
theorem isExpr.caseC (w0 : World) (a : Int) (t : ByteArray) (m : Int) (q : Int) (A : Option Addr) (c : Nat) (l : List S40) (n n2 : Int) (w : World) (B : Nat) (hC : Kd.C k40 w0 A l.length l) (hc : l.length ≤ c) (hb : Below w0.heap.size w0 w) (hg : w0.heap.size ≤ B) (hB : w.heap[B]? = some (.cells #[.int .i64 n] 3 (0, 0))) (hwr : wrap64 (n - 1) = n2) (hn : decide (n2 < 0) = false) (hW : impl_within.f a 0 18 = some true) (hK : impl_kidsOf.f a = some q) (h3 : ((l.length : Int) == q) = false) :
    Calls Try.prog 71 #[.agg #[.int .i64 a, .string t, .int .i64 m, .slice A l.length c], .pointer (some ⟨B, 0, none⟩)] w fun e w' => e = .returned (.bool (false)) ∧ Below w0.heap.size w0 w' ∧ KeepBut w w' B none ∧ w'.heap[B]? = some (.cells #[.int .i64 n2] 3 (0, 0)) := by
  have HX : Aside0 _ := Aside0.mk (show _ ∧ _ ∧ _ ∧ _ ∧ _ from ⟨hC, hc, hb, hg, hB⟩)
  clear hC hc hb hg hB
  replace hW : Aside0 _ := Aside0.mk hW
  replace hK : Aside0 _ := Aside0.mk hK
  go_enter Try.func71, Try.ntmps71
  go_wp2_with (first
    | ((with_reducible refine gate_dst (N := 2) rfl ?_); refine box_event ?hg (N := 2) ?hd (cs := #[.int .i64 a, .string t, .int .i64 m, .slice A l.length c]) (t := 40) ?hr ?_; (case hd => rfl); (case hg => rfl); (case hr => first | (go_simp; done) | (go_simp; rfl)); intro g2 hg w2 hbox hb; have N2 : Aside0 _ := Aside0.mk (show _ ∧ _ ∧ _ from ⟨hb, hbox, (by have h1_ := blk_lt HX.out.2.2.2.2; omega : g2 ≠ B)⟩); clear hb hbox hg)
    | ((with_reducible refine gate_dst (N := 3) rfl ?_); refine box_event ?hg (N := 3) ?hd (cs := #[.pointer (some ⟨B, 0, none⟩)]) (t := 71) ?hr ?_; (case hd => rfl); (case hg => rfl); (case hr => first | (go_simp; done) | (go_simp; rfl)); intro g3 hg w3 hbox hb; have czb : w3.cell? ⟨B, 0, none⟩ = some (.int .i64 n) := (blk_cell (blk_below (blk_below HX.out.2.2.2.2 N2.out.1) hb) 0).trans rfl; have fzb := blk_frozen (blk_below (blk_below HX.out.2.2.2.2 N2.out.1) hb) 0; have czp : w3.cell? ⟨g3, 0, none⟩ = some (.pointer (some ⟨B, 0, none⟩)) := (blk_cell hbox 0).trans rfl; have N3 : Aside0 _ := Aside0.mk (show _ ∧ _ ∧ _ ∧ _ from ⟨hb, hbox, blk_below N2.out.2.1 hb, (by have h1_ := blk_lt (blk_below HX.out.2.2.2.2 N2.out.1); omega : g3 ≠ B)⟩); clear hb hbox hg)
    | ((with_reducible refine gate_store (t := 3) (p := 9) (v := .tmp 8) rfl ?_); refine store_event (t := 3) (p := 9) (v := .tmp 8) (w1 := w3.setCell ⟨B, 0, none⟩ (.int .i64 n2)) ?hg ?ho ?hn ?hr ?_; (case ho => rfl); (case hg => rfl); (case hn => rfl); (case hr => first | (go_simp; done) | (go_simp; rfl)); intro w4 hw; have x2 : w4.heap[g2]? = some (.cells #[.int .i64 a, .string t, .int .i64 m, .slice A l.length c] 40 (0, 0)) := (by rw [hw]; exact blk_far N3.out.2.2.1 N2.out.2.2 _); have x3 : w4.heap[g3]? = some (.cells #[.pointer (some ⟨B, 0, none⟩)] 71 (0, 0)) := (by rw [hw]; exact blk_far N3.out.2.1 N3.out.2.2.2 _); have xb : w4.heap[B]? = some (.cells #[.int .i64 n2] 3 (0, 0)) := (by rw [hw]; exact blk_put (blk_below (blk_below HX.out.2.2.2.2 N2.out.1) N3.out.1) 0 _ rfl); have xl : Below w0.heap.size w0 w4 := (by rw [hw]; exact below_set (below_step (below_step HX.out.2.2.1 N2.out.1) N3.out.1) HX.out.2.2.2.1); have xk : KeepBut w w4 B none := (by rw [hw]; exact KeepBut.set_ ((KeepBut.of_below N2.out.1 B none).trans (KeepBut.of_below N3.out.1 B none) (.inl rfl)) 0 _); have N4 : Aside0 _ := Aside0.mk (show _ ∧ _ ∧ _ ∧ _ from ⟨xl, xk, xb, x3⟩); have ybl : w4.cell? ⟨B, 0, none⟩ = some (.int .i64 n2) := (blk_cell xb 0).trans rfl; have yp : w4.cell? ⟨g3, 0, none⟩ = some (.pointer (some ⟨B, 0, none⟩)) := (blk_cell x3 0).trans rfl; have czg2w4_0 : w4.cell? ⟨g2, 0, none⟩ = some (.int .i64 a) := (blk_cell x2 0).trans rfl; have fzg2w4_0 := blk_frozen x2 0; have czg2w4_1 : w4.cell? ⟨g2, 1, none⟩ = some (.string t) := (blk_cell x2 1).trans rfl; have fzg2w4_1 := blk_frozen x2 1; have czg2w4_2 : w4.cell? ⟨g2, 2, none⟩ = some (.int .i64 m) := (blk_cell x2 2).trans rfl; have fzg2w4_2 := blk_frozen x2 2; have czg2w4_3 : w4.cell? ⟨g2, 3, none⟩ = some (.slice A l.length c) := (blk_cell x2 3).trans rfl; have fzg2w4_3 := blk_frozen x2 3; clear xl xk xb x2 x3 hw))
  go_quiet (first | (go_at_call 88; (with_reducible refine (impl_within.calls a 0 18 true _ hW.out).mono ?_); rintro e w_ ⟨rfl, ⟨nd, rfl⟩⟩; exact ⟨rfl, _, World.drewN_drewN _ _ _⟩) | (go_at_call 89; (with_reducible refine (impl_kidsOf.calls a q _ hK.out).mono ?_); rintro e w_ ⟨rfl, ⟨nd, rfl⟩⟩; first | exact ⟨rfl, _, World.drewN_drewN _ _ _⟩ | exact ⟨rfl, _, Eq.trans (World.drewN_drewN _ _ _) (congrArg (World.drewN _) (Nat.add_assoc _ _ _))⟩))
  go_wp2_with fail
  go_ret
  exact ⟨rfl, by repeat (first | exact N4.out.1 | (with_reducible refine pw_below_drewN ?_ _)), by repeat (first | exact N4.out.2.1 | (with_reducible refine keep_drewN ?_ _)), by repeat (first | exact N4.out.2.2.1 | (with_reducible refine blk_drewN ?_ _))⟩
set_option maxHeartbeats 4000000 in
theorem isExpr.caseD0a (w0 : World) (t : ByteArray) (m : Int) (A : Option Addr) (c : Nat) (l : List S40) (n n2 : Int) (w : World) (B : Nat) (hC : Kd.C k40 w0 A l.length l) (hc : l.length ≤ c) (hb : Below w0.heap.size w0 w) (hg : w0.heap.size ≤ B) (hB : w.heap[B]? = some (.cells #[.int .i64 n] 3 (0, 0))) (hwr : wrap64 (n - 1) = n2) (hn : decide (n2 < 0) = false) (hW : impl_within.f 0 0 18 = some true) (hK : impl_kidsOf.f 0 = some (l.length : Int)) (hN : impl_NameOk.f t = some false) :
    Calls Try.prog 71 #[.agg #[.int .i64 0, .string t, .int .i64 m, .slice A l.length c], .pointer (some ⟨B, 0, none⟩)] w fun e w' => e = .returned (.bool (false)) ∧ Below w0.heap.size w0 w' ∧ KeepBut w w' B none ∧ w'.heap[B]? = some (.cells #[.int .i64 n2] 3 (0, 0)) := by
  have HX : Aside0 _ := Aside0.mk (show _ ∧ _ ∧ _ ∧ _ ∧ _ from ⟨hC, hc, hb, hg, hB⟩)
  clear hC hc hb hg hB
  replace hW : Aside0 _ := Aside0.mk hW
  replace hK : Aside0 _ := Aside0.mk hK
  replace hN : Aside0 _ := Aside0.mk hN
  go_enter Try.func71, Try.ntmps71
  go_wp2_with (first
    | ((with_reducible refine gate_dst (N := 2) rfl ?_); refine box_event ?hg (N := 2) ?hd (cs := #[.int .i64 0, .string t, .int .i64 m, .slice A l.length c]) (t := 40) ?hr ?_; (case hd => rfl); (case hg => rfl); (case hr => first | (go_simp; done) | (go_simp; rfl)); intro g2 hg w2 hbox hb; have N2 : Aside0 _ := Aside0.mk (show _ ∧ _ ∧ _ from ⟨hb, hbox, (by have h1_ := blk_lt HX.out.2.2.2.2; omega : g2 ≠ B)⟩); clear hb hbox hg)
    | ((with_reducible refine gate_dst (N := 3) rfl ?_); refine box_event ?hg (N := 3) ?hd (cs := #[.pointer (some ⟨B, 0, none⟩)]) (t := 71) ?hr ?_; (case hd => rfl); (case hg => rfl); (case hr => first | (go_simp; done) | (go_simp; rfl)); intro g3 hg w3 hbox hb; have czb : w3.cell? ⟨B, 0, none⟩ = some (.int .i64 n) := (blk_cell (blk_below (blk_below HX.out.2.2.2.2 N2.out.1) hb) 0).trans rfl; have fzb := blk_frozen (blk_below (blk_below HX.out.2.2.2.2 N2.out.1) hb) 0; have czp : w3.cell? ⟨g3, 0, none⟩ = some (.pointer (some ⟨B, 0, none⟩)) := (blk_cell hbox 0).trans rfl; have N3 : Aside0 _ := Aside0.mk (show _ ∧ _ ∧ _ ∧ _ from ⟨hb, hbox, blk_below N2.out.2.1 hb, (by have h1_ := blk_lt (blk_below HX.out.2.2.2.2 N2.out.1); omega : g3 ≠ B)⟩); clear hb hbox hg)
    | ((with_reducible refine gate_store (t := 3) (p := 9) (v := .tmp 8) rfl ?_); refine store_event (t := 3) (p := 9) (v := .tmp 8) (w1 := w3.setCell ⟨B, 0, none⟩ (.int .i64 n2)) ?hg ?ho ?hn ?hr ?_; (case ho => rfl); (case hg => rfl); (case hn => rfl); (case hr => first | (go_simp; done) | (go_simp; rfl)); intro w4 hw; have x2 : w4.heap[g2]? = some (.cells #[.int .i64 0, .string t, .int .i64 m, .slice A l.length c] 40 (0, 0)) := (by rw [hw]; exact blk_far N3.out.2.2.1 N2.out.2.2 _); have x3 : w4.heap[g3]? = some (.cells #[.pointer (some ⟨B, 0, none⟩)] 71 (0, 0)) := (by rw [hw]; exact blk_far N3.out.2.1 N3.out.2.2.2 _); have xb : w4.heap[B]? = some (.cells #[.int .i64 n2] 3 (0, 0)) := (by rw [hw]; exact blk_put (blk_below (blk_below HX.out.2.2.2.2 N2.out.1) N3.out.1) 0 _ rfl); have xl : Below w0.heap.size w0 w4 := (by rw [hw]; exact below_set (below_step (below_step HX.out.2.2.1 N2.out.1) N3.out.1) HX.out.2.2.2.1); have xk : KeepBut w w4 B none := (by rw [hw]; exact KeepBut.set_ ((KeepBut.of_below N2.out.1 B none).trans (KeepBut.of_below N3.out.1 B none) (.inl rfl)) 0 _); have N4 : Aside0 _ := Aside0.mk (show _ ∧ _ ∧ _ ∧ _ from ⟨xl, xk, xb, x3⟩); have ybl : w4.cell? ⟨B, 0, none⟩ = some (.int .i64 n2) := (blk_cell xb 0).trans rfl; have yp : w4.cell? ⟨g3, 0, none⟩ = some (.pointer (some ⟨B, 0, none⟩)) := (blk_cell x3 0).trans rfl; have czg2w4_0 : w4.cell? ⟨g2, 0, none⟩ = some (.int .i64 0) := (blk_cell x2 0).trans rfl; have fzg2w4_0 := blk_frozen x2 0; have czg2w4_1 : w4.cell? ⟨g2, 1, none⟩ = some (.string t) := (blk_cell x2 1).trans rfl; have fzg2w4_1 := blk_frozen x2 1; have czg2w4_2 : w4.cell? ⟨g2, 2, none⟩ = some (.int .i64 m) := (blk_cell x2 2).trans rfl; have fzg2w4_2 := blk_frozen x2 2; have czg2w4_3 : w4.cell? ⟨g2, 3, none⟩ = some (.slice A l.length c) := (blk_cell x2 3).trans rfl; have fzg2w4_3 := blk_frozen x2 3; clear xl xk xb x2 x3 hw))
  go_quiet (first | (go_at_call 88; (with_reducible refine (impl_within.calls 0 0 18 true _ hW.out).mono ?_); rintro e w_ ⟨rfl, ⟨nd, rfl⟩⟩; exact ⟨rfl, _, World.drewN_drewN _ _ _⟩) | (go_at_call 89; (with_reducible refine (impl_kidsOf.calls 0 (l.length : Int) _ hK.out).mono ?_); rintro e w_ ⟨rfl, ⟨nd, rfl⟩⟩; first | exact ⟨rfl, _, World.drewN_drewN _ _ _⟩ | exact ⟨rfl, _, Eq.trans (World.drewN_drewN _ _ _) (congrArg (World.drewN _) (Nat.add_assoc _ _ _))⟩))
  go_wp2_with (first
    | (go_at_call 90; refine (impl_NameOk.calls t false _ hN.out).mono ?_; rintro e w_ ⟨rfl, ⟨q4, rfl⟩⟩))
  go_ret
  exact ⟨rfl, by repeat (first | exact N4.out.1 | (with_reducible refine pw_below_drewN ?_ _)), by repeat (first | exact N4.out.2.1 | (with_reducible refine keep_drewN ?_ _)), by repeat (first | exact N4.out.2.2.1 | (with_reducible refine blk_drewN ?_ _))⟩
set_option maxHeartbeats 4000000 in
theorem isExpr.caseD0b (w0 : World) (t : ByteArray) (m : Int) (A : Option Addr) (c : Nat) (l : List S40) (n n2 : Int) (w : World) (B : Nat) (hC : Kd.C k40 w0 A l.length l) (hc : l.length ≤ c) (hb : Below w0.heap.size w0 w) (hg : w0.heap.size ≤ B) (hB : w.heap[B]? = some (.cells #[.int .i64 n] 3 (0, 0))) (hwr : wrap64 (n - 1) = n2) (hn : decide (n2 < 0) = false) (hW : impl_within.f 0 0 18 = some true) (hK : impl_kidsOf.f 0 = some (l.length : Int)) (hN : impl_NameOk.f t = some true) (hm : (m == 0) = false) (hmn : (m != 0) = true) (hm2 : ¬ m = 0) :
    Calls Try.prog 71 #[.agg #[.int .i64 0, .string t, .int .i64 m, .slice A l.length c], .pointer (some ⟨B, 0, none⟩)] w fun e w' => e = .returned (.bool (false)) ∧ Below w0.heap.size w0 w' ∧ KeepBut w w' B none ∧ w'.heap[B]? = some (.cells #[.int .i64 n2] 3 (0, 0)) := by
  have HX : Aside0 _ := Aside0.mk (show _ ∧ _ ∧ _ ∧ _ ∧ _ from ⟨hC, hc, hb, hg, hB⟩)
  clear hC hc hb hg hB
  replace hW : Aside0 _ := Aside0.mk hW
  replace hK : Aside0 _ := Aside0.mk hK
  replace hN : Aside0 _ := Aside0.mk hN
  go_enter Try.func71, Try.ntmps71
  go_wp2_with (first
    | ((with_reducible refine gate_dst (N := 2) rfl ?_); refine box_event ?hg (N := 2) ?hd (cs := #[.int .i64 0, .string t, .int .i64 m, .slice A l.length c]) (t := 40) ?hr ?_; (case hd => rfl); (case hg => rfl); (case hr => first | (go_simp; done) | (go_simp; rfl)); intro g2 hg w2 hbox hb; have N2 : Aside0 _ := Aside0.mk (show _ ∧ _ ∧ _ from ⟨hb, hbox, (by have h1_ := blk_lt HX.out.2.2.2.2; omega : g2 ≠ B)⟩); clear hb hbox hg)
    | ((with_reducible refine gate_dst (N := 3) rfl ?_); refine box_event ?hg (N := 3) ?hd (cs := #[.pointer (some ⟨B, 0, none⟩)]) (t := 71) ?hr ?_; (case hd => rfl); (case hg => rfl); (case hr => first | (go_simp; done) | (go_simp; rfl)); intro g3 hg w3 hbox hb; have czb : w3.cell? ⟨B, 0, none⟩ = some (.int .i64 n) := (blk_cell (blk_below (blk_below HX.out.2.2.2.2 N2.out.1) hb) 0).trans rfl; have fzb := blk_frozen (blk_below (blk_below HX.out.2.2.2.2 N2.out.1) hb) 0; have czp : w3.cell? ⟨g3, 0, none⟩ = some (.pointer (some ⟨B, 0, none⟩)) := (blk_cell hbox 0).trans rfl; have N3 : Aside0 _ := Aside0.mk (show _ ∧ _ ∧ _ ∧ _ from ⟨hb, hbox, blk_below N2.out.2.1 hb, (by have h1_ := blk_lt (blk_below HX.out.2.2.2.2 N2.out.1); omega : g3 ≠ B)⟩); clear hb hbox hg)
    | ((with_reducible refine gate_store (t := 3) (p := 9) (v := .tmp 8) rfl ?_); refine store_event (t := 3) (p := 9) (v := .tmp 8) (w1 := w3.setCell ⟨B, 0, none⟩ (.int .i64 n2)) ?hg ?ho ?hn ?hr ?_; (case ho => rfl); (case hg => rfl); (case hn => rfl); (case hr => first | (go_simp; done) | (go_simp; rfl)); intro w4 hw; have x2 : w4.heap[g2]? = some (.cells #[.int .i64 0, .string t, .int .i64 m, .slice A l.length c] 40 (0, 0)) := (by rw [hw]; exact blk_far N3.out.2.2.1 N2.out.2.2 _); have x3 : w4.heap[g3]? = some (.cells #[.pointer (some ⟨B, 0, none⟩)] 71 (0, 0)) := (by rw [hw]; exact blk_far N3.out.2.1 N3.out.2.2.2 _); have xb : w4.heap[B]? = some (.cells #[.int .i64 n2] 3 (0, 0)) := (by rw [hw]; exact blk_put (blk_below (blk_below HX.out.2.2.2.2 N2.out.1) N3.out.1) 0 _ rfl); have xl : Below w0.heap.size w0 w4 := (by rw [hw]; exact below_set (below_step (below_step HX.out.2.2.1 N2.out.1) N3.out.1) HX.out.2.2.2.1); have xk : KeepBut w w4 B none := (by rw [hw]; exact KeepBut.set_ ((KeepBut.of_below N2.out.1 B none).trans (KeepBut.of_below N3.out.1 B none) (.inl rfl)) 0 _); have N4 : Aside0 _ := Aside0.mk (show _ ∧ _ ∧ _ ∧ _ from ⟨xl, xk, xb, x3⟩); have ybl : w4.cell? ⟨B, 0, none⟩ = some (.int .i64 n2) := (blk_cell xb 0).trans rfl; have yp : w4.cell? ⟨g3, 0, none⟩ = some (.pointer (some ⟨B, 0, none⟩)) := (blk_cell x3 0).trans rfl; have czg2w4_0 : w4.cell? ⟨g2, 0, none⟩ = some (.int .i64 0) := (blk_cell x2 0).trans rfl; have fzg2w4_0 := blk_frozen x2 0; have czg2w4_1 : w4.cell? ⟨g2, 1, none⟩ = some (.string t) := (blk_cell x2 1).trans rfl; have fzg2w4_1 := blk_frozen x2 1; have czg2w4_2 : w4.cell? ⟨g2, 2, none⟩ = some (.int .i64 m) := (blk_cell x2 2).trans rfl; have fzg2w4_2 := blk_frozen x2 2; have czg2w4_3 : w4.cell? ⟨g2, 3, none⟩ = some (.slice A l.length c) := (blk_cell x2 3).trans rfl; have fzg2w4_3 := blk_frozen x2 3; clear xl xk xb x2 x3 hw))
  go_quiet (first | (go_at_call 88; (with_reducible refine (impl_within.calls 0 0 18 true _ hW.out).mono ?_); rintro e w_ ⟨rfl, ⟨nd, rfl⟩⟩; exact ⟨rfl, _, World.drewN_drewN _ _ _⟩) | (go_at_call 89; (with_reducible refine (impl_kidsOf.calls 0 (l.length : Int) _ hK.out).mono ?_); rintro e w_ ⟨rfl, ⟨nd, rfl⟩⟩; first | exact ⟨rfl, _, World.drewN_drewN _ _ _⟩ | exact ⟨rfl, _, Eq.trans (World.drewN_drewN _ _ _) (congrArg (World.drewN _) (Nat.add_assoc _ _ _))⟩))
  go_wp2_with (first
    | (go_at_call 90; refine (impl_NameOk.calls t true _ hN.out).mono ?_; rintro e w_ ⟨rfl, ⟨q4, rfl⟩⟩))
  go_ret
  exact ⟨rfl, by repeat (first | exact N4.out.1 | (with_reducible refine pw_below_drewN ?_ _)), by repeat (first | exact N4.out.2.1 | (with_reducible refine keep_drewN ?_ _)), by repeat (first | exact N4.out.2.2.1 | (with_reducible refine blk_drewN ?_ _))⟩
set_option maxHeartbeats 4000000 in
theorem isExpr.caseD0c (k : Nat) (ih : ∀ j, j < k → isExpr.S j) (n' : Int) (r1 : Bool) (w0 : World) (t : ByteArray) (A : Option Addr) (c : Nat) (l : List S40) (n n2 : Int) (w : World) (B : Nat) (hC : Kd.C k40 w0 A l.length l) (hc : l.length ≤ c) (hb : Below w0.heap.size w0 w) (hg : w0.heap.size ≤ B) (hB : w.heap[B]? = some (.cells #[.int .i64 n] 3 (0, 0))) (hwr : wrap64 (n - 1) = n2) (hn : decide (n2 < 0) = false) (hW : impl_within.f 0 0 18 = some true) (hK : impl_kidsOf.f 0 = some (l.length : Int)) (hN : impl_NameOk.f t = some true) (hnn : 0 ≤ n2 ∧ n2 ≤ 40) (hr : isExprAny k l n2 = some (r1, n')) :
    Calls Try.prog 71 #[.agg #[.int .i64 0, .string t, .int .i64 0, .slice A l.length c], .pointer (some ⟨B, 0, none⟩)] w fun e w' => e = .returned (.bool (!r1)) ∧ Below w0.heap.size w0 w' ∧ KeepBut w w' B none ∧ w'.heap[B]? = some (.cells #[.int .i64 n'] 3 (0, 0)) := by
  have HX : Aside0 _ := Aside0.mk (show _ ∧ _ ∧ _ ∧ _ ∧ _ from ⟨hC, hc, hb, hg, hB⟩)
  clear hC hc hb hg hB
  replace hW : Aside0 _ := Aside0.mk hW
  replace hK : Aside0 _ := Aside0.mk hK
  replace hN : Aside0 _ := Aside0.mk hN
  replace hnn : Aside0 _ := Aside0.mk hnn
  replace hr : Aside0 _ := Aside0.mk hr
  go_enter Try.func71, Try.ntmps71
  go_wp2_with (first
    | ((with_reducible refine gate_dst (N := 2) rfl ?_); refine box_event ?hg (N := 2) ?hd (cs := #[.int .i64 0, .string t, .int .i64 0, .slice A l.length c]) (t := 40) ?hr ?_; (case hd => rfl); (case hg => rfl); (case hr => first | (go_simp; done) | (go_simp; rfl)); intro g2 hg w2 hbox hb; have N2 : Aside0 _ := Aside0.mk (show _ ∧ _ ∧ _ from ⟨hb, hbox, (by have h1_ := blk_lt HX.out.2.2.2.2; omega : g2 ≠ B)⟩); clear hb hbox hg)
    | ((with_reducible refine gate_dst (N := 3) rfl ?_); refine box_event ?hg (N := 3) ?hd (cs := #[.pointer (some ⟨B, 0, none⟩)]) (t := 71) ?hr ?_; (case hd => rfl); (case hg => rfl); (case hr => first | (go_simp; done) | (go_simp; rfl)); intro g3 hg w3 hbox hb; have czb : w3.cell? ⟨B, 0, none⟩ = some (.int .i64 n) := (blk_cell (blk_below (blk_below HX.out.2.2.2.2 N2.out.1) hb) 0).trans rfl; have fzb := blk_frozen (blk_below (blk_below HX.out.2.2.2.2 N2.out.1) hb) 0; have czp : w3.cell? ⟨g3, 0, none⟩ = some (.pointer (some ⟨B, 0, none⟩)) := (blk_cell hbox 0).trans rfl; have N3 : Aside0 _ := Aside0.mk (show _ ∧ _ ∧ _ ∧ _ from ⟨hb, hbox, blk_below N2.out.2.1 hb, (by have h1_ := blk_lt (blk_below HX.out.2.2.2.2 N2.out.1); omega : g3 ≠ B)⟩); clear hb hbox hg)
    | ((with_reducible refine gate_store (t := 3) (p := 9) (v := .tmp 8) rfl ?_); refine store_event (t := 3) (p := 9) (v := .tmp 8) (w1 := w3.setCell ⟨B, 0, none⟩ (.int .i64 n2)) ?hg ?ho ?hn ?hr ?_; (case ho => rfl); (case hg => rfl); (case hn => rfl); (case hr => first | (go_simp; done) | (go_simp; rfl)); intro w4 hw; have x2 : w4.heap[g2]? = some (.cells #[.int .i64 0, .string t, .int .i64 0, .slice A l.length c] 40 (0, 0)) := (by rw [hw]; exact blk_far N3.out.2.2.1 N2.out.2.2 _); have x3 : w4.heap[g3]? = some (.cells #[.pointer (some ⟨B, 0, none⟩)] 71 (0, 0)) := (by rw [hw]; exact blk_far N3.out.2.1 N3.out.2.2.2 _); have xb : w4.heap[B]? = some (.cells #[.int .i64 n2] 3 (0, 0)) := (by rw [hw]; exact blk_put (blk_below (blk_below HX.out.2.2.2.2 N2.out.1) N3.out.1) 0 _ rfl); have xl : Below w0.heap.size w0 w4 := (by rw [hw]; exact below_set (below_step (below_step HX.out.2.2.1 N2.out.1) N3.out.1) HX.out.2.2.2.1); have xk : KeepBut w w4 B none := (by rw [hw]; exact KeepBut.set_ ((KeepBut.of_below N2.out.1 B none).trans (KeepBut.of_below N3.out.1 B none) (.inl rfl)) 0 _); have N4 : Aside0 _ := Aside0.mk (show _ ∧ _ ∧ _ ∧ _ from ⟨xl, xk, xb, x3⟩); have ybl : w4.cell? ⟨B, 0, none⟩ = some (.int .i64 n2) := (blk_cell xb 0).trans rfl; have yp : w4.cell? ⟨g3, 0, none⟩ = some (.pointer (some ⟨B, 0, none⟩)) := (blk_cell x3 0).trans rfl; have czg2w4_0 : w4.cell? ⟨g2, 0, none⟩ = some (.int .i64 0) := (blk_cell x2 0).trans rfl; have fzg2w4_0 := blk_frozen x2 0; have czg2w4_1 : w4.cell? ⟨g2, 1, none⟩ = some (.string t) := (blk_cell x2 1).trans rfl; have fzg2w4_1 := blk_frozen x2 1; have czg2w4_2 : w4.cell? ⟨g2, 2, none⟩ = some (.int .i64 0) := (blk_cell x2 2).trans rfl; have fzg2w4_2 := blk_frozen x2 2; have czg2w4_3 : w4.cell? ⟨g2, 3, none⟩ = some (.slice A l.length c) := (blk_cell x2 3).trans rfl; have fzg2w4_3 := blk_frozen x2 3; clear xl xk xb x2 x3 hw))
  go_quiet (first | (go_at_call 88; (with_reducible refine (impl_within.calls 0 0 18 true _ hW.out).mono ?_); rintro e w_ ⟨rfl, ⟨nd, rfl⟩⟩; exact ⟨rfl, _, World.drewN_drewN _ _ _⟩) | (go_at_call 89; (with_reducible refine (impl_kidsOf.calls 0 (l.length : Int) _ hK.out).mono ?_); rintro e w_ ⟨rfl, ⟨nd, rfl⟩⟩; first | exact ⟨rfl, _, World.drewN_drewN _ _ _⟩ | exact ⟨rfl, _, Eq.trans (World.drewN_drewN _ _ _) (congrArg (World.drewN _) (Nat.add_assoc _ _ _))⟩))
  go_wp2_with (first
    | (go_at_call 90; refine (impl_NameOk.calls t true _ hN.out).mono ?_; rintro e w_ ⟨rfl, ⟨q4, rfl⟩⟩)
    | (go_at_call 91; refine (isExprContains k ih w0 A c l n2 n' r1 _ B g3 HX.out.1 HX.out.2.1 ?s1 HX.out.2.2.2.1 ?s2 hnn.out.1 hnn.out.2 ?s3 N3.out.2.2.2 hr.out).mono ?_; (case s1 => repeat (first | exact N4.out.1 | (with_reducible refine pw_below_drewN ?_ _))); (case s2 => repeat (first | exact N4.out.2.2.1 | (with_reducible refine blk_drewN ?_ _))); (case s3 => repeat (first | exact N4.out.2.2.2 | (with_reducible refine blk_drewN ?_ _))); rintro e w5 ⟨rfl, a1, a2, a3⟩; have N5 : Aside0 _ := Aside0.mk (show _ ∧ _ ∧ _ from ⟨a1, KeepBut.trans (by repeat (first | exact N4.out.2.1 | (with_reducible refine keep_drewN ?_ _))) a2 (.inl rfl), a3⟩); clear a1 a2 a3))
  go_ret
  exact ⟨rfl, N5.out.1, N5.out.2.1, N5.out.2.2⟩
set_option maxHeartbeats 4000000 in
theorem isExpr.caseD1a (w0 : World) (t : ByteArray) (m : Int) (A : Option Addr) (c : Nat) (l : List S40) (n n2 : Int) (w : World) (B : Nat) (hC : Kd.C k40 w0 A l.length l) (hc : l.length ≤ c) (hb : Below w0.heap.size w0 w) (hg : w0.heap.size ≤ B) (hB : w.heap[B]? = some (.cells #[.int .i64 n] 3 (0, 0))) (hwr : wrap64 (n - 1) = n2) (hn : decide (n2 < 0) = false) (hW : impl_within.f 1 0 18 = some true) (hK : impl_kidsOf.f 1 = some (l.length : Int)) (ht : (t.toList == []) = false) (htn : (t.toList != []) = true) (ht2 : t.toList.isEmpty = false) :
    Calls Try.prog 71 #[.agg #[.int .i64 1, .string t, .int .i64 m, .slice A l.length c], .pointer (some ⟨B, 0, none⟩)] w fun e w' => e = .returned (.bool (false)) ∧ Below w0.heap.size w0 w' ∧ KeepBut w w' B none ∧ w'.heap[B]? = some (.cells #[.int .i64 n2] 3 (0, 0)) := by
  have HX : Aside0 _ := Aside0.mk (show _ ∧ _ ∧ _ ∧ _ ∧ _ from ⟨hC, hc, hb, hg, hB⟩)
  clear hC hc hb hg hB
  replace hW : Aside0 _ := Aside0.mk hW
  replace hK : Aside0 _ := Aside0.mk hK
  go_enter Try.func71, Try.ntmps71
  go_wp2_with (first
    | ((with_reducible refine gate_dst (N := 2) rfl ?_); refine box_event ?hg (N := 2) ?hd (cs := #[.int .i64 1, .string t, .int .i64 m, .slice A l.length c]) (t := 40) ?hr ?_; (case hd => rfl); (case hg => rfl); (case hr => first | (go_simp; done) | (go_simp; rfl)); intro g2 hg w2 hbox hb; have N2 : Aside0 _ := Aside0.mk (show _ ∧ _ ∧ _ from ⟨hb, hbox, (by have h1_ := blk_lt HX.out.2.2.2.2; omega : g2 ≠ B)⟩); clear hb hbox hg)
    | ((with_reducible refine gate_dst (N := 3) rfl ?_); refine box_event ?hg (N := 3) ?hd (cs := #[.pointer (some ⟨B, 0, none⟩)]) (t := 71) ?hr ?_; (case hd => rfl); (case hg => rfl); (case hr => first | (go_simp; done) | (go_simp; rfl)); intro g3 hg w3 hbox hb; have czb : w3.cell? ⟨B, 0, none⟩ = some (.int .i64 n) := (blk_cell (blk_below (blk_below HX.out.2.2.2.2 N2.out.1) hb) 0).trans rfl; have fzb := blk_frozen (blk_below (blk_below HX.out.2.2.2.2 N2.out.1) hb) 0; have czp : w3.cell? ⟨g3, 0, none⟩ = some (.pointer (some ⟨B, 0, none⟩)) := (blk_cell hbox 0).trans rfl; have N3 : Aside0 _ := Aside0.mk (show _ ∧ _ ∧ _ ∧ _ from ⟨hb, hbox, blk_below N2.out.2.1 hb, (by have h1_ := blk_lt (blk_below HX.out.2.2.2.2 N2.out.1); omega : g3 ≠ B)⟩); clear hb hbox hg)
    | ((with_reducible refine gate_store (t := 3) (p := 9) (v := .tmp 8) rfl ?_); refine store_event (t := 3) (p := 9) (v := .tmp 8) (w1 := w3.setCell ⟨B, 0, none⟩ (.int .i64 n2)) ?hg ?ho ?hn ?hr ?_; (case ho => rfl); (case hg => rfl); (case hn => rfl); (case hr => first | (go_simp; done) | (go_simp; rfl)); intro w4 hw; have x2 : w4.heap[g2]? = some (.cells #[.int .i64 1, .string t, .int .i64 m, .slice A l.length c] 40 (0, 0)) := (by rw [hw]; exact blk_far N3.out.2.2.1 N2.out.2.2 _); have x3 : w4.heap[g3]? = some (.cells #[.pointer (some ⟨B, 0, none⟩)] 71 (0, 0)) := (by rw [hw]; exact blk_far N3.out.2.1 N3.out.2.2.2 _); have xb : w4.heap[B]? = some (.cells #[.int .i64 n2] 3 (0, 0)) := (by rw [hw]; exact blk_put (blk_below (blk_below HX.out.2.2.2.2 N2.out.1) N3.out.1) 0 _ rfl); have xl : Below w0.heap.size w0 w4 := (by rw [hw]; exact below_set (below_step (below_step HX.out.2.2.1 N2.out.1) N3.out.1) HX.out.2.2.2.1); have xk : KeepBut w w4 B none := (by rw [hw]; exact KeepBut.set_ ((KeepBut.of_below N2.out.1 B none).trans (KeepBut.of_below N3.out.1 B none) (.inl rfl)) 0 _); have N4 : Aside0 _ := Aside0.mk (show _ ∧ _ ∧ _ ∧ _ from ⟨xl, xk, xb, x3⟩); have ybl : w4.cell? ⟨B, 0, none⟩ = some (.int .i64 n2) := (blk_cell xb 0).trans rfl; have yp : w4.cell? ⟨g3, 0, none⟩ = some (.pointer (some ⟨B, 0, none⟩)) := (blk_cell x3 0).trans rfl; have czg2w4_0 : w4.cell? ⟨g2, 0, none⟩ = some (.int .i64 1) := (blk_cell x2 0).trans rfl; have fzg2w4_0 := blk_frozen x2 0; have czg2w4_1 : w4.cell? ⟨g2, 1, none⟩ = some (.string t) := (blk_cell x2 1).trans rfl; have fzg2w4_1 := blk_frozen x2 1; have czg2w4_2 : w4.cell? ⟨g2, 2, none⟩ = some (.int .i64 m) := (blk_cell x2 2).trans rfl; have fzg2w4_2 := blk_frozen x2 2; have czg2w4_3 : w4.cell? ⟨g2, 3, none⟩ = some (.slice A l.length c) := (blk_cell x2 3).trans rfl; have fzg2w4_3 := blk_frozen x2 3; clear xl xk xb x2 x3 hw))
  go_quiet (first | (go_at_call 88; (with_reducible refine (impl_within.calls 1 0 18 true _ hW.out).mono ?_); rintro e w_ ⟨rfl, ⟨nd, rfl⟩⟩; exact ⟨rfl, _, World.drewN_drewN _ _ _⟩) | (go_at_call 89; (with_reducible refine (impl_kidsOf.calls 1 (l.length : Int) _ hK.out).mono ?_); rintro e w_ ⟨rfl, ⟨nd, rfl⟩⟩; first | exact ⟨rfl, _, World.drewN_drewN _ _ _⟩ | exact ⟨rfl, _, Eq.trans (World.drewN_drewN _ _ _) (congrArg (World.drewN _) (Nat.add_assoc _ _ _))⟩))
  go_wp2_with fail
  go_ret
  exact ⟨rfl, by repeat (first | exact N4.out.1 | (with_reducible refine pw_below_drewN ?_ _)), by repeat (first | exact N4.out.2.1 | (with_reducible refine keep_drewN ?_ _)), by repeat (first | exact N4.out.2.2.1 | (with_reducible refine blk_drewN ?_ _))⟩
set_option maxHeartbeats 4000000 in
theorem isExpr.caseD1b (w0 : World) (m : Int) (A : Option Addr) (c : Nat) (l : List S40) (n n2 : Int) (w : World) (B : Nat) (hC : Kd.C k40 w0 A l.length l) (hc : l.length ≤ c) (hb : Below w0.heap.size w0 w) (hg : w0.heap.size ≤ B) (hB : w.heap[B]? = some (.cells #[.int .i64 n] 3 (0, 0))) (hwr : wrap64 (n - 1) = n2) (hn : decide (n2 < 0) = false) (hW : impl_within.f 1 0 18 = some true) (hK : impl_kidsOf.f 1 = some (l.length : Int)) (hM : impl_within.f m 0 999999999 = some false) :
    Calls Try.prog 71 #[.agg #[.int .i64 1, .string (⟨#[]⟩ : ByteArray), .int .i64 m, .slice A l.length c], .pointer (some ⟨B, 0, none⟩)] w fun e w' => e = .returned (.bool (false)) ∧ Below w0.heap.size w0 w' ∧ KeepBut w w' B none ∧ w'.heap[B]? = some (.cells #[.int .i64 n2] 3 (0, 0)) := by
  have HX : Aside0 _ := Aside0.mk (show _ ∧ _ ∧ _ ∧ _ ∧ _ from ⟨hC, hc, hb, hg, hB⟩)
  clear hC hc hb hg hB
  replace hW : Aside0 _ := Aside0.mk hW
  replace hK : Aside0 _ := Aside0.mk hK
  replace hM : Aside0 _ := Aside0.mk hM
  go_enter Try.func71, Try.ntmps71
  go_wp2_with (first
    | ((with_reducible refine gate_dst (N := 2) rfl ?_); refine box_event ?hg (N := 2) ?hd (cs := #[.int .i64 1, .string (⟨#[]⟩ : ByteArray), .int .i64 m, .slice A l.length c]) (t := 40) ?hr ?_; (case hd => rfl); (case hg => rfl); (case hr => first | (go_simp; done) | (go_simp; rfl)); intro g2 hg w2 hbox hb; have N2 : Aside0 _ := Aside0.mk (show _ ∧ _ ∧ _ from ⟨hb, hbox, (by have h1_ := blk_lt HX.out.2.2.2.2; omega : g2 ≠ B)⟩); clear hb hbox hg)
    | ((with_reducible refine gate_dst (N := 3) rfl ?_); refine box_event ?hg (N := 3) ?hd (cs := #[.pointer (some ⟨B, 0, none⟩)]) (t := 71) ?hr ?_; (case hd => rfl); (case hg => rfl); (case hr => first | (go_simp; done) | (go_simp; rfl)); intro g3 hg w3 hbox hb; have czb : w3.cell? ⟨B, 0, none⟩ = some (.int .i64 n) := (blk_cell (blk_below (blk_below HX.out.2.2.2.2 N2.out.1) hb) 0).trans rfl; have fzb := blk_frozen (blk_below (blk_below HX.out.2.2.2.2 N2.out.1) hb) 0; have czp : w3.cell? ⟨g3, 0, none⟩ = some (.pointer (some ⟨B, 0, none⟩)) := (blk_cell hbox 0).trans rfl; have N3 : Aside0 _ := Aside0.mk (show _ ∧ _ ∧ _ ∧ _ from ⟨hb, hbox, blk_below N2.out.2.1 hb, (by have h1_ := blk_lt (blk_below HX.out.2.2.2.2 N2.out.1); omega : g3 ≠ B)⟩); clear hb hbox hg)
    | ((with_reducible refine gate_store (t := 3) (p := 9) (v := .tmp 8) rfl ?_); refine store_event (t := 3) (p := 9) (v := .tmp 8) (w1 := w3.setCell ⟨B, 0, none⟩ (.int .i64 n2)) ?hg ?ho ?hn ?hr ?_; (case ho => rfl); (case hg => rfl); (case hn => rfl); (case hr => first | (go_simp; done) | (go_simp; rfl)); intro w4 hw; have x2 : w4.heap[g2]? = some (.cells #[.int .i64 1, .string (⟨#[]⟩ : ByteArray), .int .i64 m, .slice A l.length c] 40 (0, 0)) := (by rw [hw]; exact blk_far N3.out.2.2.1 N2.out.2.2 _); have x3 : w4.heap[g3]? = some (.cells #[.pointer (some ⟨B, 0, none⟩)] 71 (0, 0)) := (by rw [hw]; exact blk_far N3.out.2.1 N3.out.2.2.2 _); have xb : w4.heap[B]? = some (.cells #[.int .i64 n2] 3 (0, 0)) := (by rw [hw]; exact blk_put (blk_below (blk_below HX.out.2.2.2.2 N2.out.1) N3.out.1) 0 _ rfl); have xl : Below w0.heap.size w0 w4 := (by rw [hw]; exact below_set (below_step (below_step HX.out.2.2.1 N2.out.1) N3.out.1) HX.out.2.2.2.1); have xk : KeepBut w w4 B none := (by rw [hw]; exact KeepBut.set_ ((KeepBut.of_below N2.out.1 B none).trans (KeepBut.of_below N3.out.1 B none) (.inl rfl)) 0 _); have N4 : Aside0 _ := Aside0.mk (show _ ∧ _ ∧ _ ∧ _ from ⟨xl, xk, xb, x3⟩); have ybl : w4.cell? ⟨B, 0, none⟩ = some (.int .i64 n2) := (blk_cell xb 0).trans rfl; have yp : w4.cell? ⟨g3, 0, none⟩ = some (.pointer (some ⟨B, 0, none⟩)) := (blk_cell x3 0).trans rfl; have czg2w4_0 : w4.cell? ⟨g2, 0, none⟩ = some (.int .i64 1) := (blk_cell x2 0).trans rfl; have fzg2w4_0 := blk_frozen x2 0; have czg2w4_1 : w4.cell? ⟨g2, 1, none⟩ = some (.string (⟨#[]⟩ : ByteArray)) := (blk_cell x2 1).trans rfl; have fzg2w4_1 := blk_frozen x2 1; have czg2w4_2 : w4.cell? ⟨g2, 2, none⟩ = some (.int .i64 m) := (blk_cell x2 2).trans rfl; have fzg2w4_2 := blk_frozen x2 2; have czg2w4_3 : w4.cell? ⟨g2, 3, none⟩ = some (.slice A l.length c) := (blk_cell x2 3).trans rfl; have fzg2w4_3 := blk_frozen x2 3; clear xl xk xb x2 x3 hw))
  go_quiet (first | (go_at_call 88; (with_reducible refine (impl_within.calls 1 0 18 true _ hW.out).mono ?_); rintro e w_ ⟨rfl, ⟨nd, rfl⟩⟩; exact ⟨rfl, _, World.drewN_drewN _ _ _⟩) | (go_at_call 89; (with_reducible refine (impl_kidsOf.calls 1 (l.length : Int) _ hK.out).mono ?_); rintro e w_ ⟨rfl, ⟨nd, rfl⟩⟩; first | exact ⟨rfl, _, World.drewN_drewN _ _ _⟩ | exact ⟨rfl, _, Eq.trans (World.drewN_drewN _ _ _) (congrArg (World.drewN _) (Nat.add_assoc _ _ _))⟩))
  go_wp2_with (first
    | (go_at_call 88; refine (impl_within.calls m 0 999999999 false _ hM.out).mono ?_; rintro e w_ ⟨rfl, ⟨q4, rfl⟩⟩))
  go_ret
  exact ⟨rfl, by repeat (first | exact N4.out.1 | (with_reducible refine pw_below_drewN ?_ _)), by repeat (first | exact N4.out.2.1 | (with_reducible refine keep_drewN ?_ _)), by repeat (first | exact N4.out.2.2.1 | (with_reducible refine blk_drewN ?_ _))⟩
set_option maxHeartbeats 4000000 in
theorem isExpr.caseD1c (k : Nat) (ih : ∀ j, j < k → isExpr.S j) (n' : Int) (r1 : Bool) (w0 : World) (m : Int) (A : Option Addr) (c : Nat) (l : List S40) (n n2 : Int) (w : World) (B : Nat) (hC : Kd.C k40 w0 A l.length l) (hc : l.length ≤ c) (hb : Below w0.heap.size w0 w) (hg : w0.heap.size ≤ B) (hB : w.heap[B]? = some (.cells #[.int .i64 n] 3 (0, 0))) (hwr : wrap64 (n - 1) = n2) (hn : decide (n2 < 0) = false) (hW : impl_within.f 1 0 18 = some true) (hK : impl_kidsOf.f 1 = some (l.length : Int)) (hM : impl_within.f m 0 999999999 = some true) (hnn : 0 ≤ n2 ∧ n2 ≤ 40) (hr : isExprAny k l n2 = some (r1, n')) :
    Calls Try.prog 71 #[.agg #[.int .i64 1, .string (⟨#[]⟩ : ByteArray), .int .i64 m, .slice A l.length c], .pointer (some ⟨B, 0, none⟩)] w fun e w' => e = .returned (.bool (!r1)) ∧ Below w0.heap.size w0 w' ∧ KeepBut w w' B none ∧ w'.heap[B]? = some (.cells #[.int .i64 n'] 3 (0, 0)) := by
  have HX : Aside0 _ := Aside0.mk (show _ ∧ _ ∧ _ ∧ _ ∧ _ from ⟨hC, hc, hb, hg, hB⟩)
  clear hC hc hb hg hB
  replace hW : Aside0 _ := Aside0.mk hW
  replace hK : Aside0 _ := Aside0.mk hK
  replace hM : Aside0 _ := Aside0.mk hM
  replace hnn : Aside0 _ := Aside0.mk hnn
  replace hr : Aside0 _ := Aside0.mk hr
  go_enter Try.func71, Try.ntmps71
  go_wp2_with (first
    | ((with_reducible refine gate_dst (N := 2) rfl ?_); refine box_event ?hg (N := 2) ?hd (cs := #[.int .i64 1, .string (⟨#[]⟩ : ByteArray), .int .i64 m, .slice A l.length c]) (t := 40) ?hr ?_; (case hd => rfl); (case hg => rfl); (case hr => first | (go_simp; done) | (go_simp; rfl)); intro g2 hg w2 hbox hb; have N2 : Aside0 _ := Aside0.mk (show _ ∧ _ ∧ _ from ⟨hb, hbox, (by have h1_ := blk_lt HX.out.2.2.2.2; omega : g2 ≠ B)⟩); clear hb hbox hg)
    | ((with_reducible refine gate_dst (N := 3) rfl ?_); refine box_event ?hg (N := 3) ?hd (cs := #[.pointer (some ⟨B, 0, none⟩)]) (t := 71) ?hr ?_; (case hd => rfl); (case hg => rfl); (case hr => first | (go_simp; done) | (go_simp; rfl)); intro g3 hg w3 hbox hb; have czb : w3.cell? ⟨B, 0, none⟩ = some (.int .i64 n) := (blk_cell (blk_below (blk_below HX.out.2.2.2.2 N2.out.1) hb) 0).trans rfl; have fzb := blk_frozen (blk_below (blk_below HX.out.2.2.2.2 N2.out.1) hb) 0; have czp : w3.cell? ⟨g3, 0, none⟩ = some (.pointer (some ⟨B, 0, none⟩)) := (blk_cell hbox 0).trans rfl; have N3 : Aside0 _ := Aside0.mk (show _ ∧ _ ∧ _ ∧ _ from ⟨hb, hbox, blk_below N2.out.2.1 hb, (by have h1_ := blk_lt (blk_below HX.out.2.2.2.2 N2.out.1); omega : g3 ≠ B)⟩); clear hb hbox hg)
    | ((with_reducible refine gate_store (t := 3) (p := 9) (v := .tmp 8) rfl ?_); refine store_event (t := 3) (p := 9) (v := .tmp 8) (w1 := w3.setCell ⟨B, 0, none⟩ (.int .i64 n2)) ?hg ?ho ?hn ?hr ?_; (case ho => rfl); (case hg => rfl); (case hn => rfl); (case hr => first | (go_simp; done) | (go_simp; rfl)); intro w4 hw; have x2 : w4.heap[g2]? = some (.cells #[.int .i64 1, .string (⟨#[]⟩ : ByteArray), .int .i64 m, .slice A l.length c] 40 (0, 0)) := (by rw [hw]; exact blk_far N3.out.2.2.1 N2.out.2.2 _); have x3 : w4.heap[g3]? = some (.cells #[.pointer (some ⟨B, 0, none⟩)] 71 (0, 0)) := (by rw [hw]; exact blk_far N3.out.2.1 N3.out.2.2.2 _); have xb : w4.heap[B]? = some (.cells #[.int .i64 n2] 3 (0, 0)) := (by rw [hw]; exact blk_put (blk_below (blk_below HX.out.2.2.2.2 N2.out.1) N3.out.1) 0 _ rfl); have xl : Below w0.heap.size w0 w4 := (by rw [hw]; exact below_set (below_step (below_step HX.out.2.2.1 N2.out.1) N3.out.1) HX.out.2.2.2.1); have xk : KeepBut w w4 B none := (by rw [hw]; exact KeepBut.set_ ((KeepBut.of_below N2.out.1 B none).trans (KeepBut.of_below N3.out.1 B none) (.inl rfl)) 0 _); have N4 : Aside0 _ := Aside0.mk (show _ ∧ _ ∧ _ ∧ _ from ⟨xl, xk, xb, x3⟩); have ybl : w4.cell? ⟨B, 0, none⟩ = some (.int .i64 n2) := (blk_cell xb 0).trans rfl; have yp : w4.cell? ⟨g3, 0, none⟩ = some (.pointer (some ⟨B, 0, none⟩)) := (blk_cell x3 0).trans rfl; have czg2w4_0 : w4.cell? ⟨g2, 0, none⟩ = some (.int .i64 1) := (blk_cell x2 0).trans rfl; have fzg2w4_0 := blk_frozen x2 0; have czg2w4_1 : w4.cell? ⟨g2, 1, none⟩ = some (.string (⟨#[]⟩ : ByteArray)) := (blk_cell x2 1).trans rfl; have fzg2w4_1 := blk_frozen x2 1; have czg2w4_2 : w4.cell? ⟨g2, 2, none⟩ = some (.int .i64 m) := (blk_cell x2 2).trans rfl; have fzg2w4_2 := blk_frozen x2 2; have czg2w4_3 : w4.cell? ⟨g2, 3, none⟩ = some (.slice A l.length c) := (blk_cell x2 3).trans rfl; have fzg2w4_3 := blk_frozen x2 3; clear xl xk xb x2 x3 hw))
  go_quiet (first | (go_at_call 88; (with_reducible refine (impl_within.calls 1 0 18 true _ hW.out).mono ?_); rintro e w_ ⟨rfl, ⟨nd, rfl⟩⟩; exact ⟨rfl, _, World.drewN_drewN _ _ _⟩) | (go_at_call 89; (with_reducible refine (impl_kidsOf.calls 1 (l.length : Int) _ hK.out).mono ?_); rintro e w_ ⟨rfl, ⟨nd, rfl⟩⟩; first | exact ⟨rfl, _, World.drewN_drewN _ _ _⟩ | exact ⟨rfl, _, Eq.trans (World.drewN_drewN _ _ _) (congrArg (World.drewN _) (Nat.add_assoc _ _ _))⟩))
  go_wp2_with (first
    | (go_at_call 88; refine (impl_within.calls m 0 999999999 true _ hM.out).mono ?_; rintro e w_ ⟨rfl, ⟨q4, rfl⟩⟩)
    | (go_at_call 91; refine (isExprContains k ih w0 A c l n2 n' r1 _ B g3 HX.out.1 HX.out.2.1 ?s1 HX.out.2.2.2.1 ?s2 hnn.out.1 hnn.out.2 ?s3 N3.out.2.2.2 hr.out).mono ?_; (case s1 => repeat (first | exact N4.out.1 | (with_reducible refine pw_below_drewN ?_ _))); (case s2 => repeat (first | exact N4.out.2.2.1 | (with_reducible refine blk_drewN ?_ _))); (case s3 => repeat (first | exact N4.out.2.2.2 | (with_reducible refine blk_drewN ?_ _))); rintro e w5 ⟨rfl, a1, a2, a3⟩; have N5 : Aside0 _ := Aside0.mk (show _ ∧ _ ∧ _ from ⟨a1, KeepBut.trans (by repeat (first | exact N4.out.2.1 | (with_reducible refine keep_drewN ?_ _))) a2 (.inl rfl), a3⟩); clear a1 a2 a3))
  go_ret
  exact ⟨rfl, N5.out.1, N5.out.2.1, N5.out.2.2⟩
set_option maxHeartbeats 4000000 in
theorem isExpr.caseD2a (w0 : World) (t : ByteArray) (m : Int) (A : Option Addr) (c : Nat) (l : List S40) (n n2 : Int) (w : World) (B : Nat) (hC : Kd.C k40 w0 A l.length l) (hc : l.length ≤ c) (hb : Below w0.heap.size w0 w) (hg : w0.heap.size ≤ B) (hB : w.heap[B]? = some (.cells #[.int .i64 n] 3 (0, 0))) (hwr : wrap64 (n - 1) = n2) (hn : decide (n2 < 0) = false) (hW : impl_within.f 2 0 18 = some true) (hK : impl_kidsOf.f 2 = some (l.length : Int)) (hz : decide ((100 : Int) < (t.size : Int)) = true) :
    Calls Try.prog 71 #[.agg #[.int .i64 2, .string t, .int .i64 m, .slice A l.length c], .pointer (some ⟨B, 0, none⟩)] w fun e w' => e = .returned (.bool (false)) ∧ Below w0.heap.size w0 w' ∧ KeepBut w w' B none ∧ w'.heap[B]? = some (.cells #[.int .i64 n2] 3 (0, 0)) := by
  have HX : Aside0 _ := Aside0.mk (show _ ∧ _ ∧ _ ∧ _ ∧ _ from ⟨hC, hc, hb, hg, hB⟩)
  clear hC hc hb hg hB
  replace hW : Aside0 _ := Aside0.mk hW
  replace hK : Aside0 _ := Aside0.mk hK
  go_enter Try.func71, Try.ntmps71
  go_wp2_with (first
    | ((with_reducible refine gate_dst (N := 2) rfl ?_); refine box_event ?hg (N := 2) ?hd (cs := #[.int .i64 2, .string t, .int .i64 m, .slice A l.length c]) (t := 40) ?hr ?_; (case hd => rfl); (case hg => rfl); (case hr => first | (go_simp; done) | (go_simp; rfl)); intro g2 hg w2 hbox hb; have N2 : Aside0 _ := Aside0.mk (show _ ∧ _ ∧ _ from ⟨hb, hbox, (by have h1_ := blk_lt HX.out.2.2.2.2; omega : g2 ≠ B)⟩); clear hb hbox hg)
    | ((with_reducible refine gate_dst (N := 3) rfl ?_); refine box_event ?hg (N := 3) ?hd (cs := #[.pointer (some ⟨B, 0, none⟩)]) (t := 71) ?hr ?_; (case hd => rfl); (case hg => rfl); (case hr => first | (go_simp; done) | (go_simp; rfl)); intro g3 hg w3 hbox hb; have czb : w3.cell? ⟨B, 0, none⟩ = some (.int .i64 n) := (blk_cell (blk_below (blk_below HX.out.2.2.2.2 N2.out.1) hb) 0).trans rfl; have fzb := blk_frozen (blk_below (blk_below HX.out.2.2.2.2 N2.out.1) hb) 0; have czp : w3.cell? ⟨g3, 0, none⟩ = some (.pointer (some ⟨B, 0, none⟩)) := (blk_cell hbox 0).trans rfl; have N3 : Aside0 _ := Aside0.mk (show _ ∧ _ ∧ _ ∧ _ from ⟨hb, hbox, blk_below N2.out.2.1 hb, (by have h1_ := blk_lt (blk_below HX.out.2.2.2.2 N2.out.1); omega : g3 ≠ B)⟩); clear hb hbox hg)
    | ((with_reducible refine gate_store (t := 3) (p := 9) (v := .tmp 8) rfl ?_); refine store_event (t := 3) (p := 9) (v := .tmp 8) (w1 := w3.setCell ⟨B, 0, none⟩ (.int .i64 n2)) ?hg ?ho ?hn ?hr ?_; (case ho => rfl); (case hg => rfl); (case hn => rfl); (case hr => first | (go_simp; done) | (go_simp; rfl)); intro w4 hw; have x2 : w4.heap[g2]? = some (.cells #[.int .i64 2, .string t, .int .i64 m, .slice A l.length c] 40 (0, 0)) := (by rw [hw]; exact blk_far N3.out.2.2.1 N2.out.2.2 _); have x3 : w4.heap[g3]? = some (.cells #[.pointer (some ⟨B, 0, none⟩)] 71 (0, 0)) := (by rw [hw]; exact blk_far N3.out.2.1 N3.out.2.2.2 _); have xb : w4.heap[B]? = some (.cells #[.int .i64 n2] 3 (0, 0)) := (by rw [hw]; exact blk_put (blk_below (blk_below HX.out.2.2.2.2 N2.out.1) N3.out.1) 0 _ rfl); have xl : Below w0.heap.size w0 w4 := (by rw [hw]; exact below_set (below_step (below_step HX.out.2.2.1 N2.out.1) N3.out.1) HX.out.2.2.2.1); have xk : KeepBut w w4 B none := (by rw [hw]; exact KeepBut.set_ ((KeepBut.of_below N2.out.1 B none).trans (KeepBut.of_below N3.out.1 B none) (.inl rfl)) 0 _); have N4 : Aside0 _ := Aside0.mk (show _ ∧ _ ∧ _ ∧ _ from ⟨xl, xk, xb, x3⟩); have ybl : w4.cell? ⟨B, 0, none⟩ = some (.int .i64 n2) := (blk_cell xb 0).trans rfl; have yp : w4.cell? ⟨g3, 0, none⟩ = some (.pointer (some ⟨B, 0, none⟩)) := (blk_cell x3 0).trans rfl; have czg2w4_0 : w4.cell? ⟨g2, 0, none⟩ = some (.int .i64 2) := (blk_cell x2 0).trans rfl; have fzg2w4_0 := blk_frozen x2 0; have czg2w4_1 : w4.cell? ⟨g2, 1, none⟩ = some (.string t) := (blk_cell x2 1).trans rfl; have fzg2w4_1 := blk_frozen x2 1; have czg2w4_2 : w4.cell? ⟨g2, 2, none⟩ = some (.int .i64 m) := (blk_cell x2 2).trans rfl; have fzg2w4_2 := blk_frozen x2 2; have czg2w4_3 : w4.cell? ⟨g2, 3, none⟩ = some (.slice A l.length c) := (blk_cell x2 3).trans rfl; have fzg2w4_3 := blk_frozen x2 3; clear xl xk xb x2 x3 hw))
  go_quiet (first | (go_at_call 88; (with_reducible refine (impl_within.calls 2 0 18 true _ hW.out).mono ?_); rintro e w_ ⟨rfl, ⟨nd, rfl⟩⟩; exact ⟨rfl, _, World.drewN_drewN _ _ _⟩) | (go_at_call 89; (with_reducible refine (impl_kidsOf.calls 2 (l.length : Int) _ hK.out).mono ?_); rintro e w_ ⟨rfl, ⟨nd, rfl⟩⟩; first | exact ⟨rfl, _, World.drewN_drewN _ _ _⟩ | exact ⟨rfl, _, Eq.trans (World.drewN_drewN _ _ _) (congrArg (World.drewN _) (Nat.add_assoc _ _ _))⟩))
  go_wp2_with fail
  go_ret
  exact ⟨rfl, by repeat (first | exact N4.out.1 | (with_reducible refine pw_below_drewN ?_ _)), by repeat (first | exact N4.out.2.1 | (with_reducible refine keep_drewN ?_ _)), by repeat (first | exact N4.out.2.2.1 | (with_reducible refine blk_drewN ?_ _))⟩
set_option maxHeartbeats 4000000 in
theorem isExpr.caseD2b (w0 : World) (t : ByteArray) (m : Int) (A : Option Addr) (c : Nat) (l : List S40) (n n2 : Int) (w : World) (B : Nat) (hC : Kd.C k40 w0 A l.length l) (hc : l.length ≤ c) (hb : Below w0.heap.size w0 w) (hg : w0.heap.size ≤ B) (hB : w.heap[B]? = some (.cells #[.int .i64 n] 3 (0, 0))) (hwr : wrap64 (n - 1) = n2) (hn : decide (n2 < 0) = false) (hW : impl_within.f 2 0 18 = some true) (hK : impl_kidsOf.f 2 = some (l.length : Int)) (hz : decide ((100 : Int) < (t.size : Int)) = false) (hm : (m == 0) = false) (hmn : (m != 0) = true) (hm2 : ¬ m = 0) :
    Calls Try.prog 71 #[.agg #[.int .i64 2, .string t, .int .i64 m, .slice A l.length c], .pointer (some ⟨B, 0, none⟩)] w fun e w' => e = .returned (.bool (false)) ∧ Below w0.heap.size w0 w' ∧ KeepBut w w' B none ∧ w'.heap[B]? = some (.cells #[.int .i64 n2] 3 (0, 0)) := by
  have HX : Aside0 _ := Aside0.mk (show _ ∧ _ ∧ _ ∧ _ ∧ _ from ⟨hC, hc, hb, hg, hB⟩)
  clear hC hc hb hg hB
  replace hW : Aside0 _ := Aside0.mk hW
  replace hK : Aside0 _ := Aside0.mk hK
  go_enter Try.func71, Try.ntmps71
  go_wp2_with (first
    | ((with_reducible refine gate_dst (N := 2) rfl ?_); refine box_event ?hg (N := 2) ?hd (cs := #[.int .i64 2, .string t, .int .i64 m, .slice A l.length c]) (t := 40) ?hr ?_; (case hd => rfl); (case hg => rfl); (case hr => first | (go_simp; done) | (go_simp; rfl)); intro g2 hg w2 hbox hb; have N2 : Aside0 _ := Aside0.mk (show _ ∧ _ ∧ _ from ⟨hb, hbox, (by have h1_ := blk_lt HX.out.2.2.2.2; omega : g2 ≠ B)⟩); clear hb hbox hg)
    | ((with_reducible refine gate_dst (N := 3) rfl ?_); refine box_event ?hg (N := 3) ?hd (cs := #[.pointer (some ⟨B, 0, none⟩)]) (t := 71) ?hr ?_; (case hd => rfl); (case hg => rfl); (case hr => first | (go_simp; done) | (go_simp; rfl)); intro g3 hg w3 hbox hb; have czb : w3.cell? ⟨B, 0, none⟩ = some (.int .i64 n) := (blk_cell (blk_below (blk_below HX.out.2.2.2.2 N2.out.1) hb) 0).trans rfl; have fzb := blk_frozen (blk_below (blk_below HX.out.2.2.2.2 N2.out.1) hb) 0; have czp : w3.cell? ⟨g3, 0, none⟩ = some (.pointer (some ⟨B, 0, none⟩)) := (blk_cell hbox 0).trans rfl; have N3 : Aside0 _ := Aside0.mk (show _ ∧ _ ∧ _ ∧ _ from ⟨hb, hbox, blk_below N2.out.2.1 hb, (by have h1_ := blk_lt (blk_below HX.out.2.2.2.2 N2.out.1); omega : g3 ≠ B)⟩); clear hb hbox hg)
    | ((with_reducible refine gate_store (t := 3) (p := 9) (v := .tmp 8) rfl ?_); refine store_event (t := 3) (p := 9) (v := .tmp 8) (w1 := w3.setCell ⟨B, 0, none⟩ (.int .i64 n2)) ?hg ?ho ?hn ?hr ?_; (case ho => rfl); (case hg => rfl); (case hn => rfl); (case hr => first | (go_simp; done) | (go_simp; rfl)); intro w4 hw; have x2 : w4.heap[g2]? = some (.cells #[.int .i64 2, .string t, .int .i64 m, .slice A l.length c] 40 (0, 0)) := (by rw [hw]; exact blk_far N3.out.2.2.1 N2.out.2.2 _); have x3 : w4.heap[g3]? = some (.cells #[.pointer (some ⟨B, 0, none⟩)] 71 (0, 0)) := (by rw [hw]; exact blk_far N3.out.2.1 N3.out.2.2.2 _); have xb : w4.heap[B]? = some (.cells #[.int .i64 n2] 3 (0, 0)) := (by rw [hw]; exact blk_put (blk_below (blk_below HX.out.2.2.2.2 N2.out.1) N3.out.1) 0 _ rfl); have xl : Below w0.heap.size w0 w4 := (by rw [hw]; exact below_set (below_step (below_step HX.out.2.2.1 N2.out.1) N3.out.1) HX.out.2.2.2.1); have xk : KeepBut w w4 B none := (by rw [hw]; exact KeepBut.set_ ((KeepBut.of_below N2.out.1 B none).trans (KeepBut.of_below N3.out.1 B none) (.inl rfl)) 0 _); have N4 : Aside0 _ := Aside0.mk (show _ ∧ _ ∧ _ ∧ _ from ⟨xl, xk, xb, x3⟩); have ybl : w4.cell? ⟨B, 0, none⟩ = some (.int .i64 n2) := (blk_cell xb 0).trans rfl; have yp : w4.cell? ⟨g3, 0, none⟩ = some (.pointer (some ⟨B, 0, none⟩)) := (blk_cell x3 0).trans rfl; have czg2w4_0 : w4.cell? ⟨g2, 0, none⟩ = some (.int .i64 2) := (blk_cell x2 0).trans rfl; have fzg2w4_0 := blk_frozen x2 0; have czg2w4_1 : w4.cell? ⟨g2, 1, none⟩ = some (.string t) := (blk_cell x2 1).trans rfl; have fzg2w4_1 := blk_frozen x2 1; have czg2w4_2 : w4.cell? ⟨g2, 2, none⟩ = some (.int .i64 m) := (blk_cell x2 2).trans rfl; have fzg2w4_2 := blk_frozen x2 2; have czg2w4_3 : w4.cell? ⟨g2, 3, none⟩ = some (.slice A l.length c) := (blk_cell x2 3).trans rfl; have fzg2w4_3 := blk_frozen x2 3; clear xl xk xb x2 x3 hw))
  go_quiet (first | (go_at_call 88; (with_reducible refine (impl_within.calls 2 0 18 true _ hW.out).mono ?_); rintro e w_ ⟨rfl, ⟨nd, rfl⟩⟩; exact ⟨rfl, _, World.drewN_drewN _ _ _⟩) | (go_at_call 89; (with_reducible refine (impl_kidsOf.calls 2 (l.length : Int) _ hK.out).mono ?_); rintro e w_ ⟨rfl, ⟨nd, rfl⟩⟩; first | exact ⟨rfl, _, World.drewN_drewN _ _ _⟩ | exact ⟨rfl, _, Eq.trans (World.drewN_drewN _ _ _) (congrArg (World.drewN _) (Nat.add_assoc _ _ _))⟩))
  go_wp2_with fail
  go_ret
  exact ⟨rfl, by repeat (first | exact N4.out.1 | (with_reducible refine pw_below_drewN ?_ _)), by repeat (first | exact N4.out.2.1 | (with_reducible refine keep_drewN ?_ _)), by repeat (first | exact N4.out.2.2.1 | (with_reducible refine blk_drewN ?_ _))⟩
set_option maxHeartbeats 4000000 in
theorem isExpr.caseD2c (k : Nat) (ih : ∀ j, j < k → isExpr.S j) (n' : Int) (r1 : Bool) (w0 : World) (t : ByteArray) (A : Option Addr) (c : Nat) (l : List S40) (n n2 : Int) (w : World) (B : Nat) (hC : Kd.C k40 w0 A l.length l) (hc : l.length ≤ c) (hb : Below w0.heap.size w0 w) (hg : w0.heap.size ≤ B) (hB : w.heap[B]? = some (.cells #[.int .i64 n] 3 (0, 0))) (hwr : wrap64 (n - 1) = n2) (hn : decide (n2 < 0) = false) (hW : impl_within.f 2 0 18 = some true) (hK : impl_kidsOf.f 2 = some (l.length : Int)) (hz : decide ((100 : Int) < (t.size : Int)) = false) (hnn : 0 ≤ n2 ∧ n2 ≤ 40) (hr : isExprAny k l n2 = some (r1, n')) :
    Calls Try.prog 71 #[.agg #[.int .i64 2, .string t, .int .i64 0, .slice A l.length c], .pointer (some ⟨B, 0, none⟩)] w fun e w' => e = .returned (.bool (!r1)) ∧ Below w0.heap.size w0 w' ∧ KeepBut w w' B none ∧ w'.heap[B]? = some (.cells #[.int .i64 n'] 3 (0, 0)) := by
  have HX : Aside0 _ := Aside0.mk (show _ ∧ _ ∧ _ ∧ _ ∧ _ from ⟨hC, hc, hb, hg, hB⟩)
  clear hC hc hb hg hB
  replace hW : Aside0 _ := Aside0.mk hW
  replace hK : Aside0 _ := Aside0.mk hK
  replace hnn : Aside0 _ := Aside0.mk hnn
  replace hr : Aside0 _ := Aside0.mk hr
  go_enter Try.func71, Try.ntmps71
  go_wp2_with (first
    | ((with_reducible refine gate_dst (N := 2) rfl ?_); refine box_event ?hg (N := 2) ?hd (cs := #[.int .i64 2, .string t, .int .i64 0, .slice A l.length c]) (t := 40) ?hr ?_; (case hd => rfl); (case hg => rfl); (case hr => first | (go_simp; done) | (go_simp; rfl)); intro g2 hg w2 hbox hb; have N2 : Aside0 _ := Aside0.mk (show _ ∧ _ ∧ _ from ⟨hb, hbox, (by have h1_ := blk_lt HX.out.2.2.2.2; omega : g2 ≠ B)⟩); clear hb hbox hg)
    | ((with_reducible refine gate_dst (N := 3) rfl ?_); refine box_event ?hg (N := 3) ?hd (cs := #[.pointer (some ⟨B, 0, none⟩)]) (t := 71) ?hr ?_; (case hd => rfl); (case hg => rfl); (case hr => first | (go_simp; done) | (go_simp; rfl)); intro g3 hg w3 hbox hb; have czb : w3.cell? ⟨B, 0, none⟩ = some (.int .i64 n) := (blk_cell (blk_below (blk_below HX.out.2.2.2.2 N2.out.1) hb) 0).trans rfl; have fzb := blk_frozen (blk_below (blk_below HX.out.2.2.2.2 N2.out.1) hb) 0; have czp : w3.cell? ⟨g3, 0, none⟩ = some (.pointer (some ⟨B, 0, none⟩)) := (blk_cell hbox 0).trans rfl; have N3 : Aside0 _ := Aside0.mk (show _ ∧ _ ∧ _ ∧ _ from ⟨hb, hbox, blk_below N2.out.2.1 hb, (by have h1_ := blk_lt (blk_below HX.out.2.2.2.2 N2.out.1); omega : g3 ≠ B)⟩); clear hb hbox hg)
    | ((with_reducible refine gate_store (t := 3) (p := 9) (v := .tmp 8) rfl ?_); refine store_event (t := 3) (p := 9) (v := .tmp 8) (w1 := w3.setCell ⟨B, 0, none⟩ (.int .i64 n2)) ?hg ?ho ?hn ?hr ?_; (case ho => rfl); (case hg => rfl); (case hn => rfl); (case hr => first | (go_simp; done) | (go_simp; rfl)); intro w4 hw; have x2 : w4.heap[g2]? = some (.cells #[.int .i64 2, .string t, .int .i64 0, .slice A l.length c] 40 (0, 0)) := (by rw [hw]; exact blk_far N3.out.2.2.1 N2.out.2.2 _); have x3 : w4.heap[g3]? = some (.cells #[.pointer (some ⟨B, 0, none⟩)] 71 (0, 0)) := (by rw [hw]; exact blk_far N3.out.2.1 N3.out.2.2.2 _); have xb : w4.heap[B]? = some (.cells #[.int .i64 n2] 3 (0, 0)) := (by rw [hw]; exact blk_put (blk_below (blk_below HX.out.2.2.2.2 N2.out.1) N3.out.1) 0 _ rfl); have xl : Below w0.heap.size w0 w4 := (by rw [hw]; exact below_set (below_step (below_step HX.out.2.2.1 N2.out.1) N3.out.1) HX.out.2.2.2.1); have xk : KeepBut w w4 B none := (by rw [hw]; exact KeepBut.set_ ((KeepBut.of_below N2.out.1 B none).trans (KeepBut.of_below N3.out.1 B none) (.inl rfl)) 0 _); have N4 : Aside0 _ := Aside0.mk (show _ ∧ _ ∧ _ ∧ _ from ⟨xl, xk, xb, x3⟩); have ybl : w4.cell? ⟨B, 0, none⟩ = some (.int .i64 n2) := (blk_cell xb 0).trans rfl; have yp : w4.cell? ⟨g3, 0, none⟩ = some (.pointer (some ⟨B, 0, none⟩)) := (blk_cell x3 0).trans rfl; have czg2w4_0 : w4.cell? ⟨g2, 0, none⟩ = some (.int .i64 2) := (blk_cell x2 0).trans rfl; have fzg2w4_0 := blk_frozen x2 0; have czg2w4_1 : w4.cell? ⟨g2, 1, none⟩ = some (.string t) := (blk_cell x2 1).trans rfl; have fzg2w4_1 := blk_frozen x2 1; have czg2w4_2 : w4.cell? ⟨g2, 2, none⟩ = some (.int .i64 0) := (blk_cell x2 2).trans rfl; have fzg2w4_2 := blk_frozen x2 2; have czg2w4_3 : w4.cell? ⟨g2, 3, none⟩ = some (.slice A l.length c) := (blk_cell x2 3).trans rfl; have fzg2w4_3 := blk_frozen x2 3; clear xl xk xb x2 x3 hw))
  go_quiet (first | (go_at_call 88; (with_reducible refine (impl_within.calls 2 0 18 true _ hW.out).mono ?_); rintro e w_ ⟨rfl, ⟨nd, rfl⟩⟩; exact ⟨rfl, _, World.drewN_drewN _ _ _⟩) | (go_at_call 89; (with_reducible refine (impl_kidsOf.calls 2 (l.length : Int) _ hK.out).mono ?_); rintro e w_ ⟨rfl, ⟨nd, rfl⟩⟩; first | exact ⟨rfl, _, World.drewN_drewN _ _ _⟩ | exact ⟨rfl, _, Eq.trans (World.drewN_drewN _ _ _) (congrArg (World.drewN _) (Nat.add_assoc _ _ _))⟩))
  go_wp2_with (first
    | (go_at_call 91; refine (isExprContains k ih w0 A c l n2 n' r1 _ B g3 HX.out.1 HX.out.2.1 ?s1 HX.out.2.2.2.1 ?s2 hnn.out.1 hnn.out.2 ?s3 N3.out.2.2.2 hr.out).mono ?_; (case s1 => repeat (first | exact N4.out.1 | (with_reducible refine pw_below_drewN ?_ _))); (case s2 => repeat (first | exact N4.out.2.2.1 | (with_reducible refine blk_drewN ?_ _))); (case s3 => repeat (first | exact N4.out.2.2.2 | (with_reducible refine blk_drewN ?_ _))); rintro e w5 ⟨rfl, a1, a2, a3⟩; have N5 : Aside0 _ := Aside0.mk (show _ ∧ _ ∧ _ from ⟨a1, KeepBut.trans (by repeat (first | exact N4.out.2.1 | (with_reducible refine keep_drewN ?_ _))) a2 (.inl rfl), a3⟩); clear a1 a2 a3))
  go_ret
  exact ⟨rfl, N5.out.1, N5.out.2.1, N5.out.2.2⟩
set_option maxHeartbeats 4000000 in
theorem isExpr.caseD3a (w0 : World) (a : Int) (t : ByteArray) (m : Int) (A : Option Addr) (c : Nat) (l : List S40) (n n2 : Int) (w : World) (B : Nat) (hC : Kd.C k40 w0 A l.length l) (hc : l.length ≤ c) (hb : Below w0.heap.size w0 w) (hg : w0.heap.size ≤ B) (hB : w.heap[B]? = some (.cells #[.int .i64 n] 3 (0, 0))) (hwr : wrap64 (n - 1) = n2) (hn : decide (n2 < 0) = false) (hW : impl_within.f a 0 18 = some true) (hK : impl_kidsOf.f a = some (l.length : Int)) (ha0 : (a == 0) = false) (ha1 : (a == 1) = false) (ha2 : (a == 2) = false) (hn0 : (a != 0) = true) (hn1 : (a != 1) = true) (hn2 : (a != 2) = true) (hb0 : ¬ a = 0) (hb1 : ¬ a = 1) (hb2 : ¬ a = 2) (ht : (t.toList == []) = false) (htn : (t.toList != []) = true) (ht2 : t.toList.isEmpty = false) :
    Calls Try.prog 71 #[.agg #[.int .i64 a, .string t, .int .i64 m, .slice A l.length c], .pointer (some ⟨B, 0, none⟩)] w fun e w' => e = .returned (.bool (false)) ∧ Below w0.heap.size w0 w' ∧ KeepBut w w' B none ∧ w'.heap[B]? = some (.cells #[.int .i64 n2] 3 (0, 0)) := by
  have HX : Aside0 _ := Aside0.mk (show _ ∧ _ ∧ _ ∧ _ ∧ _ from ⟨hC, hc, hb, hg, hB⟩)
  clear hC hc hb hg hB
  replace hW : Aside0 _ := Aside0.mk hW
  replace hK : Aside0 _ := Aside0.mk hK
  go_enter Try.func71, Try.ntmps71
  go_wp2_with (first
    | ((with_reducible refine gate_dst (N := 2) rfl ?_); refine box_event ?hg (N := 2) ?hd (cs := #[.int .i64 a, .string t, .int .i64 m, .slice A l.length c]) (t := 40) ?hr ?_; (case hd => rfl); (case hg => rfl); (case hr => first | (go_simp; done) | (go_simp; rfl)); intro g2 hg w2 hbox hb; have N2 : Aside0 _ := Aside0.mk (show _ ∧ _ ∧ _ from ⟨hb, hbox, (by have h1_ := blk_lt HX.out.2.2.2.2; omega : g2 ≠ B)⟩); clear hb hbox hg)
    | ((with_reducible refine gate_dst (N := 3) rfl ?_); refine box_event ?hg (N := 3) ?hd (cs := #[.pointer (some ⟨B, 0, none⟩)]) (t := 71) ?hr ?_; (case hd => rfl); (case hg => rfl); (case hr => first | (go_simp; done) | (go_simp; rfl)); intro g3 hg w3 hbox hb; have czb : w3.cell? ⟨B, 0, none⟩ = some (.int .i64 n) := (blk_cell (blk_below (blk_below HX.out.2.2.2.2 N2.out.1) hb) 0).trans rfl; have fzb := blk_frozen (blk_below (blk_below HX.out.2.2.2.2 N2.out.1) hb) 0; have czp : w3.cell? ⟨g3, 0, none⟩ = some (.pointer (some ⟨B, 0, none⟩)) := (blk_cell hbox 0).trans rfl; have N3 : Aside0 _ := Aside0.mk (show _ ∧ _ ∧ _ ∧ _ from ⟨hb, hbox, blk_below N2.out.2.1 hb, (by have h1_ := blk_lt (blk_below HX.out.2.2.2.2 N2.out.1); omega : g3 ≠ B)⟩); clear hb hbox hg)
    | ((with_reducible refine gate_store (t := 3) (p := 9) (v := .tmp 8) rfl ?_); refine store_event (t := 3) (p := 9) (v := .tmp 8) (w1 := w3.setCell ⟨B, 0, none⟩ (.int .i64 n2)) ?hg ?ho ?hn ?hr ?_; (case ho => rfl); (case hg => rfl); (case hn => rfl); (case hr => first | (go_simp; done) | (go_simp; rfl)); intro w4 hw; have x2 : w4.heap[g2]? = some (.cells #[.int .i64 a, .string t, .int .i64 m, .slice A l.length c] 40 (0, 0)) := (by rw [hw]; exact blk_far N3.out.2.2.1 N2.out.2.2 _); have x3 : w4.heap[g3]? = some (.cells #[.pointer (some ⟨B, 0, none⟩)] 71 (0, 0)) := (by rw [hw]; exact blk_far N3.out.2.1 N3.out.2.2.2 _); have xb : w4.heap[B]? = some (.cells #[.int .i64 n2] 3 (0, 0)) := (by rw [hw]; exact blk_put (blk_below (blk_below HX.out.2.2.2.2 N2.out.1) N3.out.1) 0 _ rfl); have xl : Below w0.heap.size w0 w4 := (by rw [hw]; exact below_set (below_step (below_step HX.out.2.2.1 N2.out.1) N3.out.1) HX.out.2.2.2.1); have xk : KeepBut w w4 B none := (by rw [hw]; exact KeepBut.set_ ((KeepBut.of_below N2.out.1 B none).trans (KeepBut.of_below N3.out.1 B none) (.inl rfl)) 0 _); have N4 : Aside0 _ := Aside0.mk (show _ ∧ _ ∧ _ ∧ _ from ⟨xl, xk, xb, x3⟩); have ybl : w4.cell? ⟨B, 0, none⟩ = some (.int .i64 n2) := (blk_cell xb 0).trans rfl; have yp : w4.cell? ⟨g3, 0, none⟩ = some (.pointer (some ⟨B, 0, none⟩)) := (blk_cell x3 0).trans rfl; have czg2w4_0 : w4.cell? ⟨g2, 0, none⟩ = some (.int .i64 a) := (blk_cell x2 0).trans rfl; have fzg2w4_0 := blk_frozen x2 0; have czg2w4_1 : w4.cell? ⟨g2, 1, none⟩ = some (.string t) := (blk_cell x2 1).trans rfl; have fzg2w4_1 := blk_frozen x2 1; have czg2w4_2 : w4.cell? ⟨g2, 2, none⟩ = some (.int .i64 m) := (blk_cell x2 2).trans rfl; have fzg2w4_2 := blk_frozen x2 2; have czg2w4_3 : w4.cell? ⟨g2, 3, none⟩ = some (.slice A l.length c) := (blk_cell x2 3).trans rfl; have fzg2w4_3 := blk_frozen x2 3; clear xl xk xb x2 x3 hw))
  go_quiet (first | (go_at_call 88; (with_reducible refine (impl_within.calls a 0 18 true _ hW.out).mono ?_); rintro e w_ ⟨rfl, ⟨nd, rfl⟩⟩; exact ⟨rfl, _, World.drewN_drewN _ _ _⟩) | (go_at_call 89; (with_reducible refine (impl_kidsOf.calls a (l.length : Int) _ hK.out).mono ?_); rintro e w_ ⟨rfl, ⟨nd, rfl⟩⟩; first | exact ⟨rfl, _, World.drewN_drewN _ _ _⟩ | exact ⟨rfl, _, Eq.trans (World.drewN_drewN _ _ _) (congrArg (World.drewN _) (Nat.add_assoc _ _ _))⟩))
  go_wp2_with fail
  go_ret
  exact ⟨rfl, by repeat (first | exact N4.out.1 | (with_reducible refine pw_below_drewN ?_ _)), by repeat (first | exact N4.out.2.1 | (with_reducible refine keep_drewN ?_ _)), by repeat (first | exact N4.out.2.2.1 | (with_reducible refine blk_drewN ?_ _))⟩
set_option maxHeartbeats 4000000 in
theorem isExpr.caseD3b (w0 : World) (a : Int) (m : Int) (A : Option Addr) (c : Nat) (l : List S40) (n n2 : Int) (w : World) (B : Nat) (hC : Kd.C k40 w0 A l.length l) (hc : l.length ≤ c) (hb : Below w0.heap.size w0 w) (hg : w0.heap.size ≤ B) (hB : w.heap[B]? = some (.cells #[.int .i64 n] 3 (0, 0))) (hwr : wrap64 (n - 1) = n2) (hn : decide (n2 < 0) = false) (hW : impl_within.f a 0 18 = some true) (hK : impl_kidsOf.f a = some (l.length : Int)) (ha0 : (a == 0) = false) (ha1 : (a == 1) = false) (ha2 : (a == 2) = false) (hn0 : (a != 0) = true) (hn1 : (a != 1) = true) (hn2 : (a != 2) = true) (hb0 : ¬ a = 0) (hb1 : ¬ a = 1) (hb2 : ¬ a = 2) (hm : (m == 0) = false) (hmn : (m != 0) = true) (hm2 : ¬ m = 0) :
    Calls Try.prog 71 #[.agg #[.int .i64 a, .string (⟨#[]⟩ : ByteArray), .int .i64 m, .slice A l.length c], .pointer (some ⟨B, 0, none⟩)] w fun e w' => e = .returned (.bool (false)) ∧ Below w0.heap.size w0 w' ∧ KeepBut w w' B none ∧ w'.heap[B]? = some (.cells #[.int .i64 n2] 3 (0, 0)) := by
  have HX : Aside0 _ := Aside0.mk (show _ ∧ _ ∧ _ ∧ _ ∧ _ from ⟨hC, hc, hb, hg, hB⟩)
  clear hC hc hb hg hB
  replace hW : Aside0 _ := Aside0.mk hW
  replace hK : Aside0 _ := Aside0.mk hK
  go_enter Try.func71, Try.ntmps71
  go_wp2_with (first
    | ((with_reducible refine gate_dst (N := 2) rfl ?_); refine box_event ?hg (N := 2) ?hd (cs := #[.int .i64 a, .string (⟨#[]⟩ : ByteArray), .int .i64 m, .slice A l.length c]) (t := 40) ?hr ?_; (case hd => rfl); (case hg => rfl); (case hr => first | (go_simp; done) | (go_simp; rfl)); intro g2 hg w2 hbox hb; have N2 : Aside0 _ := Aside0.mk (show _ ∧ _ ∧ _ from ⟨hb, hbox, (by have h1_ := blk_lt HX.out.2.2.2.2; omega : g2 ≠ B)⟩); clear hb hbox hg)
    | ((with_reducible refine gate_dst (N := 3) rfl ?_); refine box_event ?hg (N := 3) ?hd (cs := #[.pointer (some ⟨B, 0, none⟩)]) (t := 71) ?hr ?_; (case hd => rfl); (case hg => rfl); (case hr => first | (go_simp; done) | (go_simp; rfl)); intro g3 hg w3 hbox hb; have czb : w3.cell? ⟨B, 0, none⟩ = some (.int .i64 n) := (blk_cell (blk_below (blk_below HX.out.2.2.2.2 N2.out.1) hb) 0).trans rfl; have fzb := blk_frozen (blk_below (blk_below HX.out.2.2.2.2 N2.out.1) hb) 0; have czp : w3.cell? ⟨g3, 0, none⟩ = some (.pointer (some ⟨B, 0, none⟩)) := (blk_cell hbox 0).trans rfl; have N3 : Aside0 _ := Aside0.mk (show _ ∧ _ ∧ _ ∧ _ from ⟨hb, hbox, blk_below N2.out.2.1 hb, (by have h1_ := blk_lt (blk_below HX.out.2.2.2.2 N2.out.1); omega : g3 ≠ B)⟩); clear hb hbox hg)
    | ((with_reducible refine gate_store (t := 3) (p := 9) (v := .tmp 8) rfl ?_); refine store_event (t := 3) (p := 9) (v := .tmp 8) (w1 := w3.setCell ⟨B, 0, none⟩ (.int .i64 n2)) ?hg ?ho ?hn ?hr ?_; (case ho => rfl); (case hg => rfl); (case hn => rfl); (case hr => first | (go_simp; done) | (go_simp; rfl)); intro w4 hw; have x2 : w4.heap[g2]? = some (.cells #[.int .i64 a, .string (⟨#[]⟩ : ByteArray), .int .i64 m, .slice A l.length c] 40 (0, 0)) := (by rw [hw]; exact blk_far N3.out.2.2.1 N2.out.2.2 _); have x3 : w4.heap[g3]? = some (.cells #[.pointer (some ⟨B, 0, none⟩)] 71 (0, 0)) := (by rw [hw]; exact blk_far N3.out.2.1 N3.out.2.2.2 _); have xb : w4.heap[B]? = some (.cells #[.int .i64 n2] 3 (0, 0)) := (by rw [hw]; exact blk_put (blk_below (blk_below HX.out.2.2.2.2 N2.out.1) N3.out.1) 0 _ rfl); have xl : Below w0.heap.size w0 w4 := (by rw [hw]; exact below_set (below_step (below_step HX.out.2.2.1 N2.out.1) N3.out.1) HX.out.2.2.2.1); have xk : KeepBut w w4 B none := (by rw [hw]; exact KeepBut.set_ ((KeepBut.of_below N2.out.1 B none).trans (KeepBut.of_below N3.out.1 B none) (.inl rfl)) 0 _); have N4 : Aside0 _ := Aside0.mk (show _ ∧ _ ∧ _ ∧ _ from ⟨xl, xk, xb, x3⟩); have ybl : w4.cell? ⟨B, 0, none⟩ = some (.int .i64 n2) := (blk_cell xb 0).trans rfl; have yp : w4.cell? ⟨g3, 0, none⟩ = some (.pointer (some ⟨B, 0, none⟩)) := (blk_cell x3 0).trans rfl; have czg2w4_0 : w4.cell? ⟨g2, 0, none⟩ = some (.int .i64 a) := (blk_cell x2 0).trans rfl; have fzg2w4_0 := blk_frozen x2 0; have czg2w4_1 : w4.cell? ⟨g2, 1, none⟩ = some (.string (⟨#[]⟩ : ByteArray)) := (blk_cell x2 1).trans rfl; have fzg2w4_1 := blk_frozen x2 1; have czg2w4_2 : w4.cell? ⟨g2, 2, none⟩ = some (.int .i64 m) := (blk_cell x2 2).trans rfl; have fzg2w4_2 := blk_frozen x2 2; have czg2w4_3 : w4.cell? ⟨g2, 3, none⟩ = some (.slice A l.length c) := (blk_cell x2 3).trans rfl; have fzg2w4_3 := blk_frozen x2 3; clear xl xk xb x2 x3 hw))
  go_quiet (first | (go_at_call 88; (with_reducible refine (impl_within.calls a 0 18 true _ hW.out).mono ?_); rintro e w_ ⟨rfl, ⟨nd, rfl⟩⟩; exact ⟨rfl, _, World.drewN_drewN _ _ _⟩) | (go_at_call 89; (with_reducible refine (impl_kidsOf.calls a (l.length : Int) _ hK.out).mono ?_); rintro e w_ ⟨rfl, ⟨nd, rfl⟩⟩; first | exact ⟨rfl, _, World.drewN_drewN _ _ _⟩ | exact ⟨rfl, _, Eq.trans (World.drewN_drewN _ _ _) (congrArg (World.drewN _) (Nat.add_assoc _ _ _))⟩))
  go_wp2_with fail
  go_ret
  exact ⟨rfl, by repeat (first | exact N4.out.1 | (with_reducible refine pw_below_drewN ?_ _)), by repeat (first | exact N4.out.2.1 | (with_reducible refine keep_drewN ?_ _)), by repeat (first | exact N4.out.2.2.1 | (with_reducible refine blk_drewN ?_ _))⟩
set_option maxHeartbeats 4000000 in
theorem isExpr.caseD3c (k : Nat) (ih : ∀ j, j < k → isExpr.S j) (n' : Int) (r1 : Bool) (w0 : World) (a : Int) (A : Option Addr) (c : Nat) (l : List S40) (n n2 : Int) (w : World) (B : Nat) (hC : Kd.C k40 w0 A l.length l) (hc : l.length ≤ c) (hb : Below w0.heap.size w0 w) (hg : w0.heap.size ≤ B) (hB : w.heap[B]? = some (.cells #[.int .i64 n] 3 (0, 0))) (hwr : wrap64 (n - 1) = n2) (hn : decide (n2 < 0) = false) (hW : impl_within.f a 0 18 = some true) (hK : impl_kidsOf.f a = some (l.length : Int)) (ha0 : (a == 0) = false) (ha1 : (a == 1) = false) (ha2 : (a == 2) = false) (hn0 : (a != 0) = true) (hn1 : (a != 1) = true) (hn2 : (a != 2) = true) (hb0 : ¬ a = 0) (hb1 : ¬ a = 1) (hb2 : ¬ a = 2) (hnn : 0 ≤ n2 ∧ n2 ≤ 40) (hr : isExprAny k l n2 = some (r1, n')) :
    Calls Try.prog 71 #[.agg #[.int .i64 a, .string (⟨#[]⟩ : ByteArray), .int .i64 0, .slice A l.length c], .pointer (some ⟨B, 0, none⟩)] w fun e w' => e = .returned (.bool (!r1)) ∧ Below w0.heap.size w0 w' ∧ KeepBut w w' B none ∧ w'.heap[B]? = some (.cells #[.int .i64 n'] 3 (0, 0)) := by
  have HX : Aside0 _ := Aside0.mk (show _ ∧ _ ∧ _ ∧ _ ∧ _ from ⟨hC, hc, hb, hg, hB⟩)
  clear hC hc hb hg hB
  replace hW : Aside0 _ := Aside0.mk hW
  replace hK : Aside0 _ := Aside0.mk hK
  replace hnn : Aside0 _ := Aside0.mk hnn
  replace hr : Aside0 _ := Aside0.mk hr
  go_enter Try.func71, Try.ntmps71
  go_wp2_with (first
    | ((with_reducible refine gate_dst (N := 2) rfl ?_); refine box_event ?hg (N := 2) ?hd (cs := #[.int .i64 a, .string (⟨#[]⟩ : ByteArray), .int .i64 0, .slice A l.length c]) (t := 40) ?hr ?_; (case hd => rfl); (case hg => rfl); (case hr => first | (go_simp; done) | (go_simp; rfl)); intro g2 hg w2 hbox hb; have N2 : Aside0 _ := Aside0.mk (show _ ∧ _ ∧ _ from ⟨hb, hbox, (by have h1_ := blk_lt HX.out.2.2.2.2; omega : g2 ≠ B)⟩); clear hb hbox hg)
    | ((with_reducible refine gate_dst (N := 3) rfl ?_); refine box_event ?hg (N := 3) ?hd (cs := #[.pointer (some ⟨B, 0, none⟩)]) (t := 71) ?hr ?_; (case hd => rfl); (case hg => rfl); (case hr => first | (go_simp; done) | (go_simp; rfl)); intro g3 hg w3 hbox hb; have czb : w3.cell? ⟨B, 0, none⟩ = some (.int .i64 n) := (blk_cell (blk_below (blk_below HX.out.2.2.2.2 N2.out.1) hb) 0).trans rfl; have fzb := blk_frozen (blk_below (blk_below HX.out.2.2.2.2 N2.out.1) hb) 0; have czp : w3.cell? ⟨g3, 0, none⟩ = some (.pointer (some ⟨B, 0, none⟩)) := (blk_cell hbox 0).trans rfl; have N3 : Aside0 _ := Aside0.mk (show _ ∧ _ ∧ _ ∧ _ from ⟨hb, hbox, blk_below N2.out.2.1 hb, (by have h1_ := blk_lt (blk_below HX.out.2.2.2.2 N2.out.1); omega : g3 ≠ B)⟩); clear hb hbox hg)
    | ((with_reducible refine gate_store (t := 3) (p := 9) (v := .tmp 8) rfl ?_); refine store_event (t := 3) (p := 9) (v := .tmp 8) (w1 := w3.setCell ⟨B, 0, none⟩ (.int .i64 n2)) ?hg ?ho ?hn ?hr ?_; (case ho => rfl); (case hg => rfl); (case hn => rfl); (case hr => first | (go_simp; done) | (go_simp; rfl)); intro w4 hw; have x2 : w4.heap[g2]? = some (.cells #[.int .i64 a, .string (⟨#[]⟩ : ByteArray), .int .i64 0, .slice A l.length c] 40 (0, 0)) := (by rw [hw]; exact blk_far N3.out.2.2.1 N2.out.2.2 _); have x3 : w4.heap[g3]? = some (.cells #[.pointer (some ⟨B, 0, none⟩)] 71 (0, 0)) := (by rw [hw]; exact blk_far N3.out.2.1 N3.out.2.2.2 _); have xb : w4.heap[B]? = some (.cells #[.int .i64 n2] 3 (0, 0)) := (by rw [hw]; exact blk_put (blk_below (blk_below HX.out.2.2.2.2 N2.out.1) N3.out.1) 0 _ rfl); have xl : Below w0.heap.size w0 w4 := (by rw [hw]; exact below_set (below_step (below_step HX.out.2.2.1 N2.out.1) N3.out.1) HX.out.2.2.2.1); have xk : KeepBut w w4 B none := (by rw [hw]; exact KeepBut.set_ ((KeepBut.of_below N2.out.1 B none).trans (KeepBut.of_below N3.out.1 B none) (.inl rfl)) 0 _); have N4 : Aside0 _ := Aside0.mk (show _ ∧ _ ∧ _ ∧ _ from ⟨xl, xk, xb, x3⟩); have ybl : w4.cell? ⟨B, 0, none⟩ = some (.int .i64 n2) := (blk_cell xb 0).trans rfl; have yp : w4.cell? ⟨g3, 0, none⟩ = some (.pointer (some ⟨B, 0, none⟩)) := (blk_cell x3 0).trans rfl; have czg2w4_0 : w4.cell? ⟨g2, 0, none⟩ = some (.int .i64 a) := (blk_cell x2 0).trans rfl; have fzg2w4_0 := blk_frozen x2 0; have czg2w4_1 : w4.cell? ⟨g2, 1, none⟩ = some (.string (⟨#[]⟩ : ByteArray)) := (blk_cell x2 1).trans rfl; have fzg2w4_1 := blk_frozen x2 1; have czg2w4_2 : w4.cell? ⟨g2, 2, none⟩ = some (.int .i64 0) := (blk_cell x2 2).trans rfl; have fzg2w4_2 := blk_frozen x2 2; have czg2w4_3 : w4.cell? ⟨g2, 3, none⟩ = some (.slice A l.length c) := (blk_cell x2 3).trans rfl; have fzg2w4_3 := blk_frozen x2 3; clear xl xk xb x2 x3 hw))
  go_quiet (first | (go_at_call 88; (with_reducible refine (impl_within.calls a 0 18 true _ hW.out).mono ?_); rintro e w_ ⟨rfl, ⟨nd, rfl⟩⟩; exact ⟨rfl, _, World.drewN_drewN _ _ _⟩) | (go_at_call 89; (with_reducible refine (impl_kidsOf.calls a (l.length : Int) _ hK.out).mono ?_); rintro e w_ ⟨rfl, ⟨nd, rfl⟩⟩; first | exact ⟨rfl, _, World.drewN_drewN _ _ _⟩ | exact ⟨rfl, _, Eq.trans (World.drewN_drewN _ _ _) (congrArg (World.drewN _) (Nat.add_assoc _ _ _))⟩))
  go_wp2_with (first
    | (go_at_call 91; refine (isExprContains k ih w0 A c l n2 n' r1 _ B g3 HX.out.1 HX.out.2.1 ?s1 HX.out.2.2.2.1 ?s2 hnn.out.1 hnn.out.2 ?s3 N3.out.2.2.2 hr.out).mono ?_; (case s1 => repeat (first | exact N4.out.1 | (with_reducible refine pw_below_drewN ?_ _))); (case s2 => repeat (first | exact N4.out.2.2.1 | (with_reducible refine blk_drewN ?_ _))); (case s3 => repeat (first | exact N4.out.2.2.2 | (with_reducible refine blk_drewN ?_ _))); rintro e w5 ⟨rfl, a1, a2, a3⟩; have N5 : Aside0 _ := Aside0.mk (show _ ∧ _ ∧ _ from ⟨a1, KeepBut.trans (by repeat (first | exact N4.out.2.1 | (with_reducible refine keep_drewN ?_ _))) a2 (.inl rfl), a3⟩); clear a1 a2 a3))
  go_ret
  exact ⟨rfl, N5.out.1, N5.out.2.1, N5.out.2.2⟩

theorem within_yes {a x y : Int} (h : x ≤ a) (h' : a ≤ y) : impl_within.f a x y = some true := by
  unfold impl_within.f
  rw [if_pos h, decide_eq_true h']
theorem within_no {a x y : Int} (h : ¬ (x ≤ a ∧ a ≤ y)) : impl_within.f a x y = some false := by
  unfold impl_within.f
  by_cases h1 : a ≥ x
  · rw [if_pos h1, decide_eq_false (fun h2 => h ⟨h1, h2⟩)]
  · rw [if_neg h1]
theorem list_ne {l : List UInt8} (h : ¬ l = []) : (l == []) = false ∧ (l != []) = true ∧ l.isEmpty = false := by
  cases l with
  | nil => exact absurd rfl h
  | cons x l => exact ⟨rfl, rfl, rfl⟩
theorem int_ne {a b : Int} (h : ¬ a = b) : (a == b) = false ∧ (a != b) = true := ⟨beq_eq_false_iff_ne.2 h, bne_iff_ne.2 h⟩
theorem empty_of {t : ByteArray} (h : t.toList = []) : t = ⟨#[]⟩ := by
  rw [Lib.toList_data] at h
  cases t with
  | mk d => cases d with | mk l => simp at h; subst h; rfl
theorem isExpr.step (k : Nat) (ih : ∀ j, j < k → isExpr.S j) : isExpr.S k := by
  intro w0 a t m A c l n n' r w B hC hc hb hg hB h0 h1 h
  cases k with
  | zero => exact absurd h (by simp [isExprF])
  | succ k =>
  have ih' : ∀ j, j < k → isExpr.S j := fun j hj => ih j (by omega)
  have hwr : wrap64 (n - 1) = n - 1 := by unfold wrap64; omega
  simp only [isExprF] at h
  by_cases c1 : n - 1 < 0
  · rw [if_pos c1] at h
    obtain ⟨rfl, rfl⟩ := Prod.mk.inj (Option.some.inj h)
    exact isExpr.caseA w0 a t m A c l n (n - 1) w B hC hc hb hg hB hwr (decide_eq_true c1)
  have d1 := decide_eq_false c1
  have n0 : 0 ≤ n - 1 ∧ n - 1 ≤ 40 := by omega
  rw [if_neg c1] at h
  obtain ⟨b, hb1, h⟩ := Option.bind_eq_some_iff.1 h
  unfold nodeOk at hb1
  by_cases r1 : 0 ≤ a ∧ a ≤ 18
  case neg =>
    rw [if_pos r1] at hb1
    obtain rfl := Option.some.inj hb1
    rw [if_pos rfl] at h
    obtain ⟨rfl, rfl⟩ := Prod.mk.inj (Option.some.inj h)
    exact isExpr.caseB w0 a t m A c l n (n - 1) w B hC hc hb hg hB hwr d1 (within_no r1)
  rw [if_neg (fun h => h r1)] at hb1
  have hW := within_yes r1.1 r1.2
  obtain ⟨q, hq, hb1⟩ := Option.bind_eq_some_iff.1 hb1
  by_cases lq : (l.length : Int) = q
  case neg =>
    rw [if_pos lq] at hb1
    obtain rfl := Option.some.inj hb1
    rw [if_pos rfl] at h
    obtain ⟨rfl, rfl⟩ := Prod.mk.inj (Option.some.inj h)
    exact isExpr.caseC w0 a t m q A c l n (n - 1) w B hC hc hb hg hB hwr d1 hW hq (int_ne lq).1
  rw [if_neg (fun h => h lq)] at hb1
  subst lq
  obtain ⟨z, hz, hb1⟩ := Option.bind_eq_some_iff.1 hb1
  have fin : ∀ b2 : Bool, b = b2 → (if b2 = false then some (false, n - 1) else (isExprAny k l (n - 1)).bind fun r => some (!r.1, r.2)) = some (r, n') := fun b2 e => by subst e; exact h
  have no : b = false → r = false ∧ n' = n - 1 := fun e => by
    have h2 := fin false e
    rw [if_pos rfl] at h2
    obtain ⟨e1, e2⟩ := Prod.mk.inj (Option.some.inj h2)
    exact ⟨e1.symm, e2.symm⟩
  have yes : b = true → ∃ r2, isExprAny k l (n - 1) = some (r2, n') ∧ r = !r2 := fun e => by
    have h2 := fin true e
    rw [if_neg (by simp)] at h2
    obtain ⟨⟨x, y⟩, hx, h3⟩ := Option.bind_eq_some_iff.1 h2
    obtain ⟨e1, e2⟩ := Prod.mk.inj (Option.some.inj h3)
    have e2 : y = n' := e2
    subst e2
    exact ⟨x, hx, e1.symm⟩
  by_cases a0 : a = 0
  · subst a0
    rw [if_pos rfl] at hz
    cases z with
    | false =>
      rw [if_pos rfl] at hb1
      obtain ⟨rfl, rfl⟩ := no (Option.some.inj hb1).symm
      exact isExpr.caseD0a w0 t m A c l n (n - 1) w B hC hc hb hg hB hwr d1 hW hq hz
    | true =>
      rw [if_neg (by simp), if_neg (by omega), if_neg (by omega), if_neg (by omega)] at hb1
      by_cases hm : m = 0
      · subst hm
        rw [if_neg (by omega)] at hb1
        obtain ⟨r2, hr, rfl⟩ := yes (Option.some.inj hb1).symm
        exact isExpr.caseD0c k ih' n' r2 w0 t A c l n (n - 1) w B hC hc hb hg hB hwr d1 hW hq hz n0 hr
      · rw [if_pos ⟨by omega, hm⟩] at hb1
        obtain ⟨rfl, rfl⟩ := no (Option.some.inj hb1).symm
        exact isExpr.caseD0b w0 t m A c l n (n - 1) w B hC hc hb hg hB hwr d1 hW hq hz (int_ne hm).1 (int_ne hm).2 hm
  rw [if_neg a0] at hz
  obtain rfl := Option.some.inj hz
  rw [if_neg (by simp)] at hb1
  by_cases a2 : a = 2
  · subst a2
    by_cases ts : t.size > 100
    · rw [if_pos ⟨rfl, ts⟩] at hb1
      obtain ⟨rfl, rfl⟩ := no (Option.some.inj hb1).symm
      exact isExpr.caseD2a w0 t m A c l n (n - 1) w B hC hc hb hg hB hwr d1 hW hq (decide_eq_true (by omega))
    · rw [if_neg (by omega), if_neg (by omega), if_neg (by omega)] at hb1
      by_cases hm : m = 0
      · subst hm
        rw [if_neg (by omega)] at hb1
        obtain ⟨r2, hr, rfl⟩ := yes (Option.some.inj hb1).symm
        exact isExpr.caseD2c k ih' n' r2 w0 t A c l n (n - 1) w B hC hc hb hg hB hwr d1 hW hq (decide_eq_false (by omega)) n0 hr
      · rw [if_pos ⟨by omega, hm⟩] at hb1
        obtain ⟨rfl, rfl⟩ := no (Option.some.inj hb1).symm
        exact isExpr.caseD2b w0 t m A c l n (n - 1) w B hC hc hb hg hB hwr d1 hW hq (decide_eq_false (by omega)) (int_ne hm).1 (int_ne hm).2 hm
  rw [if_neg (by omega)] at hb1
  by_cases te : t.toList = []
  case neg =>
    rw [if_pos ⟨a0, a2, te⟩] at hb1
    obtain ⟨rfl, rfl⟩ := no (Option.some.inj hb1).symm
    obtain ⟨t1, t2, t3⟩ := list_ne te
    by_cases a1 : a = 1
    · subst a1
      exact isExpr.caseD1a w0 t m A c l n (n - 1) w B hC hc hb hg hB hwr d1 hW hq t1 t2 t3
    · exact isExpr.caseD3a w0 a t m A c l n (n - 1) w B hC hc hb hg hB hwr d1 hW hq (int_ne a0).1 (int_ne a1).1 (int_ne a2).1 (int_ne a0).2 (int_ne a1).2 (int_ne a2).2 a0 a1 a2 t1 t2 t3
  obtain rfl := empty_of te
  rw [if_neg (fun h => h.2.2 te)] at hb1
  by_cases a1 : a = 1
  · subst a1
    by_cases hm : 0 ≤ m ∧ m ≤ 999999999
    · rw [if_neg (fun h => h.2 hm), if_neg (by omega)] at hb1
      obtain ⟨r2, hr, rfl⟩ := yes (Option.some.inj hb1).symm
      exact isExpr.caseD1c k ih' n' r2 w0 m A c l n (n - 1) w B hC hc hb hg hB hwr d1 hW hq (within_yes hm.1 hm.2) n0 hr
    · rw [if_pos ⟨rfl, hm⟩] at hb1
      obtain ⟨rfl, rfl⟩ := no (Option.some.inj hb1).symm
      exact isExpr.caseD1b w0 m A c l n (n - 1) w B hC hc hb hg hB hwr d1 hW hq (within_no hm)
  rw [if_neg (by omega)] at hb1
  by_cases hm : m = 0
  · subst hm
    rw [if_neg (by omega)] at hb1
    obtain ⟨r2, hr, rfl⟩ := yes (Option.some.inj hb1).symm
    exact isExpr.caseD3c k ih' n' r2 w0 a A c l n (n - 1) w B hC hc hb hg hB hwr d1 hW hq (int_ne a0).1 (int_ne a1).1 (int_ne a2).1 (int_ne a0).2 (int_ne a1).2 (int_ne a2).2 a0 a1 a2 n0 hr
  · rw [if_pos ⟨a1, hm⟩] at hb1
    obtain ⟨rfl, rfl⟩ := no (Option.some.inj hb1).symm
    exact isExpr.caseD3b w0 a m A c l n (n - 1) w B hC hc hb hg hB hwr d1 hW hq (int_ne a0).1 (int_ne a1).1 (int_ne a2).1 (int_ne a0).2 (int_ne a1).2 (int_ne a2).2 a0 a1 a2 (int_ne hm).1 (int_ne hm).2 hm
theorem isExpr.all (k : Nat) : isExpr.S k := by
  induction k using Nat.strongRecOn with
  | _ k ih => exact isExpr.step k ih
def impl_ExprOk.f (k : Nat) (a : Int) (t : ByteArray) (m : Int) (l : List S40) : Option Bool := (isExprF k a t m l 40).map (·.1)
set_option maxHeartbeats 4000000 in
theorem impl_ExprOk.calls (k : Nat) (a0_0 : Int) (a0_1 : ByteArray) (a0_2 : Int) (A0_3 : Option Addr) (c0_3 : Nat) (l0_3 : List S40) (r : Bool) (w : World) (hr0_3 : Kd.C k40 w A0_3 l0_3.length l0_3) (hc0_3 : l0_3.length ≤ c0_3) (h : impl_ExprOk.f k a0_0 a0_1 a0_2 l0_3 = some r) :
    Calls Try.prog 44 #[.agg #[.int .i64 a0_0, .string a0_1, .int .i64 a0_2, .slice A0_3 l0_3.length c0_3]] w fun e w' => e = .returned (.bool r) ∧ Below w.heap.size w w' := by
  unfold impl_ExprOk.f at h
  obtain ⟨⟨r2, n'⟩, h2, e⟩ := Option.map_eq_some_iff.1 h
  clear h
  have h := h2
  clear h2
  have e : r = r2 := e.symm
  subst e
  have hX : Aside0 _ := Aside0.mk (show _ ∧ _ ∧ _ from ⟨hr0_3, hc0_3, h⟩)
  clear hr0_3 hc0_3 h
  go_enter Try.func44, Try.ntmps44
  go_wp2_with (first
    | ((with_reducible refine gate_dst (N := 1) rfl ?_); refine box_event ?hg (N := 1) ?hd (cs := #[.int .i64 a0_0, .string a0_1, .int .i64 a0_2, .slice A0_3 l0_3.length c0_3]) (t := 40) ?hr ?_; (case hd => rfl); (case hg => rfl); (case hr => first | (go_simp; done) | (go_simp; rfl)); intro g1 hg w2 hbox hb; have N1 : Aside0 _ := Aside0.mk (show _ ∧ _ from ⟨hb, hbox⟩); clear hb hbox; have hg1 : Aside0 (g1 = w.heap.size) := ⟨hg⟩; clear hg)
    | ((with_reducible refine gate_dst (N := 3) rfl ?_); refine box_event ?hg (N := 3) ?hd (cs := #[.int .i64 0]) (t := 3) ?hr ?_; (case hd => rfl); (case hg => rfl); (case hr => first | (go_simp; done) | (go_simp; rfl)); intro g3 hg w3 hbox hb; have x0 : w3.cell? ⟨g3, 0, none⟩ = some (.int .i64 0) := (blk_cell hbox 0).trans rfl; have xf := blk_frozen hbox 0; have xg : Aside0 (g3 ≠ g1 ∧ w.heap.size ≤ g3) := ⟨by have h1_ := blk_lt N1.out.2; omega, by have h1_ := N1.out.1.size; omega⟩; have N3 : Aside0 _ := Aside0.mk (show _ ∧ _ ∧ _ from ⟨hb, hbox, blk_below N1.out.2 hb⟩); clear hb hbox hg)
    | ((with_reducible refine gate_store (t := 3) (p := 3) (v := .const (.int .i64 40)) rfl ?_); refine store_event (t := 3) (p := 3) (v := .const (.int .i64 40)) (w1 := w3.setCell ⟨g3, 0, none⟩ (.int .i64 40)) ?hg ?ho ?hn ?hr ?_; (case ho => rfl); (case hg => rfl); (case hn => rfl); (case hr => first | (go_simp; done) | (go_simp; rfl)); intro w4 hw; have x2 : w4.heap[g1]? = some (.cells #[.int .i64 a0_0, .string a0_1, .int .i64 a0_2, .slice A0_3 l0_3.length c0_3] 40 (0, 0)) := (by rw [hw]; exact blk_far N3.out.2.2 (Ne.symm xg.out.1) _); have xb : w4.heap[g3]? = some (.cells #[.int .i64 40] 3 (0, 0)) := (by rw [hw]; exact blk_put N3.out.2.1 0 _ rfl); have xl : Below w.heap.size w w4 := (by rw [hw]; exact below_set (below_step N1.out.1 N3.out.1) xg.out.2); have N4 : Aside0 _ := Aside0.mk (show _ ∧ _ from ⟨xl, xb⟩); have czg1w4_0 : w4.cell? ⟨g1, 0, none⟩ = some (.int .i64 a0_0) := (blk_cell x2 0).trans rfl; have fzg1w4_0 := blk_frozen x2 0; have czg1w4_1 : w4.cell? ⟨g1, 1, none⟩ = some (.string a0_1) := (blk_cell x2 1).trans rfl; have fzg1w4_1 := blk_frozen x2 1; have czg1w4_2 : w4.cell? ⟨g1, 2, none⟩ = some (.int .i64 a0_2) := (blk_cell x2 2).trans rfl; have fzg1w4_2 := blk_frozen x2 2; have czg1w4_3 : w4.cell? ⟨g1, 3, none⟩ = some (.slice A0_3 l0_3.length c0_3) := (blk_cell x2 3).trans rfl; have fzg1w4_3 := blk_frozen x2 3; clear xl xb x2 hw)
    | (go_at_call 71; refine (isExpr.all k w a0_0 a0_1 a0_2 A0_3 c0_3 l0_3 40 n' r _ g3 hX.out.1 hX.out.2.1 N4.out.1 xg.out.2 N4.out.2 (by decide) (by decide) hX.out.2.2).mono ?_; rintro e w5 ⟨rfl, a1, a2, a3⟩; have N5 := Aside0.mk a1; clear a1 a2 a3))
  go_ret
  exact ⟨rfl, N5.out⟩
end Go.Proofs.Ytbbndlagginnoaa.Q
