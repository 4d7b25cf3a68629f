/- impl.Put at a list of at most 2^42 texts: slices.IndexFunc, slices.Clone and slices.Insert by the shelf's contracts. -/
import Derived.Test.YtbbndlagginnoaaQ0
import Derived.Test.YtbbndlagginnoaaShelf
import Derived.Test.YtbbndlagginnoaaFRow
import Derived.Deep.Onto
import Derived.Deep.AppendLies
import Derived.Deep.RegionLaw
import Derived.Deep.RegionWith
namespace Go.Proofs.Ytbbndlagginnoaa.Q
open Go Go.RowKit Go.Lib Go.Sort Go.Proofs.YtbbndlagginnoaaW.PrintWords Go.Proofs.YtbbndlagginnoaaW.PrintLast Go.Proofs.YtbbndlagginnoaaW.PrintMore
set_option linter.unusedSimpArgs false
set_option linter.unusedVariables false
/-- Whether a text stands at or behind s. -/
def atBehind (s x : ByteArray) : Bool := !Op.bytesLess x.toList s.toList
theorem Put1.gives (s x : ByteArray) (B : Nat) (W : World) (hc : W.cell? ⟨B, 0, none⟩ = some (.string s)) :
    FnGives Try.prog 57 #[.pointer (some ⟨B, 0, none⟩)] #[.string x] (.bool (atBehind s x)) W := by
  show Calls Try.prog 57 #[.string x, .pointer (some ⟨B, 0, none⟩)] W _
  unfold atBehind
  go_enter Try.func57, Try.ntmps57
  go_wp2
  all_goals (go_ret; exact ⟨by simp_all, 0, rfl⟩)
theorem idxPut (s : ByteArray) (B : Nat) (A0 : Option Addr) (c0 : Nat) (l0 : List ByteArray) (w : World) (hr : Kd.C Kd.string w A0 l0.length l0) (hn : l0.length ≤ 9223372036854775807) (hB : w.cell? ⟨B, 0, none⟩ = some (.string s)) :
    Calls Try.prog 56 #[.slice A0 l0.length c0, .func (.func 57) #[] #[.pointer (some ⟨B, 0, none⟩)]] w fun e w' =>
      e = .returned (.int .i64 (Lib.idxBy (fun _ y => atBehind s y) l0 default)) ∧ ∃ q, w' = w.drewN q := by
  cases l0 with
  | nil =>
    refine (Try.slices_IndexFunc_empty (α := ByteArray) A0 c0 _ w).mono ?_
    rintro e w' ⟨rfl, rfl⟩
    exact ⟨rfl, 0, rfl⟩
  | cons x l =>
    obtain ⟨b, o, rfl, _, hcell⟩ := Aid.strs_cells hr (by simp)
    have hBw : B < w.heap.size := World.block_lt_of_cell? w _ hB
    have eg : ∀ args w, (callFunc 57 args).run Try.prog w = .ok (.enter 57 args) w := enters_of Try.func57 (by kernel_rfl) rfl
    have h1 := Try.slices_IndexFunc Value.string (atBehind s) 57 #[.pointer (some ⟨B, 0, none⟩)] eg b o (x :: l).length c0 (x :: l) w
      (fun W y hb => Put1.gives s y B W ((hb.cell (p := ⟨B, 0, none⟩) hBw).trans hB)) (Nat.le_refl _) hn (fun j hj => by rw [getElem!_pos (x :: l) j hj]; exact hcell j _ (List.getElem?_eq_getElem hj))
    rwa [List.take_of_length_le (Nat.le_refl _)] at h1
theorem cloneOwn (A0 : Option Addr) (c0 : Nat) (l0 : List ByteArray) (w : World) (hr : Kd.C Kd.string w A0 l0.length l0) (hn : l0.length * 16 ≤ 140737488355328) :
    Calls Try.prog 52 #[.slice A0 l0.length c0] w fun e w' => ∃ v', e = .returned v' ∧ w'.ownsRow w.heap.size 9 1 v' l0.length (l0.map Value.string) ∧ Below w.heap.size w w' := by
  by_cases hA : A0 = none
  · subst hA
    have h0 : l0 = [] := by
      obtain ⟨_, _, hc⟩ := hr
      cases l0 with
      | nil => rfl
      | cons x l => obtain ⟨ad, h1, _⟩ := hc (by simp); cases h1
    subst h0
    refine (Try.slices_Clone_string_nil 0 c0 w).mono ?_
    rintro e w' ⟨rfl, rfl⟩
    exact ⟨_, rfl, World.ownsRow_nil _ _ _ _, Below.refl _ _⟩
  · cases l0 with
    | nil =>
      obtain ⟨ad, rfl⟩ := Option.ne_none_iff_exists'.1 hA
      refine (Try.slices_Clone_string_zero ad c0 w).mono ?_
      rintro e w' ⟨v', rfl, h1, _, h2⟩
      exact ⟨v', rfl, h1, h2⟩
    | cons x l =>
      obtain ⟨b, o, rfl, hb, hcell⟩ := Aid.strs_cells hr (by simp)
      have := Try.slices_Clone_string b o (x :: l).length c0 (x :: l) w (Nat.le_refl _) hn (fun j hj => by
        rw [hcell j _ (List.getElem?_eq_getElem hj), List.getD_eq_getElem?_getD, List.getElem?_eq_getElem hj]; rfl)
      rw [List.take_of_length_le (Nat.le_refl _)] at this
      refine this.mono ?_
      rintro e w' ⟨v', rfl, h1, _, h2⟩
      exact ⟨v', rfl, h1, h2⟩
/-- The list with the text put in its place. -/
def putB (s : ByteArray) : List ByteArray → List ByteArray
  | [] => [s]
  | x :: l => if atBehind s x then (if x.toList = s.toList then x :: l else s :: x :: l) else x :: putB s l
theorem putB_miss (s : ByteArray) : ∀ l : List ByteArray, (∀ j, j < l.length → atBehind s l[j]! = false) → putB s l = l ++ [s]
  | [], _ => rfl
  | x :: l, h => by
    have h0 := h 0 (by simp)
    simp at h0
    rw [putB, if_neg (by simp [h0]), putB_miss s l (fun j hj => by simpa using h (j + 1) (by simpa using hj))]
    rfl
theorem putB_hit (s : ByteArray) : ∀ (l : List ByteArray) (k : Nat), k < l.length → atBehind s l[k]! = true → (∀ j, j < k → atBehind s l[j]! = false) →
    putB s l = if l[k]!.toList = s.toList then l else l.take k ++ s :: l.drop k
  | [], k, hk, _, _ => absurd hk (Nat.not_lt_zero _)
  | x :: l, 0, _, h, _ => by
    have h : atBehind s x = true := by simpa using h
    rw [putB, if_pos h]
    simp
  | x :: l, k + 1, hk, h, hn => by
    have h0 := hn 0 (by omega)
    simp at h0
    rw [putB, if_neg (by simp [h0]), putB_hit s l k (by simpa using hk) (by simpa using h) (fun j hj => by simpa using hn (j + 1) (by omega))]
    simp only [List.getElem!_cons_succ, List.take_succ_cons, List.drop_succ_cons]
    split <;> simp
theorem below_imp {a w : World} (h : Below a.heap.size a w) (p : Addr) (v : Value) : a.cell? p = some v → w.cell? p = some v := fun hp => (h.cell (World.block_lt_of_cell? a _ hp)).trans hp
theorem cell_drewN {w : World} {p : Addr} {v : Value} (h : w.cell? p = some v) (q : Nat) : (w.drewN q).cell? p = some v := h
theorem cell_drew {w : World} {p : Addr} {v : Value} (h : w.cell? p = some v) : w.drew.cell? p = some v := h
theorem new_cell {w : World} {n : Nat} {v : Value} {t : TypeId} (h : w.heap.size = n) : (w.alloc (.cells #[v] t)).cell? ⟨n, 0, none⟩ = some v := by
  subst h
  simp
theorem new_blk {w : World} {n : Nat} {o : Obj} (h : w.heap.size = n) : (w.alloc o).heap[n]? = some o := by
  subst h
  exact heap_alloc_new w o
theorem below_blk {a w : World} (h : Below a.heap.size a w) (n : Nat) (o : Obj) (hn : a.heap[n]? = some o) : w.heap[n]? = some o := (h.block n (Array.getElem?_eq_some_iff.1 hn).1).trans hn
theorem own_far {w : World} {base : Nat} {e : TypeId} {v : Value} {n : Nat} {xs : List Value} (h : w.ownsRow base e 1 v n xs) (m : Nat) (hm : m < base) : v.ownBlock ≠ some m := fun e => by have := h.lt _ e; omega
theorem one_cell {w : World} {b : Nat} {v : Value} (h : w.cell? ⟨b, 0, none⟩ = some v) : ∀ j u, ([v] : List Value)[j]? = some u → w.cell? ((⟨b, 0, none⟩ : Addr).add j) = some u := by
  intro j u hj
  cases j with
  | zero => simp at hj; subst hj; exact h
  | succ j => simp at hj
def impl_Put.f (l0 : List ByteArray) (a1 : ByteArray) : Option (List ByteArray) := if (l0.length + 1) * 16 ≤ 140737488355328 then some (putB a1 l0) else none
set_option maxHeartbeats 4000000 in
set_option maxRecDepth 100000 in
theorem impl_Put.calls (A0 : Option Addr) (c0 : Nat) (l0 : List ByteArray) (a1 : ByteArray) (r : List ByteArray) (w : World) (hr0 : Kd.C Kd.string w A0 l0.length l0) (hc0 : l0.length ≤ c0) (h : impl_Put.f l0 a1 = some r) :
    Calls Try.prog 25 #[.slice A0 l0.length c0, .string a1] w fun e w' => ∃ v0_ : Value, e = .returned v0_ ∧ Kd.R Kd.string 9 w' w.heap.size (fun _ => True) v0_ r ∧ Below w.heap.size w w' := by
  unfold impl_Put.f at h
  by_cases hl : (l0.length + 1) * 16 ≤ 140737488355328
  case neg => rw [if_neg hl] at h; cases h
  rw [if_pos hl] at h
  obtain rfl := Option.some.inj h
  clear h
  have hW1 : ∀ o q, Below w.heap.size w ((w.alloc o).drewN q) := fun o q => below_drewN' ((Below.refl _ w).alloc (Nat.le_refl _) o) q
  have hidx := idxPut a1 w.heap.size A0 c0 l0 (w.alloc (.cells #[.string a1] 9)) (Kd.C_alloc hr0 _) (by omega) (by simp)
  have hcl : ∀ q, Calls Try.prog 52 #[.slice A0 l0.length c0] ((w.alloc (.cells #[.string a1] 9)).drewN q) fun e w' => ∃ v', e = .returned v' ∧ w'.ownsRow (w.heap.size + 1) 9 1 v' l0.length (l0.map Value.string) ∧ Below (w.heap.size + 1) ((w.alloc (.cells #[.string a1] 9)).drewN q) w' := fun q => by
    have := cloneOwn A0 c0 l0 ((w.alloc (.cells #[.string a1] 9)).drewN q) (Kd.C_drewN (Kd.C_alloc hr0 _) _) (by omega)
    rwa [show ((w.alloc (.cells #[.string a1] 9)).drewN q).heap.size = w.heap.size + 1 from by show (w.alloc _).heap.size = _; simp] at this
  have HI : Aside0 _ := Aside0.mk hidx
  have HC : Aside0 _ := Aside0.mk hcl
  obtain ⟨i0, hi, hz0, hz1, hz2⟩ := info_parts info9
  rcases idxByFrom_spec (fun _ y => atBehind a1 y) default l0 0 with ⟨e1, hall⟩ | ⟨k, hk, e1, ht, hall⟩
  · have e2 : Lib.idxBy (fun _ y => atBehind a1 y) l0 default = -1 := e1
    rw [e2] at HI
    rw [putB_miss a1 l0 hall]
    have HL : Aside0 _ := Aside0.mk hl
    have HR : Aside0 _ := Aside0.mk hr0
    have hxs : ((l0 ++ [a1]).map Value.string) = l0.map Value.string ++ [Value.string a1] := by simp
    have hxl : (l0 ++ [a1]).length = l0.length + 1 := by simp
    clear hl hr0 hidx hcl hc0 e1 e2 hall
    have hcell0 : (w.alloc (.cells #[.string a1] 9)).cell? ⟨w.heap.size, 0, none⟩ = some (.string a1) := by simp
    have mixed : Try.prog.follows .mixedOrders = true := Try.insertStr.mixed
    go_enter Try.func25, Try.ntmps25
    go_wp2_with (first
      | (go_at_call 56; refine HI.out.mono ?_; rintro e w' ⟨rfl, q, rfl⟩))
    go_region_law? (first
      | (go_simp; go_at_call 52; refine (cloneOwn A0 c0 l0 _ ?kc (by have := HL.out; omega)).mono ?_; (case kc => repeat (first | exact HR.out | (with_reducible refine Kd.C_alloc ?_ _) | (with_reducible refine Kd.C_drewN ?_ _) | (with_reducible refine Kd.C_drew ?_))); rintro e w2 ⟨v2, rfl, ho2, hb2⟩; have hcb : w2.cell? (⟨w.heap.size, 0, none⟩ : Addr) = some (.string a1) := below_imp hb2 _ _ (by repeat (first | exact hcell0 | refine cell_drewN ?_ _ | refine cell_drew ?_ | refine Lib.cell?_alloc_some _ ?_)); have ho3 : w2.ownsRow (w.heap.size + 1) 9 1 v2 l0.length (l0.map Value.string) := ho2.mono (by first | (simp; done) | (simp; omega)); have hsz2 : w.heap.size + 1 ≤ w2.heap.size := (by have := hb2.size; simp at this; omega); have hbb : Below w.heap.size w w2 := (Below.trans (by repeat (first | (with_reducible exact Below.refl _ _) | (with_reducible refine below_drewN' ?_ _) | (with_reducible refine Below.drew ?_) | with_reducible refine Below.alloc ?_ (by first | (simp; done) | (simp; omega)) _)) (hb2.mono (by first | (simp; done) | (simp; omega)))); have hnb := below_imp hb2 ⟨w.heap.size + 1, 0, none⟩ (.string a1); clear hb2 ho2)
      | (refine step_append_lies _ rfl (.tmp 13) (.tmp 15) 24 rfl (w.heap.size + 1) 9 i0 (.string ⟨#[]⟩) 1 16 Try.underlying24 hi hz0 hz1 hz2 rfl (by decide) v2 l0.length (l0.map Value.string) (by simp [Act.eval, Act.put]) ho3 ⟨w.heap.size + 1, 0, none⟩ 1 1 [.string a1] (by simp [Act.eval, Act.put]) rfl (one_cell (hnb (new_cell (by simp)))) (by intro u hu; simp at hu; subst hu; rfl) (by omega) (by have := HL.out; unfold maxLen; omega) (by have := HL.out; omega) hsz2 _ rfl ?_; intro g3 cap3 w3 ho4 hg4 hat4 hlt4)
      | (refine step_append_lies _ rfl (.tmp 13) (.tmp 15) 24 rfl (w.heap.size + 1) 9 i0 (.string ⟨#[]⟩) 1 16 Try.underlying24 hi hz0 hz1 hz2 rfl (by decide) v2 l0.length (l0.map Value.string) (by simp [Act.eval, Act.put]) (ho3.alloc _) ⟨w2.heap.size, 0, none⟩ 1 1 [.string a1] (by simp [Act.eval, Act.put]) rfl (cell_one_new _ _ _) (by intro u hu; simp at hu; subst hu; rfl) (by omega) (by have := HL.out; unfold maxLen; omega) (by have := HL.out; omega) (by simp; omega) _ rfl ?_; intro g3 cap3 w3 ho4 hg4 hat4 hlt4))
    all_goals go_wp2
    all_goals go_ret
    all_goals refine ⟨_, rfl, Aid.strs_R (by rw [hxs, hxl]; exact ho4.mono (by omega)), ?_⟩
    all_goals exact Below.grown (by repeat (first | (with_reducible exact hbb) | (with_reducible refine below_drewN' ?_ _) | (with_reducible refine Below.drew ?_) | with_reducible refine Below.alloc ?_ (by first | omega | (simp; omega)) _)) hg4 (by first | omega | (simp; omega)) (fun k hk => Nat.le_of_succ_le (ho3.lt k hk).1)
  · have e2 : Lib.idxBy (fun _ y => atBehind a1 y) l0 default = (k : Int) := by unfold Lib.idxBy; rw [e1]; simp
    rw [e2] at HI
    rw [putB_hit a1 l0 k hk ht hall]
    obtain ⟨b, o, rfl, _, hcell⟩ := Aid.strs_cells hr0 (by omega)
    have hck := hcell k l0[k] (List.getElem?_eq_getElem hk)
    rw [getElem!_pos l0 k hk]
    obtain ⟨x, hx⟩ : ∃ x, x = l0[k] := ⟨_, rfl⟩
    rw [← hx] at hck ⊢
    have HL : Aside0 _ := Aside0.mk hl
    have HR : Aside0 _ := Aside0.mk hr0
    have HK : Aside0 _ := Aside0.mk hk
    have hkz : (k : Int) < (l0.length : Int) := by omega
    have hcell0 : (w.alloc (.cells #[.string a1] 9)).cell? ⟨w.heap.size, 0, none⟩ = some (.string a1) := by simp
    have hcell1 := below_imp ((Below.refl w.heap.size w).alloc (Nat.le_refl _) (.cells #[.string a1] 9)) _ _ hck
    have mixed : Try.prog.follows .mixedOrders = true := Try.insertStr.mixed
    clear hx
    clear hl hr0 hidx hcl hc0 e1 e2 hall ht hcell hk hck
    by_cases hxe : x.toList = a1.toList
    · rw [if_pos hxe]
      have c1 : (x.toList == a1.toList) = true := beq_iff_eq.2 hxe
      clear hxe
      go_enter Try.func25, Try.ntmps25
      go_wp2_with (first
        | (go_at_call 56; refine HI.out.mono ?_; rintro e w' ⟨rfl, q, rfl⟩))
      go_region
      go_wp2_with (first
        | (go_at_call 52; refine (cloneOwn _ c0 l0 _ ?kc (by have := HL.out; omega)).mono ?_; (case kc => repeat (first | exact HR.out | (with_reducible refine Kd.C_alloc ?_ _) | (with_reducible refine Kd.C_drewN ?_ _) | (with_reducible refine Kd.C_drew ?_))); rintro e w2 ⟨v2, rfl, ho2, hb2⟩))
      go_ret
      refine ⟨_, rfl, Aid.strs_R (ho2.mono (by first | (simp; done) | (simp; omega))), ?_⟩
      exact Below.trans (by repeat (first | (with_reducible exact Below.refl _ _) | (with_reducible refine below_drewN' ?_ _) | (with_reducible refine Below.drew ?_) | with_reducible refine Below.alloc ?_ (by first | (simp; done) | (simp; omega)) _)) (hb2.mono (by first | (simp; done) | (simp; omega)))
    · rw [if_neg hxe]
      have c1 : (x.toList == a1.toList) = false := beq_eq_false_iff_ne.2 hxe
      have hxl : (l0.take k ++ a1 :: l0.drop k).length = l0.length + 1 := by simp; omega
      clear hxe
      go_enter Try.func25, Try.ntmps25
      go_wp2_with (first
        | (go_at_call 56; refine HI.out.mono ?_; rintro e w' ⟨rfl, q, rfl⟩))
      go_region
      go_wp2
      go_region_law? (first
      | (go_simp; go_at_call 52; refine (cloneOwn _ c0 l0 _ ?kc (by have := HL.out; omega)).mono ?_; (case kc => repeat (first | exact HR.out | (with_reducible refine Kd.C_alloc ?_ _) | (with_reducible refine Kd.C_drewN ?_ _) | (with_reducible refine Kd.C_drew ?_))); rintro e w2 ⟨v2, rfl, ho2, hb2⟩; have hcb : w2.cell? (⟨w.heap.size, 0, none⟩ : Addr) = some (.string a1) := below_imp hb2 _ _ (by repeat (first | exact hcell0 | refine cell_drewN ?_ _ | refine cell_drew ?_ | refine Lib.cell?_alloc_some _ ?_)); have ho3 : w2.ownsRow (w.heap.size + 1) 9 1 v2 l0.length (l0.map Value.string) := ho2.mono (by first | (simp; done) | (simp; omega)); have hsz2 : w.heap.size + 1 ≤ w2.heap.size := (by have := hb2.size; simp at this; omega); have hbb : Below w.heap.size w w2 := (Below.trans (by repeat (first | (with_reducible exact Below.refl _ _) | (with_reducible refine below_drewN' ?_ _) | (with_reducible refine Below.drew ?_) | with_reducible refine Below.alloc ?_ (by first | (simp; done) | (simp; omega)) _)) (hb2.mono (by first | (simp; done) | (simp; omega)))); have hnb := below_imp hb2 ⟨w.heap.size + 1, 0, none⟩ (.string a1); have hblk := below_blk hb2; have hfar := own_far ho2; clear hb2 ho2)
      | (go_simp; go_at_call 58; refine (Row.insertOwn a1 k (w.heap.size + 1) l0.length _ v2 l0 _ HK.out HL.out ?ho ?hz ?hb ?hn).mono ?_; (case ho => first | (with_reducible exact ho3) | (with_reducible exact ho3.alloc _)); (case hz => first | omega | (simp; omega)); (case hb => first | (with_reducible exact heap_alloc_new w2 _) | exact hblk _ _ (new_blk (by simp))); (case hn => intro e; first | (have := ho3.lt _ e; omega) | exact hfar _ (by simp) e); rintro e w4 ⟨v4, rfl, ho4, hb4⟩))
      all_goals go_wp2
      all_goals go_ret
      all_goals refine ⟨_, rfl, Aid.strs_R (by rw [hxl]; exact ho4.mono (by omega)), ?_⟩
      all_goals first | (with_reducible exact hbb.trans (hb4.mono (Nat.le_succ _))) | (with_reducible exact (hbb.alloc (Nat.le_trans (Nat.le_succ _) hsz2) _).trans (hb4.mono (Nat.le_succ _)))
end Go.Proofs.Ytbbndlagginnoaa.Q
