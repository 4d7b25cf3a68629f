/- impl.Without at a list of at most 2^43 texts: slices.Clone and slices.DeleteFunc by the shelf's contracts. -/
import Derived.Test.YtbbndlagginnoaaQ0
import Derived.Test.YtbbndlagginnoaaShelf
import Derived.Test.YtbbndlagginnoaaLayDel
import Derived.Test.YtbbndlagginnoaaFAid
import Derived.Lib.OwnBridge
import Derived.Deep.Onto
namespace Go.Proofs.Ytbbndlagginnoaa.Q
open Go Go.RowKit Go.Lib Go.Sort Go.Proofs.YtbbndlagginnoaaW.PrintWords Go.Proofs.YtbbndlagginnoaaW.PrintLast Go.Proofs.YtbbndlagginnoaaW.PrintMore
/-- The closure of Without. -/
theorem Without1.gives (s x : ByteArray) (B : Nat) (W : World) (hc : W.cell? ⟨B, 0, none⟩ = some (.string s)) :
    FnGives Try.prog 53 #[.pointer (some ⟨B, 0, none⟩)] #[.string x] (.bool (x.toList == s.toList)) W := by
  show Calls Try.prog 53 #[.string x, .pointer (some ⟨B, 0, none⟩)] W _
  go_enter Try.func53, Try.ntmps53
  go_wp2
  all_goals (go_ret; exact ⟨by simp_all, 0, rfl⟩)
/-- slices.IndexFunc at an empty list. -/
theorem idxNil (g : Nat) (lb : Array Value) (w : World) :
    Calls Try.prog 56 #[.slice none 0 0, .func (.func g) #[] lb] w fun e w' => e = .returned (.int .i64 (-1)) ∧ ∃ q, w' = w.drewN q := by
  go_enter Try.func56, Try.ntmps56
  go_wp2
  go_loopg [5, 8] 0 (fun gg _ s8 wr => ∃ q : Nat, s8 = .int .i64 0 ∧ wr = w.drewN q)
  case atStart => exact ⟨0, rfl, rfl⟩
  case round =>
    obtain ⟨q, rfl, rfl⟩ := hrel
    go_wp2
    go_ret
    exact ⟨rfl, q, rfl⟩
theorem deleteNil (g : Nat) (lb : Array Value) (w : World) :
    Calls Try.prog 51 #[.slice none 0 0, .func (.func g) #[] lb] w fun e w' => e = .returned (.slice none 0 0) ∧ ∃ q, w' = w.drewN q := by
  have hcon := idxNil g lb w
  go_enter Try.func51, Try.ntmps51
  go_wp2_with (go_at_call 56; refine hcon.mono ?_; rintro e w' ⟨rfl, q, rfl⟩)
  go_ret
  exact ⟨rfl, q, rfl⟩
theorem deleteOwn (s : ByteArray) (B base n : Nat) (v : Value) (l : List ByteArray) (w : World) (ho : w.ownsRow base 9 1 v n (l.map Value.string)) (hv : v ≠ .slice none 0 0) (hB : B < base) (hc : w.cell? ⟨B, 0, none⟩ = some (.string s)) :
    Calls Try.prog 51 #[v, .func (.func 53) #[] #[.pointer (some ⟨B, 0, none⟩)]] w fun e w' =>
      ∃ v', e = .returned v' ∧ w'.ownsRow base 9 1 v' (l.filter fun x => !(x.toList == s.toList)).length ((l.filter fun x => !(x.toList == s.toList)).map Value.string) ∧ Below base w w' := by
  obtain ⟨g, cap, rfl, hbg, hgl, hnc, hcm, hln, hH⟩ := holds_of_ownsRow ho hv
  have hBw : B < w.heap.size := World.block_lt_of_cell? w _ hc
  have eg : ∀ args w, (callFunc 53 args).run Try.prog w = .ok (.enter 53 args) w := enters_of Try.func53 (by kernel_rfl) rfl
  have hcon := AnyE.slices_DeleteFunc Try.deleteFunc Value.string (fun _ => rfl) (fun x => x.toList == s.toList) 53 #[.pointer (some ⟨B, 0, none⟩)] eg ByteArray.empty Try.zeroValue9 g 0 cap l.toArray w
    (fun W x hb => Without1.gives s x B W ((hb.cell (p := ⟨B, 0, none⟩) hBw).trans hc))
    (fun m os dk x _ => Without1.gives s x B _ (by
      unfold sortWorld
      rw [cell?_grow _ _ _ (by show B < (putRow _ _ _ _ _).heap.size; rw [size_putRow]; exact hBw), cell?_putRow_other _ _ g 0 _ _ (Or.inl (by show B ≠ g; omega))]
      exact hc)) hH (by simp [maxLen] at hcm ⊢; omega) (by simp; omega)
  simp only [List.size_toArray] at hcon
  rw [hln] at hcon
  refine (show Calls Try.prog 51 _ w _ from hcon).mono ?_
  rintro e w' ⟨rfl, q, rfl⟩
  have hk : (l.filter fun x => !(x.toList == s.toList)).length ≤ n := hln ▸ List.length_filter_le _ l
  refine ⟨_, rfl, ?_, below_putRow (Below.refl _ _) hbg⟩
  have h1 := ownsRow_putRow (q := q) (k := (l.filter fun x => !(x.toList == s.toList)).length) (ys := (l.filter fun x => !(x.toList == s.toList)) ++ List.replicate (n - (l.filter fun x => !(x.toList == s.toList)).length) ByteArray.empty) ho (by simp; omega) hk
  rwa [List.take_left] at h1
def impl_Without.f (l0 : List ByteArray) (a1 : ByteArray) : Option (List ByteArray) := if l0.length * 16 ≤ 140737488355328 then some (l0.filter fun x => !(x.toList == a1.toList)) else none
theorem impl_Without.calls (A0 : Option Addr) (c0 : Nat) (l0 : List ByteArray) (a1 : ByteArray) (r : List ByteArray) (w : World) (hr0 : Kd.C Kd.string w A0 l0.length l0) (hc0 : l0.length ≤ c0) (h : impl_Without.f l0 a1 = some r) :
    Calls Try.prog 17 #[.slice A0 l0.length c0, .string a1] w fun e w' => ∃ v0_ : Value, e = .returned v0_ ∧ Kd.R Kd.string 9 w' w.heap.size (fun _ => True) v0_ r ∧ Below w.heap.size w w' := by
  unfold impl_Without.f at h
  by_cases hl : l0.length * 16 ≤ 140737488355328
  · rw [if_pos hl] at h
    obtain rfl := Option.some.inj h
    have hW1 : ∀ o, Below w.heap.size w (w.alloc o) := fun o => (Below.refl _ w).alloc (Nat.le_refl _) o
    by_cases hA : A0 = none
    · subst hA
      have h0 : l0 = [] := by
        obtain ⟨_, _, hc⟩ := hr0
        cases l0 with
        | nil => rfl
        | cons x l => obtain ⟨ad, h1, _⟩ := hc (by simp); cases h1
      subst h0
      have hcl := Try.slices_Clone_string_nil 0 c0
      have hde := deleteNil 53 #[.pointer (some ⟨w.heap.size, 0, none⟩)]
      clear hr0 hc0 hl
      show Calls Try.prog 17 #[.slice none 0 c0, .string a1] w _
      go_enter Try.func17, Try.ntmps17
      go_wp2_with (first
        | (go_at_call 52; refine (hcl _).mono ?_; rintro e w' ⟨rfl, rfl⟩)
        | (go_at_call 51; refine (hde _).mono ?_; rintro e w' ⟨rfl, q, rfl⟩))
      go_ret
      refine ⟨_, rfl, Aid.strs_R (World.ownsRow_nil _ _ _ _), ?_⟩
      exact (hW1 _).trans ⟨rfl, rfl, rfl, Nat.le_refl _, fun _ _ => rfl⟩
    · have hcl : ∀ W : World, Kd.C Kd.string W A0 l0.length l0 → Calls Try.prog 52 #[.slice A0 l0.length c0] W fun e w' => ∃ v', e = .returned v' ∧ w'.ownsRow W.heap.size 9 1 v' l0.length (l0.map Value.string) ∧ v' ≠ .slice none 0 0 ∧ Below W.heap.size W w' := by
        intro W hW
        cases l0 with
        | nil =>
          obtain ⟨ad, rfl⟩ := Option.ne_none_iff_exists'.1 hA
          exact Try.slices_Clone_string_zero ad c0 W
        | cons x l =>
          obtain ⟨b, o, rfl, hb, hcell⟩ := Aid.strs_cells hW (by simp)
          have := Try.slices_Clone_string b o (x :: l).length c0 (x :: l) W (Nat.le_refl _) hl (fun j hj => by
            rw [hcell j _ (List.getElem?_eq_getElem hj), List.getD_eq_getElem?_getD, List.getElem?_eq_getElem hj]; rfl)
          rwa [List.take_of_length_le (Nat.le_refl _)] at this
      have hcl1 := hcl (w.alloc (.cells #[.string a1] 9)) (Kd.C_alloc hr0 _)
      have hde : ∀ (v' : Value) (W : World), W.ownsRow (w.heap.size + 1) 9 1 v' l0.length (l0.map Value.string) → v' ≠ .slice none 0 0 → W.cell? ⟨w.heap.size, 0, none⟩ = some (.string a1) → _ := fun v' W h1 h2 h3 => deleteOwn a1 w.heap.size (w.heap.size + 1) l0.length v' l0 W h1 h2 (by omega) h3
      have HE : Aside0 _ := Aside0.mk hde
      have hn1 : (w.alloc (.cells #[.string a1] 9)).heap.size = w.heap.size + 1 := by simp
      rw [hn1] at hcl1
      have HC : Aside0 _ := Aside0.mk hcl1
      clear hcl hr0 hl hde hcl1 hn1 hc0 hA
      generalize hgn : l0.length = n at *
      go_enter Try.func17, Try.ntmps17
      go_wp2_with (first
        | (go_at_call 52; refine HC.out.mono ?_; rintro e w2 ⟨v2, rfl, ho2, hv2, hb2⟩)
        | (go_at_call 51; refine (HE.out v2 w2 ho2 hv2 ((hb2.cell (p := ⟨w.heap.size, 0, none⟩) (by show w.heap.size < w.heap.size + 1; omega)).trans (by simp))).mono ?_; rintro e w3 ⟨v3, rfl, ho3, hb3⟩))
      go_ret
      refine ⟨_, rfl, Aid.strs_R (ho3.mono (by omega)), ?_⟩
      exact ((hW1 _).trans (hb2.mono (by omega))).trans (hb3.mono (by omega))
  · rw [if_neg hl] at h
    cases h
end Go.Proofs.Ytbbndlagginnoaa.Q
