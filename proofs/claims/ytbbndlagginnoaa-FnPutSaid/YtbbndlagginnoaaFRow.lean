/- Rows of texts that a call owns, and slices.Insert of one text into such a row: by the shelf's contracts. -/
import Derived.Test.YtbbndlagginnoaaFAid
import Derived.Test.YtbbndlagginnoaaLayIns
import Derived.Lib.OwnBridge
namespace Go.Proofs.Ytbbndlagginnoaa.Row
open Go Go.RowKit Go.Lib
theorem below_setCells {B : Nat} {a : World} (b : Nat) (hb : B ≤ b) : ∀ (vs : List Value) (o : Nat) (w : World), Below B a w → Below B a (w.setCells b o vs)
  | [], _, _, h => h
  | v :: r, o, _, h => below_setCells b hb r (o + 1) _ (h.setCell (p := ⟨b, o, none⟩) hb v)
theorem setCells_block (g : Nat) : ∀ (vs : List Value) (o : Nat) (w : World) (cur : Array Value) (e : TypeId) (fr : Nat × Nat), w.heap[g]? = some (.cells cur e fr) →
    ∃ cur', (w.setCells g o vs).heap[g]? = some (.cells cur' e fr) ∧ cur'.size = cur.size
  | [], _, _, cur, _, _, h => ⟨cur, h, rfl⟩
  | v :: r, o, w, cur, e, fr, h => by
    obtain ⟨cur', h1, h2⟩ := setCells_block g r (o + 1) (w.setCell ⟨g, o, none⟩ v) (cur.setIfInBounds o v) e fr (by
      simp [World.setCell, Array.getElem?_modify, h])
    exact ⟨cur', h1, by rw [h2]; simp⟩
theorem own_of_cells {w : World} {base : Nat} {e : TypeId} {g n cap : Nat} {cur : Array Value} {xs : List Value} (hb : base ≤ g) (hg : w.heap[g]? = some (.cells cur e (0, 0))) (hn : n ≤ cap) (hm : cap ≤ maxLen) (hs : cur.size = cap) (hx : xs.length = n)
    (hc : ∀ j u, xs[j]? = some u → w.cell? ⟨g, j, none⟩ = some u) : w.ownsRow base e 1 (.slice (some ⟨g, 0, none⟩) n cap) n xs := by
  refine ⟨by omega, .inr ⟨g, cap, cur, rfl, hb, hg, hn, hm, by omega, ?_⟩⟩
  apply List.ext_getElem?
  intro j
  rw [List.getElem?_take]
  by_cases hj : j < n
  · rw [if_pos (by omega), Array.getElem?_toList]
    have h1 := hc j xs[j] (List.getElem?_eq_getElem (by omega))
    simp only [World.cell?, hg] at h1
    rw [List.getElem?_eq_getElem (by omega)]
    simpa using h1
  · rw [if_neg (by omega), List.getElem?_eq_none (by omega)]
theorem cell_block {w : World} {g : Nat} {cur : Array Value} {e : TypeId} {fr : Nat × Nat} (hg : w.heap[g]? = some (.cells cur e fr)) (j : Nat) : w.cell? ⟨g, j, none⟩ = cur[j]? := by
  simp [World.cell?, hg]
/-- What stands in a row behind the two copies of an insertion. -/
theorem inserted {w : World} {g i n : Nat} {cs : List Value} {v : Value} (hi : i < n) (hl : cs.length = n) (hsp : ∀ j, j < n + 1 → (w.cell? ⟨g, j, none⟩).isSome = true) (hlow : ∀ j u, j < i → cs[j]? = some u → w.cell? ⟨g, j, none⟩ = some u) (w1 w2 : World)
    (h1 : w1 = w.setCells g (i + 1) (cs.drop i) ∧ w2 = w1.setCells g i [v] ∨ w1 = w.setCells g i [v] ∧ w2 = w1.setCells g (i + 1) (cs.drop i)) :
    ∀ j u, (cs.take i ++ v :: cs.drop i)[j]? = some u → w2.cell? ⟨g, j, none⟩ = some u := by
  have one : ∀ W : World, (W.cell? ⟨g, i, none⟩).isSome = true → (W.setCells g i [v]).cell? ⟨g, i, none⟩ = some v := fun W h => by
    have := World.cell?_setCells_in g [v] i W (fun j hj => by simp at hj; subst hj; exact h) 0 (by simp)
    simpa using this
  have far : ∀ (W : World) (j : Nat), j ≠ i → (W.setCells g i [v]).cell? ⟨g, j, none⟩ = W.cell? ⟨g, j, none⟩ := fun W j hj => World.cell?_setCells_out g [v] i W _ (fun _ _ => by simp; omega)
  have low : ∀ (W : World) (j : Nat), j ≤ i → (W.setCells g (i + 1) (cs.drop i)).cell? ⟨g, j, none⟩ = W.cell? ⟨g, j, none⟩ := fun W j hj => World.cell?_setCells_out g _ _ W _ (fun _ _ => by simp; omega)
  have high : ∀ (W : World), (∀ j, j < n + 1 → (W.cell? ⟨g, j, none⟩).isSome = true) → ∀ (j : Nat) (u : Value), (cs.drop i)[j]? = some u → (W.setCells g (i + 1) (cs.drop i)).cell? ⟨g, i + 1 + j, none⟩ = some u := fun W hW j u hu => by
    obtain ⟨hj, rfl⟩ := List.getElem?_eq_some_iff.1 hu
    exact World.cell?_setCells_in g (cs.drop i) (i + 1) W (fun k hk => hW _ (by simp at hk; omega)) j hj
  have sp1 : ∀ j, j < n + 1 → ((w.setCells g i [v]).cell? ⟨g, j, none⟩).isSome = true := fun j hj => by
    by_cases e : j = i
    · subst e; rw [one w (hsp _ hj)]; rfl
    · rw [far w j e]; exact hsp j hj
  intro j u hu
  by_cases a : j < i
  · rw [List.getElem?_append_left (by simp; omega), List.getElem?_take, if_pos a] at hu
    rcases h1 with ⟨rfl, rfl⟩ | ⟨rfl, rfl⟩
    · rw [far _ j (by omega), low _ j (by omega)]; exact hlow j u a hu
    · rw [low _ j (by omega), far _ j (by omega)]; exact hlow j u a hu
  · by_cases b : j = i
    · subst b
      rw [List.getElem?_append_right (by simp; omega)] at hu
      have hu : v = u := by simpa [show min j cs.length = j from by omega] using hu
      subst hu
      rcases h1 with ⟨rfl, rfl⟩ | ⟨rfl, rfl⟩
      · exact one _ (by rw [low _ j (by omega)]; exact hsp j (by omega))
      · rw [low _ j (by omega)]; exact one _ (hsp j (by omega))
    · obtain ⟨k, rfl⟩ : ∃ k, j = i + 1 + k := ⟨j - (i + 1), by omega⟩
      rw [List.getElem?_append_right (by simp; omega)] at hu
      have hu : (cs.drop i)[k]? = some u := by
        rw [show i + 1 + k - (cs.take i).length = k + 1 from by simp; omega, List.getElem?_cons_succ] at hu
        exact hu
      rcases h1 with ⟨rfl, rfl⟩ | ⟨rfl, rfl⟩
      · rw [far _ _ (by omega)]; exact high _ hsp k u hu
      · exact high _ sp1 k u hu
theorem insertOwn (s : ByteArray) (i base n vb : Nat) (v : Value) (l : List ByteArray) (w : World) (hi : i < n) (hbig : (n + 1) * 16 ≤ 140737488355328) (ho : w.ownsRow base 9 1 v n (l.map Value.string)) (hbw : base ≤ w.heap.size)
    (hvb : w.heap[vb]? = some (.cells #[.string s] 9 (0, 0))) (hne : v.ownBlock ≠ some vb) :
    Calls Try.prog 58 #[v, .int .i64 i, .slice (some ⟨vb, 0, none⟩) 1 1] w fun e w' =>
      ∃ v', e = .returned v' ∧ w'.ownsRow base 9 1 v' (n + 1) ((l.take i ++ s :: l.drop i).map Value.string) ∧ Below base w w' := by
  have hl : l.length = n := by simpa using ho.1
  have hxl : ((l.take i ++ s :: l.drop i).map Value.string).length = n + 1 := by simp; omega
  have hxe : (l.take i ++ s :: l.drop i).map Value.string = (l.map Value.string).take i ++ Value.string s :: (l.map Value.string).drop i := by simp
  rcases ho.2 with ⟨_, h0⟩ | ⟨g, cap, cur, rfl, hb, hg, hn, hm, hs, ht⟩
  · omega
  have hs : cur.size = cap := by omega
  have hgw : g < w.heap.size := (Array.getElem?_eq_some_iff.1 hg).1
  have hgv : g ≠ vb := fun e => hne (by simp [Value.ownBlock, e])
  have hcs : ∀ j u, (l.map Value.string)[j]? = some u → w.cell? ⟨g, 0 + j, none⟩ = some u := fun j u hu => by
    have := ho.cells (g := g) rfl j u hu
    rwa [show (⟨g, 0, none⟩ : Addr).add j = ⟨g, 0 + j, none⟩ from by unfold Addr.add; split <;> simp_all] at this
  have hvs : ∀ j u, ([Value.string s])[j]? = some u → w.cell? ⟨vb, 0 + j, none⟩ = some u := fun j u hu => by
    obtain ⟨hj, rfl⟩ := List.getElem?_eq_some_iff.1 hu
    simp at hj; subst hj
    rw [cell_block hvb]; rfl
  have h1c : ∀ u ∈ l.map Value.string, u.oneCell' = true := fun u hu => by
    obtain ⟨x, _, rfl⟩ := List.mem_map.1 hu; rfl
  have h1v : ∀ u ∈ [Value.string s], u.oneCell' = true := fun u hu => by simp at hu; subst hu; rfl
  by_cases hroom : n + 1 ≤ cap
  · have hcon := Any2.slices_Insert_string_shift Try.insertStr g 0 n cap i vb 0 1 1 (l.map Value.string) [.string s] w hi (by omega) hroom (by simp [maxLen] at hm; omega) (fun e => hgv e.symm) (by simp [hl]) rfl hcs
      (fun j hj => by rw [Nat.zero_add, cell_block hg, Array.getElem?_eq_getElem (by omega)]; rfl) (fun j hj => by simp [World.frozen?, hg]) hvs h1c h1v 9 9 1 cap
      (by simp [World.shape?, hvb]) (by simp [World.shape?, hg, hs]) (by omega) (by simp [World.frozen?, hvb]) (by simp [World.frozen?, hvb])
    refine (show Calls Try.prog 58 _ w _ from hcon).mono ?_
    rintro e w' ⟨rfl, rfl⟩
    obtain ⟨cur1, hg1, hs1⟩ := setCells_block g ((l.map Value.string).drop i) (0 + (i + 1)) w.drew cur _ _ (show w.drew.heap[g]? = _ from hg)
    obtain ⟨cur2, hg2, hs2⟩ := setCells_block g [Value.string s] (0 + i) _ cur1 _ _ hg1
    refine ⟨_, rfl, own_of_cells hb hg2 hroom hm (by omega) hxl ?_, ?_⟩
    · rw [hxe]
      refine inserted (w := w.drew) hi (by simp [hl]) (fun j hj => ?_) (fun j u _ hu => by have := hcs j u hu; rw [Nat.zero_add] at this; exact this) _ _ (.inl ⟨rfl, by rw [Nat.zero_add, Nat.zero_add]⟩)
      show (w.cell? _).isSome = true
      rw [cell_block hg, Array.getElem?_eq_getElem (by omega)]; rfl
    · exact below_setCells g hb _ _ _ (below_setCells g hb _ _ _ (Below.refl base w).drew)
  · have hcap : cap < n + 1 := by omega
    obtain ⟨K, hK⟩ : ∃ K, K = (((l.map Value.string).take i).toArray ++ Builtin.zeroCells (Value.string ⟨#[]⟩).cells (n + 1 - i) ++ Builtin.zeroCells (Value.string ⟨#[]⟩).cells (grownCap w (n + 1) cap 9 - (n + 1))) := ⟨_, rfl⟩
    have hcon : Calls Try.prog 58 #[.slice (some ⟨g, 0, none⟩) n cap, .int .i64 i, .slice (some ⟨vb, 0, none⟩) 1 1] w fun e w' =>
        e = .returned (.slice (some ⟨w.heap.size, 0, none⟩) (n + 1) (grownCap w (n + 1) cap 9)) ∧
        w' = (((w.alloc (.cells K 9)).drew.setCells w.heap.size i [Value.string s]).drew).setCells w.heap.size (i + 1) ((l.map Value.string).drop i) := by
      rw [hK]
      exact Any2.slices_Insert_string_grow Try.insertStr g 0 n cap i vb 0 1 1 (l.map Value.string) [.string s] w hi (by omega) hn hcap hbig (by simp [hl]) rfl hcs hvs h1c h1v
    refine hcon.mono ?_
    rintro e w' ⟨rfl, rfl⟩
    have hge := grownCap_ge w (n + 1) cap 9
    have hle := grownCap_le_maxLen w (n + 1) cap 9 (by unfold maxLen; omega)
    have hKs : K.size = grownCap w (n + 1) cap 9 := by
      rw [hK, Array.size_append, Array.size_append, size_zeroCells, size_zeroCells]
      have : (Value.string ⟨#[]⟩).cells.size = 1 := rfl
      rw [this]
      simp
      omega
    have hg0 : (w.alloc (.cells K 9)).drew.heap[w.heap.size]? = some (.cells K 9 (0, 0)) := heap_alloc_new w _
    obtain ⟨cur1, hg1, hs1⟩ := setCells_block w.heap.size [Value.string s] i (w.alloc (.cells K 9)).drew K _ _ hg0
    obtain ⟨cur2, hg2, hs2⟩ := setCells_block w.heap.size ((l.map Value.string).drop i) (i + 1) (((w.alloc (.cells K 9)).drew.setCells w.heap.size i [Value.string s]).drew) cur1 _ _ (show (World.setCells _ _ _ _).heap[w.heap.size]? = _ from hg1)
    refine ⟨_, rfl, own_of_cells hbw hg2 hge hle (by omega) hxl ?_, ?_⟩
    · rw [hxe, ← drew_setCells]
      have hins := inserted (cs := l.map Value.string) (v := Value.string s) (w := (w.alloc (.cells K 9)).drew) (g := w.heap.size) hi (by simp [hl]) (fun j hj => by rw [cell_block hg0, Array.getElem?_eq_getElem (by omega)]; rfl) (fun j u hj hu => by
        rw [cell_block hg0, hK, Array.getElem?_append_left (by simp; omega), Array.getElem?_append_left (by simp; omega)]
        simp only [List.getElem?_toArray]
        rw [List.getElem?_take, if_pos hj]
        exact hu) _ _ (.inr ⟨rfl, rfl⟩)
      exact fun j u hu => hins j u hu
    · exact below_setCells _ hbw _ _ _ (Below.drew (below_setCells _ hbw _ _ _ (Below.drew ((Below.refl base w).alloc hbw _))))
end Go.Proofs.Ytbbndlagginnoaa.Row
