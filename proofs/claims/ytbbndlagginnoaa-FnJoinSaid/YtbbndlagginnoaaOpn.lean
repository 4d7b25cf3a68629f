/- A slice that reads as data, told by its kind: its elements one by one. -/
import Derived.Test.YtbbndlagginnoaaWMore
import Derived.Test.YtbbndlagginnoaaWWords
import Derived.ChangeArms
import Derived.DataReads
namespace Go.Proofs.Ytbbndlagginnoaa.Opn
open Go Go.Proofs.YtbbndlagginnoaaW.PrintWords
theorem list_of_each {α : Type} {p : Nat → α → Prop} : ∀ n : Nat, (∀ i, i < n → ∃ v, p i v) → ∃ l : List α, l.length = n ∧ ∀ i v, l[i]? = some v → p i v
  | 0, _ => ⟨[], rfl, fun i v h => by simp at h⟩
  | n + 1, h => by
    obtain ⟨l, hl, hp⟩ := list_of_each n (fun i hi => h i (by omega))
    obtain ⟨v, hv⟩ := h n (by omega)
    refine ⟨l ++ [v], by simp [hl], fun i u hu => ?_⟩
    rcases Nat.lt_or_ge i n with hi | hi
    · rw [List.getElem?_append_left (by omega)] at hu
      exact hp i u hu
    · have hlt := (List.getElem?_eq_some_iff.1 hu).1
      simp only [List.length_append, List.length_singleton] at hlt
      have : i = l.length := by omega
      subst this
      rw [List.getElem?_append_right (by omega)] at hu
      simp at hu
      subst hu
      rw [hl]
      exact hv
theorem cons_of_len {α : Type} {n : Nat} : ∀ {l : List α}, l.length = n + 1 → ∃ a t, l = a :: t ∧ t.length = n
  | [], h => by simp at h
  | a :: t, h => ⟨a, t, rfl, by simpa using h⟩
theorem add_add (a : Addr) (i j : Nat) : (a.add i).add j = a.add (i + j) := by
  unfold Addr.add
  by_cases hi : i = 0
  · subst hi; simp
  · by_cases hj : j = 0
    · subst hj; simp [hi]
    · simp [hi, hj, Nat.add_assoc]
theorem slice_at {α H : Type} {enc : TypeId × Value → H} {P : Program} {w : World} {spare : Nat → Bool} {d : Kd α} {G : α → Prop} {t e : TypeId} {fuel : Nat} {cs : List Value} {x : DataW H × List MemPlace}
    (hu : P.underlying t = some (.slice e)) (hc : P.cellsOf e = d.sz)
    (he : ∀ m, m < fuel → ∀ (cs : List Value) (x : DataW H × List MemPlace), DataW.trod enc P w 0 spare true m e cs = some x → ∃ v, d.K w v cs ∧ G v)
    (h : DataW.trod enc P w 0 spare true fuel t cs = some x) :
    ∃ (A : Option Addr) (c : Nat) (l : List α), cs = [.slice A l.length c] ∧ l.length ≤ c ∧ Kd.C d w A l.length l ∧ (l.length ≤ 9223372036854775807 ∧ ∀ y ∈ l, G y) := by
  rcases DataW.trod_slice hu h with ⟨rfl, _⟩ | ⟨a, len, cap, elems, rest, n, rfl, rfl, _, _, hl, hm, hlen, hel, _, _⟩
  · exact ⟨none, 0, [], rfl, Nat.le_refl _, ⟨rfl, by simp, fun hp => by simp at hp⟩, by simp, fun y hy => by simp at hy⟩
  · obtain ⟨l, hll, hlp⟩ := list_of_each (p := fun i v => ∃ cs', cs'.length = d.sz ∧ d.K w v cs' ∧ G v ∧ ∀ k u, cs'[k]? = some u → w.cell? (a.add (i * d.sz + k)) = some u) len (fun i hi => by
      have h1 := hel i hi
      rw [List.getElem?_eq_getElem (by omega), Option.bind_eq_some_iff] at h1
      obtain ⟨cs', h2, h3⟩ := h1
      obtain ⟨_, h4, h5⟩ := World.cells?_some h2
      obtain ⟨v, hv, hg⟩ := he n (by omega) cs' _ h3
      refine ⟨v, cs', h4.trans hc, hv, hg, fun k u hu => ?_⟩
      have hk : k < P.cellsOf e := by have := (List.getElem?_eq_some_iff.1 hu).1; omega
      have h6 := h5 k hk
      rw [add_add, hc, hu] at h6
      exact h6)
    refine ⟨some a, cap, l, by rw [hll], by omega, ⟨rfl, by unfold maxLen at hm; omega, fun _ => ⟨a, rfl, fun j p hj => ?_⟩⟩, by unfold maxLen at hm; omega, fun y hy => ?_⟩
    · obtain ⟨cs', h1, h2, _, h4⟩ := hlp j p hj
      exact ⟨cs', h1, h2, h4⟩
    · obtain ⟨i, hi⟩ := List.getElem?_of_mem hy
      obtain ⟨_, _, _, hg, _⟩ := hlp i y hi
      exact hg
end Go.Proofs.Ytbbndlagginnoaa.Opn
