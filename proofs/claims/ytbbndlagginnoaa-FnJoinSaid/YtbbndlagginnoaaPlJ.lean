/- Texts put together, plainly. -/
import Derived.Test.YtbbndlagginnoaaPlA0
import Derived.Test.YtbbndlagginnoaaJ1
import Derived.Test.YtbbndlagginnoaaJ2
import Derived.Lib.Join
import Derived.Lib.LazyBuf
namespace Go.Proofs.Ytbbndlagginnoaa.J
open Go Go.RowKit Go.Proofs.YtbbndlagginnoaaW.PrintWords Go.Proofs.YtbbndlagginnoaaW.PrintLast
set_option linter.unusedVariables false
def strW : List ByteArray → Int
  | [] => 0
  | s :: l => (s.size : Int) + strW l
theorem strW_nonneg : ∀ l, 0 ≤ strW l
  | [] => by simp [strW]
  | s :: l => by have := strW_nonneg l; simp only [strW]; omega
theorem join_snoc (xs : List (List UInt8)) (x sep : List UInt8) : Lib.join (xs ++ [x]) sep = if xs = [] then x else Lib.join xs sep ++ sep ++ x := by
  cases xs with
  | nil => simp [Lib.join_one]
  | cons y r =>
    rw [if_neg (by simp), List.cons_append, Lib.join_cons, Lib.join_cons]
    simp [Lib.joinTail]
/-- The bytes of a list of texts that are put together. -/
def cat (l : List ByteArray) (sep : ByteArray) : List UInt8 := Lib.join (l.map (·.data.toList)) sep.data.toList
theorem cat_snoc (l : List ByteArray) (x sep : ByteArray) : cat (l ++ [x]) sep = if l = [] then x.data.toList else cat l sep ++ sep.data.toList ++ x.data.toList := by
  unfold cat
  rw [List.map_append, List.map_singleton, join_snoc]
  cases l <;> simp
theorem strW_append : ∀ l m, strW (l ++ m) = strW l + strW m
  | [], m => by simp [strW]
  | s :: l, m => by simp only [List.cons_append, strW, strW_append l m]; omega
theorem cat_len (sep : ByteArray) : ∀ (n : Nat) (l : List ByteArray), l.length = n → ((cat l sep).length : Int) ≤ strW l + (n : Int) * (sep.size : Int) := by
  intro n
  induction n with
  | zero => intro l h; rw [List.length_eq_zero_iff.1 h]; simp [cat, Lib.join_nil, strW]
  | succ n ih =>
    intro l h
    obtain ⟨m, x, rfl⟩ : ∃ m x, l = m ++ [x] := ⟨l.dropLast, l.getLast (by intro e; subst e; simp at h), (List.dropLast_concat_getLast _).symm⟩
    have hm : m.length = n := by simpa using h
    have h1 := ih m hm
    rw [cat_snoc, strW_append]
    have h2 : strW [x] = (x.size : Int) := by simp [strW]
    have h3 : ((n + 1 : Nat) : Int) * (sep.size : Int) = (n : Int) * (sep.size : Int) + (sep.size : Int) := by
      rw [Int.natCast_add, Int.add_mul]; simp
    have hx : x.data.toList.length = x.size := by simp
    have hs : sep.data.toList.length = sep.size := by simp
    have hp := strW_nonneg m
    have hq : 0 ≤ (n : Int) * (sep.size : Int) := Int.mul_nonneg (by omega) (by omega)
    split
    · omega
    · rw [List.length_append, List.length_append, hx, hs]
      omega
theorem spec_Join_l0 (l : List ByteArray) (sep : ByteArray) (hn : l.length ≤ 1048576) (hb : ∀ i, i ≤ l.length → ((cat (l.take i) sep).length : Int) + 2199023255552 < 140737488355328) (hs : sep.size ≤ 1048576) (g : ∀ y ∈ l, y.size ≤ 1048576) :
    ∀ (d i : Nat), l.length - i = d → i ≤ l.length → Ev (fun k => spec_Join.l0 k l sep ((cat (l.take i) sep).map fun b => (b.toNat : Int)) (i : Int)) ⟨(cat l sep).toArray⟩ := by
  intro d
  induction d with
  | zero =>
    intro i hd hi
    refine ev_now fun k => ?_
    simp only [spec_Join.l0]
    rw [if_neg (by omega), List.take_of_length_le (by omega), Lib.Lz.strOfNums_map]
  | succ d ih =>
    intro i hd hi
    have hlt : i < l.length := by omega
    have hx := g l[i] (List.getElem_mem hlt)
    have hbi := hb i hi
    obtain ⟨K, hK⟩ := ih (i + 1) (by omega) (by omega)
    have e1 : cat (l.take (i + 1)) sep = if l.take i = [] then l[i].data.toList else cat (l.take i) sep ++ sep.data.toList ++ l[i].data.toList := by
      rw [List.take_succ_eq_append_getElem hlt, cat_snoc]
    refine ev_succ ⟨K, fun k hk => ?_⟩
    have hK := hK k hk
    try dsimp only at hK ⊢
    simp only [spec_Join.l0]
    rw [if_pos (by omega), rdOf_nat _ _ _ hlt, wrap_succ hlt (by omega)]
    by_cases hz : i = 0
    · subst hz
      rw [if_neg (by omega), if_pos (by omega), if_pos (by rw [List.length_map]; omega)]
      rw [e1, if_pos (by simp)] at hK
      simpa [cat, Lib.join_nil, bytesOf] using hK
    · have hne : l.take i ≠ [] := by
        intro e
        have h := congrArg List.length e
        rw [List.length_take, List.length_nil] at h
        omega
      rw [e1, if_neg hne] at hK
      have p1 : (i : Int) > 0 := by omega
      have p2 : ((cat (l.take i) sep).map fun b => (b.toNat : Int)).length + sep.size < 140737488355328 := by rw [List.length_map]; omega
      have p3 : (((cat (l.take i) sep).map fun b => (b.toNat : Int)) ++ bytesOf sep).length + l[i].size < 140737488355328 := by rw [List.length_append, List.length_map, bytesOf_length]; omega
      rw [if_pos p1, if_pos p2, Option.bind_some, if_pos (by omega), if_pos p3]
      simpa [bytesOf] using hK
theorem spec_Join_ev (l : List ByteArray) (sep : ByteArray) (hw : (l.length : Int) + strW l ≤ 1048576) (hs : sep.size ≤ 1048576) : Ev (fun k => spec_Join.f k l sep) ⟨(cat l sep).toArray⟩ := by
  have hp := strW_nonneg l
  have g : ∀ (m : List ByteArray), ∀ y ∈ m, (y.size : Int) ≤ strW m := by
    intro m
    induction m with
    | nil => intro y hy; simp at hy
    | cons x m ih =>
      intro y hy
      have := strW_nonneg m
      simp only [strW]
      rcases List.mem_cons.1 hy with rfl | hy
      · omega
      · have := ih y hy; omega
  have tk : ∀ i, strW (l.take i) ≤ strW l := fun i => by
    have h1 := strW_append (l.take i) (l.drop i)
    rw [List.take_append_drop] at h1
    have := strW_nonneg (l.drop i)
    omega
  have hm : ∀ i, i ≤ l.length → ((i : Nat) : Int) * (sep.size : Int) ≤ 1048576 * 1048576 := fun i hi => Int.mul_le_mul (by omega) (by omega) (by omega) (by omega)
  obtain ⟨K, hK⟩ := spec_Join_l0 l sep (by omega) (fun i hi => by
    have h1 := cat_len sep i (l.take i) (by simp; omega)
    have := tk i
    have := hm i hi
    omega) hs (fun y hy => by have := g l y hy; omega) l.length 0 (by omega) (by omega)
  refine ⟨K, fun k hk => ?_⟩
  have := hK k hk
  simpa [spec_Join.f, cat, Lib.join_nil] using this
theorem impl_Join_eq (l : List ByteArray) (sep : ByteArray) (hw : (l.length : Int) + strW l ≤ 1048576) (hs : sep.size ≤ 1048576) : impl_Join.f l sep = some ⟨(cat l sep).toArray⟩ := by
  have hp := strW_nonneg l
  have h1 := cat_len sep l.length l rfl
  have h2 : (l.length : Int) * (sep.size : Int) ≤ 1048576 * 1048576 := Int.mul_le_mul (by omega) (by omega) (by omega) (by omega)
  unfold impl_Join.f strings_Join.f
  rw [if_pos ⟨by unfold cat at h1; omega, by omega⟩]
  rfl
end Go.Proofs.Ytbbndlagginnoaa.J
