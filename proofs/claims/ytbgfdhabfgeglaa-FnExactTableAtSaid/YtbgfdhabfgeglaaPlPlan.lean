/- Plans, plainly: weights, copies, equality. -/
import Derived.Test.YtbgfdhabfgeglaaPlTab
import Derived.Test.YtbgfdhabfgeglaaQ1
import Derived.Test.YtbgfdhabfgeglaaQ10
import Derived.Test.YtbgfdhabfgeglaaQ11
import Derived.Test.YtbgfdhabfgeglaaQ12
import Derived.Test.YtbgfdhabfgeglaaQ13
import Derived.Test.YtbgfdhabfgeglaaQ2
import Derived.Test.YtbgfdhabfgeglaaQ5
import Derived.Test.YtbgfdhabfgeglaaQ9
namespace Go.Proofs.Ytbgfdhabfgeglaa.Q
open Go Go.RowKit Go.Proofs.YtbgfdhabfgeglaaW.PrintWords Go.Proofs.YtbgfdhabfgeglaaW.PrintLast
set_option linter.unusedVariables false
set_option linter.unusedSimpArgs false
/-! Labels -/
def wLabels (x : S146) : Int := (x.f0.size : Int) + (((x.f1.length : Int) + strW x.f1) + (0))
theorem wLabels_nonneg (x : S146) : 0 ≤ wLabels x := by
  have := strW_nonneg x.f1
  unfold wLabels; omega
theorem szLabels (x : S146) (g : G146 x) : Sz (fun k t => laws_szLabels.f k x.f0 x.f1 t) (wLabels x) :=
  sz_str (g := fun k t => laws_szLabels.f k x.f0 x.f1 t) (rest := fun k t => (laws_szStringS.f k x.f1 t).bind fun t1 => if t1 < 0 then some (-1) else some t1) (w := ((x.f1.length : Int) + strW x.f1) + (0)) x.f0 (g.1) (sz_call (g := fun k t => (laws_szStringS.f k x.f1 t).bind fun t1 => if t1 < 0 then some (-1) else some t1) (c := fun k t => laws_szStringS.f k x.f1 t) (rest := fun k t => some t) (w1 := ((x.f1.length : Int) + strW x.f1)) (w := 0) (szStrs x.f1 (g.2.1) (g.2.2)) (by have := strW_nonneg x.f1; omega) (sz_end) (by omega) (fun _ _ => rfl)) (by have := strW_nonneg x.f1; omega) (fun _ _ => rfl)
def toLabelsI (x : S146) : S141 := ⟨x.f0, x.f1⟩
theorem toLabels_ev (x : S146) (hw : wLabels x ≤ 1048576) : Ev (fun k => laws_toLabels.f k x.f0 x.f1) ((toLabelsI x).f0, (toLabelsI x).f1) := by
  obtain ⟨K0, hK0⟩ := toStringS_ev x.f1 (by unfold wLabels at hw; have := strW_nonneg x.f1; omega)
  refine ⟨K0, fun k hk => ?_⟩
  have hK0 := hK0 k (by omega)
  try dsimp only at hK0 ⊢
  simp only [laws_toLabels.f, Option.bind_some, hK0]
  rfl
theorem eqLabels_ev (x : S146) (hw : wLabels x ≤ 1048576) : Ev (fun k => laws_eqLabels.f k (toLabelsI x).f0 (toLabelsI x).f1 (toLabelsI x).f0 (toLabelsI x).f1) true := by
  obtain ⟨K0, hK0⟩ := eqStrs x.f1 (by unfold wLabels at hw; have := strW_nonneg x.f1; omega)
  refine ⟨K0, fun k hk => ?_⟩
  have hK0 := hK0 k (by omega)
  try dsimp only at hK0 ⊢
  simp only [toLabelsI] at hK0 ⊢
  simp [laws_eqLabels.f, hK0]
theorem rdL_Labels (p : List S146) (e : S146) (l : List S146) : rd_T146 (p ++ e :: l) (p.length : Int) = e := rd_mid_of (z := z146) _ (fun _ _ => rfl) p e l
theorem rdI_Labels (p : List S141) (e : S141) (l : List S141) : rd_T141 (p ++ e :: l) (p.length : Int) = e := rd_mid_of (z := z141) _ (fun _ _ => rfl) p e l
theorem szLabelsS (l : List S146) (hm : l.length ≤ 9223372036854775807) (g : ∀ y ∈ l, G146 y) : Sz (fun k t => laws_szLabelsS.f k l t) (sumW wLabels l) :=
  sz_slice (fun k t => laws_szLabelsS.f k l t) laws_szLabelsS.l0 wLabels wLabels_nonneg l hm (fun _ _ => rfl) (fun hn => sz_loop laws_szLabelsS.l0 (fun k x t => laws_szLabels.f k x.f0 x.f1 t) rd_T146 wLabels wLabels_nonneg rdL_Labels (fun _ _ _ _ => by simp only [laws_szLabelsS.l0]) l [] (fun e he => szLabels e (g e he)) (by simpa using hn))
theorem toLabelsS_ev (l : List S146) (hw : sumW wLabels l ≤ 1048576) : Ev (fun k => laws_toLabelsS.f k l) (l.map toLabelsI) := by
  have hl := sumW_len wLabels wLabels_nonneg l
  obtain ⟨K, hK⟩ := to_loop laws_toLabelsS.l0 (fun k x => laws_toLabels.f k x.f0 x.f1) (fun b : ByteArray × List ByteArray => (⟨b.1, b.2⟩ : S141)) toLabelsI rd_T146 rdL_Labels (fun _ _ _ _ => by simp only [laws_toLabelsS.l0]) l [] (List.replicate l.length z141) (fun e he => ⟨_, toLabels_ev e (by have := sumW_mem wLabels wLabels_nonneg l e he; omega), rfl⟩) (by simp) (by simp; omega)
  refine ⟨K, fun k hk => ?_⟩
  have hK := hK k hk
  try dsimp only at hK ⊢
  simp only [List.map_nil, List.nil_append, List.length_nil, Int.natCast_zero] at hK
  simp only [laws_toLabelsS.f]
  rw [if_pos (by omega), Int.toNat_natCast, if_pos (by omega)]
  exact hK
theorem eqLabelsS_ev (l : List S146) (hw : sumW wLabels l ≤ 1048576) : Ev (fun k => laws_eqLabelsS.f k (l.map toLabelsI) (l.map toLabelsI)) true := by
  have hl := sumW_len wLabels wLabels_nonneg l
  obtain ⟨K, hK⟩ := eq_loop laws_eqLabelsS.l0 (fun k x y => laws_eqLabels.f k x.f0 x.f1 y.f0 y.f1) rd_T141 rdI_Labels (fun _ _ _ _ => by simp only [laws_eqLabelsS.l0]) (l.map toLabelsI) [] (fun e he => by
    obtain ⟨x, hx, rfl⟩ := List.mem_map.1 he
    exact eqLabels_ev x (by have := sumW_mem wLabels wLabels_nonneg l x hx; omega)) (by simp; omega)
  refine ⟨K, fun k hk => ?_⟩
  have hK := hK k hk
  try dsimp only at hK ⊢
  simp only [List.nil_append, List.length_nil, Int.natCast_zero] at hK
  simp only [laws_eqLabelsS.f, if_true]
  exact hK
/-! Seq -/
def wSeq (x : S148) : Int := (x.f0.size : Int) + (0)
theorem wSeq_nonneg (x : S148) : 0 ≤ wSeq x := by
  unfold wSeq; omega
theorem szSeq (x : S148) (g : G148 x) : Sz (fun k t => laws_szSeq.f x.f0 x.f1 t) (wSeq x) :=
  sz_str (g := fun k t => laws_szSeq.f x.f0 x.f1 t) (rest := fun k t => some t) (w := 0) x.f0 (g.1) (sz_end) (by omega) (fun _ _ => rfl)
def toSeqI (x : S148) : S89 := ⟨x.f0, x.f1⟩
theorem toSeq_ev (x : S148) (hw : wSeq x ≤ 1048576) : Ev (fun k => laws_toSeq.f x.f0 x.f1) ((toSeqI x).f0, (toSeqI x).f1) := by
  refine ⟨0, fun k hk => ?_⟩
  simp only [laws_toSeq.f, Option.bind_some]
  rfl
theorem eqSeq_ev (x : S148) (hw : wSeq x ≤ 1048576) : Ev (fun k => laws_eqSeq.f (toSeqI x).f0 (toSeqI x).f1 (toSeqI x).f0 (toSeqI x).f1) true := by
  refine ⟨0, fun k hk => ?_⟩
  simp only [toSeqI] at ⊢
  simp [laws_eqSeq.f]
theorem rdL_Seq (p : List S148) (e : S148) (l : List S148) : rd_T148 (p ++ e :: l) (p.length : Int) = e := rd_mid_of (z := z148) _ (fun _ _ => rfl) p e l
theorem rdI_Seq (p : List S89) (e : S89) (l : List S89) : rd_T89 (p ++ e :: l) (p.length : Int) = e := rd_mid_of (z := z89) _ (fun _ _ => rfl) p e l
theorem szSeqS (l : List S148) (hm : l.length ≤ 9223372036854775807) (g : ∀ y ∈ l, G148 y) : Sz (fun k t => laws_szSeqS.f k l t) (sumW wSeq l) :=
  sz_slice (fun k t => laws_szSeqS.f k l t) laws_szSeqS.l0 wSeq wSeq_nonneg l hm (fun _ _ => rfl) (fun hn => sz_loop laws_szSeqS.l0 (fun k x t => laws_szSeq.f x.f0 x.f1 t) rd_T148 wSeq wSeq_nonneg rdL_Seq (fun _ _ _ _ => by simp only [laws_szSeqS.l0]) l [] (fun e he => szSeq e (g e he)) (by simpa using hn))
theorem toSeqS_ev (l : List S148) (hw : sumW wSeq l ≤ 1048576) : Ev (fun k => laws_toSeqS.f k l) (l.map toSeqI) := by
  have hl := sumW_len wSeq wSeq_nonneg l
  obtain ⟨K, hK⟩ := to_loop laws_toSeqS.l0 (fun k x => laws_toSeq.f x.f0 x.f1) (fun b : ByteArray × Int => (⟨b.1, b.2⟩ : S89)) toSeqI rd_T148 rdL_Seq (fun _ _ _ _ => by simp only [laws_toSeqS.l0]) l [] (List.replicate l.length z89) (fun e he => ⟨_, toSeq_ev e (by have := sumW_mem wSeq wSeq_nonneg l e he; omega), rfl⟩) (by simp) (by simp; omega)
  refine ⟨K, fun k hk => ?_⟩
  have hK := hK k hk
  try dsimp only at hK ⊢
  simp only [List.map_nil, List.nil_append, List.length_nil, Int.natCast_zero] at hK
  simp only [laws_toSeqS.f]
  rw [if_pos (by omega), Int.toNat_natCast, if_pos (by omega)]
  exact hK
theorem eqSeqS_ev (l : List S148) (hw : sumW wSeq l ≤ 1048576) : Ev (fun k => laws_eqSeqS.f k (l.map toSeqI) (l.map toSeqI)) true := by
  have hl := sumW_len wSeq wSeq_nonneg l
  obtain ⟨K, hK⟩ := eq_loop laws_eqSeqS.l0 (fun k x y => laws_eqSeq.f x.f0 x.f1 y.f0 y.f1) rd_T89 rdI_Seq (fun _ _ _ _ => by simp only [laws_eqSeqS.l0]) (l.map toSeqI) [] (fun e he => by
    obtain ⟨x, hx, rfl⟩ := List.mem_map.1 he
    exact eqSeq_ev x (by have := sumW_mem wSeq wSeq_nonneg l x hx; omega)) (by simp; omega)
  refine ⟨K, fun k hk => ?_⟩
  have hK := hK k hk
  try dsimp only at hK ⊢
  simp only [List.nil_append, List.length_nil, Int.natCast_zero] at hK
  simp only [laws_eqSeqS.f, if_true]
  exact hK
theorem rdL_Table (p : List S25) (e : S25) (l : List S25) : rd_T25 (p ++ e :: l) (p.length : Int) = e := rd_mid_of (z := z25) _ (fun _ _ => rfl) p e l
theorem rdI_Table (p : List S31) (e : S31) (l : List S31) : rd_T31 (p ++ e :: l) (p.length : Int) = e := rd_mid_of (z := z31) _ (fun _ _ => rfl) p e l
theorem szTableS (l : List S25) (hm : l.length ≤ 9223372036854775807) (g : ∀ y ∈ l, G25 y) : Sz (fun k t => laws_szTableS.f k l t) (sumW wTable l) :=
  sz_slice (fun k t => laws_szTableS.f k l t) laws_szTableS.l0 wTable wTable_nonneg l hm (fun _ _ => rfl) (fun hn => sz_loop laws_szTableS.l0 (fun k x t => laws_szTable.f k x.f0 x.f1 x.f2 x.f3 t) rd_T25 wTable wTable_nonneg rdL_Table (fun _ _ _ _ => by simp only [laws_szTableS.l0]) l [] (fun e he => szTable e (g e he)) (by simpa using hn))
theorem toTableS_ev (l : List S25) (hw : sumW wTable l ≤ 1048576) : Ev (fun k => laws_toTableS.f k l) (l.map toTableI) := by
  have hl := sumW_len wTable wTable_nonneg l
  obtain ⟨K, hK⟩ := to_loop laws_toTableS.l0 (fun k x => laws_toTable.f k x.f0 x.f1 x.f2 x.f3) (fun b : ByteArray × List S78 × List S66 × Int => (⟨b.1, b.2.1, b.2.2.1, b.2.2.2⟩ : S31)) toTableI rd_T25 rdL_Table (fun _ _ _ _ => by simp only [laws_toTableS.l0]) l [] (List.replicate l.length z31) (fun e he => ⟨_, toTable_ev e (by have := sumW_mem wTable wTable_nonneg l e he; omega), rfl⟩) (by simp) (by simp; omega)
  refine ⟨K, fun k hk => ?_⟩
  have hK := hK k hk
  try dsimp only at hK ⊢
  simp only [List.map_nil, List.nil_append, List.length_nil, Int.natCast_zero] at hK
  simp only [laws_toTableS.f]
  rw [if_pos (by omega), Int.toNat_natCast, if_pos (by omega)]
  exact hK
theorem eqTableS_ev (l : List S25) (hw : sumW wTable l ≤ 1048576) : Ev (fun k => laws_eqTableS.f k (l.map toTableI) (l.map toTableI)) true := by
  have hl := sumW_len wTable wTable_nonneg l
  obtain ⟨K, hK⟩ := eq_loop laws_eqTableS.l0 (fun k x y => laws_eqTable.f k x.f0 x.f1 x.f2 x.f3 y.f0 y.f1 y.f2 y.f3) rd_T31 rdI_Table (fun _ _ _ _ => by simp only [laws_eqTableS.l0]) (l.map toTableI) [] (fun e he => by
    obtain ⟨x, hx, rfl⟩ := List.mem_map.1 he
    exact eqTable_ev x (by have := sumW_mem wTable wTable_nonneg l x hx; omega)) (by simp; omega)
  refine ⟨K, fun k hk => ?_⟩
  have hK := hK k hk
  try dsimp only at hK ⊢
  simp only [List.nil_append, List.length_nil, Int.natCast_zero] at hK
  simp only [laws_eqTableS.f, if_true]
  exact hK
/-! Index -/
def wIndex (x : S150) : Int := (x.f0.size : Int) + ((x.f1.size : Int) + (((x.f2.length : Int) + strW x.f2) + (0)))
theorem wIndex_nonneg (x : S150) : 0 ≤ wIndex x := by
  have := strW_nonneg x.f2
  unfold wIndex; omega
theorem szIndex (x : S150) (g : G150 x) : Sz (fun k t => laws_szIndex.f k x.f0 x.f1 x.f2 x.f3 t) (wIndex x) :=
  sz_str (g := fun k t => laws_szIndex.f k x.f0 x.f1 x.f2 x.f3 t) (rest := fun k t => if (wrap64 (t - (x.f1.size : Int))) < 0 then some (-1) else (laws_szStringS.f k x.f2 (wrap64 (t - (x.f1.size : Int)))).bind fun t2 => if t2 < 0 then some (-1) else some t2) (w := (x.f1.size : Int) + (((x.f2.length : Int) + strW x.f2) + (0))) x.f0 (g.1) (sz_str (g := fun k t => if (wrap64 (t - (x.f1.size : Int))) < 0 then some (-1) else (laws_szStringS.f k x.f2 (wrap64 (t - (x.f1.size : Int)))).bind fun t2 => if t2 < 0 then some (-1) else some t2) (rest := fun k t => (laws_szStringS.f k x.f2 t).bind fun t2 => if t2 < 0 then some (-1) else some t2) (w := ((x.f2.length : Int) + strW x.f2) + (0)) x.f1 (g.2.1) (sz_call (g := fun k t => (laws_szStringS.f k x.f2 t).bind fun t2 => if t2 < 0 then some (-1) else some t2) (c := fun k t => laws_szStringS.f k x.f2 t) (rest := fun k t => some t) (w1 := ((x.f2.length : Int) + strW x.f2)) (w := 0) (szStrs x.f2 (g.2.2.1) (g.2.2.2.1)) (by have := strW_nonneg x.f2; omega) (sz_end) (by omega) (fun _ _ => rfl)) (by have := strW_nonneg x.f2; omega) (fun _ _ => rfl)) (by have := strW_nonneg x.f2; omega) (fun _ _ => rfl)
def toIndexI (x : S150) : S93 := ⟨x.f0, x.f1, x.f2, x.f3⟩
theorem toIndex_ev (x : S150) (hw : wIndex x ≤ 1048576) : Ev (fun k => laws_toIndex.f k x.f0 x.f1 x.f2 x.f3) ((toIndexI x).f0, (toIndexI x).f1, (toIndexI x).f2, (toIndexI x).f3) := by
  obtain ⟨K0, hK0⟩ := toStringS_ev x.f2 (by unfold wIndex at hw; have := strW_nonneg x.f2; omega)
  refine ⟨K0, fun k hk => ?_⟩
  have hK0 := hK0 k (by omega)
  try dsimp only at hK0 ⊢
  simp only [laws_toIndex.f, Option.bind_some, hK0]
  rfl
theorem eqIndex_ev (x : S150) (hw : wIndex x ≤ 1048576) : Ev (fun k => laws_eqIndex.f k (toIndexI x).f0 (toIndexI x).f1 (toIndexI x).f2 (toIndexI x).f3 (toIndexI x).f0 (toIndexI x).f1 (toIndexI x).f2 (toIndexI x).f3) true := by
  obtain ⟨K0, hK0⟩ := eqStrs x.f2 (by unfold wIndex at hw; have := strW_nonneg x.f2; omega)
  refine ⟨K0, fun k hk => ?_⟩
  have hK0 := hK0 k (by omega)
  try dsimp only at hK0 ⊢
  simp only [toIndexI] at hK0 ⊢
  simp [laws_eqIndex.f, hK0]
theorem rdL_Index (p : List S150) (e : S150) (l : List S150) : rd_T150 (p ++ e :: l) (p.length : Int) = e := rd_mid_of (z := z150) _ (fun _ _ => rfl) p e l
theorem rdI_Index (p : List S93) (e : S93) (l : List S93) : rd_T93 (p ++ e :: l) (p.length : Int) = e := rd_mid_of (z := z93) _ (fun _ _ => rfl) p e l
theorem szIndexS (l : List S150) (hm : l.length ≤ 9223372036854775807) (g : ∀ y ∈ l, G150 y) : Sz (fun k t => laws_szIndexS.f k l t) (sumW wIndex l) :=
  sz_slice (fun k t => laws_szIndexS.f k l t) laws_szIndexS.l0 wIndex wIndex_nonneg l hm (fun _ _ => rfl) (fun hn => sz_loop laws_szIndexS.l0 (fun k x t => laws_szIndex.f k x.f0 x.f1 x.f2 x.f3 t) rd_T150 wIndex wIndex_nonneg rdL_Index (fun _ _ _ _ => by simp only [laws_szIndexS.l0]) l [] (fun e he => szIndex e (g e he)) (by simpa using hn))
theorem toIndexS_ev (l : List S150) (hw : sumW wIndex l ≤ 1048576) : Ev (fun k => laws_toIndexS.f k l) (l.map toIndexI) := by
  have hl := sumW_len wIndex wIndex_nonneg l
  obtain ⟨K, hK⟩ := to_loop laws_toIndexS.l0 (fun k x => laws_toIndex.f k x.f0 x.f1 x.f2 x.f3) (fun b : ByteArray × ByteArray × List ByteArray × Bool => (⟨b.1, b.2.1, b.2.2.1, b.2.2.2⟩ : S93)) toIndexI rd_T150 rdL_Index (fun _ _ _ _ => by simp only [laws_toIndexS.l0]) l [] (List.replicate l.length z93) (fun e he => ⟨_, toIndex_ev e (by have := sumW_mem wIndex wIndex_nonneg l e he; omega), rfl⟩) (by simp) (by simp; omega)
  refine ⟨K, fun k hk => ?_⟩
  have hK := hK k hk
  try dsimp only at hK ⊢
  simp only [List.map_nil, List.nil_append, List.length_nil, Int.natCast_zero] at hK
  simp only [laws_toIndexS.f]
  rw [if_pos (by omega), Int.toNat_natCast, if_pos (by omega)]
  exact hK
theorem eqIndexS_ev (l : List S150) (hw : sumW wIndex l ≤ 1048576) : Ev (fun k => laws_eqIndexS.f k (l.map toIndexI) (l.map toIndexI)) true := by
  have hl := sumW_len wIndex wIndex_nonneg l
  obtain ⟨K, hK⟩ := eq_loop laws_eqIndexS.l0 (fun k x y => laws_eqIndex.f k x.f0 x.f1 x.f2 x.f3 y.f0 y.f1 y.f2 y.f3) rd_T93 rdI_Index (fun _ _ _ _ => by simp only [laws_eqIndexS.l0]) (l.map toIndexI) [] (fun e he => by
    obtain ⟨x, hx, rfl⟩ := List.mem_map.1 he
    exact eqIndex_ev x (by have := sumW_mem wIndex wIndex_nonneg l x hx; omega)) (by simp; omega)
  refine ⟨K, fun k hk => ?_⟩
  have hK := hK k hk
  try dsimp only at hK ⊢
  simp only [List.nil_append, List.length_nil, Int.natCast_zero] at hK
  simp only [laws_eqIndexS.f, if_true]
  exact hK
/-! View -/
def wView (x : S153) : Int := (x.f0.size : Int) + ((x.f1.size : Int) + (((x.f2.length : Int) + strW x.f2) + (wLs x.f3 + (0))))
theorem wView_nonneg (x : S153) : 0 ≤ wView x := by
  have := strW_nonneg x.f2
  have := wLs_nonneg x.f3
  unfold wView; omega
theorem szView (x : S153) (g : G153 x) : Sz (fun k t => laws_szView.f k x.f0 x.f1 x.f2 x.f3 t) (wView x) :=
  sz_str (g := fun k t => laws_szView.f k x.f0 x.f1 x.f2 x.f3 t) (rest := fun k t => if (wrap64 (t - (x.f1.size : Int))) < 0 then some (-1) else (laws_szStringS.f k x.f2 (wrap64 (t - (x.f1.size : Int)))).bind fun t2 => if t2 < 0 then some (-1) else (laws_szExprS.f k x.f3 t2).bind fun t3 => if t3 < 0 then some (-1) else some t3) (w := (x.f1.size : Int) + (((x.f2.length : Int) + strW x.f2) + (wLs x.f3 + (0)))) x.f0 (g.1) (sz_str (g := fun k t => if (wrap64 (t - (x.f1.size : Int))) < 0 then some (-1) else (laws_szStringS.f k x.f2 (wrap64 (t - (x.f1.size : Int)))).bind fun t2 => if t2 < 0 then some (-1) else (laws_szExprS.f k x.f3 t2).bind fun t3 => if t3 < 0 then some (-1) else some t3) (rest := fun k t => (laws_szStringS.f k x.f2 t).bind fun t2 => if t2 < 0 then some (-1) else (laws_szExprS.f k x.f3 t2).bind fun t3 => if t3 < 0 then some (-1) else some t3) (w := ((x.f2.length : Int) + strW x.f2) + (wLs x.f3 + (0))) x.f1 (g.2.1) (sz_call (g := fun k t => (laws_szStringS.f k x.f2 t).bind fun t2 => if t2 < 0 then some (-1) else (laws_szExprS.f k x.f3 t2).bind fun t3 => if t3 < 0 then some (-1) else some t3) (c := fun k t => laws_szStringS.f k x.f2 t) (rest := fun k t => (laws_szExprS.f k x.f3 t).bind fun t3 => if t3 < 0 then some (-1) else some t3) (w1 := ((x.f2.length : Int) + strW x.f2)) (w := wLs x.f3 + (0)) (szStrs x.f2 (g.2.2.1) (g.2.2.2.1)) (by have := strW_nonneg x.f2; omega) (sz_call (g := fun k t => (laws_szExprS.f k x.f3 t).bind fun t3 => if t3 < 0 then some (-1) else some t3) (c := fun k t => laws_szExprS.f k x.f3 t) (rest := fun k t => some t) (w1 := wLs x.f3) (w := 0) (szExprs x.f3 (g.2.2.2.2.1) (g.2.2.2.2.2)) (by have := wLs_nonneg x.f3; omega) (sz_end) (by omega) (fun _ _ => rfl)) (by have := wLs_nonneg x.f3; omega) (fun _ _ => rfl)) (by have := strW_nonneg x.f2; have := wLs_nonneg x.f3; omega) (fun _ _ => rfl)) (by have := strW_nonneg x.f2; have := wLs_nonneg x.f3; omega) (fun _ _ => rfl)
def toViewI (x : S153) : S97 := ⟨x.f0, x.f1, x.f2, toIs x.f3⟩
theorem toView_ev (x : S153) (hw : wView x ≤ 1048576) : Ev (fun k => laws_toView.f k x.f0 x.f1 x.f2 x.f3) ((toViewI x).f0, (toViewI x).f1, (toViewI x).f2, (toViewI x).f3) := by
  obtain ⟨K0, hK0⟩ := toStringS_ev x.f2 (by unfold wView at hw; have := strW_nonneg x.f2; have := wLs_nonneg x.f3; have := wLs_len x.f3; omega)
  obtain ⟨K1, hK1⟩ := toExprS_ev x.f3 (by unfold wView at hw; have := strW_nonneg x.f2; have := wLs_nonneg x.f3; have := wLs_len x.f3; omega)
  refine ⟨K0 + K1, fun k hk => ?_⟩
  have hK0 := hK0 k (by omega)
  have hK1 := hK1 k (by omega)
  try dsimp only at hK0 hK1 ⊢
  simp only [laws_toView.f, Option.bind_some, hK0, hK1]
  rfl
theorem eqView_ev (x : S153) (hw : wView x ≤ 1048576) : Ev (fun k => laws_eqView.f k (toViewI x).f0 (toViewI x).f1 (toViewI x).f2 (toViewI x).f3 (toViewI x).f0 (toViewI x).f1 (toViewI x).f2 (toViewI x).f3) true := by
  obtain ⟨K0, hK0⟩ := eqStrs x.f2 (by unfold wView at hw; have := strW_nonneg x.f2; have := wLs_nonneg x.f3; have := wLs_len x.f3; omega)
  obtain ⟨K1, hK1⟩ := eqExprs (toIs x.f3) (by have := nIs_to x.f3; unfold wView at hw; have := strW_nonneg x.f2; have := wLs_nonneg x.f3; have := wLs_len x.f3; omega)
  refine ⟨K0 + K1, fun k hk => ?_⟩
  have hK0 := hK0 k (by omega)
  have hK1 := hK1 k (by omega)
  try dsimp only at hK0 hK1 ⊢
  simp only [toViewI] at hK0 hK1 ⊢
  simp [laws_eqView.f, hK0, hK1]
theorem rdL_View (p : List S153) (e : S153) (l : List S153) : rd_T153 (p ++ e :: l) (p.length : Int) = e := rd_mid_of (z := z153) _ (fun _ _ => rfl) p e l
theorem rdI_View (p : List S97) (e : S97) (l : List S97) : rd_T97 (p ++ e :: l) (p.length : Int) = e := rd_mid_of (z := z97) _ (fun _ _ => rfl) p e l
theorem szViewS (l : List S153) (hm : l.length ≤ 9223372036854775807) (g : ∀ y ∈ l, G153 y) : Sz (fun k t => laws_szViewS.f k l t) (sumW wView l) :=
  sz_slice (fun k t => laws_szViewS.f k l t) laws_szViewS.l0 wView wView_nonneg l hm (fun _ _ => rfl) (fun hn => sz_loop laws_szViewS.l0 (fun k x t => laws_szView.f k x.f0 x.f1 x.f2 x.f3 t) rd_T153 wView wView_nonneg rdL_View (fun _ _ _ _ => by simp only [laws_szViewS.l0]) l [] (fun e he => szView e (g e he)) (by simpa using hn))
theorem toViewS_ev (l : List S153) (hw : sumW wView l ≤ 1048576) : Ev (fun k => laws_toViewS.f k l) (l.map toViewI) := by
  have hl := sumW_len wView wView_nonneg l
  obtain ⟨K, hK⟩ := to_loop laws_toViewS.l0 (fun k x => laws_toView.f k x.f0 x.f1 x.f2 x.f3) (fun b : ByteArray × ByteArray × List ByteArray × List IE => (⟨b.1, b.2.1, b.2.2.1, b.2.2.2⟩ : S97)) toViewI rd_T153 rdL_View (fun _ _ _ _ => by simp only [laws_toViewS.l0]) l [] (List.replicate l.length z97) (fun e he => ⟨_, toView_ev e (by have := sumW_mem wView wView_nonneg l e he; omega), rfl⟩) (by simp) (by simp; omega)
  refine ⟨K, fun k hk => ?_⟩
  have hK := hK k hk
  try dsimp only at hK ⊢
  simp only [List.map_nil, List.nil_append, List.length_nil, Int.natCast_zero] at hK
  simp only [laws_toViewS.f]
  rw [if_pos (by omega), Int.toNat_natCast, if_pos (by omega)]
  exact hK
theorem eqViewS_ev (l : List S153) (hw : sumW wView l ≤ 1048576) : Ev (fun k => laws_eqViewS.f k (l.map toViewI) (l.map toViewI)) true := by
  have hl := sumW_len wView wView_nonneg l
  obtain ⟨K, hK⟩ := eq_loop laws_eqViewS.l0 (fun k x y => laws_eqView.f k x.f0 x.f1 x.f2 x.f3 y.f0 y.f1 y.f2 y.f3) rd_T97 rdI_View (fun _ _ _ _ => by simp only [laws_eqViewS.l0]) (l.map toViewI) [] (fun e he => by
    obtain ⟨x, hx, rfl⟩ := List.mem_map.1 he
    exact eqView_ev x (by have := sumW_mem wView wView_nonneg l x hx; omega)) (by simp; omega)
  refine ⟨K, fun k hk => ?_⟩
  have hK := hK k hk
  try dsimp only at hK ⊢
  simp only [List.nil_append, List.length_nil, Int.natCast_zero] at hK
  simp only [laws_eqViewS.f, if_true]
  exact hK
/-! Plan -/
def wPlan (x : S56) : Int := sumW wLabels x.f0 + (sumW wSeq x.f1 + (sumW wTable x.f2 + (sumW wIndex x.f3 + (sumW wView x.f4 + (0)))))
theorem wPlan_nonneg (x : S56) : 0 ≤ wPlan x := by
  have := sumW_nonneg wLabels wLabels_nonneg x.f0
  have := sumW_nonneg wSeq wSeq_nonneg x.f1
  have := sumW_nonneg wTable wTable_nonneg x.f2
  have := sumW_nonneg wIndex wIndex_nonneg x.f3
  have := sumW_nonneg wView wView_nonneg x.f4
  unfold wPlan; omega
theorem szPlan (x : S56) (g : G56 x) : Sz (fun k t => laws_szPlan.f k x.f0 x.f1 x.f2 x.f3 x.f4 x.f5 t) (wPlan x) :=
  sz_call (g := fun k t => laws_szPlan.f k x.f0 x.f1 x.f2 x.f3 x.f4 x.f5 t) (c := fun k t => laws_szLabelsS.f k x.f0 t) (rest := fun k t => (laws_szSeqS.f k x.f1 t).bind fun t1 => if t1 < 0 then some (-1) else (laws_szTableS.f k x.f2 t1).bind fun t2 => if t2 < 0 then some (-1) else (laws_szIndexS.f k x.f3 t2).bind fun t3 => if t3 < 0 then some (-1) else (laws_szViewS.f k x.f4 t3).bind fun t4 => if t4 < 0 then some (-1) else some t4) (w1 := sumW wLabels x.f0) (w := sumW wSeq x.f1 + (sumW wTable x.f2 + (sumW wIndex x.f3 + (sumW wView x.f4 + (0))))) (szLabelsS x.f0 (g.1) (g.2.1)) (by have := sumW_nonneg wLabels wLabels_nonneg x.f0; omega) (sz_call (g := fun k t => (laws_szSeqS.f k x.f1 t).bind fun t1 => if t1 < 0 then some (-1) else (laws_szTableS.f k x.f2 t1).bind fun t2 => if t2 < 0 then some (-1) else (laws_szIndexS.f k x.f3 t2).bind fun t3 => if t3 < 0 then some (-1) else (laws_szViewS.f k x.f4 t3).bind fun t4 => if t4 < 0 then some (-1) else some t4) (c := fun k t => laws_szSeqS.f k x.f1 t) (rest := fun k t => (laws_szTableS.f k x.f2 t).bind fun t2 => if t2 < 0 then some (-1) else (laws_szIndexS.f k x.f3 t2).bind fun t3 => if t3 < 0 then some (-1) else (laws_szViewS.f k x.f4 t3).bind fun t4 => if t4 < 0 then some (-1) else some t4) (w1 := sumW wSeq x.f1) (w := sumW wTable x.f2 + (sumW wIndex x.f3 + (sumW wView x.f4 + (0)))) (szSeqS x.f1 (g.2.2.1) (g.2.2.2.1)) (by have := sumW_nonneg wSeq wSeq_nonneg x.f1; omega) (sz_call (g := fun k t => (laws_szTableS.f k x.f2 t).bind fun t2 => if t2 < 0 then some (-1) else (laws_szIndexS.f k x.f3 t2).bind fun t3 => if t3 < 0 then some (-1) else (laws_szViewS.f k x.f4 t3).bind fun t4 => if t4 < 0 then some (-1) else some t4) (c := fun k t => laws_szTableS.f k x.f2 t) (rest := fun k t => (laws_szIndexS.f k x.f3 t).bind fun t3 => if t3 < 0 then some (-1) else (laws_szViewS.f k x.f4 t3).bind fun t4 => if t4 < 0 then some (-1) else some t4) (w1 := sumW wTable x.f2) (w := sumW wIndex x.f3 + (sumW wView x.f4 + (0))) (szTableS x.f2 (g.2.2.2.2.1) (g.2.2.2.2.2.1)) (by have := sumW_nonneg wTable wTable_nonneg x.f2; omega) (sz_call (g := fun k t => (laws_szIndexS.f k x.f3 t).bind fun t3 => if t3 < 0 then some (-1) else (laws_szViewS.f k x.f4 t3).bind fun t4 => if t4 < 0 then some (-1) else some t4) (c := fun k t => laws_szIndexS.f k x.f3 t) (rest := fun k t => (laws_szViewS.f k x.f4 t).bind fun t4 => if t4 < 0 then some (-1) else some t4) (w1 := sumW wIndex x.f3) (w := sumW wView x.f4 + (0)) (szIndexS x.f3 (g.2.2.2.2.2.2.1) (g.2.2.2.2.2.2.2.1)) (by have := sumW_nonneg wIndex wIndex_nonneg x.f3; omega) (sz_call (g := fun k t => (laws_szViewS.f k x.f4 t).bind fun t4 => if t4 < 0 then some (-1) else some t4) (c := fun k t => laws_szViewS.f k x.f4 t) (rest := fun k t => some t) (w1 := sumW wView x.f4) (w := 0) (szViewS x.f4 (g.2.2.2.2.2.2.2.2.1) (g.2.2.2.2.2.2.2.2.2.1)) (by have := sumW_nonneg wView wView_nonneg x.f4; omega) (sz_end) (by omega) (fun _ _ => rfl)) (by have := sumW_nonneg wView wView_nonneg x.f4; omega) (fun _ _ => rfl)) (by have := sumW_nonneg wIndex wIndex_nonneg x.f3; have := sumW_nonneg wView wView_nonneg x.f4; omega) (fun _ _ => rfl)) (by have := sumW_nonneg wTable wTable_nonneg x.f2; have := sumW_nonneg wIndex wIndex_nonneg x.f3; have := sumW_nonneg wView wView_nonneg x.f4; omega) (fun _ _ => rfl)) (by have := sumW_nonneg wSeq wSeq_nonneg x.f1; have := sumW_nonneg wTable wTable_nonneg x.f2; have := sumW_nonneg wIndex wIndex_nonneg x.f3; have := sumW_nonneg wView wView_nonneg x.f4; omega) (fun _ _ => rfl)
def toPlanI (x : S56) : S43 := ⟨x.f0.map toLabelsI, x.f1.map toSeqI, x.f2.map toTableI, x.f3.map toIndexI, x.f4.map toViewI, x.f5⟩
theorem toPlan_ev (x : S56) (hw : wPlan x ≤ 1048576) : Ev (fun k => laws_toPlan.f k x.f0 x.f1 x.f2 x.f3 x.f4 x.f5) ((toPlanI x).f0, (toPlanI x).f1, (toPlanI x).f2, (toPlanI x).f3, (toPlanI x).f4, (toPlanI x).f5) := by
  obtain ⟨K0, hK0⟩ := toLabelsS_ev x.f0 (by unfold wPlan at hw; have := sumW_nonneg wLabels wLabels_nonneg x.f0; have := sumW_nonneg wSeq wSeq_nonneg x.f1; have := sumW_nonneg wTable wTable_nonneg x.f2; have := sumW_nonneg wIndex wIndex_nonneg x.f3; have := sumW_nonneg wView wView_nonneg x.f4; have := sumW_len wLabels wLabels_nonneg x.f0; have := sumW_len wSeq wSeq_nonneg x.f1; have := sumW_len wTable wTable_nonneg x.f2; have := sumW_len wIndex wIndex_nonneg x.f3; have := sumW_len wView wView_nonneg x.f4; omega)
  obtain ⟨K1, hK1⟩ := toSeqS_ev x.f1 (by unfold wPlan at hw; have := sumW_nonneg wLabels wLabels_nonneg x.f0; have := sumW_nonneg wSeq wSeq_nonneg x.f1; have := sumW_nonneg wTable wTable_nonneg x.f2; have := sumW_nonneg wIndex wIndex_nonneg x.f3; have := sumW_nonneg wView wView_nonneg x.f4; have := sumW_len wLabels wLabels_nonneg x.f0; have := sumW_len wSeq wSeq_nonneg x.f1; have := sumW_len wTable wTable_nonneg x.f2; have := sumW_len wIndex wIndex_nonneg x.f3; have := sumW_len wView wView_nonneg x.f4; omega)
  obtain ⟨K2, hK2⟩ := toTableS_ev x.f2 (by unfold wPlan at hw; have := sumW_nonneg wLabels wLabels_nonneg x.f0; have := sumW_nonneg wSeq wSeq_nonneg x.f1; have := sumW_nonneg wTable wTable_nonneg x.f2; have := sumW_nonneg wIndex wIndex_nonneg x.f3; have := sumW_nonneg wView wView_nonneg x.f4; have := sumW_len wLabels wLabels_nonneg x.f0; have := sumW_len wSeq wSeq_nonneg x.f1; have := sumW_len wTable wTable_nonneg x.f2; have := sumW_len wIndex wIndex_nonneg x.f3; have := sumW_len wView wView_nonneg x.f4; omega)
  obtain ⟨K3, hK3⟩ := toIndexS_ev x.f3 (by unfold wPlan at hw; have := sumW_nonneg wLabels wLabels_nonneg x.f0; have := sumW_nonneg wSeq wSeq_nonneg x.f1; have := sumW_nonneg wTable wTable_nonneg x.f2; have := sumW_nonneg wIndex wIndex_nonneg x.f3; have := sumW_nonneg wView wView_nonneg x.f4; have := sumW_len wLabels wLabels_nonneg x.f0; have := sumW_len wSeq wSeq_nonneg x.f1; have := sumW_len wTable wTable_nonneg x.f2; have := sumW_len wIndex wIndex_nonneg x.f3; have := sumW_len wView wView_nonneg x.f4; omega)
  obtain ⟨K4, hK4⟩ := toViewS_ev x.f4 (by unfold wPlan at hw; have := sumW_nonneg wLabels wLabels_nonneg x.f0; have := sumW_nonneg wSeq wSeq_nonneg x.f1; have := sumW_nonneg wTable wTable_nonneg x.f2; have := sumW_nonneg wIndex wIndex_nonneg x.f3; have := sumW_nonneg wView wView_nonneg x.f4; have := sumW_len wLabels wLabels_nonneg x.f0; have := sumW_len wSeq wSeq_nonneg x.f1; have := sumW_len wTable wTable_nonneg x.f2; have := sumW_len wIndex wIndex_nonneg x.f3; have := sumW_len wView wView_nonneg x.f4; omega)
  refine ⟨K0 + K1 + K2 + K3 + K4, fun k hk => ?_⟩
  have hK0 := hK0 k (by omega)
  have hK1 := hK1 k (by omega)
  have hK2 := hK2 k (by omega)
  have hK3 := hK3 k (by omega)
  have hK4 := hK4 k (by omega)
  try dsimp only at hK0 hK1 hK2 hK3 hK4 ⊢
  simp only [laws_toPlan.f, Option.bind_some, hK0, hK1, hK2, hK3, hK4]
  rfl
theorem eqPlan_ev (x : S56) (hw : wPlan x ≤ 1048576) : Ev (fun k => laws_eqPlan.f k (toPlanI x).f0 (toPlanI x).f1 (toPlanI x).f2 (toPlanI x).f3 (toPlanI x).f4 (toPlanI x).f5 (toPlanI x).f0 (toPlanI x).f1 (toPlanI x).f2 (toPlanI x).f3 (toPlanI x).f4 (toPlanI x).f5) true := by
  obtain ⟨K0, hK0⟩ := eqLabelsS_ev x.f0 (by unfold wPlan at hw; have := sumW_nonneg wLabels wLabels_nonneg x.f0; have := sumW_nonneg wSeq wSeq_nonneg x.f1; have := sumW_nonneg wTable wTable_nonneg x.f2; have := sumW_nonneg wIndex wIndex_nonneg x.f3; have := sumW_nonneg wView wView_nonneg x.f4; have := sumW_len wLabels wLabels_nonneg x.f0; have := sumW_len wSeq wSeq_nonneg x.f1; have := sumW_len wTable wTable_nonneg x.f2; have := sumW_len wIndex wIndex_nonneg x.f3; have := sumW_len wView wView_nonneg x.f4; omega)
  obtain ⟨K1, hK1⟩ := eqSeqS_ev x.f1 (by unfold wPlan at hw; have := sumW_nonneg wLabels wLabels_nonneg x.f0; have := sumW_nonneg wSeq wSeq_nonneg x.f1; have := sumW_nonneg wTable wTable_nonneg x.f2; have := sumW_nonneg wIndex wIndex_nonneg x.f3; have := sumW_nonneg wView wView_nonneg x.f4; have := sumW_len wLabels wLabels_nonneg x.f0; have := sumW_len wSeq wSeq_nonneg x.f1; have := sumW_len wTable wTable_nonneg x.f2; have := sumW_len wIndex wIndex_nonneg x.f3; have := sumW_len wView wView_nonneg x.f4; omega)
  obtain ⟨K2, hK2⟩ := eqTableS_ev x.f2 (by unfold wPlan at hw; have := sumW_nonneg wLabels wLabels_nonneg x.f0; have := sumW_nonneg wSeq wSeq_nonneg x.f1; have := sumW_nonneg wTable wTable_nonneg x.f2; have := sumW_nonneg wIndex wIndex_nonneg x.f3; have := sumW_nonneg wView wView_nonneg x.f4; have := sumW_len wLabels wLabels_nonneg x.f0; have := sumW_len wSeq wSeq_nonneg x.f1; have := sumW_len wTable wTable_nonneg x.f2; have := sumW_len wIndex wIndex_nonneg x.f3; have := sumW_len wView wView_nonneg x.f4; omega)
  obtain ⟨K3, hK3⟩ := eqIndexS_ev x.f3 (by unfold wPlan at hw; have := sumW_nonneg wLabels wLabels_nonneg x.f0; have := sumW_nonneg wSeq wSeq_nonneg x.f1; have := sumW_nonneg wTable wTable_nonneg x.f2; have := sumW_nonneg wIndex wIndex_nonneg x.f3; have := sumW_nonneg wView wView_nonneg x.f4; have := sumW_len wLabels wLabels_nonneg x.f0; have := sumW_len wSeq wSeq_nonneg x.f1; have := sumW_len wTable wTable_nonneg x.f2; have := sumW_len wIndex wIndex_nonneg x.f3; have := sumW_len wView wView_nonneg x.f4; omega)
  obtain ⟨K4, hK4⟩ := eqViewS_ev x.f4 (by unfold wPlan at hw; have := sumW_nonneg wLabels wLabels_nonneg x.f0; have := sumW_nonneg wSeq wSeq_nonneg x.f1; have := sumW_nonneg wTable wTable_nonneg x.f2; have := sumW_nonneg wIndex wIndex_nonneg x.f3; have := sumW_nonneg wView wView_nonneg x.f4; have := sumW_len wLabels wLabels_nonneg x.f0; have := sumW_len wSeq wSeq_nonneg x.f1; have := sumW_len wTable wTable_nonneg x.f2; have := sumW_len wIndex wIndex_nonneg x.f3; have := sumW_len wView wView_nonneg x.f4; omega)
  refine ⟨K0 + K1 + K2 + K3 + K4, fun k hk => ?_⟩
  have hK0 := hK0 k (by omega)
  have hK1 := hK1 k (by omega)
  have hK2 := hK2 k (by omega)
  have hK3 := hK3 k (by omega)
  have hK4 := hK4 k (by omega)
  try dsimp only at hK0 hK1 hK2 hK3 hK4 ⊢
  simp only [toPlanI] at hK0 hK1 hK2 hK3 hK4 ⊢
  simp [laws_eqPlan.f, hK0, hK1, hK2, hK3, hK4]
end Go.Proofs.Ytbgfdhabfgeglaa.Q
