/- Columns, rules and tables, plainly: weights, copies, equality. -/
import Derived.Test.YtbgfdhabfgeglaaPlG
import Derived.Test.YtbgfdhabfgeglaaQ1
import Derived.Test.YtbgfdhabfgeglaaQ2
import Derived.Test.YtbgfdhabfgeglaaQ3
import Derived.Test.YtbgfdhabfgeglaaQ4
import Derived.Test.YtbgfdhabfgeglaaQ5
namespace Go.Proofs.Ytbgfdhabfgeglaa.Q
open Go Go.RowKit Go.Proofs.YtbgfdhabfgeglaaW.PrintWords Go.Proofs.YtbgfdhabfgeglaaW.PrintLast
set_option linter.unusedVariables false
set_option linter.unusedSimpArgs false
/-! Type -/
def wType (x : S117) : Int := (x.f2.size : Int) + (0)
theorem wType_nonneg (x : S117) : 0 ≤ wType x := by
  unfold wType; omega
theorem szType (x : S117) (g : G117 x) : Sz (fun k t => laws_szType.f x.f0 x.f1 x.f2 t) (wType x) :=
  sz_str (g := fun k t => laws_szType.f x.f0 x.f1 x.f2 t) (rest := fun k t => some t) (w := 0) x.f2 (g.2.2) (sz_end) (by omega) (fun _ _ => rfl)
def toTypeI (x : S117) : S76 := ⟨x.f0, x.f1, x.f2⟩
theorem toType_ev (x : S117) (hw : wType x ≤ 1048576) : Ev (fun k => laws_toType.f x.f0 x.f1 x.f2) ((toTypeI x).f0, (toTypeI x).f1, (toTypeI x).f2) := by
  refine ⟨0, fun k hk => ?_⟩
  simp only [laws_toType.f, Option.bind_some]
  rfl
theorem eqType_ev (x : S117) (hw : wType x ≤ 1048576) : Ev (fun k => laws_eqType.f (toTypeI x).f0 (toTypeI x).f1 (toTypeI x).f2 (toTypeI x).f0 (toTypeI x).f1 (toTypeI x).f2) true := by
  refine ⟨0, fun k hk => ?_⟩
  simp only [toTypeI] at ⊢
  simp [laws_eqType.f]
/-! Col -/
def wCol (x : S120) : Int := (x.f0.size : Int) + (wType x.f1 + (wLs x.f3 + (0)))
theorem wCol_nonneg (x : S120) : 0 ≤ wCol x := by
  have := wType_nonneg x.f1
  have := wLs_nonneg x.f3
  unfold wCol; omega
theorem szCol (x : S120) (g : G120 x) : Sz (fun k t => laws_szCol.f k x.f0 x.f1.f0 x.f1.f1 x.f1.f2 x.f2 x.f3 t) (wCol x) :=
  sz_str (g := fun k t => laws_szCol.f k x.f0 x.f1.f0 x.f1.f1 x.f1.f2 x.f2 x.f3 t) (rest := fun k t => (laws_szType.f x.f1.f0 x.f1.f1 x.f1.f2 t).bind fun t1 => if t1 < 0 then some (-1) else (laws_szExprS.f k x.f3 t1).bind fun t2 => if t2 < 0 then some (-1) else some t2) (w := wType x.f1 + (wLs x.f3 + (0))) x.f0 (g.1) (sz_call (g := fun k t => (laws_szType.f x.f1.f0 x.f1.f1 x.f1.f2 t).bind fun t1 => if t1 < 0 then some (-1) else (laws_szExprS.f k x.f3 t1).bind fun t2 => if t2 < 0 then some (-1) else some t2) (c := fun k t => laws_szType.f x.f1.f0 x.f1.f1 x.f1.f2 t) (rest := fun k t => (laws_szExprS.f k x.f3 t).bind fun t2 => if t2 < 0 then some (-1) else some t2) (w1 := wType x.f1) (w := wLs x.f3 + (0)) (szType x.f1 (g.2.1)) (by have := wType_nonneg x.f1; omega) (sz_call (g := fun k t => (laws_szExprS.f k x.f3 t).bind fun t2 => if t2 < 0 then some (-1) else some t2) (c := fun k t => laws_szExprS.f k x.f3 t) (rest := fun k t => some t) (w1 := wLs x.f3) (w := 0) (szExprs x.f3 (g.2.2.2.1) (g.2.2.2.2)) (by have := wLs_nonneg x.f3; omega) (sz_end) (by omega) (fun _ _ => rfl)) (by have := wLs_nonneg x.f3; omega) (fun _ _ => rfl)) (by have := wType_nonneg x.f1; have := wLs_nonneg x.f3; omega) (fun _ _ => rfl)
def toColI (x : S120) : S78 := ⟨x.f0, toTypeI x.f1, x.f2, toIs x.f3⟩
theorem toCol_ev (x : S120) (hw : wCol x ≤ 1048576) : Ev (fun k => laws_toCol.f k x.f0 x.f1.f0 x.f1.f1 x.f1.f2 x.f2 x.f3) ((toColI x).f0, (toColI x).f1.f0, (toColI x).f1.f1, (toColI x).f1.f2, (toColI x).f2, (toColI x).f3) := by
  obtain ⟨K0, hK0⟩ := toExprS_ev x.f3 (by unfold wCol at hw; have := wType_nonneg x.f1; have := wLs_nonneg x.f3; have := wLs_len x.f3; omega)
  refine ⟨K0, fun k hk => ?_⟩
  have hK0 := hK0 k (by omega)
  try dsimp only at hK0 ⊢
  simp only [laws_toCol.f, laws_toType.f, Option.bind_some, hK0]
  rfl
theorem eqCol_ev (x : S120) (hw : wCol x ≤ 1048576) : Ev (fun k => laws_eqCol.f k (toColI x).f0 (toColI x).f1.f0 (toColI x).f1.f1 (toColI x).f1.f2 (toColI x).f2 (toColI x).f3 (toColI x).f0 (toColI x).f1.f0 (toColI x).f1.f1 (toColI x).f1.f2 (toColI x).f2 (toColI x).f3) true := by
  obtain ⟨K0, hK0⟩ := eqType_ev x.f1 (by unfold wCol at hw; have := wType_nonneg x.f1; have := wLs_nonneg x.f3; have := wLs_len x.f3; omega)
  obtain ⟨K1, hK1⟩ := eqExprs (toIs x.f3) (by have := nIs_to x.f3; unfold wCol at hw; have := wType_nonneg x.f1; have := wLs_nonneg x.f3; have := wLs_len x.f3; omega)
  refine ⟨K0 + K1, fun k hk => ?_⟩
  have hK0 := hK0 k (by omega)
  have hK1 := hK1 k (by omega)
  try dsimp only at hK0 hK1 ⊢
  simp only [toColI, toTypeI] at hK0 hK1 ⊢
  simp [laws_eqCol.f, hK0, hK1]
theorem rdL_Col (p : List S120) (e : S120) (l : List S120) : rd_T120 (p ++ e :: l) (p.length : Int) = e := rd_mid_of (z := z120) _ (fun _ _ => rfl) p e l
theorem rdI_Col (p : List S78) (e : S78) (l : List S78) : rd_T78 (p ++ e :: l) (p.length : Int) = e := rd_mid_of (z := z78) _ (fun _ _ => rfl) p e l
theorem szColS (l : List S120) (hm : l.length ≤ 9223372036854775807) (g : ∀ y ∈ l, G120 y) : Sz (fun k t => laws_szColS.f k l t) (sumW wCol l) :=
  sz_slice (fun k t => laws_szColS.f k l t) laws_szColS.l0 wCol wCol_nonneg l hm (fun _ _ => rfl) (fun hn => sz_loop laws_szColS.l0 (fun k x t => laws_szCol.f k x.f0 x.f1.f0 x.f1.f1 x.f1.f2 x.f2 x.f3 t) rd_T120 wCol wCol_nonneg rdL_Col (fun _ _ _ _ => by simp only [laws_szColS.l0]) l [] (fun e he => szCol e (g e he)) (by simpa using hn))
theorem toColS_ev (l : List S120) (hw : sumW wCol l ≤ 1048576) : Ev (fun k => laws_toColS.f k l) (l.map toColI) := by
  have hl := sumW_len wCol wCol_nonneg l
  obtain ⟨K, hK⟩ := to_loop laws_toColS.l0 (fun k x => laws_toCol.f k x.f0 x.f1.f0 x.f1.f1 x.f1.f2 x.f2 x.f3) (fun b : ByteArray × Int × Int × ByteArray × Bool × List IE => (⟨b.1, (⟨b.2.1, b.2.2.1, b.2.2.2.1⟩ : S76), b.2.2.2.2.1, b.2.2.2.2.2⟩ : S78)) toColI rd_T120 rdL_Col (fun _ _ _ _ => by simp only [laws_toColS.l0]) l [] (List.replicate l.length z78) (fun e he => ⟨_, toCol_ev e (by have := sumW_mem wCol wCol_nonneg l e he; omega), rfl⟩) (by simp) (by simp; omega)
  refine ⟨K, fun k hk => ?_⟩
  have hK := hK k hk
  try dsimp only at hK ⊢
  simp only [List.map_nil, List.nil_append, List.length_nil, Int.natCast_zero] at hK
  simp only [laws_toColS.f]
  rw [if_pos (by omega), Int.toNat_natCast, if_pos (by omega)]
  exact hK
theorem eqColS_ev (l : List S120) (hw : sumW wCol l ≤ 1048576) : Ev (fun k => laws_eqColS.f k (l.map toColI) (l.map toColI)) true := by
  have hl := sumW_len wCol wCol_nonneg l
  obtain ⟨K, hK⟩ := eq_loop laws_eqColS.l0 (fun k x y => laws_eqCol.f k x.f0 x.f1.f0 x.f1.f1 x.f1.f2 x.f2 x.f3 y.f0 y.f1.f0 y.f1.f1 y.f1.f2 y.f2 y.f3) rd_T78 rdI_Col (fun _ _ _ _ => by simp only [laws_eqColS.l0]) (l.map toColI) [] (fun e he => by
    obtain ⟨x, hx, rfl⟩ := List.mem_map.1 he
    exact eqCol_ev x (by have := sumW_mem wCol wCol_nonneg l x hx; omega)) (by simp; omega)
  refine ⟨K, fun k hk => ?_⟩
  have hK := hK k hk
  try dsimp only at hK ⊢
  simp only [List.nil_append, List.length_nil, Int.natCast_zero] at hK
  simp only [laws_eqColS.f, if_true]
  exact hK
/-! Rule -/
def wRule (x : S123) : Int := (x.f0.size : Int) + (((x.f2.length : Int) + strW x.f2) + (wLs x.f3 + ((x.f4.size : Int) + (((x.f5.length : Int) + strW x.f5) + (0)))))
theorem wRule_nonneg (x : S123) : 0 ≤ wRule x := by
  have := strW_nonneg x.f2
  have := wLs_nonneg x.f3
  have := strW_nonneg x.f5
  unfold wRule; omega
theorem szRule (x : S123) (g : G123 x) : Sz (fun k t => laws_szRule.f k x.f0 x.f1 x.f2 x.f3 x.f4 x.f5 t) (wRule x) :=
  sz_str (g := fun k t => laws_szRule.f k x.f0 x.f1 x.f2 x.f3 x.f4 x.f5 t) (rest := fun k t => (laws_szStringS.f k x.f2 t).bind fun t1 => if t1 < 0 then some (-1) else (laws_szExprS.f k x.f3 t1).bind fun t2 => if t2 < 0 then some (-1) else if (wrap64 (t2 - (x.f4.size : Int))) < 0 then some (-1) else (laws_szStringS.f k x.f5 (wrap64 (t2 - (x.f4.size : Int)))).bind fun t4 => if t4 < 0 then some (-1) else some t4) (w := ((x.f2.length : Int) + strW x.f2) + (wLs x.f3 + ((x.f4.size : Int) + (((x.f5.length : Int) + strW x.f5) + (0))))) x.f0 (g.1) (sz_call (g := fun k t => (laws_szStringS.f k x.f2 t).bind fun t1 => if t1 < 0 then some (-1) else (laws_szExprS.f k x.f3 t1).bind fun t2 => if t2 < 0 then some (-1) else if (wrap64 (t2 - (x.f4.size : Int))) < 0 then some (-1) else (laws_szStringS.f k x.f5 (wrap64 (t2 - (x.f4.size : Int)))).bind fun t4 => if t4 < 0 then some (-1) else some t4) (c := fun k t => laws_szStringS.f k x.f2 t) (rest := fun k t => (laws_szExprS.f k x.f3 t).bind fun t2 => if t2 < 0 then some (-1) else if (wrap64 (t2 - (x.f4.size : Int))) < 0 then some (-1) else (laws_szStringS.f k x.f5 (wrap64 (t2 - (x.f4.size : Int)))).bind fun t4 => if t4 < 0 then some (-1) else some t4) (w1 := ((x.f2.length : Int) + strW x.f2)) (w := wLs x.f3 + ((x.f4.size : Int) + (((x.f5.length : Int) + strW x.f5) + (0)))) (szStrs x.f2 (g.2.2.1) (g.2.2.2.1)) (by have := strW_nonneg x.f2; omega) (sz_call (g := fun k t => (laws_szExprS.f k x.f3 t).bind fun t2 => if t2 < 0 then some (-1) else if (wrap64 (t2 - (x.f4.size : Int))) < 0 then some (-1) else (laws_szStringS.f k x.f5 (wrap64 (t2 - (x.f4.size : Int)))).bind fun t4 => if t4 < 0 then some (-1) else some t4) (c := fun k t => laws_szExprS.f k x.f3 t) (rest := fun k t => if (wrap64 (t - (x.f4.size : Int))) < 0 then some (-1) else (laws_szStringS.f k x.f5 (wrap64 (t - (x.f4.size : Int)))).bind fun t4 => if t4 < 0 then some (-1) else some t4) (w1 := wLs x.f3) (w := (x.f4.size : Int) + (((x.f5.length : Int) + strW x.f5) + (0))) (szExprs x.f3 (g.2.2.2.2.1) (g.2.2.2.2.2.1)) (by have := wLs_nonneg x.f3; omega) (sz_str (g := fun k t => if (wrap64 (t - (x.f4.size : Int))) < 0 then some (-1) else (laws_szStringS.f k x.f5 (wrap64 (t - (x.f4.size : Int)))).bind fun t4 => if t4 < 0 then some (-1) else some t4) (rest := fun k t => (laws_szStringS.f k x.f5 t).bind fun t4 => if t4 < 0 then some (-1) else some t4) (w := ((x.f5.length : Int) + strW x.f5) + (0)) x.f4 (g.2.2.2.2.2.2.1) (sz_call (g := fun k t => (laws_szStringS.f k x.f5 t).bind fun t4 => if t4 < 0 then some (-1) else some t4) (c := fun k t => laws_szStringS.f k x.f5 t) (rest := fun k t => some t) (w1 := ((x.f5.length : Int) + strW x.f5)) (w := 0) (szStrs x.f5 (g.2.2.2.2.2.2.2.1) (g.2.2.2.2.2.2.2.2)) (by have := strW_nonneg x.f5; omega) (sz_end) (by omega) (fun _ _ => rfl)) (by have := strW_nonneg x.f5; omega) (fun _ _ => rfl)) (by have := strW_nonneg x.f5; omega) (fun _ _ => rfl)) (by have := wLs_nonneg x.f3; have := strW_nonneg x.f5; omega) (fun _ _ => rfl)) (by have := strW_nonneg x.f2; have := wLs_nonneg x.f3; have := strW_nonneg x.f5; omega) (fun _ _ => rfl)
def toRuleI (x : S123) : S66 := ⟨x.f0, x.f1, x.f2, toIs x.f3, x.f4, x.f5⟩
theorem toRule_ev (x : S123) (hw : wRule x ≤ 1048576) : Ev (fun k => laws_toRule.f k x.f0 x.f1 x.f2 x.f3 x.f4 x.f5) ((toRuleI x).f0, (toRuleI x).f1, (toRuleI x).f2, (toRuleI x).f3, (toRuleI x).f4, (toRuleI x).f5) := by
  obtain ⟨K0, hK0⟩ := toStringS_ev x.f2 (by unfold wRule at hw; have := strW_nonneg x.f2; have := wLs_nonneg x.f3; have := strW_nonneg x.f5; have := wLs_len x.f3; omega)
  obtain ⟨K1, hK1⟩ := toExprS_ev x.f3 (by unfold wRule at hw; have := strW_nonneg x.f2; have := wLs_nonneg x.f3; have := strW_nonneg x.f5; have := wLs_len x.f3; omega)
  obtain ⟨K2, hK2⟩ := toStringS_ev x.f5 (by unfold wRule at hw; have := strW_nonneg x.f2; have := wLs_nonneg x.f3; have := strW_nonneg x.f5; have := wLs_len x.f3; omega)
  refine ⟨K0 + K1 + K2, fun k hk => ?_⟩
  have hK0 := hK0 k (by omega)
  have hK1 := hK1 k (by omega)
  have hK2 := hK2 k (by omega)
  try dsimp only at hK0 hK1 hK2 ⊢
  simp only [laws_toRule.f, Option.bind_some, hK0, hK1, hK2]
  rfl
theorem eqRule_ev (x : S123) (hw : wRule x ≤ 1048576) : Ev (fun k => laws_eqRule.f k (toRuleI x).f0 (toRuleI x).f1 (toRuleI x).f2 (toRuleI x).f3 (toRuleI x).f4 (toRuleI x).f5 (toRuleI x).f0 (toRuleI x).f1 (toRuleI x).f2 (toRuleI x).f3 (toRuleI x).f4 (toRuleI x).f5) true := by
  obtain ⟨K0, hK0⟩ := eqStrs x.f2 (by unfold wRule at hw; have := strW_nonneg x.f2; have := wLs_nonneg x.f3; have := strW_nonneg x.f5; have := wLs_len x.f3; omega)
  obtain ⟨K1, hK1⟩ := eqExprs (toIs x.f3) (by have := nIs_to x.f3; unfold wRule at hw; have := strW_nonneg x.f2; have := wLs_nonneg x.f3; have := strW_nonneg x.f5; have := wLs_len x.f3; omega)
  obtain ⟨K2, hK2⟩ := eqStrs x.f5 (by unfold wRule at hw; have := strW_nonneg x.f2; have := wLs_nonneg x.f3; have := strW_nonneg x.f5; have := wLs_len x.f3; omega)
  refine ⟨K0 + K1 + K2, fun k hk => ?_⟩
  have hK0 := hK0 k (by omega)
  have hK1 := hK1 k (by omega)
  have hK2 := hK2 k (by omega)
  try dsimp only at hK0 hK1 hK2 ⊢
  simp only [toRuleI] at hK0 hK1 hK2 ⊢
  simp [laws_eqRule.f, hK0, hK1, hK2]
theorem rdL_Rule (p : List S123) (e : S123) (l : List S123) : rd_T123 (p ++ e :: l) (p.length : Int) = e := rd_mid_of (z := z123) _ (fun _ _ => rfl) p e l
theorem rdI_Rule (p : List S66) (e : S66) (l : List S66) : rd_T66 (p ++ e :: l) (p.length : Int) = e := rd_mid_of (z := z66) _ (fun _ _ => rfl) p e l
theorem szRuleS (l : List S123) (hm : l.length ≤ 9223372036854775807) (g : ∀ y ∈ l, G123 y) : Sz (fun k t => laws_szRuleS.f k l t) (sumW wRule l) :=
  sz_slice (fun k t => laws_szRuleS.f k l t) laws_szRuleS.l0 wRule wRule_nonneg l hm (fun _ _ => rfl) (fun hn => sz_loop laws_szRuleS.l0 (fun k x t => laws_szRule.f k x.f0 x.f1 x.f2 x.f3 x.f4 x.f5 t) rd_T123 wRule wRule_nonneg rdL_Rule (fun _ _ _ _ => by simp only [laws_szRuleS.l0]) l [] (fun e he => szRule e (g e he)) (by simpa using hn))
theorem toRuleS_ev (l : List S123) (hw : sumW wRule l ≤ 1048576) : Ev (fun k => laws_toRuleS.f k l) (l.map toRuleI) := by
  have hl := sumW_len wRule wRule_nonneg l
  obtain ⟨K, hK⟩ := to_loop laws_toRuleS.l0 (fun k x => laws_toRule.f k x.f0 x.f1 x.f2 x.f3 x.f4 x.f5) (fun b : ByteArray × Int × List ByteArray × List IE × ByteArray × List ByteArray => (⟨b.1, b.2.1, b.2.2.1, b.2.2.2.1, b.2.2.2.2.1, b.2.2.2.2.2⟩ : S66)) toRuleI rd_T123 rdL_Rule (fun _ _ _ _ => by simp only [laws_toRuleS.l0]) l [] (List.replicate l.length z66) (fun e he => ⟨_, toRule_ev e (by have := sumW_mem wRule wRule_nonneg l e he; omega), rfl⟩) (by simp) (by simp; omega)
  refine ⟨K, fun k hk => ?_⟩
  have hK := hK k hk
  try dsimp only at hK ⊢
  simp only [List.map_nil, List.nil_append, List.length_nil, Int.natCast_zero] at hK
  simp only [laws_toRuleS.f]
  rw [if_pos (by omega), Int.toNat_natCast, if_pos (by omega)]
  exact hK
theorem eqRuleS_ev (l : List S123) (hw : sumW wRule l ≤ 1048576) : Ev (fun k => laws_eqRuleS.f k (l.map toRuleI) (l.map toRuleI)) true := by
  have hl := sumW_len wRule wRule_nonneg l
  obtain ⟨K, hK⟩ := eq_loop laws_eqRuleS.l0 (fun k x y => laws_eqRule.f k x.f0 x.f1 x.f2 x.f3 x.f4 x.f5 y.f0 y.f1 y.f2 y.f3 y.f4 y.f5) rd_T66 rdI_Rule (fun _ _ _ _ => by simp only [laws_eqRuleS.l0]) (l.map toRuleI) [] (fun e he => by
    obtain ⟨x, hx, rfl⟩ := List.mem_map.1 he
    exact eqRule_ev x (by have := sumW_mem wRule wRule_nonneg l x hx; omega)) (by simp; omega)
  refine ⟨K, fun k hk => ?_⟩
  have hK := hK k hk
  try dsimp only at hK ⊢
  simp only [List.nil_append, List.length_nil, Int.natCast_zero] at hK
  simp only [laws_eqRuleS.f, if_true]
  exact hK
/-! Table -/
def wTable (x : S25) : Int := (x.f0.size : Int) + (sumW wCol x.f1 + (sumW wRule x.f2 + (0)))
theorem wTable_nonneg (x : S25) : 0 ≤ wTable x := by
  have := sumW_nonneg wCol wCol_nonneg x.f1
  have := sumW_nonneg wRule wRule_nonneg x.f2
  unfold wTable; omega
theorem szTable (x : S25) (g : G25 x) : Sz (fun k t => laws_szTable.f k x.f0 x.f1 x.f2 x.f3 t) (wTable x) :=
  sz_str (g := fun k t => laws_szTable.f k x.f0 x.f1 x.f2 x.f3 t) (rest := fun k t => (laws_szColS.f k x.f1 t).bind fun t1 => if t1 < 0 then some (-1) else (laws_szRuleS.f k x.f2 t1).bind fun t2 => if t2 < 0 then some (-1) else some t2) (w := sumW wCol x.f1 + (sumW wRule x.f2 + (0))) x.f0 (g.1) (sz_call (g := fun k t => (laws_szColS.f k x.f1 t).bind fun t1 => if t1 < 0 then some (-1) else (laws_szRuleS.f k x.f2 t1).bind fun t2 => if t2 < 0 then some (-1) else some t2) (c := fun k t => laws_szColS.f k x.f1 t) (rest := fun k t => (laws_szRuleS.f k x.f2 t).bind fun t2 => if t2 < 0 then some (-1) else some t2) (w1 := sumW wCol x.f1) (w := sumW wRule x.f2 + (0)) (szColS x.f1 (g.2.1) (g.2.2.1)) (by have := sumW_nonneg wCol wCol_nonneg x.f1; omega) (sz_call (g := fun k t => (laws_szRuleS.f k x.f2 t).bind fun t2 => if t2 < 0 then some (-1) else some t2) (c := fun k t => laws_szRuleS.f k x.f2 t) (rest := fun k t => some t) (w1 := sumW wRule x.f2) (w := 0) (szRuleS x.f2 (g.2.2.2.1) (g.2.2.2.2.1)) (by have := sumW_nonneg wRule wRule_nonneg x.f2; omega) (sz_end) (by omega) (fun _ _ => rfl)) (by have := sumW_nonneg wRule wRule_nonneg x.f2; omega) (fun _ _ => rfl)) (by have := sumW_nonneg wCol wCol_nonneg x.f1; have := sumW_nonneg wRule wRule_nonneg x.f2; omega) (fun _ _ => rfl)
def toTableI (x : S25) : S31 := ⟨x.f0, x.f1.map toColI, x.f2.map toRuleI, x.f3⟩
theorem toTable_ev (x : S25) (hw : wTable x ≤ 1048576) : Ev (fun k => laws_toTable.f k x.f0 x.f1 x.f2 x.f3) ((toTableI x).f0, (toTableI x).f1, (toTableI x).f2, (toTableI x).f3) := by
  obtain ⟨K0, hK0⟩ := toColS_ev x.f1 (by unfold wTable at hw; have := sumW_nonneg wCol wCol_nonneg x.f1; have := sumW_nonneg wRule wRule_nonneg x.f2; have := sumW_len wCol wCol_nonneg x.f1; have := sumW_len wRule wRule_nonneg x.f2; omega)
  obtain ⟨K1, hK1⟩ := toRuleS_ev x.f2 (by unfold wTable at hw; have := sumW_nonneg wCol wCol_nonneg x.f1; have := sumW_nonneg wRule wRule_nonneg x.f2; have := sumW_len wCol wCol_nonneg x.f1; have := sumW_len wRule wRule_nonneg x.f2; omega)
  refine ⟨K0 + K1, fun k hk => ?_⟩
  have hK0 := hK0 k (by omega)
  have hK1 := hK1 k (by omega)
  try dsimp only at hK0 hK1 ⊢
  simp only [laws_toTable.f, Option.bind_some, hK0, hK1]
  rfl
theorem eqTable_ev (x : S25) (hw : wTable x ≤ 1048576) : Ev (fun k => laws_eqTable.f k (toTableI x).f0 (toTableI x).f1 (toTableI x).f2 (toTableI x).f3 (toTableI x).f0 (toTableI x).f1 (toTableI x).f2 (toTableI x).f3) true := by
  obtain ⟨K0, hK0⟩ := eqColS_ev x.f1 (by unfold wTable at hw; have := sumW_nonneg wCol wCol_nonneg x.f1; have := sumW_nonneg wRule wRule_nonneg x.f2; have := sumW_len wCol wCol_nonneg x.f1; have := sumW_len wRule wRule_nonneg x.f2; omega)
  obtain ⟨K1, hK1⟩ := eqRuleS_ev x.f2 (by unfold wTable at hw; have := sumW_nonneg wCol wCol_nonneg x.f1; have := sumW_nonneg wRule wRule_nonneg x.f2; have := sumW_len wCol wCol_nonneg x.f1; have := sumW_len wRule wRule_nonneg x.f2; omega)
  refine ⟨K0 + K1, fun k hk => ?_⟩
  have hK0 := hK0 k (by omega)
  have hK1 := hK1 k (by omega)
  try dsimp only at hK0 hK1 ⊢
  simp only [toTableI] at hK0 hK1 ⊢
  simp [laws_eqTable.f, hK0, hK1]
end Go.Proofs.Ytbgfdhabfgeglaa.Q
