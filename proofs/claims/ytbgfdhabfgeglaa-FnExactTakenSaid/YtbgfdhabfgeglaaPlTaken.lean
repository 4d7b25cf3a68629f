/- The names of a plan, plainly. -/
import Derived.Test.YtbgfdhabfgeglaaPlPlan
import Derived.Test.YtbgfdhabfgeglaaPlH0
import Derived.Test.YtbgfdhabfgeglaaFIdx
import Derived.Test.YtbgfdhabfgeglaaQ14
namespace Go.Proofs.Ytbgfdhabfgeglaa.Q
open Go Go.RowKit Go.Proofs.YtbgfdhabfgeglaaW.PrintWords Go.Proofs.YtbgfdhabfgeglaaW.PrintLast
set_option linter.unusedVariables false
set_option linter.unusedSimpArgs false
theorem hasB_append (s : ByteArray) : ∀ a b, hasB s (a ++ b) = (hasB s a || hasB s b)
  | [], b => by simp [hasB]
  | x :: a, b => by simp only [List.cons_append, hasB, hasB_append s a b, Bool.or_assoc]
theorem any_names {α : Type} (nm : α → ByteArray) (p : α → Bool) (s : ByteArray) (hp : ∀ x, p x = ((nm x).toList == s.toList)) : ∀ l : List α, l.any p = hasB s (l.map nm)
  | [] => rfl
  | x :: l => by
    simp only [List.any_cons, List.map_cons, hasB, any_names nm p s hp l, hp]
    congr 1
    by_cases h : s = nm x
    · subst h; simp
    · rw [decide_eq_false h]
      exact beq_eq_false_iff_ne.2 (fun e => h (str_eq.1 e).symm)
theorem app_loop {α : Type} (F : Nat → List ByteArray → Int → Option (List ByteArray)) (G : Nat → List ByteArray → Option (List ByteArray)) (nm : α → ByteArray) (rd : List α → Int → α) (hrd : ∀ p e l, rd (p ++ e :: l) (p.length : Int) = e) (L : List α) (r : List ByteArray)
    (he : ∀ k x i, F (k + 1) x i = if i < (L.length : Int) then (if 0 ≤ i then (if x.length < 8796093022208 then F k (x ++ [nm (rd L i)]) (wrap64 (i + 1)) else none) else none) else G k x) :
    ∀ (l q : List α) (x : List ByteArray), L = q ++ l → x.length + l.length ≤ 4194304 → q.length + l.length ≤ 4194304 → Ev (fun k => G k (x ++ l.map nm)) r → Ev (fun k => F k x (q.length : Int)) r
  | [], q, x, hL, hn, hq, hG => by
    refine ev_succ ?_
    obtain ⟨K, hK⟩ := hG
    refine ⟨K, fun k hk => ?_⟩
    have hK := hK k hk
    try dsimp only at hK ⊢
    rw [he, if_neg (by rw [hL]; simp)]
    simpa using hK
  | e :: l, q, x, hL, hn, hq, hG => by
    have el : (e :: l).length = l.length + 1 := rfl
    have hlt : (q.length : Int) < (L.length : Int) := by rw [hL]; simp only [List.length_append, List.length_cons]; omega
    obtain ⟨K, hK⟩ := app_loop F G nm rd hrd L r he l (q ++ [e]) (x ++ [nm e]) (by rw [hL]; simp) (by simp; omega) (by simp; omega) (by simpa using hG)
    refine ev_succ ⟨K, fun k hk => ?_⟩
    have hK := hK k hk
    try dsimp only at hK ⊢
    rw [List.length_append, List.length_singleton] at hK
    have hr : rd L (q.length : Int) = e := by rw [hL, hrd]
    rw [he, if_pos hlt, if_pos (by omega), if_pos (by omega), hr, wrap_mid q.length l.length (by omega)]
    exact hK
/-- All names of a plan, in order. -/
def allNames (l1 : List S89) (l2 : List S31) (l3 : List S93) (l4 : List S97) : List ByteArray := ((l1.map fun x => x.f0) ++ (l2.map fun x => x.f0)) ++ ((l3.map fun x => x.f0) ++ (l4.map fun x => x.f0))
theorem spec_All_ev (l0 : List S141) (l1 : List S89) (l2 : List S31) (l3 : List S93) (l4 : List S97) (n : Int) (hl : l1.length + l2.length + l3.length + l4.length ≤ 4194304) : Ev (fun k => spec_l06All.f k l0 l1 l2 l3 l4 n) (allNames l1 l2 l3 l4) := by
  have h4 := fun x (hx : True) => app_loop (fun k x i => spec_l06All.l3 k x i l0 l1 l2 l3 l4 n) (fun _ x => some x) (fun x => x.f0) rd_T97 rdI_View l4 (allNames l1 l2 l3 l4) (fun _ _ _ => by simp only [spec_l06All.l3]) l4 [] x rfl
  have h3 := fun x (hx : True) => app_loop (fun k x i => spec_l06All.l2 k x i l0 l1 l2 l3 l4 n) (fun k x => spec_l06All.l3 k x 0 l0 l1 l2 l3 l4 n) (fun x => x.f0) rd_T93 rdI_Index l3 (allNames l1 l2 l3 l4) (fun _ _ _ => by simp only [spec_l06All.l2]) l3 [] x rfl
  have h2 := fun x (hx : True) => app_loop (fun k x i => spec_l06All.l1 k x i l0 l1 l2 l3 l4 n) (fun k x => spec_l06All.l2 k x 0 l0 l1 l2 l3 l4 n) (fun x => x.f0) rd_T31 rdI_Table l2 (allNames l1 l2 l3 l4) (fun _ _ _ => by simp only [spec_l06All.l1]) l2 [] x rfl
  have h1 := fun x (hx : True) => app_loop (fun k x i => spec_l06All.l0 k x i l0 l1 l2 l3 l4 n) (fun k x => spec_l06All.l1 k x 0 l0 l1 l2 l3 l4 n) (fun x => x.f0) rd_T89 rdI_Seq l1 (allNames l1 l2 l3 l4) (fun _ _ _ => by simp only [spec_l06All.l0]) l1 [] x rfl
  refine h1 [] trivial (by simp; omega) (by simp; omega) (h2 _ trivial (by simp; omega) (by simp; omega) (h3 _ trivial (by simp; omega) (by simp; omega) (h4 _ trivial (by simp; omega) (by simp; omega) ⟨0, fun k _ => ?_⟩)))
  simp only [allNames, List.nil_append, List.append_assoc]
end Go.Proofs.Ytbgfdhabfgeglaa.Q
