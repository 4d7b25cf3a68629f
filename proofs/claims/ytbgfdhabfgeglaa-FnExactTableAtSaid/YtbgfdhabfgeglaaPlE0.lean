/- Conditions as trees, plainly. -/
import Derived.Test.YtbgfdhabfgeglaaPlA0
namespace Go.Proofs.Ytbgfdhabfgeglaa.Q
open Go Go.RowKit Go.Proofs.YtbgfdhabfgeglaaW.PrintWords Go.Proofs.YtbgfdhabfgeglaaW.PrintLast
set_option linter.unusedVariables false
/-- A condition as the program has it. -/
abbrev IE := S137
theorem rdI_mid (p : List IE) (e : IE) (l : List IE) : rd_T137 (p ++ e :: l) (p.length : Int) = e := by
  unfold rd_T137
  rw [Int.toNat_natCast, List.getD_eq_getElem?_getD, List.getElem?_append_right (Nat.le_refl _)]
  simp
theorem wrap_mid (n m : Nat) (h : n + m ≤ 9223372036854775806) : wrap64 ((n : Int) + 1) = ((n + 1 : Nat) : Int) := by rw [wrap_id] <;> omega
mutual
/-- How many nodes a condition has. -/
def nIE : IE → Nat
  | ⟨_, _, _, l⟩ => 1 + nIs l
def nIs : List IE → Nat
  | [] => 0
  | e :: l => nIE e + nIs l
end
theorem nIE_pos : ∀ e, 1 ≤ nIE e
  | ⟨_, _, _, l⟩ => by simp only [nIE]; omega
theorem nIs_len : ∀ l, l.length ≤ nIs l
  | [] => by simp [nIs]
  | e :: l => by have := nIE_pos e; have := nIs_len l; simp only [nIs, List.length_cons]; omega
mutual
/-- Equality of conditions, told by a Bool. -/
def eqIE : IE → IE → Bool
  | ⟨a, b, c, l⟩, ⟨a', b', c', l'⟩ => decide (a = a') && (decide (b = b') && (decide (c = c') && eqIs l l'))
def eqIs : List IE → List IE → Bool
  | [], [] => true
  | e :: l, e' :: l' => eqIE e e' && eqIs l l'
  | _, _ => false
end
mutual
theorem eqIE_iff : ∀ e e' : IE, eqIE e e' = true ↔ e = e'
  | ⟨a, b, c, l⟩, ⟨a', b', c', l'⟩ => by
    have := eqIs_iff l l'
    simp only [eqIE, Bool.and_eq_true, decide_eq_true_eq, this]
    constructor
    · rintro ⟨rfl, rfl, rfl, rfl⟩; rfl
    · intro h; injection h with h1 h2 h3 h4; exact ⟨h1, h2, h3, h4⟩
theorem eqIs_iff : ∀ l l' : List IE, eqIs l l' = true ↔ l = l'
  | [], [] => by simp [eqIs]
  | [], _ :: _ => by simp [eqIs]
  | _ :: _, [] => by simp [eqIs]
  | e :: l, e' :: l' => by
    have h1 := eqIE_iff e e'
    have h2 := eqIs_iff l l'
    simp only [eqIs, Bool.and_eq_true, h1, h2, List.cons.injEq]
end
theorem eqIE_refl (e : IE) : eqIE e e = true := (eqIE_iff e e).2 rfl
theorem eqIs_ne : ∀ l l' : List IE, l.length ≠ l'.length → eqIs l l' = false
  | [], [], h => absurd rfl h
  | [], _ :: _, _ => by simp [eqIs]
  | _ :: _, [], _ => by simp [eqIs]
  | e :: l, e' :: l', h => by
    have := eqIs_ne l l' (fun h' => h (by simp [h']))
    simp [eqIs, this]
end Go.Proofs.Ytbgfdhabfgeglaa.Q
