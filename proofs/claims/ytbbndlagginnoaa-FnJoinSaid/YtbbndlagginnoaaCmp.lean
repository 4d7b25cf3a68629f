/- '<=', '>' and '>=' of strings, told by 'less' alone: for the walks. -/
import Derived.WalkKit
namespace Go.Proofs.Ytbbndlagginnoaa.Cmp
open Go
theorem bytesLess_irrefl : ∀ x : List UInt8, Op.bytesLess x x = false
  | [] => rfl
  | a :: x => by simp [Op.bytesLess, bytesLess_irrefl x, UInt8.lt_irrefl]
theorem bytesLess_flip : ∀ x y : List UInt8, (Op.bytesLess x y || x == y) = !Op.bytesLess y x
  | [], [] => rfl
  | [], _ :: _ => rfl
  | _ :: _, [] => rfl
  | a :: x, b :: y => by
    have ih := bytesLess_flip x y
    simp only [Op.bytesLess, List.cons_beq_cons]
    by_cases h : a = b
    · subst h
      simp [UInt8.lt_irrefl, ih]
    · have h1 : (a == b) = false := beq_eq_false_iff_ne.2 h
      have h2 : (b == a) = false := beq_eq_false_iff_ne.2 (fun e => h e.symm)
      rw [h1, h2]
      by_cases h3 : a < b
      · have h4 : ¬ b < a := fun h5 => UInt8.lt_irrefl a (UInt8.lt_trans h3 h5)
        simp [h3, h4]
      · have h4 : b < a := by
          rw [UInt8.lt_iff_toNat_lt] at h3 ⊢
          have hne : a.toNat ≠ b.toNat := fun e => h (UInt8.toNat_inj.1 e)
          omega
        simp [h3, h4]
@[go_sem] theorem binOp_string_leq' (t : TypeId) (a b : ByteArray) : binOp .leq t (.string a) (.string b) = pure (.bool !(Op.bytesLess b.toList a.toList)) := by
  simp [binOp, Op.stringOp, bytesLess_flip]
@[go_sem] theorem binOp_string_gtr' (t : TypeId) (a b : ByteArray) : binOp .gtr t (.string a) (.string b) = pure (.bool (Op.bytesLess b.toList a.toList)) := by
  simp [binOp, Op.stringOp, bytesLess_flip]
@[go_sem] theorem binOp_string_geq' (t : TypeId) (a b : ByteArray) : binOp .geq t (.string a) (.string b) = pure (.bool !(Op.bytesLess a.toList b.toList)) := by
  simp [binOp, Op.stringOp]
end Go.Proofs.Ytbbndlagginnoaa.Cmp
