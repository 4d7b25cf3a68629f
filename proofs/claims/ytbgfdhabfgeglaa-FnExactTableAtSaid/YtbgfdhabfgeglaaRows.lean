/-
  NARROWER THAN 'FOR EVERY INPUT', by the rows' own cells (each row's printed sentence says how): FnExactRuleAt: loops · FnExactColAt: loops · FnExactTableAt: loops · FnExactTaken: loops.
  DERIVED. THE GIVEN ROWS OF THIS SEAT. 5 by the template 'for every input the law returns true; each argument reads behind the call as it read before'; 0 by the template 'total and deterministic' (their statements: YtbgfdhabfgeglaaTotals.lean).
  GIVEN WITH THE SEED: the statements are not yours to turn. If you find one false, say at which input.
  Laid BY PROGRAM, IN A SANDBOX (cutbox-rows.mjs): the forced cells as the released guide's own fill.sh prints them over the translation 165eb53d8892c283… (all of the seat's roots in one cut). By AI agents, Wed Nov 11 2026. No macro, syntax, notation, axiom, sorry.
-/
import Derived.Test.YtbgfdhabfgeglaaChecked
import GoSem.Claim
import GoSem.ClaimJoined
import GoSem.ClaimMapViews
import Derived.JoinedTies
import Derived.KernelRfl
namespace Go.Proofs.Ytbgfdhabfgeglaa
/- THE CELL 'sum', in the pinned program and in every row, IS THE sha256 OF THE DUMP (.gsa) THAT YtbgfdhabfgeglaaProg.lean LOADS. Nothing in Lean hashes anything: it is a label: what it is worth is what the hold of that sum in a sandbox is worth. -/
noncomputable def Try.pinned : Pinned := { name := "ytbgfdhabfgeglaa", sum := "165eb53d8892c283c80d800581556850261e904651b0bca553f4e32ab1cbf873", checked := Try.checked }
namespace Rows
def none {H : Type} : Left H := { results := [], args := [] }

/-- 'laws.FnExactRuleAt': WHATEVER THE INPUT: true; the input reads as it did. -/
def fnExactRuleAtSpec : ChangeSpec := { name := "fnExactRuleAt", fn := fun _ => fun
  | [d1, d2] => { results := [.lit (.bool true)], args := [d1, d2] }
  | _ => none }
def fnExactRuleAtRow : OpenClaim := { program := "ytbgfdhabfgeglaa", sum := "165eb53d8892c283c80d800581556850261e904651b0bca553f4e32ab1cbf873", func := "loop.example/g00751/laws.FnExactRuleAt", spec := "fnExactRuleAt", unfollowed := true, recurses := true, loops := true, apart := false }
def FnExactRuleAtSaid : Prop := fnExactRuleAtRow.holds Try.pinned (OpenSpec.ofChange fnExactRuleAtSpec)

/-- ITS FALSE NEIGHBOUR: 'it returns false'. Refute it at one input. -/
def fnExactRuleAtWrong : ChangeSpec := { name := "fnExactRuleAt", fn := fun _ => fun
  | [d1, d2] => { results := [.lit (.bool false)], args := [d1, d2] }
  | _ => none }
def FnExactRuleAtWrongFalsely : Prop := fnExactRuleAtRow.holds Try.pinned (OpenSpec.ofChange fnExactRuleAtWrong)

/-- 'laws.FnExactColAt': WHATEVER THE INPUT: true; the input reads as it did. -/
def fnExactColAtSpec : ChangeSpec := { name := "fnExactColAt", fn := fun _ => fun
  | [d1, d2] => { results := [.lit (.bool true)], args := [d1, d2] }
  | _ => none }
def fnExactColAtRow : OpenClaim := { program := "ytbgfdhabfgeglaa", sum := "165eb53d8892c283c80d800581556850261e904651b0bca553f4e32ab1cbf873", func := "loop.example/g00751/laws.FnExactColAt", spec := "fnExactColAt", unfollowed := true, recurses := true, loops := true, apart := false }
def FnExactColAtSaid : Prop := fnExactColAtRow.holds Try.pinned (OpenSpec.ofChange fnExactColAtSpec)

/-- ITS FALSE NEIGHBOUR: 'it returns false'. Refute it at one input. -/
def fnExactColAtWrong : ChangeSpec := { name := "fnExactColAt", fn := fun _ => fun
  | [d1, d2] => { results := [.lit (.bool false)], args := [d1, d2] }
  | _ => none }
def FnExactColAtWrongFalsely : Prop := fnExactColAtRow.holds Try.pinned (OpenSpec.ofChange fnExactColAtWrong)

/-- 'laws.FnFound': WHATEVER THE INPUT: true; the input reads as it did. -/
def fnFoundSpec : ChangeSpec := { name := "fnFound", fn := fun _ => fun
  | [d] => { results := [.lit (.bool true)], args := [d] }
  | _ => none }
def fnFoundRow : OpenClaim := { program := "ytbgfdhabfgeglaa", sum := "165eb53d8892c283c80d800581556850261e904651b0bca553f4e32ab1cbf873", func := "loop.example/g00751/laws.FnFound", spec := "fnFound", unfollowed := true, recurses := true, apart := false }
def FnFoundSaid : Prop := fnFoundRow.holds Try.pinned (OpenSpec.ofChange fnFoundSpec)

/-- ITS FALSE NEIGHBOUR: 'it returns false'. Refute it at one input. -/
def fnFoundWrong : ChangeSpec := { name := "fnFound", fn := fun _ => fun
  | [d] => { results := [.lit (.bool false)], args := [d] }
  | _ => none }
def FnFoundWrongFalsely : Prop := fnFoundRow.holds Try.pinned (OpenSpec.ofChange fnFoundWrong)

/-- 'laws.FnExactTableAt': WHATEVER THE INPUT: true; the input reads as it did. -/
def fnExactTableAtSpec : ChangeSpec := { name := "fnExactTableAt", fn := fun _ => fun
  | [d1, d2] => { results := [.lit (.bool true)], args := [d1, d2] }
  | _ => none }
def fnExactTableAtRow : OpenClaim := { program := "ytbgfdhabfgeglaa", sum := "165eb53d8892c283c80d800581556850261e904651b0bca553f4e32ab1cbf873", func := "loop.example/g00751/laws.FnExactTableAt", spec := "fnExactTableAt", unfollowed := true, recurses := true, loops := true, apart := false }
def FnExactTableAtSaid : Prop := fnExactTableAtRow.holds Try.pinned (OpenSpec.ofChange fnExactTableAtSpec)

/-- ITS FALSE NEIGHBOUR: 'it returns false'. Refute it at one input. -/
def fnExactTableAtWrong : ChangeSpec := { name := "fnExactTableAt", fn := fun _ => fun
  | [d1, d2] => { results := [.lit (.bool false)], args := [d1, d2] }
  | _ => none }
def FnExactTableAtWrongFalsely : Prop := fnExactTableAtRow.holds Try.pinned (OpenSpec.ofChange fnExactTableAtWrong)

/-- 'laws.FnExactTaken': WHATEVER THE INPUT: true; the input reads as it did. -/
def fnExactTakenSpec : ChangeSpec := { name := "fnExactTaken", fn := fun _ => fun
  | [d1, d2] => { results := [.lit (.bool true)], args := [d1, d2] }
  | _ => none }
def fnExactTakenRow : OpenClaim := { program := "ytbgfdhabfgeglaa", sum := "165eb53d8892c283c80d800581556850261e904651b0bca553f4e32ab1cbf873", func := "loop.example/g00751/laws.FnExactTaken", spec := "fnExactTaken", unfollowed := true, recurses := true, loops := true, apart := false }
def FnExactTakenSaid : Prop := fnExactTakenRow.holds Try.pinned (OpenSpec.ofChange fnExactTakenSpec)

/-- ITS FALSE NEIGHBOUR: 'it returns false'. Refute it at one input. -/
def fnExactTakenWrong : ChangeSpec := { name := "fnExactTaken", fn := fun _ => fun
  | [d1, d2] => { results := [.lit (.bool false)], args := [d1, d2] }
  | _ => none }
def FnExactTakenWrongFalsely : Prop := fnExactTakenRow.holds Try.pinned (OpenSpec.ofChange fnExactTakenWrong)

/- THE SECOND FORM. 'bulk': how many values and letters a reading holds, each counted each time it is reached (what is shared counts as often as it is met; a slice's spare places count too). A statement '..UptoSaid' is the law's where the arguments, and the package variables that the reading takes, are together of bulk at most 1048576: NARROWER than '..Said'. Prove '..Said' where nothing that the law and all that it calls make is longer than what came in: it says more and counts as full. Else prove '..UptoSaid'. A law counts once. -/
mutual
def uptoBulk {H : Type} : DataW H → Nat
  | .lit (.string bytes) => bytes.length + 1
  | .lit _ => 1
  | .nil => 1
  | .ptr d => uptoBulk d + 1
  | .slice elems spare => uptoBulkAll elems + uptoBulkAll spare + 1
  | .agg parts => uptoBulkAll parts + 1
  | .iface _ d => uptoBulk d + 1
  | .map entries => uptoBulkEntries entries + 1
  | .held _ => 1
def uptoBulkAll {H : Type} : List (DataW H) → Nat
  | [] => 0
  | d :: r => uptoBulk d + uptoBulkAll r
def uptoBulkEntries {H : Type} : List (Lit × DataW H) → Nat
  | [] => 0
  | x :: r => uptoBulkEntry x + uptoBulkEntries r
def uptoBulkEntry {H : Type} : Lit × DataW H → Nat
  | (.string bytes, d) => bytes.length + uptoBulk d + 1
  | (_, d) => uptoBulk d + 1
 end
def uptoSmall : (H : Type) → List (DataW H) → Bool := fun _ ds => decide (uptoBulkAll ds ≤ 1048576)
def OpenSpec.upto (s : _root_.Go.ChangeSpec) : _root_.Go.OpenSpec := { _root_.Go.OpenSpec.ofChange s with cond := some uptoSmall }

/-- 'laws.FnExactRuleAt', WHERE WHAT IT READS IS OF BULK AT MOST 1048576: true; the input reads as it did. -/
def fnExactRuleAtUptoRow : OpenClaim := { program := "ytbgfdhabfgeglaa", sum := "165eb53d8892c283c80d800581556850261e904651b0bca553f4e32ab1cbf873", func := "loop.example/g00751/laws.FnExactRuleAt", spec := "fnExactRuleAt", unfollowed := true, recurses := true, loops := true, apart := false, narrowed := true }
def FnExactRuleAtUptoSaid : Prop := fnExactRuleAtUptoRow.holds Try.pinned (OpenSpec.upto fnExactRuleAtSpec)

/-- 'laws.FnExactColAt', WHERE WHAT IT READS IS OF BULK AT MOST 1048576: true; the input reads as it did. -/
def fnExactColAtUptoRow : OpenClaim := { program := "ytbgfdhabfgeglaa", sum := "165eb53d8892c283c80d800581556850261e904651b0bca553f4e32ab1cbf873", func := "loop.example/g00751/laws.FnExactColAt", spec := "fnExactColAt", unfollowed := true, recurses := true, loops := true, apart := false, narrowed := true }
def FnExactColAtUptoSaid : Prop := fnExactColAtUptoRow.holds Try.pinned (OpenSpec.upto fnExactColAtSpec)

/-- 'laws.FnFound', WHERE WHAT IT READS IS OF BULK AT MOST 1048576: true; the input reads as it did. -/
def fnFoundUptoRow : OpenClaim := { program := "ytbgfdhabfgeglaa", sum := "165eb53d8892c283c80d800581556850261e904651b0bca553f4e32ab1cbf873", func := "loop.example/g00751/laws.FnFound", spec := "fnFound", unfollowed := true, recurses := true, apart := false, narrowed := true }
def FnFoundUptoSaid : Prop := fnFoundUptoRow.holds Try.pinned (OpenSpec.upto fnFoundSpec)

/-- 'laws.FnExactTableAt', WHERE WHAT IT READS IS OF BULK AT MOST 1048576: true; the input reads as it did. -/
def fnExactTableAtUptoRow : OpenClaim := { program := "ytbgfdhabfgeglaa", sum := "165eb53d8892c283c80d800581556850261e904651b0bca553f4e32ab1cbf873", func := "loop.example/g00751/laws.FnExactTableAt", spec := "fnExactTableAt", unfollowed := true, recurses := true, loops := true, apart := false, narrowed := true }
def FnExactTableAtUptoSaid : Prop := fnExactTableAtUptoRow.holds Try.pinned (OpenSpec.upto fnExactTableAtSpec)

/-- 'laws.FnExactTaken', WHERE WHAT IT READS IS OF BULK AT MOST 1048576: true; the input reads as it did. -/
def fnExactTakenUptoRow : OpenClaim := { program := "ytbgfdhabfgeglaa", sum := "165eb53d8892c283c80d800581556850261e904651b0bca553f4e32ab1cbf873", func := "loop.example/g00751/laws.FnExactTaken", spec := "fnExactTaken", unfollowed := true, recurses := true, loops := true, apart := false, narrowed := true }
def FnExactTakenUptoSaid : Prop := fnExactTakenUptoRow.holds Try.pinned (OpenSpec.upto fnExactTakenSpec)

end Rows
end Go.Proofs.Ytbgfdhabfgeglaa
