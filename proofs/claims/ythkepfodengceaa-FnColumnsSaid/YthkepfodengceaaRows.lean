/-
  NARROWER THAN 'FOR EVERY INPUT', by the rows' own cells (each row's printed sentence says how): FnExactColumns: loops · FnExactGives: loops.
  DERIVED. THE GIVEN ROWS OF THIS SEAT. 5 by the template 'for every input the law returns true; each argument reads behind the call as it read before'; 0 by the template 'total and deterministic' (their statements: YthkepfodengceaaTotals.lean).
  GIVEN WITH THE SEED: the statements are not yours to turn. If you find one false, say at which input.
  Laid BY PROGRAM, IN A SANDBOX (cutbox-rows.mjs): the forced cells as the released guide's own fill.sh prints them over the translation 9d14fdf3280bf564… (all of the seat's roots in one cut). By AI agents, Wed Nov 11 2026. No macro, syntax, notation, axiom, sorry.
-/
import Derived.Test.YthkepfodengceaaChecked
import GoSem.Claim
import GoSem.ClaimJoined
import GoSem.ClaimMapViews
import Derived.JoinedTies
import Derived.KernelRfl
namespace Go.Proofs.Ythkepfodengceaa
/- THE CELL 'sum', in the pinned program and in every row, IS THE sha256 OF THE DUMP (.gsa) THAT YthkepfodengceaaProg.lean LOADS. Nothing in Lean hashes anything: it is a label: what it is worth is what the hold of that sum in a sandbox is worth. -/
noncomputable def Try.pinned : Pinned := { name := "ythkepfodengceaa", sum := "9d14fdf3280bf564b936255284416b3326375488de0cc4fe59e35568cbcccfbb", checked := Try.checked }
namespace Rows
def none {H : Type} : Left H := { results := [], args := [] }

/-- 'laws.FnColumns': WHATEVER THE INPUT: true; the input reads as it did. -/
def fnColumnsSpec : ChangeSpec := { name := "fnColumns", fn := fun _ => fun
  | [d] => { results := [.lit (.bool true)], args := [d] }
  | _ => none }
def fnColumnsRow : OpenClaim := { program := "ythkepfodengceaa", sum := "9d14fdf3280bf564b936255284416b3326375488de0cc4fe59e35568cbcccfbb", func := "loop.example/g00751/laws.FnColumns", spec := "fnColumns", recurses := true, apart := false }
def FnColumnsSaid : Prop := fnColumnsRow.holds Try.pinned (OpenSpec.ofChange fnColumnsSpec)

/-- ITS FALSE NEIGHBOUR: 'it returns false'. Refute it at one input. -/
def fnColumnsWrong : ChangeSpec := { name := "fnColumns", fn := fun _ => fun
  | [d] => { results := [.lit (.bool false)], args := [d] }
  | _ => none }
def FnColumnsWrongFalsely : Prop := fnColumnsRow.holds Try.pinned (OpenSpec.ofChange fnColumnsWrong)

/-- 'laws.FnExactColumns': WHATEVER THE INPUT: true; the input reads as it did. -/
def fnExactColumnsSpec : ChangeSpec := { name := "fnExactColumns", fn := fun _ => fun
  | [d] => { results := [.lit (.bool true)], args := [d] }
  | _ => none }
def fnExactColumnsRow : OpenClaim := { program := "ythkepfodengceaa", sum := "9d14fdf3280bf564b936255284416b3326375488de0cc4fe59e35568cbcccfbb", func := "loop.example/g00751/laws.FnExactColumns", spec := "fnExactColumns", recurses := true, loops := true, apart := false }
def FnExactColumnsSaid : Prop := fnExactColumnsRow.holds Try.pinned (OpenSpec.ofChange fnExactColumnsSpec)

/-- ITS FALSE NEIGHBOUR: 'it returns false'. Refute it at one input. -/
def fnExactColumnsWrong : ChangeSpec := { name := "fnExactColumns", fn := fun _ => fun
  | [d] => { results := [.lit (.bool false)], args := [d] }
  | _ => none }
def FnExactColumnsWrongFalsely : Prop := fnExactColumnsRow.holds Try.pinned (OpenSpec.ofChange fnExactColumnsWrong)

/-- 'laws.FnSort': WHATEVER THE INPUT: true; the input reads as it did. -/
def fnSortSpec : ChangeSpec := { name := "fnSort", fn := fun _ => fun
  | [d] => { results := [.lit (.bool true)], args := [d] }
  | _ => none }
def fnSortRow : OpenClaim := { program := "ythkepfodengceaa", sum := "9d14fdf3280bf564b936255284416b3326375488de0cc4fe59e35568cbcccfbb", func := "loop.example/g00751/laws.FnSort", spec := "fnSort", inPlace := ["internal/bytealg.IndexByteString", "internal/bytealg.IndexString"], unfollowed := true, recurses := true, named := ["internal/bytealg.MaxLen"], apart := false }
def FnSortSaid : Prop := fnSortRow.holds Try.pinned (OpenSpec.ofChange fnSortSpec)

/-- ITS FALSE NEIGHBOUR: 'it returns false'. Refute it at one input. -/
def fnSortWrong : ChangeSpec := { name := "fnSort", fn := fun _ => fun
  | [d] => { results := [.lit (.bool false)], args := [d] }
  | _ => none }
def FnSortWrongFalsely : Prop := fnSortRow.holds Try.pinned (OpenSpec.ofChange fnSortWrong)

/-- 'laws.FnGives': WHATEVER THE INPUT: true; the input reads as it did. -/
def fnGivesSpec : ChangeSpec := { name := "fnGives", fn := fun _ => fun
  | [d] => { results := [.lit (.bool true)], args := [d] }
  | _ => none }
def fnGivesRow : OpenClaim := { program := "ythkepfodengceaa", sum := "9d14fdf3280bf564b936255284416b3326375488de0cc4fe59e35568cbcccfbb", func := "loop.example/g00751/laws.FnGives", spec := "fnGives", inPlace := ["internal/bytealg.IndexByteString", "internal/bytealg.IndexString"], unfollowed := true, recurses := true, named := ["internal/bytealg.MaxLen"], apart := false }
def FnGivesSaid : Prop := fnGivesRow.holds Try.pinned (OpenSpec.ofChange fnGivesSpec)

/-- ITS FALSE NEIGHBOUR: 'it returns false'. Refute it at one input. -/
def fnGivesWrong : ChangeSpec := { name := "fnGives", fn := fun _ => fun
  | [d] => { results := [.lit (.bool false)], args := [d] }
  | _ => none }
def FnGivesWrongFalsely : Prop := fnGivesRow.holds Try.pinned (OpenSpec.ofChange fnGivesWrong)

/-- 'laws.FnExactGives': WHATEVER THE INPUT: true; the input reads as it did. -/
def fnExactGivesSpec : ChangeSpec := { name := "fnExactGives", fn := fun _ => fun
  | [d1, d2, d3] => { results := [.lit (.bool true)], args := [d1, d2, d3] }
  | _ => none }
def fnExactGivesRow : OpenClaim := { program := "ythkepfodengceaa", sum := "9d14fdf3280bf564b936255284416b3326375488de0cc4fe59e35568cbcccfbb", func := "loop.example/g00751/laws.FnExactGives", spec := "fnExactGives", inPlace := ["internal/bytealg.IndexByteString", "internal/bytealg.IndexString"], unfollowed := true, recurses := true, named := ["internal/bytealg.MaxLen"], loops := true, apart := false }
def FnExactGivesSaid : Prop := fnExactGivesRow.holds Try.pinned (OpenSpec.ofChange fnExactGivesSpec)

/-- ITS FALSE NEIGHBOUR: 'it returns false'. Refute it at one input. -/
def fnExactGivesWrong : ChangeSpec := { name := "fnExactGives", fn := fun _ => fun
  | [d1, d2, d3] => { results := [.lit (.bool false)], args := [d1, d2, d3] }
  | _ => none }
def FnExactGivesWrongFalsely : Prop := fnExactGivesRow.holds Try.pinned (OpenSpec.ofChange fnExactGivesWrong)

/- THE SECOND FORM. 'bulk': how many values and letters a reading holds, each counted each time it is reached (what is shared counts as often as it is met; a slice's spare places count too). A statement '..UptoSaid' is the law's where the arguments, and the package variables that the reading takes, are together of bulk at most 1048576: NARROWER than '..Said'. Prove '..Said' where nothing that the law and all that it calls make is longer than what came in: it says more and counts as full. Else prove '..UptoSaid'. A law counts once. -/
mutual
def uptoBulk {H : Type} : DataW H → Nat
  | .lit (.string bytes) => bytes.length + 1
  | .lit _ => 1
  | .nil => 1
  | .ptr d => uptoBulk d + 1
  | .slice elems spare => uptoBulkAll elems + uptoBulkAll spare + 1
  | .agg parts => uptoBulkAll parts + 1
  | .iface _ d => uptoBulk d + 1
  | .map entries => uptoBulkEntries entries + 1
  | .held _ => 1
def uptoBulkAll {H : Type} : List (DataW H) → Nat
  | [] => 0
  | d :: r => uptoBulk d + uptoBulkAll r
def uptoBulkEntries {H : Type} : List (Lit × DataW H) → Nat
  | [] => 0
  | x :: r => uptoBulkEntry x + uptoBulkEntries r
def uptoBulkEntry {H : Type} : Lit × DataW H → Nat
  | (.string bytes, d) => bytes.length + uptoBulk d + 1
  | (_, d) => uptoBulk d + 1
 end
def uptoSmall : (H : Type) → List (DataW H) → Bool := fun _ ds => decide (uptoBulkAll ds ≤ 1048576)
def OpenSpec.upto (s : _root_.Go.ChangeSpec) : _root_.Go.OpenSpec := { _root_.Go.OpenSpec.ofChange s with cond := some uptoSmall }

/-- 'laws.FnColumns', WHERE WHAT IT READS IS OF BULK AT MOST 1048576: true; the input reads as it did. -/
def fnColumnsUptoRow : OpenClaim := { program := "ythkepfodengceaa", sum := "9d14fdf3280bf564b936255284416b3326375488de0cc4fe59e35568cbcccfbb", func := "loop.example/g00751/laws.FnColumns", spec := "fnColumns", recurses := true, apart := false, narrowed := true }
def FnColumnsUptoSaid : Prop := fnColumnsUptoRow.holds Try.pinned (OpenSpec.upto fnColumnsSpec)

/-- 'laws.FnExactColumns', WHERE WHAT IT READS IS OF BULK AT MOST 1048576: true; the input reads as it did. -/
def fnExactColumnsUptoRow : OpenClaim := { program := "ythkepfodengceaa", sum := "9d14fdf3280bf564b936255284416b3326375488de0cc4fe59e35568cbcccfbb", func := "loop.example/g00751/laws.FnExactColumns", spec := "fnExactColumns", recurses := true, loops := true, apart := false, narrowed := true }
def FnExactColumnsUptoSaid : Prop := fnExactColumnsUptoRow.holds Try.pinned (OpenSpec.upto fnExactColumnsSpec)

/-- 'laws.FnSort', WHERE WHAT IT READS IS OF BULK AT MOST 1048576: true; the input reads as it did. -/
def fnSortUptoRow : OpenClaim := { program := "ythkepfodengceaa", sum := "9d14fdf3280bf564b936255284416b3326375488de0cc4fe59e35568cbcccfbb", func := "loop.example/g00751/laws.FnSort", spec := "fnSort", inPlace := ["internal/bytealg.IndexByteString", "internal/bytealg.IndexString"], unfollowed := true, recurses := true, named := ["internal/bytealg.MaxLen"], apart := false, narrowed := true }
def FnSortUptoSaid : Prop := fnSortUptoRow.holds Try.pinned (OpenSpec.upto fnSortSpec)

/-- 'laws.FnGives', WHERE WHAT IT READS IS OF BULK AT MOST 1048576: true; the input reads as it did. -/
def fnGivesUptoRow : OpenClaim := { program := "ythkepfodengceaa", sum := "9d14fdf3280bf564b936255284416b3326375488de0cc4fe59e35568cbcccfbb", func := "loop.example/g00751/laws.FnGives", spec := "fnGives", inPlace := ["internal/bytealg.IndexByteString", "internal/bytealg.IndexString"], unfollowed := true, recurses := true, named := ["internal/bytealg.MaxLen"], apart := false, narrowed := true }
def FnGivesUptoSaid : Prop := fnGivesUptoRow.holds Try.pinned (OpenSpec.upto fnGivesSpec)

/-- 'laws.FnExactGives', WHERE WHAT IT READS IS OF BULK AT MOST 1048576: true; the input reads as it did. -/
def fnExactGivesUptoRow : OpenClaim := { program := "ythkepfodengceaa", sum := "9d14fdf3280bf564b936255284416b3326375488de0cc4fe59e35568cbcccfbb", func := "loop.example/g00751/laws.FnExactGives", spec := "fnExactGives", inPlace := ["internal/bytealg.IndexByteString", "internal/bytealg.IndexString"], unfollowed := true, recurses := true, named := ["internal/bytealg.MaxLen"], loops := true, apart := false, narrowed := true }
def FnExactGivesUptoSaid : Prop := fnExactGivesUptoRow.holds Try.pinned (OpenSpec.upto fnExactGivesSpec)

end Rows
end Go.Proofs.Ythkepfodengceaa
