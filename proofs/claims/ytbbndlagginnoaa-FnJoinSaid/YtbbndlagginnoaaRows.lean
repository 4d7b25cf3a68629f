/-
  NARROWER THAN 'FOR EVERY INPUT', by the rows' own cells (each row's printed sentence says how): FnExactRenamed: loops · FnExactExprOk: loops.
  DERIVED. THE GIVEN ROWS OF THIS SEAT. 8 by the template 'for every input the law returns true; each argument reads behind the call as it read before'; 0 by the template 'total and deterministic' (their statements: YtbbndlagginnoaaTotals.lean).
  GIVEN WITH THE SEED: the statements are not yours to turn. If you find one false, say at which input.
  Laid BY PROGRAM, IN A SANDBOX (cutbox-rows.mjs): the forced cells as the released guide's own fill.sh prints them over the translation d03da8b9d361359c… (all of the seat's roots in one cut). By AI agents, Wed Nov 11 2026. No macro, syntax, notation, axiom, sorry.
-/
import Derived.Test.YtbbndlagginnoaaChecked
import GoSem.Claim
import GoSem.ClaimJoined
import GoSem.ClaimMapViews
import Derived.JoinedTies
import Derived.KernelRfl
namespace Go.Proofs.Ytbbndlagginnoaa
/- THE CELL 'sum', in the pinned program and in every row, IS THE sha256 OF THE DUMP (.gsa) THAT YtbbndlagginnoaaProg.lean LOADS. Nothing in Lean hashes anything: it is a label: what it is worth is what the hold of that sum in a sandbox is worth. -/
noncomputable def Try.pinned : Pinned := { name := "ytbbndlagginnoaa", sum := "d03da8b9d361359c3255a949cedc7497c4881b72a4d8367506769644f9759e1a", checked := Try.checked }
namespace Rows
def none {H : Type} : Left H := { results := [], args := [] }

/-- 'laws.FnJoin': WHATEVER THE INPUT: true; the input reads as it did. -/
def fnJoinSpec : ChangeSpec := { name := "fnJoin", fn := fun _ => fun
  | [d] => { results := [.lit (.bool true)], args := [d] }
  | _ => none }
def fnJoinRow : OpenClaim := { program := "ytbbndlagginnoaa", sum := "d03da8b9d361359c3255a949cedc7497c4881b72a4d8367506769644f9759e1a", func := "loop.example/g00751/laws.FnJoin", spec := "fnJoin", inPlace := ["internal/abi.NoEscape", "internal/bytealg.MakeNoZero"], apart := false }
def FnJoinSaid : Prop := fnJoinRow.holds Try.pinned (OpenSpec.ofChange fnJoinSpec)

/-- ITS FALSE NEIGHBOUR: 'it returns false'. Refute it at one input. -/
def fnJoinWrong : ChangeSpec := { name := "fnJoin", fn := fun _ => fun
  | [d] => { results := [.lit (.bool false)], args := [d] }
  | _ => none }
def FnJoinWrongFalsely : Prop := fnJoinRow.holds Try.pinned (OpenSpec.ofChange fnJoinWrong)

/-- 'laws.FnHas': WHATEVER THE INPUT: true; the input reads as it did. -/
def fnHasSpec : ChangeSpec := { name := "fnHas", fn := fun _ => fun
  | [d] => { results := [.lit (.bool true)], args := [d] }
  | _ => none }
def fnHasRow : OpenClaim := { program := "ytbbndlagginnoaa", sum := "d03da8b9d361359c3255a949cedc7497c4881b72a4d8367506769644f9759e1a", func := "loop.example/g00751/laws.FnHas", spec := "fnHas", unfollowed := true, recurses := true, apart := false }
def FnHasSaid : Prop := fnHasRow.holds Try.pinned (OpenSpec.ofChange fnHasSpec)

/-- ITS FALSE NEIGHBOUR: 'it returns false'. Refute it at one input. -/
def fnHasWrong : ChangeSpec := { name := "fnHas", fn := fun _ => fun
  | [d] => { results := [.lit (.bool false)], args := [d] }
  | _ => none }
def FnHasWrongFalsely : Prop := fnHasRow.holds Try.pinned (OpenSpec.ofChange fnHasWrong)

/-- 'laws.FnExactPut': WHATEVER THE INPUT: true; the input reads as it did. -/
def fnExactPutSpec : ChangeSpec := { name := "fnExactPut", fn := fun _ => fun
  | [d1, d2] => { results := [.lit (.bool true)], args := [d1, d2] }
  | _ => none }
def fnExactPutRow : OpenClaim := { program := "ytbbndlagginnoaa", sum := "d03da8b9d361359c3255a949cedc7497c4881b72a4d8367506769644f9759e1a", func := "loop.example/g00751/laws.FnExactPut", spec := "fnExactPut", inPlace := ["slices.overlaps[string]"], unfollowed := true, recurses := true, apart := false }
def FnExactPutSaid : Prop := fnExactPutRow.holds Try.pinned (OpenSpec.ofChange fnExactPutSpec)

/-- ITS FALSE NEIGHBOUR: 'it returns false'. Refute it at one input. -/
def fnExactPutWrong : ChangeSpec := { name := "fnExactPut", fn := fun _ => fun
  | [d1, d2] => { results := [.lit (.bool false)], args := [d1, d2] }
  | _ => none }
def FnExactPutWrongFalsely : Prop := fnExactPutRow.holds Try.pinned (OpenSpec.ofChange fnExactPutWrong)

/-- 'laws.FnPut': WHATEVER THE INPUT: true; the input reads as it did. -/
def fnPutSpec : ChangeSpec := { name := "fnPut", fn := fun _ => fun
  | [d] => { results := [.lit (.bool true)], args := [d] }
  | _ => none }
def fnPutRow : OpenClaim := { program := "ytbbndlagginnoaa", sum := "d03da8b9d361359c3255a949cedc7497c4881b72a4d8367506769644f9759e1a", func := "loop.example/g00751/laws.FnPut", spec := "fnPut", inPlace := ["slices.overlaps[string]"], unfollowed := true, recurses := true, apart := false }
def FnPutSaid : Prop := fnPutRow.holds Try.pinned (OpenSpec.ofChange fnPutSpec)

/-- ITS FALSE NEIGHBOUR: 'it returns false'. Refute it at one input. -/
def fnPutWrong : ChangeSpec := { name := "fnPut", fn := fun _ => fun
  | [d] => { results := [.lit (.bool false)], args := [d] }
  | _ => none }
def FnPutWrongFalsely : Prop := fnPutRow.holds Try.pinned (OpenSpec.ofChange fnPutWrong)

/-- 'laws.FnExactRenamed': WHATEVER THE INPUT: true; the input reads as it did. -/
def fnExactRenamedSpec : ChangeSpec := { name := "fnExactRenamed", fn := fun _ => fun
  | [d1, d2, d3] => { results := [.lit (.bool true)], args := [d1, d2, d3] }
  | _ => none }
def fnExactRenamedRow : OpenClaim := { program := "ytbbndlagginnoaa", sum := "d03da8b9d361359c3255a949cedc7497c4881b72a4d8367506769644f9759e1a", func := "loop.example/g00751/laws.FnExactRenamed", spec := "fnExactRenamed", recurses := true, loops := true, apart := false }
def FnExactRenamedSaid : Prop := fnExactRenamedRow.holds Try.pinned (OpenSpec.ofChange fnExactRenamedSpec)

/-- ITS FALSE NEIGHBOUR: 'it returns false'. Refute it at one input. -/
def fnExactRenamedWrong : ChangeSpec := { name := "fnExactRenamed", fn := fun _ => fun
  | [d1, d2, d3] => { results := [.lit (.bool false)], args := [d1, d2, d3] }
  | _ => none }
def FnExactRenamedWrongFalsely : Prop := fnExactRenamedRow.holds Try.pinned (OpenSpec.ofChange fnExactRenamedWrong)

/-- 'laws.FnRenamed': WHATEVER THE INPUT: true; the input reads as it did. -/
def fnRenamedSpec : ChangeSpec := { name := "fnRenamed", fn := fun _ => fun
  | [d] => { results := [.lit (.bool true)], args := [d] }
  | _ => none }
def fnRenamedRow : OpenClaim := { program := "ytbbndlagginnoaa", sum := "d03da8b9d361359c3255a949cedc7497c4881b72a4d8367506769644f9759e1a", func := "loop.example/g00751/laws.FnRenamed", spec := "fnRenamed", recurses := true, apart := false }
def FnRenamedSaid : Prop := fnRenamedRow.holds Try.pinned (OpenSpec.ofChange fnRenamedSpec)

/-- ITS FALSE NEIGHBOUR: 'it returns false'. Refute it at one input. -/
def fnRenamedWrong : ChangeSpec := { name := "fnRenamed", fn := fun _ => fun
  | [d] => { results := [.lit (.bool false)], args := [d] }
  | _ => none }
def FnRenamedWrongFalsely : Prop := fnRenamedRow.holds Try.pinned (OpenSpec.ofChange fnRenamedWrong)

/-- 'laws.FnExactExprOk': WHATEVER THE INPUT: true; the input reads as it did. -/
def fnExactExprOkSpec : ChangeSpec := { name := "fnExactExprOk", fn := fun _ => fun
  | [d] => { results := [.lit (.bool true)], args := [d] }
  | _ => none }
def fnExactExprOkRow : OpenClaim := { program := "ytbbndlagginnoaa", sum := "d03da8b9d361359c3255a949cedc7497c4881b72a4d8367506769644f9759e1a", func := "loop.example/g00751/laws.FnExactExprOk", spec := "fnExactExprOk", inPlace := ["internal/bytealg.IndexByteString", "internal/bytealg.IndexString"], unfollowed := true, recurses := true, named := ["internal/bytealg.MaxLen"], loops := true, apart := false }
def FnExactExprOkSaid : Prop := fnExactExprOkRow.holds Try.pinned (OpenSpec.ofChange fnExactExprOkSpec)

/-- ITS FALSE NEIGHBOUR: 'it returns false'. Refute it at one input. -/
def fnExactExprOkWrong : ChangeSpec := { name := "fnExactExprOk", fn := fun _ => fun
  | [d] => { results := [.lit (.bool false)], args := [d] }
  | _ => none }
def FnExactExprOkWrongFalsely : Prop := fnExactExprOkRow.holds Try.pinned (OpenSpec.ofChange fnExactExprOkWrong)

/-- 'laws.FnNodes': WHATEVER THE INPUT: true; the input reads as it did. -/
def fnNodesSpec : ChangeSpec := { name := "fnNodes", fn := fun _ => fun
  | [d] => { results := [.lit (.bool true)], args := [d] }
  | _ => none }
def fnNodesRow : OpenClaim := { program := "ytbbndlagginnoaa", sum := "d03da8b9d361359c3255a949cedc7497c4881b72a4d8367506769644f9759e1a", func := "loop.example/g00751/laws.FnNodes", spec := "fnNodes", inPlace := ["internal/bytealg.IndexByteString", "internal/bytealg.IndexString"], unfollowed := true, recurses := true, named := ["internal/bytealg.MaxLen"], apart := false }
def FnNodesSaid : Prop := fnNodesRow.holds Try.pinned (OpenSpec.ofChange fnNodesSpec)

/-- ITS FALSE NEIGHBOUR: 'it returns false'. Refute it at one input. -/
def fnNodesWrong : ChangeSpec := { name := "fnNodes", fn := fun _ => fun
  | [d] => { results := [.lit (.bool false)], args := [d] }
  | _ => none }
def FnNodesWrongFalsely : Prop := fnNodesRow.holds Try.pinned (OpenSpec.ofChange fnNodesWrong)

/- THE SECOND FORM. 'bulk': how many values and letters a reading holds, each counted each time it is reached (what is shared counts as often as it is met; a slice's spare places count too). A statement '..UptoSaid' is the law's where the arguments, and the package variables that the reading takes, are together of bulk at most 1048576: NARROWER than '..Said'. Prove '..Said' where nothing that the law and all that it calls make is longer than what came in: it says more and counts as full. Else prove '..UptoSaid'. A law counts once. -/
mutual
def uptoBulk {H : Type} : DataW H → Nat
  | .lit (.string bytes) => bytes.length + 1
  | .lit _ => 1
  | .nil => 1
  | .ptr d => uptoBulk d + 1
  | .slice elems spare => uptoBulkAll elems + uptoBulkAll spare + 1
  | .agg parts => uptoBulkAll parts + 1
  | .iface _ d => uptoBulk d + 1
  | .map entries => uptoBulkEntries entries + 1
  | .held _ => 1
def uptoBulkAll {H : Type} : List (DataW H) → Nat
  | [] => 0
  | d :: r => uptoBulk d + uptoBulkAll r
def uptoBulkEntries {H : Type} : List (Lit × DataW H) → Nat
  | [] => 0
  | x :: r => uptoBulkEntry x + uptoBulkEntries r
def uptoBulkEntry {H : Type} : Lit × DataW H → Nat
  | (.string bytes, d) => bytes.length + uptoBulk d + 1
  | (_, d) => uptoBulk d + 1
 end
def uptoSmall : (H : Type) → List (DataW H) → Bool := fun _ ds => decide (uptoBulkAll ds ≤ 1048576)
def OpenSpec.upto (s : _root_.Go.ChangeSpec) : _root_.Go.OpenSpec := { _root_.Go.OpenSpec.ofChange s with cond := some uptoSmall }

/-- 'laws.FnJoin', WHERE WHAT IT READS IS OF BULK AT MOST 1048576: true; the input reads as it did. -/
def fnJoinUptoRow : OpenClaim := { program := "ytbbndlagginnoaa", sum := "d03da8b9d361359c3255a949cedc7497c4881b72a4d8367506769644f9759e1a", func := "loop.example/g00751/laws.FnJoin", spec := "fnJoin", inPlace := ["internal/abi.NoEscape", "internal/bytealg.MakeNoZero"], apart := false, narrowed := true }
def FnJoinUptoSaid : Prop := fnJoinUptoRow.holds Try.pinned (OpenSpec.upto fnJoinSpec)

/-- 'laws.FnHas', WHERE WHAT IT READS IS OF BULK AT MOST 1048576: true; the input reads as it did. -/
def fnHasUptoRow : OpenClaim := { program := "ytbbndlagginnoaa", sum := "d03da8b9d361359c3255a949cedc7497c4881b72a4d8367506769644f9759e1a", func := "loop.example/g00751/laws.FnHas", spec := "fnHas", unfollowed := true, recurses := true, apart := false, narrowed := true }
def FnHasUptoSaid : Prop := fnHasUptoRow.holds Try.pinned (OpenSpec.upto fnHasSpec)

/-- 'laws.FnExactPut', WHERE WHAT IT READS IS OF BULK AT MOST 1048576: true; the input reads as it did. -/
def fnExactPutUptoRow : OpenClaim := { program := "ytbbndlagginnoaa", sum := "d03da8b9d361359c3255a949cedc7497c4881b72a4d8367506769644f9759e1a", func := "loop.example/g00751/laws.FnExactPut", spec := "fnExactPut", inPlace := ["slices.overlaps[string]"], unfollowed := true, recurses := true, apart := false, narrowed := true }
def FnExactPutUptoSaid : Prop := fnExactPutUptoRow.holds Try.pinned (OpenSpec.upto fnExactPutSpec)

/-- 'laws.FnPut', WHERE WHAT IT READS IS OF BULK AT MOST 1048576: true; the input reads as it did. -/
def fnPutUptoRow : OpenClaim := { program := "ytbbndlagginnoaa", sum := "d03da8b9d361359c3255a949cedc7497c4881b72a4d8367506769644f9759e1a", func := "loop.example/g00751/laws.FnPut", spec := "fnPut", inPlace := ["slices.overlaps[string]"], unfollowed := true, recurses := true, apart := false, narrowed := true }
def FnPutUptoSaid : Prop := fnPutUptoRow.holds Try.pinned (OpenSpec.upto fnPutSpec)

/-- 'laws.FnExactRenamed', WHERE WHAT IT READS IS OF BULK AT MOST 1048576: true; the input reads as it did. -/
def fnExactRenamedUptoRow : OpenClaim := { program := "ytbbndlagginnoaa", sum := "d03da8b9d361359c3255a949cedc7497c4881b72a4d8367506769644f9759e1a", func := "loop.example/g00751/laws.FnExactRenamed", spec := "fnExactRenamed", recurses := true, loops := true, apart := false, narrowed := true }
def FnExactRenamedUptoSaid : Prop := fnExactRenamedUptoRow.holds Try.pinned (OpenSpec.upto fnExactRenamedSpec)

/-- 'laws.FnRenamed', WHERE WHAT IT READS IS OF BULK AT MOST 1048576: true; the input reads as it did. -/
def fnRenamedUptoRow : OpenClaim := { program := "ytbbndlagginnoaa", sum := "d03da8b9d361359c3255a949cedc7497c4881b72a4d8367506769644f9759e1a", func := "loop.example/g00751/laws.FnRenamed", spec := "fnRenamed", recurses := true, apart := false, narrowed := true }
def FnRenamedUptoSaid : Prop := fnRenamedUptoRow.holds Try.pinned (OpenSpec.upto fnRenamedSpec)

/-- 'laws.FnExactExprOk', WHERE WHAT IT READS IS OF BULK AT MOST 1048576: true; the input reads as it did. -/
def fnExactExprOkUptoRow : OpenClaim := { program := "ytbbndlagginnoaa", sum := "d03da8b9d361359c3255a949cedc7497c4881b72a4d8367506769644f9759e1a", func := "loop.example/g00751/laws.FnExactExprOk", spec := "fnExactExprOk", inPlace := ["internal/bytealg.IndexByteString", "internal/bytealg.IndexString"], unfollowed := true, recurses := true, named := ["internal/bytealg.MaxLen"], loops := true, apart := false, narrowed := true }
def FnExactExprOkUptoSaid : Prop := fnExactExprOkUptoRow.holds Try.pinned (OpenSpec.upto fnExactExprOkSpec)

/-- 'laws.FnNodes', WHERE WHAT IT READS IS OF BULK AT MOST 1048576: true; the input reads as it did. -/
def fnNodesUptoRow : OpenClaim := { program := "ytbbndlagginnoaa", sum := "d03da8b9d361359c3255a949cedc7497c4881b72a4d8367506769644f9759e1a", func := "loop.example/g00751/laws.FnNodes", spec := "fnNodes", inPlace := ["internal/bytealg.IndexByteString", "internal/bytealg.IndexString"], unfollowed := true, recurses := true, named := ["internal/bytealg.MaxLen"], apart := false, narrowed := true }
def FnNodesUptoSaid : Prop := fnNodesUptoRow.holds Try.pinned (OpenSpec.upto fnNodesSpec)

end Rows
end Go.Proofs.Ytbbndlagginnoaa
