/- Layings of generic functions at this translation, in plain words. -/
import Derived.Ground.Names2Prog
import Derived.Shelf.Spec.SlicesInsertGrow
import Derived.Test.YtbbndlagginnoaaProg
namespace Go.Proofs
open Go.Shelf
def Try.insertStr_ren : Go.Shelf.Ren := ⟨fun | 22 => 58 | 29 => 78 | 30 => 79 | 36 => 96 | 17 => 104 | n => n, fun | 24 => 24 | 9 => 9 | 3 => 3 | 4 => 4 | 0 => 0 | n => n, fun | n => n⟩
theorem Try.insertStr : Go.Proofs.Lays2.n22 Try.prog Try.insertStr_ren := {
  mixed := by kernel_rfl
  f17 := Try.func104.trans (congrArg some (by kernel_rfl))
  f22 := Try.func58.trans (congrArg some (by kernel_rfl))
  f29 := Try.func78.trans (congrArg some (by kernel_rfl))
  f30 := Try.func79.trans (congrArg some (by kernel_rfl))
  f36 := Try.func96.trans (congrArg some (by kernel_rfl))
  t0 := Try.underlying0
  a0 := Try.isAgg0
  z0 := Try.sizeOf0
  v0 := Try.zeroValue0
  t3 := Try.underlying3
  a3 := Try.isAgg3
  z3 := Try.sizeOf3
  v3 := Try.zeroValue3
  t4 := Try.underlying4
  a4 := Try.isAgg4
  z4 := Try.sizeOf4
  v4 := Try.zeroValue4
  t9 := Try.underlying9
  a9 := Try.isAgg9
  z9 := Try.sizeOf9
  v9 := Try.zeroValue9
  t24 := Try.underlying24
  a24 := Try.isAgg24
  z24 := Try.sizeOf24
  v24 := Try.zeroValue24
  i9 := by kernel_rfl }
end Go.Proofs
