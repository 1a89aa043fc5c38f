/-
  The row's computed cells: greater ones.
-/
import Derived.Test.YthbnehhonkakaaaGreatDoorRows
import Derived.JoinedOf
import Derived.KernelRfl
namespace Go.Proofs.YthbnehhonkakaaaGreatDoor
set_option maxRecDepth 100000
open Go
theorem jf10 : ((Rows.auditNilRow.unfollowed == Tryz.prog.unfollowed 3)) = true := by kernel_rfl
theorem jf11 : ((Rows.auditNilRow.recurses == Tryz.prog.recurses 3)) = true := by kernel_rfl
end Go.Proofs.YthbnehhonkakaaaGreatDoor
