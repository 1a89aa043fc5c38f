/-
  The row's computed cells: greater ones.
-/
import Derived.Test.YthbnehhonkakaaaGreatDoorRows
import Derived.JoinedOf
import Derived.KernelRfl
namespace Go.Proofs.YthbnehhonkakaaaGreatDoor
set_option maxRecDepth 100000
open Go
theorem jf12 : ((Rows.auditNilRow.named == Tryz.prog.varsNamed 3)) = true := by kernel_rfl
end Go.Proofs.YthbnehhonkakaaaGreatDoor
