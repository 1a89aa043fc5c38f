/-
  The row's computed cells: greater ones.
-/
import Derived.Test.YthbnehhonkakaaaGreatDoorRows
import Derived.JoinedOf
import Derived.KernelRfl
namespace Go.Proofs.YthbnehhonkakaaaGreatDoor
set_option maxRecDepth 100000
open Go
theorem jf2 : (mapsRowed Tryz.prog) = true := by kernel_rfl
theorem jf24 : (Tryz.prog.stopsHeard) = true := by kernel_rfl
theorem jf25 : (Tryz.prog.mayEnter) = true := by kernel_rfl
end Go.Proofs.YthbnehhonkakaaaGreatDoor
