/-
  Closed facts of the program: its types' layout.
-/
import Derived.Test.YthbnehhonkakaaaGreatDoorRows
import Derived.JoinedOf
import Derived.Carry
import Derived.KernelRfl
namespace Go.Proofs.YthbnehhonkakaaaGreatDoor
open Go Go.Proofs
theorem laidOut : laidOutB Tryz.prog = true := by kernel_rfl
theorem pReadable : Tryz.prog.readableRec 28 = true := by kernel_rfl
end Go.Proofs.YthbnehhonkakaaaGreatDoor
