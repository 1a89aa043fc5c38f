/-
  Closed facts of the program: its start.
-/
import Derived.Test.YthbnehhonkakaaaGreatDoorRows
import Derived.JoinedOf
import Derived.Carry
import Derived.KernelRfl
namespace Go.Proofs.YthbnehhonkakaaaGreatDoor
open Go Go.Proofs
theorem zErr : (((begin Tryz.prog (fun _ _ => 0) default).world.heap[4]?).bind Obj.row?) = some (#[.nilIface], 402) := by kernel_rfl
end Go.Proofs.YthbnehhonkakaaaGreatDoor
