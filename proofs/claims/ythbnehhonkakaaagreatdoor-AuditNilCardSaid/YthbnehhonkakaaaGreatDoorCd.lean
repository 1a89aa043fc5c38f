/-
  A closed fact of the card.
-/
import Derived.Test.YthbnehhonkakaaaGreatDoorRows
import Derived.SevenTiedAt
import Derived.KernelRfl
namespace Go.Proofs.YthbnehhonkakaaaGreatDoor
open Go
theorem c_stand : Tryz.prog.wantsStandIn 28 = false := by kernel_rfl
end Go.Proofs.YthbnehhonkakaaaGreatDoor
