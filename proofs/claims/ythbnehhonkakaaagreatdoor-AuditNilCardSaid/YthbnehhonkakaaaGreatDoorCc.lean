/-
  A closed fact of the card.
-/
import Derived.Test.YthbnehhonkakaaaGreatDoorRows
import Derived.SevenTiedAt
import Derived.KernelRfl
namespace Go.Proofs.YthbnehhonkakaaaGreatDoor
open Go
theorem c_looks : true = Tryz.pinned.checked.prog.looks [] := by kernel_rfl
end Go.Proofs.YthbnehhonkakaaaGreatDoor
