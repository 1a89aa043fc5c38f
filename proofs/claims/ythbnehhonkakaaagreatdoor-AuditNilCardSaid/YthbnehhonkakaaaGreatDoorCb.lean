/-
  A closed fact of the card.
-/
import Derived.Test.YthbnehhonkakaaaGreatDoorRows
import Derived.SevenTiedAt
import Derived.KernelRfl
namespace Go.Proofs.YthbnehhonkakaaaGreatDoor
open Go
theorem c_main : Tryz.pinned.checked.prog.mainIs = some (true, "93d5c184db7aa5bd759bf601d456187537fee9ad4e1eb96bec6180f7890f0801".toList) := by kernel_rfl
end Go.Proofs.YthbnehhonkakaaaGreatDoor
