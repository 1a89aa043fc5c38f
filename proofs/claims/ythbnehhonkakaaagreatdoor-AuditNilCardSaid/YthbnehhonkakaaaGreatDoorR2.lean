/-
  A part of the run, by the kernel.
-/
import Derived.Test.YthbnehhonkakaaaGreatDoorS2
import Derived.Test.YthbnehhonkakaaaGreatDoorS1
import Derived.KernelRfl
namespace Go.Proofs.YthbnehhonkakaaaGreatDoor
open Go Go.Proofs Va
set_option maxRecDepth 100000
set_option maxHeartbeats 4000000
theorem part2 : F.runL (Look.tabs Tryz.prog tabs) xs [14, 13, 12, 10, 8, 5, 4] s1 = .next s2 := by kernel_rfl
end Go.Proofs.YthbnehhonkakaaaGreatDoor
