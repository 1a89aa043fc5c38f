/-
  The last part of the run, by the kernel.
-/
import Derived.Test.YthbnehhonkakaaaGreatDoorS4
import Derived.KernelRfl
namespace Go.Proofs.YthbnehhonkakaaaGreatDoor
open Go Go.Proofs Va
set_option maxRecDepth 100000
set_option maxHeartbeats 4000000
theorem part5 : F.runP (Look.tabs Tryz.prog tabs) xs 14 s4 = .done (.bool true) := by kernel_rfl
end Go.Proofs.YthbnehhonkakaaaGreatDoor
