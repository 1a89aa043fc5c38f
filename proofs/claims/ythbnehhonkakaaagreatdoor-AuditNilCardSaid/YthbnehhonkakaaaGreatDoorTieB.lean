/-
  The program's tie: the greater facts.
-/
import Derived.Test.YthbnehhonkakaaaGreatDoorTieA
namespace Go.Proofs.YthbnehhonkakaaaGreatDoor
open Go
theorem tie_hn : varsNamedLaterB Tryz.prog (varsId Tryz.prog) tieL = true := by kernel_rfl
theorem tie_hd (os : Os) (tape : Tape) : varsDone Tryz.prog 400 (varsId Tryz.prog) os tape = true := by kernel_rfl
end Go.Proofs.YthbnehhonkakaaaGreatDoor
