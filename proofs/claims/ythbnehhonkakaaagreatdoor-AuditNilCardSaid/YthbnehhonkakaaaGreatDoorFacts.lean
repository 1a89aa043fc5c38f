/-
  The row's computed cells are the program's.
-/
import Derived.Test.YthbnehhonkakaaaGreatDoorJa
import Derived.Test.YthbnehhonkakaaaGreatDoorJb
import Derived.Test.YthbnehhonkakaaaGreatDoorJc
import Derived.Test.YthbnehhonkakaaaGreatDoorJd
import Derived.Test.YthbnehhonkakaaaGreatDoorJe
import Derived.JoinedOf
import Derived.KernelRfl
namespace Go.Proofs.YthbnehhonkakaaaGreatDoor
set_option maxRecDepth 100000
open Go
theorem jand {a b : Bool} (h : a = true) (k : b = true) : (a && b) = true := by rw [h, k]; rfl
theorem joined : joinedFacts Tryz.prog 3 Tryz.f3 Rows.auditNilSpec Rows.auditNilRow = true := by
  unfold joinedFacts
  exact jand (jand (jand (jand (jand (jand (jand (jand (jand (jand (jand (jand (jand (jand (jand (jand (jand (jand (jand (jand (jand (jand (jand (jand (jand (jand (jand (jand (jand (jand (jand (jf0) jf1) jf2) jf3) jf4) jf5) jf6) jf7) jf8) jf9) jf10) jf11) jf12) jf13) jf14) jf15) jf16) jf17) jf18) jf19) jf20) jf21) jf22) jf23) jf24) jf25) jf26) jf27) jf28) jf29) jf30) jf31
end Go.Proofs.YthbnehhonkakaaaGreatDoor
