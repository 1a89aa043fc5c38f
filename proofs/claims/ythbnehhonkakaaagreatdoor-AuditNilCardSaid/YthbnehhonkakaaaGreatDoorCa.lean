/-
  A closed fact of the card.
-/
import Derived.Test.YthbnehhonkakaaaGreatDoorRows
import Derived.SevenTiedAt
import Derived.KernelRfl
namespace Go.Proofs.YthbnehhonkakaaaGreatDoor
open Go
theorem c_wf : Rows.auditNilRow.wfByText (OpenSpec.ofChange Rows.auditNilSpec) = true := by kernel_rfl
end Go.Proofs.YthbnehhonkakaaaGreatDoor
