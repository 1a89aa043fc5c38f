/-
  The run as a whole.
-/
import Derived.Test.YthbnehhonkakaaaGreatDoorTa
import Derived.Test.YthbnehhonkakaaaGreatDoorR1
import Derived.Test.YthbnehhonkakaaaGreatDoorR2
import Derived.Test.YthbnehhonkakaaaGreatDoorR3
import Derived.Test.YthbnehhonkakaaaGreatDoorR4
import Derived.Test.YthbnehhonkakaaaGreatDoorR5
import Derived.KernelRfl
namespace Go.Proofs.YthbnehhonkakaaaGreatDoor
open Go Go.Proofs Va
set_option maxRecDepth 100000
set_option maxHeartbeats 4000000
theorem run_leads {env : Nat → Value} {W0 : World} {f : FuncId} (E : EnvOk Tryz.prog xs) (henv : ∀ i, (env i).oneCell' = true) : Leads Tryz.prog xs env W0 f s0 (.bool true) :=
  Leads.partT tabs_ok E henv _ _ part1 <|
  Leads.partN tabs_ok E henv _ part2 <|
  Leads.partN tabs_ok E henv _ part3 <|
  Leads.partT tabs_ok E henv _ _ part4 <|
  Leads.doneT tabs_ok E henv _ part5
end Go.Proofs.YthbnehhonkakaaaGreatDoor
