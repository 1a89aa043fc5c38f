/-
  The tables are the program's.
-/
import Derived.Test.YthbnehhonkakaaaGreatDoorTab
import Derived.KernelRfl
namespace Go.Proofs.YthbnehhonkakaaaGreatDoor
open Go Go.Proofs Va
set_option maxRecDepth 100000
set_option maxHeartbeats 4000000
theorem tab_h1 : Tryz.prog.types.toList.length ≤ tabN := Nat.le_of_ble_eq_true (by kernel_rfl)
theorem tab_h2 : Tryz.prog.funcs.toList.length ≤ tabN := Nat.le_of_ble_eq_true (by kernel_rfl)
theorem tab_hinfo : treeOf tabN Tryz.prog.types.toList = tInfo := by kernel_rfl
theorem tab_hund : treeOf tabN (Tryz.prog.types.toList.map (undI Tryz.prog)) = tUnd := by kernel_rfl
theorem tab_hfn : treeOf tabN Tryz.prog.funcs.toList = tFn := by kernel_rfl
theorem tab_hagg : treeOf tabN (Tryz.prog.types.toList.map (aggI Tryz.prog)) = tAgg := by kernel_rfl
theorem tab_hzero : treeOf tabN (Tryz.prog.types.toList.map zeroI) = tZero := by kernel_rfl
theorem tab_hplain : treeOf tabN ((List.range Tryz.prog.types.toList.length).map (plainN Tryz.prog)) = tPlain := by kernel_rfl
theorem tabs_ok : TabsOk Tryz.prog tabN tabs := ⟨tab_h1, tab_h2, tab_hinfo, tab_hund, tab_hfn, tab_hagg, tab_hzero, tab_hplain⟩
end Go.Proofs.YthbnehhonkakaaaGreatDoor
