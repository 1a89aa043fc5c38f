/-
  Closed facts of the program: the law's function, its types.
-/
import Derived.Test.YthbnehhonkakaaaGreatDoorTieA
import Derived.Test.YthbnehhonkakaaaGreatDoorS1
import Derived.JoinedOf
import Derived.KernelRfl
namespace Go.Proofs.YthbnehhonkakaaaGreatDoor
set_option maxRecDepth 100000
open Go Go.Proofs Va
theorem own : ownKnob Tryz.prog.godebug = none := by kernel_rfl
theorem lawFunc : Tryz.prog.funcs[3]? = some Tryz.f3 := by kernel_rfl
theorem lawNamed : Tryz.prog.funcNamed "verderer/verdererlaw30.AuditNil" = some 3 := by kernel_rfl
theorem lawNoInit : Tryz.prog.inits.idxOf? 3 = none := by kernel_rfl
theorem lawParams : Tryz.f3.params = #[28] := by kernel_rfl
theorem boolType : Tryz.prog.underlying 4 = some .bool := by kernel_rfl
theorem gErr : Tryz.prog.globalNamed "strconv.ErrSyntax" = some 4 := by kernel_rfl
theorem tErr : (Tryz.prog.globals[4]?).map (·.type) = some 402 := by kernel_rfl
theorem gSizeb : Nat.ble 5 Tryz.prog.globals.size = true := by kernel_rfl
theorem gSize : 4 < Tryz.prog.globals.size := Nat.le_of_ble_eq_true gSizeb
theorem isIface : (match Tryz.prog.underlying 402 with | some (.interface _) => true | _ => false) = true := by kernel_rfl
theorem pSizeb : Nat.ble 29 Tryz.prog.types.size = true := by kernel_rfl
theorem pSize : 28 < Tryz.prog.types.size := Nat.le_of_ble_eq_true pSizeb
theorem entered : enterA Tryz.prog 3 [.agg (opqL 0 11)] false = some s0.fr := by kernel_rfl
theorem start_heap : s0h = Tr.set .leaf 4 (.cells [.opq 11] 402 true (0, 0)) := by kernel_rfl
theorem laid_eq : Rows.auditNilRow.laid = tieL := by kernel_rfl
theorem isStruct : (match Tryz.prog.underlying 28 with | some (.struct _) => true | _ => false) = true := by kernel_rfl
theorem pCells : Tryz.prog.cellsOf 28 = 11 := by kernel_rfl
theorem mem_err : ("strconv.ErrSyntax", (Rows.laid_strconv_ErrSyntax : DataW Unit)) ∈ tieL := List.mem_cons_self
end Go.Proofs.YthbnehhonkakaaaGreatDoor
