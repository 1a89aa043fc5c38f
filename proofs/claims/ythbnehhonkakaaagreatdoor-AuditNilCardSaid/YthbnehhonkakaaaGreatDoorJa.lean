/-
  The row's computed cells: the light ones.
-/
import Derived.Test.YthbnehhonkakaaaGreatDoorRows
import Derived.Test.YthbnehhonkakaaaGreatDoorFc
import Derived.JoinedOf
import Derived.KernelRfl
namespace Go.Proofs.YthbnehhonkakaaaGreatDoor
set_option maxRecDepth 100000
open Go
theorem jf0 : (Rows.auditNilRow.wf (OpenSpec.ofChange Rows.auditNilSpec)) = true := by kernel_rfl
theorem jf1 : (laidOutB Tryz.prog) = true := laidOut
theorem jf3 : (Tryz.f3.params.all (Tryz.prog.readableRec ·)) = true := by kernel_rfl
theorem jf4 : (namedTie Tryz.prog Rows.auditNilRow.named Rows.auditNilSpec.vars) = true := by kernel_rfl
theorem jf5 : ((Rows.auditNilRow.stops == [])) = true := by kernel_rfl
theorem jf6 : ((Tryz.prog.stops == [])) = true := by kernel_rfl
theorem jf7 : ((Rows.auditNilRow.knobs == [])) = true := by kernel_rfl
theorem jf8 : ((Tryz.prog.stopKnobs == [])) = true := by kernel_rfl
theorem jf13 : ((Rows.auditNilRow.maps == (Tryz.f3.params.toList ++ Rows.auditNilSpec.plain.varTypes Tryz.prog).any (Tryz.prog.mapsRec ·))) = true := by kernel_rfl
theorem jf14 : ((Rows.auditNilRow.ifaces == (Tryz.f3.params.toList ++ Rows.auditNilSpec.plain.varTypes Tryz.prog).any (Tryz.prog.ifacesRec ·))) = true := by kernel_rfl
theorem jf15 : ((Rows.auditNilRow.mapsOut == Tryz.prog.mapsAmong Tryz.f3.resultTypes.toList)) = true := by kernel_rfl
theorem jf16 : ((Rows.auditNilRow.loops == (Tryz.f3.params.toList ++ Rows.auditNilSpec.plain.varTypes Tryz.prog).any (Tryz.prog.loopsFrom ·))) = true := by kernel_rfl
theorem jf17 : ((Rows.auditNilRow.wideKeys == (Tryz.f3.params.toList ++ Rows.auditNilSpec.plain.varTypes Tryz.prog ++ Tryz.f3.resultTypes.toList).any (Tryz.prog.wideKeysFrom ·))) = true := by kernel_rfl
theorem jf18 : (Rows.auditNilSpec.vars.all (Tryz.prog.varReadable ·)) = true := by kernel_rfl
theorem jf19 : (Tryz.f3.resultTypes.all (fun t => Tryz.prog.readableRec t && decide (t < Tryz.prog.types.size))) = true := by kernel_rfl
theorem jf20 : ((Rows.auditNilRow.ifacesOut == Tryz.f3.resultTypes.toList.any (Tryz.prog.ifacesRec ·))) = true := by kernel_rfl
theorem jf21 : ((Rows.auditNilRow.loopsOut == Tryz.f3.resultTypes.toList.any (Tryz.prog.loopsFrom ·))) = true := by kernel_rfl
theorem jf22 : ((Rows.auditNilRow.plainKeys == Tryz.prog.plainKeys)) = true := by kernel_rfl
theorem jf23 : (Rows.auditNilRow.shortTexts.isNone) = true := by kernel_rfl
theorem jf26 : ((Rows.auditNilRow.lifted == Tryz.prog.liftsFinal)) = true := by kernel_rfl
theorem jf27 : ((Tryz.prog.make == some Rows.auditNilRow.make)) = true := by kernel_rfl
theorem jf28 : ((Rows.auditNilRow.kinds == (if Rows.auditNilRow.domain.isEmpty then [] else Tryz.f3.params.toList.map fun t => match Tryz.prog.underlying t with | some (.int k) => some k | _ => none))) = true := by kernel_rfl
theorem jf29 : ((Rows.auditNilRow.pinned == Rows.auditNilRow.pinnedBy)) = true := by kernel_rfl
theorem jf30 : ((Rows.auditNilRow.veiled == (Tryz.f3.params.toList ++ Rows.auditNilSpec.plain.varTypes Tryz.prog ++ Tryz.f3.resultTypes.toList).any (Tryz.prog.veiledRec ·))) = true := by kernel_rfl
theorem jf31 : (Rows.auditNilRow.veiledFits Tryz.prog Tryz.f3.params.toList (Tryz.f3.params.toList ++ Rows.auditNilSpec.plain.varTypes Tryz.prog ++ Tryz.f3.resultTypes.toList)) = true := by kernel_rfl
end Go.Proofs.YthbnehhonkakaaaGreatDoor
