/-
  A start that meets the row's condition: the heap that the door's own run leaves.
-/
import Derived.Test.YthbnehhonkakaaaGreatDoorRows
import Derived.ChangeSame
import Derived.ChangeVars
import Derived.JoinedOf
import Derived.RowKit
import Derived.LaidLaws
import Derived.LaidMore
import Derived.MakeChecks
import Derived.ProofKit
import Derived.Handed
import Derived.KernelRfl
namespace Go.Proofs.YthbnehhonkakaaaGreatDoor
open Go Go.ChangeShapes Go.RowKit

noncomputable def wArgs : Array Value := #[.agg #[.int .i64 0, .int .i64 0, .string ⟨#[]⟩, .string ⟨#[]⟩, .string ⟨#[]⟩, .int .i64 0, .slice none 0 0, .string ⟨#[]⟩, .string ⟨#[]⟩, .string ⟨#[]⟩, .int .i64 0]]
noncomputable def wWorld (os : Os) : World := (World.doorLaid Tryz.prog 400 os).forCall (fun _ _ => 0) ⟨#[], wArgs, []⟩
theorem noHandle : (Rows.auditNilRow.laid.all fun x => x.2.handleName?.isNone) = true := by kernel_rfl
theorem w_h1 (os : Os) : (DataW.laidRun Tryz.prog (wWorld os).memory 8 (Rows.auditNilRow.laid.map (·.1))).map (·.1) = some Rows.auditNilRow.laid := by kernel_rfl
theorem w_h2 (os : Os) : (DataW.laidRun Tryz.prog (wWorld os).memory 8 (Rows.auditNilRow.laid.map (·.1))).map (fun x => decide x.2.Nodup && laidRowsB Tryz.prog (wWorld os).memory x.2) = some true := by kernel_rfl
theorem w_laid (os : Os) : laidMetH Tryz.prog Rows.auditNilRow.laid (wWorld os).memory := by
  rw [MakeChecks.laidMetH_plain _ _ _ noHandle]
  exact laidMet_of_run' 8 (w_h1 os) (w_h2 os)
theorem w_vars (os : Os) : (wWorld os).variablesB Tryz.prog = true := by kernel_rfl
theorem w_rest (os : Os) : ((wWorld os).heap.toList.drop Tryz.prog.globals.size).take ((begin Tryz.prog (fun _ _ => 0) default).world.heap.size - Tryz.prog.globals.size) = (begin Tryz.prog (fun _ _ => 0) default).world.heap.toList.drop Tryz.prog.globals.size := by kernel_rfl
theorem w_ok (os : Os) : Input.okWideB Tryz.prog (wWorld os) 3 ⟨#[], wArgs, []⟩ = true := by kernel_rfl
theorem w_pre (os : Os) (H : Type) (enc : TypeId × Value → H) : Rows.auditNilSpec.preB enc Tryz.prog Tryz.f3 [] false (wWorld os).memory wArgs 8 = true := by kernel_rfl
theorem w_sized (os : Os) (H : Type) (enc : TypeId × Value → H) : Rows.auditNilSpec.sizedB enc Tryz.prog Tryz.f3 false (wWorld os).memory wArgs 8 = true := by kernel_rfl

theorem witness (os : Os) (H : Type) (enc : TypeId × Value → H) :
    ∃ (w : World) (tape : Tape) (i : Input), w.os = os ∧ (w.forCall tape i).Shaped Tryz.checked.prog ∧ i.vars = [] ∧ Input.okWide Tryz.checked.prog (w.forCall tape i) .any w.heap.size 3 i ∧
      ((Rows.auditNilSpec.pre enc Tryz.checked.prog Tryz.f3 [] false (w.forCall tape i).memory i.args ∧ laidMetH Tryz.prog Rows.auditNilRow.laid (w.forCall tape i).memory) ∧ sizedMet enc Tryz.checked.prog Tryz.f3 (OpenSpec.ofChange Rows.auditNilSpec) false (w.forCall tape i).memory i.args) ∧
      ({} : Assume).holds Tryz.checked.prog (lone (Frame.enter Tryz.checked.prog 3 i.args .normal) [] (w.forCall tape i)) :=
  ChangeSpec.witness_at (enc := enc) (C := Tryz.checked) (os := os) (X := fun w _ => laidMetH Tryz.prog Rows.auditNilRow.laid w) false (World.doorLaid Tryz.prog 400 os) wArgs 8 rfl (w_vars os) (w_rest os) (w_ok os) (w_pre os H enc) (w_sized os H enc) (w_laid os)
end Go.Proofs.YthbnehhonkakaaaGreatDoor
