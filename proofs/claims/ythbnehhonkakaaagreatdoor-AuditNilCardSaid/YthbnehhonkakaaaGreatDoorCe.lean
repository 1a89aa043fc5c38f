/-
  No call of the program starts a goroutine.
-/
import Derived.Test.YthbnehhonkakaaaGreatDoorRows
import GoSem.ClaimGoes
import Derived.SevenTiedAt
import Derived.KernelRfl
namespace Go.Proofs.YthbnehhonkakaaaGreatDoor
open Go
theorem noGoes : (Tryz.prog.funcs.toList.any Func.goes) = false := by kernel_rfl

/-- Where no function starts a goroutine, no call does. -/
theorem goes_of {P : Program} (h : (P.funcs.toList.any Func.goes) = false) (f : FuncId) : P.goes f = false := by
  have h1 : ∀ g : Nat, (P.funcs[g]?).any Func.goes = false := by
    intro g
    cases hg : P.funcs[g]? with
    | none => rfl
    | some fn =>
      have hm : fn ∈ P.funcs.toList := List.mem_of_getElem? (i := g) (by simpa using hg)
      have := List.any_eq_false.1 h fn hm
      simpa using this
  have h2 : P.funcs.any Func.goes = false := by
    rw [← Array.any_toList]; exact h
  unfold Program.goes
  rw [h2, Bool.and_false, Bool.or_false]
  exact List.any_eq_false.2 fun g _ => by rw [h1 g]; simp

theorem goesBy_of {P : Program} {c : OpenClaim} (hs : c.start = .entering) (h : (P.funcs.toList.any Func.goes) = false) : false = c.goesBy P := by
  unfold OpenClaim.goesBy Program.goesAt Program.goesFrom
  rw [hs]
  cases P.funcNamed c.func with
  | none => rfl
  | some f => simp [goes_of h f]

theorem c_goes : false = Rows.auditNilRow.goesBy Tryz.pinned.checked.prog := goesBy_of rfl noGoes
end Go.Proofs.YthbnehhonkakaaaGreatDoor
