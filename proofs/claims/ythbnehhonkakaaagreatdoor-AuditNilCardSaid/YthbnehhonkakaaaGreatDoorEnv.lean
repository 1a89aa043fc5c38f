/-
  What is asked of the program.
-/
import Derived.Test.YthbnehhonkakaaaGreatDoorTab
import Derived.KernelRfl
namespace Go.Proofs.YthbnehhonkakaaaGreatDoor
open Go Go.Proofs Va
set_option maxRecDepth 100000
set_option maxHeartbeats 4000000
theorem env_mixed : Tryz.prog.follows .mixedOrders = true := by kernel_rfl
theorem env_names : (Tryz.prog.funcs.toList.all fun fn => !(fn.name == "runtime.NumGoroutine")) = true := by kernel_rfl
theorem env_f174 : Tryz.prog.funcs[174]? = some Tryz.f174 := by kernel_rfl
theorem env_n174 : Extern.findNext Tryz.f174 = none := by kernel_rfl
theorem env_e174 : Extern.find Tryz.f174 = some Extern.MapsClone.clone := by kernel_rfl
theorem env_f380 : Tryz.prog.funcs[380]? = some Tryz.f380 := by kernel_rfl
theorem env_n380 : Extern.findNext Tryz.f380 = none := by kernel_rfl
theorem env_e380 : Extern.find Tryz.f380 = some Extern.AbiNoEscape.same := by kernel_rfl
theorem env_f381 : Tryz.prog.funcs[381]? = some Tryz.f381 := by kernel_rfl
theorem env_n381 : Extern.findNext Tryz.f381 = none := by kernel_rfl
theorem env_e381 : Extern.find Tryz.f381 = some (Extern.BytealgMakeNoZero.makeNoZero Tryz.f381.params Tryz.f381.resultTypes) := by kernel_rfl
theorem env_r381 : Tryz.f381.resultTypes[0]? = some 397 := by kernel_rfl
theorem env_u381 : Tryz.prog.underlying 397 = some (.slice 5) := by kernel_rfl
theorem env_ok : EnvOk Tryz.prog xs := by
  refine EnvOk.of env_mixed env_names fun x hx fn hf => ?_
  simp only [xl, List.mem_cons, List.not_mem_nil, or_false] at hx
  rcases hx with rfl | rfl | rfl
  · obtain rfl := Option.some.inj (env_f174.symm.trans hf)
    exact ⟨env_n174, _, env_e174, XSem.clone⟩
  · obtain rfl := Option.some.inj (env_f380.symm.trans hf)
    exact ⟨env_n380, _, env_e380, XSem.noEscape⟩
  · obtain rfl := Option.some.inj (env_f381.symm.trans hf)
    exact ⟨env_n381, _, env_e381, XSem.makeNoZero env_r381 env_u381⟩
end Go.Proofs.YthbnehhonkakaaaGreatDoor
