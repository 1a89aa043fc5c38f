/-
  AuditNil: an engine that is not there answers ErrNil and has nothing, and the fixed calls come to what they must: for every step the call returns true. Conditions: the row's own (the listed variables hold what the program's text lays).
-/
import Derived.Test.YthbnehhonkakaaaGreatDoorRows
import Derived.Test.YthbnehhonkakaaaGreatDoorEnv
import Derived.Test.YthbnehhonkakaaaGreatDoorRun
import Derived.Test.YthbnehhonkakaaaGreatDoorWit
import Derived.Test.YthbnehhonkakaaaGreatDoorFa
import Derived.Test.YthbnehhonkakaaaGreatDoorFb
import Derived.Test.YthbnehhonkakaaaGreatDoorFc
import Derived.Test.YthbnehhonkakaaaGreatDoorTieA
import Derived.ChangeSame
import Derived.ChangeVars
import Derived.JoinedOf
import Derived.RowKit
import Derived.RowKitTokens
import Derived.LaidLaws
import Derived.LaidHandle
import Derived.LaidMore
import Derived.MakeChecks
import Derived.ProofKit
import Derived.Stop.Joined
import Derived.KernelRfl
namespace Go.Proofs.YthbnehhonkakaaaGreatDoor
set_option maxRecDepth 100000
open Go Go.Proofs Va Go.ChangeShapes Go.WideShapes Go.RowKit

theorem errIface : ∃ ms, Tryz.prog.underlying 402 = some (.interface ms) := by
  have h := isIface
  split at h
  · rename_i ms hu; exact ⟨ms, hu⟩
  · cases h

theorem argStruct : ∃ fs, Tryz.prog.underlying 28 = some (.struct fs) := by
  have h := isStruct
  split at h
  · rename_i fs hu; exact ⟨fs, hu⟩
  · cases h

/-- The law's call comes to true, and below the heap's old end nothing turns. -/
theorem law_calls {W : World} {base : Nat} {v0 : Value} (hs : W.ShapedOpen Tryz.prog) (hv : Value.okWide Tryz.prog W .any base 28 v0) (hl : laidMetH Tryz.prog Rows.auditNilRow.laid W) :
    Calls Tryz.prog 3 #[v0] W fun e W' => e = .returned (.bool true) ∧ Below W.heap.size W W' := by
  rw [MakeChecks.laidMetH_plain _ _ _ noHandle, laid_eq] at hl
  obtain ⟨ms, hms⟩ := errIface
  obtain ⟨x, hx, hvar⟩ := laid_iface_block hl (n := "strconv.ErrSyntax") (d := Rows.laid_strconv_ErrSyntax) mem_err gErr tErr hms
  have hblk := shaped_block hs gErr gSize zErr hvar
  obtain ⟨fs, hfs⟩ := argStruct
  obtain ⟨cs, rfl, hsz, hone⟩ := Va.okWide_struct hfs hv
  rw [pCells] at hsz
  have hlen : cs.toList.length = 11 := by simpa using hsz
  have henv : ∀ i, (envOf (cs.toList ++ [x]) i).oneCell' = true := envOf_one (by
    intro v hv
    rcases List.mem_append.1 hv with h | h
    · exact hone v h
    · rw [List.mem_singleton.1 h]; exact hx)
  have harg : VRs (envOf (cs.toList ++ [x])) (Rho.start W) [.agg (opqL 0 11)] (#[Value.agg cs] : Array Value).toList := by
    refine .cons (.agg ?_) .nil
    have := opqL_sound (env := envOf (cs.toList ++ [x])) (ρ := Rho.start W) cs.toList 0 (fun i v hi => by
      have hlt : i < cs.toList.length := (List.getElem?_eq_some_iff.1 hi).1
      unfold envOf
      rw [Nat.zero_add, List.getElem?_append_left hlt, hi]; rfl)
    rwa [hlen] at this
  have hI : Inv (envOf (cs.toList ++ [x])) W (Rho.start W) s0h 2000 W := by
    refine Inv.start fun b o hb => ?_
    rw [start_heap, Tr.get_set] at hb
    split at hb
    · rename_i e
      cases hb
      subst e
      refine ⟨_, _, _, _, by decide, rfl, hblk, rfl, .cons ?_ .nil⟩
      have h11 : envOf (cs.toList ++ [x]) 11 = x := by
        unfold envOf
        rw [List.getElem?_append_right (by omega), hlen]; rfl
      have := VR.opq (env := envOf (cs.toList ++ [x])) (ρ := Rho.start W) 11
      rwa [h11] at this
    · rw [Tr.get_leaf] at hb; cases hb
  have hL : Leads Tryz.prog xs (envOf (cs.toList ++ [x])) W 3 ⟨s0.fr, [], s0h, 2000⟩ (.bool true) := run_leads env_ok henv
  refine (va_calls hI harg entered hL).mono fun e W' ⟨v', σ, he, hr, hb⟩ => ?_
  cases hr
  exact ⟨he, hb⟩

theorem law_lifted (os : Os) (started : os.Started) (H : Type) (enc : TypeId × Value → H) :
    ReturnsInHanded {} Tryz.checked os 3 .any (fun w args => (Rows.auditNilSpec.pre enc Tryz.prog Tryz.f3 [] false w args ∧ laidMetH Tryz.prog Rows.auditNilRow.laid w) ∧ sizedMet enc Tryz.prog Tryz.f3 (OpenSpec.ofChange Rows.auditNilSpec) false w args)
      (Rows.auditNilSpec.post enc Tryz.prog Tryz.f3 false true false false) := by
  refine returns_shaped (C := Tryz.checked) (X := fun w => laidMetH Tryz.prog Rows.auditNilRow.laid w) (fun _ _ hh h => h.of_heap hh) own started lawNoInit lawFunc (witness os H enc) ?_
  intro W base args ds gs before hs hval hW hL
  have hW' := hW
  obtain ⟨p, q, hA0, hV0, rfl, hfz, hnd⟩ := hW
  have hA : DataW.TrodAll enc Tryz.prog W 0 (fun _ => true) true Tryz.f3.params.toList args.toList ds p := hA0
  have hV : DataW.TrodVars enc Tryz.prog W (fun _ => true) [] gs q := hV0
  rw [lawParams] at hA hval
  obtain ⟨v0, d0, rfl, rfl, h0⟩ := trodAll_one hA
  obtain ⟨rfl, rfl⟩ : gs = [] ∧ q = [] := by
    cases gs with
    | nil => exact ⟨rfl, hV⟩
    | cons g r => exact absurd hV (by intro h; cases h)
  have hlt : ∀ x ∈ p, x.block < W.heap.size := fun x hx => by simpa using hW'.lt x (by simpa using hx)
  refine (law_calls hs (hval 0 28 v0 rfl rfl) hL).mono fun e W' ⟨he, hb⟩ => ?_
  subst he
  refine ⟨_, rfl, _, _, _, [], p, [], hW', ?_, ?_, ?_, hb.frame _, fun h => by cases h⟩
  · exact trodAll_mk1 (shut_bool boolType true)
  · exact trodAll_mk1 (Below.trod laidOut pReadable pSize h0 hb hlt)
  · rfl
end Go.Proofs.YthbnehhonkakaaaGreatDoor
