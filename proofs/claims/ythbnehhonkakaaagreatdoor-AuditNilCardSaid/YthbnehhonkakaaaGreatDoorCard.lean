/-
  AuditNil: an engine that is not there answers ErrNil and has nothing, and the fixed calls come to what they must: for every step the call returns true. THE TIED CARD. Conditions: those of the row (the listed variables hold what the program's text lays; the card ties that).
-/
import Derived.Test.YthbnehhonkakaaaGreatDoorLaw
import Derived.Test.YthbnehhonkakaaaGreatDoorFacts
import Derived.Test.YthbnehhonkakaaaGreatDoorTieB
import Derived.Test.YthbnehhonkakaaaGreatDoorTieC
import Derived.Test.YthbnehhonkakaaaGreatDoorCa
import Derived.Test.YthbnehhonkakaaaGreatDoorCb
import Derived.Test.YthbnehhonkakaaaGreatDoorCc
import Derived.Test.YthbnehhonkakaaaGreatDoorCd
import Derived.Test.YthbnehhonkakaaaGreatDoorCe
import Derived.Test.YthbnehhonkakaaaGreatDoorCards
import Derived.SevenTiedAt
namespace Go.Proofs.YthbnehhonkakaaaGreatDoor
open Go

theorem prog_tie : Tryz.prog.laidByTextLater tieL tieK true := Program.laidByTextLater_by_run 400 8 tie_hw tie_hw2 tie_root tie_hk tie_hg tie_hn tie_hd tie_h1 tie_h2 tie_hp
theorem row_tie : Rows.auditNilRow.laidByTextAt .later Tryz.pinned [.sentinel, .sentinel, .data, .data, .data] true := OpenClaim.laidByTextAt_later rfl rfl prog_tie tie_no

theorem is_instance : Tryz.f3.isInstance Tryz.pinned.checked.prog Rows.auditNilRow.origin Rows.auditNilRow.targs := of_decide_eq_true (by kernel_rfl)
theorem is_wrapper : Tryz.f3.isWrapper Tryz.pinned.checked.prog Rows.auditNilRow.wrapper Rows.auditNilRow.mainSum := by unfold Func.isWrapper; rw [if_neg (of_decide_eq_false (by kernel_rfl))]; exact ⟨rfl, rfl⟩

theorem row_holds : Rows.AuditNilSaid :=
  OpenClaim.holds_of_wide 3 Tryz.f3 rfl rfl rfl rfl rfl rfl rfl ⟨rfl, rfl, rfl, rfl, rfl⟩ rfl rfl rfl rfl rfl lawNamed lawFunc joined is_instance is_wrapper (fun os started H enc _ => law_lifted os started H enc)

theorem card_holds : Rows.AuditNilCardSaid :=
  Claim7.holds_tied_plain_at .later [] [.sentinel, .sentinel, .data, .data, .data] true (true, "93d5c184db7aa5bd759bf601d456187537fee9ad4e1eb96bec6180f7890f0801") true
    row_holds (fun _ h => by cases h) c_wf (fun _ h => by cases h) row_tie rfl ⟨rfl, rfl⟩ c_main rfl
    (fun f fn hf hfn => by
      obtain rfl : f = 3 := Option.some.inj (lawNamed.symm.trans hf) |>.symm
      obtain rfl : fn = Tryz.f3 := (Option.some.inj (lawFunc.symm.trans hfn)).symm
      exact ⟨c_looks, fun j t ht => by
        rw [lawParams] at ht
        have h3 : t = 28 := by
          rcases j with _ | j
          · simpa using ht.symm
          · simp at ht
        subst h3
        exact c_stand⟩)
    c_goes
#print axioms card_holds
end Go.Proofs.YthbnehhonkakaaaGreatDoor
