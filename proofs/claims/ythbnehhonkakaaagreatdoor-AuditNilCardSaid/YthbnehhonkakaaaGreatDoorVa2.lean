/-
  VA, an abstract machine for fixed calls, and its soundness: part 2 of 7.
-/
import Derived.Test.YthbnehhonkakaaaGreatDoorVa1
import Derived.Laws.StructEq
/-
  VA: Go's == on values that are no numbers and no strings.
-/
namespace Va
open Go Go.RowKit

variable {P : Program} {env : Nat → Value} {W0 : World} {ρ : Rho} {hp : Tr AO} {nx : Nat} {w : World}

theorem strEq_beq (a b : ByteArray) : strEq (bytesOfA a) (bytesOfA b) = (a == b) := by rw [strEq_s, beq_toListBytes]

theorem addr_beq (k i j : Nat) : ((⟨k, i, none⟩ : Addr) == ⟨k, j, none⟩) = Nat.beq i j := by
  rw [Bool.eq_iff_iff, beq_iff_eq, Nat.beq_eq]
  constructor
  · intro h; cases h; rfl
  · intro h; rw [h]

theorem beq_add (b i j : Nat) : Nat.beq (b + i) (b + j) = Nat.beq i j := by
  rw [Bool.eq_iff_iff, Nat.beq_eq, Nat.beq_eq]; omega

theorem run_sameAddr (k i j : Nat) : (sameAddr ⟨k, i, none⟩ ⟨k, j, none⟩).run P w = .ok (Nat.beq i j) w := by
  simp only [sameAddr, beq_self_eq_true, if_true]
  show Result.ok _ w = _
  rw [addr_beq]

theorem sizeOf_pos {t : TypeId} (h1 : Nat.beq (P.cellsOf t) 0 = false) (h2 : (sizeOfA P t).isSome = true) : ∃ n, sizeOfA P t = some n ∧ n ≠ 0 := by
  unfold sizeOfA at h2 ⊢
  cases hi : P.info? t with
  | none => simp [hi] at h2
  | some i =>
    refine ⟨i.size, rfl, ?_⟩
    intro h
    simp [Program.cellsOf, hi, h] at h1

theorem ifaceVal_sound (n : Nat) {t : TypeId} {a b : AV} {a' b' : Value} {r : Bool} (ha : VR env ρ a a') (hb : VR env ρ b b') (h : ifaceVal P t a b = some r) :
    (Op.equalIn (n + 1) t a' b').run P w = .ok r w := by
  unfold ifaceVal at h
  split at h
  · rename_i hu; cases h; cases ha; cases hb; simp [Op.equalIn, run_underlying hu]
  · rename_i hu
    split at h
    · rename_i hk; cases h; cases ha; cases hb; obtain rfl := kEq_eq hk; simp [Op.equalIn, run_underlying hu, iEq_eq]
    · cases h
  · rename_i hu
    cases h
    cases ha; cases hb
    rw [strEq_beq]; simp [Op.equalIn, run_underlying hu]
  · rename_i hu
    split at h
    · rename_i hk
      cases h
      simp only [Bool.and_eq_true, Bool.not_eq_true'] at hk
      obtain ⟨m, h1, h2⟩ := sizeOf_pos hk.1.1 hk.2
      cases ha with
      | ptr e1 => cases hb with
        | ptr e2 =>
          obtain rfl := Nat.eq_of_beq_eq_true hk.1.2
          rw [e1] at e2; cases e2
          simp [Op.equalIn, run_underlying hu, run_sizeOf h1, h2, run_sameAddr, beq_add]
    · cases h
  · cases h

theorem part_plain (f : Field) (h : plainField P f = true) : isAggA P f.type = some false ∧ ¬ f.name = "_" := by
  unfold plainField at h
  simp only [Bool.and_eq_true, bne_iff_ne, ne_eq] at h
  refine ⟨?_, h.1⟩
  have h2 := h.2
  unfold isAggA
  split at h2 <;> first | (rename_i hu; simp [hu]) | cases h2

theorem run_part_plain {t : TypeId} (ht : isAggA P t = some false) {cs : Array Value} {off : Nat} {v : Value} (h : cs[off]? = some v) : (part t cs off).run P w = .ok v w := by
  simp [part, run_isAgg ht, h]

/-- Fields one by one. -/
theorem eqFields_plain (d : Nat) (xs ys : Array Value) : ∀ (fs : List Field) (n : Nat) (x y : List AV) (r : Bool), fs.all (plainField P) = true → inOrder fs n = true → x.length = fs.length →
    VRs env ρ x (xs.toList.drop n) → VRs env ρ y (ys.toList.drop n) → eqPlain P fs x y = some r → (Op.eqFields (d + 1) xs ys fs).run P w = .ok r w
  | [], n, x, y, r, _, _, hl, _, _, h => by
    have : x = [] := List.eq_nil_of_length_eq_zero (by simpa using hl)
    subst this
    cases y with
    | nil => simp only [eqPlain, Option.some.injEq] at h; subst h; rfl
    | cons b y => simp [eqPlain] at h
  | f :: fs, n, x, y, r, ha, ho, hl, hx, hy, h => by
    cases x with
    | nil => simp at hl
    | cons a x =>
      cases y with
      | nil => simp [eqPlain] at h
      | cons b y =>
        simp only [List.all_cons, Bool.and_eq_true] at ha
        simp only [inOrder, Bool.and_eq_true] at ho
        obtain rfl := Nat.eq_of_beq_eq_true ho.1
        obtain ⟨hagg, hname⟩ := part_plain f ha.1
        obtain ⟨a', h1, h2⟩ := hx.get (i := 0) (x := a) (by simp)
        obtain ⟨b', h3, h4⟩ := hy.get (i := 0) (x := b) (by simp)
        simp only [List.getElem?_drop, Nat.add_zero, Array.getElem?_toList] at h1 h3
        have hx' : VRs env ρ x (xs.toList.drop (f.offset + 1)) := by
          rw [← List.drop_drop]
          cases hq : xs.toList.drop f.offset with
          | nil => rw [hq] at hx; cases hx
          | cons q l => rw [hq] at hx; cases hx with | cons _ s => simpa using s
        have hy' : VRs env ρ y (ys.toList.drop (f.offset + 1)) := by
          rw [← List.drop_drop]
          cases hq : ys.toList.drop f.offset with
          | nil => rw [hq] at hy; cases hy
          | cons q l => rw [hq] at hy; cases hy with | cons _ s => simpa using s
        simp only [Op.eqFields, ne_eq, hname, not_false_eq_true, if_true, Sem.run_bind, run_part_plain hagg h1, run_part_plain hagg h3, Result.andThen_ok]
        simp only [eqPlain] at h
        split at h
        · rename_i hv
          rw [ifaceVal_sound d h2 h4 hv]
          simp only [Result.andThen_ok, Bool.not_true, Bool.false_eq_true, if_false]
          exact eqFields_plain d xs ys fs (f.offset + 1) x y r ha.2 ho.2 (by simpa using hl) hx' hy' h
        · rename_i hv
          cases h
          rw [ifaceVal_sound d h2 h4 hv]
          simp
        · cases h

theorem underlying_fieldsOf {t : TypeId} {fs : Array Field} (h : P.underlying t = some (.struct fs)) : P.fieldsOf t = fs ∧ fieldsL P t = fs.toList := by
  simp [Program.fieldsOf, fieldsL, h]

theorem eqStruct_sound {n : Nat} {t : TypeId} {x y : List AV} {a b : Array Value} {r : Bool} (hp : plainStruct P t x.length = true) (ha : VRs env ρ x a.toList) (hb : VRs env ρ y b.toList)
    (h : eqPlain P (fieldsL P t) x y = some r) : (Op.equalIn (n + 2) t (.agg a) (.agg b)).run P w = .ok r w := by
  unfold plainStruct at hp
  split at hp
  · rename_i fs hu
    simp only [Bool.and_eq_true, Bool.not_eq_true'] at hp
    obtain ⟨h1, h2⟩ := underlying_fieldsOf hu
    have hlen := Nat.eq_of_beq_eq_true hp.1.1.2
    rw [run_equalIn_struct w (n + 1) t a b (by rw [h1]; exact hu) hp.1.2, h1]
    exact eqFields_plain n a b fs.toList 0 x y r hp.1.1.1.1 hp.1.1.1.2 hlen (by simpa using ha) (by simpa using hb) (by rw [← h2]; exact h)
  · cases hp

theorem plainStruct_guard {t : TypeId} {n : Nat} (hp : plainStruct P t n = true) : P.eqGuardType P.depth t = false := by
  unfold plainStruct at hp
  split at hp
  · simp only [Bool.and_eq_true, Bool.not_eq_true'] at hp; exact hp.2
  · cases hp

theorem eqGuardIn_nil' (n : Nat) {t : TypeId} {ms : Array (String × TypeId)} (hu : P.underlying t = some (.interface ms)) :
    (Op.eqGuardIn (n + 1) t .nilIface .nilIface).run P w = .ok (!ms.isEmpty) w := by
  simp [Op.eqGuardIn, run_underlying hu]

theorem eqGuardIn_nil {t : TypeId} {ms : Array (String × TypeId)} (hu : P.underlying t = some (.interface ms)) :
    (Op.eqGuardIn Op.maxDepth t .nilIface .nilIface).run P w = .ok (!ms.isEmpty) w := eqGuardIn_nil' 9999 hu


set_option maxHeartbeats 4000000 in
theorem eqlB_sound' (n : Nat) {t : TypeId} {x y : Operand} {a b : AV} {a' b' : Value} {r : Bool} (ha : VR env ρ a a') (hb : VR env ρ b b') (h : eqlB P t x y a b = some r) :
    (Op.equalIn (n + 3) t a' b').run P w = .ok r w ∧ ∀ op, (eqGuard op t x y a' b').run P w = .ok () w := by
  unfold eqlB at h
  split at h
  · rename_i hf
    unfold fitsEq at hf
    split at hf
    · -- pointers
      rename_i e p q hu
      cases ha <;> cases hb <;> simp only [eqlA, eqV] at h
      · cases h; exact ⟨by simp only [Op.equalIn, Sem.run_bind, run_underlying hu, Result.andThen_ok]; rfl, fun op => by cases op <;> rfl⟩
      · cases h; exact ⟨by simp only [Op.equalIn, Sem.run_bind, run_underlying hu, Result.andThen_ok]; rfl, fun op => by cases op <;> rfl⟩
      · cases h; exact ⟨by simp only [Op.equalIn, Sem.run_bind, run_underlying hu, Result.andThen_ok]; rfl, fun op => by cases op <;> rfl⟩
      · rename_i e1 _ _ _ e2
        rw [hu] at h
        simp only at h
        split at h
        · rename_i hk
          simp only [Bool.and_eq_true, Bool.not_eq_true'] at hk
          obtain ⟨m, h1, h2⟩ := sizeOf_pos hk.1 hk.2
          split at h
          · rename_i hb2
            cases h
            obtain rfl := Nat.eq_of_beq_eq_true hb2
            rw [e1] at e2; cases e2
            exact ⟨by simp [Op.equalIn, run_underlying hu, run_sizeOf h1, h2, run_sameAddr, beq_add], fun op => by cases op <;> rfl⟩
          · cases h
        · cases h
    · rename_i hu
      cases ha <;> cases hb <;> simp only [eqlA, eqV, Option.some.injEq, reduceCtorEq, Option.isNone_none, Option.isNone_some] at h <;>
        (subst h; exact ⟨by simp only [Op.equalIn, Sem.run_bind, run_underlying hu, Result.andThen_ok]; rfl, fun op => by cases op <;> rfl⟩)
    · rename_i hu
      cases ha <;> cases hb <;> simp only [eqlA, eqV, Option.some.injEq, reduceCtorEq, Option.isNone_none, Option.isNone_some] at h <;>
        (subst h; exact ⟨by simp only [Op.equalIn, Sem.run_bind, run_underlying hu, Result.andThen_ok]; rfl, fun op => by cases op <;> rfl⟩)
    · rename_i hu
      cases ha; cases hb
      simp only [eqlA, eqV, Option.some.injEq] at h
      subst h; exact ⟨by simp only [Op.equalIn, Sem.run_bind, run_underlying hu, Result.andThen_ok]; rfl, fun op => by cases op <;> rfl⟩
    · rename_i hu
      cases ha; cases hb
      simp only [eqlA, eqV, Option.some.injEq] at h
      subst h; exact ⟨by simp only [Op.equalIn, Sem.run_bind, run_underlying hu, Result.andThen_ok]; rfl, fun op => by cases op <;> rfl⟩
    · rename_i hu
      cases ha; cases hb
      simp only [eqlA, eqV, Option.some.injEq] at h
      subst h; exact ⟨by simp only [Op.equalIn, Sem.run_bind, run_underlying hu, Result.andThen_ok]; rfl, fun op => by cases op <;> rfl⟩
    · rename_i ms hu
      cases ha; cases hb
      simp only [eqlA, eqV, Option.some.injEq] at h
      subst h
      refine ⟨by simp only [Op.equalIn, Sem.run_bind, run_underlying hu, Result.andThen_ok]; rfl, fun op => ?_⟩
      simp only [Bool.or_eq_true] at hf
      have hg : (eqGuard op t x y Value.nilIface Value.nilIface).run P w = .ok () w := by
        cases x <;> cases y <;> cases op <;> simp_all [eqGuard, isConst, eqGuardIn_nil hu]
      exact hg
    · rename_i hu
      cases ha; cases hb
      simp only [eqlA, eqV, Option.some.injEq] at h
      subst h; exact ⟨by simp only [Op.equalIn, Sem.run_bind, run_underlying hu, Result.andThen_ok]; rfl, fun op => by cases op <;> rfl⟩
    · rename_i hu
      cases ha; cases hb
      simp only [eqlA, eqV, Option.some.injEq] at h
      subst h; exact ⟨by simp only [Op.equalIn, Sem.run_bind, run_underlying hu, Result.andThen_ok]; rfl, fun op => by cases op <;> rfl⟩
    · rename_i hu
      cases ha with
      | iface t1 r1 => cases hb with
        | iface t2 r2 =>
          refine ⟨?_, fun op => by cases op <;> rfl⟩
          simp only [eqlA, ifaceEq] at h
          split at h
          · rename_i ht
            obtain rfl := Nat.eq_of_beq_eq_true ht
            split at h
            · rename_i i hi
              split at h
              · rename_i hc
                have := ifaceVal_sound (w := w) (n + 1) r1 r2 h
                simp [Op.equalIn, run_underlying hu, run_typeInfo hi, hc]
                simpa [Op.equalIn] using this
              · cases h
            · cases h
          · rename_i ht
            cases h
            have : ∀ {a b : Nat}, Nat.beq a b = false → a ≠ b := fun h e => by subst e; simp at h
            simp [Op.equalIn, run_underlying hu, this ht]
    · rename_i hu
      cases ha with
      | agg r1 => cases hb with
        | agg r2 =>
          simp only [eqlA] at h
          split at h
          · rename_i hp
            exact ⟨eqStruct_sound (n := n + 1) hp r1 r2 h, fun op => run_eqGuard_agg w op t x y _ _ (plainStruct_guard hp)⟩
          · cases h
    · rename_i hu
      cases ha; cases hb
      simp only [eqlA, eqV, Option.some.injEq] at h
      subst h; exact ⟨by simp only [Op.equalIn, Sem.run_bind, run_underlying hu, Result.andThen_ok]; rfl, fun op => by cases op <;> rfl⟩
    · cases hf
  · cases h

theorem eqlB_sound {t : TypeId} {x y : Operand} {a b : AV} {a' b' : Value} {r : Bool} (ha : VR env ρ a a') (hb : VR env ρ b b') (h : eqlB P t x y a b = some r) :
    (Op.equal t a' b').run P w = .ok r w ∧ ∀ op, (eqGuard op t x y a' b').run P w = .ok () w := eqlB_sound' 9997 ha hb h

end Va

