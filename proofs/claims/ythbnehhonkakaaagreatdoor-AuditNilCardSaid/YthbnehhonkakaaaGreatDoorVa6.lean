/-
  VA, an abstract machine for fixed calls, and its soundness: part 6 of 7.
-/
import Derived.Test.YthbnehhonkakaaaGreatDoorVa5
/-
  VA: frames that are entered.
-/
namespace Va
open Go Go.RowKit

theorem fillT_get : ∀ (l : List AV) (t : Tr AV) (i j : Nat), (fillT t i l).get j = if i ≤ j ∧ j < i + l.length then l[j - i]? else t.get j
  | [], t, i, j => by simp [fillT]; intro h1 h2; omega
  | v :: l, t, i, j => by
    simp only [fillT, fillT_get l, Tr.get_set, List.length_cons]
    by_cases h : j = i
    · subst h
      simp
      intro h1; omega
    · by_cases h2 : i + 1 ≤ j ∧ j < i + 1 + l.length
      · rw [if_pos h2, if_pos (by omega)]
        rw [show j - i = (j - (i + 1)) + 1 by omega]
        simp
      · rw [if_neg h2, if_neg h, if_neg (by omega)]

theorem enter_tm {env : Nat → Value} {ρ : Rho} {nt : Nat} {args : List AV} {args' : Array Value} (h : VRs env ρ args args'.toList) : TmR env ρ nt (fillT .leaf 0 args) (args' ++ Array.replicate (nt - args'.size) undef) := by
  refine ⟨by simp; omega, fun t v hv => ?_⟩
  rw [fillT_get] at hv
  split at hv
  · rename_i hc
    rw [Nat.sub_zero] at hv
    obtain ⟨v', h1, h2⟩ := h.get hv
    refine ⟨v', ?_, h2⟩
    have h3 : args'[t]? = some v' := by simpa using h1
    have h4 : t < args'.size := by
      rcases Nat.lt_or_ge t args'.size with h | h
      · exact h
      · simp [Array.getElem?_eq_none h] at h3
    rw [Array.getElem?_append_left h4]
    exact h3
  · cases hv

end Va

/-
  VA: frames that leave.
-/
namespace Va
open Go Go.RowKit

variable {P : Program} {fr : Frame} {cs : List Frame} {w : World}

theorem st_take {r : Nat} {l ds : List Deferred} {a : Array Value} (hm : fr.mode = .returning) (hd : fr.defers = { target := .collected r, args := a } :: ds) (h : w.heap[r]? = some (.deferred (some l))) :
    step P (lone fr cs w) = .next (lone { fr with defers := l ++ ds } cs { w with heap := w.heap.setIfInBounds r (.deferred none) }) :=
  step_lone_go (by simp [stepG, unwind, hm, hd, run_takeDeferred (P := P) h])

theorem st_deferred {fn : Fn} {c a : Array Value} {ds : List Deferred} {f : FuncId} {args : Array Value} (hm : fr.mode = .returning) (hd : fr.defers = { target := .fn fn c, args := a } :: ds)
    (h : (invoke (.fn fn c) a).run P w = .ok (.enter f args) w) :
    step P (lone fr cs w) = .next (lone (Frame.enter P f args .deferred) ({ fr with defers := ds } :: cs) w) :=
  step_lone_go (by simp [stepG, unwind, callDeferred, hm, hd, h])

/-- A frame that was called leaves. -/
theorem st_return {c : Frame} {fn : Func} {v : Value} (hm : fr.mode = .returning) (hd : fr.defers = []) (hk : fr.kind = .normal) (hf : P.funcs[fr.fn]? = some fn) (h : (results fn fr.tmps).run P w = .ok v w) :
    step P (lone fr (c :: cs) w) = .next (lone (c.finish v) cs w) :=
  step_lone_go (by simp [stepG, unwind, doReturn, hm, hd, hk, hf, h])

/-- A frame that was deferred leaves. -/
theorem st_returnD {c : Frame} {fn : Func} {v : Value} (hm : fr.mode = .returning) (hd : fr.defers = []) (hk : fr.kind = .deferred) (hf : P.funcs[fr.fn]? = some fn) (h : (results fn fr.tmps).run P w = .ok v w) (hc : c.mode = .returning) :
    step P (lone fr (c :: cs) w) = .next (lone c cs w) :=
  step_lone_go (by simp [stepG, unwind, doReturn, hm, hd, hk, hf, h, hc])

end Va

/-
  VA: rounds that leave.
-/
namespace Va
open Go Go.RowKit

variable {P : Program} {fr : Frame} {cs : List Frame} {w : World}

def roundEnd (l : Nat) (r : Loop) (jump : Option Code) (w : World) : World := { w with heap := w.heap.setIfInBounds l (.loop { r with state := if jump.isNone then .ready else .done, pending := jump }) }

theorem st_roundEnd {c : Frame} {l : Nat} {r : Loop} (hm : fr.mode = .run) (hk : fr.kind = .normal) (hr : fr.roundOf = some l) (ht : fr.todo = []) (h : w.heap[l]? = some (.loop r)) :
    step P (lone fr (c :: cs) w) = .next (lone (c.finish (.bool true)) cs (roundEnd l r none w)) :=
  step_lone_go (by have := run_endRound (P := P) h none; simp [stepG, stepG.exec, doReturn, hm, hk, hr, ht, this, roundEnd])

theorem st_roundRet {c : Frame} {l : Nat} {r : Loop} {k : List Item} (hm : fr.mode = .run) (hk : fr.kind = .normal) (hr : fr.roundOf = some l) (ht : fr.todo = .code .ret :: k) (h : w.heap[l]? = some (.loop r)) :
    step P (lone fr (c :: cs) w) = .next (lone (c.finish (.bool false)) cs (roundEnd l r (some .ret) w)) :=
  step_lone_go (by have := run_endRound (P := P) h (some .ret); simp [stepG, stepG.exec, doReturn, hm, hk, hr, ht, this, roundEnd])

theorem st_roundExit {c : Frame} {l i : Nat} {r : Loop} {k : List Item} (hm : fr.mode = .run) (hk : fr.kind = .normal) (hr : fr.roundOf = some l) (ht : fr.todo = .code (.exit i) :: k) (he : exitTo i k = none) (h : w.heap[l]? = some (.loop r)) :
    step P (lone fr (c :: cs) w) = .next (lone (c.finish (.bool false)) cs (roundEnd l r (some (.exit i)) w)) :=
  step_lone_go (by have := run_endRound (P := P) h (some (.exit i)); simp [stepG, stepG.exec, doReturn, hm, hk, hr, ht, he, this, roundEnd])

end Va

/-
  VA: reads of a memory that has grown by a block.
-/
namespace Va
open Go Go.RowKit

variable {P : Program} {env : Nat → Value} {W0 : World} {ρ σ : Rho} {hp hp' : Tr AO} {nx : Nat} {w : World} {X : Nat → Option XK} {tm : Tr AV} {ops : List Oper} {o : Oper}

/-- What is there stays there. -/
def HLe (hp hp' : Tr AO) : Prop := ∀ b o, hp.get b = some o → hp'.get b = some o

theorem HLe.set {b : Nat} {ob : AO} (h : hp.get b = none) : HLe hp (hp.set b ob) := by
  intro c o hc
  rw [Tr.get_set]
  split
  · rename_i e; subst e; rw [h] at hc; cases hc
  · exact hc

theorem loadC_mono (M : HLe hp hp') {b off n : Nat} {l : List AV} (h : loadC hp b off n = some l) : loadC hp' b off n = some l := by
  obtain ⟨c, e, ex, fz, h1, h2⟩ := loadC_some h
  unfold loadC
  rw [M _ _ h1]
  exact h2

theorem loadA_mono (M : HLe hp hp') {t : TypeId} {b off : Nat} {v : AV} (h : loadA P t hp b off = some v) : loadA P t hp' b off = some v := by
  unfold loadA at h ⊢
  split at h
  · split at h
    · rename_i l hl; rw [loadC_mono M hl]; exact h
    · cases h
  · split at h
    · rename_i l hl; rw [loadC_mono M hl]; exact h
    · cases h
  · cases h

theorem getMap_mono (M : HLe hp hp') {r : Nat} {x : List AEnt × Nat} (h : getMap hp r = some x) : getMap hp' r = some x := by
  unfold getMap at h ⊢
  split at h
  · rename_i es c hr; rw [M _ _ hr]; exact h
  · cases h

theorem lookupA_mono (M : HLe hp hp') {t : TypeId} {x k : AV} {ok : Bool} {v : AV} (h : lookupA P t x k ok hp = some v) : lookupA P t x k ok hp' = some v := by
  unfold lookupA at h ⊢
  split at h
  · rename_i kt et hu
    split at h
    · rename_i hk
      simp only [hk, if_true]
      simp only at h
      cases x with
      | map r =>
        cases r with
        | none => exact h
        | some r =>
          simp only at h ⊢
          cases hm : getMap hp r with
          | none => rw [hm] at h; cases h
          | some p => rw [getMap_mono M hm]; rw [hm] at h; exact h
      | _ => cases h
    · cases h
  · cases h

theorem entryA_mono (M : HLe hp hp') {it v : AV} (h : entryA it hp = some v) : entryA it hp' = some v := by
  unfold entryA at h ⊢
  split at h
  · rename_i r
    split at h
    · rename_i m s seen st hr
      rw [M _ _ hr]
      simp only
      split at h
      · rename_i stamp es clock h1 h2
        rw [getMap_mono M h2, h1]
        exact h
      · cases h
    · cases h
  · cases h

theorem ofBytes_mono (M : HLe hp hp') {e : TypeId} {a : Option (Nat × Nat)} {n : Nat} {v : AV} (h : ofBytes P e a n hp = some v) : ofBytes P e a n hp' = some v := by
  unfold ofBytes at h ⊢
  split at h
  · exact h
  · split at h
    · rename_i hl; rw [loadC_mono M hl]; exact h
    · cases h
  · cases h

theorem lenOfA_mono (M : HLe hp hp') {t : TypeId} {x v : AV} (h : lenOfA P t x hp = some v) : lenOfA P t x hp' = some v := by
  unfold lenOfA at h ⊢
  split at h <;> first | exact h | skip
  split at h
  · rename_i hm; rw [getMap_mono M hm]; exact h
  · cases h

theorem valR_val {v : Option AV} {u : AV} {hp h' : Tr AO} {nx n' : Nat} (h : valR v hp nx = some (.val u h' n')) : v = some u := by
  unfold valR at h
  split at h
  · cases h; rfl
  · cases h

/-- A read reads the same of a memory that has grown. -/
theorem read_mono (M : HLe hp hp') (hc : cls P o = 1) {v : AV} (h : ∀ n, aop P X tm o hp n = some (.val v hp n)) : ∀ n, aop P X tm o hp' n = some (.val v hp' n) := by
  intro n
  have h := h n
  obtain ⟨dst, op, ty, pos, after, guard⟩ := o
  unfold aop at h ⊢
  simp only at h ⊢
  cases op <;> first | (simp [cls] at hc; done) | skip
  case load t x =>
    simp only [aopOp] at h ⊢
    have h := valR_val h
    unfold opLoad at h ⊢
    split at h
    · rw [loadA_mono M h]; rfl
    · cases h
  case lookup t x k ok =>
    simp only [aopOp] at h ⊢
    have h := valR_val h
    unfold opLookup at h ⊢
    split at h
    · rw [lookupA_mono M h]; rfl
    · cases h
  case entry x =>
    simp only [aopOp] at h ⊢
    have h := valR_val h
    unfold opEntry at h ⊢
    split at h
    · rw [entryA_mono M h]; rfl
    · cases h
  case convert s d x =>
    simp only [aopOp] at h ⊢
    unfold opConvert at h ⊢
    split at h
    · rename_i a ha
      unfold convertA at h ⊢
      simp only [cls] at hc
      split at hc
      · cases hc
      · cases hc
      · rename_i e h1 h2
        rw [h1, h2] at h ⊢
        cases a <;> simp only at h ⊢ <;> first | (cases h; done) | skip
        · cases h; rfl
        · have h := valR_val h
          rw [ofBytes_mono M h]; rfl
      · cases hc
      · cases hc
    · cases h
  case call c =>
    simp only [aopOp] at h ⊢
    unfold opCall at h ⊢
    split at h
    · cases h
    · rename_i args ha
      simp only [cls] at hc
      split at hc
      · rename_i hb
        simp only [hb] at h ⊢
        unfold builtinA at h ⊢
        split at h <;> simp_all
        have h := valR_val h
        rw [lenOfA_mono M h]; rfl
      · rename_i hb
        simp only [hb] at h ⊢
        unfold builtinA at h ⊢
        split at h <;> simp_all
        have h := valR_val h
        rw [h]; rfl
      · cases hc

/-- A block that the model has not made yet. -/
theorem Inv.pend (I : Inv env W0 ρ hp nx w) (ob : AO) : Inv env W0 ρ (hp.set nx ob) (nx + 1) w := by
  have hf := I.fresh nx (Nat.le_refl _)
  refine ⟨I.glob, Nat.le_succ_of_le I.low, fun b hb => I.fresh b (by omega), I.new, fun b o p h1 h2 h3 => ?_, fun b c o u p q h1 h2 h3 h4 h5 h6 h7 => ?_, I.below⟩
  · rw [Tr.get_set] at h1
    split at h1
    · rename_i e; subst e; rw [hf] at h2; cases h2
    · exact I.obj b o p h1 h2 h3
  · rw [Tr.get_set] at h1 h2
    split at h1
    · rename_i e; subst e; rw [hf] at h5; cases h5
    · split at h2
      · rename_i e; subst e; rw [hf] at h6; cases h6
      · exact I.inj b c o u p q h1 h2 h3 h4 h5 h6 h7

end Va

/-
  VA: a drawn region: what stands between two acts.
-/
namespace Va
open Go Go.RowKit

variable {P : Program} {env : Nat → Value} {W0 : World} {ρ σ : Rho} {hp hp' : Tr AO} {nx : Nat} {w w' : World} {X : Nat → Option XK} {fr : Frame} {cs : List Frame} {ops : Array Oper}

/-- What VA has done of a drawn region, and what the model has still to do. 'ex': reads that are to be checked. -/
structure DrwP (P : Program) (X : Nat → Option XK) (env : Nat → Value) (ρ : Rho) (hp : Tr AO) (lo hi nt : Nat) (ops : Array Oper) (tm : Tr AV) (tmps : Array Value) (acts : List Ac) (ex lst : List Nat) (done effs : Nat) (pre : List Nat) (blk : Nat → Nat) : Prop where
  back : edgesBack ops.toList 0 = true
  slots : slotsOk P ops.toList (masks ops.toList []) ops.toList (masks ops.toList []) 0 = true
  good : goodFrom P ops.toList (masks ops.toList []) acts done effs = true
  lined : Lined ops (lst.reverse ++ pre)
  len : lst.length + pre.length = ops.size
  pre : ∀ i ∈ pre, done.testBit i = true
  closed : ∀ i o, done.testBit i = true → ops[i]? = some o → predsIn done o.after.toList = true
  dst : ∀ (i : Nat) o t, done.testBit i = true → ops[i]? = some o → o.dst = some t → t < nt
  late : ∀ i ∈ lst, done.testBit i = true → ∃ o v, ops[i]? = some o ∧ cls P o ≠ 3 ∧ (blk i = 0 ∨ (lo ≤ blk i ∧ blk i < hi)) ∧ SlotIs tm o.dst v ∧ (wantedA ops.toList tm o = some false → v = undefA) ∧
    (Late P X ρ ops.toList tm hp (blk i) o v ∨ (cls P o = 1 ∧ i ∈ ex))
  inj : ∀ i ∈ lst, ∀ j ∈ lst, done.testBit i = true → done.testBit j = true → i ≠ j → blk i ≠ blk j ∨ blk i = 0
  tm : TmP env ρ nt tm tmps (Pd ops done lst)

theorem bit_or (done i j : Nat) : (done ||| 2 ^ i).testBit j = (done.testBit j || decide (i = j)) := by
  rw [Nat.testBit_or, Nat.testBit_two_pow]

theorem predsIn_mono {a b : Nat} (h : ∀ i, a.testBit i = true → b.testBit i = true) {es : List Edge} (k : predsIn a es = true) : predsIn b es = true :=
  predsIn_spec.2 fun e he hb => h _ (predsIn_spec.1 k e he hb)

/-- What an operation that has run waits for has run. -/
theorem mask_done (hb : edgesBack ops.toList 0 = true) {done : Nat} (hc : ∀ i o, done.testBit i = true → ops[i]? = some o → predsIn done o.after.toList = true) :
    ∀ (n : Nat) {i m j : Nat}, i < n → done.testBit i = true → (masks ops.toList [])[i]? = some m → m.testBit j = true → done.testBit j = true
  | 0, _, _, _, h, _, _, _ => absurd h (by omega)
  | n + 1, i, m, j, hn, hd, hm, hj => by
    obtain ⟨o, ho, e, he, hbe, hlt, h⟩ := masks_bit hb hm hj
    have he' := predsIn_spec.1 (hc i o hd (by simpa using ho)) e he hbe
    rcases h with rfl | ⟨m', h1, h2⟩
    · exact he'
    · exact mask_done hb hc n (by omega) he' h1 h2

theorem DrwP.mem {lo hi nt : Nat} {tm : Tr AV} {tmps : Array Value} {acts : List Ac} {ex lst : List Nat} {done effs : Nat} {pre : List Nat} {blk : Nat → Nat} (D : DrwP P X env ρ hp lo hi nt ops tm tmps acts ex lst done effs pre blk)
    {i : Nat} (hi : i < ops.size) (hd : done.testBit i = false) : i ∈ lst := by
  have h := nodup_all (lined_nodup D.lined) (lined_lt D.lined) (by simp [D.len]) hi
  rcases List.mem_append.1 h with h | h
  · simpa using h
  · rw [D.pre i h] at hd; cases hd

theorem DrwP.not_pre {lo hi nt : Nat} {tm : Tr AV} {tmps : Array Value} {acts : List Ac} {ex lst : List Nat} {done effs : Nat} {pre : List Nat} {blk : Nat → Nat} (D : DrwP P X env ρ hp lo hi nt ops tm tmps acts ex lst done effs pre blk)
    {i : Nat} (hi : i ∈ lst) : i ∉ pre := fun h =>
  (List.nodup_append.1 (lined_nodup D.lined)).2.2 i (by simpa using hi) i h rfl

theorem DrwP.hi {lo hi hi' nt : Nat} {tm : Tr AV} {tmps : Array Value} {acts : List Ac} {ex lst : List Nat} {done effs : Nat} {pre : List Nat} {blk : Nat → Nat} (D : DrwP P X env ρ hp lo hi nt ops tm tmps acts ex lst done effs pre blk)
    (h : hi ≤ hi') : DrwP P X env ρ hp lo hi' nt ops tm tmps acts ex lst done effs pre blk := by
  refine { D with late := fun i a b => ?_ }
  obtain ⟨o, v, h1, h2, h3, h4⟩ := D.late i a b
  refine ⟨o, v, h1, h2, ?_, h4⟩
  rcases h3 with h3 | h3
  · exact .inl h3
  · exact .inr ⟨h3.1, Nat.lt_of_lt_of_le h3.2 h⟩

/-- Memory turns behind a frame's back. -/
theorem DrwP.keep {lo hi nt : Nat} {tm : Tr AV} {tmps : Array Value} {acts : List Ac} {ex lst : List Nat} {done effs : Nat} {pre : List Nat} {blk : Nat → Nat} (D : DrwP P X env ρ hp lo hi nt ops tm tmps acts ex lst done effs pre blk)
    (hr : ∀ i ∈ lst, done.testBit i = true → ∀ o, ops[i]? = some o → cls P o = 1 → i ∈ ex) (h0 : ρ 0 ≠ none) (hσ : ρ.le σ) (hk : ∀ b, b < hi → ρ b = none → σ b = none ∧ hp'.get b = hp.get b) :
    DrwP P X env σ hp' lo hi nt ops tm tmps acts ex lst done effs pre blk := by
  refine { D with late := fun i a b => ?_, tm := ⟨D.tm.1, fun t v h => (D.tm.2 t v h).imp id fun ⟨v', x, y⟩ => ⟨v', x, y.mono hσ⟩⟩ }
  obtain ⟨o, v, h1, h2, h3, h4, h5, h6⟩ := D.late i a b
  refine ⟨o, v, h1, h2, h3, h4, h5, ?_⟩
  by_cases hc : cls P o = 1
  · exact .inr ⟨hc, hr i a b o h1 hc⟩
  · left
    rcases h6 with h6 | h6
    · refine Late.keep hc h2 (cls_lt o) (fun hn => hk _ ?_ hn) h6
      rcases h3 with h3 | h3
      · rw [h3] at hn; exact absurd hn h0
      · exact h3.2
    · exact absurd h6.1 hc

/-- The model catches up. -/
theorem DrwP.catch {lo nt : Nat} {tm : Tr AV} {acts : List Ac} {a b : List Nat} {done effs : Nat} {pre : List Nat} {blk : Nat → Nat} (E : EnvOk P X) (henv : ∀ i, (env i).oneCell' = true) (I : Inv env W0 ρ hp nx w)
    (D : DrwP P X env ρ hp lo nx nt ops tm fr.tmps acts [] (a ++ b) done effs pre blk) {k : List Item} (hm : fr.mode = .run) (ht : fr.todo = .inRegion ops (a ++ b) :: k) (hd : ∀ i ∈ a, done.testBit i = true) :
    ∃ σ w' fr', Steps P (lone fr cs w) (lone fr' cs w') ∧ ρ.le σ ∧ Inv env W0 σ hp nx w' ∧ (∀ c, c < lo → ρ c = none → σ c = none) ∧ fr'.todo = .inRegion ops b :: k ∧
      DrwP P X env σ hp lo nx nt ops tm fr'.tmps acts [] b done effs (a.reverse ++ pre) blk ∧ fr'.fn = fr.fn ∧ fr'.defers = fr.defers ∧ fr'.mode = fr.mode ∧ fr'.kind = fr.kind ∧ fr'.roundOf = fr.roundOf := by
  have hnx : 0 < nx := by have := I.low; omega
  have hA : LateAll P X ρ ops tm hp nx done (a ++ b) blk := by
    refine ⟨fun i h1 h2 => ?_, D.inj⟩
    obtain ⟨o, v, g1, g2, g3, g4, _, g6⟩ := D.late i h1 h2
    refine ⟨o, v, g1, g2, ?_, g4, ?_⟩
    · rcases g3 with h | h
      · omega
      · exact h.2
    · rcases g6 with h | h
      · exact h
      · cases h.2
  obtain ⟨σ, w', fr', h1, h2, h3, h4, h5, h6, h7, h8, e1, e2, e3, e4, e5⟩ := catch_all (cs := cs) (b := b) E henv D.back D.slots D.dst a I hm ht D.lined hd hA D.tm
  refine ⟨σ, w', fr', h1, h2, h3, fun c hc hn => h4 c (fun i hi => ?_) hn, h5, { D with
      lined := h6
      len := by have := D.len; simp at this ⊢; omega
      pre := fun i hi => ?_
      late := fun i x y => ?_
      inj := fun i x j y => D.inj i (by simp [x]) j (by simp [y])
      tm := h8 }, e1, e2, e3, e4, e5⟩
  · obtain ⟨o, v, g1, g2, g3, g4⟩ := D.late i (by simp [hi]) (hd i hi)
    rcases g3 with h | h
    · intro e
      rw [e, h] at hn
      obtain ⟨n, hg⟩ := I.glob 0 (by decide)
      rw [hg] at hn; cases hn
    · omega
  · rcases List.mem_append.1 hi with h | h
    · exact hd i (by simpa using h)
    · exact D.pre i h
  · obtain ⟨o, v, g1, g2, g3, g4, g5, g6⟩ := D.late i (by simp [x]) y
    obtain ⟨o', v', f1, f2, f3, f4, f5⟩ := h7.late i x y
    rw [g1] at f1
    cases f1
    refine ⟨o, v', g1, g2, g3, f4, fun hw => ?_, .inl f5⟩
    cases f5 with
    | idle _ => rfl
    | val q _ _ => rw [hw] at q; cases q
    | new q _ _ _ _ => rw [hw] at q; cases q

/-- At an effect: the reads that are pending are those to be checked. -/
theorem DrwP.at_eff {lo hi nt : Nat} {tm : Tr AV} {tmps : Array Value} {e : Nat} {acts : List Ac} {b : List Nat} {done effs : Nat} {pre : List Nat} {blk : Nat → Nat} (D : DrwP P X env ρ hp lo hi nt ops tm tmps (.ex e :: acts) [] (e :: b) done effs pre blk)
    {o : Oper} (ho : ops[e]? = some o) (hc : cls P o = 3) :
    DrwP P X env ρ hp lo hi nt ops tm tmps (.ex e :: acts) (ckOf acts) (e :: b) done effs pre blk ∧ ∀ i ∈ e :: b, done.testBit i = true → ∀ p, ops[i]? = some p → cls P p = 1 → i ∈ ckOf acts := by
  refine ⟨{ D with late := fun i x y => ?_ }, fun i x y p hp h1 => ?_⟩
  · obtain ⟨o, v, g1, g2, g3, g4, g5, g6⟩ := D.late i x y
    refine ⟨o, v, g1, g2, g3, g4, g5, ?_⟩
    rcases g6 with h | h
    · exact .inl h
    · cases h.2
  · have hg := D.good
    unfold goodFrom at hg
    simp only [nth_eq, Array.getElem?_toList, ho] at hg
    obtain ⟨m, hm⟩ := masks_get ho
    rw [hm] at hg
    have hef : isEff P o = true := by simp [isEff, hc]
    simp only [hef, Bool.and_eq_true] at hg
    obtain ⟨⟨⟨g1, g2⟩, g3⟩, ⟨⟨g4, g5⟩, g6⟩, g7⟩ := hg
    rcases looseIn_spec g6 i p (by simpa using hp) (by simpa using y) (by simp [isRead, h1]) with h | h
    · exfalso
      rw [Nat.zero_add] at h
      have h2 := mask_before D.back (e + 1) (Nat.lt_succ_self _) hm h D.lined (a := b.reverse) (b := pre) (by simp)
      exact D.not_pre x h2
    · simpa using h

theorem memN_false {n : Nat} {l : List Nat} (h : n ∉ l) : memN n l = false := by
  cases e : memN n l with
  | false => rfl
  | true => exact absurd (memN_iff.1 e) h

end Va

/-
  VA: a drawn region: acts.
-/
namespace Va
open Go Go.RowKit

variable {P : Program} {env : Nat → Value} {W0 : World} {ρ σ : Rho} {hp hp' : Tr AO} {nx : Nat} {w w' : World} {X : Nat → Option XK} {fr : Frame} {cs : List Frame} {ops : Array Oper}
variable {lo hi nt : Nat} {tm tm' : Tr AV} {tmps : Array Value} {acts : List Ac} {ex lst : List Nat} {done effs : Nat} {pre : List Nat} {blk : Nat → Nat}

theorem setT_some {nt : Nat} {tm tm' : Tr AV} {d : Option Nat} {v : AV} (h : setT nt tm d v = some tm') :
    (d = none ∧ tm' = tm) ∨ (∃ t, d = some t ∧ t < nt ∧ tm' = tm.set t v) := by
  cases d with
  | none => simp only [setT, Option.some.injEq] at h; exact .inl ⟨rfl, h.symm⟩
  | some t =>
    simp only [setT] at h
    cases hb : Nat.blt t nt with
    | false => rw [hb] at h; cases h
    | true => rw [hb] at h; cases h; exact .inr ⟨t, rfl, by simpa [Nat.blt_eq] using hb, rfl⟩

theorem setT_get {nt : Nat} {tm tm' : Tr AV} {d : Option Nat} {v : AV} (h : setT nt tm d v = some tm') (t : Nat) (ht : d ≠ some t) : tm'.get t = tm.get t := by
  rcases setT_some h with ⟨_, rfl⟩ | ⟨u, rfl, _, rfl⟩
  · rfl
  · rw [Tr.get_set, if_neg]; intro e; subst e; exact ht rfl

theorem setT_slot {nt : Nat} {tm tm' : Tr AV} {d : Option Nat} {v : AV} (h : setT nt tm d v = some tm') : SlotIs tm' d v := by
  intro t ht
  rcases setT_some h with ⟨rfl, _⟩ | ⟨u, rfl, _, rfl⟩
  · cases ht
  · cases ht; rw [Tr.get_set, if_pos rfl]

/-- VA runs an operation of no effect; the model does not, yet. -/
theorem DrwP.ahead {i : Nat} {o : Oper} {v : AV} {nx' b : Nat} (D : DrwP P X env ρ hp lo nx nt ops tm tmps (.ex i :: acts) [] lst done effs pre blk) (ho : ops[i]? = some o) (hc : cls P o ≠ 3) (hs : setT nt tm o.dst v = some tm')
    (hw : wantedA ops.toList tm o = some false → v = undefA)
    (hl : Late P X ρ ops.toList tm' hp' b o v) (hb : b = 0 ∨ (lo ≤ b ∧ b < nx')) (hn : nx ≤ nx') (hnew : b ≠ 0 → nx ≤ b)
    (hcls : ∀ p u b, b < nx ∨ b = 0 → Late P X ρ ops.toList tm hp b p u → cls P p ≠ 3 → Late P X ρ ops.toList tm hp' b p u) :
    ckOf acts = [] ∧ ∃ blk', DrwP P X env ρ hp' lo nx' nt ops tm' tmps acts [] lst (done ||| 2 ^ i) effs pre blk' := by
  have hg := D.good
  unfold goodFrom at hg
  simp only [nth_eq, Array.getElem?_toList, ho] at hg
  obtain ⟨m, hm⟩ := masks_get ho
  rw [hm] at hg
  have hef : isEff P o = false := by
    cases h : isEff P o with
    | false => rfl
    | true => exact absurd (Nat.eq_of_beq_eq_true h) hc
  simp only [hef, Bool.and_eq_true, Bool.not_eq_true', Nat.blt_eq] at hg
  obtain ⟨⟨⟨g1, g2⟩, g3⟩, ⟨g4, g5⟩⟩ := hg
  have hlt : i < ops.size := by simpa using g1
  have hmem := D.mem hlt g2
  have hck : ckOf acts = [] := by
    cases acts with
    | nil => rfl
    | cons a l => cases a with
      | ex j => rfl
      | ck ls => cases g4
  have bit : ∀ j, (done ||| 2 ^ i).testBit j = true → j = i ∨ done.testBit j = true := by
    intro j h
    rw [bit_or] at h
    simp only [Bool.or_eq_true, decide_eq_true_eq] at h
    rcases h with h | h
    · exact .inr h
    · exact .inl h.symm
  have bit' : ∀ j, done.testBit j = true → (done ||| 2 ^ i).testBit j = true := by
    intro j h; rw [bit_or, h]; rfl
  -- what another one that has run reads
  have reads : ∀ j p, done.testBit j = true → ops[j]? = some p → ∀ t ∈ readsOf ops.toList p, o.dst ≠ some t := by
    intro j p hj hp t ht hd
    obtain ⟨mj, hmj⟩ := masks_get hp
    have hji : j ≠ i := by intro e; subst e; rw [hj] at g2; cases g2
    have h1 := (slots_spec D.slots (by simpa using ho) hm hd (by simpa using hp) hmj hji).2 ht
    rw [hef] at h1
    have h2 : mj.testBit i = true := by
      rcases h1 with h | h
      · exact h
      · cases h.1
    have := mask_done D.back D.closed (j + 1) (Nat.lt_succ_self _) hj hmj h2
    rw [g2] at this; cases this
  have same : ∀ j p, done.testBit j = true → ops[j]? = some p → ∀ t ∈ readsOf ops.toList p, tm.get t = tm'.get t := by
    intro j p hj hp t ht
    exact (setT_get hs t (reads j p hj hp t ht)).symm
  refine ⟨hck, fun j => if j = i then b else blk j, { D with
    good := g5
    pre := fun j hj => bit' j (D.pre j hj)
    closed := fun j p hj hp => ?_
    dst := fun j p t hj hp ht => ?_
    late := fun j hj hjd => ?_
    inj := fun j hj k hk hjd hkd hne => ?_
    tm := ⟨D.tm.1, fun t u hu => ?_⟩ }⟩
  · rcases bit j hj with e | h
    · subst e
      rw [ho] at hp; cases hp
      exact predsIn_mono bit' g3
    · exact predsIn_mono bit' (D.closed j p h hp)
  · rcases bit j hj with e | h
    · subst e
      rw [ho] at hp; cases hp
      rcases setT_some hs with ⟨h, _⟩ | ⟨u, h, h2, _⟩
      · rw [ht] at h; cases h
      · rw [ht] at h; cases h; exact h2
    · exact D.dst j p t h hp ht
  · by_cases e : j = i
    · subst e
      simp only [if_true]
      refine ⟨o, v, ho, hc, hb, setT_slot hs, fun h => ?_, .inl hl⟩
      cases hl with
      | idle _ => rfl
      | val q _ _ => rw [h] at q; cases q
      | new q _ _ _ _ => rw [h] at q; cases q
    · have hjd' : done.testBit j = true := by
        rcases bit j hjd with h | h
        · exact absurd h e
        · exact h
      obtain ⟨p, u, h1, h2, h3, h4, h5, h6⟩ := D.late j hj hjd'
      simp only [e, if_false]
      have hsame := same j p hjd' h1
      refine ⟨p, u, h1, h2, ?_, fun t ht => ?_, fun h => ?_, .inl ?_⟩
      · rcases h3 with h | h
        · exact .inl h
        · exact .inr ⟨h.1, by omega⟩
      · rw [setT_get hs]
        · exact h4 t ht
        · intro hd
          obtain ⟨mj, hmj⟩ := masks_get h1
          have := (slots_spec D.slots (by simpa using ho) hm hd (by simpa using h1) hmj e).1
          rw [hef] at this
          rcases this with h | h
          · cases h
          · exact h ht
      · rw [← wantedA_congr hsame] at h; exact h5 h
      · rcases h6 with h6 | h6
        · refine Late.tm_eq hsame (hcls p u (blk j) ?_ h6 h2)
          rcases h3 with h | h
          · exact .inr h
          · exact .inl h.2
        · cases h6.2
  · -- the blocks
    have old : ∀ j ∈ lst, j ≠ i → (done ||| 2 ^ i).testBit j = true → done.testBit j = true ∧ (blk j = 0 ∨ blk j < nx) := by
      intro j hj e hjd
      have hjd' : done.testBit j = true := by
        rcases bit j hjd with h | h
        · exact absurd h e
        · exact h
      obtain ⟨p, u, h1, h2, h3, _⟩ := D.late j hj hjd'
      refine ⟨hjd', ?_⟩
      rcases h3 with h | h
      · exact .inl h
      · exact .inr h.2
    by_cases e : j = i <;> by_cases e' : k = i
    · exact absurd (e.trans e'.symm) hne
    · simp only [e, if_true, e', if_false]
      by_cases hb0 : b = 0
      · exact .inr hb0
      · left
        have := hnew hb0
        rcases (old k hk e' hkd).2 with h | h <;> omega
    · simp only [e', if_true, e, if_false]
      rcases (old j hj e hjd).2 with h | h
      · exact .inr h
      · by_cases hb0 : b = 0
        · by_cases h0 : blk j = 0
          · exact .inr h0
          · left; omega
        · left
          have := hnew hb0
          omega
    · simp only [e, e', if_false]
      exact D.inj j hj k hk (old j hj e hjd).1 (old k hk e' hkd).1 hne
  · by_cases hd : o.dst = some t
    · exact .inl ⟨i, hmem, by rw [bit_or]; simp, o, ho, hd⟩
    · rw [setT_get hs t hd] at hu
      rcases D.tm.2 t u hu with ⟨j, h1, h2, h3⟩ | h
      · exact .inl ⟨j, h1, bit' j h2, h3⟩
      · exact .inr h

/-- An effect has run, in VA and in the model. -/
theorem DrwP.behind {e : Nat} {o : Oper} {v : AV} {v' : Value} {b : List Nat} (D : DrwP P X env ρ hp lo hi nt ops tm tmps (.ex e :: acts) ex (e :: b) done effs pre blk) (ho : ops[e]? = some o) (hc : cls P o = 3) (hs : setT nt tm o.dst v = some tm')
    (hex : ex = ckOf acts) (hv : VR env ρ v v') :
    ∃ effs', DrwP P X env ρ hp lo hi nt ops tm' (match o.dst with | some d => tmps.setIfInBounds d v' | none => tmps) acts (ckOf acts) b (done ||| 2 ^ e) effs' (e :: pre) blk := by
  subst hex
  have hg := D.good
  unfold goodFrom at hg
  simp only [nth_eq, Array.getElem?_toList, ho] at hg
  obtain ⟨m, hm⟩ := masks_get ho
  rw [hm] at hg
  have hef : isEff P o = true := by simp [isEff, hc]
  simp only [hef, Bool.and_eq_true, Bool.not_eq_true', Nat.blt_eq] at hg
  obtain ⟨⟨⟨g1, g2⟩, g3⟩, ⟨⟨g4, g5⟩, g6⟩, g7⟩ := hg
  have hlin : Lined ops (b.reverse ++ (e :: pre)) := by simpa using D.lined
  have hnd := lined_nodup hlin
  have heb : e ∉ b := fun h => (List.nodup_append.1 hnd).2.2 e (by simpa using h) e (by simp) rfl
  have bit : ∀ j, (done ||| 2 ^ e).testBit j = true → j = e ∨ done.testBit j = true := by
    intro j h
    rw [bit_or] at h
    simp only [Bool.or_eq_true, decide_eq_true_eq] at h
    rcases h with h | h
    · exact .inr h
    · exact .inl h.symm
  have bit' : ∀ j, done.testBit j = true → (done ||| 2 ^ e).testBit j = true := by
    intro j h; rw [bit_or, h]; rfl
  have old : ∀ j ∈ b, (done ||| 2 ^ e).testBit j = true → j ≠ e ∧ done.testBit j = true := by
    intro j hj hjd
    have hne : j ≠ e := by intro h; subst h; exact heb hj
    rcases bit j hjd with h | h
    · exact absurd h hne
    · exact ⟨hne, h⟩
  -- what a pending one reads, or writes, the effect does not write
  have reads : ∀ j ∈ b, ∀ p, done.testBit j = true → ops[j]? = some p → ∀ t ∈ readsOf ops.toList p, o.dst ≠ some t := by
    intro j hjb p hj hp t ht hd
    obtain ⟨mj, hmj⟩ := masks_get hp
    have hji : j ≠ e := by intro h; subst h; exact heb hjb
    rcases (slots_spec D.slots (by simpa using ho) hm hd (by simpa using hp) hmj hji).2 ht with h | h
    · have := mask_done D.back D.closed (j + 1) (Nat.lt_succ_self _) hj hmj h
      rw [g2] at this; cases this
    · have := mask_before D.back (e + 1) (Nat.lt_succ_self _) hm h.2 hlin (a := b.reverse) (b := pre) rfl
      exact (List.nodup_append.1 hnd).2.2 j (by simpa using hjb) j (by simp [this]) rfl
  have writes : ∀ j ∈ b, ∀ p, done.testBit j = true → ops[j]? = some p → cls P p ≠ 3 → ∀ t, o.dst = some t → p.dst ≠ some t := by
    intro j hjb p hj hp hcp t hd hpd
    obtain ⟨mj, hmj⟩ := masks_get hp
    have hji : e ≠ j := by intro h; subst h; exact heb hjb
    have h1 := (slots_spec D.slots (by simpa using hp) hmj hpd (by simpa using ho) hm hji).1
    rcases h1 with h | h
    · exact hcp (Nat.eq_of_beq_eq_true h)
    · exact h hd
  have same : ∀ j ∈ b, ∀ p, done.testBit j = true → ops[j]? = some p → ∀ t ∈ readsOf ops.toList p, tm.get t = tm'.get t := by
    intro j hjb p hj hp t ht
    exact (setT_get hs t (reads j hjb p hj hp t ht)).symm
  refine ⟨effs ||| 2 ^ e, { D with
    good := g7
    lined := hlin
    len := by have := D.len; simp at this ⊢; omega
    pre := fun j hj => ?_
    closed := fun j p hj hp => ?_
    dst := fun j p t hj hp ht => ?_
    late := fun j hj hjd => ?_
    inj := fun j hj k hk hjd hkd hne => D.inj j (by simp [hj]) k (by simp [hk]) (old j hj hjd).2 (old k hk hkd).2 hne
    tm := ⟨?_, fun t u hu => ?_⟩ }⟩
  · rcases List.mem_cons.1 hj with h | h
    · subst h; rw [bit_or]; simp
    · exact bit' j (D.pre j h)
  · rcases bit j hj with h | h
    · subst h
      rw [ho] at hp; cases hp
      exact predsIn_mono bit' g3
    · exact predsIn_mono bit' (D.closed j p h hp)
  · rcases bit j hj with h | h
    · subst h
      rw [ho] at hp; cases hp
      rcases setT_some hs with ⟨h, _⟩ | ⟨u, h, h2, _⟩
      · rw [ht] at h; cases h
      · rw [ht] at h; cases h; exact h2
    · exact D.dst j p t h hp ht
  · obtain ⟨hne, hjd'⟩ := old j hj hjd
    obtain ⟨p, u, h1, h2, h3, h4, h5, h6⟩ := D.late j (by simp [hj]) hjd'
    have hsame := same j hj p hjd' h1
    refine ⟨p, u, h1, h2, h3, fun t ht => ?_, fun h => ?_, ?_⟩
    · rw [setT_get hs]
      · exact h4 t ht
      · intro hd; exact writes j hj p hjd' h1 h2 t hd ht
    · rw [← wantedA_congr hsame] at h; exact h5 h
    · rcases h6 with h6 | h6
      · exact .inl (Late.tm_eq hsame h6)
      · exact .inr h6
  · have := D.tm.1
    split
    · simpa using this
    · exact this
  · by_cases hd : o.dst = some t
    · right
      rw [hd]
      have h1 := setT_slot hs t hd
      rw [hu] at h1
      cases h1
      have hlt : t < tmps.size := by
        rcases setT_some hs with ⟨h, _⟩ | ⟨q, h, h2, _⟩
        · rw [hd] at h; cases h
        · rw [hd] at h; cases h; exact Nat.lt_of_lt_of_le h2 D.tm.1
      exact ⟨v', by simp [hlt], hv⟩
    · rw [setT_get hs t hd] at hu
      have hne : (match o.dst with | some d => tmps.setIfInBounds d v' | none => tmps)[t]? = tmps[t]? := by
        split
        · rename_i d hd'
          rw [Array.getElem?_setIfInBounds, if_neg]
          intro h; subst h; exact hd hd'
        · rfl
      rcases D.tm.2 t u hu with ⟨j, h1, h2, p, h3, h4⟩ | ⟨u', q1, q2⟩
      · rcases List.mem_cons.1 h1 with h | h
        · subst h
          rw [g2] at h2; cases h2
        · exact .inl ⟨j, h, bit' j h2, p, h3, h4⟩
      · exact .inr ⟨u', by rw [hne]; exact q1, q2⟩

/-- Reads are checked. -/
theorem DrwP.check {ls : List Nat} (D : DrwP P X env ρ hp lo hi nt ops tm tmps (.ck ls :: acts) ls lst done effs pre blk) (h : checkA P X tm hp nx ops.toList ls = true) :
    DrwP P X env ρ hp lo hi nt ops tm tmps acts (ckOf acts) lst done effs pre blk := by
  refine { D with good := by have := D.good; unfold goodFrom at this; exact this, late := fun i hi hd => ?_ }
  obtain ⟨o, v, h1, h2, h3, h4, h5, h6⟩ := D.late i hi hd
  refine ⟨o, v, h1, h2, h3, h4, h5, .inl ?_⟩
  rcases h6 with h6 | ⟨h6, h7⟩
  · exact h6
  · obtain ⟨o', g1, g2⟩ := checkA_spec h i h7
    have : o' = o := by
      have g1 : ops[i]? = some o' := by simpa using g1
      rw [h1] at g1; cases g1; rfl
    subst this
    exact late_of_check (by simp [isRead, h6]) g2 (fun _ d hd => h4 d hd) h5

end Va

/-
  VA: frames, and stacks of frames.
-/
namespace Va
open Go Go.RowKit

variable {P : Program} {env : Nat → Value} {W0 : World} {ρ σ : Rho} {hp hp' : Tr AO} {nx : Nat} {w w' : World} {X : Nat → Option XK} {ops : Array Oper}

/-- What a running frame has to do, and its slots. -/
inductive TodoR (P : Program) (X : Nat → Option XK) (env : Nat → Value) (ρ : Rho) (hp : Tr AO) (lo hi nt : Nat) (tm : Tr AV) (tmps : Array Value) : List AIt → List Item → Prop
  | plain {k : List AIt} {m : List Item} : ItsR ρ k m → TmR env ρ nt tm tmps → TodoR P X env ρ hp lo hi nt tm tmps k m
  | reg {ops : Array Oper} {n : Nat} {k : List AIt} {m : List Item} : ItsR ρ k m → TmR env ρ nt tm tmps →
      TodoR P X env ρ hp lo hi nt tm tmps (.reg ops.toList (ops.toList.drop n) :: k) (.inRegion ops ((List.range ops.size).drop n) :: m)
  | drw {ops : Array Oper} {acts : List Ac} {lst : List Nat} {done effs : Nat} {pre : List Nat} {blk : Nat → Nat} {k : List AIt} {m : List Item} : ItsR ρ k m →
      DrwP P X env ρ hp lo hi nt ops tm tmps acts (ckOf acts) lst done effs pre blk → TodoR P X env ρ hp lo hi nt tm tmps (.drw ops.toList acts :: k) (.inRegion ops lst :: m)

/-- .. of one that waits for an operation. -/
inductive WaitR (P : Program) (X : Nat → Option XK) (env : Nat → Value) (ρ : Rho) (hp : Tr AO) (lo hi nt : Nat) (tm : Tr AV) (tmps : Array Value) : List AIt → List Item → Prop
  | reg {ops : Array Oper} {n : Nat} {o : Oper} {k : List AIt} {m : List Item} : ops[n]? = some o → ItsR ρ k m → TmR env ρ nt tm tmps →
      WaitR P X env ρ hp lo hi nt tm tmps (.reg ops.toList (o :: ops.toList.drop (n + 1)) :: k) (.inRegion ops (n :: (List.range ops.size).drop (n + 1)) :: m)
  | drw {ops : Array Oper} {e : Nat} {o : Oper} {acts : List Ac} {b : List Nat} {done effs : Nat} {pre : List Nat} {blk : Nat → Nat} {k : List AIt} {m : List Item} : ops[e]? = some o → cls P o = 3 → ItsR ρ k m →
      DrwP P X env ρ hp lo hi nt ops tm tmps (.ex e :: acts) (ckOf acts) (e :: b) done effs pre blk → (∀ i ∈ e :: b, done.testBit i = true → ∀ p, ops[i]? = some p → cls P p = 1 → i ∈ ckOf acts) →
      WaitR P X env ρ hp lo hi nt tm tmps (.drw ops.toList (.ex e :: acts) :: k) (.inRegion ops (e :: b) :: m)
  | range {l : Nat} {p : Pl} {k : List AIt} {m : List Item} : ρ l = some p → ItsR ρ k m → TmR env ρ nt tm tmps → WaitR P X env ρ hp lo hi nt tm tmps (.inRangeFunc l :: k) (.inRangeFunc p.blk :: m)

/-- The frame that runs. -/
structure CurR (P : Program) (X : Nat → Option XK) (env : Nat → Value) (ρ : Rho) (hp : Tr AO) (lo hi : Nat) (a : AFr) (fr : Frame) : Prop where
  st : StR env ρ a.s a.ret a.df fr
  nd : a.s.rnd = none ∨ a.s.dfd = false
  out : a.ret = true → TmR env ρ a.s.nt a.tm fr.tmps
  run : a.ret = false → TodoR P X env ρ hp lo hi a.s.nt a.tm fr.tmps a.todo fr.todo

/-- A frame that waits for a call ('dfd': of a deferred function). -/
structure SuspR (P : Program) (X : Nat → Option XK) (env : Nat → Value) (ρ : Rho) (hp : Tr AO) (lo hi : Nat) (dfd : Bool) (a : AFr) (fr : Frame) : Prop where
  st : StR env ρ a.s a.ret a.df fr
  nd : a.s.rnd = none ∨ a.s.dfd = false
  ret : a.ret = dfd
  out : dfd = true → TmR env ρ a.s.nt a.tm fr.tmps
  wait : dfd = false → WaitR P X env ρ hp lo hi a.s.nt a.tm fr.tmps a.todo fr.todo

/-- The frames that wait; the last one is called from outside. -/
inductive StkR (P : Program) (X : Nat → Option XK) (env : Nat → Value) (ρ : Rho) (hp : Tr AO) (f : FuncId) : Nat → FS → List AFr → List Frame → Prop
  | nil {lo : Nat} {s : FS} : s.fn = f → s.dfd = false → s.rnd = none → StkR P X env ρ hp f lo s [] []
  | cons {lo lo' : Nat} {s : FS} {a : AFr} {fr : Frame} {as : List AFr} {fs : List Frame} : lo' ≤ lo → SuspR P X env ρ hp lo' lo s.dfd a fr → StkR P X env ρ hp f lo' a.s as fs →
      StkR P X env ρ hp f lo s (a :: as) (fr :: fs)

/-- A state of VA stands for one of the model's. -/
inductive SR (P : Program) (X : Nat → Option XK) (env : Nat → Value) (W0 : World) (f : FuncId) (cs0 : List Frame) : ASt → Machine → Prop
  | mk {ρ : Rho} {a : AFr} {as : List AFr} {hp : Tr AO} {nx : Nat} {fr : Frame} {fs : List Frame} {w : World} {lo : Nat} : Inv env W0 ρ hp nx w → lo ≤ nx → CurR P X env ρ hp lo nx a fr → StkR P X env ρ hp f lo a.s as fs →
      SR P X env W0 f cs0 ⟨a, as, hp, nx⟩ (lone fr (fs ++ cs0) w)

/-- What a step of VA is to be. -/
def Goes (P : Program) (X : Nat → Option XK) (env : Nat → Value) (W0 : World) (f : FuncId) (cs0 : List Frame) (m : Machine) (s' : ASt) : Prop := ∃ m', Steps P m m' ∧ SR P X env W0 f cs0 s' m'

theorem Goes.of_steps {f : FuncId} {cs0 : List Frame} {m m' : Machine} {s' : ASt} (h : Steps P m m') (g : Goes P X env W0 f cs0 m' s') : Goes P X env W0 f cs0 m s' :=
  let ⟨m'', h1, h2⟩ := g
  ⟨m'', h.trans h1, h2⟩

variable {lo hi nt : Nat} {tm tm' : Tr AV} {tmps : Array Value}

theorem WaitR.keep {k : List AIt} {m : List Item} (h : WaitR P X env ρ hp lo hi nt tm tmps k m) (h0 : ρ 0 ≠ none) (hσ : ρ.le σ) (hk : ∀ b, b < hi → ρ b = none → σ b = none ∧ hp'.get b = hp.get b) : WaitR P X env σ hp' lo hi nt tm tmps k m := by
  cases h with
  | reg a b c => exact .reg a (b.mono hσ) (c.mono hσ)
  | drw a b c d e => exact .drw a b (c.mono hσ) (d.keep e h0 hσ hk) e
  | range a b c => exact .range (hσ _ _ a) (b.mono hσ) (c.mono hσ)

theorem SuspR.keep {dfd : Bool} {a : AFr} {fr : Frame} (h : SuspR P X env ρ hp lo hi dfd a fr) (h0 : ρ 0 ≠ none) (hσ : ρ.le σ) (hk : ∀ b, b < hi → ρ b = none → σ b = none ∧ hp'.get b = hp.get b) : SuspR P X env σ hp' lo hi dfd a fr :=
  ⟨h.st.mono hσ, h.nd, h.ret, fun e => (h.out e).mono hσ, fun e => (h.wait e).keep h0 hσ hk⟩

theorem StkR.keep {f : FuncId} {s : FS} {as : List AFr} {fs : List Frame} (h : StkR P X env ρ hp f lo s as fs) (h0 : ρ 0 ≠ none) (hσ : ρ.le σ) (hk : ∀ b, b < lo → ρ b = none → σ b = none ∧ hp'.get b = hp.get b) : StkR P X env σ hp' f lo s as fs := by
  induction h with
  | nil a b c => exact .nil a b c
  | cons a b _ ih => exact .cons a (b.keep h0 hσ hk) (ih fun x hx hn => hk x (by omega) hn)

theorem WaitR.up {hi' : Nat} {k : List AIt} {m : List Item} (h : WaitR P X env ρ hp lo hi nt tm tmps k m) (hh : hi ≤ hi') : WaitR P X env ρ hp lo hi' nt tm tmps k m := by
  cases h with
  | reg a b c => exact .reg a b c
  | drw a b c d e => exact .drw a b c (d.hi hh) e
  | range a b c => exact .range a b c

theorem StkR.up {f : FuncId} {s : FS} {as : List AFr} {fs : List Frame} {lo' : Nat} (h : StkR P X env ρ hp f lo s as fs) (hl : lo ≤ lo') : StkR P X env ρ hp f lo' s as fs := by
  cases h with
  | nil a b c => exact .nil a b c
  | cons a b c => exact .cons (Nat.le_trans a hl) ⟨b.st, b.nd, b.ret, b.out, fun e => (b.wait e).up hl⟩ c

theorem TodoR.up {hi' : Nat} {k : List AIt} {m : List Item} (h : TodoR P X env ρ hp lo hi nt tm tmps k m) (hh : hi ≤ hi') : TodoR P X env ρ hp lo hi' nt tm tmps k m := by
  cases h with
  | plain a b => exact .plain a b
  | reg a b => exact .reg a b
  | drw a b => exact .drw a (b.hi hh)

theorem Inv.zero (I : Inv env W0 ρ hp nx w) : ρ 0 ≠ none := by
  obtain ⟨n, h⟩ := I.glob 0 (by decide)
  rw [h]; simp

theorem StR.of {s : FS} {ret : Bool} {df : List ADef} {fr fr' : Frame} (h : StR env ρ s ret df fr) (h1 : fr'.fn = fr.fn) (h2 : fr'.kind = fr.kind) (h3 : fr'.roundOf = fr.roundOf) (h4 : fr'.mode = fr.mode) (h5 : fr'.defers = fr.defers) : StR env ρ s ret df fr' :=
  ⟨h1.trans h.fn, h2.trans h.kind, by rw [h3]; exact h.rnd, h4.trans h.mode, by rw [h5]; exact h.df⟩

/-- Its operation ends with a value. -/
theorem WaitR.finish {s : FS} {df : List ADef} {ret : Bool} {todo : List AIt} {a : AFr} {fr : Frame} {v : AV} {v' : Value} (h : WaitR P X env ρ hp lo hi s.nt tm fr.tmps todo fr.todo) (hf : finishIt s tm df ret v todo = some a) (hv : VR env ρ v v') :
    ∃ tm' todo', a = ⟨s, tm', todo', df, ret⟩ ∧ TodoR P X env ρ hp lo hi s.nt tm' (fr.finish v').tmps todo' (fr.finish v').todo ∧ (fr.finish v').fn = fr.fn ∧ (fr.finish v').kind = fr.kind ∧ (fr.finish v').roundOf = fr.roundOf ∧
      (fr.finish v').mode = fr.mode ∧ (fr.finish v').defers = fr.defers := by
  generalize hm : fr.todo = m at h
  cases h with
  | @reg ops n o k m ho hi ht =>
    simp only [finishIt, withTm] at hf
    split at hf
    · rename_i tm' hs
      cases hf
      have hfin : fr.finish v' = { fr with tmps := match o.dst with | some d => fr.tmps.setIfInBounds d v' | none => fr.tmps, todo := .inRegion ops ((List.range ops.size).drop (n + 1)) :: m } := by
        unfold Frame.finish
        rw [hm]
        simp only [ho, Option.bind_some]
        cases o.dst <;> rfl
      refine ⟨tm', _, rfl, ?_, by rw [hfin], by rw [hfin], by rw [hfin], by rw [hfin], by rw [hfin]⟩
      rw [hfin]
      refine .reg hi ?_
      rcases setT_some hs with ⟨h, rfl⟩ | ⟨t, h, hlt, rfl⟩
      · simp only [h]; exact ht
      · simp only [h]; exact ht.set hlt hv
    · cases hf
  | @drw ops e o acts b done effs pre blk k m ho hc hi D hr =>
    simp only [finishIt, withTm] at hf
    split at hf
    · rename_i tm' hs
      cases hf
      have hfin : fr.finish v' = { fr with tmps := match o.dst with | some d => fr.tmps.setIfInBounds d v' | none => fr.tmps, todo := .inRegion ops b :: m } := by
        unfold Frame.finish
        rw [hm]
        simp only [ho, Option.bind_some]
        cases o.dst <;> rfl
      have hs' : setT s.nt tm o.dst v = some tm' := by rw [nth_dst, ho] at hs; exact hs
      obtain ⟨effs', D'⟩ := D.behind ho hc hs' rfl hv
      refine ⟨tm', _, rfl, ?_, by rw [hfin], by rw [hfin], by rw [hfin], by rw [hfin], by rw [hfin]⟩
      rw [hfin]
      exact .drw hi D'
    · cases hf
  | @range l p k m hl hi ht =>
    simp only [finishIt] at hf
    cases hf
    have hfin : fr.finish v' = { fr with todo := .endRangeFunc p.blk :: m } := by unfold Frame.finish; rw [hm]
    refine ⟨tm, _, rfl, ?_, by rw [hfin], by rw [hfin], by rw [hfin], by rw [hfin], by rw [hfin]⟩
    rw [hfin]
    exact .plain (.cons (.endRange hl) hi) ht

/-- .. and the frame goes on. -/
theorem CurR.finish {s : FS} {df : List ADef} {todo : List AIt} {a : AFr} {fr : Frame} {v : AV} {v' : Value} (hst : StR env ρ s false df fr) (hnd : s.rnd = none ∨ s.dfd = false) (h : WaitR P X env ρ hp lo hi s.nt tm fr.tmps todo fr.todo)
    (hf : finishIt s tm df false v todo = some a) (hv : VR env ρ v v') : CurR P X env ρ hp lo hi a (fr.finish v') ∧ a.s = s := by
  obtain ⟨tm', todo', rfl, h1, e1, e2, e3, e4, e5⟩ := h.finish hf hv
  exact ⟨⟨hst.of e1 e2 e3 e4 e5, hnd, fun e => by simp at e, fun _ => h1⟩, rfl⟩

end Va

/-
  VA: steps of plain code.
-/
namespace Va
open Go Go.RowKit

variable {P : Program} {env : Nat → Value} {W0 : World} {ρ σ : Rho} {hp hp' : Tr AO} {nx : Nat} {w w' : World} {X : Nat → Option XK} {f : FuncId} {cs0 : List Frame}
variable {lo : Nat} {tm tm' : Tr AV} {s : FS} {df : List ADef} {todo k : List AIt} {as : List AFr} {fr : Frame} {fs : List Frame}

/-- A running state, in parts. -/
structure Run (P : Program) (X : Nat → Option XK) (env : Nat → Value) (W0 : World) (f : FuncId) (ρ : Rho) (lo : Nat) (s : FS) (tm : Tr AV) (todo : List AIt) (df : List ADef) (as : List AFr) (hp : Tr AO) (nx : Nat) (fr : Frame) (fs : List Frame) (w : World) : Prop where
  inv : Inv env W0 ρ hp nx w
  low : lo ≤ nx
  st : StR env ρ s false df fr
  nd : s.rnd = none ∨ s.dfd = false
  todo : TodoR P X env ρ hp lo nx s.nt tm fr.tmps todo fr.todo
  stk : StkR P X env ρ hp f lo s as fs

theorem Run.mode (R : Run P X env W0 f ρ lo s tm todo df as hp nx fr fs w) : fr.mode = .run := R.st.mode

theorem Run.sr (R : Run P X env W0 f ρ lo s tm todo df as hp nx fr fs w) : SR P X env W0 f cs0 ⟨⟨s, tm, todo, df, false⟩, as, hp, nx⟩ (lone fr (fs ++ cs0) w) :=
  .mk R.inv R.low ⟨R.st, R.nd, fun e => by simp at e, fun _ => R.todo⟩ R.stk

theorem TodoR.plain_of {P : Program} {hi nt : Nat} {tmps : Array Value} {a : AIt} {m : List Item} (h : TodoR P X env ρ hp lo hi nt tm tmps (a :: k) m) (hr : ∀ o r, a ≠ .reg o r) (hd : ∀ o r, a ≠ .drw o r) :
    ItsR ρ (a :: k) m ∧ TmR env ρ nt tm tmps := by
  cases h with
  | plain x y => exact ⟨x, y⟩
  | reg _ _ => exact absurd rfl (hr _ _)
  | drw _ _ => exact absurd rfl (hd _ _)

/-- The model does a step that turns only what is to do. -/
theorem Run.to (R : Run P X env W0 f ρ lo s tm todo df as hp nx fr fs w) {k' : List AIt} {m' : List Item} (ht : TmR env ρ s.nt tm fr.tmps)
    (h : step P (lone fr (fs ++ cs0) w) = .next (lone { fr with todo := m' } (fs ++ cs0) w)) (hi : ItsR ρ k' m') : Goes P X env W0 f cs0 (lone fr (fs ++ cs0) w) ⟨⟨s, tm, k', df, false⟩, as, hp, nx⟩ := by
  refine ⟨_, .one h, Run.sr ⟨R.inv, R.low, R.st.of rfl rfl rfl rfl rfl, R.nd, .plain hi ht, R.stk⟩⟩

theorem TmR.ev (I : Inv env W0 ρ hp nx w) {nt : Nat} (h : TmR env ρ nt tm fr.tmps) {x : Operand} {v : AV} (hv : ev tm x = some v) : VR env ρ v (fr.eval x) := by
  have := ev_sound (a := ⟨fr.tmps, fr.defers⟩) I (fun t _ v hv => h.2 t v hv) hv
  rw [frame_eval]
  exact this

/-- A frame leaves its code, and is no round. -/
theorem Run.leave (R : Run P X env W0 f ρ lo s tm todo df as hp nx fr fs w) (ht : TmR env ρ s.nt tm fr.tmps)
    (h : step P (lone fr (fs ++ cs0) w) = .next (lone { fr with mode := .returning } (fs ++ cs0) w)) {todo' : List AIt} : Goes P X env W0 f cs0 (lone fr (fs ++ cs0) w) ⟨⟨s, tm, todo', df, true⟩, as, hp, nx⟩ :=
  ⟨_, .one h, .mk R.inv R.low ⟨⟨R.st.fn, R.st.kind, R.st.rnd, rfl, R.st.df⟩, R.nd, fun _ => ht, fun e => by simp at e⟩ R.stk⟩

theorem Chg.set {w : World} {b : Nat} {o ob : Obj} (h : w.heap[b]? = some o) : Chg b ob w { w with heap := w.heap.setIfInBounds b ob } := by
  have := size_of_get h
  exact ⟨by simp [this], fun j hj => by simp [Ne.symm hj], by simp, rfl, rfl, rfl⟩

/-- A loop's block is written. -/
theorem Inv.loop (I : Inv env W0 ρ hp nx w) {b : Nat} {l : ALoop} {p : Pl} (hb : hp.get b = some (.loop l)) (hp' : ρ b = some p) (hl : 2000 ≤ b) :
    ∃ l', w.heap[p.blk]? = some (.loop l') ∧ LoopR env ρ l l' ∧ ∀ (a : ALoop) (r : Loop), LoopR env ρ a r → Inv env W0 ρ (hp.set b (.loop a)) nx { w with heap := w.heap.setIfInBounds p.blk (.loop r) } := by
  obtain ⟨ob, h1, h2⟩ := I.obj b _ p hb hp' rfl
  cases ob <;> simp only [OR] at h2
  rename_i l'
  exact ⟨l', h1, h2, fun a r h => I.write (p := p) hb rfl hp' hl (Chg.set h1) (by simp only [OR]; exact h)⟩

theorem set_other {b c : Nat} {o : AO} (h : c ≠ b) : (hp.set b o).get c = hp.get c := by rw [Tr.get_set, if_neg h]

/-- A round leaves. -/
theorem Run.leaveLoop (R : Run P X env W0 f ρ lo s tm todo df as hp nx fr fs w) {l : Nat} (hr : s.rnd = some l) {jump : Option Code} {s' : ASt} (h : leaveLoop s.dfd as hp nx l jump (hp.get l) = .next s')
    (hstep : ∀ c cs p r, fr.roundOf = some p → w.heap[p]? = some (.loop r) → fr.kind = .normal → step P (lone fr (c :: cs) w) = .next (lone (c.finish (.bool jump.isNone)) cs (roundEnd p r jump w))) :
    Goes P X env W0 f cs0 (lone fr (fs ++ cs0) w) s' := by
  unfold Va.leaveLoop at h
  split at h
  · rename_i r ho
    unfold leavePut at h
    split at h
    · rename_i hp1 hput
      obtain ⟨hl, rfl⟩ := putH_some hput
      have hst := R.st.rnd
      rw [hr] at hst
      obtain ⟨p, hp2, hro⟩ := hst
      obtain ⟨l', h1, h2, h3⟩ := R.inv.loop ho hp2 hl
      have hdf : s.dfd = false := by
        rcases R.nd with h | h
        · rw [hr] at h; cases h
        · exact h
      have hk : fr.kind = .normal := by rw [R.st.kind, hdf]; rfl
      have I' := h3 { r with state := if jump.isNone then .ready else .done, pending := jump } { l' with state := if jump.isNone then .ready else .done, pending := jump }
        ⟨rfl, rfl, h2.fn, h2.tm, h2.params, h2.assign, h2.body, h2.defers⟩
      have stk := R.stk
      rw [hdf] at h
      cases stk with
      | nil _ _ hn => rw [hr] at hn; cases hn
      | @cons _ lo' _ a c as' fs' hle S K =>
        simp only [returnA] at h
        unfold nextO at h
        split at h
        · rename_i a' hf
          cases h
          have hne : ∀ b, b < lo → ρ b = none → ρ b = none ∧ (hp.set l (.loop { r with state := if jump.isNone then .ready else .done, pending := jump })).get b = hp.get b :=
            fun b _ hn => ⟨hn, set_other (fun e => by subst e; rw [hp2] at hn; cases hn)⟩
          have S' := S.keep R.inv.zero (Rho.le_refl _) hne
          have K' := K.keep R.inv.zero (Rho.le_refl _) (fun b hb hn => hne b (by omega) hn)
          rw [hdf] at S'
          have hret := S'.ret
          obtain ⟨as_, atm, atodo, adf, aret⟩ := a
          simp only at hret
          subst hret
          simp only [finishA] at hf
          obtain ⟨C, hs⟩ := CurR.finish (a := a') S'.st S'.nd (S'.wait rfl) hf (.bool jump.isNone)
          have hlo := R.low
          refine ⟨_, .one (hstep c _ _ _ hro h1 hk), .mk I' (Nat.le_trans hle hlo) ?_ (by rw [hs]; exact K')⟩
          refine ⟨C.st, C.nd, C.out, fun e => (C.run e).up hlo⟩
        · cases h
    · cases h
  · cases h

end Va

/-
  VA: steps of code.
-/
namespace Va
open Go Go.RowKit

variable {P : Program} {env : Nat → Value} {W0 : World} {ρ σ : Rho} {hp hp' : Tr AO} {nx : Nat} {w w' : World} {X : Nat → Option XK} {f : FuncId} {cs0 : List Frame}
variable {lo : Nat} {tm tm' : Tr AV} {s : FS} {df : List ADef} {todo k : List AIt} {as : List AFr} {fr : Frame} {fs : List Frame} {s' : ASt}

theorem roundR (R : Run P X env W0 f ρ lo s tm todo df as hp nx fr fs w) : (s.rnd = none ∧ fr.roundOf = none) ∨ (∃ l p, s.rnd = some l ∧ ρ l = some p ∧ fr.roundOf = some p.blk) := by
  have := R.st.rnd
  split at this
  · rename_i h; exact .inl ⟨h, this⟩
  · rename_i l h; obtain ⟨p, a, b⟩ := this; exact .inr ⟨l, p, h, a, b⟩

/-- A frame leaves: at the end of its code, at a return, at a way out of a round. -/
theorem Run.leaveA (R : Run P X env W0 f ρ lo s tm todo df as hp nx fr fs w) (ht : TmR env ρ s.nt tm fr.tmps) {jump : Option Code} {todo' : List AIt} (h : leaveA s tm todo' df as hp nx jump = .next s')
    (h1 : fr.roundOf = none → step P (lone fr (fs ++ cs0) w) = .next (lone { fr with mode := .returning } (fs ++ cs0) w))
    (hstep : ∀ c cs p r, fr.roundOf = some p → w.heap[p]? = some (.loop r) → fr.kind = .normal → step P (lone fr (c :: cs) w) = .next (lone (c.finish (.bool jump.isNone)) cs (roundEnd p r jump w))) :
    Goes P X env W0 f cs0 (lone fr (fs ++ cs0) w) s' := by
  unfold Va.leaveA at h
  rcases roundR R with ⟨hn, hr⟩ | ⟨l, p, hn, hp, hr⟩
  · rw [hn] at h
    cases h
    exact R.leave ht (h1 hr)
  · rw [hn] at h
    exact R.leaveLoop hn h hstep

theorem Run.flat (R : Run P X env W0 f ρ lo s tm todo df as hp nx fr fs w) (hr : ∀ o r k, todo ≠ .reg o r :: k) (hd : ∀ o r k, todo ≠ .drw o r :: k) : ItsR ρ todo fr.todo ∧ TmR env ρ s.nt tm fr.tmps := by
  have h := R.todo
  generalize fr.todo = m at h
  cases h with
  | plain a b => exact ⟨a, b⟩
  | reg _ _ => exact absurd rfl (hr _ _ _)
  | drw _ _ => exact absurd rfl (hd _ _ _)

theorem its_code {c : Code} {m : List Item} (h : ItsR ρ (.code c :: k) m) : ∃ m', m = .code c :: m' ∧ ItsR ρ k m' := by
  cases h with
  | cons a b => cases a; exact ⟨_, rfl, b⟩

theorem Inv.drew (I : Inv env W0 ρ hp nx w) : Inv env W0 ρ hp nx w.drew := I.same rfl rfl rfl rfl

theorem exit_none {i : Nat} {k : List AIt} {m : List Item} (r : ItsR ρ k m) (h : exitA i k = none) : exitTo i m = none := by
  induction r with
  | nil => rfl
  | cons x s ih =>
    cases x with
    | inBlock j =>
      simp only [exitA] at h
      split at h
      · cases h
      · rename_i hb
        simp [exitTo, Nat.ne_of_beq_eq_false hb, ih h]
    | code c => exact ih h
    | inLoop b => exact ih h
    | inScope b => exact ih h
    | inRange e => exact ih h
    | endRange e => exact ih h
    | beginRound => exact ih h

/-- A region begins. -/
theorem Run.region {id : Nat} {ops : Array Oper} {draw : Bool} (E : EnvOk P X) (R : Run P X env W0 f ρ lo s tm (.code (.region id ops draw) :: k) df as hp nx fr fs w) (h : stepRegion P s tm df as hp nx k ops.toList draw = .next s') :
    Goes P X env W0 f cs0 (lone fr (fs ++ cs0) w) s' := by
  obtain ⟨hi, ht⟩ := R.flat (by simp) (by simp)
  obtain ⟨m, hm, hk⟩ := its_code hi
  unfold stepRegion at h
  cases draw with
  | false =>
    simp only [toA] at h
    cases h
    refine ⟨_, .one (st_region R.mode hm), Run.sr ⟨R.inv, R.low, R.st.of rfl rfl rfl rfl rfl, R.nd, ?_, R.stk⟩⟩
    have := TodoR.reg (P := P) (X := X) (hp := hp) (lo := lo) (hi := nx) (ops := ops) (n := 0) hk ht
    simpa using this
  | true =>
    simp only at h
    split at h
    · rename_i hg
      simp only [toA] at h
      cases h
      unfold goodActs at hg
      simp only [Bool.and_eq_true] at hg
      obtain ⟨⟨g1, g2⟩, g3⟩ := hg
      obtain ⟨t, hst⟩ := st_draw (P := P) (cs := fs ++ cs0) (w := w) R.mode hm
      obtain ⟨l, h1, h2, h3⟩ := linearise_lined g1 t
      have hsch : Region.schedule (P.follows .mixedOrders) ops t = l.reverse := by rw [E.mixed]; simpa [Region.schedule] using h1
      rw [hsch] at hst
      refine ⟨_, .one hst, Run.sr ⟨R.inv.drew, R.low, R.st.of rfl rfl rfl rfl rfl, R.nd, ?_, R.stk⟩⟩
      refine TodoR.drw (done := 0) (effs := 0) (pre := []) (blk := fun _ => 0) hk ⟨g1, g2, g3, by simpa using h2, by simp [h3], by simp, by simp, by simp, by simp, by simp, ⟨ht.1, fun t v hv => .inr (ht.2 t v hv)⟩⟩
    · cases h

/-- Code that is no range over a function. -/
theorem Run.code (E : EnvOk P X) {c : Code} (R : Run P X env W0 f ρ lo s tm (.code c :: k) df as hp nx fr fs w) (hc : ∀ g p a b, c ≠ .rangeFunc g p a b) (h : stepCode P s tm df as hp nx k c = .next s') :
    Goes P X env W0 f cs0 (lone fr (fs ++ cs0) w) s' := by
  obtain ⟨hi, ht⟩ := R.flat (by simp) (by simp)
  obtain ⟨m, hm, hk⟩ := its_code hi
  have hmode := R.mode
  cases c with
  | ret =>
    simp only [stepCode] at h
    exact R.leaveA ht h (fun hr => st_ret hmode hr hm) (fun c cs p r hr hh hkd => st_roundRet hmode hkd hr hm hh)
  | skip => simp only [stepCode, toA] at h; cases h; exact R.to ht (st_skip hmode hm) hk
  | label l => simp only [stepCode, toA] at h; cases h; exact R.to ht (st_label hmode hm) hk
  | seq a b => simp only [stepCode, toA] at h; cases h; exact R.to ht (st_seq hmode hm) (.cons (.code a) (.cons (.code b) hk))
  | cond c a b =>
    simp only [stepCode] at h
    unfold stepCond at h
    split at h
    · rename_i x hx
      have hv := ht.ev R.inv hx
      have he : fr.eval c = .bool x := by generalize fr.eval c = y at hv; cases hv; rfl
      have := st_cond (P := P) (cs := fs ++ cs0) (w := w) hmode hm he
      cases x with
      | true => simp only [toA] at h; cases h; exact R.to ht this (.cons (.code _) hk)
      | false => simp only [toA] at h; cases h; exact R.to ht this (.cons (.code _) hk)
    · cases h
  | block i b => simp only [stepCode, toA] at h; cases h; exact R.to ht (st_block hmode hm) (.cons (.code b) (.cons (.inBlock i) hk))
  | loop b => simp only [stepCode, toA] at h; cases h; exact R.to ht (st_loop hmode hm) (.cons (.code b) (.cons (.inLoop b) hk))
  | scope b => simp only [stepCode, toA] at h; cases h; exact R.to ht (st_scope hmode hm) (.cons (.code b) (.cons (.inScope b) hk))
  | exit i =>
    simp only [stepCode] at h
    unfold stepExit at h
    split at h
    · rename_i k' he
      obtain ⟨m', h1, h2⟩ := exit_sound hk he
      simp only [toA] at h; cases h
      exact R.to ht (st_exit hmode hm h1) h2
    · rename_i he
      split at h
      · cases h
      · rename_i l hl
        have he' : exitTo i m = none := exit_none hk he
        refine R.leaveA ht h (fun hr => ?_) (fun c cs p r hr hh hkd => st_roundExit hmode hkd hr hm he' hh)
        rcases roundR R with ⟨hn, _⟩ | ⟨l', p, _, _, hr'⟩
        · rw [hn] at hl; cases hl
        · rw [hr'] at hr; cases hr
  | goto l =>
    simp only [stepCode] at h
    unfold toO at h
    split at h
    · rename_i k' he
      obtain ⟨m', h1, h2⟩ := goto_sound hk he
      simp only [toA] at h; cases h
      exact R.to ht (st_goto hmode hm h1) h2
    · cases h
  | region i ops draw => exact R.region E (by simpa only [stepCode] using h)
  | rangeFunc g p a b => exact absurd rfl (hc g p a b)
  | refuse why => cases h

end Va

/-
  VA: operations, step by step.
-/
namespace Va
open Go Go.RowKit

variable {P : Program} {env : Nat → Value} {W0 : World} {ρ σ : Rho} {hp hp' : Tr AO} {nx : Nat} {w w' : World} {X : Nat → Option XK} {f : FuncId} {cs0 : List Frame}
variable {lo : Nat} {tm tm' : Tr AV} {s : FS} {df : List ADef} {todo k : List AIt} {as : List AFr} {fr : Frame} {fs : List Frame} {s' : ASt}

/-- A state that stands at an operation. -/
structure AtOp (P : Program) (X : Nat → Option XK) (env : Nat → Value) (W0 : World) (f : FuncId) (ρ : Rho) (lo : Nat) (s : FS) (tm : Tr AV) (todo : List AIt) (df : List ADef) (as : List AFr) (hp : Tr AO) (nx : Nat) (fr : Frame) (fs : List Frame) (w : World) (ops : Array Oper) (o : Oper) : Prop where
  inv : Inv env W0 ρ hp nx w
  low : lo ≤ nx
  st : StR env ρ s false df fr
  nd : s.rnd = none ∨ s.dfd = false
  stk : StkR P X env ρ hp f lo s as fs
  wait : WaitR P X env ρ hp lo nx s.nt tm fr.tmps todo fr.todo
  todo : ∃ i rest m, fr.todo = .inRegion ops (i :: rest) :: m ∧ ops[i]? = some o
  evs : EvOk env ρ tm ⟨fr.tmps, fr.defers⟩ o.op.operands.toList
  guard : ∀ j want d v, o.guard = some (j, want) → dstOf ops.toList j = some d → tm.get d = some v → ∃ v', fr.tmps[d]? = some v' ∧ VR env ρ v v'

theorem enterA_some {g : FuncId} {args : List AV} {dfd : Bool} {a : AFr} (h : enterA P g args dfd = some a) : ∃ fn c, P.funcs[g]? = some fn ∧ fn.body = some c ∧ a = ⟨⟨g, fn.ntmps, dfd, none⟩, fillT .leaf 0 args, [.code c], [], false⟩ := by
  unfold enterA at h
  split at h
  · rename_i fn hf
    unfold enterFn at h
    split at h
    · rename_i c hc
      cases h
      exact ⟨fn, c, hf, hc, rfl⟩
    · cases h
  · cases h

/-- A frame that is entered. -/
theorem cur_enter {g : FuncId} {args : List AV} {args' : Array Value} {dfd : Bool} {a : AFr} {hi : Nat} (h : enterA P g args dfd = some a) (ha : VRs env ρ args args'.toList) :
    CurR P X env ρ hp lo hi a (Frame.enter P g args' (if dfd then .deferred else .normal)) ∧ a.s.dfd = dfd ∧ a.s.rnd = none ∧ a.s.fn = g := by
  obtain ⟨fn, c, hf, hc, rfl⟩ := enterA_some h
  refine ⟨⟨⟨rfl, rfl, rfl, rfl, .nil⟩, .inl rfl, fun e => by simp at e, fun _ => ?_⟩, rfl, rfl, rfl⟩
  have h1 : (Frame.enter P g args' (if dfd then .deferred else .normal)).todo = [.code c] := by simp [Frame.enter, hf, hc]
  have h2 : (Frame.enter P g args' (if dfd then .deferred else .normal)).tmps = args' ++ Array.replicate (fn.ntmps - args'.size) undef := by simp [Frame.enter, hf]
  rw [h1, h2]
  exact .plain (.cons (.code c) .nil) (enter_tm ha)

theorem zip_foldl (ps : Array Tmp) (ws : Array Value) (t : Array Value) :
    (ps.zip ws).foldl (fun tmps (t, a) => tmps.setIfInBounds t a) t = (ps.toList.zip ws.toList).foldl (fun tmps (t, a) => tmps.setIfInBounds t a) t := by
  rw [← Array.foldl_toList, Array.toList_zip]

/-- A round that is entered. -/
theorem cur_round (I : Inv env W0 ρ hp nx w) {l : Nat} {args : List AV} {args' : Array Value} {a : AFr} {p : Pl} {hi : Nat} (h : roundA hp l args = some a) (hp' : ρ l = some p) (ha : VRs env ρ args args'.toList) :
    ∃ fn tmps c1 c2, (Instr.yield p.blk args').run P w = .ok (.round p.blk fn tmps c1 c2) w ∧ CurR P X env ρ hp lo hi a (Frame.round p.blk fn tmps c1 c2 .normal) ∧ a.s.dfd = false := by
  unfold roundA at h
  split at h
  · rename_i r hl
    unfold roundFr at h
    split at h
    · rename_i tm hs
      cases h
      obtain ⟨ob, h1, h2⟩ := I.obj l _ p hl hp' rfl
      cases ob <;> simp only [OR] at h2
      rename_i r'
      rw [← h2.params] at hs
      obtain ⟨h3, h4⟩ := setParams_sound hs ha h2.tm
      refine ⟨_, _, _, _, run_yield h1 (by simpa using h3), ⟨⟨h2.fn, rfl, ⟨p, hp', rfl⟩, rfl, .nil⟩, .inr rfl, fun e => by simp at e, fun _ => ?_⟩, rfl⟩
      simp only [Frame.round]
      rw [zip_foldl]
      refine .plain ?_ h4
      rw [h2.assign, h2.body]
      exact .cons (.code _) (.cons .beginRound (.cons (.code _) .nil))
    · cases h
  · cases h

theorem opDefer_defer {c : Call} {r : ARes} (h : opDefer tm c = some r) : ∃ d, r = .defer d := by
  unfold opDefer at h
  split at h
  · split at h
    · cases h; exact ⟨_, rfl⟩
    · cases h
  · cases h

theorem nextO_some {fr : Option AFr} {cs : List AFr} {hp : Tr AO} {nx why : Nat} {s' : ASt} (h : nextO fr cs hp nx why = .next s') : ∃ a, fr = some a ∧ s' = ⟨a, cs, hp, nx⟩ := by
  unfold nextO at h
  split at h
  · cases h; exact ⟨_, rfl, rfl⟩
  · cases h

/-- An operation, of which VA tells what comes of it. -/
theorem AtOp.step {ops : Array Oper} {o : Oper} (E : EnvOk P X) (henv : ∀ i, (env i).oneCell' = true) (A : AtOp P X env W0 f ρ lo s tm todo df as hp nx fr fs w ops o)
    (h : stepOp P X s tm todo df as hp nx o (wantedA ops.toList tm o) = .next s') : Goes P X env W0 f cs0 (lone fr (fs ++ cs0) w) s' := by
  obtain ⟨i, rest, m, ht, ho⟩ := A.todo
  have hmode : fr.mode = .run := A.st.mode
  unfold stepOp at h
  split at h
  · rename_i hw
    have hw' := wanted_sound hw A.guard
    generalize hr : aop P X tm o hp nx = r at h
    unfold applyA at h
    have hnd : fr.roundOf = none ∨ ∀ c, o.op ≠ .defer c := by
      cases hs : s.rnd with
      | none => left; have := A.st.rnd; rw [hs] at this; exact this
      | some l =>
        right
        intro c hc
        unfold aop at hr
        rw [hc] at hr
        simp only [aopOp] at hr
        cases r with
        | none => cases h
        | some r =>
          obtain ⟨d, rfl⟩ := opDefer_defer hr
          simp only [hs] at h
          cases h
    split at h
    · cases h
    · rename_i v hp1 nx1
      obtain ⟨a, hf, rfl⟩ := nextO_some h
      cases aop_sound E henv A.inv A.evs hr with
      | val hg =>
        obtain ⟨v', w', σ, h1, h2, h3, h4, h5, h6⟩ := hg
        have hW := A.wait.keep A.inv.zero h2 h6
        obtain ⟨C, hs⟩ := CurR.finish (A.st.mono h2) A.nd hW hf h3
        have hst : step P (lone fr (fs ++ cs0) w) = .next (lone (fr.finish v') (fs ++ cs0) w') := by
          refine st_op hmode ht ho hw' hnd ?_
          rw [frame_eval]
          rcases h1 with h1 | ⟨h1, rfl⟩
          · exact ap_value h1
          · exact ap_skip h1
        exact ⟨_, .one hst, .mk h4 (Nat.le_trans A.low h5) ⟨C.st, C.nd, C.out, fun e => (C.run e).up h5⟩ (by rw [hs]; exact A.stk.keep A.inv.zero h2 (fun b hb hn => h6 b (by have := A.low; omega) hn))⟩
    · rename_i g args
      obtain ⟨a, hf, rfl⟩ := nextO_some h
      cases aop_sound E henv A.inv A.evs hr with
      | @enter _ _ args' _ h1 h2 =>
        obtain ⟨C, e1, e2, e3⟩ := cur_enter (X := X) (hp := hp) (lo := nx) (hi := nx) hf h2
        have hst : step P (lone fr (fs ++ cs0) w) = .next (lone (Frame.enter P g args' .normal) (fr :: (fs ++ cs0)) w) := by
          refine st_op hmode ht ho hw' hnd ?_
          rw [frame_eval]
          exact ap_enter h1 (by intro d r sv k hk; rw [ht] at hk; cases hk)
        exact ⟨_, .one hst, .mk (fs := fr :: fs) A.inv (Nat.le_refl _) C (.cons A.low ⟨A.st, A.nd, (by rw [e1]), (fun e => by rw [e1] at e; cases e), fun _ => A.wait⟩ A.stk)⟩
    · rename_i l args
      obtain ⟨a, hf, rfl⟩ := nextO_some h
      cases aop_sound E henv A.inv A.evs hr with
      | round h1 h2 h3 =>
        obtain ⟨fn, tmps, c1, c2, h4, C, e1⟩ := cur_round (P := P) (X := X) (lo := nx) (hi := nx) A.inv hf h1 h2
        have hst := st_op (P := P) (cs := fs ++ cs0) (w := w) hmode ht ho hw' hnd (by rw [frame_eval]; exact ap_round (h3.trans h4))
        exact ⟨_, .one hst, .mk (fs := fr :: fs) A.inv (Nat.le_refl _) C (.cons A.low ⟨A.st, A.nd, (by rw [e1]), (fun e => by rw [e1] at e; cases e), fun _ => A.wait⟩ A.stk)⟩
    · rename_i d
      split at h
      · rename_i hs
        obtain ⟨a, hf, rfl⟩ := nextO_some h
        cases aop_sound E henv A.inv A.evs hr with
        | @defer _ d' _ h1 h2 =>
          have hst := st_op (P := P) (cs := fs ++ cs0) (w := w) hmode ht ho hw' hnd (by rw [frame_eval]; exact ap_defer h1)
          obtain ⟨C, hs'⟩ := CurR.finish (fr := { fr with defers := d' :: fr.defers }) (v' := undef) ⟨A.st.fn, A.st.kind, A.st.rnd, A.st.mode, .cons h2 A.st.df⟩ A.nd A.wait hf (.tuple .nil)
          exact ⟨_, .one hst, .mk A.inv A.low C (by rw [hs']; exact A.stk)⟩
      · cases h
    · unfold recoverA at h
      split at h
      · rename_i c as' hd hrn
        split at h
        · rename_i hret
          obtain ⟨a, hf, rfl⟩ := nextO_some h
          cases aop_sound E henv A.inv A.evs hr with
          | recover h1 =>
            obtain ⟨C, hs'⟩ := CurR.finish (v' := .nilIface) A.st A.nd A.wait hf .nilIface
            have stk := A.stk
            cases stk with
            | @cons _ lo' _ _ c' _ fs' hle S K =>
              have hro : fr.roundOf = none := by have := A.st.rnd; rw [hrn] at this; exact this
              have hk : fr.kind = .deferred := by rw [A.st.kind, hd]; rfl
              have hc : c'.mode = .returning := by rw [S.st.mode, hret]; rfl
              have hst := st_op (P := P) (cs := c' :: fs' ++ cs0) (w := w) hmode ht ho hw' hnd (by rw [frame_eval]; exact ap_recover h1 hro hk hc)
              exact ⟨_, .one hst, .mk (fs := c' :: fs') A.inv A.low C (by rw [hs']; exact .cons hle S K)⟩
        · cases h
      · cases h
  · rename_i hw
    have hw' := wanted_sound hw A.guard
    obtain ⟨a, hf, rfl⟩ := nextO_some h
    obtain ⟨C, hs⟩ := CurR.finish (v' := undef) A.st A.nd A.wait hf (.tuple .nil)
    exact ⟨_, .one (st_unwanted hmode ht (by simp [ho, hw'])), .mk A.inv A.low C (by rw [hs]; exact A.stk)⟩
  · cases h

end Va

/-
  VA: regions, step by step.
-/
namespace Va
open Go Go.RowKit

variable {P : Program} {env : Nat → Value} {W0 : World} {ρ σ : Rho} {hp hp' : Tr AO} {nx : Nat} {w w' : World} {X : Nat → Option XK} {f : FuncId} {cs0 : List Frame}
variable {lo hi nt : Nat} {tm tm' : Tr AV} {tmps : Array Value} {s : FS} {df : List ADef} {todo k : List AIt} {as : List AFr} {fr : Frame} {fs : List Frame} {s' : ASt}

theorem todo_reg {opsL r : List Oper} {m : List Item} (h : TodoR P X env ρ hp lo hi nt tm tmps (.reg opsL r :: k) m) :
    ∃ (ops : Array Oper) (n : Nat) (m' : List Item), opsL = ops.toList ∧ r = ops.toList.drop n ∧ m = .inRegion ops ((List.range ops.size).drop n) :: m' ∧ ItsR ρ k m' ∧ TmR env ρ nt tm tmps := by
  generalize hk : (AIt.reg opsL r :: k) = td at h
  cases h with
  | plain a b =>
    subst hk
    cases a with
    | cons x y => cases x
  | @reg ops n k' m' a b =>
    cases hk
    exact ⟨ops, n, m', rfl, rfl, rfl, a, b⟩
  | drw a b => cases hk

theorem todo_drw {opsL : List Oper} {acts : List Ac} {m : List Item} (h : TodoR P X env ρ hp lo hi nt tm tmps (.drw opsL acts :: k) m) :
    ∃ (ops : Array Oper) (lst : List Nat) (done effs : Nat) (pre : List Nat) (blk : Nat → Nat) (m' : List Item), opsL = ops.toList ∧ m = .inRegion ops lst :: m' ∧ ItsR ρ k m' ∧ DrwP P X env ρ hp lo hi nt ops tm tmps acts (ckOf acts) lst done effs pre blk := by
  generalize hk : (AIt.drw opsL acts :: k) = td at h
  cases h with
  | plain a b =>
    subst hk
    cases a with
    | cons x y => cases x
  | reg a b => cases hk
  | @drw ops acts lst done effs pre blk k' m' a b =>
    cases hk
    exact ⟨ops, lst, done, effs, pre, blk, m', rfl, rfl, a, b⟩

theorem range_drop {n N : Nat} (h : n < N) : (List.range N).drop n = n :: (List.range N).drop (n + 1) := by
  rw [List.drop_eq_getElem_cons (by simpa using h)]
  simp

theorem Run.reg {opsL r : List Oper} (E : EnvOk P X) (henv : ∀ i, (env i).oneCell' = true) (R : Run P X env W0 f ρ lo s tm (.reg opsL r :: k) df as hp nx fr fs w) (h : stepReg P X s tm df as hp nx k opsL r = .next s') :
    Goes P X env W0 f cs0 (lone fr (fs ++ cs0) w) s' := by
  have T := R.todo
  generalize hm : fr.todo = m at T
  obtain ⟨ops, n, m', rfl, hr, rfl, hi, ht⟩ := todo_reg T
  cases r with
  | nil =>
    simp only [stepReg, toA] at h
    cases h
    have hn : ops.size ≤ n := by
      have := List.drop_eq_nil_iff.1 hr.symm
      simpa using this
    have : (List.range ops.size).drop n = [] := List.drop_eq_nil_iff.2 (by simpa using hn)
    rw [this] at hm
    exact R.to ht (st_regEnd R.mode hm) hi
  | cons o rest =>
    simp only [stepReg] at h
    have hn : n < ops.size := by
      rcases Nat.lt_or_ge n ops.size with h | h
      · exact h
      · have : ops.toList.drop n = [] := List.drop_eq_nil_iff.2 (by simpa using h)
        rw [this] at hr; cases hr
    have ho : ops[n]? = some o := by
      have := congrArg (fun l => l[0]?) hr
      simp only [List.getElem?_cons_zero, List.getElem?_drop, Nat.add_zero] at this
      simpa using this.symm
    have hrest : rest = ops.toList.drop (n + 1) := by
      have := congrArg (List.drop 1) hr
      simpa [List.drop_drop, Nat.add_comm] using this
    rw [range_drop hn] at hm
    subst hrest
    refine AtOp.step E henv (ops := ops) (o := o) ⟨R.inv, R.low, R.st, R.nd, R.stk, ?_, ⟨_, _, _, hm, ho⟩, fun x hx v hv => ?_, fun j want d v _ _ hv => ht.2 d v hv⟩ h
    · rw [hm]; exact .reg ho hi ht
    · exact ev_sound R.inv (fun t _ v hv => ht.2 t v hv) hv

theorem freshAt_none (h : freshAt hp nx = true) : hp.get nx = none := by
  unfold freshAt at h
  split at h
  · assumption
  · cases h

theorem goodFrom_nil {ops : Array Oper} {done effs : Nat} (h : goodFrom P ops.toList (masks ops.toList []) [] done effs = true) {i : Nat} (hi : i < ops.size) : done.testBit i = true := by
  unfold goodFrom at h
  rw [Nat.eq_of_beq_eq_true h]
  simp [hi]

theorem Run.drwEnd {opsL : List Oper} (E : EnvOk P X) (henv : ∀ i, (env i).oneCell' = true) (R : Run P X env W0 f ρ lo s tm (.drw opsL [] :: k) df as hp nx fr fs w) :
    Goes P X env W0 f cs0 (lone fr (fs ++ cs0) w) ⟨⟨s, tm, k, df, false⟩, as, hp, nx⟩ := by
  have T := R.todo
  generalize hm : fr.todo = m at T
  obtain ⟨ops, lst, done, effs, pre, blk, m', rfl, rfl, hi, D⟩ := todo_drw T
  have hall : ∀ i ∈ lst, done.testBit i = true := fun i hi => goodFrom_nil D.good (lined_lt D.lined i (by simp [hi]))
  obtain ⟨σ, w', fr', h1, h2, h3, h4, h5, h6, e1, e2, e3, e4, e5⟩ := DrwP.catch (cs := fs ++ cs0) (a := lst) (b := []) E henv R.inv (by simpa [ckOf] using D) R.mode (by simpa using hm) hall
  have ht : TmR env σ s.nt tm fr'.tmps := ⟨h6.tm.1, fun t v hv => by
    rcases h6.tm.2 t v hv with ⟨j, hj, _⟩ | h
    · cases hj
    · exact h⟩
  have R' : Run P X env W0 f σ lo s tm k df as hp nx { fr' with todo := m' } fs w' := ⟨h3, R.low, (R.st.mono h2).of e1 e4 e5 e3 e2, R.nd, .plain (hi.mono h2) ht, R.stk.keep R.inv.zero h2 (fun b hb hn => ⟨h4 b hb hn, rfl⟩)⟩
  exact ⟨_, h1.trans (.one (st_regEnd (e3.trans R.mode) h5)), R'.sr⟩

/-- An operation of no effect. -/
theorem Run.quiet {ops : Array Oper} {lst : List Nat} {done effs : Nat} {pre : List Nat} {blk : Nat → Nat} {m' : List Item} {i : Nat} {acts : List Ac} {o : Oper} (R : Run P X env W0 f ρ lo s tm (.drw ops.toList (.ex i :: acts) :: k) df as hp nx fr fs w)
    (hm : fr.todo = .inRegion ops lst :: m') (hi : ItsR ρ k m') (D : DrwP P X env ρ hp lo nx s.nt ops tm fr.tmps (.ex i :: acts) [] lst done effs pre blk) (ho : ops[i]? = some o) (hc : cls P o ≠ 3) (hf : freshAt hp nx = true)
    (h : stepOp P X s tm (.drw ops.toList (.ex i :: acts) :: k) df as hp nx o (wantedA ops.toList tm o) = .next s') : Goes P X env W0 f cs0 (lone fr (fs ++ cs0) w) s' := by
  have hfr := freshAt_none hf
  have hef : isEff P o = false := by
    cases h : isEff P o with
    | false => rfl
    | true => exact absurd (Nat.eq_of_beq_eq_true h) hc
  obtain ⟨mi, hmi⟩ := masks_get ho
  have own : ∀ {tm' : Tr AV} {v : AV}, setT s.nt tm o.dst v = some tm' → ∀ t ∈ readsOf ops.toList o, tm.get t = tm'.get t := by
    intro tm' v hs t ht
    refine (setT_get hs t fun hd => ?_).symm
    exact slots_own D.slots (by simpa using ho) hmi hd hef ht
  have hdst : dstOf ops.toList i = o.dst := by rw [nth_dst, ho]; rfl
  have hlow := R.low
  unfold stepOp at h
  split at h
  · rename_i hw
    generalize hr : aop P X tm o hp nx = r at h
    cases r with
    | none => cases h
    | some r =>
      obtain ⟨v, hp1, nx1, rfl, _, _⟩ := late_of_run hw hc hr (R.inv.fresh nx (Nat.le_refl _)) tm (fun _ _ => rfl)
      simp only [applyA] at h
      obtain ⟨a, hfin, rfl⟩ := nextO_some h
      simp only [finishIt, withTm, hdst] at hfin
      split at hfin
      · rename_i tm1 hs
        cases hfin
        obtain ⟨v', hp2, nx2, he, hl, hcase⟩ := late_of_run hw hc hr (R.inv.fresh nx (Nat.le_refl _)) tm1 (own hs)
        cases he
        have hl : ∃ b, Late P X ρ ops.toList tm1 hp1 b o v ∧ (b = 0 ∨ (lo ≤ b ∧ b < nx1)) ∧ (b ≠ 0 → nx ≤ b) := by
          rcases hcase with ⟨c1, c2, c3⟩ | ⟨c1, c2, c3⟩
          · refine ⟨0, ?_, .inl rfl, fun h => absurd rfl h⟩
            cases hl with
            | idle x => exact .idle x
            | val x y z => exact .val x y z
            | new x y z u t => exact absurd y c1
          · exact ⟨nx, hl, .inr ⟨hlow, by omega⟩, fun _ => Nat.le_refl _⟩
        obtain ⟨b, hl, hb, hnew⟩ := hl
        have hnn : nx ≤ nx1 := by rcases hcase with ⟨_, _, c3⟩ | ⟨_, _, c3⟩ <;> omega
        have hcls : ∀ p u b, b < nx ∨ b = 0 → Late P X ρ ops.toList tm hp b p u → cls P p ≠ 3 → Late P X ρ ops.toList tm hp1 b p u := by
          intro p u b hb hL hp3
          rcases hcase with ⟨_, rfl, _⟩ | ⟨_, ⟨ob, rfl⟩, _⟩
          · exact hL
          · by_cases h1 : cls P p = 1
            · cases hL with
              | idle x => exact .idle x
              | val x y z => exact .val x y (read_mono (HLe.set hfr) h1 z)
              | new x y z u t => rw [h1] at y; cases y
            · refine Late.keep h1 hp3 (cls_lt p) (fun hn => ⟨hn, set_other ?_⟩) hL
              have := R.inv.low
              omega
        obtain ⟨hck, blk', D'⟩ := D.ahead ho hc hs (fun h => by rw [hw] at h; cases h) hl hb hnn hnew hcls
        have hI : Inv env W0 ρ hp1 nx1 w := by
          rcases hcase with ⟨_, rfl, rfl⟩ | ⟨_, ⟨ob, rfl⟩, rfl⟩
          · exact R.inv
          · exact R.inv.pend ob
        have hget : ∀ b, b < nx → hp1.get b = hp.get b := by
          intro b hb
          rcases hcase with ⟨_, rfl, _⟩ | ⟨_, ⟨ob, rfl⟩, _⟩
          · rfl
          · exact set_other (by omega)
        refine ⟨_, .refl P _, Run.sr ⟨hI, Nat.le_trans hlow hnn, R.st, R.nd, ?_, R.stk.keep R.inv.zero (Rho.le_refl _) (fun b hb hn => ⟨hn, hget b (by omega)⟩)⟩⟩
        rw [hm]
        exact .drw hi (by rw [hck]; exact D')
      · cases hfin
  · rename_i hw
    obtain ⟨a, hfin, rfl⟩ := nextO_some h
    simp only [finishIt, withTm, hdst] at hfin
    split at hfin
    · rename_i tm1 hs
      cases hfin
      have hl : Late P X ρ ops.toList tm1 hp 0 o undefA := .idle (by rw [← wantedA_congr (own hs)]; exact hw)
      obtain ⟨hck, blk', D'⟩ := D.ahead ho hc hs (fun _ => rfl) hl (.inl rfl) (Nat.le_refl _) (fun h => absurd rfl h) (fun _ _ _ _ h _ => h)
      refine ⟨_, .refl P _, Run.sr ⟨R.inv, R.low, R.st, R.nd, ?_, R.stk⟩⟩
      rw [hm]
      exact .drw hi (by rw [hck]; exact D')
    · cases hfin
  · cases h

/-- An effect. -/
theorem Run.effect {ops : Array Oper} {lst : List Nat} {done effs : Nat} {pre : List Nat} {blk : Nat → Nat} {m' : List Item} {e : Nat} {acts : List Ac} {o : Oper} (E : EnvOk P X) (henv : ∀ i, (env i).oneCell' = true)
    (R : Run P X env W0 f ρ lo s tm (.drw ops.toList (.ex e :: acts) :: k) df as hp nx fr fs w)
    (hm : fr.todo = .inRegion ops lst :: m') (hi : ItsR ρ k m') (D : DrwP P X env ρ hp lo nx s.nt ops tm fr.tmps (.ex e :: acts) [] lst done effs pre blk) (ho : ops[e]? = some o) (hc : cls P o = 3)
    (h : stepOp P X s tm (.drw ops.toList (.ex e :: acts) :: k) df as hp nx o (wantedA ops.toList tm o) = .next s') : Goes P X env W0 f cs0 (lone fr (fs ++ cs0) w) s' := by
  have hg := D.good
  unfold goodFrom at hg
  simp only [nth_eq, Array.getElem?_toList, ho] at hg
  obtain ⟨mi, hmi⟩ := masks_get ho
  rw [hmi] at hg
  have hef : isEff P o = true := by simp [isEff, hc]
  simp only [hef, Bool.and_eq_true, Bool.not_eq_true', Nat.blt_eq] at hg
  obtain ⟨⟨⟨g1, g2⟩, g3⟩, ⟨⟨g4, g5⟩, g6⟩, g7⟩ := hg
  have hlt : e < ops.size := by simpa using g1
  obtain ⟨a, b, rfl, hd⟩ := front_done g5 D.lined D.pre g2 (D.mem hlt g2)
  obtain ⟨σ, w', fr', h1, h2, h3, h4, h5, h6, e1, e2, e3, e4, e5⟩ := DrwP.catch (cs := fs ++ cs0) E henv R.inv D R.mode hm hd
  obtain ⟨D', hreads⟩ := h6.at_eff ho hc
  have read : ∀ t ∈ readsOf ops.toList o, ∀ v, tm.get t = some v → ∃ v', fr'.tmps[t]? = some v' ∧ VR env σ v v' := by
    intro t htr v hv
    rcases h6.tm.2 t v hv with ⟨j, hj, hjd, p, hp1, hp2⟩ | h
    · obtain ⟨p', _, hp', hc', _⟩ := h6.late j hj hjd
      rw [hp1] at hp'; cases hp'
      exact absurd hp2 (slot_free D.back D.slots h6.lined ho htr hj hp1 hc')
    · exact h
  refine Goes.of_steps h1 (AtOp.step E henv (ρ := σ) (lo := lo) (ops := ops) (o := o) ⟨h3, R.low, (R.st.mono h2).of e1 e4 e5 e3 e2, R.nd, R.stk.keep R.inv.zero h2 (fun b hb hn => ⟨h4 b hb hn, rfl⟩), ?_, ⟨_, _, _, h5, ho⟩, ?_, ?_⟩ h)
  · rw [h5]; exact .drw ho hc (hi.mono h2) D' hreads
  · intro x hx v hv
    refine ev_sound h3 (fun t e v hv => read t ?_ v hv) hv
    subst e
    unfold readsOf
    exact List.mem_append.2 (.inr (mem_operandTmps hx))
  · intro j want d v q1 q2 q3
    refine read d ?_ v q3
    unfold readsOf
    rw [q1]
    simp [q2]

theorem Run.drw {opsL : List Oper} {acts : List Ac} (E : EnvOk P X) (henv : ∀ i, (env i).oneCell' = true) (R : Run P X env W0 f ρ lo s tm (.drw opsL acts :: k) df as hp nx fr fs w) (h : stepDrw P X s tm df as hp nx k opsL acts = .next s') :
    Goes P X env W0 f cs0 (lone fr (fs ++ cs0) w) s' := by
  cases acts with
  | nil => simp only [stepDrw, toA] at h; cases h; exact R.drwEnd E henv
  | cons c rest =>
    have T := R.todo
    generalize hm : fr.todo = m at T
    obtain ⟨ops, lst, done, effs, pre, blk, m', rfl, rfl, hi, D⟩ := todo_drw T
    cases c with
    | ck ls =>
      simp only [stepDrw] at h
      split at h
      · rename_i hck
        simp only [toA] at h
        cases h
        refine ⟨_, .refl P _, Run.sr ⟨R.inv, R.low, R.st, R.nd, ?_, R.stk⟩⟩
        rw [hm]
        exact .drw hi (D.check hck)
      · cases h
    | ex i =>
      simp only [stepDrw] at h
      split at h
      · rename_i o ho hf
        rw [nth_eq] at ho
        have ho : ops[i]? = some o := by simpa using ho
        by_cases hc : cls P o = 3
        · exact R.effect E henv hm hi D ho hc h
        · exact R.quiet hm hi D ho hc hf h
      · cases h

end Va

/-
  VA: ranges over functions, step by step.
-/
namespace Va
open Go Go.RowKit

variable {P : Program} {env : Nat → Value} {W0 : World} {ρ σ : Rho} {hp hp' : Tr AO} {nx : Nat} {w w' : World} {X : Nat → Option XK} {f : FuncId} {cs0 : List Frame}
variable {lo hi nt : Nat} {tm tm' : Tr AV} {tmps : Array Value} {s : FS} {df : List ADef} {todo k : List AIt} {as : List AFr} {fr : Frame} {fs : List Frame} {s' : ASt}

theorem st_range {x : Operand} {params : Array Tmp} {assign body : Code} {m : List Item} {l : Nat} {mark : List Deferred} {w1 : World} {g : FuncId} {first captured : Array Value} {fn : Func} {c : Code} {cs : List Frame} (hm : fr.mode = .run)
    (ht : fr.todo = .code (.rangeFunc x params assign body) :: m) (hl : (Instr.enterLoop fr.fn fr.tmps params assign body fr.roundOf).run P w = .ok (l, mark) w1) (hx : fr.eval x = .func (.func g) first captured)
    (hf : P.funcs[g]? = some fn) (hb : fn.body = some c) (hn : (fn.name == "runtime.NumGoroutine") = false) :
    step P (lone fr cs w) = .next (lone (Frame.enter P g (first ++ #[.func (.yield l) #[] #[]] ++ captured) .normal) ({ fr with todo := .inRangeFunc l :: m, defers := mark ++ fr.defers } :: cs) w1) := by
  refine step_lone_go ?_
  have he : ∀ (a : List Item) (b : List Deferred), ({ fr with todo := a, defers := b } : Frame).eval x = fr.eval x := by intro a b; cases x <;> rfl
  have hrun : (do let d ← resolve ({ fr with todo := .inRangeFunc l :: m, defers := mark ++ fr.defers } : Frame).eval { callee := .value x, args := #[.const (.func (.yield l) #[] #[])], argTypes := #[] } 0; invoke d.target d.args : Sem Next).run P w1
      = .ok (.enter g (first ++ #[.func (.yield l) #[] #[]] ++ captured)) w1 := by
    simp only [resolve, he, hx, Deferred.ofValue, pure_bind]
    simp only [invoke, callFunc, Sem.run_bind, run_program, Result.andThen_ok, hf, hn, Bool.false_eq_true, if_false, hb, Option.isNone_some, Sem.run_pure]
    simp [Frame.eval]
  have hap := ap_enter (P := P) (fr := { fr with todo := .inRangeFunc l :: m, defers := mark ++ fr.defers }) (cs := cs) hrun (by intro d r sv k hk; simp at hk)
  rw [← hap]
  simp [stepG, stepG.exec, hm, ht, hl]

theorem st_endRange {l : Nat} {r : Loop} {m : List Item} {cs : List Frame} (hm : fr.mode = .run) (ht : fr.todo = .endRangeFunc l :: m) (h : w.heap[l]? = some (.loop r)) (hs : r.state ≠ .busy) :
    step P (lone fr cs w) = .next (lone { fr with todo := (r.pending.map Item.code).toList ++ m } cs { w with heap := w.heap.setIfInBounds l (.loop { r with state := .exhausted }) }) :=
  step_lone_go (by simp [stepG, stepG.exec, hm, ht, run_endLoop (P := P) h hs])

theorem st_begin {l : Nat} {r : Loop} {m : List Item} {cs : List Frame} (hm : fr.mode = .run) (hr : fr.roundOf = some l) (ht : fr.todo = .beginRound :: m) (h : w.heap[l]? = some (.loop r)) (hs : r.state = .ready) :
    step P (lone fr cs w) = .next (lone { fr with todo := m } cs { w with heap := w.heap.setIfInBounds l (.loop { r with state := .busy }) }) := by
  refine step_lone_go ?_
  have hrun : (do fr.roundOf.elim (stuck "beginRound: no round") Instr.beginRound; pure .skip : Sem Next).run P w = .ok .skip { w with heap := w.heap.setIfInBounds l (.loop { r with state := .busy }) } := by
    simp [hr, run_beginRound (P := P) h hs]
  have hap := ap_skip (P := P) (fr := fr) (cs := cs) hrun
  have hfin : fr.finish undef = { fr with todo := m } := by unfold Frame.finish; rw [ht]
  rw [hfin] at hap
  rw [← hap]
  simp [stepG, stepG.exec, hm, ht]

theorem its_end {l : Nat} {m : List Item} (h : ItsR ρ (.endRangeFunc l :: k) m) : ∃ p m', m = .endRangeFunc p.blk :: m' ∧ ρ l = some p ∧ ItsR ρ k m' := by
  cases h with
  | cons a b => cases a with | endRange e => exact ⟨_, _, rfl, e, b⟩

theorem its_begin {m : List Item} (h : ItsR ρ (.beginRound :: k) m) : ∃ m', m = .beginRound :: m' ∧ ItsR ρ k m' := by
  cases h with
  | cons a b => cases a; exact ⟨_, rfl, b⟩

theorem Run.endRange {l : Nat} (R : Run P X env W0 f ρ lo s tm (.endRangeFunc l :: k) df as hp nx fr fs w) (h : endRange s tm df as hp nx k l (hp.get l) = .next s') : Goes P X env W0 f cs0 (lone fr (fs ++ cs0) w) s' := by
  obtain ⟨hi, ht⟩ := R.flat (by simp) (by simp)
  obtain ⟨p, m, hm, hp2, hk⟩ := its_end hi
  unfold Va.endRange at h
  split at h
  · rename_i r ho
    split at h
    · cases h
    · rename_i hb
      unfold putThen at h
      split at h
      · rename_i hp1 hput
        obtain ⟨hl, rfl⟩ := putH_some hput
        cases h
        obtain ⟨l', h1, h2, h3⟩ := R.inv.loop ho hp2 hl
        have hs : l'.state ≠ .busy := by
          rw [h2.state]
          intro e; rw [e] at hb; simp [isBusy] at hb
        have I' := h3 { r with state := .exhausted } { l' with state := .exhausted } ⟨rfl, h2.pending, h2.fn, h2.tm, h2.params, h2.assign, h2.body, h2.defers⟩
        have hne : ∀ b, b < lo → ρ b = none → ρ b = none ∧ (hp.set l (.loop { r with state := .exhausted })).get b = hp.get b :=
          fun b _ hn => ⟨hn, set_other (fun e => by subst e; rw [hp2] at hn; cases hn)⟩
        refine ⟨_, .one (st_endRange R.mode hm h1 hs), Run.sr ⟨I', R.low, R.st.of rfl rfl rfl rfl rfl, R.nd, .plain ?_ ht, R.stk.keep R.inv.zero (Rho.le_refl _) hne⟩⟩
        rw [h2.pending]
        cases r.pending with
        | none => exact hk
        | some c => exact .cons (.code c) hk
      · cases h
  · cases h

theorem Run.begin (R : Run P X env W0 f ρ lo s tm (.beginRound :: k) df as hp nx fr fs w) (h : stepBegin s tm df as hp nx k s.rnd = .next s') : Goes P X env W0 f cs0 (lone fr (fs ++ cs0) w) s' := by
  obtain ⟨hi, ht⟩ := R.flat (by simp) (by simp)
  obtain ⟨m, hm, hk⟩ := its_begin hi
  rcases roundR R with ⟨hn, _⟩ | ⟨l, p, hn, hp2, hr⟩
  · rw [hn] at h; cases h
  · rw [hn] at h
    simp only [stepBegin] at h
    unfold beginIt at h
    split at h
    · rename_i r ho
      split at h
      · rename_i hb
        unfold putThen at h
        split at h
        · rename_i hp1 hput
          obtain ⟨hl, rfl⟩ := putH_some hput
          cases h
          obtain ⟨l', h1, h2, h3⟩ := R.inv.loop ho hp2 hl
          have hs : l'.state = .ready := by
            rw [h2.state]
            generalize r.state = q at hb
            cases q <;> first | rfl | (simp [isReady] at hb)
          have I' := h3 { r with state := .busy } { l' with state := .busy } ⟨rfl, h2.pending, h2.fn, h2.tm, h2.params, h2.assign, h2.body, h2.defers⟩
          have hne : ∀ b, b < lo → ρ b = none → ρ b = none ∧ (hp.set l (.loop { r with state := .busy })).get b = hp.get b :=
            fun b _ hz => ⟨hz, set_other (fun e => by rw [e, hp2] at hz; cases hz)⟩
          exact ⟨_, .one (st_begin R.mode hr hm h1 hs), Run.sr ⟨I', R.low, R.st.of rfl rfl rfl rfl rfl, R.nd, .plain hk ht, R.stk.keep R.inv.zero (Rho.le_refl _) hne⟩⟩
        · cases h
      · cases h
    · cases h

/-- A loop's own block, as it is made. -/
theorem Inv.newLoop (I : Inv env W0 ρ hp nx w) {r : ALoop} {r' : Loop} (h : LoopR env ρ r r') :
    Inv env W0 (ρ.upd nx ⟨w.heap.size, 0, 0⟩) (hp.set nx (.loop r)) (nx + 1) { w with heap := w.heap.push (.loop r') } :=
  I.alloc (sz := 0) (I.fresh nx (Nat.le_refl _)) (fun c => Tr.get_set _ _ _ _) (Nat.lt_succ_self _) (Nat.le_succ _) rfl rfl rfl rfl (by simp only [OR]; exact h.mono (Rho.le_upd (I.fresh nx (Nat.le_refl _))))

theorem Run.rangeIn {x : Operand} {params : Array Tmp} {assign body : Code} {m : List Item} {g : FuncId} {first captured : List AV} {first' captured' : Array Value} {defers nx1 : Nat} {mark : List ADef} {mark' : List Deferred} {hp1 : Tr AO} {w1 : World} {σ : Rho} {dp : Nat}
    (E : EnvOk P X) (R : Run P X env W0 f ρ lo s tm (.code (.rangeFunc x params assign body) :: k) df as hp nx fr fs w) (hm : fr.todo = .code (.rangeFunc x params assign body) :: m) (hk : ItsR ρ k m) (ht : TmR env ρ s.nt tm fr.tmps)
    (hx : fr.eval x = .func (.func g) first' captured') (h1 : VRs env ρ first first'.toList) (h2 : VRs env ρ captured captured'.toList)
    (hσ : ρ.le σ) (I1 : Inv env W0 σ hp1 nx1 w1) (hn1 : nx ≤ nx1) (hkeep : ∀ b, b < nx → ρ b = none → σ b = none ∧ hp1.get b = hp.get b) (hd : ∃ p, σ defers = some p ∧ dp = p.blk) (hmark : DefsR env σ mark mark')
    (hl : (Instr.enterLoop fr.fn fr.tmps params assign body fr.roundOf).run P w = .ok (w1.heap.size, mark') { w1 with heap := w1.heap.push (.loop { state := .ready, pending := none, fn := fr.fn, tmps := fr.tmps, params := params, assign, body, defers := dp }) })
    (h : rangeIn P s tm df as k params.toList assign body g first captured (some (defers, mark, hp1, nx1)) = .next s') : Goes P X env W0 f cs0 (lone fr (fs ++ cs0) w) s' := by
  unfold Va.rangeIn at h
  simp only at h
  obtain ⟨a, he, rfl⟩ := nextO_some h
  obtain ⟨fn, c, hf, hb, _⟩ := enterA_some he
  have hL : LoopR env σ { state := .ready, pending := none, fn := s.fn, nt := s.nt, tm := tm, params := params.toList, assign, body, defers } { state := .ready, pending := none, fn := fr.fn, tmps := fr.tmps, params := params, assign, body, defers := dp } :=
    ⟨rfl, rfl, R.st.fn, ht.mono hσ, rfl, rfl, rfl, hd⟩
  have I2 := I1.newLoop hL
  have hf1 := I1.fresh nx1 (Nat.le_refl _)
  have hτ : σ.le (σ.upd nx1 ⟨w1.heap.size, 0, 0⟩) := Rho.le_upd hf1
  have hlow := R.low
  have hargs : VRs env (σ.upd nx1 ⟨w1.heap.size, 0, 0⟩) (first ++ (.func (.yield nx1) [] [] :: captured)) (first' ++ #[Value.func (.yield w1.heap.size) #[] #[]] ++ captured').toList := by
    simp only [Array.toList_append, List.append_assoc]
    refine ((h1.mono hσ).mono hτ).append (.cons (VR.func (a' := #[]) (b' := #[]) (FnR.yield (Rho.upd_same _ _ _)) VRs.nil VRs.nil) ((h2.mono hσ).mono hτ))
  obtain ⟨C, e1, e2, e3⟩ := cur_enter (X := X) (hp := hp1.set nx1 (.loop { state := .ready, pending := none, fn := s.fn, nt := s.nt, tm := tm, params := params.toList, assign, body, defers })) (lo := nx1 + 1) (hi := nx1 + 1) he hargs
  have hst := st_range (P := P) (cs := fs ++ cs0) R.mode hm hl hx hf hb (E.names g fn hf)
  refine ⟨_, .one hst, .mk (fs := { fr with todo := .inRangeFunc w1.heap.size :: m, defers := mark' ++ fr.defers } :: fs) I2 (Nat.le_refl _) C (.cons (lo' := lo) (by omega) ?_ ?_)⟩
  · refine ⟨⟨R.st.fn, R.st.kind, ?_, R.st.mode, ?_⟩, R.nd, by rw [e1], (fun e => by rw [e1] at e; cases e), fun _ => ?_⟩
    · exact ((R.st.mono hσ).mono hτ).rnd
    · exact (hmark.append (R.st.df.mono hσ)).mono hτ
    · exact .range (p := ⟨w1.heap.size, 0, 0⟩) (Rho.upd_same _ _ _) ((hk.mono hσ).mono hτ) ((ht.mono hσ).mono hτ)
  · refine R.stk.keep R.inv.zero (Rho.le_trans hσ hτ) (fun b hb hn => ?_)
    obtain ⟨q1, q2⟩ := hkeep b (by omega) hn
    refine ⟨?_, ?_⟩
    · unfold Rho.upd; rw [if_neg (by omega)]; exact q1
    · rw [set_other (by omega)]; exact q2

theorem Run.range {x : Operand} {params : Array Tmp} {assign body : Code} (E : EnvOk P X) (R : Run P X env W0 f ρ lo s tm (.code (.rangeFunc x params assign body) :: k) df as hp nx fr fs w)
    (h : stepRange P s tm df as hp nx k params.toList assign body (ev tm x) = .next s') : Goes P X env W0 f cs0 (lone fr (fs ++ cs0) w) s' := by
  obtain ⟨hi, ht⟩ := R.flat (by simp) (by simp)
  obtain ⟨m, hm, hk⟩ := its_code hi
  unfold stepRange at h
  split at h
  · rename_i g first captured hx
    have hv := ht.ev R.inv hx
    generalize he : fr.eval x = y at hv
    cases hv with
    | func hfn h1 h2 =>
      cases hfn
      rcases roundR R with ⟨hn, hr⟩ | ⟨l, p, hn, hp2, hr⟩
      · rw [hn] at h
        simp only [loopDefers] at h
        have hf := R.inv.fresh nx (Nat.le_refl _)
        have I1 : Inv env W0 (ρ.upd nx ⟨w.heap.size, 0, 0⟩) (hp.set nx (.deferred (some []))) (nx + 1) { w with heap := w.heap.push (.deferred (some [])) } :=
          R.inv.alloc (sz := 0) hf (fun c => Tr.get_set _ _ _ _) (Nat.lt_succ_self _) (Nat.le_succ _) rfl rfl rfl rfl (by simp only [OR]; exact .nil)
        refine R.rangeIn E hm hk ht he h1 h2 (Rho.le_upd hf) I1 (Nat.le_succ _) (fun b hb hn => ⟨?_, set_other (by omega)⟩) ⟨_, Rho.upd_same _ _ _, rfl⟩ (.cons (.collected (Rho.upd_same _ _ _)) .nil) ?_ h
        · unfold Rho.upd; rw [if_neg (by omega)]; exact hn
        · rw [hr]; simp [Instr.enterLoop]; rfl
      · rw [hn] at h
        simp only [loopDefers] at h
        split at h
        · rename_i r ho
          obtain ⟨ob, g1, g2⟩ := R.inv.obj l _ p ho hp2 rfl
          cases ob <;> simp only [OR] at g2
          rename_i r'
          obtain ⟨q, q1, q2⟩ := g2.defers
          refine R.rangeIn E hm hk ht he h1 h2 (Rho.le_refl _) R.inv (Nat.le_refl _) (fun b hb hn => ⟨hn, rfl⟩) ⟨q, q1, rfl⟩ .nil ?_ h
          rw [hr]; simp [Instr.enterLoop, run_getLoop (P := P) g1, q2]
        · cases h
  · cases h

end Va

