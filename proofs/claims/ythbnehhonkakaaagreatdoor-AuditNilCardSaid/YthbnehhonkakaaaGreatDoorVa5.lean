/-
  VA, an abstract machine for fixed calls, and its soundness: part 5 of 7.
-/
import Derived.Test.YthbnehhonkakaaaGreatDoorVa4
import Derived.Lib.Bytealg
/-
  VA: built-in functions, functions without a Go body, calls.
-/
namespace Va
open Go Go.RowKit

variable {P : Program} {env : Nat → Value} {W0 : World} {ρ : Rho} {hp : Tr AO} {nx : Nat} {w : World}

theorem chg_freeze {k : Nat} {cc : Array Value} {e : Nat} {lo hi off n : Nat} (h : w.heap[k]? = some (.cells cc e (lo, hi))) (hn : n ≠ 0) :
    Chg k (.cells cc e (if lo == hi then (off, off + n) else (min lo off, max hi (off + n)))) w (w.freeze ⟨k, off, none⟩ n) := by
  unfold World.freeze
  rw [if_neg hn]
  refine ⟨?_, fun j hj => ?_, by simp, rfl, rfl, rfl⟩
  · simp [Array.getElem?_modify, h]
  · simp [Array.getElem?_modify, Ne.symm hj]

theorem liesAt_one {e : TypeId} (hc : P.cellsOf e = 1) (count off n : Nat) (hn : off + n ≤ count) : liesAt P P.depth e count off e n = true := by
  have hd : P.depth = (2 * (P.types.size + Made.depth) + 1) + 1 := rfl
  rw [hd]
  simp only [liesAt, Bool.or_eq_true]
  left
  rw [hd]
  simp [rowAt, hc, hn, sameLayout, Nat.mod_one]

theorem unsafeString_arg {α : Type _} {q : Option Addr} {y : Value} (h1 : Option Addr → Value → α) (h2 : Array Value → α) : Builtin.unsafeString_.match_3 (fun _ => α) #[.pointer q, y] h1 h2 = h1 q y := rfl

theorem unsafeStr_sound (I : Inv env W0 ρ hp nx w) {l : List TypeId} {pt ty : TypeId} {p0 : Option (Nat × Nat)} {k : IntKind} {n : Nat} {p' : Value} {r : ARes} (hx : VR env ρ (.ptr p0) p')
    (h : unsafeStr0 P pt p0 n hp nx = some r) : ∃ v hp' nx', r = .val v hp' nx' ∧ GoodV P env W0 ρ hp nx w v hp' nx' (Builtin.unsafeString_ (pt :: l).toArray ty #[p', .int k (Int.ofNat n)]) := by
  have hmax : IntKind.i64.max = 9223372036854775807 := rfl
  unfold unsafeStr0 at h
  split at h
  · rename_i hn
    have := Nat.eq_of_beq_eq_true hn
    subst this
    cases h
    refine ⟨_, _, _, rfl, GoodV.of_comes I ⟨.string .empty, ?_, VR.str .empty⟩⟩
    have hf : ∀ q : Option Addr, (Builtin.unsafeString_ (pt :: l).toArray ty #[.pointer q, .int k (Int.ofNat 0)]).run P w = .ok (.string .empty) w := by
      intro q
      cases q with
      | none =>
        delta Builtin.unsafeString_
        conv => lhs; arg 2; whnf
        simp [Sem.run]
      | some a =>
        delta Builtin.unsafeString_
        conv => lhs; arg 2; whnf
        simp [Sem.run]
    cases hx <;> exact hf _
  · rename_i hn
    have hn0 : n ≠ 0 := by intro e; subst e; simp at hn
    unfold unsafeStrA at h
    split at h
    · rename_i e b off hu
      split at h
      · rename_i c e' ex fz hg
        split at h
        · rename_i bs hcond ht
          simp only [Bool.and_eq_true, Nat.beq_eq, Nat.ble_eq] at hcond
          obtain ⟨⟨⟨⟨⟨rfl, hu8⟩, hc1⟩, hbig⟩, _⟩, hfz0⟩ := hcond
          split at h
          · rename_i s hp2 hb hput
            cases h
            obtain ⟨hl, rfl⟩ := putH_some hput
            cases hx with
            | ptr hr =>
              rename_i p
              obtain ⟨cc, fz', g1, g2, g3, g4, g5, g6⟩ := shape_of I hg hr
              have hload : loadC hp b off n = some bs := by simp [loadC, hg, ht]
              obtain ⟨ws, l1, l2, l3⟩ := loadC_sound I hload hr
              obtain ⟨lb, rfl, rfl⟩ := bytesBack_sound l2 hb
              have hlen : lb.length = n := by simpa using l1
              obtain ⟨_, hcl⟩ := takeN_some _ _ _ ht
              rw [dropN_eq] at hcl
              simp only [List.length_drop] at hcl
              have hne : c ≠ [] := by intro e; subst e; simp at hcl; omega
              have hroom := cells_room g4 g2 hne
              have hlb := Lib.run_loadBytes (P := P) w lb ⟨p.blk, p.base + off, none⟩ .empty (fun j x hj => l3 j _ (by simp [hj]))
              rw [hlen] at hlb
              have hlies := liesAt_one (P := P) hc1 (p.size / P.cellsOf e) (p.base + off) n (by rw [hc1]; simp; omega)
              obtain ⟨lo, hi⟩ := fz'
              have hchg := chg_freeze (off := p.base + off) (n := n) g1 hn0
              have hor : OR env ρ p (.cells c e ex (mergeFz fz off n)) (.cells cc e (if lo == hi then (p.base + off, p.base + off + n) else (min lo (p.base + off), max hi (p.base + off + n)))) := by
                simp only [OR]
                refine ⟨trivial, g2, g3, g4, ?_⟩
                unfold mergeFz
                obtain ⟨f1, f2⟩ := fz
                simp only at hfz0
                rcases g5 with h | ⟨h, _⟩ | ⟨h, h3, h4⟩
                · simp only at h; subst h
                  simp only [beq_self_eq_true, if_true]
                  right; right
                  split
                  · exact ⟨by simp; omega, by simp, by simp; omega⟩
                  · exact ⟨by simp; omega, by simp; omega, by simp; omega⟩
                · cases h; simp at hfz0
                · simp only at h h3 h4
                  have hne : (lo == hi) = false := by simp; omega
                  simp only [hne, Bool.false_eq_true, if_false]
                  right; right
                  have hlt : ¬ (Nat.ble f2 f1 = true) := by rw [Nat.ble_eq]; omega
                  rw [if_neg hlt]
                  exact ⟨by simp; omega, by simp; omega, by simp; omega⟩
              refine ⟨_, _, _, rfl, .string ⟨lb.toArray⟩, w.freeze ⟨p.blk, p.base + off, none⟩ n, ρ, ?_, Rho.le_refl _, ?_, I.write hg rfl hr hl hchg hor, Nat.le_refl _, fun d _ hd => ⟨hd, ?_⟩⟩
              · have h63 : ¬ (9223372036854775807 : Int) < (n : Int) := by omega
                have hneg : ¬ (n : Int) < 0 := by omega
                delta Builtin.unsafeString_
                rw [unsafeString_arg]
                simp [asInt, asIntOf, hmax, h63, hneg, hn0, variablesAt, g6, elemOf, run_underlying hu, hlies, hlb]
              · have : lb.map UInt8.toNat = bytesOfA ⟨lb.toArray⟩ := by simp [bytesOfA]
                rw [this]; exact .str _
              · rw [Tr.get_set, if_neg]; intro e; subst e; rw [hr] at hd; cases hd
          · cases h
        · cases h
      · cases h
    · cases h

theorem clearA_sound (henv : ∀ i, (env i).oneCell' = true) (I : Inv env W0 ρ hp nx w) {l : List TypeId} {t ty : TypeId} {x : AV} {x' : Value} {hp' : Tr AO} (hx : VR env ρ x x') (h : clearA P t x hp = some hp') :
    GoodV P env W0 ρ hp nx w undefA hp' nx (Builtin.clear_ (t :: l).toArray ty #[x']) := by
  have triv : ∀ {elem}, P.underlying t = some (.slice elem) → ∀ v, (∃ n c, v = .slice none n c) ∨ (∃ a c, v = .slice a 0 c) → (Builtin.clear_ (t :: l).toArray ty #[v]).run P w = .ok undef w := by
    intro elem hu v hv
    unfold Builtin.clear_
    simp only [List.getElem?_toArray, List.getElem?_cons_zero]
    simp only [Sem.run_bind, run_underlying hu, Result.andThen_ok]
    rcases hv with ⟨n, c, rfl⟩ | ⟨a, c, rfl⟩
    · rfl
    · cases a <;> rfl
  unfold clearA at h
  split at h
  · rename_i hu
    cases h
    cases hx
    exact GoodV.of_comes I ⟨undef, triv hu _ (.inl ⟨_, _, rfl⟩), .tuple .nil⟩
  · rename_i elem b off n c ex sz hu
    split at h
    · rename_i hn
      have := Nat.eq_of_beq_eq_true hn
      subst this
      cases h
      cases hx <;> exact GoodV.of_comes I ⟨undef, triv hu _ (.inr ⟨_, _, rfl⟩), .tuple .nil⟩
    · rename_i z size hn hz hs
      split at h
      · rename_i hc
        simp only [Bool.and_eq_true, Nat.beq_eq, Nat.ble_eq] at hc
        obtain ⟨⟨rfl, hzl⟩, hnc⟩ := hc
        obtain ⟨i, z', _, _, h3, h4⟩ := zeroA_sound (env := env) (ρ := ρ) hz
        have hzc := h3.cells (fun i => env_cells (henv i))
        have hzs : z'.cells.size = sz := by have := hzc.length; rw [hzl] at this; simpa using this.symm
        have hn0 : n ≠ 0 := by intro e; subst e; simp at hn
        have hrep := repeatL_rel (n := n) (size := sz) hzc hzl z'.cells (.inr rfl)
        cases hx with
        | slice e0 e1 e2 e3 =>
          rename_i c' p
          obtain ⟨w', s1, s2, s3⟩ := storeC_sound (P := P) henv I h e0 hrep (fun _ => .inr (by
            rw [repeatL_len, hzl]
            have : n * sz ≤ c' * sz := Nat.mul_le_mul_right _ (by omega)
            omega))
          refine ⟨undef, w', ρ, ?_, Rho.le_refl _, .tuple .nil, s2, Nat.le_refl _, fun b _ hn => ⟨hn, s3 b hn⟩⟩
          unfold Builtin.clear_
          simp only [List.getElem?_toArray, List.getElem?_cons_zero]
          simp only [Sem.run_bind, run_underlying hu, Result.andThen_ok]
          obtain ⟨q, rfl⟩ : ∃ q, n = q + 1 := ⟨n - 1, by omega⟩
          simp only [h4, Result.andThen_ok, Builtin.zeroCells, hzs]
          rw [hzs] at s1
          rw [s1]; rfl
        | sliceAny e0 => exact absurd rfl hn0
      · cases h
    · cases h
  · cases h

theorem minmax_sound {k : IntKind} {a b : Int} {ts : Array TypeId} {ty : TypeId} {x' y' : Value} {j : IntKind} (hx : VR env ρ (.int k a) x') (hy : VR env ρ (.int j b) y') :
    Comes1 P env ρ w (.int k (if iLt b a then b else a)) (Builtin.min_ ts ty #[x', y']) ∧ Comes1 P env ρ w (.int k (if iLt a b then b else a)) (Builtin.max_ ts ty #[x', y']) := by
  cases hx; cases hy
  refine ⟨⟨_, ?_, .int _ _⟩, ⟨_, ?_, .int _ _⟩⟩
  · simp [Builtin.min_, Builtin.min2, iLt_eq]
  · simp [Builtin.max_, Builtin.max2, iLt_eq]

end Va

/-
  VA: an operation as a whole.
-/
namespace Va
open Go Go.RowKit

variable {P : Program} {env : Nat → Value} {W0 : World} {ρ : Rho} {hp : Tr AO} {nx : Nat} {w : World} {X : Nat → Option XK}

/-- What a function without a Go body does. -/
inductive XSem (P : Program) (fn : Func) : XK → (Array Value → Sem Value) → Prop
  | noEscape : XSem P fn .noEscape Extern.AbiNoEscape.same
  | clone : XSem P fn .clone Extern.MapsClone.clone
  | indexByteString : XSem P fn .indexByteString Extern.BytealgIndexByte.indexByte
  | countString : XSem P fn .countString Extern.BytealgCount.count
  | cmpString : XSem P fn .cmpString Extern.BytealgCompare.compare
  | makeNoZero {t e : TypeId} : fn.resultTypes[0]? = some t → P.underlying t = some (.slice e) → XSem P fn (.makeNoZero e) (Extern.BytealgMakeNoZero.makeNoZero fn.params fn.resultTypes)

/-- What is asked of the program. -/
structure EnvOk (P : Program) (X : Nat → Option XK) : Prop where
  mixed : P.follows .mixedOrders = true
  names : ∀ (f : Nat) (fn : Func), P.funcs[f]? = some fn → (fn.name == "runtime.NumGoroutine") = false
  ext : ∀ (f : Nat) (k : XK) (fn : Func), X f = some k → P.funcs[f]? = some fn → fn.body = none → Extern.findNext fn = none ∧ ∃ e, Extern.find fn = some e ∧ XSem P fn k e

def GoodN (P : Program) (env : Nat → Value) (W0 : World) (ρ : Rho) (hp : Tr AO) (nx : Nat) (w : World) (v : AV) (hp' : Tr AO) (nx' : Nat) (s : Sem Next) : Prop :=
  ∃ v' w' σ, (s.run P w = .ok (.value v') w' ∨ (s.run P w = .ok .skip w' ∧ v' = undef)) ∧ ρ.le σ ∧ VR env σ v v' ∧ Inv env W0 σ hp' nx' w' ∧ nx ≤ nx' ∧ ∀ b, b < nx → ρ b = none → σ b = none ∧ hp'.get b = hp.get b

inductive OpOk (P : Program) (env : Nat → Value) (W0 : World) (ρ : Rho) (hp : Tr AO) (nx : Nat) (w : World) : ARes → Sem Next → Prop
  | val {v : AV} {hp' : Tr AO} {nx' : Nat} {s : Sem Next} : GoodN P env W0 ρ hp nx w v hp' nx' s → OpOk P env W0 ρ hp nx w (.val v hp' nx') s
  | enter {f : FuncId} {args : List AV} {args' : Array Value} {s : Sem Next} : s.run P w = .ok (.enter f args') w → VRs env ρ args args'.toList → OpOk P env W0 ρ hp nx w (.enter f args) s
  | round {l : Nat} {args : List AV} {args' : Array Value} {p : Pl} {s : Sem Next} : ρ l = some p → VRs env ρ args args'.toList → s.run P w = (Instr.yield p.blk args').run P w → OpOk P env W0 ρ hp nx w (.round l args) s
  | defer {d : ADef} {d' : Deferred} {s : Sem Next} : s.run P w = .ok (.defer d') w → DefR env ρ d d' → OpOk P env W0 ρ hp nx w (.defer d) s
  | recover {s : Sem Next} : s.run P w = .ok .recover w → OpOk P env W0 ρ hp nx w .recover s

theorem OpOk.ofV {v : AV} {hp' : Tr AO} {nx' : Nat} {s : Sem Value} (h : GoodV P env W0 ρ hp nx w v hp' nx' s) : OpOk P env W0 ρ hp nx w (.val v hp' nx') (do pure (.value (← s))) := by
  obtain ⟨v', w', σ, h1, h2⟩ := h
  exact .val ⟨v', w', σ, .inl (by simp [h1]), h2⟩

theorem OpOk.ofU {hp' : Tr AO} {s : Sem Unit} (h : GoodU P env W0 ρ hp nx w hp' s) : OpOk P env W0 ρ hp nx w (.val undefA hp' nx) (do s; pure .skip) := by
  obtain ⟨w', h1, h2, h3⟩ := h
  exact .val ⟨undef, w', ρ, .inr ⟨by simp [h1], rfl⟩, Rho.le_refl _, .tuple .nil, h2, Nat.le_refl _, fun b _ hn => ⟨hn, h3 b hn⟩⟩

theorem OpOk.of_eq {r : ARes} {s t : Sem Next} (h : OpOk P env W0 ρ hp nx w r s) (e : t.run P w = s.run P w) : OpOk P env W0 ρ hp nx w r t := by
  cases h with
  | val h => obtain ⟨v', w', σ, h1, h2⟩ := h; exact .val ⟨v', w', σ, by rw [e]; exact h1, h2⟩
  | enter h1 h2 => exact .enter (by rw [e]; exact h1) h2
  | round h1 h2 h3 => exact .round h1 h2 (by rw [e]; exact h3)
  | defer h1 h2 => exact .defer (by rw [e]; exact h1) h2
  | recover h1 => exact .recover (by rw [e]; exact h1)

theorem valR_ok (I : Inv env W0 ρ hp nx w) {o : Option AV} {r : ARes} {s : Sem Value} (h : valR o hp nx = some r) (hc : ∀ v, o = some v → Comes1 P env ρ w v s) : OpOk P env W0 ρ hp nx w r (do pure (.value (← s))) := by
  unfold valR at h
  split at h
  · cases h; exact .ofV (GoodV.of_comes I (hc _ rfl))
  · cases h

theorem unitR_ok {o : Option (Tr AO)} {r : ARes} {s : Sem Unit} (h : unitR o nx = some r) (hc : ∀ h', o = some h' → GoodU P env W0 ρ hp nx w h' s) : OpOk P env W0 ρ hp nx w r (do s; pure .skip) := by
  unfold unitR at h
  split at h
  · cases h; exact .ofU (hc _ rfl)
  · cases h

theorem alloc_ok (I : Inv env W0 ρ hp nx w) {r : ARes} {s : Sem Value} (h : ∃ v o, r = .val (v nx) (hp.set nx o) (nx + 1) ∧ AllocOut P env ρ w v o s) : OpOk P env W0 ρ hp nx w r (do pure (.value (← s))) := by
  obtain ⟨v, o, rfl, ha⟩ := h
  exact .ofV (GoodV.of_alloc I ha)

theorem VRs.two {a b : AV} {l : List AV} {args : Array Value} (h : VRs env ρ (a :: b :: l) args.toList) : ∃ a' b' l', args = #[a', b'] ++ l' ∧ VR env ρ a a' ∧ VR env ρ b b' ∧ VRs env ρ l l'.toList := by
  obtain ⟨l0⟩ := args
  cases h with
  | cons r s => cases s with
    | cons r2 s2 => exact ⟨_, _, ⟨_⟩, by simp, r, r2, s2⟩

theorem VRs.two' {a b : AV} {args : Array Value} (h : VRs env ρ [a, b] args.toList) : ∃ a' b', args = #[a', b'] ∧ VR env ρ a a' ∧ VR env ρ b b' := by
  obtain ⟨l0⟩ := args
  cases h with
  | cons r s => cases s with
    | cons r2 s2 => cases s2; exact ⟨_, _, rfl, r, r2⟩

theorem VRs.one' {a : AV} {args : Array Value} (h : VRs env ρ [a] args.toList) : ∃ a', args = #[a'] ∧ VR env ρ a a' := by
  obtain ⟨l0⟩ := args
  cases h with
  | cons r s => cases s; exact ⟨_, rfl, r⟩

theorem append_ok (henv : ∀ i, (env i).oneCell' = true) (I : Inv env W0 ρ hp nx w) {l : List TypeId} {s x : AV} {s' x' : Value} {ty : TypeId} {r : ARes} (hs : VR env ρ s s') (hx : VR env ρ x x') (h : appendA P l s x hp nx = some r) :
    ∃ v hp' nx', r = .val v hp' nx' ∧ GoodV P env W0 ρ hp nx w v hp' nx' (Builtin.append_ l.toArray ty #[s', x']) := by
  unfold appendA at h
  split at h
  · rename_i st xt rest base n cap ex sz
    split at h
    · rename_i elem xd hst hxt
      split at h
      · rename_i i hi
        split at h
        · rename_i hc
          simp only [Bool.and_eq_true, Bool.or_eq_true, Bool.not_eq_true'] at hc
          have hb : i.bytes ≠ 0 := by intro e; rw [e] at hc; simp at hc
          have hsz : base = none ∨ sz = i.size := hc.1.elim (fun e => .inl (by simpa using e)) (fun e => .inr (Nat.eq_of_beq_eq_true e))
          obtain ⟨base', c', v, hp', nx', m, rfl, hm, rfl, hg⟩ := appendTo_sound henv I hi hb hsz hs hx h
          refine ⟨v, hp', nx', rfl, ?_⟩
          apply hg
          cases hxd : isIntD xd with
          | false =>
            exact append_other hst hxt hi hxd (lenA_sound hx (addLen_other hm hxd)) ty
          | true =>
            obtain ⟨rfl, hmb⟩ := addLen_int hx hm hxd
            cases xd <;> simp only [isIntD, Bool.false_eq_true] at hxd
            exact append_int hst hxt hi hmb hb ty
        · cases h
      · cases h
    · cases h
  · cases h

theorem builtinA_sound (henv : ∀ i, (env i).oneCell' = true) (I : Inv env W0 ρ hp nx w) {b : Builtin} {ats : Array TypeId} {ty : TypeId} {cs : Array Bool} {args : List AV} {args' : Array Value} {r : ARes}
    (ha : VRs env ρ args args'.toList) (h : builtinA P b ats.toList args hp nx = some r) : OpOk P env W0 ρ hp nx w r (builtin b ats ty cs args') := by
  unfold builtinA at h
  split at h
  · rename_i x t l hl
    obtain ⟨x', rfl, hx⟩ := ha.one'
    rw [show ats = (t :: l).toArray by rw [← hl]]
    exact valR_ok I h fun v hv => lenOfA_sound I hx hv
  · rename_i x t l hl
    obtain ⟨x', rfl, hx⟩ := ha.one'
    rw [show ats = (t :: l).toArray by rw [← hl]]
    exact valR_ok I h fun v hv => capOfA_sound hx hv
  · rename_i s x
    obtain ⟨s', x', rfl, hs, hx⟩ := ha.two'
    obtain ⟨v, hp', nx', rfl, hg⟩ := append_ok (ty := ty) henv I hs hx h
    exact .ofV (by simpa using hg)
  · rename_i base n c ex sz x t l hl
    obtain ⟨s', x', rfl, hs, hx⟩ := ha.two'
    rw [show ats = (t :: l).toArray by rw [← hl]]
    obtain ⟨v, hp', nx', rfl, hg⟩ := copyA_sound (l := l) (ty := ty) henv I hs hx h
    exact .ofV hg
  · rename_i x t l hl
    obtain ⟨x', rfl, hx⟩ := ha.one'
    rw [show ats = (t :: l).toArray by rw [← hl]]
    unfold unitR at h
    split at h
    · rename_i h' hh
      cases h
      exact .ofV (clearA_sound henv I hx hh)
    · cases h
  · rename_i m k t l hl
    obtain ⟨m', k', rfl, hm, hk⟩ := ha.two'
    rw [show ats = (t :: l).toArray by rw [← hl]]
    unfold unitR at h
    split at h
    · rename_i h' hh
      cases h
      exact .ofV (deleteA_sound I hm hk hh)
    · cases h
  · obtain ⟨x', y', rfl, hx, hy⟩ := ha.two'
    cases h
    exact .ofV (GoodV.of_comes I (minmax_sound hx hy).1)
  · obtain ⟨x', y', rfl, hx, hy⟩ := ha.two'
    cases h
    exact .ofV (GoodV.of_comes I (minmax_sound hx hy).2)
  · cases h
    exact .recover rfl
  · rename_i a n c ex sz
    obtain ⟨x', rfl, hx⟩ := ha.one'
    split at h
    · cases h
    · rename_i hc
      cases h
      have hc0 : c ≠ 0 := by intro e; subst e; simp at hc
      cases hx with
      | slice e0 e1 e2 e3 =>
        exact .ofV (GoodV.of_comes I ⟨_, Lib.run_unsafeSliceData_row w _ _ _ _ _ (by omega), .ptr e0⟩)
      | sliceAny e0 => exact absurd rfl hc0
  · rename_i p k n pt l hl
    obtain ⟨x', y', rfl, hx, hy⟩ := ha.two'
    rw [show ats = (pt :: l).toArray by rw [← hl]]
    cases hy
    obtain ⟨v, hp', nx', rfl, hg⟩ := unsafeStr_sound (l := l) (ty := ty) I hx h
    exact .ofV hg
  · cases h

theorem digits_size : ∀ (n t : Nat) (acc : Array Value), (Extern.BytealgMakeNoZero.digits n t acc).size = acc.size + n
  | 0, _, acc => rfl
  | n + 1, t, acc => by simp only [Extern.BytealgMakeNoZero.digits, digits_size n, Array.size_push]; omega

theorem byte_beq {b : UInt8} {c : Nat} (hc : c ≤ 255) : (b == (Int.ofNat c).toNat.toUInt8) = Nat.beq b.toNat c := by
  have h1 : (Int.ofNat c).toNat.toUInt8.toNat = c := by
    rw [show (Int.ofNat c).toNat = c from rfl]
    exact Nat.mod_eq_of_lt (by omega)
  cases hb : Nat.beq b.toNat c with
  | true =>
    have := Nat.eq_of_beq_eq_true hb
    have e : b = (Int.ofNat c).toNat.toUInt8 := UInt8.toNat_inj.1 (this.trans h1.symm)
    rw [beq_iff_eq]; exact e
  | false =>
    have := Nat.ne_of_beq_eq_false hb
    rw [beq_eq_false_iff_ne]
    intro e
    rw [e, h1] at this
    exact this rfl

theorem idxByte_eq {c : Nat} (hc : c ≤ 255) : ∀ (l : List UInt8) (i : Nat), idxByte (l.map UInt8.toNat) c i = if Lib.indexByte l (Int.ofNat c).toNat.toUInt8 = -1 then -1 else (i : Int) + Lib.indexByte l (Int.ofNat c).toNat.toUInt8
  | [], i => by simp [idxByte, Lib.indexByte]
  | b :: l, i => by
    have ih := idxByte_eq hc l (i + 1)
    have hge := Lib.indexByte_ge l (Int.ofNat c).toNat.toUInt8
    simp only [List.map_cons, idxByte, Lib.indexByte, byte_beq hc]
    cases Nat.beq b.toNat c with
    | true => simp
    | false =>
      simp only [Bool.false_eq_true, if_false, ih, beq_iff_eq]
      generalize Lib.indexByte l (Int.ofNat c).toNat.toUInt8 = q at hge
      by_cases h : q = -1
      · rw [if_pos h, if_pos h, if_pos rfl]
      · rw [if_neg h, if_neg h, if_neg (by omega)]
        push_cast
        omega

theorem cntByte_eq {c : Nat} (hc : c ≤ 255) : ∀ (l : List UInt8) (n : Nat), cntByte (l.map UInt8.toNat) c n = n + Lib.countByte l (Int.ofNat c).toNat.toUInt8
  | [], n => by simp [cntByte, Lib.countByte]
  | b :: l, n => by
    simp only [List.map_cons, cntByte, cntByte_eq hc l, Lib.countByte, List.count_cons, byte_beq hc]
    cases Nat.beq b.toNat c <;> simp <;> omega

theorem compare_eq : ∀ (a b : List UInt8), Lib.compareBytes a b = if strLt (a.map UInt8.toNat) (b.map UInt8.toNat) then -1 else if strEq (a.map UInt8.toNat) (b.map UInt8.toNat) then 0 else 1
  | [], [] => by simp [Lib.compareBytes, strLt, strEq]
  | [], _ :: _ => by simp [Lib.compareBytes, strLt]
  | _ :: _, [] => by simp [Lib.compareBytes, strLt, strEq]
  | a :: l, b :: r => by
    simp only [Lib.compareBytes, List.map_cons, strLt, strEq, compare_eq l r]
    have h1 : (a < b) ↔ a.toNat < b.toNat := UInt8.lt_iff_toNat_lt
    have h2 : (b < a) ↔ b.toNat < a.toNat := UInt8.lt_iff_toNat_lt
    rcases Nat.lt_trichotomy a.toNat b.toNat with h | h | h
    · rw [if_pos (h1.2 h)]
      simp [Nat.blt_eq, h]
    · rw [if_neg (by rw [h1]; omega), if_neg (by rw [h2]; omega)]
      have hb : Nat.blt a.toNat b.toNat = false := by
        cases hx : Nat.blt a.toNat b.toNat with
        | false => rfl
        | true => rw [Nat.blt_eq] at hx; omega
      simp [h]
    · rw [if_neg (by rw [h1]; omega), if_pos (h2.2 h)]
      have hb : Nat.blt a.toNat b.toNat = false := by
        cases hx : Nat.blt a.toNat b.toNat with
        | false => rfl
        | true => rw [Nat.blt_eq] at hx; omega
      have hb2 : Nat.beq a.toNat b.toNat = false := by
        cases hx : Nat.beq a.toNat b.toNat with
        | false => rfl
        | true => have := Nat.eq_of_beq_eq_true hx; omega
      simp [hb, hb2]

theorem makeNoZero_arg {α : Type _} {n : Int} (h1 : Int → α) (h2 : Array Value → α) : Extern.BytealgMakeNoZero.makeNoZero.match_3 (fun _ => α) #[.int .i64 n] h1 h2 = h1 n := rfl

theorem externA_sound (I : Inv env W0 ρ hp nx w) {fn : Func} {k : XK} {e : Array Value → Sem Value} {args : List AV} {args' : Array Value} {r : ARes} (hk : XSem P fn k e) (ha : VRs env ρ args args'.toList) (h : externA k args hp nx = some r) :
    ∃ v hp' nx', r = .val v hp' nx' ∧ GoodV P env W0 ρ hp nx w v hp' nx' (e args') := by
  cases hk with
  | noEscape =>
    cases args with
    | nil => simp [externA] at h
    | cons x l => cases l with
      | cons y l => simp [externA] at h
      | nil =>
        obtain ⟨x', rfl, hx⟩ := ha.one'
        simp only [externA, Option.some.injEq] at h
        subst h
        exact ⟨_, _, _, rfl, GoodV.of_comes I ⟨x', rfl, hx⟩⟩
  | clone =>
    cases args with
    | nil => simp [externA] at h
    | cons x l => cases l with
      | cons y l => cases x <;> simp [externA] at h
      | nil =>
        obtain ⟨x', rfl, hx⟩ := ha.one'
        cases hx <;> first | (simp only [externA, reduceCtorEq] at h; done) | skip
        rename_i t m m' hm
        cases hm <;> first | (simp only [externA, reduceCtorEq] at h; done) | skip
        rename_i q p hr
        simp only [externA] at h
        split at h
        · rename_i es clock hg
          simp only [newA, Option.some.injEq] at h
          subst h
          obtain ⟨es', g1, g2, _⟩ := getMap_sound I hg hr
          refine ⟨_, _, _, rfl, GoodV.of_alloc (v := fun a => .iface t (.map (some a))) I ⟨.map es' clock, .iface t (.map (some w.heap.size)), { w with heap := w.heap.push (.map es' clock) }, 0, ?_, rfl, rfl, rfl, rfl, fun b σ hσ hb => ⟨.iface t (VR.map (p := ⟨w.heap.size, 0, 0⟩) hb), ?_⟩⟩⟩
          · delta Extern.MapsClone.clone
            conv => lhs; arg 2; whnf
            simp only [Sem.run, g1]
            rfl
          · simp only [OR]; exact ⟨trivial, g2.mono hσ⟩
        · cases h
  | indexByteString =>
    rcases args with _ | ⟨x, _ | ⟨y, _ | ⟨z, l⟩⟩⟩
    · simp [externA] at h
    · cases x <;> simp [externA] at h
    · obtain ⟨x', y', rfl, hx, hy⟩ := VRs.two' ha
      cases x <;> cases y <;> first | (simp only [externA, reduceCtorEq] at h; done) | skip
      rename_i s k n
      cases k <;> cases n <;> first | (simp only [externA, reduceCtorEq] at h; done) | skip
      rename_i c
      cases hx with
      | str s =>
      cases hy
      simp only [externA] at h
      split at h
      · rename_i hc
        cases h
        refine ⟨_, _, _, rfl, GoodV.of_comes I ⟨_, Lib.run_indexByteString s _ w, ?_⟩⟩
        have := idxByte_eq (Nat.le_of_ble_eq_true hc) s.data.toList 0
        rw [show bytesOfA s = s.data.toList.map UInt8.toNat from rfl, this]
        have hge := Lib.indexByte_ge s.data.toList (Int.ofNat c).toNat.toUInt8
        split
        · rename_i e; rw [e]; exact .int _ _
        · simp only [Int.ofNat_eq_natCast, Int.natCast_zero, Int.zero_add]; exact .int _ _
      · cases h
    · cases x <;> cases y <;> simp [externA] at h
  | countString =>
    rcases args with _ | ⟨x, _ | ⟨y, _ | ⟨z, l⟩⟩⟩
    · simp [externA] at h
    · cases x <;> simp [externA] at h
    · obtain ⟨x', y', rfl, hx, hy⟩ := VRs.two' ha
      cases x <;> cases y <;> first | (simp only [externA, reduceCtorEq] at h; done) | skip
      rename_i s k n
      cases k <;> cases n <;> first | (simp only [externA, reduceCtorEq] at h; done) | skip
      rename_i c
      cases hx with
      | str s =>
      cases hy
      simp only [externA] at h
      split at h
      · rename_i hc
        cases h
        refine ⟨_, _, _, rfl, GoodV.of_comes I ⟨_, Lib.run_countString s _ w, ?_⟩⟩
        have := cntByte_eq (Nat.le_of_ble_eq_true hc) s.data.toList 0
        rw [show bytesOfA s = s.data.toList.map UInt8.toNat from rfl, this, Nat.zero_add]
        exact .int _ _
      · cases h
    · cases x <;> cases y <;> simp [externA] at h
  | cmpString =>
    rcases args with _ | ⟨x, _ | ⟨y, _ | ⟨z, l⟩⟩⟩
    · simp [externA] at h
    · cases x <;> simp [externA] at h
    · obtain ⟨x', y', rfl, hx, hy⟩ := VRs.two' ha
      cases x <;> cases y <;> first | (simp only [externA, reduceCtorEq] at h; done) | skip
      cases hx with
      | str a =>
      cases hy with
      | str b =>
      simp only [externA, Option.some.injEq] at h
      subst h
      refine ⟨_, _, _, rfl, GoodV.of_comes I ⟨_, Lib.run_compareString a b w, ?_⟩⟩
      rw [compare_eq]
      exact .int _ _
    · cases x <;> cases y <;> simp [externA] at h
  | makeNoZero ht hu =>
    rename_i t elem
    cases args with
    | nil => simp [externA] at h
    | cons x l => cases l with
      | cons y l => cases x <;> simp [externA] at h
      | nil =>
        obtain ⟨x', rfl, hx⟩ := ha.one'
        cases hx <;> first | (simp only [externA, reduceCtorEq] at h; done) | skip
        rename_i k n
        cases k <;> first | (simp only [externA, reduceCtorEq] at h; done) | skip
        cases n with
        | negSucc n => simp only [externA, reduceCtorEq] at h
        | ofNat n =>
          simp only [externA] at h
          split at h
          · rename_i hs
            simp only [small, Nat.mul_one, Nat.ble_eq] at hs
            simp only [newA, Option.some.injEq] at h
            subst h
            generalize hc : (Question.appendCap n 0 elem).cut (w.tape w.drawn (.appendCap n 0 elem)) = cap
            have hcap : n ≤ cap := by rw [← hc]; simp [Question.cut]
            generalize hb : (Question.extern "internal/bytealg.MakeNoZero.bytes" 0).cut (w.drew.tape w.drew.drawn (.extern "internal/bytealg.MakeNoZero.bytes" 0)) = bytes
            refine ⟨_, _, _, rfl, GoodV.of_alloc (v := fun a => .slice (some (a, 0)) n n false 1) I ⟨.cells (Extern.BytealgMakeNoZero.digits cap bytes #[]) elem, .slice (some ⟨w.heap.size, 0, none⟩) n cap,
              { w.drew.drew with heap := w.heap.push (.cells (Extern.BytealgMakeNoZero.digits cap bytes #[]) elem) }, cap, ?_, rfl, rfl, rfl, rfl, fun b σ hσ hb => ⟨VR.slice (o := 0) (p := ⟨w.heap.size, 0, cap⟩) hb (fun e => by cases e) hcap (by simp), ?_⟩⟩⟩
            · have h1 : ((decide ((n : Int) < 0)) || decide ((n : Int) > 2 ^ 48)) = false := by simp; omega
              delta Extern.BytealgMakeNoZero.makeNoZero
              rw [makeNoZero_arg]
              have hd : ({ w with drawn := w.drawn + 1 } : World) = w.drew := rfl
              have hd2 : ({ w.drew with drawn := w.drew.drawn + 1 } : World) = w.drew.drew := rfl
              simp only [ht, Sem.run_bind, run_underlying hu, Result.andThen_ok, Int.ofNat_eq_natCast, h1, Bool.false_eq_true, if_false, run_choose, Question.forced, Int.toNat_natCast, hc, hd, run_askRoom, Sem.run_pure]
              have h3 : decide ((0 : Nat) = 1) = false := rfl
              simp only [h3, Bool.false_eq_true, if_false, hb, hd2, Result.andThen_ok, newRow, Sem.run_bind, run_newObj, Sem.run_pure]
              rfl
            · simp only [OR]
              refine ⟨trivial, by rw [digits_size]; simp, (fun e => by cases e), fun i v hi => ?_, .inl rfl⟩
              simp at hi
          · cases h

theorem callFn_sound (E : EnvOk P X) (I : Inv env W0 ρ hp nx w) {f : FuncId} {args : List AV} {args' : Array Value} {r : ARes} (ha : VRs env ρ args args'.toList) (h : callFn P X f args hp nx = some r) :
    OpOk P env W0 ρ hp nx w r (callFunc f args') := by
  unfold callFn at h
  split at h
  · cases h
  · rename_i fn hf
    have hn := E.names f fn hf
    split at h
    · rename_i c hc
      cases h
      refine .enter ?_ ha
      simp only [callFunc, Sem.run_bind, run_program, Result.andThen_ok, hf, hn, Bool.false_eq_true, if_false, hc, Option.isNone_some, Sem.run_pure]
    · rename_i hc
      split at h
      · rename_i k hk
        obtain ⟨h1, e, h2, h3⟩ := E.ext f k fn hk hf hc
        obtain ⟨v, hp', nx', rfl, hg⟩ := externA_sound I h3 ha h
        refine OpOk.of_eq (OpOk.ofV hg) ?_
        simp only [callFunc, Sem.run_bind, run_program, Result.andThen_ok, hf, hn, Bool.false_eq_true, if_false, hc, Option.isNone_none, if_true, h1, h2, run_mark, Sem.run_pure]
      · cases h

theorem invokeA_sound (E : EnvOk P X) (I : Inv env W0 ρ hp nx w) {fn fn' : Fn} {captured args : List AV} {captured' args' : Array Value} {r : ARes} (hf : FnR ρ fn fn') (hc : VRs env ρ captured captured'.toList) (ha : VRs env ρ args args'.toList)
    (h : invokeA P X fn captured args hp nx = some r) : OpOk P env W0 ρ hp nx w r (invoke (.fn fn' captured') args') := by
  unfold invokeA at h
  split at h
  · cases hf
    exact OpOk.of_eq (callFn_sound E I (args' := args' ++ captured') (by simpa using ha.append hc) h) rfl
  · cases h
    cases hf with
    | yield hl => exact .round hl ha rfl
  · cases h

end Va

/-
  VA: an operation of any kind.
-/
namespace Va
open Go Go.RowKit

variable {P : Program} {env : Nat → Value} {W0 : World} {ρ : Rho} {hp : Tr AO} {nx : Nat} {w : World} {X : Nat → Option XK}

theorem opStore_sound (henv : ∀ i, (env i).oneCell' = true) (I : Inv env W0 ρ hp nx w) {tm : Tr AV} {a : Go.Act} {t : TypeId} {x y : Operand} {hp' : Tr AO} (hE : EvOk env ρ tm a [x, y]) (h : opStore P tm t x y hp = some hp') :
    GoodU P env W0 ρ hp nx w hp' (Instr.storeAt t (a.eval x) (a.eval y)) := by
  unfold opStore at h
  split at h
  · rename_i b off v n hx hy hs
    split at h
    · rename_i hn
      have hn := Nat.eq_of_beq_eq_true hn
      have h1 := hE x (by simp) _ hx
      have h2 := (hE y (by simp) _ hy).cells (fun i => env_cells (henv i))
      generalize a.eval x = x' at h1
      generalize a.eval y = y' at h2
      cases h1 with
      | ptr e =>
        obtain ⟨w', h3, h4, h5⟩ := storeC_sound (P := P) henv I h e h2 (fun e => by cases e)
        refine ⟨w', ?_, h4, h5⟩
        have hl : y'.cells.size = n := by rw [← hn, h2.length]; simp
        simp [Instr.storeAt, Instr.sureAddr, storeVar, run_sizeOf hs, hl, h3]
    · cases h
  · cases h

theorem opCall_sound (E : EnvOk P X) (henv : ∀ i, (env i).oneCell' = true) (I : Inv env W0 ρ hp nx w) {tm : Tr AV} {a : Go.Act} {c : Call} {ty : TypeId} {r : ARes} (hE : EvOk env ρ tm a c.operands.toList) (h : opCall P X tm c hp nx = some r) :
    OpOk P env W0 ρ hp nx w r (do let d ← resolve a.eval c ty; invoke d.target d.args) := by
  unfold opCall at h
  split at h
  · cases h
  · rename_i args ha
    have h1 : VRs env ρ args (c.args.map a.eval).toList := by
      rw [Array.toList_map]
      exact EvOk.evs (fun x hx => hE x (by simp only [Call.operands, Array.toList_append, List.mem_append]; exact .inr hx)) ha
    split at h
    · rename_i b hb
      refine OpOk.of_eq (builtinA_sound (ty := ty) (cs := c.args.map fun | .const _ => true | _ => false) henv I h1 h) ?_
      simp [resolve, hb, invoke]
      rfl
    · rename_i f hf
      unfold callVal at h
      split at h
      · rename_i fn first captured hv
        have h2 := hE f (by simp [Call.operands, hf]) _ hv
        generalize hx : a.eval f = x' at h2
        cases h2 with
        | func hfn h3 h4 =>
          refine OpOk.of_eq (invokeA_sound E I hfn h4 (by rw [Array.toList_append]; exact h3.append h1) h) ?_
          simp [resolve, hf, hx, Deferred.ofValue]
      · cases h
    · cases h

theorem opDefer_sound {tm : Tr AV} {a : Go.Act} {c : Call} {ty : TypeId} {r : ARes} (hE : EvOk env ρ tm a c.operands.toList) (h : opDefer tm c = some r) :
    OpOk P env W0 ρ hp nx w r (do pure (.defer (← resolve a.eval c ty))) := by
  unfold opDefer at h
  split at h
  · rename_i args f ha hf
    have h1 : VRs env ρ args (c.args.map a.eval).toList := by
      rw [Array.toList_map]
      exact EvOk.evs (fun x hx => hE x (by simp only [Call.operands, Array.toList_append, List.mem_append]; exact .inr hx)) ha
    split at h
    · rename_i fn first captured hv
      have h2 := hE f (by simp [Call.operands, hf]) _ hv
      generalize hx : a.eval f = x' at h2
      cases h2 with
      | func hfn h3 h4 =>
        cases h
        refine .defer ?_ (.call hfn h4 (by rw [Array.toList_append]; exact h3.append h1))
        simp [resolve, hf, hx, Deferred.ofValue]
    · cases h
  · cases h

theorem opNext_sound (I : Inv env W0 ρ hp nx w) {tm : Tr AV} {a : Go.Act} {x : Operand} {s : Bool} {ty : TypeId} {r : ARes} (hE : EvOk env ρ tm a [x]) (h : opNext tm x s hp nx = some r) :
    ∃ v hp' nx', r = .val v hp' nx' ∧ GoodV P env W0 ρ hp nx w v hp' nx' (Instr.next (a.eval x) s ty) := by
  unfold opNext at h
  split at h
  · rename_i b hx
    split at h
    · rename_i o ho
      have h1 := hE x (by simp) _ hx
      generalize a.eval x = x' at h1
      cases h1 with
      | ptr e => exact nextA_sound I ho e h
    · cases h
  · cases h

/-- An operation of any kind. -/
theorem aop_sound (E : EnvOk P X) (henv : ∀ i, (env i).oneCell' = true) (I : Inv env W0 ρ hp nx w) {tm : Tr AV} {a : Go.Act} {o : Oper} {r : ARes} (hE : EvOk env ρ tm a o.op.operands.toList) (h : aop P X tm o hp nx = some r) :
    OpOk P env W0 ρ hp nx w r (execOp a.eval o) := by
  have hcells : ∀ i, (env i).cells = #[env i] := fun i => env_cells (henv i)
  have hmove : ∀ {x : Operand} {r : ARes}, EvOk env ρ tm a [x] → valR (ev tm x) hp nx = some r → OpOk P env W0 ρ hp nx w r (pure (.value (a.eval x))) := by
    intro x r hE h
    refine OpOk.of_eq (valR_ok (s := pure (a.eval x)) I h fun v hv => ⟨a.eval x, rfl, hE x (by simp) _ hv⟩) ?_
    simp
  have alloc : ∀ {s : Sem Value}, (∃ v ob, r = .val (v nx) (hp.set nx ob) (nx + 1) ∧ AllocOut P env ρ w v ob s) → OpOk P env W0 ρ hp nx w r (do pure (.value (← s))) := fun h => alloc_ok I h
  have good : ∀ {s : Sem Value}, (∃ v hp' nx', r = .val v hp' nx' ∧ GoodV P env W0 ρ hp nx w v hp' nx' s) → OpOk P env W0 ρ hp nx w r (do pure (.value (← s))) := by
    rintro s ⟨v, hp', nx', rfl, hg⟩; exact .ofV hg
  obtain ⟨dst, op, ty, pos, after, guard⟩ := o
  unfold aop at h
  simp only at h hE
  cases op <;> first | (simp only [aopOp, reduceCtorEq] at h; done) | skip
  case move x => exact hmove hE h
  case assign x => exact hmove hE h
  case pick c x y =>
    refine OpOk.of_eq (valR_ok I h fun v hv => opPick_sound hE hv) ?_
    simp [execOp]
  case alloc e => exact alloc (opAlloc_sound henv h)
  case box e x => exact alloc (opBox_sound henv hE h)
  case build t ps => exact valR_ok I h fun v hv => opBuild_sound hcells hE hv
  case buildSlice t l ps => exact alloc (opBuildSlice_sound henv hE h)
  case load t x => exact valR_ok I h fun v hv => opLoad_sound I hE hv
  case store t x y => exact unitR_ok h fun h' hh => opStore_sound henv I hE hh
  case nilCheck x =>
    simp only [aopOp] at h
    unfold valR at h
    split at h
    · rename_i v hv
      cases h
      obtain ⟨v', h1, h2⟩ := opNilCheck_sound (P := P) (w := w) (o := ⟨dst, .nilCheck x, ty, pos, after, guard⟩) rfl hE hv
      exact .val ⟨v', w, ρ, .inl h1, Rho.le_refl _, h2, I, Nat.le_refl _, fun b _ hn => ⟨hn, rfl⟩⟩
    · cases h
  case binOp op t x y n => exact valR_ok I h fun v hv => opBin_sound hE hv
  case unOp op t x => exact valR_ok I h fun v hv => opUn_sound hE hv
  case convert s d x =>
    simp only [aopOp] at h
    unfold opConvert at h
    split at h
    · rename_i xv hx
      exact good (convertA_sound I (hE x (by simp [Op.operands]) _ hx) h)
    · cases h
  case makeInterface t x => exact valR_ok I h fun v hv => opMakeIface_sound hE hv
  case makeFunc fn f c => exact valR_ok I h fun v hv => opMakeFunc_sound hE hv
  case makeMap t x => exact alloc (opMakeMap_sound (by simpa [Op.operands] using hE) h)
  case makeSlice t l c => exact alloc (opMakeSlice_sound henv hE h)
  case slice t x lo hi mx => exact valR_ok I h fun v hv => opSlice_sound (by simpa [Op.operands] using hE) hv
  case fieldAddr t x i => exact valR_ok I h fun v hv => opFieldAddr_sound hE hv
  case field t x i => exact valR_ok I h fun v hv => opField_sound hE hv
  case indexAddr t x ix => exact valR_ok I h fun v hv => opIndexAddr_sound hE hv
  case index t x ix => exact valR_ok I h fun v hv => opIndex_sound hE hv
  case lookup t x k ok =>
    refine valR_ok I h fun v hv => ?_
    unfold opLookup at hv
    split at hv
    · rename_i m k' h1 h2
      exact lookupA_sound I (hE x (by simp [Op.operands]) _ h1) (hE k (by simp [Op.operands]) _ h2) hv
    · cases hv
  case mapUpdate t m k x =>
    refine unitR_ok h fun h' hh => ?_
    unfold opMapPut at hh
    split at hh
    · rename_i m' k' x' h1 h2 h3
      exact mapPut_sound I (hE m (by simp [Op.operands]) _ h1) (hE k (by simp [Op.operands]) _ h2) (hE x (by simp [Op.operands]) _ h3) hh
    · cases hh
  case insert t m k x =>
    refine unitR_ok h fun h' hh => ?_
    unfold opMapPut at hh
    split at hh
    · rename_i m' k' x' h1 h2 h3
      exact mapPut_sound I (hE m (by simp [Op.operands]) _ h1) (hE k (by simp [Op.operands]) _ h2) (hE x (by simp [Op.operands]) _ h3) hh
    · cases hh
  case mapEntry t m k =>
    simp only [aopOp] at h
    unfold opMapEntry at h
    split at h
    · rename_i m' k' h1 h2
      split at h
      · rename_i v h' hh
        cases h
        exact good ⟨_, _, _, rfl, mapEntryA_sound I (hE m (by simp [Op.operands]) _ h1) (hE k (by simp [Op.operands]) _ h2) hh⟩
      · cases h
    · cases h
  case entryStore t m s x =>
    refine unitR_ok h fun h' hh => ?_
    unfold opEntryStore at hh
    split at hh
    · rename_i m' k' x' h1 h2 h3
      exact entryStoreA_sound I (hE m (by simp [Op.operands]) _ h1) (hE s (by simp [Op.operands]) _ h2) (hE x (by simp [Op.operands]) _ h3) hh
    · cases hh
  case range t x => exact alloc (opRange_sound I hE h)
  case next x s => exact good (opNext_sound I hE h)
  case entry x =>
    refine valR_ok I h fun v hv => ?_
    unfold opEntry at hv
    split at hv
    · rename_i it h1
      exact entryA_sound I (hE x (by simp [Op.operands]) _ h1) hv
    · cases hv
  case typeAssert x xt t ok => exact valR_ok I h fun v hv => opAssert_sound hE hv
  case extract x i => exact valR_ok I h fun v hv => opExtract_sound hE hv
  case call c => exact opCall_sound E henv I hE h
  case defer c => exact opDefer_sound hE h

end Va

/-
  VA: the model's steps, of frames of any kind.
-/
namespace Va
open Go Go.RowKit

variable {P : Program} {fr : Frame} {cs : List Frame} {w : World} {k : List Item}

theorem st_skip (hm : fr.mode = .run) (ht : fr.todo = .code .skip :: k) : step P (lone fr cs w) = .next (lone { fr with todo := k } cs w) :=
  step_lone_go (by simp [stepG, stepG.exec, hm, ht])

theorem st_label {l : Nat} (hm : fr.mode = .run) (ht : fr.todo = .code (.label l) :: k) : step P (lone fr cs w) = .next (lone { fr with todo := k } cs w) :=
  step_lone_go (by simp [stepG, stepG.exec, hm, ht])

theorem st_inBlock {i : Nat} (hm : fr.mode = .run) (ht : fr.todo = .inBlock i :: k) : step P (lone fr cs w) = .next (lone { fr with todo := k } cs w) :=
  step_lone_go (by simp [stepG, stepG.exec, hm, ht])

theorem st_inScope {c : Code} (hm : fr.mode = .run) (ht : fr.todo = .inScope c :: k) : step P (lone fr cs w) = .next (lone { fr with todo := k } cs w) :=
  step_lone_go (by simp [stepG, stepG.exec, hm, ht])

theorem st_seq {a b : Code} (hm : fr.mode = .run) (ht : fr.todo = .code (.seq a b) :: k) : step P (lone fr cs w) = .next (lone { fr with todo := .code a :: .code b :: k } cs w) :=
  step_lone_go (by simp [stepG, stepG.exec, hm, ht])

theorem st_block {i : Nat} {b : Code} (hm : fr.mode = .run) (ht : fr.todo = .code (.block i b) :: k) : step P (lone fr cs w) = .next (lone { fr with todo := .code b :: .inBlock i :: k } cs w) :=
  step_lone_go (by simp [stepG, stepG.exec, hm, ht])

theorem st_loop {b : Code} (hm : fr.mode = .run) (ht : fr.todo = .code (.loop b) :: k) : step P (lone fr cs w) = .next (lone { fr with todo := .code b :: .inLoop b :: k } cs w) :=
  step_lone_go (by simp [stepG, stepG.exec, hm, ht])

theorem st_inLoop {b : Code} (hm : fr.mode = .run) (ht : fr.todo = .inLoop b :: k) : step P (lone fr cs w) = .next (lone { fr with todo := .code b :: .inLoop b :: k } cs w) :=
  step_lone_go (by simp [stepG, stepG.exec, hm, ht])

theorem st_scope {b : Code} (hm : fr.mode = .run) (ht : fr.todo = .code (.scope b) :: k) : step P (lone fr cs w) = .next (lone { fr with todo := .code b :: .inScope b :: k } cs w) :=
  step_lone_go (by simp [stepG, stepG.exec, hm, ht])

theorem st_cond {c : Operand} {a b : Code} {x : Bool} (hm : fr.mode = .run) (ht : fr.todo = .code (.cond c a b) :: k) (hc : fr.eval c = .bool x) :
    step P (lone fr cs w) = .next (lone { fr with todo := .code (if x then a else b) :: k } cs w) :=
  step_lone_go (by simp [stepG, stepG.exec, hm, ht, hc])

theorem st_exit {i : Nat} {k' : List Item} (hm : fr.mode = .run) (ht : fr.todo = .code (.exit i) :: k) (he : exitTo i k = some k') :
    step P (lone fr cs w) = .next (lone { fr with todo := k' } cs w) :=
  step_lone_go (by simp [stepG, stepG.exec, hm, ht, he])

theorem st_goto {l : Nat} {k' : List Item} (hm : fr.mode = .run) (ht : fr.todo = .code (.goto l) :: k) (he : gotoIn l k = some k') :
    step P (lone fr cs w) = .next (lone { fr with todo := k' } cs w) :=
  step_lone_go (by simp [stepG, stepG.exec, hm, ht, he])

theorem st_ret (hm : fr.mode = .run) (hr : fr.roundOf = none) (ht : fr.todo = .code .ret :: k) : step P (lone fr cs w) = .next (lone { fr with mode := .returning } cs w) :=
  step_lone_go (by simp [stepG, stepG.exec, hm, ht, hr])

theorem st_end (hm : fr.mode = .run) (hr : fr.roundOf = none) (ht : fr.todo = []) : step P (lone fr cs w) = .next (lone { fr with mode := .returning } cs w) :=
  step_lone_go (by simp [stepG, stepG.exec, hm, ht, hr])

theorem st_region {id : Nat} {ops : Array Oper} (hm : fr.mode = .run) (ht : fr.todo = .code (.region id ops false) :: k) :
    step P (lone fr cs w) = .next (lone { fr with todo := .inRegion ops (List.range ops.size) :: k } cs w) :=
  step_lone_go (by simp [stepG, stepG.exec, hm, ht])

theorem st_draw {id : Nat} {ops : Array Oper} (hm : fr.mode = .run) (ht : fr.todo = .code (.region id ops true) :: k) :
    ∃ t, step P (lone fr cs w) = .next (lone { fr with todo := .inRegion ops (Region.schedule (P.follows .mixedOrders) ops t) :: k } cs w.drew) :=
  ⟨_, step_lone_go (by simp only [stepG, stepG.exec, hm, ht, Bool.not_true, Bool.false_eq_true, if_false, run_choose]; rfl)⟩

theorem st_regEnd {ops : Array Oper} (hm : fr.mode = .run) (ht : fr.todo = .inRegion ops [] :: k) : step P (lone fr cs w) = .next (lone { fr with todo := k } cs w) :=
  step_lone_go (by simp [stepG, stepG.exec, hm, ht])

theorem st_unwanted {ops : Array Oper} {i : Nat} {rest : List Nat} (hm : fr.mode = .run) (ht : fr.todo = .inRegion ops (i :: rest) :: k) (h : ((ops[i]?).map (Region.wanted · (yielded ops fr.tmps))).getD false = false) :
    step P (lone fr cs w) = .next (lone (fr.finish undef) cs w) :=
  step_lone_go (by simp [stepG, stepG.exec, hm, ht, h])

/-- An operation that is to run, of a frame of any kind (but for a defer of a round). -/
theorem st_op {ops : Array Oper} {i : Nat} {rest : List Nat} {o : Oper} {fr' : Frame} {cs' : List Frame} {w' : World} (hm : fr.mode = .run) (ht : fr.todo = .inRegion ops (i :: rest) :: k) (ho : ops[i]? = some o)
    (hw : Region.wanted o (yielded ops fr.tmps) = true) (hd : fr.roundOf = none ∨ ∀ c, o.op ≠ .defer c)
    (h : (stepG.apply P true fr cs none (execOp fr.eval o) w).bare = .go { frame := fr', callers := cs', status := .running, dying := none } w') :
    step P (lone fr cs w) = .next (lone fr' cs' w') := by
  refine step_lone_go ?_
  rw [← h]
  have hop : fr.oper? = some o := by simp [Frame.oper?, ht, ho]
  have h1 : stepG P true { frame := fr, callers := cs, status := .running, dying := none } w = stepG.oper P true fr cs none w := by
    simp [stepG, stepG.exec, hm, ht, ho, hw]
  rw [h1]
  unfold stepG.oper
  rw [hop]
  simp only
  split
  · rename_i l c hr hc
    rcases hd with h | h
    · simp [h] at hr
    · exact absurd hc (h c)
  · rfl

end Va

/-
  VA: the order that a drawn region is run in.
-/
namespace Va
open Go

theorem nodup_le : ∀ (n : Nat) (l : List Nat), l.Nodup → (∀ x ∈ l, x < n) → l.length ≤ n
  | 0, l, _, h => by
    cases l with
    | nil => simp
    | cons x l => exact absurd (h x (by simp)) (by omega)
  | n + 1, l, hn, h => by
    have h1 := nodup_le n (l.erase n) (hn.erase n) (fun x hx => by
      have h2 := h x (List.mem_of_mem_erase hx)
      have h3 : x ≠ n := fun e => by subst e; exact (List.Nodup.not_mem_erase hn) hx
      omega)
    have h2 := List.length_erase (a := n) (l := l)
    split at h2 <;> omega

theorem nodup_all {n : Nat} {l : List Nat} (hn : l.Nodup) (h : ∀ x ∈ l, x < n) (hl : l.length = n) {i : Nat} (hi : i < n) : i ∈ l := by
  by_cases hm : i ∈ l
  · exact hm
  · have := nodup_le n (i :: l) (List.nodup_cons.2 ⟨hm, hn⟩) (by intro x hx; rcases List.mem_cons.1 hx with rfl | hx; exact hi; exact h x hx)
    simp at this; omega

theorem all_le : ∀ (n : Nat) (l : List Nat), (∀ i, i < n → i ∈ l) → n ≤ l.length
  | 0, _, _ => Nat.zero_le _
  | n + 1, l, h => by
    have hn := h n (by omega)
    have h1 := all_le n (l.erase n) (fun i hi => (List.mem_erase_of_ne (by omega)).2 (h i (by omega)))
    have h2 := List.length_erase_of_mem hn
    have h3 := List.length_pos_of_mem hn
    omega

/-- Listed from the back: each behind all that it waits for. -/
def Lined (ops : Array Oper) : List Nat → Prop
  | [] => True
  | j :: l => j ∉ l ∧ (∃ o, ops[j]? = some o ∧ ∀ e ∈ o.after.toList, Region.binds .any e = true → e.on ∈ l) ∧ Lined ops l

theorem edges_of_back {ops : Array Oper} : ∀ {l : List Oper} {k : Nat}, edgesBack l k = true → ∀ i o, l[i]? = some o → ∀ e ∈ o.after.toList, Region.binds .any e = true → e.on < k + i
  | [], _, _, i, o, h => by simp at h
  | p :: l, k, hb, i, o, h => by
    simp only [edgesBack, Bool.and_eq_true, List.all_eq_true] at hb
    cases i with
    | zero =>
      simp only [List.getElem?_cons_zero, Option.some.injEq] at h
      subst h
      intro e he hbe
      have := hb.1 e he
      simp only [hbe, Bool.not_true, Bool.false_or, Nat.blt_eq] at this
      omega
    | succ i =>
      intro e he hbe
      have := edges_of_back (ops := ops) hb.2 i o (by simpa using h) e he hbe
      omega

theorem least_out (p : Nat → Prop) : ∀ n, (∃ i, i < n ∧ ¬p i) → ∃ i, i < n ∧ ¬p i ∧ ∀ j, j < i → p j
  | 0, ⟨i, h, _⟩ => absurd h (by omega)
  | n + 1, ⟨i, h, hp⟩ => by
    by_cases he : ∃ i, i < n ∧ ¬p i
    · obtain ⟨i, h1, h2⟩ := least_out p n he
      exact ⟨i, by omega, h2⟩
    · have hall : ∀ j, j < n → p j := fun j hj => Classical.byContradiction fun hn => he ⟨j, hj, hn⟩
      have : i = n := by
        rcases Nat.lt_or_ge i n with h1 | h1
        · exact absurd (hall i h1) hp
        · omega
      subst this
      exact ⟨i, by omega, hp, hall⟩

theorem lined_lt {ops : Array Oper} : ∀ {l : List Nat}, Lined ops l → ∀ x ∈ l, x < ops.size
  | [], _, x, hx => by cases hx
  | j :: l, h, x, hx => by
    obtain ⟨_, ⟨o, ho, _⟩, h3⟩ := h
    rcases List.mem_cons.1 hx with rfl | hx
    · rcases Nat.lt_or_ge x ops.size with h | h
      · exact h
      · simp [Array.getElem?_eq_none h] at ho
    · exact lined_lt h3 x hx

theorem lined_nodup {ops : Array Oper} : ∀ {l : List Nat}, Lined ops l → l.Nodup
  | [], _ => List.nodup_nil
  | _ :: _, h => List.nodup_cons.2 ⟨h.1, lined_nodup h.2.2⟩

theorem linearise_go {ops : Array Oper} (hb : edgesBack ops.toList 0 = true) : ∀ (fuel t : Nat) (listed : Array Bool) (acc : List Nat), listed.size = ops.size → (∀ i, i < ops.size → (listed[i]? = some true ↔ i ∈ acc)) → Lined ops acc →
    fuel + acc.length = ops.size → ∃ l, Region.linearise.go .any ops fuel t listed acc = l.reverse ∧ Lined ops l ∧ l.length = ops.size
  | 0, t, listed, acc, hs, hm, hl, hf => ⟨acc, rfl, hl, by omega⟩
  | fuel + 1, t, listed, acc, hs, hm, hl, hf => by
    unfold Region.linearise.go
    simp only
    have hout : ∃ i, i < ops.size ∧ ¬ i ∈ acc := by
      refine Classical.byContradiction fun hn => ?_
      have hall : ∀ i, i < ops.size → i ∈ acc := fun i hi => Classical.byContradiction fun hx => hn ⟨i, hi, hx⟩
      have := all_le ops.size acc hall
      omega
    obtain ⟨i, hi, hia, hlt⟩ := least_out (fun i => i ∈ acc) ops.size hout
    generalize hrs : (List.range ops.size).filter (fun i => !listed.getD i true && ((ops[i]?).map (·.after.all fun e => !Region.binds .any e || listed.getD e.on false)).getD false) = rs
    have hir : i ∈ rs := by
      rw [← hrs, List.mem_filter]
      refine ⟨List.mem_range.2 hi, ?_⟩
      have h1 : listed[i]? = some false := by
        have h2 : ¬ listed[i]? = some true := fun h => hia ((hm i hi).1 h)
        have h3 : i < listed.size := by omega
        rw [Array.getElem?_eq_getElem h3] at h2 ⊢
        cases hx : listed[i] with
        | true => simp [hx] at h2
        | false => rfl
      have ho : ops[i]? = some ops[i] := Array.getElem?_eq_getElem hi
      simp only [Array.getD_eq_getD_getElem?, h1, Option.getD_some, Bool.not_false, Bool.true_and, ho, Option.map_some, Array.all_eq_true']
      intro e he
      by_cases hbe : Region.binds .any e = true
      · have := edges_of_back (ops := ops) hb i ops[i] (by simp [hi]) e (by simpa using he) hbe
        have h4 := hlt e.on (by omega)
        simp [hbe, (hm e.on (by omega)).2 h4]
      · simp [hbe]
    have hlen : 0 < rs.length := List.length_pos_of_mem hir
    have hget : t % rs.length < rs.length := Nat.mod_lt _ hlen
    rw [List.getElem?_eq_getElem hget]
    simp only
    have hmem : rs[t % rs.length] ∈ rs := List.getElem_mem hget
    generalize rs[t % rs.length] = j at hmem
    rw [← hrs, List.mem_filter] at hmem
    obtain ⟨hj, hp⟩ := hmem
    have hj := List.mem_range.1 hj
    have hjs : j < listed.size := by omega
    simp only [Bool.and_eq_true, Bool.not_eq_true', Array.getD_eq_getD_getElem?] at hp
    have hnot : j ∉ acc := by
      intro hx
      have := (hm j hj).2 hx
      simp [this] at hp
    refine linearise_go hb fuel _ _ (j :: acc) (by simp [hs]) ?_ ⟨hnot, ⟨ops[j], Array.getElem?_eq_getElem hj, ?_⟩, hl⟩ (by simp; omega)
    · intro i hi
      rw [Array.getElem?_setIfInBounds]
      by_cases hji : j = i
      · subst hji; simp [hjs]
      · simp only [hji, if_false, List.mem_cons]
        rw [hm i hi]
        constructor
        · exact .inr
        · rintro (h | h)
          · exact absurd h.symm hji
          · exact h
    · intro e he hbe
      have h2 := hp.2
      simp only [Array.getElem?_eq_getElem hj, Option.map_some, Option.getD_some, Array.all_eq_true'] at h2
      have h3 := h2 e (by simpa using he)
      simp only [hbe, Bool.not_true, Bool.false_or] at h3
      have hlt2 : e.on < ops.size := by
        have := edges_of_back (ops := ops) hb j ops[j] (by simp [hj]) e he hbe
        omega
      refine (hm e.on hlt2).1 ?_
      have h4 : e.on < listed.size := by omega
      rw [Array.getElem?_eq_getElem h4] at h3 ⊢
      simpa using h3

/-- The order is of all operations, once each, each behind all that it waits for. -/
theorem linearise_lined {ops : Array Oper} (hb : edgesBack ops.toList 0 = true) (t : Nat) : ∃ l, Region.linearise .any ops t = l.reverse ∧ Lined ops l ∧ l.length = ops.size :=
  linearise_go hb ops.size t (Array.replicate ops.size false) [] (by simp) (fun i hi => by simp [hi]) trivial (by simp)

end Va

/-
  VA: what the classes of operations say.
-/
namespace Va
open Go

variable {P : Program} {X : Nat → Option XK} {tm tm' : Tr AV} {hp : Tr AO} {nx : Nat}

theorem evs_congr : ∀ {l : List Operand}, (∀ x ∈ l, ev tm x = ev tm' x) → evs tm l = evs tm' l
  | [], _ => rfl
  | x :: l, h => by
    have h1 := h x (by simp)
    have h2 := evs_congr (l := l) (fun y hy => h y (by simp [hy]))
    unfold evs at h2 ⊢
    simp only [mapO, h1, h2]

theorem evParts_congr : ∀ {l : List (Nat × Operand)}, (∀ x ∈ l.map (·.2), ev tm x = ev tm' x) → evParts tm l = evParts tm' l
  | [], _ => rfl
  | (i, x) :: l, h => by
    have h1 := h x (by simp)
    have h2 := evParts_congr (l := l) (fun y hy => h y (by simp at hy ⊢; exact .inr hy))
    simp only [evParts, h1, h2]

theorem evO_congr {x : Option Operand} (h : ∀ y ∈ x.toList, ev tm y = ev tm' y) : evO tm x = evO tm' x := by
  cases x with
  | none => rfl
  | some x => simp only [evO, h x (by simp)]

theorem ev_congr {x : Operand} (h : ∀ t, x = .tmp t → tm.get t = tm'.get t) : ev tm x = ev tm' x := by
  cases x <;> simp only [ev]
  exact h _ rfl

theorem mem_operandTmps : ∀ {l : List Operand} {t : Tmp}, .tmp t ∈ l → t ∈ operandTmps l
  | x :: l, t, h => by
    rcases List.mem_cons.1 h with rfl | h
    · simp [operandTmps]
    · have := mem_operandTmps h
      cases x <;> simp [operandTmps, this]

theorem aop_congr {o : Oper} (h : ∀ x ∈ o.op.operands.toList, ev tm x = ev tm' x) : aop P X tm o hp nx = aop P X tm' o hp nx := by
  obtain ⟨dst, op, ty, pos, after, guard⟩ := o
  unfold aop
  simp only at h ⊢
  cases op <;> first | rfl | (simp only [Op.operands, List.mem_cons, List.not_mem_nil, or_false, forall_eq_or_imp, forall_eq] at h; simp only [aopOp, opPick, opBox, opLoad, opStore, opNilCheck, opBin, opUn, opConvert, opMakeIface, opMakeSlice, opFieldAddr, opField, opIndexAddr, opIndex, opLookup, opMapPut, opMapEntry, opEntryStore, opRange, opNext, opEntry, opAssert, opExtract, h]; done) | skip
  case build t ps => simp only [aopOp, opBuild, evParts_congr (l := ps.toList) (by simpa [Op.operands] using h)]
  case buildSlice t n ps => simp only [aopOp, opBuildSlice, evParts_congr (l := ps.toList) (by simpa [Op.operands] using h)]
  case makeFunc fn a b =>
    simp only [Op.operands, Array.toList_append, List.mem_append] at h
    simp only [aopOp, opMakeFunc, evs_congr (l := a.toList) (fun x hx => h x (.inl hx)), evs_congr (l := b.toList) (fun x hx => h x (.inr hx))]
  case makeMap t r =>
    cases r with
    | none => rfl
    | some x => simp only [aopOp, opMakeMap, h x (by simp [Op.operands])]
  case slice t x lo hi mx =>
    have h' : ∀ y ∈ x :: (lo.toList ++ hi.toList ++ mx.toList), ev tm y = ev tm' y := by simpa [Op.operands] using h
    simp only [aopOp, opSlice, h' x (by simp), evO_congr (x := lo) (fun y hy => h' y (by simp at hy; simp [hy])), evO_congr (x := hi) (fun y hy => h' y (by simp at hy; simp [hy])), evO_congr (x := mx) (fun y hy => h' y (by simp at hy; simp [hy]))]
  case call c =>
    simp only [Op.operands, Call.operands, Array.toList_append, List.mem_append] at h
    simp only [aopOp, opCall, evs_congr (l := c.args.toList) (fun x hx => h x (.inr hx))]
    split
    · rfl
    · cases hc : c.callee with
      | value f => simp only [h f (.inl (by simp [hc]))]
      | builtin b => rfl
      | invoke a b => rfl
  case defer c =>
    simp only [Op.operands, Call.operands, Array.toList_append, List.mem_append] at h
    simp only [aopOp, opDefer, evs_congr (l := c.args.toList) (fun x hx => h x (.inr hx))]
    cases hc : c.callee with
    | value f =>
      have hf := h f (.inl (by simp [hc]))
      cases evs tm' c.args.toList with
      | none => rfl
      | some l => simp only [hf]
    | builtin b => cases evs tm' c.args.toList <;> rfl
    | invoke a b => cases evs tm' c.args.toList <;> rfl

def IsVal0 (P : Program) (X : Nat → Option XK) (tm : Tr AV) (o : Oper) (v : AV) : Prop := ∀ hp nx, aop P X tm o hp nx = some (.val v hp nx)
def IsVal1 (P : Program) (X : Nat → Option XK) (tm : Tr AV) (o : Oper) (hp : Tr AO) (v : AV) : Prop := ∀ nx, aop P X tm o hp nx = some (.val v hp nx)
def IsVal2 (P : Program) (X : Nat → Option XK) (tm : Tr AV) (o : Oper) (v : Nat → AV) (ob : AO) : Prop := ∀ hp nx, aop P X tm o hp nx = some (.val (v nx) (hp.set nx ob) (nx + 1))

theorem valR_some {o : Option AV} {r : ARes} (h : valR o hp nx = some r) : ∃ v, o = some v ∧ r = .val v hp nx := by
  cases o with
  | none => cases h
  | some v => cases h; exact ⟨v, rfl, rfl⟩

theorem val0_of {o : Oper} {f : Option AV} {r : ARes} (hf : ∀ hp nx, aop P X tm o hp nx = valR f hp nx) (h : aop P X tm o hp nx = some r) : ∃ v, r = .val v hp nx ∧ IsVal0 P X tm o v := by
  rw [hf] at h
  obtain ⟨v, rfl, rfl⟩ := valR_some h
  exact ⟨v, rfl, fun hp nx => by rw [hf]; rfl⟩

theorem val1_of {o : Oper} {f : Option AV} {r : ARes} (hf : ∀ nx, aop P X tm o hp nx = valR f hp nx) (h : aop P X tm o hp nx = some r) : ∃ v, r = .val v hp nx ∧ IsVal1 P X tm o hp v := by
  rw [hf] at h
  obtain ⟨v, rfl, rfl⟩ := valR_some h
  exact ⟨v, rfl, fun nx => by rw [hf]; rfl⟩

theorem cls0 {o : Oper} {r : ARes} (hc : cls P o = 0) (h : aop P X tm o hp nx = some r) : ∃ v, r = .val v hp nx ∧ IsVal0 P X tm o v := by
  obtain ⟨dst, op, ty, pos, after, guard⟩ := o
  cases op <;> first | (simp [cls] at hc; done) | exact val0_of (fun _ _ => rfl) h | skip
  case convert s d x =>
    simp only [cls] at hc
    simp only [aop, aopOp, opConvert] at h
    unfold IsVal0
    simp only [aop, aopOp, opConvert]
    split at h
    · rename_i a ha
      try simp only [ha]
      unfold convertA at h ⊢
      split at hc <;> first | (exact absurd hc (by decide)) | skip
      · rename_i hs hd
        simp only [hs, hd] at h ⊢
        cases a <;> simp only [reduceCtorEq, Option.some.injEq] at h ⊢
        subst h
        exact ⟨_, rfl, fun _ _ => rfl⟩
      · rename_i hs hd
        simp only [hs, hd] at h ⊢
        cases a <;> simp only [reduceCtorEq, Option.some.injEq] at h ⊢
        subst h
        exact ⟨_, rfl, fun _ _ => rfl⟩
    · cases h
  case call c =>
    simp only [cls] at hc
    split at hc <;> exact absurd hc (by decide)

theorem cls1 {o : Oper} {r : ARes} (hc : cls P o = 1) (h : aop P X tm o hp nx = some r) : ∃ v, r = .val v hp nx ∧ IsVal1 P X tm o hp v := by
  obtain ⟨dst, op, ty, pos, after, guard⟩ := o
  cases op <;> first | (simp [cls] at hc; done) | exact val1_of (fun _ => rfl) h | skip
  case convert s d x =>
    simp only [cls] at hc
    simp only [aop, aopOp, opConvert] at h
    unfold IsVal1
    simp only [aop, aopOp, opConvert]
    split at h
    · rename_i a ha
      try simp only [ha]
      unfold convertA at h ⊢
      split at hc <;> first | (exact absurd hc (by decide)) | skip
      rename_i e hs hd
      simp only [hs, hd] at h ⊢
      cases a <;> simp only [reduceCtorEq] at h ⊢
      · cases h; exact ⟨_, rfl, fun _ => rfl⟩
      · obtain ⟨v, h1, rfl⟩ := valR_some h
        exact ⟨v, rfl, fun nx => by rw [h1]; rfl⟩
    · cases h
  case call c =>
    simp only [cls] at hc
    simp only [aop, aopOp, opCall] at h
    unfold IsVal1
    simp only [aop, aopOp, opCall]
    split at h
    · cases h
    · rename_i args ha
      try simp only [ha]
      split at hc
      · rename_i hb
        simp only [hb] at h ⊢
        unfold builtinA at h ⊢
        split at h <;> first | (cases h; done) | skip
        all_goals first | (obtain ⟨v, h1, rfl⟩ := valR_some h; exact ⟨v, rfl, fun nx => by simp only [*]; rfl⟩) | skip
        all_goals simp_all
      · rename_i hb
        simp only [hb] at h ⊢
        unfold builtinA at h ⊢
        split at h <;> first | (cases h; done) | skip
        all_goals first | (obtain ⟨v, h1, rfl⟩ := valR_some h; exact ⟨v, rfl, fun nx => by simp only [*]; rfl⟩) | skip
        all_goals simp_all
      · exact absurd hc (by decide)

theorem cls2 {o : Oper} {r : ARes} (hc : cls P o = 2) (h : aop P X tm o hp nx = some r) : ∃ v ob, r = .val (v nx) (hp.set nx ob) (nx + 1) ∧ IsVal2 P X tm o v ob := by
  have fin : ∀ {v : Nat → AV} {ob : AO}, (∀ hp nx, aop P X tm o hp nx = newA hp nx ob v) → ∃ v ob, r = .val (v nx) (hp.set nx ob) (nx + 1) ∧ IsVal2 P X tm o v ob := by
    intro v ob hf
    rw [hf] at h
    cases h
    exact ⟨v, ob, rfl, fun hp nx => hf hp nx⟩
  obtain ⟨dst, op, ty, pos, after, guard⟩ := o
  cases op <;> first | (simp [cls] at hc; done) | skip
  case alloc e =>
    simp only [aop, aopOp] at h fin
    unfold opAlloc at h fin
    split at h
    · rename_i z hz
      split at h
      · rename_i h2
        simp only [hz, h2] at fin
        exact fin (fun _ _ => rfl)
      · cases h
    · cases h
  case box e x =>
    simp only [aop, aopOp] at h fin
    unfold opBox at h fin
    split at h
    · rename_i z hz
      split at h
      · rename_i h2
        simp only [hz, h2] at fin
        exact fin (fun _ _ => rfl)
      · cases h
    · cases h
  case buildSlice t n ps =>
    simp only [aop, aopOp] at h fin
    unfold opBuildSlice at h fin
    split at h
    · rename_i h1 h2
      split at h
      · rename_i h3 h4
        split at h
        · rename_i h5
          split at h
          · rename_i h6
            simp only [h1, h2, h3, h4, h5, h6] at fin
            exact fin (fun _ _ => rfl)
          · cases h
        · cases h
      · cases h
    · cases h
  case convert s d x =>
    simp only [cls] at hc
    split at hc <;> exact absurd hc (by decide)
  case makeMap t r =>
    simp only [aop, aopOp] at h fin
    cases r with
    | none => exact fin (fun _ _ => rfl)
    | some x =>
      simp only [opMakeMap] at h fin
      split at h
      · rename_i h1 h2
        simp only [h1, h2] at fin
        exact fin (fun _ _ => rfl)
      · cases h
  case makeSlice t a b =>
    simp only [aop, aopOp] at h fin
    unfold opMakeSlice at h fin
    split at h
    · rename_i h1 h2 h3
      split at h
      · rename_i h4 h5
        split at h
        · rename_i h6
          simp only [h1, h2, h3, h4, h5, h6] at fin
          exact fin (fun _ _ => rfl)
        · cases h
      · cases h
    · cases h
  case call c =>
    simp only [cls] at hc
    split at hc <;> exact absurd hc (by decide)

end Va

/-
  VA: what must run ahead of an operation.
-/
namespace Va
open Go

theorem testBit_maskOf {done : List Nat} {j : Nat} : ∀ {es : List Edge} {m : Nat}, (maskOf done es m).testBit j = true → m.testBit j = true ∨ ∃ e ∈ es, Region.binds .any e = true ∧ (e.on = j ∨ ((nth done e.on).getD 0).testBit j = true)
  | [], m, h => .inl h
  | e :: l, m, h => by
    unfold maskOf at h
    rcases testBit_maskOf h with h | ⟨e', h1, h2⟩
    · split at h
      · rename_i hb
        rw [Nat.testBit_or, Nat.testBit_or] at h
        simp only [Bool.or_eq_true] at h
        rcases h with (h | h) | h
        · exact .inl h
        · rw [Nat.testBit_two_pow] at h
          exact .inr ⟨e, by simp, hb, .inl (by simpa using h)⟩
        · exact .inr ⟨e, by simp, hb, .inr h⟩
      · exact .inl h
    · exact .inr ⟨e', by simp [h1], h2⟩

theorem masks_acc : ∀ (l : List Oper) (acc : List Nat), ∃ ms, masks l acc = acc ++ ms ∧ ms.length = l.length ∧ ∀ i o, l[i]? = some o → ms[i]? = some (maskOf (acc ++ ms.take i) o.after.toList 0)
  | [], acc => ⟨[], by simp [masks], rfl, fun i o h => by simp at h⟩
  | o :: l, acc => by
    obtain ⟨ms, h1, h2, h3⟩ := masks_acc l (acc ++ [maskOf acc o.after.toList 0])
    refine ⟨maskOf acc o.after.toList 0 :: ms, by simp [masks, h1], by simp [h2], fun i o' h => ?_⟩
    cases i with
    | zero => simp at h; subst h; simp
    | succ i =>
      have := h3 i o' (by simpa using h)
      simpa using this

/-- The bits of an operation: direct ones, and those of direct ones. -/
theorem masks_bit {ops : List Oper} (hb : edgesBack ops 0 = true) {i m j : Nat} (h : (masks ops [])[i]? = some m) (hj : m.testBit j = true) :
    ∃ o, ops[i]? = some o ∧ ∃ e ∈ o.after.toList, Region.binds .any e = true ∧ e.on < i ∧ (e.on = j ∨ ∃ m', (masks ops [])[e.on]? = some m' ∧ m'.testBit j = true) := by
  obtain ⟨ms, h1, h2, h3⟩ := masks_acc ops []
  rw [h1] at h
  rw [h1]
  simp only [List.nil_append] at h h3 ⊢
  have hi : i < ops.length := by
    rcases Nat.lt_or_ge i ms.length with h' | h'
    · omega
    · simp [List.getElem?_eq_none h'] at h
  have ho : ops[i]? = some ops[i] := List.getElem?_eq_getElem hi
  refine ⟨_, ho, ?_⟩
  rw [h3 i _ ho] at h
  cases h
  rcases testBit_maskOf hj with h | ⟨e, he, hbe, h⟩
  · simp at h
  · have hlt := edges_of_back (ops := #[]) hb i _ ho e he hbe
    refine ⟨e, he, hbe, by omega, ?_⟩
    rcases h with h | h
    · exact .inl h
    · right
      rw [nth_eq] at h
      cases hx : (ms.take i)[e.on]? with
      | none => simp [hx] at h
      | some m' =>
        refine ⟨m', ?_, by simpa [hx] using h⟩
        rw [List.getElem?_take] at hx
        split at hx
        · exact hx
        · cases hx

/-- What an operation waits for stands behind it in a list from the back. -/
theorem mask_before {ops : Array Oper} (hb : edgesBack ops.toList 0 = true) : ∀ (n : Nat) {i m j : Nat}, i < n → (masks ops.toList [])[i]? = some m → m.testBit j = true → ∀ {L a b : List Nat}, Lined ops L → L = a ++ i :: b → j ∈ b
  | 0, _, _, _, h, _, _, _, _, _, _, _ => absurd h (by omega)
  | n + 1, i, m, j, hn, hm, hj, L, a, b, hl, hL => by
    obtain ⟨o, ho, e, he, hbe, hlt, h⟩ := masks_bit hb hm hj
    have tail : ∀ {a L : List Nat}, Lined ops L → L = a ++ i :: b → e.on ∈ b := by
      intro a
      induction a with
      | nil =>
        intro L hl hL
        subst hL
        obtain ⟨_, ⟨o', ho', h'⟩, _⟩ := hl
        have : o' = o := by
          have : ops[i]? = some o := by simpa using ho
          rw [this] at ho'; cases ho'; rfl
        subst this
        exact h' e he hbe
      | cons x a ih =>
        intro L hl hL
        subst hL
        exact ih hl.2.2 rfl
    have hin := tail hl hL
    rcases h with rfl | ⟨m', h1, h2⟩
    · exact hin
    · obtain ⟨b1, b2, hb12⟩ := List.append_of_mem hin
      have := mask_before hb n (i := e.on) (by omega) h1 h2 hl (a := a ++ i :: b1) (b := b2) (by rw [hL, hb12]; simp)
      rw [hb12]; simp [this]

end Va

/-
  VA: what makes a drawn region good, in words.
-/
namespace Va
open Go

variable {P : Program}

theorem memN_iff {n : Nat} : ∀ {l : List Nat}, memN n l = true ↔ n ∈ l
  | [] => by simp [memN]
  | m :: l => by
    simp only [memN, Bool.or_eq_true, memN_iff (l := l), List.mem_cons]
    constructor
    · rintro (h | h)
      · exact .inl (Nat.eq_of_beq_eq_true h)
      · exact .inr h
    · rintro (h | h)
      · subst h; exact .inl (Nat.beq_refl _)
      · exact .inr h

theorem slotOk_spec {eff : Bool} {k d mk : Nat} {ops : List Oper} : ∀ {l : List Oper} {ms : List Nat} {i0 : Nat}, slotOk eff k d mk ops l ms i0 = true →
    ∀ i o m, l[i]? = some o → ms[i]? = some m → i0 + i ≠ k → (eff = true ∨ o.dst ≠ some d) ∧ (d ∈ readsOf ops o → m.testBit k = true ∨ (eff = true ∧ mk.testBit (i0 + i) = true))
  | [], _, _, _, i, o, m, h, _, _ => by simp at h
  | p :: l, [], _, _, i, o, m, _, h, _ => by simp at h
  | p :: l, q :: ms, i0, hs, i, o, m, ho, hm, hne => by
    simp only [slotOk, Bool.and_eq_true] at hs
    cases i with
    | zero =>
      simp at ho hm
      subst ho; subst hm
      have h1 := hs.1
      have hb : Nat.beq i0 k = false := by
        cases h : Nat.beq i0 k with
        | false => rfl
        | true => exact absurd (Nat.eq_of_beq_eq_true h) (by simpa using hne)
      simp only [hb, cond_false, Bool.and_eq_true, Bool.or_eq_true, Bool.not_eq_true'] at h1
      refine ⟨h1.1.imp id fun h hd => ?_, fun hr => ?_⟩
      · rw [hd] at h; simp at h
      · rcases h1.2 with (h | h) | h
        · rw [memN_iff.2 hr] at h; cases h
        · exact .inl h
        · exact .inr h
    | succ i =>
      have := slotOk_spec hs.2 i o m (by simpa using ho) (by simpa using hm) (by omega)
      rwa [show i0 + 1 + i = i0 + (i + 1) by omega] at this

theorem slotsOk_spec {ops : List Oper} {ms : List Nat} : ∀ {l : List Oper} {ms' : List Nat} {k0 : Nat}, slotsOk P ops ms l ms' k0 = true →
    ∀ k o mk d, l[k]? = some o → ms'[k]? = some mk → o.dst = some d → slotOk (isEff P o) (k0 + k) d mk ops ops ms 0 = true
  | [], _, _, _, k, o, mk, d, h, _, _ => by simp at h
  | p :: l, [], _, _, k, o, mk, d, _, h, _ => by simp at h
  | p :: l, q :: ms', k0, hs, k, o, mk, d, ho, hm, hd => by
    simp only [slotsOk, Bool.and_eq_true] at hs
    cases k with
    | zero =>
      simp at ho hm
      subst ho; subst hm
      have := hs.1
      rw [hd] at this
      exact this
    | succ k =>
      have := slotsOk_spec hs.2 k o mk d (by simpa using ho) (by simpa using hm) hd
      rwa [show k0 + 1 + k = k0 + (k + 1) by omega] at this

/-- A slot that 'k' writes: if 'k' has no effect nobody else writes it, and who reads it waits for 'k'; else who reads it is ordered with 'k'. -/
theorem slots_spec {ops : List Oper} (h : slotsOk P ops (masks ops []) ops (masks ops []) 0 = true) {k i d mk mi : Nat} {o p : Oper} (hk : ops[k]? = some o) (hmk : (masks ops [])[k]? = some mk) (hd : o.dst = some d)
    (hi : ops[i]? = some p) (hmi : (masks ops [])[i]? = some mi) (hne : i ≠ k) :
    (isEff P o = true ∨ p.dst ≠ some d) ∧ (d ∈ readsOf ops p → mi.testBit k = true ∨ (isEff P o = true ∧ mk.testBit i = true)) := by
  have h1 := slotsOk_spec h k o mk d hk hmk hd
  have h2 := slotOk_spec h1 i p mi hi hmi (by omega)
  simpa using h2

theorem slotOk_own {eff : Bool} {k d mk : Nat} {ops : List Oper} : ∀ {l : List Oper} {ms : List Nat} {i0 : Nat}, slotOk eff k d mk ops l ms i0 = true → ∀ i o m, l[i]? = some o → ms[i]? = some m → i0 + i = k → eff = true ∨ d ∉ readsOf ops o
  | [], _, _, _, i, o, m, h, _, _ => by simp at h
  | p :: l, [], _, _, i, o, m, _, h, _ => by simp at h
  | p :: l, q :: ms, i0, hs, i, o, m, ho, hm, he => by
    simp only [slotOk, Bool.and_eq_true] at hs
    cases i with
    | zero =>
      simp at ho hm
      subst ho; subst hm
      have h1 := hs.1
      have hb : Nat.beq i0 k = true := by simp at he; subst he; exact Nat.beq_refl _
      simp only [hb, cond_true, Bool.or_eq_true, Bool.not_eq_true'] at h1
      refine h1.imp id fun h hr => ?_
      rw [memN_iff.2 hr] at h; cases h
    | succ i => exact slotOk_own hs.2 i o m (by simpa using ho) (by simpa using hm) (by omega)

/-- What an operation of no effect writes it does not read. -/
theorem slots_own {ops : List Oper} (h : slotsOk P ops (masks ops []) ops (masks ops []) 0 = true) {k d mk : Nat} {o : Oper} (hk : ops[k]? = some o) (hmk : (masks ops [])[k]? = some mk) (hd : o.dst = some d) (he : isEff P o = false) :
    d ∉ readsOf ops o := by
  rcases slotOk_own (slotsOk_spec h k o mk d hk hmk hd) k o mk hk hmk (by omega) with h | h
  · rw [he] at h; cases h
  · exact h

theorem predsIn_spec {done : Nat} : ∀ {es : List Edge}, predsIn done es = true ↔ ∀ e ∈ es, Region.binds .any e = true → done.testBit e.on = true
  | [] => by simp [predsIn]
  | e :: l => by
    simp only [predsIn, Bool.and_eq_true, Bool.or_eq_true, Bool.not_eq_true', predsIn_spec (es := l), List.mem_cons, forall_eq_or_imp]
    constructor
    · rintro ⟨h, k⟩
      refine ⟨fun hb => ?_, k⟩
      rcases h with h | h
      · rw [hb] at h; cases h
      · exact h
    · rintro ⟨h, k⟩
      refine ⟨?_, k⟩
      cases hb : Region.binds .any e with
      | false => exact .inl rfl
      | true => exact .inr (h hb)

theorem noneReady_spec {ops : List Oper} {done e : Nat} : ∀ {l : List Oper} {i0 : Nat}, noneReady ops done e l i0 = true → ∀ i o, l[i]? = some o → done.testBit (i0 + i) = true ∨ i0 + i = e ∨ ∃ d ∈ o.after.toList, Region.binds .any d = true ∧ done.testBit d.on = false
  | [], _, _, i, o, h => by simp at h
  | p :: l, i0, hs, i, o, ho => by
    simp only [noneReady, Bool.and_eq_true, Bool.or_eq_true, Bool.not_eq_true'] at hs
    cases i with
    | zero =>
      simp at ho
      subst ho
      rcases hs.1 with (h | h) | h
      · exact .inl h
      · exact .inr (.inl (Nat.eq_of_beq_eq_true h))
      · refine .inr (.inr (Classical.byContradiction fun hn => ?_))
        have : predsIn done p.after.toList = true := predsIn_spec.2 fun d hd hb => by
          cases hx : done.testBit d.on with
          | true => rfl
          | false => exact absurd ⟨d, hd, hb, hx⟩ hn
        rw [this] at h; cases h
    | succ i =>
      have := noneReady_spec hs.2 i o (by simpa using ho)
      rwa [show i0 + 1 + i = i0 + (i + 1) by omega] at this

theorem looseIn_spec {ops : List Oper} {done mask : Nat} {ls : List Nat} : ∀ {l : List Oper} {i0 : Nat}, looseIn P ops done mask ls l i0 = true → ∀ i o, l[i]? = some o → done.testBit (i0 + i) = true → isRead P o = true → mask.testBit (i0 + i) = true ∨ i0 + i ∈ ls
  | [], _, _, i, o, h, _, _ => by simp at h
  | p :: l, i0, hs, i, o, ho, hd, hr => by
    simp only [looseIn, Bool.and_eq_true, Bool.or_eq_true, Bool.not_eq_true'] at hs
    cases i with
    | zero =>
      simp at ho hd ⊢
      subst ho
      rcases hs.1 with ((h | h) | h) | h
      · rw [hd] at h; cases h
      · rw [hr] at h; cases h
      · exact .inl h
      · exact .inr (memN_iff.1 h)
    | succ i =>
      have := looseIn_spec hs.2 i o (by simpa using ho) (by rwa [show i0 + 1 + i = i0 + (i + 1) by omega]) hr
      rwa [show i0 + 1 + i = i0 + (i + 1) by omega] at this

/-- Ahead of the one effect that can run, a list in a good order has only what has run. -/
theorem front_done {ops : Array Oper} {done e : Nat} (hn : noneReady ops.toList done e ops.toList 0 = true) : ∀ {L pre : List Nat}, Lined ops (L.reverse ++ pre) → (∀ i ∈ pre, done.testBit i = true) → done.testBit e = false → e ∈ L →
    ∃ a b, L = a ++ e :: b ∧ ∀ i ∈ a, done.testBit i = true
  | [], _, _, _, _, h => by cases h
  | x :: L, pre, hl, hp, hd, he => by
    by_cases hx : x = e
    · subst hx; exact ⟨[], L, rfl, by simp⟩
    · have hl' : Lined ops (L.reverse ++ (x :: pre)) := by simpa using hl
      have hxd : done.testBit x = true := by
        have hx2 : Lined ops (x :: pre) := by
          have : ∀ {a b : List Nat}, Lined ops (a ++ b) → Lined ops b := by
            intro a
            induction a with
            | nil => exact id
            | cons y a ih => intro b h; exact ih h.2.2
          exact this hl'
        obtain ⟨_, ⟨o, ho, hes⟩, _⟩ := hx2
        rcases noneReady_spec hn x o (by simpa using ho) with h | h | ⟨d, h1, h2, h3⟩
        · simpa using h
        · exact absurd (by simpa using h) hx
        · have := hp d.on (hes d h1 h2)
          rw [this] at h3; cases h3
      obtain ⟨a, b, h1, h2⟩ := front_done hn (pre := x :: pre) hl' (by intro i hi; rcases List.mem_cons.1 hi with rfl | hi; exact hxd; exact hp i hi) hd (by
        rcases List.mem_cons.1 he with h | h
        · exact absurd h.symm hx
        · exact h)
      exact ⟨x :: a, b, by rw [h1]; rfl, by intro i hi; rcases List.mem_cons.1 hi with rfl | hi; exact hxd; exact h2 i hi⟩

end Va

/-
  VA: states.
-/
namespace Va
open Go Go.RowKit

variable {P : Program} {env : Nat → Value} {W0 : World} {ρ σ : Rho} {hp : Tr AO} {nx : Nat} {w w' : World} {X : Nat → Option XK} {fr : Frame} {cs : List Frame} {s : Sem Next}

-- what an operation's outcome does to a frame
theorem ap_value {v : Value} (h : s.run P w = .ok (.value v) w') : (stepG.apply P true fr cs none s w).bare = .go { frame := fr.finish v, callers := cs, status := .running, dying := none } w' := by
  simp [stepG.apply, h]

theorem ap_skip (h : s.run P w = .ok .skip w') : (stepG.apply P true fr cs none s w).bare = .go { frame := fr.finish undef, callers := cs, status := .running, dying := none } w' := by
  simp [stepG.apply, h]

theorem ap_enter {f : FuncId} {args : Array Value} (h : s.run P w = .ok (.enter f args) w') (hk : ∀ d r sv k, fr.todo ≠ .call d true r sv :: k) :
    (stepG.apply P true fr cs none s w).bare = .go { frame := Frame.enter P f args .normal, callers := fr :: cs, status := .running, dying := none } w' := by
  simp [stepG.apply, h]

theorem ap_round {l : Nat} {f : FuncId} {tmps : Array Value} {a b : Code} (h : s.run P w = .ok (.round l f tmps a b) w') :
    (stepG.apply P true fr cs none s w).bare = .go { frame := Frame.round l f tmps a b .normal, callers := fr :: cs, status := .running, dying := none } w' := by
  simp [stepG.apply, h]

theorem ap_defer {d : Deferred} (h : s.run P w = .ok (.defer d) w') : (stepG.apply P true fr cs none s w).bare = .go { frame := { fr with defers := d :: fr.defers }.finish undef, callers := cs, status := .running, dying := none } w' := by
  simp [stepG.apply, h]

theorem ap_recover {c : Frame} (h : s.run P w = .ok .recover w') (hr : fr.roundOf = none) (hk : fr.kind = .deferred) (hm : c.mode = .returning) :
    (stepG.apply P true fr (c :: cs) none s w).bare = .go { frame := fr.finish .nilIface, callers := c :: cs, status := .running, dying := none } w' := by
  simp [stepG.apply, h, hr, tryRecover, hk, hm]

theorem nth_dst {ops : Array Oper} {j : Nat} : dstOf ops.toList j = (ops[j]?).bind (·.dst) := by
  unfold dstOf
  rw [nth_eq]
  simp only [Array.getElem?_toList]
  cases ops[j]? <;> rfl

/-- The guard says the same. -/
theorem wanted_sound {ops : Array Oper} {tm : Tr AV} {tmps : Array Value} {o : Oper} {b : Bool} (h : wantedA ops.toList tm o = some b)
    (ht : ∀ j want d v, o.guard = some (j, want) → dstOf ops.toList j = some d → tm.get d = some v → ∃ v', tmps[d]? = some v' ∧ VR env ρ v v') : Region.wanted o (yielded ops tmps) = b := by
  unfold wantedA at h
  unfold Region.wanted
  cases hg : o.guard with
  | none => rw [hg] at h; simpa using h
  | some jw =>
    obtain ⟨j, want⟩ := jw
    rw [hg] at h
    simp only at h ⊢
    split at h
    · rename_i d hd
      have hy : ∀ v', tmps[d]? = some v' → yielded ops tmps j = (match v' with | .bool b => some b | _ => none) := by
        intro v' hv
        unfold yielded
        rw [← nth_dst, hd]
        simp only [Option.bind_some, hv]
        cases v' <;> rfl
      split at h
      · rename_i c hc
        cases h
        obtain ⟨v', h1, h2⟩ := ht j want d _ hg hd hc
        cases h2
        rw [hy _ h1]
        cases c <;> cases want <;> rfl
      · rename_i hc
        cases h
        obtain ⟨v', h1, h2⟩ := ht j want d _ hg hd hc
        cases h2 with
        | tuple r =>
          rw [hy _ h1]
          rfl
      · cases h
    · cases h

-- what remains to do
inductive ItR (ρ : Rho) : AIt → Item → Prop
  | code (c : Code) : ItR ρ (.code c) (.code c)
  | inBlock (i : Nat) : ItR ρ (.inBlock i) (.inBlock i)
  | inLoop (b : Code) : ItR ρ (.inLoop b) (.inLoop b)
  | inScope (b : Code) : ItR ρ (.inScope b) (.inScope b)
  | inRange {l : Nat} {p : Pl} : ρ l = some p → ItR ρ (.inRangeFunc l) (.inRangeFunc p.blk)
  | endRange {l : Nat} {p : Pl} : ρ l = some p → ItR ρ (.endRangeFunc l) (.endRangeFunc p.blk)
  | beginRound : ItR ρ .beginRound .beginRound

inductive ItsR (ρ : Rho) : List AIt → List Item → Prop
  | nil : ItsR ρ [] []
  | cons {a : AIt} {b : Item} {l : List AIt} {m : List Item} : ItR ρ a b → ItsR ρ l m → ItsR ρ (a :: l) (b :: m)

theorem ItR.mono (h : ρ.le σ) {a : AIt} {b : Item} (r : ItR ρ a b) : ItR σ a b := by
  cases r with
  | code c => exact .code c
  | inBlock i => exact .inBlock i
  | inLoop b => exact .inLoop b
  | inScope b => exact .inScope b
  | inRange e => exact .inRange (h _ _ e)
  | endRange e => exact .endRange (h _ _ e)
  | beginRound => exact .beginRound

theorem ItsR.mono (h : ρ.le σ) {a : List AIt} {b : List Item} (r : ItsR ρ a b) : ItsR σ a b := by
  induction r with
  | nil => exact .nil
  | cons x _ ih => exact .cons (x.mono h) ih

theorem exit_sound {i : Nat} {k k' : List AIt} {m : List Item} (r : ItsR ρ k m) (h : exitA i k = some k') : ∃ m', exitTo i m = some m' ∧ ItsR ρ k' m' := by
  induction r with
  | nil => cases h
  | cons x s ih =>
    cases x with
    | inBlock j =>
      simp only [exitA] at h
      split at h
      · rename_i hb
        cases h
        exact ⟨_, by simp [exitTo, Nat.eq_of_beq_eq_true hb], s⟩
      · rename_i hb
        obtain ⟨m', h1, h2⟩ := ih h
        exact ⟨m', by simp [exitTo, Nat.ne_of_beq_eq_false hb, h1], h2⟩
    | code c => exact ih h
    | inLoop b => exact ih h
    | inScope b => exact ih h
    | inRange e => exact ih h
    | endRange e => exact ih h
    | beginRound => exact ih h

theorem goto_sound {l : Nat} {k k' : List AIt} {m : List Item} (r : ItsR ρ k m) (h : gotoA l k = some k') : ∃ m', gotoIn l m = some m' ∧ ItsR ρ k' m' := by
  induction r with
  | nil => cases h
  | cons x s ih =>
    cases x with
    | inScope b =>
      simp only [gotoA] at h
      split at h
      · rename_i rest hb
        cases h
        exact ⟨_, by simp only [gotoIn, hb], .cons (.code rest) (.cons (.inScope b) s)⟩
      · rename_i hb
        obtain ⟨m', h1, h2⟩ := ih h
        exact ⟨m', by simp only [gotoIn, hb, h1], h2⟩
    | code c => exact ih h
    | inLoop b => exact ih h
    | inBlock i => exact ih h
    | inRange e => exact ih h
    | endRange e => exact ih h
    | beginRound => exact ih h

/-- All of a frame but its slots and what remains to do. -/
structure StR (env : Nat → Value) (ρ : Rho) (s : FS) (ret : Bool) (df : List ADef) (fr : Frame) : Prop where
  fn : fr.fn = s.fn
  kind : fr.kind = if s.dfd then .deferred else .normal
  rnd : match s.rnd with | none => fr.roundOf = none | some l => ∃ p, ρ l = some p ∧ fr.roundOf = some p.blk
  mode : fr.mode = if ret then .returning else .run
  df : DefsR env ρ df fr.defers

theorem StR.mono (h : ρ.le σ) {s : FS} {ret : Bool} {df : List ADef} {fr : Frame} (r : StR env ρ s ret df fr) : StR env σ s ret df fr :=
  ⟨r.fn, r.kind, by
    have := r.rnd
    split at this
    · exact this
    · obtain ⟨p, a, b⟩ := this; exact ⟨p, h _ _ a, b⟩, r.mode, r.df.mono h⟩

end Va

/-
  VA: an operation that the model runs later than VA.
-/
namespace Va
open Go Go.RowKit

variable {P : Program} {env : Nat → Value} {W0 : World} {ρ σ : Rho} {hp : Tr AO} {nx : Nat} {w w' : World} {X : Nat → Option XK} {fr : Frame} {cs : List Frame}

theorem frame_eval (fr : Frame) : fr.eval = (Go.Act.mk fr.tmps fr.defers).eval := by
  funext x; cases x <;> rfl

theorem alloc_fin {s : Sem Value} {hp0 : Tr AO} {b : Nat} {u : AV} {ob : AO} (hg : ∃ v o, ARes.val u (hp0.set b ob) (b + 1) = .val (v b) (hp0.set b o) (b + 1) ∧ AllocOut P env ρ w v o s) :
    ∃ x v' w' sz, (do pure (Next.value (← s)) : Sem Next).run P w = .ok (.value v') w' ∧ w'.heap = w.heap.push x ∧ w'.os = w.os ∧ w'.tape = w.tape ∧ w'.output = w.output ∧
      ∀ σ, ρ.le σ → σ b = some ⟨w.heap.size, 0, sz⟩ → VR env σ u v' ∧ OR env σ ⟨w.heap.size, 0, sz⟩ ob x := by
  obtain ⟨v, o, he, x, v', w', sz, h1, h2, h3, h4, h5, h6⟩ := hg
  simp only [ARes.val.injEq, and_true] at he
  obtain ⟨rfl, he⟩ := he
  have hob : ob = o := by
    have h := congrArg (fun t => Tr.get t b) he
    simp only [Tr.get_set, if_true, Option.some.injEq] at h
    exact h
  subst hob
  exact ⟨x, v', w', sz, by simp [h1], h2, h3, h4, h5, fun σ hσ hb => h6 b σ hσ hb⟩

/-- A new block, made later. -/
theorem alloc_late (henv : ∀ i, (env i).oneCell' = true) {tm : Tr AV} {a : Go.Act} {o : Oper} {b : Nat} {u : AV} {ob : AO} (hc : cls P o = 2) (hE : EvOk env ρ tm a o.op.operands.toList)
    (h : ∀ hp, aop P X tm o hp b = some (.val u (hp.set b ob) (b + 1))) :
    ∃ x v' w' sz, (execOp a.eval o).run P w = .ok (.value v') w' ∧ w'.heap = w.heap.push x ∧ w'.os = w.os ∧ w'.tape = w.tape ∧ w'.output = w.output ∧
      ∀ σ, ρ.le σ → σ b = some ⟨w.heap.size, 0, sz⟩ → VR env σ u v' ∧ OR env σ ⟨w.heap.size, 0, sz⟩ ob x := by
  have h := h .leaf
  obtain ⟨dst, op, ty, pos, after, guard⟩ := o
  unfold aop at h
  simp only at h hE
  cases op <;> first | (simp [cls] at hc; done) | skip
  case alloc e => exact alloc_fin (opAlloc_sound henv h)
  case box e x => exact alloc_fin (opBox_sound henv hE h)
  case buildSlice t l ps => exact alloc_fin (opBuildSlice_sound henv hE h)
  case makeMap t x => exact alloc_fin (opMakeMap_sound (by simpa [Op.operands] using hE) h)
  case makeSlice t l c => exact alloc_fin (opMakeSlice_sound henv hE h)
  case convert s d x =>
    simp only [cls] at hc
    split at hc <;> exact absurd hc (by decide)
  case call c =>
    simp only [cls] at hc
    split at hc <;> exact absurd hc (by decide)

def SlotIs (tm : Tr AV) (d : Option Nat) (v : AV) : Prop := ∀ t, d = some t → tm.get t = some v

/-- What VA says of an operation of no effect that the model has not run yet. 'b': the block that it made, if it made one. -/
inductive Late (P : Program) (X : Nat → Option XK) (ρ : Rho) (ops : List Oper) (tm : Tr AV) (hp : Tr AO) (b : Nat) (o : Oper) : AV → Prop
  | idle : wantedA ops tm o = some false → Late P X ρ ops tm hp b o undefA
  | val {v : AV} : wantedA ops tm o = some true → cls P o ≠ 2 → (∀ nx, aop P X tm o hp nx = some (.val v hp nx)) → Late P X ρ ops tm hp b o v
  | new {v : AV} {ob : AO} : wantedA ops tm o = some true → cls P o = 2 → ρ b = none → hp.get b = some ob → (∀ hp', aop P X tm o hp' b = some (.val v (hp'.set b ob) (b + 1))) → Late P X ρ ops tm hp b o v

/-- The model runs it now. -/
theorem late_run (E : EnvOk P X) (henv : ∀ i, (env i).oneCell' = true) (I : Inv env W0 ρ hp nx w) {ops : Array Oper} {tm : Tr AV} {b i : Nat} {o : Oper} {v : AV} {lst : List Nat} {k : List Item} (hm : fr.mode = .run)
    (ht : fr.todo = .inRegion ops (i :: lst) :: k) (ho : ops[i]? = some o) (hop : cls P o ≠ 3) (hb : b < nx)
    (hE : EvOk env ρ tm ⟨fr.tmps, fr.defers⟩ o.op.operands.toList)
    (hg : ∀ j want d v, o.guard = some (j, want) → dstOf ops.toList j = some d → tm.get d = some v → ∃ v', fr.tmps[d]? = some v' ∧ VR env ρ v v')
    (hl : Late P X ρ ops.toList tm hp b o v) :
    ∃ σ w' v', Steps P (lone fr cs w) (lone (fr.finish v') cs w') ∧ ρ.le σ ∧ VR env σ v v' ∧ Inv env W0 σ hp nx w' ∧ ∀ c, c ≠ b → ρ c = none → σ c = none := by
  have hnd : fr.roundOf = none ∨ ∀ c, o.op ≠ .defer c := .inr fun c hc => hop (by simp [cls, hc])
  cases hl with
  | idle hw =>
    have := wanted_sound hw hg
    exact ⟨ρ, w, undef, .one (st_unwanted hm ht (by simp [ho, this])), Rho.le_refl _, .tuple .nil, I, fun _ _ h => h⟩
  | val hw hc h =>
    have hw := wanted_sound hw hg
    have hr := aop_sound E henv I hE (h nx)
    cases hr with
    | val hg =>
      obtain ⟨v', w', σ, h1, h2, h3, h4, h5, h6⟩ := hg
      refine ⟨σ, w', v', .one (st_op hm ht ho hw hnd ?_), h2, h3, h4, fun c _ hn => ?_⟩
      · rw [frame_eval]
        rcases h1 with h1 | ⟨h1, rfl⟩
        · exact ap_value h1
        · exact ap_skip h1
      · rcases Nat.lt_or_ge c nx with hc | hc
        · exact (h6 c hc hn).1
        · exact h4.fresh c hc
  | new hw hc hn hget h =>
    have hw := wanted_sound hw hg
    obtain ⟨x, v', w', sz, h1, h2, h3, h4, h5, h6⟩ := alloc_late (w := w) henv hc hE h
    obtain ⟨h7, h8⟩ := h6 (ρ.upd b ⟨w.heap.size, 0, sz⟩) (Rho.le_upd hn) (by simp [Rho.upd])
    refine ⟨_, w', v', .one (st_op hm ht ho hw hnd (by rw [frame_eval]; exact ap_value h1)), Rho.le_upd hn, h7, I.alloc hn (fun c => ?_) hb (Nat.le_refl _) h2 h3 h4 h5 h8, fun c hcb hcn => ?_⟩
    · split
      · rename_i e; rw [e]; exact hget
      · rfl
    · simp [Rho.upd, hcb, hcn]

end Va

/-
  VA: what stays true of an operation that is run later.
-/
namespace Va
open Go Go.RowKit

variable {P : Program} {env : Nat → Value} {W0 : World} {ρ σ : Rho} {hp hp' : Tr AO} {nx : Nat} {X : Nat → Option XK} {tm tm' : Tr AV} {ops : List Oper} {o : Oper} {b : Nat} {v : AV}

theorem wantedA_congr (h : ∀ t ∈ readsOf ops o, tm.get t = tm'.get t) : wantedA ops tm o = wantedA ops tm' o := by
  unfold wantedA
  unfold readsOf at h
  cases hg : o.guard with
  | none => rfl
  | some jw =>
    obtain ⟨j, want⟩ := jw
    rw [hg] at h
    simp only at h ⊢
    cases hd : dstOf ops j with
    | none => rfl
    | some d =>
      rw [hd] at h
      simp only at h ⊢
      rw [h d (by simp)]

theorem reads_ev (h : ∀ t ∈ readsOf ops o, tm.get t = tm'.get t) : ∀ x ∈ o.op.operands.toList, ev tm x = ev tm' x := by
  intro x hx
  refine ev_congr fun t ht => h t ?_
  subst ht
  unfold readsOf
  exact List.mem_append.2 (.inr (mem_operandTmps hx))

theorem Late.tm_eq (h : ∀ t ∈ readsOf ops o, tm.get t = tm'.get t) (l : Late P X ρ ops tm hp b o v) : Late P X ρ ops tm' hp b o v := by
  have hw := wantedA_congr h
  have ha : ∀ hp nx, aop P X tm o hp nx = aop P X tm' o hp nx := fun hp nx => aop_congr (reads_ev h)
  cases l with
  | idle a => exact .idle (hw ▸ a)
  | val a c d => exact .val (hw ▸ a) c (fun nx => by rw [← ha]; exact d nx)
  | new a c d e f => exact .new (hw ▸ a) c d e (fun hp' => by rw [← ha]; exact f hp')

/-- Memory changes, but not the block that it made; a read is to be checked anew. -/
theorem Late.keep (hc : cls P o ≠ 1) (h3 : cls P o ≠ 3) (hlt : cls P o < 4) (hb : ρ b = none → σ b = none ∧ hp'.get b = hp.get b) (l : Late P X ρ ops tm hp b o v) : Late P X σ ops tm hp' b o v := by
  cases l with
  | idle a => exact .idle a
  | val a c d =>
    have h0 : cls P o = 0 := by omega
    obtain ⟨u, h1, h2⟩ := cls0 h0 (d 0)
    cases h1
    exact .val a c (fun nx => h2 hp' nx)
  | new a c d e f => exact .new a c (hb d).1 (by rw [(hb d).2]; exact e) f

theorem cls_lt (o : Oper) : cls P o < 4 := by
  unfold cls
  repeat' split
  all_goals decide

/-- VA runs an operation of no effect: so it can be run later. -/
theorem late_of_run {r : ARes} (hw : wantedA ops tm o = some true) (hc : cls P o ≠ 3) (h : aop P X tm o hp nx = some r) (hf : ρ nx = none) (tmx : Tr AV) (ht : ∀ t ∈ readsOf ops o, tm.get t = tmx.get t) :
    ∃ v hp' nx', r = .val v hp' nx' ∧ Late P X ρ ops tmx hp' nx o v ∧ ((cls P o ≠ 2 ∧ hp' = hp ∧ nx' = nx) ∨ (cls P o = 2 ∧ (∃ ob, hp' = hp.set nx ob) ∧ nx' = nx + 1)) := by
  have hl := cls_lt (P := P) o
  have h012 : cls P o = 0 ∨ cls P o = 1 ∨ cls P o = 2 := by omega
  rcases h012 with h0 | h0 | h0
  · obtain ⟨v, rfl, h1⟩ := cls0 h0 h
    exact ⟨v, hp, nx, rfl, Late.tm_eq ht (.val hw (by omega) (fun nx => h1 hp nx)), .inl ⟨by omega, rfl, rfl⟩⟩
  · obtain ⟨v, rfl, h1⟩ := cls1 h0 h
    exact ⟨v, hp, nx, rfl, Late.tm_eq ht (.val hw (by omega) h1), .inl ⟨by omega, rfl, rfl⟩⟩
  · obtain ⟨v, ob, rfl, h1⟩ := cls2 h0 h
    exact ⟨v nx, _, _, rfl, Late.tm_eq ht (.new hw h0 hf (by rw [Tr.get_set, if_pos rfl]) (fun hp' => h1 hp' nx)), .inr ⟨h0, ⟨ob, rfl⟩, rfl⟩⟩

end Va

/-
  VA: what a check of a read says.
-/
namespace Va
open Go Go.RowKit

variable {P : Program} {X : Nat → Option XK} {tm : Tr AV} {hp : Tr AO} {nx : Nat} {o : Oper} {ρ : Rho} {ops : List Oper} {b : Nat}

theorem strEq_sound : ∀ {a b : List Nat}, strEq a b = true → a = b
  | [], [], _ => rfl
  | x :: a, y :: b, h => by
    simp only [strEq, Bool.and_eq_true] at h
    rw [Nat.eq_of_beq_eq_true h.1, strEq_sound h.2]
  | [], _ :: _, h => by cases h
  | _ :: _, [], h => by cases h

theorem optEq_sound {a b : Option (Nat × Nat)} (h : optEq a b = true) : a = b := by
  unfold optEq at h
  split at h
  · rfl
  · simp only [Bool.and_eq_true] at h
    rw [Nat.eq_of_beq_eq_true h.1, Nat.eq_of_beq_eq_true h.2]
  · cases h

theorem cellEq_sound {a b : AV} (h : cellEq a b = true) : a = b := by
  unfold cellEq at h
  split at h <;> try simp only [Bool.and_eq_true, beq_iff_eq] at h
  · rw [h]
  · rw [kEq_eq h.1]
    have := h.2
    rw [iEq_eq] at this
    rw [eq_of_beq this]
  · rw [strEq_sound h]
  · rw [optEq_sound h]
  · obtain ⟨⟨⟨⟨h1, h2⟩, h3⟩, h4⟩, h5⟩ := h
    rw [optEq_sound h1, Nat.eq_of_beq_eq_true h2, Nat.eq_of_beq_eq_true h3, h4, Nat.eq_of_beq_eq_true h5]
  · rfl
  · rw [Nat.eq_of_beq_eq_true h]
  · rfl
  · rfl
  · rw [Nat.eq_of_beq_eq_true h]
  · rw [Nat.eq_of_beq_eq_true h]
  · cases h

theorem cellsEq_sound : ∀ {a b : List AV}, cellsEq a b = true → a = b
  | [], [], _ => rfl
  | x :: a, y :: b, h => by
    simp only [cellsEq, Bool.and_eq_true] at h
    rw [cellEq_sound h.1, cellsEq_sound h.2]
  | [], _ :: _, h => by cases h
  | _ :: _, [], h => by cases h

theorem avEq_sound {a b : AV} (h : avEq a b = true) : a = b := by
  unfold avEq at h
  split at h
  · rw [cellsEq_sound h]
  · rw [cellsEq_sound h]
  · simp only [Bool.and_eq_true] at h
    rw [Nat.eq_of_beq_eq_true h.1]
    have h2 := h.2
    split at h2
    · rw [cellsEq_sound h2]
    · rw [cellEq_sound h2]
  · exact cellEq_sound h

/-- A read that is checked reads now what it has read. -/
theorem late_of_check (hr : isRead P o = true) (h : checkOne P X tm hp nx ops o = true) {v : AV} (hv : wantedA ops tm o = some true → ∀ d, o.dst = some d → tm.get d = some v) (hidle : wantedA ops tm o = some false → v = undefA) :
    Late P X ρ ops tm hp b o v := by
  have hc : cls P o = 1 := Nat.eq_of_beq_eq_true hr
  unfold checkOne at h
  split at h
  · rename_i hw
    unfold sameVal at h
    split at h
    · rename_i u u' h1 h2
      have := avEq_sound h
      subst this
      unfold valOf at h2
      split at h2
      · rename_i x hp' nx' hr
        cases h2
        obtain ⟨u', h3, h4⟩ := cls1 hc hr
        cases h3
        cases hd : o.dst with
        | none => rw [hd] at h1; cases h1
        | some d =>
          rw [hd] at h1
          have := hv hw d hd
          simp only [getO] at h1
          rw [this] at h1
          cases h1
          exact .val hw (by omega) h4
      · cases h2
    · cases h
  · rename_i hw
    rw [hidle hw]
    exact .idle hw
  · cases h

theorem checkA_spec : ∀ {l : List Nat}, checkA P X tm hp nx ops l = true → ∀ i ∈ l, ∃ o, ops[i]? = some o ∧ checkOne P X tm hp nx ops o = true
  | [], _, i, h => by cases h
  | j :: l, h, i, hi => by
    simp only [checkA, Bool.and_eq_true] at h
    rcases List.mem_cons.1 hi with rfl | hi
    · have h1 := h.1
      split at h1
      · rename_i o ho
        rw [nth_eq] at ho
        exact ⟨o, ho, h1⟩
      · cases h1
    · exact checkA_spec h.2 i hi

end Va

/-
  VA: a drawn region, from within.
-/
namespace Va
open Go Go.RowKit

variable {P : Program} {env : Nat → Value} {W0 : World} {ρ σ : Rho} {hp : Tr AO} {nx : Nat} {w w' : World} {X : Nat → Option XK} {fr : Frame} {cs : List Frame} {ops : Array Oper}

theorem masks_get {i : Nat} {o : Oper} (h : ops[i]? = some o) : ∃ m, (masks ops.toList [])[i]? = some m := by
  obtain ⟨ms, h1, _, h3⟩ := masks_acc ops.toList []
  rw [h1]
  exact ⟨_, by simpa using h3 i o (by simpa using h)⟩

/-- What the first of a list reads is written by none of the list that has no effect. -/
theorem slot_free (hb : edgesBack ops.toList 0 = true) (hs : slotsOk P ops.toList (masks ops.toList []) ops.toList (masks ops.toList []) 0 = true) {i : Nat} {rest pre : List Nat} (hl : Lined ops ((i :: rest).reverse ++ pre)) {o : Oper} (ho : ops[i]? = some o)
    {t : Nat} (ht : t ∈ readsOf ops.toList o) {j : Nat} (hj : j ∈ i :: rest) {p : Oper} (hp : ops[j]? = some p) (he : cls P p ≠ 3) : p.dst ≠ some t := by
  intro hd
  have hl' : Lined ops (rest.reverse ++ i :: pre) := by simpa using hl
  obtain ⟨mj, hmj⟩ := masks_get hp
  obtain ⟨mi, hmi⟩ := masks_get ho
  have hef : isEff P p = false := by
    cases h : isEff P p with
    | false => rfl
    | true => exact absurd (Nat.eq_of_beq_eq_true h) he
  by_cases e : i = j
  · subst e
    rw [ho] at hp; cases hp
    exact slots_own hs (by simpa using ho) hmi hd hef ht
  · have h1 := (slots_spec hs (by simpa using hp) hmj hd (by simpa using ho) hmi e).2 ht
    rw [hef] at h1
    have h2 : mi.testBit j = true := by
      rcases h1 with h | h
      · exact h
      · exact absurd h.1 (by simp)
    have h3 := mask_before hb (i + 1) (Nat.lt_succ_self _) hmi h2 hl' rfl
    have h4 := lined_nodup hl'
    have h5 : j ∈ rest := by
      rcases List.mem_cons.1 hj with h | h
      · exact absurd h.symm e
      · exact h
    rw [List.nodup_append] at h4
    exact h4.2.2 j (by simp [h5]) j (by simp [h3]) rfl

/-- The slots of a frame within a drawn region: those of the operations that the model has not run yet are not there. -/
def TmP (env : Nat → Value) (ρ : Rho) (nt : Nat) (tm : Tr AV) (tmps : Array Value) (pd : Nat → Prop) : Prop :=
  nt ≤ tmps.size ∧ ∀ t v, tm.get t = some v → pd t ∨ ∃ v', tmps[t]? = some v' ∧ VR env ρ v v'

/-- The slots that operations of a list write that VA has done. -/
def Pd (ops : Array Oper) (done : Nat) (lst : List Nat) (t : Nat) : Prop := ∃ i ∈ lst, done.testBit i = true ∧ ∃ o, ops[i]? = some o ∧ o.dst = some t

/-- The operations of a list that VA has done, each with its block. -/
structure LateAll (P : Program) (X : Nat → Option XK) (ρ : Rho) (ops : Array Oper) (tm : Tr AV) (hp : Tr AO) (nx : Nat) (done : Nat) (lst : List Nat) (blk : Nat → Nat) : Prop where
  late : ∀ i ∈ lst, done.testBit i = true → ∃ o v, ops[i]? = some o ∧ cls P o ≠ 3 ∧ blk i < nx ∧ SlotIs tm o.dst v ∧ Late P X ρ ops.toList tm hp (blk i) o v
  inj : ∀ i ∈ lst, ∀ j ∈ lst, done.testBit i = true → done.testBit j = true → i ≠ j → blk i ≠ blk j ∨ blk i = 0

/-- The model catches up by one operation. -/
theorem catch_one (E : EnvOk P X) (henv : ∀ i, (env i).oneCell' = true) (I : Inv env W0 ρ hp nx w) {tm : Tr AV} {nt done i : Nat} {rest pre : List Nat} {blk : Nat → Nat} {k : List Item} (hm : fr.mode = .run) (ht : fr.todo = .inRegion ops (i :: rest) :: k)
    (hb : edgesBack ops.toList 0 = true) (hs : slotsOk P ops.toList (masks ops.toList []) ops.toList (masks ops.toList []) 0 = true) (hl : Lined ops ((i :: rest).reverse ++ pre)) (hd : done.testBit i = true)
    (hA : LateAll P X ρ ops tm hp nx done (i :: rest) blk) (hT : TmP env ρ nt tm fr.tmps (Pd ops done (i :: rest))) (hi : ∀ o t, ops[i]? = some o → o.dst = some t → t < nt) :
    ∃ σ w' fr', Steps P (lone fr cs w) (lone fr' cs w') ∧ ρ.le σ ∧ Inv env W0 σ hp nx w' ∧ (∀ c, c ≠ blk i → ρ c = none → σ c = none) ∧ fr'.todo = .inRegion ops rest :: k ∧ LateAll P X σ ops tm hp nx done rest blk ∧
      TmP env σ nt tm fr'.tmps (Pd ops done rest) ∧ fr'.fn = fr.fn ∧ fr'.defers = fr.defers ∧ fr'.mode = fr.mode ∧ fr'.kind = fr.kind ∧ fr'.roundOf = fr.roundOf := by
  obtain ⟨o, v, ho, hc, hlt, hsl, hlate⟩ := hA.late i (by simp) hd
  have read : ∀ t ∈ readsOf ops.toList o, ∀ v, tm.get t = some v → ∃ v', fr.tmps[t]? = some v' ∧ VR env ρ v v' := by
    intro t htr v hv
    rcases hT.2 t v hv with ⟨j, hj, hjd, p, hp1, hp2⟩ | h
    · obtain ⟨p', _, hp', hc', _⟩ := hA.late j hj hjd
      rw [hp1] at hp'; cases hp'
      exact absurd hp2 (slot_free hb hs hl ho htr hj hp1 hc')
    · exact h
  have hE : EvOk env ρ tm ⟨fr.tmps, fr.defers⟩ o.op.operands.toList := by
    intro x hx v hv
    refine ev_sound I (fun t e v hv => read t ?_ v hv) hv
    subst e
    unfold readsOf
    exact List.mem_append.2 (.inr (mem_operandTmps hx))
  have hg : ∀ j want d v, o.guard = some (j, want) → dstOf ops.toList j = some d → tm.get d = some v → ∃ v', fr.tmps[d]? = some v' ∧ VR env ρ v v' := by
    intro j want d v h1 h2 h3
    refine read d ?_ v h3
    unfold readsOf
    rw [h1]
    simp [h2]
  obtain ⟨σ, w', v', h1, h2, h3, h4, h5⟩ := late_run (cs := cs) E henv I hm ht ho hc hlt hE hg hlate
  have hfin : fr.finish v' = { fr with tmps := match o.dst with | some d => fr.tmps.setIfInBounds d v' | none => fr.tmps, todo := .inRegion ops rest :: k } := by
    unfold Frame.finish
    rw [ht]
    simp only [ho, Option.bind_some]
    cases o.dst <;> rfl
  refine ⟨σ, w', _, h1, h2, h4, h5, by rw [hfin], ⟨fun j hj hjd => ?_, fun a ha b hb' => hA.inj a (by simp [ha]) b (by simp [hb'])⟩, ⟨?_, ?_⟩, by rw [hfin], by rw [hfin], by rw [hfin], by rw [hfin], by rw [hfin]⟩
  · obtain ⟨p, u, g1, g2, g3, g4, g5⟩ := hA.late j (by simp [hj]) hjd
    refine ⟨p, u, g1, g2, g3, g4, ?_⟩
    have hij : j ≠ i := by
      intro e
      subst e
      have h6 := (List.nodup_append.1 (lined_nodup hl)).1
      rw [List.reverse_cons] at h6
      exact (List.nodup_append.1 h6).2.2 j (by simp [hj]) j (by simp) rfl
    cases g5 with
    | idle a => exact .idle a
    | val a b c => exact .val a b c
    | new a b c d e =>
      refine .new a b (h5 _ ?_ c) d e
      rcases hA.inj j (by simp [hj]) i (by simp) hjd hd hij with h | h
      · exact h
      · obtain ⟨n, hn⟩ := I.glob 0 (by decide)
        rw [h, hn] at c; cases c
  · rw [hfin]
    simp only
    split
    · simpa using hT.1
    · exact hT.1
  · intro t u hu
    rw [hfin]
    simp only
    by_cases hdt : o.dst = some t
    · right
      rw [hdt]
      have := hsl t hdt
      rw [hu] at this
      cases this
      have hlt : t < fr.tmps.size := Nat.lt_of_lt_of_le (hi o t ho hdt) hT.1
      exact ⟨v', by simp [hlt], h3⟩
    · have hne : (match o.dst with | some d => fr.tmps.setIfInBounds d v' | none => fr.tmps)[t]? = fr.tmps[t]? := by
        split
        · rename_i d hd'
          rw [Array.getElem?_setIfInBounds, if_neg]
          intro e; subst e; exact hdt hd'
        · rfl
      rcases hT.2 t u hu with ⟨j, hj, hjd, p, hp1, hp2⟩ | ⟨u', q1, q2⟩
      · rcases List.mem_cons.1 hj with e | hj
        · subst e
          rw [ho] at hp1; cases hp1
          exact absurd hp2 hdt
        · exact .inl ⟨j, hj, hjd, p, hp1, hp2⟩
      · exact .inr ⟨u', by rw [hne]; exact q1, q2.mono h2⟩

end Va

/-
  VA: a drawn region: catching up.
-/
namespace Va
open Go Go.RowKit

variable {P : Program} {env : Nat → Value} {W0 : World} {ρ σ : Rho} {hp : Tr AO} {nx : Nat} {w w' : World} {X : Nat → Option XK} {fr : Frame} {cs : List Frame} {ops : Array Oper}

/-- The model catches up by all that stand in front. -/
theorem catch_all (E : EnvOk P X) (henv : ∀ i, (env i).oneCell' = true) {tm : Tr AV} {nt done : Nat} {b : List Nat} {blk : Nat → Nat} {k : List Item}
    (hb : edgesBack ops.toList 0 = true) (hs : slotsOk P ops.toList (masks ops.toList []) ops.toList (masks ops.toList []) 0 = true) (hi : ∀ (i : Nat) o t, done.testBit i = true → ops[i]? = some o → o.dst = some t → t < nt) :
    ∀ (a : List Nat) {pre : List Nat} {ρ : Rho} {w : World} {fr : Frame}, Inv env W0 ρ hp nx w → fr.mode = .run → fr.todo = .inRegion ops (a ++ b) :: k → Lined ops ((a ++ b).reverse ++ pre) → (∀ i ∈ a, done.testBit i = true) →
    LateAll P X ρ ops tm hp nx done (a ++ b) blk → TmP env ρ nt tm fr.tmps (Pd ops done (a ++ b)) →
    ∃ σ w' fr', Steps P (lone fr cs w) (lone fr' cs w') ∧ ρ.le σ ∧ Inv env W0 σ hp nx w' ∧ (∀ c, (∀ i ∈ a, c ≠ blk i) → ρ c = none → σ c = none) ∧ fr'.todo = .inRegion ops b :: k ∧ Lined ops (b.reverse ++ (a.reverse ++ pre)) ∧ LateAll P X σ ops tm hp nx done b blk ∧
      TmP env σ nt tm fr'.tmps (Pd ops done b) ∧ fr'.fn = fr.fn ∧ fr'.defers = fr.defers ∧ fr'.mode = fr.mode ∧ fr'.kind = fr.kind ∧ fr'.roundOf = fr.roundOf
  | [], pre, ρ, w, fr, I, hm, ht, hl, _, hA, hT => ⟨ρ, w, fr, .refl P _, Rho.le_refl _, I, fun _ _ h => h, ht, by simpa using hl, hA, hT, rfl, rfl, rfl, rfl, rfl⟩
  | i :: a, pre, ρ, w, fr, I, hm, ht, hl, hd, hA, hT => by
    obtain ⟨σ, w', fr', h1, h2, h3, h4, h5, h6, h7, e1, e2, e3, e4, e5⟩ := catch_one (cs := cs) (rest := a ++ b) (pre := pre) E henv I hm ht hb hs hl (hd i (by simp)) hA hT (fun o t => hi i o t (hd i (by simp)))
    obtain ⟨τ, w'', fr'', g1, g2, g3, g4, g5, g6, g7, g8, f1, f2, f3, f4, f5⟩ := catch_all E henv hb hs hi a (pre := i :: pre) h3 (e3.trans hm) h5 (by simpa using hl) (fun j hj => hd j (by simp [hj])) h6 h7
    exact ⟨τ, w'', fr'', h1.trans g1, Rho.le_trans h2 g2, g3, fun c hc hn => g4 c (fun j hj => hc j (by simp [hj])) (h4 c (hc i (by simp)) hn), g5, by simpa using g6, g7, g8,
      f1.trans e1, f2.trans e2, f3.trans e3, f4.trans e4, f5.trans e5⟩

end Va

/-
  VA: rounds of a range over a function.
-/
namespace Va
open Go Go.RowKit

variable {P : Program} {w : World} {l : Nat} {r : Loop}

theorem run_getLoop (h : w.heap[l]? = some (.loop r)) : (Instr.getLoop l).run P w = .ok r w := by
  have := run_getObj (P := P) h trivial
  unfold Instr.getLoop
  simp [this]

theorem run_yield (h : w.heap[l]? = some (.loop r)) {args : Array Value} (hs : args.size = r.params.size) :
    (Instr.yield l args).run P w = .ok (.round l r.fn ((r.params.zip args).foldl (fun tmps (t, a) => tmps.setIfInBounds t a) r.tmps) r.assign r.body) w := by
  unfold Instr.yield
  simp [run_getLoop h, hs]

theorem run_endRound (h : w.heap[l]? = some (.loop r)) (jump : Option Code) :
    (Instr.endRound l jump).run P w = .ok (.bool jump.isNone) { w with heap := w.heap.setIfInBounds l (.loop { r with state := if jump.isNone then .ready else .done, pending := jump }) } := by
  unfold Instr.endRound
  simp [run_getLoop h, run_setObj (P := P) h rfl]

theorem run_beginRound (h : w.heap[l]? = some (.loop r)) (hs : r.state = .ready) :
    (Instr.beginRound l).run P w = .ok () { w with heap := w.heap.setIfInBounds l (.loop { r with state := .busy }) } := by
  unfold Instr.beginRound
  simp [run_getLoop h, run_setObj (P := P) h rfl, hs]

theorem run_endLoop (h : w.heap[l]? = some (.loop r)) (hs : r.state ≠ .busy) :
    (Instr.endLoop l).run P w = .ok r.pending { w with heap := w.heap.setIfInBounds l (.loop { r with state := .exhausted }) } := by
  unfold Instr.endLoop
  simp [run_getLoop h, run_setObj (P := P) h rfl, hs]

theorem run_takeDeferred {ds : List Deferred} (h : w.heap[l]? = some (.deferred (some ds))) :
    (Instr.takeDeferred l).run P w = .ok ds { w with heap := w.heap.setIfInBounds l (.deferred none) } := by
  have := run_getObj (P := P) h trivial
  unfold Instr.takeDeferred
  simp [this, run_setObj (P := P) h rfl]

theorem TmR.set {env : Nat → Value} {ρ : Rho} {nt d : Nat} {tm : Tr AV} {tmps : Array Value} {v : AV} {v' : Value} (h : TmR env ρ nt tm tmps) (hd : d < nt) (hv : VR env ρ v v') : TmR env ρ nt (tm.set d v) (tmps.setIfInBounds d v') := by
  refine ⟨by simpa using h.1, fun t u hu => ?_⟩
  rw [Tr.get_set] at hu
  by_cases e : t = d
  · subst e
    rw [if_pos rfl] at hu
    cases hu
    have := h.1
    exact ⟨v', by rw [Array.getElem?_setIfInBounds, if_pos rfl, if_pos (by omega)], hv⟩
  · rw [if_neg e] at hu
    obtain ⟨u', a, b⟩ := h.2 t u hu
    exact ⟨u', by rw [Array.getElem?_setIfInBounds, if_neg (Ne.symm e)]; exact a, b⟩

theorem setParams_sound {env : Nat → Value} {ρ : Rho} {nt : Nat} : ∀ {ps : List Tmp} {vs : List AV} {ws : List Value} {tm tm' : Tr AV} {tmps : Array Value}, setParams nt tm ps vs = some tm' → VRs env ρ vs ws → TmR env ρ nt tm tmps →
    ws.length = ps.length ∧ TmR env ρ nt tm' ((ps.zip ws).foldl (fun tmps (t, a) => tmps.setIfInBounds t a) tmps)
  | [], _, _, tm, tm', tmps, h, r, ht => by
    cases r with
    | nil => simp only [setParams, Option.some.injEq] at h; subst h; exact ⟨rfl, ht⟩
    | cons a b => cases h
  | p :: ps, _, _, tm, tm', tmps, h, r, ht => by
    cases r with
    | nil => cases h
    | cons a b =>
      simp only [setParams] at h
      split at h
      · rename_i hp
        obtain ⟨h1, h2⟩ := setParams_sound h b (ht.set (by simpa using hp) a)
        exact ⟨by simp [h1], by simpa using h2⟩
      · cases h

end Va

