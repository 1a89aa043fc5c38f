/-
  VA, an abstract machine for fixed calls, and its soundness: part 7 of 7.
-/
import Derived.Test.YthbnehhonkakaaaGreatDoorVa6
import Derived.KernelRfl
import Derived.Handed
import Derived.Carry
/-
  VA: frames that leave, step by step; a step as a whole; a run.
-/
namespace Va
open Go Go.RowKit

variable {P : Program} {env : Nat → Value} {W0 : World} {ρ σ : Rho} {hp hp' : Tr AO} {nx : Nat} {w w' : World} {X : Nat → Option XK} {f : FuncId} {cs0 : List Frame}
variable {lo hi nt : Nat} {tm tm' : Tr AV} {tmps : Array Value} {s : FS} {df : List ADef} {todo k : List AIt} {as : List AFr} {fr : Frame} {fs : List Frame} {s' : ASt}

/-- A state whose frame leaves, in parts. -/
structure Out (P : Program) (X : Nat → Option XK) (env : Nat → Value) (W0 : World) (f : FuncId) (ρ : Rho) (lo : Nat) (s : FS) (tm : Tr AV) (df : List ADef) (as : List AFr) (hp : Tr AO) (nx : Nat) (fr : Frame) (fs : List Frame) (w : World) : Prop where
  inv : Inv env W0 ρ hp nx w
  low : lo ≤ nx
  st : StR env ρ s true df fr
  nd : s.rnd = none ∨ s.dfd = false
  out : TmR env ρ s.nt tm fr.tmps
  stk : StkR P X env ρ hp f lo s as fs

theorem mapM_go {α : Type} (g : α → Sem Value) (rel : α → Option AV) : ∀ (l : List α) (vs : List AV), mapO rel l = some vs →
    (∀ x ∈ l, ∀ v, rel x = some v → ∃ v', (g x).run P w = .ok v' w ∧ VR env ρ v v') → ∃ us : List Value, (l.mapM g).run P w = .ok us w ∧ VRs env ρ vs us
  | [], vs, h, _ => by simp [mapO] at h; subst h; exact ⟨[], by simp, .nil⟩
  | x :: l, vs, h, hr => by
    simp only [mapO] at h
    split at h
    · cases h
    · rename_i v hv
      split at h
      · cases h
      · rename_i r hl
        cases h
        obtain ⟨v', h1, h2⟩ := hr x (by simp) v hv
        obtain ⟨us, h3, h4⟩ := mapM_go g rel l r hl (fun y hy => hr y (by simp [hy]))
        exact ⟨v' :: us, by simp [h1, h3], .cons h2 h4⟩

theorem mapM_arr {α : Type} {g : α → Sem Value} {a : Array α} {us : List Value} (h : (a.toList.mapM g).run P w = .ok us w) : (a.mapM g).run P w = .ok us.toArray w := by
  rw [Array.mapM_eq_mapM_toList]
  simp [h]

def resRun (tmps : Array Value) : ResultVar → Sem Value
  | .tmp t => pure (tmps.getD t undef)
  | .cell a t => do loadVar t (← asAddr (tmps.getD a undef))

theorem results_eq {fn : Func} : results fn tmps = (do let vs ← fn.results.mapM (resRun tmps); pure (if h : vs.size = 1 then vs[0] else .tuple vs)) := by
  unfold results
  congr 1

theorem results_sound (I : Inv env W0 ρ hp nx w) {fn : Func} (ht : TmR env ρ nt tm tmps) {l : List AV} (h : resultsA P hp tm fn.results.toList = some l) :
    ∃ v', (results fn tmps).run P w = .ok v' w ∧ VR env ρ (oneOf l) v' := by
  have hone : ∀ x ∈ fn.results.toList, ∀ v, resultA P hp tm x = some v → ∃ v', (resRun tmps x).run P w = .ok v' w ∧ VR env ρ v v' := by
    intro x _ v hv
    cases x with
    | tmp t =>
      obtain ⟨v', h1, h2⟩ := ht.2 t v hv
      exact ⟨v', by simp [resRun, Array.getD_eq_getD_getElem?, h1], h2⟩
    | cell a t =>
      simp only [resultA] at hv
      split at hv
      · rename_i b off ha
        obtain ⟨v', h1, h2⟩ := ht.2 a _ ha
        cases h2 with
        | ptr e =>
          obtain ⟨u, h3, h4⟩ := loadA_sound (P := P) I hv e
          exact ⟨u, by simp [resRun, Array.getD_eq_getD_getElem?, h1, asAddr, h3], h4⟩
      · cases hv
  obtain ⟨us, h1, h2⟩ := mapM_go (P := P) (w := w) _ _ _ _ h hone
  have hm := mapM_arr h1
  rw [results_eq]
  refine ⟨if h : us.toArray.size = 1 then us.toArray[0] else .tuple us.toArray, by simp only [Sem.run_bind, hm, Result.andThen_ok, Sem.run_pure], ?_⟩
  cases h2 with
  | nil => simp [oneOf]; exact .tuple .nil
  | @cons a a' l l' r t =>
    cases t with
    | nil => simp [oneOf]; exact r
    | cons r2 t2 => simp [oneOf]; exact .tuple (.cons r (.cons r2 t2))

theorem resultsOf_some {g : FuncId} {l : List ResultVar} (h : resultsOf P g = some l) : ∃ fn, P.funcs[g]? = some fn ∧ l = fn.results.toList := by
  unfold resultsOf at h
  split at h
  · rename_i fn hf; cases h; exact ⟨fn, hf, rfl⟩
  · cases h

theorem Out.result (R : Out P X env W0 f ρ lo s tm [] as hp nx fr fs w) {rs : List ResultVar} (hr : resultsOf P s.fn = some rs) {l : List AV}
    (hl : resultsA P hp tm rs = some l) : ∃ fn v', P.funcs[fr.fn]? = some fn ∧ (results fn fr.tmps).run P w = .ok v' w ∧ VR env ρ (oneOf l) v' := by
  obtain ⟨fn, hf, rfl⟩ := resultsOf_some hr
  obtain ⟨v', h1, h2⟩ := results_sound R.inv R.out hl
  exact ⟨fn, v', by rw [R.st.fn]; exact hf, h1, h2⟩

/-- What a state of VA that is done says. -/
def Done (P : Program) (env : Nat → Value) (W0 : World) (f : FuncId) (cs0 : List Frame) (m : Machine) (v : AV) : Prop :=
  ∃ ρ fr w v', m = lone fr cs0 w ∧ fr.fn = f ∧ fr.leaving P w (.returned v') ∧ VR env ρ v v' ∧ Below W0.heap.size W0 w

theorem returnF_cases {r : AR} (h : returnF P s tm as hp nx (resultsOf P s.fn) = r) (hr : ∀ n, r ≠ .fail n) :
    ∃ rs l, resultsOf P s.fn = some rs ∧ resultsA P hp tm rs = some l ∧ returnA s.dfd as hp nx (oneOf l) = r := by
  unfold returnF at h
  split at h
  · rename_i rs hrs
    unfold returnO at h
    split at h
    · rename_i l hl
      exact ⟨rs, l, hrs, hl, h⟩
    · exact absurd h.symm (hr _)
  · exact absurd h.symm (hr _)

theorem Out.step (E : EnvOk P X) (R : Out P X env W0 f ρ lo s tm df as hp nx fr fs w) (h : unwindA P X s tm todo df as hp nx = .next s') : Goes P X env W0 f cs0 (lone fr (fs ++ cs0) w) s' := by
  have hmode : fr.mode = .returning := R.st.mode
  have hlow := R.low
  unfold unwindA at h
  split at h
  · rename_i r ds
    have hd := R.st.df
    generalize hdf : fr.defers = dd at hd
    cases hd with
    | cons a b =>
      cases a with
      | @collected _ p hp2 =>
        unfold takeDefers at h
        split at h
        · rename_i l ho
          unfold putThen at h
          split at h
          · rename_i hp1 hput
            obtain ⟨hl, rfl⟩ := putH_some hput
            cases h
            obtain ⟨ob, h1, h2⟩ := R.inv.obj r _ p ho hp2 rfl
            cases ob <;> simp only [OR] at h2
            rename_i c'
            cases c' with
            | none => simp only at h2
            | some l' =>
              simp only at h2
              have I' := R.inv.write (p := p) (o' := .deferred none) (ob := .deferred none) ho rfl hp2 hl (Chg.set h1) (by simp only [OR])
              have hne : ∀ b, b < lo → ρ b = none → ρ b = none ∧ (hp.set r (.deferred none)).get b = hp.get b :=
                fun b _ hz => ⟨hz, set_other (fun e => by rw [e, hp2] at hz; cases hz)⟩
              exact ⟨_, .one (st_take hmode hdf h1), .mk I' R.low ⟨⟨R.st.fn, R.st.kind, R.st.rnd, R.st.mode, h2.append b⟩, R.nd, fun _ => R.out, fun e => by simp at e⟩ (R.stk.keep R.inv.zero (Rho.le_refl _) hne)⟩
          · cases h
        · cases h
  · rename_i fn captured args ds
    have hd := R.st.df
    generalize hdf : fr.defers = dd at hd
    cases hd with
    | cons a b =>
      cases a with
      | call hfn hc ha =>
        generalize hi : invokeA P X fn captured args hp nx = r at h
        unfold deferredA at h
        split at h
        · rename_i g args1
          obtain ⟨a, he, rfl⟩ := nextO_some h
          cases invokeA_sound E R.inv hfn hc ha hi with
          | enter h1 h2 =>
            obtain ⟨C, e1, e2, e3⟩ := cur_enter (X := X) (hp := hp) (lo := nx) (hi := nx) he h2
            refine ⟨_, .one (st_deferred hmode hdf h1), .mk (fs := { fr with defers := _ } :: fs) R.inv (Nat.le_refl _) C (.cons (lo' := lo) hlow ?_ R.stk)⟩
            exact ⟨⟨R.st.fn, R.st.kind, R.st.rnd, R.st.mode, b⟩, R.nd, by rw [e1], fun _ => R.out, (fun e => by rw [e1] at e; cases e)⟩
        · cases h
  · have hd := R.st.df
    generalize hdf : fr.defers = dd at hd
    cases hd
    obtain ⟨rs, l, hrs, hl, hr⟩ := returnF_cases h (fun n => by simp)
    obtain ⟨fn, v', h1, h2, h3⟩ := R.result hrs hl
    have stk := R.stk
    cases stk with
    | nil _ _ _ => simp only [returnA] at hr; cases hr
    | @cons _ lo' _ a c as' fs' hle S K =>
      simp only [returnA] at hr
      cases hdd : s.dfd with
      | true =>
        rw [hdd] at hr S
        cases hr
        have hk : fr.kind = .deferred := by rw [R.st.kind, hdd]; rfl
        have hc : c.mode = .returning := by rw [S.st.mode, S.ret]; rfl
        exact ⟨_, .one (st_returnD hmode hdf hk h1 h2 hc), .mk R.inv (by omega) ⟨S.st, S.nd, fun _ => S.out rfl, fun e => by rw [S.ret] at e; cases e⟩ K⟩
      | false =>
        rw [hdd] at hr S
        obtain ⟨a', hf, rfl⟩ := nextO_some hr
        have hk : fr.kind = .normal := by rw [R.st.kind, hdd]; rfl
        have hret := S.ret
        obtain ⟨as_, atm, atodo, adf, aret⟩ := a
        simp only at hret
        subst hret
        simp only [finishA] at hf
        obtain ⟨C, hs⟩ := CurR.finish (a := a') S.st S.nd (S.wait rfl) hf h3
        exact ⟨_, .one (st_return hmode hdf hk h1 h2), .mk R.inv (by omega) ⟨C.st, C.nd, C.out, fun e => (C.run e).up hlow⟩ (by rw [hs]; exact K)⟩

theorem SR.step (E : EnvOk P X) (henv : ∀ i, (env i).oneCell' = true) {s s' : ASt} {m : Machine} (R : SR P X env W0 f cs0 s m) (h : astep P X s = .next s') : Goes P X env W0 f cs0 m s' := by
  cases R with
  | @mk ρ a as hp nx fr fs w lo I hlow C K =>
    obtain ⟨fs_, tm, todo, df, ret⟩ := a
    cases ret with
    | true =>
      simp only [astep] at h
      exact Out.step E ⟨I, hlow, C.st, C.nd, C.out rfl, K⟩ h
    | false =>
      simp only [astep] at h
      have R : Run P X env W0 f ρ lo fs_ tm todo df as hp nx fr fs w := ⟨I, hlow, C.st, C.nd, C.run rfl, K⟩
      unfold stepIt at h
      split at h
      · obtain ⟨hi, ht⟩ := R.flat (by simp) (by simp)
        have hm : fr.todo = [] := by
          generalize fr.todo = m at hi
          cases hi; rfl
        exact R.leaveA ht h (fun hr => st_end R.mode hr hm) (fun c cs p r hr hh hkd => st_roundEnd R.mode hkd hr hm hh)
      · rename_i c k
        by_cases hc : ∃ g p a b, c = .rangeFunc g p a b
        · obtain ⟨g, p, a, b, rfl⟩ := hc
          exact R.range E h
        · exact R.code E (fun g p a b e => hc ⟨g, p, a, b, e⟩) h
      · rename_i i k
        obtain ⟨hi, ht⟩ := R.flat (by simp) (by simp)
        generalize hm : fr.todo = m at hi
        simp only [toA] at h
        cases h
        cases hi with
        | cons a b => cases a; exact R.to ht (st_inBlock R.mode hm) b
      · rename_i i k
        obtain ⟨hi, ht⟩ := R.flat (by simp) (by simp)
        generalize hm : fr.todo = m at hi
        simp only [toA] at h
        cases h
        cases hi with
        | cons a b => cases a; exact R.to ht (st_inScope R.mode hm) b
      · rename_i body k
        obtain ⟨hi, ht⟩ := R.flat (by simp) (by simp)
        generalize hm : fr.todo = m at hi
        simp only [toA] at h
        cases h
        cases hi with
        | cons a b => cases a; exact R.to ht (st_inLoop R.mode hm) (.cons (.code _) (.cons (.inLoop _) b))
      · exact R.reg E henv h
      · exact R.drw E henv h
      · cases h
      · exact R.endRange h
      · exact R.begin h

theorem SR.done {s : ASt} {m : Machine} {v : AV} (R : SR P X env W0 f cs0 s m) (h : astep P X s = .done v) : Done P env W0 f cs0 m v := by
  cases R with
  | @mk ρ a as hp nx fr fs w lo I hlow C K =>
    obtain ⟨fs_, tm, todo, df, ret⟩ := a
    cases ret with
    | true =>
      simp only [astep] at h
      have R : Out P X env W0 f ρ lo fs_ tm df as hp nx fr fs w := ⟨I, hlow, C.st, C.nd, C.out rfl, K⟩
      unfold unwindA at h
      split at h
      · unfold takeDefers at h
        split at h
        · unfold putThen at h
          split at h <;> cases h
        · cases h
      · unfold deferredA at h
        split at h
        · unfold nextO at h
          split at h <;> cases h
        · cases h
      · have hd := R.st.df
        generalize hdf : fr.defers = dd at hd
        cases hd
        obtain ⟨rs, l, hrs, hl, hr⟩ := returnF_cases h (fun n => by simp)
        obtain ⟨fn, v', h1, h2, h3⟩ := R.result hrs hl
        have K := R.stk
        cases K with
        | nil k1 k2 k3 =>
          simp only [returnA] at hr
          cases hr
          have hk : fr.kind = .normal := by rw [R.st.kind, k2]; rfl
          exact ⟨ρ, fr, w, v', rfl, R.st.fn.trans k1, ⟨R.st.mode, hdf, hk, fn, h1, h2⟩, h3, R.inv.below⟩
        | cons _ _ _ =>
          simp only [returnA] at hr
          split at hr
          · cases hr
          · unfold nextO at hr
            split at hr <;> cases hr
    | false =>
      exfalso
      simp only [astep] at h
      have R : Run P X env W0 f ρ lo fs_ tm todo df as hp nx fr fs w := ⟨I, hlow, C.st, C.nd, C.run rfl, K⟩
      have hleave : ∀ {jump todo'}, leaveA fs_ tm todo' df as hp nx jump = .done v → False := by
        intro jump todo' h
        unfold leaveA at h
        split at h
        · cases h
        · rename_i l hl
          unfold leaveLoop at h
          split at h
          · unfold leavePut at h
            split at h
            · have K := R.stk
              cases K with
              | nil _ _ hn => rw [hl] at hn; cases hn
              | cons _ _ _ =>
                simp only [returnA] at h
                split at h
                · cases h
                · unfold nextO at h
                  split at h <;> cases h
            · cases h
          · cases h
      have hno : ∀ {a : Option AFr} {cs hp nx why}, nextO a cs hp nx why ≠ .done v := by
        intro a cs hp nx why h
        unfold nextO at h
        split at h <;> cases h
      have hop : ∀ {todo o b}, stepOp P X fs_ tm todo df as hp nx o b ≠ .done v := by
        intro todo o b h
        unfold stepOp at h
        split at h
        · unfold applyA at h
          split at h
          · cases h
          · exact hno h
          · exact hno h
          · exact hno h
          · split at h
            · exact hno h
            · cases h
          · unfold recoverA at h
            split at h
            · split at h
              · exact hno h
              · cases h
            · cases h
        · exact hno h
        · cases h
      unfold stepIt at h
      split at h
      · exact hleave h
      · rename_i c k
        cases c <;> simp only [stepCode, toA] at h <;> first | (cases h; done) | skip
        case ret => exact hleave h
        case cond => unfold stepCond at h; split at h <;> first | (split at h <;> cases h) | cases h
        case exit =>
          unfold stepExit at h
          split at h
          · cases h
          · split at h
            · cases h
            · exact hleave h
        case goto => unfold toO at h; split at h <;> cases h
        case region =>
          unfold stepRegion at h
          split at h
          · split at h <;> cases h
          · cases h
        case rangeFunc =>
          unfold stepRange at h
          split at h
          · unfold rangeIn at h
            split at h
            · exact hno h
            · cases h
          · cases h
      · cases h
      · cases h
      · cases h
      · unfold stepReg at h
        split at h
        · cases h
        · exact hop h
      · unfold stepDrw at h
        split at h
        · cases h
        · split at h <;> cases h
        · split at h
          · exact hop h
          · cases h
      · cases h
      · unfold endRange at h
        split at h
        · split at h
          · cases h
          · unfold putThen at h
            split at h <;> cases h
        · cases h
      · unfold stepBegin at h
        split at h
        · unfold beginIt at h
          split at h
          · split at h
            · unfold putThen at h
              split at h <;> cases h
            · cases h
          · cases h
        · cases h

theorem runP_next (E : EnvOk P X) (henv : ∀ i, (env i).oneCell' = true) : ∀ (n : Nat) {s s' : ASt} {m : Machine}, SR P X env W0 f cs0 s m → runP P X n s = .next s' → Goes P X env W0 f cs0 m s'
  | 0, _, _, _, R, h => R.step E henv h
  | n + 1, s, s', m, R, h => by
    simp only [runP] at h
    split at h
    · rename_i s1 h1
      obtain ⟨m1, g1, R1⟩ := runP_next E henv n R h1
      exact Goes.of_steps g1 (runP_next E henv n R1 h)
    · cases h
    · cases h

theorem runP_done (E : EnvOk P X) (henv : ∀ i, (env i).oneCell' = true) : ∀ (n : Nat) {s : ASt} {m : Machine} {v : AV}, SR P X env W0 f cs0 s m → runP P X n s = .done v → ∃ m', Steps P m m' ∧ Done P env W0 f cs0 m' v
  | 0, _, m, _, R, h => ⟨m, .refl P _, R.done h⟩
  | n + 1, s, m, v, R, h => by
    simp only [runP] at h
    split at h
    · rename_i s1 h1
      obtain ⟨m1, g1, R1⟩ := runP_next E henv n R h1
      obtain ⟨m2, g2, D⟩ := runP_done E henv n R1 h
      exact ⟨m2, g1.trans g2, D⟩
    · rename_i v' h1
      cases h
      exact runP_done E henv n R h1
    · cases h

end Va

/-
  VA: a call as a whole: its start, the parts of its run, its end. Between two parts blocks may be given up.
-/
namespace Va
open Go Go.RowKit

variable {P : Program} {env : Nat → Value} {W0 : World} {ρ σ : Rho} {hp hp' : Tr AO} {nx : Nat} {w w' : World} {X : Nat → Option XK} {f : FuncId}

/-- From this state on a run ends with a value. -/
def Leads (P : Program) (X : Nat → Option XK) (env : Nat → Value) (W0 : World) (f : FuncId) (s : ASt) (v : AV) : Prop :=
  ∀ cs0 m, SR P X env W0 f cs0 s m → ∃ m', Steps P m m' ∧ Done P env W0 f cs0 m' v

theorem Leads.done (E : EnvOk P X) (henv : ∀ i, (env i).oneCell' = true) {s : ASt} {v : AV} (n : Nat) (h : runP P X n s = .done v) : Leads P X env W0 f s v :=
  fun _ _ R => runP_done E henv n R h

theorem Leads.next (E : EnvOk P X) (henv : ∀ i, (env i).oneCell' = true) {s s' : ASt} {v : AV} (n : Nat) (h : runP P X n s = .next s') (L : Leads P X env W0 f s' v) : Leads P X env W0 f s v := by
  intro cs0 m R
  obtain ⟨m1, h1, R1⟩ := runP_next E henv n R h
  obtain ⟨m2, h2, D⟩ := L cs0 m1 R1
  exact ⟨m2, h1.trans h2, D⟩

/-- The blocks that are kept. -/
def keepH (hp : Tr AO) : List Nat → Tr AO
  | [] => .leaf
  | b :: l => match hp.get b with
    | some o => (keepH hp l).set b o
    | none => keepH hp l

theorem keepH_le (hp : Tr AO) : ∀ l, HLe (keepH hp l) hp
  | [], b, o, h => by simp [keepH, Tr.get_leaf] at h
  | c :: l, b, o, h => by
    simp only [keepH] at h
    split at h
    · rename_i u hu
      rw [Tr.get_set] at h
      split at h
      · rename_i e; cases h; rw [e]; exact hu
      · exact keepH_le hp l b o h
    · exact keepH_le hp l b o h

/-- No drawn region is under way. -/
def flatFr (a : AFr) : Bool :=
  match a.todo with
  | .drw _ _ :: _ => a.ret
  | _ => true

def allFlat : List AFr → Bool
  | [] => true
  | a :: l => flatFr a && allFlat l

def dropS (l : List Nat) (s : ASt) : ASt := ⟨s.fr, s.cs, keepH s.hp l, s.nx⟩

def dropR (l : List Nat) (r : AR) : AR :=
  match r with
  | .next s => match flatFr s.fr && allFlat s.cs with
    | true => .next (dropS l s)
    | false => .fail 99
  | .done v => .done v
  | .fail n => .fail n

theorem Inv.drop (I : Inv env W0 ρ hp nx w) (h : HLe hp' hp) : Inv env W0 ρ hp' nx w :=
  ⟨I.glob, I.low, I.fresh, I.new, fun b o p a c d => I.obj b o p (h _ _ a) c d, fun b c o u p q h1 h2 => I.inj b c o u p q (h _ _ h1) (h _ _ h2), I.below⟩

theorem TodoR.drop {lo hi nt : Nat} {tm : Tr AV} {tmps : Array Value} {k : List AIt} {m : List Item} (T : TodoR P X env ρ hp lo hi nt tm tmps k m) (h : ∀ o a l, k ≠ .drw o a :: l) : TodoR P X env ρ hp' lo hi nt tm tmps k m := by
  cases T with
  | plain a b => exact .plain a b
  | reg a b => exact .reg a b
  | drw a b => exact absurd rfl (h _ _ _)

theorem WaitR.drop {lo hi nt : Nat} {tm : Tr AV} {tmps : Array Value} {k : List AIt} {m : List Item} (T : WaitR P X env ρ hp lo hi nt tm tmps k m) (h : ∀ o a l, k ≠ .drw o a :: l) : WaitR P X env ρ hp' lo hi nt tm tmps k m := by
  cases T with
  | reg a b c => exact .reg a b c
  | drw a b c d e => exact absurd rfl (h _ _ _)
  | range a b c => exact .range a b c

theorem flat_spec {a : AFr} (h : flatFr a = true) (hr : a.ret = false) : ∀ o c l, a.todo ≠ .drw o c :: l := by
  intro o c l e
  unfold flatFr at h
  rw [e] at h
  simp only at h
  rw [hr] at h; cases h

theorem StkR.drop {lo : Nat} {s : FS} {as : List AFr} {fs : List Frame} (K : StkR P X env ρ hp f lo s as fs) (h : allFlat as = true) : StkR P X env ρ hp' f lo s as fs := by
  induction K with
  | nil a b c => exact .nil a b c
  | cons a b _ ih =>
    simp only [allFlat, Bool.and_eq_true] at h
    refine .cons a ⟨b.st, b.nd, b.ret, b.out, fun e => (b.wait e).drop (flat_spec h.1 (by rw [b.ret]; exact e))⟩ (ih h.2)

theorem SR.drop {cs0 : List Frame} {s : ASt} {m : Machine} (R : SR P X env W0 f cs0 s m) (l : List Nat) (h : (flatFr s.fr && allFlat s.cs) = true) : SR P X env W0 f cs0 (dropS l s) m := by
  simp only [Bool.and_eq_true] at h
  cases R with
  | mk I hlow C K =>
    exact .mk (I.drop (keepH_le _ _)) hlow ⟨C.st, C.nd, C.out, fun e => (C.run e).drop (flat_spec h.1 e)⟩ (K.drop h.2)

/-- A part of a run, behind which some blocks are given up. -/
theorem Leads.part (E : EnvOk P X) (henv : ∀ i, (env i).oneCell' = true) {s s' : ASt} {v : AV} (n : Nat) (l : List Nat) (h : dropR l (runP P X n s) = .next s') (L : Leads P X env W0 f s' v) : Leads P X env W0 f s v := by
  unfold dropR at h
  split at h
  · rename_i s1 h1
    split at h
    · rename_i hf
      cases h
      refine Leads.next E henv n h1 fun cs0 m R => L cs0 m (R.drop l hf)
    · cases h
  · cases h
  · cases h

/-- What a call is known to be like. -/
theorem va_calls {args' : Array Value} {args : List AV} {a : AFr} {v : AV} (I : Inv env W0 ρ hp nx W0) (ha : VRs env ρ args args'.toList) (he : enterA P f args false = some a) (L : Leads P X env W0 f ⟨a, [], hp, nx⟩ v) :
    Calls P f args' W0 fun e w' => ∃ v' σ, e = .returned v' ∧ VR env σ v v' ∧ Below W0.heap.size W0 w' := by
  intro cs0
  obtain ⟨C, e1, e2, e3⟩ := cur_enter (X := X) (hp := hp) (lo := nx) (hi := nx) he ha
  have R : SR P X env W0 f cs0 ⟨a, [], hp, nx⟩ (lone (Frame.enter P f args' .normal) ([] ++ cs0) W0) := .mk I (Nat.le_refl _) C (.nil e3 e1 e2)
  obtain ⟨m', h1, σ, fr, w, v', rfl, h2, h3, h4, h5⟩ := L cs0 _ R
  exact ⟨.returned v', w, fr, ⟨v', σ, rfl, h4, h5⟩, h1, h2, h3⟩

/-- The start: blocks of package-level variables, each with its cells. -/
def Rho.start (W : World) : Rho := fun b => if b < 1000 then some ⟨b, 0, match W.heap[b]? with | some (.cells c _ _) => c.size | _ => 0⟩ else none

theorem Inv.start {W : World} (h : ∀ b o, hp.get b = some o → ∃ c t cs fz, b < 1000 ∧ o = .cells c t true (0, 0) ∧ W.heap[b]? = some (.cells cs t fz) ∧ fz.1 = fz.2 ∧ VRs env (Rho.start W) c cs.toList) :
    Inv env W (Rho.start W) hp 2000 W := by
  refine ⟨fun g hg => ⟨_, by unfold Rho.start; rw [if_pos hg]⟩, Nat.le_refl _, fun b hb => by unfold Rho.start; rw [if_neg (by omega)], ?_,
    fun b o p h1 h2 h3 => ?_, fun b c o u p q h1 h2 h3 h4 h5 h6 h7 => ?_, Below.refl _ _⟩
  · intro b p hb hp
    unfold Rho.start at hp
    rw [if_neg (by omega)] at hp; cases hp
  · obtain ⟨c, t, cs, fz, hb, rfl, hh, hz, hv⟩ := h b o h1
    have hp2 : p = ⟨b, 0, cs.size⟩ := by
      unfold Rho.start at h2
      rw [if_pos hb, hh] at h2
      cases h2; rfl
    subst hp2
    refine ⟨_, hh, ?_⟩
    simp only [OR]
    refine ⟨trivial, trivial, fun _ => ⟨trivial, by simpa using hv.length⟩, fun i v hi => ?_, .inl hz⟩
    obtain ⟨y, h4, h5⟩ := hv.get hi
    exact ⟨y, by simpa using h4, h5⟩
  · have hb : p.blk = b := by unfold Rho.start at h5; split at h5 <;> cases h5; rfl
    have hc : q.blk = c := by unfold Rho.start at h6; split at h6 <;> cases h6; rfl
    rw [← hb, ← hc]; exact h7

end Va

/-
  VA: the machine once more, over tables of a program instead of the program itself: so that a table may be a tree. PRINTED by wip/tools/fast.py.
-/
namespace Va
open Go

/-- What the machine asks of a program. -/
structure Look where
  info : TypeId → Option TypeInfo
  und : TypeId → Option TypeDesc
  fn : FuncId → Option Func
  size : TypeId → Option Nat
  agg : TypeId → Option Bool
  zero : TypeId → Option AV
  plain : TypeId → Nat → Bool
  cells : TypeId → Nat
  lies : TypeId → Nat → Nat → TypeId → Nat → Bool

def Look.of (P : Program) : Look :=
  { info := P.info?, und := P.underlying, fn := fun f => P.funcs[f]?, size := sizeOfA P, agg := isAggA P, zero := zeroA P, plain := plainStruct P, cells := P.cellsOf, lies := liesAt P P.depth }

namespace F

def ifaceVal (Q : Look) (t : TypeId) (a b : AV) : Option Bool :=
  match Q.und t, a, b with
  | some .bool, .bool x, .bool y => some (x == y)
  | some (.int _), .int k x, .int j y => match kEq k j with
    | true => some (iEq x y)
    | false => none
  | some .string, .str x, .str y => some (strEq x y)
  | some (.pointer e), .ptr (some (x, i)), .ptr (some (y, j)) => match !Nat.beq (Q.cells e) 0 && Nat.beq x y && (Q.size e).isSome with
    | true => some (Nat.beq i j)
    | false => none
  | _, _, _ => none

def eqPlain (Q : Look) : List Field → List AV → List AV → Option Bool
  | [], [], [] => some true
  | f :: fs, a :: l, b :: r =>
    match ifaceVal Q f.type a b with
    | some true => eqPlain Q fs l r
    | some false => some false
    | none => none
  | _, _, _ => none

def fieldsL (Q : Look) (t : TypeId) : List Field :=
  match Q.und t with
  | some (.struct fs) => fs.toList
  | _ => []

def ifaceEq (Q : Look) : AV → AV → Option Bool
  | .iface t a, .iface u b =>
    match Nat.beq t u with
    | true => match Q.info t with
      | some i => match i.comparable with
        | true => ifaceVal Q t a b
        | false => none
      | none => none
    | false => some false
  | _, _ => none

def eqlA (Q : Look) (t : TypeId) (a b : AV) : Option Bool :=
  match a, b with
  | .agg x, .agg y => match Q.plain t x.length with
    | true => eqPlain Q (fieldsL Q t) x y
    | false => none
  | .iface _ _, .iface _ _ => ifaceEq Q a b
  | .ptr (some _), .ptr (some _) => match Q.und t with
    | some (.pointer e) => match !Nat.beq (Q.cells e) 0 && (Q.size e).isSome with
      | true => eqV a b
      | false => none
    | _ => none
  | a, b => eqV a b

def fitsEq (Q : Look) (t : TypeId) (x y : Operand) (a b : AV) : Bool :=
  match Q.und t, a, b with
  | some (.pointer _), .ptr _, .ptr _ => true
  | some (.slice _), .slice _ _ _ _ _, .slice _ _ _ _ _ => true
  | some (.map _ _), .map _, .map _ => true
  | some (.func _ _ _), .func _ _ _, .nilFunc => true
  | some (.func _ _ _), .nilFunc, .func _ _ _ => true
  | some (.func _ _ _), .nilFunc, .nilFunc => true
  | some (.interface ms), .nilIface, .nilIface => ms.isEmpty || isConst x || isConst y
  | some (.interface _), .nilIface, .iface _ _ => true
  | some (.interface _), .iface _ _, .nilIface => true
  | some (.interface _), .iface _ _, .iface _ _ => true
  | some (.struct _), .agg _, .agg _ => true
  | some .bool, .bool _, .bool _ => true
  | _, _, _ => false

def eqlB (Q : Look) (t : TypeId) (x y : Operand) (a b : AV) : Option Bool :=
  match fitsEq Q t x y a b with
  | true => eqlA Q t a b
  | false => none

def binA (Q : Look) (op : BinOp) (t : TypeId) (x y : Operand) (a b : AV) : Option AV :=
  match a, b with
  | .int k m, .int j n => match isShift op || kEq k j with
    | true => intBin op k m n
    | false => none
  | .str m, .str n => strBin op m n
  | a, b =>
    match op with
    | .eql => boolO (eqlB Q t x y a b)
    | .neq => boolO (negO (eqlB Q t x y a b))
    | _ => none

def loadA (Q : Look) (t : TypeId) (hp : Tr AO) (b off : Nat) : Option AV :=
  match Q.agg t, Q.size t with
  | some true, some n => match loadC hp b off n with
    | some l => some (.agg l)
    | none => none
  | some false, _ => match loadC hp b off 1 with
    | some [v] => some v
    | _ => none
  | _, _ => none

def fieldsOf (Q : Look) (t : TypeId) : Option (List Field) :=
  match Q.und t with
  | some (.struct fs) => some fs.toList
  | _ => none

def partA (Q : Look) (t : TypeId) (cs : List AV) (off : Nat) : Option AV :=
  match Q.agg t, Q.size t with
  | some true, some n => match takeN n (dropN off cs) with
    | some l => some (.agg l)
    | none => none
  | some false, _ => nth cs off
  | _, _ => none

def placeA (Q : Look) (f : Field) : Option (Nat × Nat) :=
  match Q.size f.type with
  | some n => some (f.offset, n)
  | none => none

def sliceA (Q : Look) (t : TypeId) (x : AV) (low high max : Option AV) : Option AV :=
  match Q.und t, x with
  | some .string, .str s => match max with
    | some _ => none
    | none => sliceStr s (boundsA s.length s.length low high none)
  | some (.slice elem), .slice a len cap ex sz => match Q.size elem with
    | some size => match a.isNone || Nat.beq size sz with
      | true => sliceSl a (ex || max.isSome) sz size (boundsA len cap low high max)
      | false => none
    | none => none
  | _, _ => none

def sameKey (Q : Look) (fs : List Field) (k j : AV) : Option Bool :=
  match k, j with
  | .str a, .str b => some (strEq a b)
  | .int p a, .int q b => match kEq p q with
    | true => some (iEq a b)
    | false => none
  | .agg a, .agg b => eqPlain Q fs a b
  | _, _ => none

def findEnt (Q : Look) (fs : List Field) (k : AV) : List AEnt → Nat → Option (Option (Nat × AV))
  | [], _ => some none
  | e :: es, i =>
    match sameKey Q fs k e.key with
    | some true => some (some (i, e.val))
    | some false => findEnt Q fs k es (i + 1)
    | none => none

def keyOk (Q : Look) (t : TypeId) (k : AV) : Bool :=
  match Q.und t, k with
  | some .string, .str _ => true
  | some (.int _), .int _ _ => true
  | some (.struct _), .agg x => Q.plain t x.length
  | _, _ => false

def lookupA (Q : Look) (t : TypeId) (x k : AV) (ok : Bool) (hp : Tr AO) : Option AV :=
  match Q.und t with
  | some (.map kt et) =>
    if keyOk Q kt k then
      let es? := match x with
        | .map none => some []
        | .map (some r) => (match getMap hp r with | some (es, _) => some es | none => none)
        | _ => none
      match es? with
      | none => none
      | some es =>
        match findEnt Q (fieldsL Q kt) k es 0 with
        | some (some (_, v)) => some (if ok then .tuple [v, .bool true] else v)
        | some none => (match Q.zero et with
          | some z => some (if ok then .tuple [z, .bool false] else z)
          | none => none)
        | none => none
    else none
  | _ => none

def mapPut (Q : Look) (t : TypeId) (x k v : AV) (hp : Tr AO) : Option (Tr AO) :=
  match Q.und t, x with
  | some (.map kt _), .map (some r) =>
    if keyOk Q kt k then
      match getMap hp r with
      | some (es, clock) =>
        (match findEnt Q (fieldsL Q kt) k es 0 with
        | some (some (i, _)) => putH hp r (.map (modEnt (fun e => { e with key := k, val := v }) es i) clock)
        | some none => putH hp r (.map (es ++ [{ key := k, val := v, born := clock }]) (clock + 1))
        | none => none)
      | none => none
    else none
  | _, _ => none

def mapEntryA (Q : Look) (t : TypeId) (x k : AV) (hp : Tr AO) : Option (AV × Tr AO) :=
  match Q.und t, x with
  | some (.map kt et), .map (some r) =>
    match keyOk Q kt k, getMap hp r with
    | true, some (es, clock) =>
        (match findEnt Q (fieldsL Q kt) k es 0 with
        | some (some (i, v)) =>
          match nth es i with
          | some e => andVal (.tuple [v, .int .i64 (.ofNat e.born)]) (putH hp r (.map (modEnt (fun e => { e with key := k }) es i) clock))
          | none => none
        | some none =>
          match Q.zero et with
          | some z => andVal (.tuple [z, .int .i64 (.ofNat clock)]) (putH hp r (.map (es ++ [{ key := k, val := z, born := clock }]) (clock + 1)))
          | none => none
        | none => none)
    | _, _ => none
  | _, _ => none

def addCells (Q : Look) (xd : TypeDesc) (elem : TypeId) (size m : Nat) (x : AV) (hp : Tr AO) : Option (List AV) :=
  match xd with
  | .int _ => match Q.zero elem with
    | some z => match Nat.beq z.cells.length size && Nat.ble (m * size) 10000 with
      | true => some (repeatL z.cells m)
      | false => none
    | none => none
  | _ => moreCells size x hp

def zeroFits (Q : Look) (t : TypeId) (size : Nat) : Bool :=
  match Q.zero t with
  | some z => Nat.beq z.cells.length size
  | none => false

def appendTo (Q : Look) (elem : TypeId) (i : TypeInfo) (xd : TypeDesc) (base : Option (Nat × Nat)) (n cap : Nat) (ex : Bool) (x : AV) (hp : Tr AO) (nx : Nat) : Option ARes :=
  match addLen xd i.bytes i.size x with
  | none => none
  | some m => match small (n + m) i.bytes && small cap i.bytes && zeroFits Q elem i.size with
    | false => none
    | true => match addCells Q xd elem i.size m x hp with
      | none => none
      | some new => match Nat.ble (n + m) cap with
        | true => appendIn base n (n + m) cap ex i.size new hp nx
        | false => appendOut elem base n m ex i.size new hp nx

def appendA (Q : Look) (argTypes : List TypeId) (s x : AV) (hp : Tr AO) (nx : Nat) : Option ARes :=
  match argTypes, s with
  | st :: xt :: _, .slice base n cap ex sz => match Q.und st, Q.und xt with
    | some (.slice elem), some xd => match Q.info elem with
      | some i => match (base.isNone || Nat.beq sz i.size) && !Nat.beq i.bytes 0 with
        | true => appendTo Q elem i xd base n cap ex x hp nx
        | false => none
      | none => none
    | _, _ => none
  | _, _ => none

def lenOfA (Q : Look) (t : TypeId) (x : AV) (hp : Tr AO) : Option AV :=
  match Q.und t, x with
  | some .string, .str s => some (.int .i64 (.ofNat s.length))
  | some (.slice _), .slice _ n _ _ _ => some (.int .i64 (.ofNat n))
  | some (.array n _), _ => some (.int .i64 (.ofNat n))
  | some (.map _ _), .map none => some (.int .i64 0)
  | some (.map _ _), .map (some r) => match getMap hp r with
    | some (es, _) => some (.int .i64 (.ofNat es.length))
    | none => none
  | _, _ => none

def capOfA (Q : Look) (t : TypeId) (x : AV) : Option AV :=
  match Q.und t, x with
  | some (.slice _), .slice _ _ n true _ => some (.int .i64 (.ofNat n))
  | some (.array n _), _ => some (.int .i64 (.ofNat n))
  | _, _ => none

def copyA (Q : Look) (st : TypeId) (base : Option (Nat × Nat)) (n c sz : Nat) (x : AV) (hp : Tr AO) (nx : Nat) : Option ARes :=
  match Q.und st with
  | some (.slice elem) => match Q.size elem with
    | some size => match (base.isNone || Nat.beq sz size) && Nat.ble n c, lenA size x, moreCells size x hp with
      | true, some m, some cs => match takeN (min m n * size) cs with
        | some cs => match base with
          | none => some (.val (.int .i64 (.ofNat (min m n))) hp nx)
          | some (b, off) => match storeC true hp b off cs with
            | some hp' => some (.val (.int .i64 (.ofNat (min m n))) hp' nx)
            | none => none
        | none => none
      | _, _, _ => none
    | none => none
  | _ => none

def clearA (Q : Look) (t : TypeId) (x : AV) (hp : Tr AO) : Option (Tr AO) :=
  match Q.und t, x with
  | some (.slice _), .slice none _ _ _ _ => some hp
  | some (.slice elem), .slice (some (b, off)) n c _ sz => match Nat.beq n 0, Q.zero elem, Q.size elem with
    | true, _, _ => some hp
    | false, some z, some size => match Nat.beq sz size && Nat.beq z.cells.length size && Nat.ble n c with
      | true => storeC true hp b off (repeatL z.cells n)
      | false => none
    | _, _, _ => none
  | _, _ => none

def deleteA (Q : Look) (t : TypeId) (m k : AV) (hp : Tr AO) : Option (Tr AO) :=
  match Q.und t, m with
  | some (.map kt _), .map (some r) => match keyOk Q kt k, getMap hp r with
    | true, some (es, clock) => match findEnt Q (fieldsL Q kt) k es 0 with
      | some (some (i, _)) => putH hp r (.map (delEnt es i) clock)
      | some none => some hp
      | none => none
    | _, _ => none
  | _, _ => none

def isU8 (Q : Look) (e : TypeId) : Bool :=
  match Q.und e with
  | some (.int .u8) => true
  | _ => false

def unsafeStrA (Q : Look) (pt : TypeId) (p : Option (Nat × Nat)) (n : Nat) (hp : Tr AO) (nx : Nat) : Option ARes :=
  match Q.und pt, p with
  | some (.pointer e), some (b, off) => match hp.get b with
    | some (.cells c e' ex fz) => match Nat.beq e e' && isU8 Q e && Nat.beq (Q.cells e) 1 && Nat.ble n 1000000000 && !Nat.beq n 0 && Nat.ble fz.1 fz.2, takeN n (dropN off c) with
      | true, some bs => match bytesBack bs, putH hp b (.cells c e' ex (mergeFz fz off n)) with
        | some s, some hp' => some (.val (.str s) hp' nx)
        | _, _ => none
      | _, _ => none
    | _ => none
  | _, _ => none

def unsafeStr0 (Q : Look) (pt : TypeId) (p : Option (Nat × Nat)) (n : Nat) (hp : Tr AO) (nx : Nat) : Option ARes :=
  match Nat.beq n 0 with
  | true => some (.val (.str []) hp nx)
  | false => unsafeStrA Q pt p n hp nx

def builtinA (Q : Look) (b : Builtin) (argTypes : List TypeId) (args : List AV) (hp : Tr AO) (nx : Nat) : Option ARes :=
  match b, args, argTypes with
  | .len, [x], t :: _ => valR (lenOfA Q t x hp) hp nx
  | .cap, [x], t :: _ => valR (capOfA Q t x) hp nx
  | .append, [s, x], l => appendA Q l s x hp nx
  | .copy, [.slice base n c _ sz, x], t :: _ => copyA Q t base n c sz x hp nx
  | .clear, [x], t :: _ => unitR (clearA Q t x hp) nx
  | .delete, [m, k], t :: _ => unitR (deleteA Q t m k hp) nx
  | .min, [.int k a, .int _ b], _ => some (.val (.int k (if iLt b a then b else a)) hp nx)
  | .max, [.int k a, .int _ b], _ => some (.val (.int k (if iLt a b then b else a)) hp nx)
  | .recover, [], _ => some .recover
  | .unsafeSliceData, [.slice (some a) _ c _ _], _ => (match Nat.beq c 0 with | true => none | false => some (.val (.ptr (some a)) hp nx))
  | .unsafeString, [.ptr p, .int _ (.ofNat n)], pt :: _ => unsafeStr0 Q pt p n hp nx
  | _, _, _ => none

def callFn (Q : Look) (X : Nat → Option XK) (f : FuncId) (args : List AV) (hp : Tr AO) (nx : Nat) : Option ARes :=
  match Q.fn f with
  | none => none
  | some fn => match fn.body with
    | some _ => some (.enter f args)
    | none => match X f with
      | some k => externA k args hp nx
      | none => none

def invokeA (Q : Look) (X : Nat → Option XK) (fn : Fn) (captured args : List AV) (hp : Tr AO) (nx : Nat) : Option ARes :=
  match fn with
  | .func f => callFn Q X f (args ++ captured) hp nx
  | .yield l => some (.round l args)
  | _ => none

def toBytes (Q : Look) (e : TypeId) (s : List Nat) (hp : Tr AO) (nx : Nat) : Option ARes :=
  match isU8 Q e with
  | true => newA hp nx (.cells (byteCells s) e false (1, 0)) (fun a => .slice (some (a, 0)) s.length s.length false 1)
  | false => none

def ofBytes (Q : Look) (e : TypeId) (a : Option (Nat × Nat)) (n : Nat) (hp : Tr AO) : Option AV :=
  match isU8 Q e, a with
  | true, none => some (.str [])
  | true, some (b, off) => match loadC hp b off n with
    | some cs => strOf (bytesBack cs)
    | none => none
  | _, _ => none

def toUnsafe (Q : Look) (t : TypeId) (b off : Nat) (hp : Tr AO) : Option AV :=
  match hp.get b, Q.size t with
  | some (.cells c _ _ _), some size => match Nat.blt off c.length && !Nat.beq size 0 with
    | true => some (.ptr (some (b, off)))
    | false => none
  | _, _ => none

def ofUnsafe (Q : Look) (u : TypeId) (b off : Nat) (hp : Tr AO) : Option AV :=
  match hp.get b, Q.size u with
  | some (.cells c e true _), some _ => match Q.lies e (c.length / Q.cells e) off u 1 with
    | true => some (.ptr (some (b, off)))
    | false => none
  | _, _ => none

def convertA (Q : Look) (src dst : TypeId) (x : AV) (hp : Tr AO) (nx : Nat) : Option ARes :=
  match Q.und src, Q.und dst, x with
  | some _, some (.int k), .int _ n => some (.val (.int k (wrapA k n)) hp nx)
  | some _, some .string, .str s => some (.val (.str s) hp nx)
  | some _, some (.slice e), .str s => toBytes Q e s hp nx
  | some (.slice e), some .string, .slice a n _ _ _ => valR (ofBytes Q e a n hp) hp nx
  | some (.pointer t), some .unsafePointer, .ptr (some (b, off)) => valR (toUnsafe Q t b off hp) hp nx
  | some .unsafePointer, some (.pointer u), .ptr (some (b, off)) => valR (ofUnsafe Q u b off hp) hp nx
  | _, _, _ => none

def opAlloc (Q : Look) (e : TypeId) (hp : Tr AO) (nx : Nat) : Option ARes :=
  match Q.zero e with
  | some z => match allCell z.cells with
    | true => newA hp nx (.cells z.cells e true (0, 0)) (fun a => .ptr (some (a, 0)))
    | false => none
  | none => none

def buildStruct (Q : Look) (fs : List Field) (z : List AV) (ps : List (Nat × AV)) : Option AV :=
  match mapO (placeA Q) fs with
  | some l => match fillA (nth l) z ps with
    | some cs => some (.agg cs)
    | none => none
  | none => none

def buildArray (Q : Look) (e : TypeId) (z : List AV) (ps : List (Nat × AV)) : Option AV :=
  match Q.size e with
  | some size => match fillA (fun i => some (i * size, size)) z ps with
    | some cs => some (.agg cs)
    | none => none
  | none => none

def opBuild (Q : Look) (tm : Tr AV) (t : TypeId) (parts : List (Nat × Operand)) : Option AV :=
  match Q.zero t, evParts tm parts with
  | some z, some ps => match Q.und t with
    | some (.struct fs) => buildStruct Q fs.toList z.cells ps
    | some (.array _ e) => buildArray Q e z.cells ps
    | _ => none
  | _, _ => none

def opBuildSlice (Q : Look) (tm : Tr AV) (t : TypeId) (len : Nat) (parts : List (Nat × Operand)) (hp : Tr AO) (nx : Nat) : Option ARes :=
  match Q.und t, evParts tm parts with
  | some (.slice e), some ps => match Q.zero e, Q.size e with
    | some z, some size => match Nat.beq z.cells.length size && Nat.ble (len * size) 10000 with
      | true => match fillA (fun i => some (i * size, size)) (repeatL z.cells len) ps with
        | some cs => newA hp nx (.cells cs e true (0, 0)) (fun a => .slice (some (a, 0)) len len true size)
        | none => none
      | false => none
    | _, _ => none
  | _, _ => none

def opLoad (Q : Look) (tm : Tr AV) (t : TypeId) (x : Operand) (hp : Tr AO) : Option AV :=
  match ev tm x with
  | some (.ptr (some (b, off))) => loadA Q t hp b off
  | _ => none

def opStore (Q : Look) (tm : Tr AV) (t : TypeId) (x v : Operand) (hp : Tr AO) : Option (Tr AO) :=
  match ev tm x, ev tm v, Q.size t with
  | some (.ptr (some (b, off))), some v, some n =>
    match Nat.beq v.cells.length n with
    | true => storeC false hp b off v.cells
    | false => none
  | _, _, _ => none

def opBin (Q : Look) (tm : Tr AV) (op : BinOp) (t : TypeId) (x y : Operand) : Option AV :=
  match ev tm x, ev tm y with
  | some a, some b => binA Q op t x y a b
  | _, _ => none

def opConvert (Q : Look) (tm : Tr AV) (s d : TypeId) (x : Operand) (hp : Tr AO) (nx : Nat) : Option ARes :=
  match ev tm x with
  | some a => convertA Q s d a hp nx
  | none => none

def opMakeIface (Q : Look) (tm : Tr AV) (t : TypeId) (x : Operand) : Option AV :=
  match ev tm x, Q.und t with
  | some a, some d => match d with
    | .interface _ => none
    | _ => some (.iface t a)
  | _, _ => none

def opMakeMap (Q : Look) (tm : Tr AV) (t : TypeId) (r : Option Operand) (hp : Tr AO) (nx : Nat) : Option ARes :=
  match r with
  | none => newA hp nx (.map [] 0) (fun a => .map (some a))
  | some x => match ev tm x, Q.und t with
    | some (.int _ _), some (.map _ _) => newA hp nx (.map [] 0) (fun a => .map (some a))
    | _, _ => none

def opMakeSlice (Q : Look) (tm : Tr AV) (t : TypeId) (l c : Operand) (hp : Tr AO) (nx : Nat) : Option ARes :=
  match Q.und t, ev tm l, ev tm c with
  | some (.slice e), some (.int .i64 (.ofNat n)), some (.int .i64 (.ofNat m)) => match Q.zero e, Q.info e with
    | some z, some i =>
      match Nat.beq z.cells.length i.size && Nat.ble n m && small m i.bytes && Nat.ble m 10000 with
      | true => newA hp nx (.cells (repeatL z.cells m) e true (0, 0)) (fun a => .slice (some (a, 0)) n m true i.size)
      | false => none
    | _, _ => none
  | _, _, _ => none

def opSlice (Q : Look) (tm : Tr AV) (t : TypeId) (x : Operand) (lo hi mx : Option Operand) : Option AV :=
  match ev tm x, evO tm lo, evO tm hi, evO tm mx with
  | some a, some lo, some hi, some mx => sliceA Q t a lo hi mx
  | _, _, _, _ => none

def fieldAddrA (Q : Look) (f : Option Field) (b off : Nat) : Option AV :=
  match f with
  | some f => match Q.size f.type with
    | some n => match Nat.beq n 0 with
      | true => none
      | false => some (.ptr (some (b, off + f.offset)))
    | none => none
  | none => none

def opFieldAddr (Q : Look) (tm : Tr AV) (t : TypeId) (x : Operand) (i : Nat) : Option AV :=
  match ev tm x, fieldsOf Q t with
  | some (.ptr (some (b, off))), some fs => fieldAddrA Q (nth fs i) b off
  | _, _ => none

def opField (Q : Look) (tm : Tr AV) (t : TypeId) (x : Operand) (i : Nat) : Option AV :=
  match ev tm x, fieldsOf Q t with
  | some (.agg cs), some fs => match nth fs i with
    | some f => partA Q f.type cs f.offset
    | none => none
  | _, _ => none

def indexAddrA (Q : Look) (t : TypeId) (x : AV) (i : Nat) : Option AV :=
  match Q.und t, x with
  | some (.slice e), .slice (some (b, off)) n _ _ sz => match Q.size e with
    | some size => match Nat.blt i n && Nat.beq sz size with
      | true => some (.ptr (some (b, off + i * size)))
      | false => none
    | none => none
  | some (.array n e), .ptr (some (b, off)) => match Q.size e with
    | some size => match Nat.blt i n with
      | true => some (.ptr (some (b, off + i * size)))
      | false => none
    | none => none
  | _, _ => none

def opIndexAddr (Q : Look) (tm : Tr AV) (t : TypeId) (x ix : Operand) : Option AV :=
  match ev tm x, ev tm ix with
  | some a, some (.int _ (.ofNat i)) => indexAddrA Q t a i
  | _, _ => none

def indexA (Q : Look) (t : TypeId) (x : AV) (i : Nat) : Option AV :=
  match Q.und t, x with
  | some .string, .str s => match nth s i with
    | some b => some (.int .u8 (.ofNat b))
    | none => none
  | some (.array n e), .agg cs => match Q.size e with
    | some size => match Nat.blt i n with
      | true => partA Q e cs (i * size)
      | false => none
    | none => none
  | _, _ => none

def opIndex (Q : Look) (tm : Tr AV) (t : TypeId) (x ix : Operand) : Option AV :=
  match ev tm x, ev tm ix with
  | some a, some (.int _ (.ofNat i)) => indexA Q t a i
  | _, _ => none

def opLookup (Q : Look) (tm : Tr AV) (t : TypeId) (x k : Operand) (ok : Bool) (hp : Tr AO) : Option AV :=
  match ev tm x, ev tm k with
  | some m, some k => lookupA Q t m k ok hp
  | _, _ => none

def opMapPut (Q : Look) (tm : Tr AV) (t : TypeId) (m k x : Operand) (hp : Tr AO) : Option (Tr AO) :=
  match ev tm m, ev tm k, ev tm x with
  | some m, some k, some x => mapPut Q t m k x hp
  | _, _, _ => none

def opMapEntry (Q : Look) (tm : Tr AV) (t : TypeId) (m k : Operand) (hp : Tr AO) (nx : Nat) : Option ARes :=
  match ev tm m, ev tm k with
  | some m, some k => match mapEntryA Q t m k hp with
    | some (v, h) => some (.val v h nx)
    | none => none
  | _, _ => none

def opRange (Q : Look) (tm : Tr AV) (t : TypeId) (x : Operand) (hp : Tr AO) (nx : Nat) : Option ARes :=
  match Q.und t, ev tm x with
  | some (.map _ _), some (.map none) => newA hp nx (.mapIter none 0 [] 0) (fun a => .ptr (some (a, 0)))
  | some (.map _ _), some (.map (some m)) => match getMap hp m with
    | some (_, clock) => newA hp nx (.mapIter (some m) clock [] clock) (fun a => .ptr (some (a, 0)))
    | none => none
  | _, _ => none

def noIface (Q : Look) (t : TypeId) : Bool :=
  match Q.und t with
  | some (.interface _) => false
  | some _ => true
  | none => false

def orZero (Q : Look) (t : TypeId) (ok : Bool) : Option AV :=
  match ok, Q.zero t with
  | true, some z => some (.tuple [z, .bool false])
  | _, _ => none

def assertA (Q : Look) (t : TypeId) (ok : Bool) (x : AV) : Option AV :=
  match x with
  | .iface u v => match Nat.beq u t with
    | true => some (match ok with | true => .tuple [v, .bool true] | false => v)
    | false => orZero Q t ok
  | .nilIface => orZero Q t ok
  | _ => none

def opAssert (Q : Look) (tm : Tr AV) (x : Operand) (t : TypeId) (ok : Bool) : Option AV :=
  match ev tm x, noIface Q t with
  | some x, true => assertA Q t ok x
  | _, _ => none

def callVal (Q : Look) (X : Nat → Option XK) (f : Option AV) (args : List AV) (hp : Tr AO) (nx : Nat) : Option ARes :=
  match f with
  | some (.func fn first captured) => invokeA Q X fn captured (first ++ args) hp nx
  | _ => none

def opCall (Q : Look) (X : Nat → Option XK) (tm : Tr AV) (c : Call) (hp : Tr AO) (nx : Nat) : Option ARes :=
  match evs tm c.args.toList with
  | none => none
  | some args => match c.callee with
    | .builtin b => builtinA Q b c.argTypes.toList args hp nx
    | .value f => callVal Q X (ev tm f) args hp nx
    | .invoke _ _ => none

def aopOp (Q : Look) (X : Nat → Option XK) (tm : Tr AV) (hp : Tr AO) (nx : Nat) : Op → Option ARes
  | .move x => valR (ev tm x) hp nx
  | .assign x => valR (ev tm x) hp nx
  | .pick c a b => valR (opPick tm c a b) hp nx
  | .alloc e => opAlloc Q e hp nx
  | .box e x => opBox tm e x hp nx
  | .build t parts => valR (opBuild Q tm t parts.toList) hp nx
  | .buildSlice t len parts => opBuildSlice Q tm t len parts.toList hp nx
  | .load t x => valR (opLoad Q tm t x hp) hp nx
  | .store t x v => unitR (opStore Q tm t x v hp) nx
  | .nilCheck x => valR (opNilCheck tm x) hp nx
  | .binOp op t x y _ => valR (opBin Q tm op t x y) hp nx
  | .unOp op _ x => valR (opUn tm op x) hp nx
  | .convert s d x => opConvert Q tm s d x hp nx
  | .makeInterface t x => valR (opMakeIface Q tm t x) hp nx
  | .makeFunc fn first captured => valR (opMakeFunc tm fn first.toList captured.toList) hp nx
  | .makeMap t r => opMakeMap Q tm t r hp nx
  | .makeSlice t l c => opMakeSlice Q tm t l c hp nx
  | .slice t x lo hi mx => valR (opSlice Q tm t x lo hi mx) hp nx
  | .fieldAddr t x i => valR (opFieldAddr Q tm t x i) hp nx
  | .field t x i => valR (opField Q tm t x i) hp nx
  | .indexAddr t x ix => valR (opIndexAddr Q tm t x ix) hp nx
  | .index t x ix => valR (opIndex Q tm t x ix) hp nx
  | .lookup t x k ok => valR (opLookup Q tm t x k ok hp) hp nx
  | .mapUpdate t m k x => unitR (opMapPut Q tm t m k x hp) nx
  | .insert t m k x => unitR (opMapPut Q tm t m k x hp) nx
  | .mapEntry t m k => opMapEntry Q tm t m k hp nx
  | .entryStore _ m s x => unitR (opEntryStore tm m s x hp) nx
  | .range t x => opRange Q tm t x hp nx
  | .next it s => opNext tm it s hp nx
  | .entry it => valR (opEntry tm it hp) hp nx
  | .typeAssert x _ t ok => valR (opAssert Q tm x t ok) hp nx
  | .extract x i => valR (opExtract tm x i) hp nx
  | .call c => opCall Q X tm c hp nx
  | .defer c => opDefer tm c
  | _ => none

def aop (Q : Look) (X : Nat → Option XK) (tm : Tr AV) (o : Oper) (hp : Tr AO) (nx : Nat) : Option ARes :=
  aopOp Q X tm hp nx o.op

def cls (Q : Look) (o : Oper) : Nat :=
  match o.op with
  | .move _ | .pick .. | .build .. | .nilCheck _ | .binOp .. | .unOp .. | .makeInterface .. | .makeFunc .. | .slice .. | .fieldAddr .. | .field .. | .indexAddr .. | .index ..
  | .typeAssert .. | .extract .. => 0
  | .load .. | .lookup .. | .entry _ => 1
  | .convert s d _ => (match Q.und s, Q.und d with
    | _, some (.slice _) => 3
    | some (.int _), some (.int _) => 0
    | some (.slice _), some .string => 1
    | some .string, some .string => 0
    | _, _ => 3)
  | .alloc _ | .box .. | .buildSlice .. | .makeMap .. | .makeSlice .. => 2
  | .call c => (match c.callee with
    | .builtin .len | .builtin .cap => 1
    | _ => 3)
  | _ => 3

def isEff (Q : Look) (o : Oper) : Bool := Nat.beq (cls Q o) 3

def isRead (Q : Look) (o : Oper) : Bool := Nat.beq (cls Q o) 1

def pickOne (Q : Look) (eff : Bool) : List Oper → List Nat → Nat → Nat → Option Nat
  | o :: l, m :: ms, i, done =>
    match !done.testBit i && (isEff Q o == eff) && subMask m done with
    | true => some i
    | false => pickOne Q eff l ms (i + 1) done
  | _, _, _, _ => none

def loose (Q : Look) (ops : List Oper) (mask : Nat) : List Nat → List Nat
  | [] => []
  | i :: l => match nth ops i with
    | some o => match isRead Q o && !mask.testBit i with
      | true => i :: loose Q ops mask l
      | false => loose Q ops mask l
    | none => loose Q ops mask l

def order (Q : Look) (ops : List Oper) (ms : List Nat) : Nat → Nat → List Nat → List Ac
  | 0, _, _ => []
  | f + 1, done, reads =>
    match pickOne Q false ops ms 0 done with
    | some i => .ex i :: order Q ops ms f (done ||| 2 ^ i) (i :: reads)
    | none => match pickOne Q true ops ms 0 done with
      | some i =>
        (match loose Q ops ((nth ms i).getD 0) reads with
        | [] => .ex i :: order Q ops ms f (done ||| 2 ^ i) reads
        | ls => .ex i :: .ck ls :: order Q ops ms f (done ||| 2 ^ i) reads)
      | none => []

def acts (Q : Look) (ops : List Oper) : List Ac := order Q ops (masks ops []) (ops.length + 1) 0 []

def slotsOk (Q : Look) (ops : List Oper) (ms : List Nat) : List Oper → List Nat → Nat → Bool
  | o :: l, m :: ms', k => (match o.dst with
    | none => true
    | some d => slotOk (isEff Q o) k d m ops ops ms 0) && slotsOk Q ops ms l ms' (k + 1)
  | [], [], _ => true
  | _, _, _ => false

def looseIn (Q : Look) (ops : List Oper) (done mask : Nat) (ls : List Nat) : List Oper → Nat → Bool
  | [], _ => true
  | o :: l, i => (!done.testBit i || !isRead Q o || mask.testBit i || memN i ls) && looseIn Q ops done mask ls l (i + 1)

def goodFrom (Q : Look) (ops : List Oper) (ms : List Nat) : List Ac → Nat → Nat → Bool
  | [], done, _ => Nat.beq done (2 ^ ops.length - 1)
  | .ck _ :: rest, done, effs => goodFrom Q ops ms rest done effs
  | .ex i :: rest, done, effs =>
    match nth ops i, nth ms i with
    | some o, some m =>
      Nat.blt i ops.length && !done.testBit i && predsIn done o.after.toList &&
      (match isEff Q o with
      | false => (match rest with | .ck _ :: _ => false | _ => true) && goodFrom Q ops ms rest (done ||| 2 ^ i) effs
      | true => subMask effs m && noneReady ops done i ops 0 && looseIn Q ops done m (ckOf rest) ops 0 && goodFrom Q ops ms rest (done ||| 2 ^ i) (effs ||| 2 ^ i))
    | _, _ => false

def goodActs (Q : Look) (ops : List Oper) (l : List Ac) : Bool :=
  edgesBack ops 0 && slotsOk Q ops (masks ops []) ops (masks ops []) 0 && goodFrom Q ops (masks ops []) l 0 0

def enterA (Q : Look) (f : FuncId) (args : List AV) (dfd : Bool) : Option AFr :=
  match Q.fn f with
  | some fn => enterFn f args dfd fn.ntmps fn.body
  | none => none

def applyA (Q : Look) (s : FS) (tm : Tr AV) (todo : List AIt) (df : List ADef) (ret : Bool) (cs : List AFr) (hp : Tr AO) (nx : Nat) (r : Option ARes) : AR :=
  match r with
  | none => .fail 2
  | some (.val v hp nx) => nextO (finishIt s tm df ret v todo) cs hp nx 3
  | some (.enter f args) => nextO (enterA Q f args false) (⟨s, tm, todo, df, ret⟩ :: cs) hp nx 4
  | some (.round l args) => nextO (roundA hp l args) (⟨s, tm, todo, df, ret⟩ :: cs) hp nx 5
  | some (.defer d) => match s.rnd with
    | none => nextO (finishIt s tm (d :: df) ret undefA todo) cs hp nx 6
    | some _ => .fail 37
  | some .recover => recoverA s tm todo df ret cs hp nx

def resultA (Q : Look) (hp : Tr AO) (tm : Tr AV) : ResultVar → Option AV
  | .tmp t => tm.get t
  | .cell a t => match tm.get a with
    | some (.ptr (some (b, off))) => loadA Q t hp b off
    | _ => none

def resultsA (Q : Look) (hp : Tr AO) (tm : Tr AV) (l : List ResultVar) : Option (List AV) := mapO (resultA Q hp tm) l

def deferredA (Q : Look) (c : AFr) (cs : List AFr) (hp : Tr AO) (nx : Nat) (r : Option ARes) : AR :=
  match r with
  | some (.enter f args) => nextO (enterA Q f args true) (c :: cs) hp nx 12
  | _ => .fail 13

def resultsOf (Q : Look) (f : FuncId) : Option (List ResultVar) :=
  match Q.fn f with
  | some fn => some fn.results.toList
  | none => none

def returnF (Q : Look) (s : FS) (tm : Tr AV) (cs : List AFr) (hp : Tr AO) (nx : Nat) (rs : Option (List ResultVar)) : AR :=
  match rs with
  | some rs => returnO s.dfd cs hp nx (resultsA Q hp tm rs)
  | none => .fail 15

def unwindA (Q : Look) (X : Nat → Option XK) (s : FS) (tm : Tr AV) (todo : List AIt) (df : List ADef) (cs : List AFr) (hp : Tr AO) (nx : Nat) : AR :=
  match df with
  | .collected r :: ds => takeDefers s tm todo ds cs hp nx r (hp.get r)
  | .call fn captured args :: ds => deferredA Q ⟨s, tm, todo, ds, true⟩ cs hp nx (invokeA Q X fn captured args hp nx)
  | [] => returnF Q s tm cs hp nx (resultsOf Q s.fn)

def checkOne (Q : Look) (X : Nat → Option XK) (tm : Tr AV) (hp : Tr AO) (nx : Nat) (ops : List Oper) (o : Oper) : Bool :=
  match wantedA ops tm o with
  | some true => sameVal (getO tm o.dst) (valOf (aop Q X tm o hp nx))
  | some false => true
  | none => false

def checkA (Q : Look) (X : Nat → Option XK) (tm : Tr AV) (hp : Tr AO) (nx : Nat) (ops : List Oper) : List Nat → Bool
  | [] => true
  | i :: l => (match nth ops i with
    | some o => checkOne Q X tm hp nx ops o
    | none => false) && checkA Q X tm hp nx ops l

def stepOp (Q : Look) (X : Nat → Option XK) (s : FS) (tm : Tr AV) (todo : List AIt) (df : List ADef) (cs : List AFr) (hp : Tr AO) (nx : Nat) (o : Oper) (w : Option Bool) : AR :=
  match w with
  | some true => applyA Q s tm todo df false cs hp nx (aop Q X tm o hp nx)
  | some false => nextO (finishIt s tm df false undefA todo) cs hp nx 22
  | none => .fail 23

def stepRegion (Q : Look) (s : FS) (tm : Tr AV) (df : List ADef) (cs : List AFr) (hp : Tr AO) (nx : Nat) (k : List AIt) (ops : List Oper) (draw : Bool) : AR :=
  match draw with
  | true => match goodActs Q ops (acts Q ops) with
    | true => toA s tm df cs hp nx (.drw ops (acts Q ops) :: k)
    | false => .fail 36
  | false => toA s tm df cs hp nx (.reg ops ops :: k)

def rangeIn (Q : Look) (s : FS) (tm : Tr AV) (df : List ADef) (cs : List AFr) (k : List AIt) (params : List Tmp) (assign body : Code) (g : FuncId) (first captured : List AV) (d : Option (Nat × List ADef × Tr AO × Nat)) : AR :=
  match d with
  | some (defers, mark, hp, nx) =>
    nextO (enterA Q g (first ++ (.func (.yield nx) [] [] :: captured)) false) (⟨s, tm, .inRangeFunc nx :: k, mark ++ df, false⟩ :: cs)
      (hp.set nx (.loop { state := .ready, pending := none, fn := s.fn, nt := s.nt, tm := tm, params := params, assign, body, defers })) (nx + 1) 20
  | none => .fail 19

def stepRange (Q : Look) (s : FS) (tm : Tr AV) (df : List ADef) (cs : List AFr) (hp : Tr AO) (nx : Nat) (k : List AIt) (params : List Tmp) (assign body : Code) (f : Option AV) : AR :=
  match f with
  | some (.func (.func g) first captured) => rangeIn Q s tm df cs k params assign body g first captured (loopDefers s.rnd hp nx)
  | _ => .fail 20

def stepCode (Q : Look) (s : FS) (tm : Tr AV) (df : List ADef) (cs : List AFr) (hp : Tr AO) (nx : Nat) (k : List AIt) : Code → AR
  | .ret => leaveA s tm (.code .ret :: k) df cs hp nx (some .ret)
  | .skip => toA s tm df cs hp nx k
  | .label _ => toA s tm df cs hp nx k
  | .seq a b => toA s tm df cs hp nx (.code a :: .code b :: k)
  | .cond c thn els => stepCond s tm df cs hp nx k thn els (ev tm c)
  | .block id body => toA s tm df cs hp nx (.code body :: .inBlock id :: k)
  | .loop body => toA s tm df cs hp nx (.code body :: .inLoop body :: k)
  | .scope body => toA s tm df cs hp nx (.code body :: .inScope body :: k)
  | .exit id => stepExit s tm (.code (.exit id) :: k) df cs hp nx id (exitA id k)
  | .goto l => toO s tm df cs hp nx 18 (gotoA l k)
  | .region _ ops draw => stepRegion Q s tm df cs hp nx k ops.toList draw
  | .rangeFunc f params assign body => stepRange Q s tm df cs hp nx k params.toList assign body (ev tm f)
  | .refuse _ => .fail 21

def stepReg (Q : Look) (X : Nat → Option XK) (s : FS) (tm : Tr AV) (df : List ADef) (cs : List AFr) (hp : Tr AO) (nx : Nat) (k : List AIt) (ops : List Oper) : List Oper → AR
  | [] => toA s tm df cs hp nx k
  | o :: rest => stepOp Q X s tm (.reg ops (o :: rest) :: k) df cs hp nx o (wantedA ops tm o)

def stepDrw (Q : Look) (X : Nat → Option XK) (s : FS) (tm : Tr AV) (df : List ADef) (cs : List AFr) (hp : Tr AO) (nx : Nat) (k : List AIt) (ops : List Oper) : List Ac → AR
  | [] => toA s tm df cs hp nx k
  | .ck ls :: rest => match checkA Q X tm hp nx ops ls with
    | true => toA s tm df cs hp nx (.drw ops rest :: k)
    | false => .fail 24
  | .ex i :: rest => match nth ops i, freshAt hp nx with
    | some o, true => stepOp Q X s tm (.drw ops (.ex i :: rest) :: k) df cs hp nx o (wantedA ops tm o)
    | _, _ => .fail 27

def stepIt (Q : Look) (X : Nat → Option XK) (s : FS) (tm : Tr AV) (df : List ADef) (cs : List AFr) (hp : Tr AO) (nx : Nat) : List AIt → AR
  | [] => leaveA s tm [] df cs hp nx none
  | .code c :: k => stepCode Q s tm df cs hp nx k c
  | .inBlock _ :: k => toA s tm df cs hp nx k
  | .inScope _ :: k => toA s tm df cs hp nx k
  | .inLoop body :: k => toA s tm df cs hp nx (.code body :: .inLoop body :: k)
  | .reg ops r :: k => stepReg Q X s tm df cs hp nx k ops r
  | .drw ops r :: k => stepDrw Q X s tm df cs hp nx k ops r
  | .inRangeFunc _ :: _ => .fail 28
  | .endRangeFunc l :: k => endRange s tm df cs hp nx k l (hp.get l)
  | .beginRound :: k => stepBegin s tm df cs hp nx k s.rnd

def astep (Q : Look) (X : Nat → Option XK) (s : ASt) : AR :=
  match s with
  | ⟨⟨s, tm, todo, df, ret⟩, cs, hp, nx⟩ => match ret with
    | true => unwindA Q X s tm todo df cs hp nx
    | false => stepIt Q X s tm df cs hp nx todo

def runP (Q : Look) (X : Nat → Option XK) : Nat → ASt → AR
  | 0, s => astep Q X s
  | n + 1, s => match runP Q X n s with
    | .next s' => runP Q X n s'
    | .done v => .done v
    | .fail w => .fail w

end F
end Va

/-
  VA: the machine over a program's own tables is the machine.
-/
namespace Va
open Go

theorem astepF_eq (P : Program) (X : Nat → Option XK) (s : ASt) : F.astep (Look.of P) X s = astep P X s := by kernel_rfl

theorem runPF_eq (P : Program) (X : Nat → Option XK) : ∀ (n : Nat) (s : ASt), F.runP (Look.of P) X n s = runP P X n s
  | 0, s => astepF_eq P X s
  | n + 1, s => by
    unfold F.runP runP
    rw [runPF_eq P X n s]
    cases runP P X n s with
    | next s' => exact runPF_eq P X n s'
    | done v => rfl
    | fail w => rfl

end Va

/-
  VA: a program's tables as trees.
-/
namespace Va
open Go

def evens {α : Type} : List α → List α
  | [] => []
  | [x] => [x]
  | x :: _ :: l => x :: evens l

def odds {α : Type} : List α → List α
  | [] => []
  | [_] => []
  | _ :: y :: l => y :: odds l

/-- A list as a tree. -/
def treeOf {α : Type} : Nat → List α → Tr α
  | 0, _ => .leaf
  | _ + 1, [] => .leaf
  | n + 1, x :: l => .node (treeOf n (evens l)) (some x) (treeOf n (odds l))

theorem evens_get {α : Type} : ∀ (l : List α) (k : Nat), (evens l)[k]? = l[2 * k]?
  | [], k => by simp [evens]
  | [x], 0 => by simp [evens]
  | [x], k + 1 => by simp [evens]
  | x :: y :: l, 0 => by simp [evens]
  | x :: y :: l, k + 1 => by
    simp only [evens, List.getElem?_cons_succ, evens_get l k]
    rw [show 2 * (k + 1) = 2 * k + 1 + 1 by omega]
    simp

theorem odds_get {α : Type} : ∀ (l : List α) (k : Nat), (odds l)[k]? = l[2 * k + 1]?
  | [], k => by simp [odds]
  | [x], k => by simp [odds]
  | x :: y :: l, 0 => by simp [odds]
  | x :: y :: l, k + 1 => by
    simp only [odds, List.getElem?_cons_succ, odds_get l k]
    rw [show 2 * (k + 1) = 2 * k + 1 + 1 by omega]
    simp

theorem evens_len {α : Type} : ∀ (l : List α), (evens l).length ≤ l.length
  | [] => by simp [evens]
  | [x] => by simp [evens]
  | x :: y :: l => by have := evens_len l; simp [evens]; omega

theorem odds_len {α : Type} : ∀ (l : List α), (odds l).length ≤ l.length
  | [] => by simp [odds]
  | [x] => by simp [odds]
  | x :: y :: l => by have := odds_len l; simp [odds]; omega

theorem treeOf_get {α : Type} : ∀ (n : Nat) (l : List α) (t : Nat), l.length ≤ n → (treeOf n l).get t = l[t]?
  | 0, [], t, _ => by simp [treeOf, Tr.get_leaf]
  | 0, x :: l, t, h => by simp at h
  | n + 1, [], t, _ => by simp [treeOf, Tr.get_leaf]
  | n + 1, x :: l, 0, _ => by simp [treeOf, Tr.get]
  | n + 1, x :: l, k + 1, h => by
    simp only [List.length_cons] at h
    simp only [treeOf, Tr.get, List.getElem?_cons_succ]
    by_cases hk : k % 2 = 0
    · rw [beq_t hk, cond_true, treeOf_get n (evens l) (k / 2) (Nat.le_trans (evens_len l) (by omega)), evens_get, show 2 * (k / 2) = k by omega]
    · rw [beq_f hk, cond_false, treeOf_get n (odds l) (k / 2) (Nat.le_trans (odds_len l) (by omega)), odds_get, show 2 * (k / 2) + 1 = k by omega]

/-- What is asked of a type, off its row. -/
def undI (P : Program) (i : TypeInfo) : Option TypeDesc :=
  match i with
  | { desc := .named _ u, .. } => (P.info? u).map (·.desc)
  | i => some i.desc

def aggI (P : Program) (i : TypeInfo) : Option Bool :=
  match undI P i with
  | some (.struct _) => some true
  | some (.array _ _) => some true
  | some _ => some false
  | none => none

def zeroI (i : TypeInfo) : Option AV :=
  match i.zero with
  | some v => ofV v
  | none => none

/-- How many fields a plain struct has. -/
def plainN (P : Program) (t : TypeId) : Option Nat :=
  match P.underlying t with
  | some (.struct fs) => match fs.toList.all (plainField P) && inOrder fs.toList 0 && !P.stoodInHeld t && !P.eqGuardType P.depth t with
    | true => some fs.toList.length
    | false => none
  | _ => none

/-- The tables. -/
structure Tabs where
  info : Tr TypeInfo
  und : Tr (Option TypeDesc)
  fn : Tr Func
  agg : Tr (Option Bool)
  zero : Tr (Option AV)
  plain : Tr (Option Nat)

/-- Off a table; else by the program itself. -/
def orP {α : Type} (x : Option α) (y : α) : α :=
  match x with
  | some z => z
  | none => y

def Look.tabs (P : Program) (T : Tabs) : Look :=
  { info := fun t => match T.info.get t with
      | some i => some i
      | none => P.info? t
    und := fun t => orP (T.und.get t) (P.underlying t)
    fn := T.fn.get
    size := fun t => match T.info.get t with
      | some i => some i.size
      | none => sizeOfA P t
    agg := fun t => orP (T.agg.get t) (isAggA P t)
    zero := fun t => orP (T.zero.get t) (zeroA P t)
    plain := fun t n => match T.plain.get t with
      | some (some m) => Nat.beq n m
      | some none => false
      | none => plainStruct P t n
    cells := P.cellsOf, lies := liesAt P P.depth }

structure TabsOk (P : Program) (N : Nat) (T : Tabs) : Prop where
  types : P.types.toList.length ≤ N
  funcs : P.funcs.toList.length ≤ N
  info : treeOf N P.types.toList = T.info
  und : treeOf N (P.types.toList.map (undI P)) = T.und
  fn : treeOf N P.funcs.toList = T.fn
  agg : treeOf N (P.types.toList.map (aggI P)) = T.agg
  zero : treeOf N (P.types.toList.map zeroI) = T.zero
  plain : treeOf N ((List.range P.types.toList.length).map (plainN P)) = T.plain

theorem info_list (P : Program) {t : TypeId} {i : TypeInfo} (h : P.types.toList[t]? = some i) : P.info? t = some i := by
  have h' : P.types[t]? = some i := by simpa using h
  have : t < P.types.size := by
    rcases Nat.lt_or_ge t P.types.size with h | h
    · exact h
    · simp [Array.getElem?_eq_none h] at h'
  unfold Tables.info?
  rw [if_pos this]
  exact h'

theorem und_list (P : Program) {t : TypeId} {i : TypeInfo} (h : P.types.toList[t]? = some i) : P.underlying t = undI P i := by
  unfold Program.underlying
  rw [info_list P h]
  obtain ⟨desc, _⟩ := i
  cases desc <;> rfl

theorem plainStruct_eq (P : Program) (t : TypeId) (n : Nat) : plainStruct P t n = (match plainN P t with | some m => Nat.beq n m | none => false) := by
  cases hu : P.underlying t with
  | none => simp [plainStruct, plainN, hu]
  | some d =>
    cases d <;> simp only [plainStruct, plainN, hu]
    rename_i fs
    cases h1 : fs.toList.all (plainField P) <;> cases h2 : inOrder fs.toList 0 <;> cases h3 : P.stoodInHeld t <;> cases h4 : P.eqGuardType P.depth t <;> simp

theorem Look.tabs_eq {P : Program} {N : Nat} {T : Tabs} (h : TabsOk P N T) : Look.tabs P T = Look.of P := by
  have hlen : ∀ {α : Type} (g : TypeInfo → α), (P.types.toList.map g).length ≤ N := fun g => by rw [List.length_map]; exact h.types
  have hinfo : ∀ t, T.info.get t = P.types.toList[t]? := fun t => by rw [← h.info, treeOf_get _ _ _ h.types]
  have h1 : (fun t => match T.info.get t with | some i => some i | none => P.info? t) = P.info? := by
    funext t
    rw [hinfo]
    cases hi : P.types.toList[t]? with
    | none => rfl
    | some i => exact (info_list P hi).symm
  have h2 : (fun t => orP (T.und.get t) (P.underlying t)) = P.underlying := by
    funext t
    rw [← h.und, treeOf_get _ _ _ (hlen _), List.getElem?_map]
    cases hi : P.types.toList[t]? with
    | none => rfl
    | some i => exact (und_list P hi).symm
  have h3 : T.fn.get = fun f => P.funcs[f]? := by
    funext t
    rw [← h.fn, treeOf_get _ _ _ h.funcs]; simp
  have h4 : (fun t => match T.info.get t with | some i => some i.size | none => sizeOfA P t) = sizeOfA P := by
    funext t
    rw [hinfo]
    cases hi : P.types.toList[t]? with
    | none => rfl
    | some i => simp [sizeOfA, info_list P hi]
  have h5 : (fun t => orP (T.agg.get t) (isAggA P t)) = isAggA P := by
    funext t
    rw [← h.agg, treeOf_get _ _ _ (hlen _), List.getElem?_map]
    cases hi : P.types.toList[t]? with
    | none => rfl
    | some i =>
      simp only [Option.map_some, orP]
      unfold aggI isAggA
      rw [und_list P hi]
      split <;> simp_all
  have h6 : (fun t => orP (T.zero.get t) (zeroA P t)) = zeroA P := by
    funext t
    rw [← h.zero, treeOf_get _ _ _ (hlen _), List.getElem?_map]
    cases hi : P.types.toList[t]? with
    | none => rfl
    | some i =>
      simp only [Option.map_some, orP, zeroA, zeroI, info_list P hi]
      cases i.zero <;> rfl
  have h7 : (fun t n => match T.plain.get t with | some (some m) => Nat.beq n m | some none => false | none => plainStruct P t n) = plainStruct P := by
    funext t n
    rw [← h.plain, treeOf_get _ _ _ (by simpa using h.types), plainStruct_eq, List.getElem?_map]
    by_cases ht : t < P.types.toList.length
    · rw [List.getElem?_range ht]
      simp only [Option.map_some]
      cases plainN P t <;> rfl
    · rw [List.getElem?_eq_none (by simpa using ht)]
      rfl
  unfold Look.tabs Look.of
  rw [h1, h2, h3, h4, h5, h6, h7]

/-- What the functions without a Go body do, by a list. -/
def xsOf : List (Nat × XK) → Nat → Option XK
  | [], _ => none
  | (g, k) :: l, f => cond (Nat.beq f g) (some k) (xsOf l f)

theorem xsOf_mem : ∀ {l : List (Nat × XK)} {f : Nat} {k : XK}, xsOf l f = some k → (f, k) ∈ l
  | [], _, _, h => by cases h
  | (g, k) :: l, f, k', h => by
    simp only [xsOf] at h
    cases hb : Nat.beq f g with
    | true => rw [hb] at h; cases h; rw [Nat.eq_of_beq_eq_true hb]; simp
    | false => rw [hb] at h; exact List.mem_cons_of_mem _ (xsOf_mem h)

/-- So many steps: sums of powers of two. -/
def F.runL (Q : Look) (X : Nat → Option XK) : List Nat → ASt → AR
  | [], s => .next s
  | n :: l, s => match F.runP Q X n s with
    | .next s' => F.runL Q X l s'
    | .done v => .done v
    | .fail w => .fail w

/-- A part of a code: by the way to it. -/
def cAt : Code → List Nat → Code
  | c, [] => c
  | .seq a _, 0 :: l => cAt a l
  | .seq _ b, _ :: l => cAt b l
  | .cond _ a _, 0 :: l => cAt a l
  | .cond _ _ b, _ :: l => cAt b l
  | .block _ b, _ :: l => cAt b l
  | .loop b, _ :: l => cAt b l
  | .scope b, _ :: l => cAt b l
  | .rangeFunc _ _ a _, 0 :: l => cAt a l
  | .rangeFunc _ _ _ b, _ :: l => cAt b l
  | c, _ :: _ => c

def cOf (f : Func) (l : List Nat) : Code :=
  match f.body with
  | some c => cAt c l
  | none => .skip

def oOf (f : Func) (l : List Nat) : List Oper :=
  match cOf f l with
  | .region _ ops _ => ops.toList
  | _ => []

theorem runL_next {P : Program} {X : Nat → Option XK} {env : Nat → Value} {W0 : World} {f : FuncId} {cs0 : List Frame} (E : EnvOk P X) (henv : ∀ i, (env i).oneCell' = true) : ∀ (l : List Nat) {s s' : ASt} {m : Machine}, SR P X env W0 f cs0 s m → F.runL (Look.of P) X l s = .next s' → Goes P X env W0 f cs0 m s'
  | [], _, _, m, R, h => by cases h; exact ⟨m, .refl P _, R⟩
  | n :: l, s, s', m, R, h => by
    simp only [F.runL, runPF_eq] at h
    split at h
    · rename_i s1 h1
      obtain ⟨m1, g1, R1⟩ := runP_next E henv n R h1
      exact Goes.of_steps g1 (runL_next E henv l R1 h)
    · cases h
    · cases h

/-- What is asked of the program, by closed facts. -/
theorem EnvOk.of {P : Program} {l : List (Nat × XK)} (h1 : P.follows .mixedOrders = true) (h2 : (P.funcs.toList.all fun fn => !(fn.name == "runtime.NumGoroutine")) = true)
    (h3 : ∀ x ∈ l, ∀ fn, P.funcs[x.1]? = some fn → Extern.findNext fn = none ∧ ∃ e, Extern.find fn = some e ∧ XSem P fn x.2 e) : EnvOk P (xsOf l) := by
  refine ⟨h1, fun f fn hf => ?_, fun f k fn hk hf _ => h3 _ (xsOf_mem hk) fn hf⟩
  have hm : fn ∈ P.funcs.toList := by
    have : P.funcs.toList[f]? = some fn := by simpa using hf
    exact List.mem_of_getElem? this
  have := List.all_eq_true.1 h2 fn hm
  simpa using this

/-- Opaque cells, from number k on. -/
def opqL : Nat → Nat → List AV
  | _, 0 => []
  | k, n + 1 => .opq k :: opqL (k + 1) n

/-- An environment of so many values. -/
def envOf (l : List Value) (i : Nat) : Value := (l[i]?).getD (.bool false)

theorem envOf_one {l : List Value} (h : ∀ v ∈ l, v.oneCell' = true) (i : Nat) : (envOf l i).oneCell' = true := by
  unfold envOf
  cases hi : l[i]? with
  | none => rfl
  | some v => exact h v (List.mem_of_getElem? hi)

theorem opqL_sound {env : Nat → Value} {ρ : Rho} : ∀ (l : List Value) (k : Nat), (∀ i v, l[i]? = some v → env (k + i) = v) → VRs env ρ (opqL k l.length) l
  | [], k, _ => .nil
  | v :: l, k, h => by
    have h0 := h 0 v (by simp)
    rw [Nat.add_zero] at h0
    refine .cons ?_ (opqL_sound l (k + 1) fun i u hu => by have := h (i + 1) u (by simpa using hu); rwa [show k + (i + 1) = k + 1 + i by omega] at this)
    rw [← h0]
    exact .opq k

/-- A part of a run over the tables, behind which blocks are given up. -/
theorem Leads.partT {P : Program} {X : Nat → Option XK} {env : Nat → Value} {W0 : World} {f : FuncId} {N : Nat} {T : Tabs} (hT : TabsOk P N T) (E : EnvOk P X) (henv : ∀ i, (env i).oneCell' = true) {s s' : ASt} {v : AV} (n l : List Nat)
    (h : dropR l (F.runL (Look.tabs P T) X n s) = .next s') (L : Leads P X env W0 f s' v) : Leads P X env W0 f s v := by
  rw [Look.tabs_eq hT] at h
  unfold dropR at h
  split at h
  · rename_i s1 h1
    split at h
    · rename_i hf
      cases h
      intro cs0 m R
      obtain ⟨m1, g1, R1⟩ := runL_next E henv n R h1
      obtain ⟨m2, g2, D⟩ := L cs0 m1 (R1.drop l hf)
      exact ⟨m2, g1.trans g2, D⟩
    · cases h
  · cases h
  · cases h

theorem Leads.partN {P : Program} {X : Nat → Option XK} {env : Nat → Value} {W0 : World} {f : FuncId} {N : Nat} {T : Tabs} (hT : TabsOk P N T) (E : EnvOk P X) (henv : ∀ i, (env i).oneCell' = true) {s s' : ASt} {v : AV} (n : List Nat)
    (h : F.runL (Look.tabs P T) X n s = .next s') (L : Leads P X env W0 f s' v) : Leads P X env W0 f s v := by
  rw [Look.tabs_eq hT] at h
  intro cs0 m R
  obtain ⟨m1, g1, R1⟩ := runL_next E henv n R h
  obtain ⟨m2, g2, D⟩ := L cs0 m1 R1
  exact ⟨m2, g1.trans g2, D⟩

theorem Leads.doneT {P : Program} {X : Nat → Option XK} {env : Nat → Value} {W0 : World} {f : FuncId} {N : Nat} {T : Tabs} (hT : TabsOk P N T) (E : EnvOk P X) (henv : ∀ i, (env i).oneCell' = true) {s : ASt} {v : AV} (n : Nat)
    (h : F.runP (Look.tabs P T) X n s = .done v) : Leads P X env W0 f s v := by
  rw [Look.tabs_eq hT, runPF_eq] at h
  exact Leads.done E henv n h

end Va

/-
  VA: what a law's row gives a run at its start.
-/
namespace Va
open Go Go.RowKit

variable {P : Program} {w : World} {r : Reach} {base : Nat}

theorem cellOk_one {t : TypeId} {v : Value} (h : Cell.ok P w r base t v) : v.oneCell' = true := by
  unfold Cell.ok at h
  split at h <;> first | rfl | exact h.elim

theorem cellOkWide_one {t : TypeId} {v : Value} (h : Cell.okWide P w r base t v) : v.oneCell' = true := by
  unfold Cell.okWide at h
  split at h <;> first | rfl | exact cellOk_one h

/-- A struct's cells are of one cell each. -/
theorem okWide_struct {t : TypeId} {v : Value} {fs : Array Field} (hu : P.underlying t = some (.struct fs)) (h : Value.okWide P w r base t v) : ∃ cs, v = .agg cs ∧ cs.size = P.cellsOf t ∧ ∀ c ∈ cs.toList, c.oneCell' = true := by
  unfold Value.okWide at h
  rw [hu] at h
  obtain ⟨cs, rfl, h1, ts, _, _, h2⟩ := h
  refine ⟨cs, rfl, h1, fun c hc => ?_⟩
  obtain ⟨i, hi⟩ := List.getElem?_of_mem hc
  obtain ⟨u, _, h3⟩ := h2 i c (by simpa using hi)
  exact cellOkWide_one h3

/-- A string argument. -/
theorem okWide_cell {t : TypeId} {v : Value} (hu : ∀ fs, P.underlying t ≠ some (.struct fs)) (hn : ∀ n e, P.underlying t ≠ some (.array n e)) (h : Value.okWide P w r base t v) : v.oneCell' = true := by
  unfold Value.okWide at h
  split at h
  · rename_i fs e; exact absurd e (hu _)
  · rename_i n e he; exact absurd he (hn _ _)
  · exact cellOkWide_one h

/-- A variable of an interface's type has one cell. -/
theorem trod_iface_one {H : Type} {enc : TypeId × Value → H} {spare : Nat → Bool} {held : Bool} {fuel : Nat} {t : TypeId} {ms : Array (String × TypeId)} {cs : List Value} {x : DataW H × List MemPlace} (hu : P.underlying t = some (.interface ms))
    (h : DataW.trod enc P w base spare held fuel t cs = some x) : ∃ v, cs = [v] ∧ v.oneCell' = true := by
  cases fuel with
  | zero => cases h
  | succ n =>
    unfold DataW.trod at h
    rw [hu] at h
    cases cs with
    | nil => cases h
    | cons v l =>
      cases l with
      | cons _ _ => cases v <;> cases h
      | nil =>
        refine ⟨v, rfl, ?_⟩
        cases v <;> first | rfl | (exfalso; cases h; done)

/-- A listed variable's cells. -/
theorem laidVars_cells : ∀ {l : List (String × DataW Unit)} {ps : List MemPlace}, DataW.LaidVars P w l ps → ∀ n d, (n, d) ∈ l →
    ∃ g t cs fuel p, P.globalNamed n = some g ∧ (P.globals[g]?).map (·.type) = some t ∧ w.var? P n = some cs ∧ DataW.trod (fun _ => ()) P w 0 (fun _ => true) false fuel t cs.toList = some (d, p)
  | [], _, _, n, d, h => by cases h
  | (m, e) :: l, ps, hv, n, d, h => by
    obtain ⟨g, t, cs, fuel, p, q, h1, h2, h3, h4, h5, _⟩ := hv
    rcases List.mem_cons.1 h with h | h
    · cases h; exact ⟨g, t, cs, fuel, p, h1, h2, h3, h4⟩
    · exact laidVars_cells h5 n d h

/-- A variable of an interface's type that is listed: its block. -/
theorem laid_iface_block {l : List (String × DataW Unit)} (hl : laidMet P l w) {n : String} {d : DataW Unit} (hm : (n, d) ∈ l) {g t : Nat} {ms : Array (String × TypeId)} (hg : P.globalNamed n = some g) (ht : (P.globals[g]?).map (·.type) = some t)
    (hu : P.underlying t = some (.interface ms)) : ∃ v, v.oneCell' = true ∧ w.var? P n = some #[v] := by
  obtain ⟨ps, hv, _⟩ := hl
  obtain ⟨g', t', cs, fuel, p, h1, h2, h3, h4⟩ := laidVars_cells hv n d hm
  obtain rfl := Option.some.inj (hg.symm.trans h1)
  obtain rfl := Option.some.inj (ht.symm.trans h2)
  obtain ⟨v, hc, hone⟩ := trod_iface_one hu h4
  refine ⟨v, hone, ?_⟩
  rw [h3]
  congr 1
  exact Array.toList_inj.1 (by simpa using hc)

/-- A package-level variable's block, as the start has it. -/
theorem shaped_block (hs : w.ShapedOpen P) {n : String} {g t : Nat} {zero : Array Value} {cs : Array Value} (hg : P.globalNamed n = some g) (hlt : g < P.globals.size)
    (h0 : (((begin P (fun _ _ => 0) default).world.heap[g]?).bind Obj.row?) = some (zero, t)) (hv : w.var? P n = some cs) : w.heap[g]? = some (.cells cs t (0, 0)) := by
  obtain ⟨cs', h1, _, _⟩ := hs.1 g zero t hlt h0
  unfold World.var? at hv
  rw [hg] at hv
  simp only [Option.bind_some, h1, Option.some.injEq] at hv
  rw [← hv]
  exact h1

section
variable {H : Type} {enc : TypeId × Value → H}

/-- A row out of what its calls come to, at worlds of the program's shape. -/
theorem returns_shaped {a : Assume} {C : Checked} {os : Os} {f : FuncId} {fn : Func} {s : ChangeSpec} {conds : List PathCond} {apart fresh handsOn again : Bool} {X : World → Prop} (hX : ∀ w w' : World, w.heap = w'.heap → X w → X w')
    (own : ownKnob C.prog.godebug = none) (started : os.Started) (noInit : C.prog.inits.idxOf? f = none) (hfn : C.prog.funcs[f]? = some fn)
    (witness : ∃ (w : World) (tape : Tape) (i : Input), w.os = os ∧ (w.forCall tape i).Shaped C.prog ∧ i.vars = [] ∧ Input.okWide C.prog (w.forCall tape i) .any w.heap.size f i ∧
      ((s.pre enc C.prog fn conds apart (w.forCall tape i).memory i.args ∧ X (w.forCall tape i).memory) ∧ sizedMet enc C.prog fn (OpenSpec.ofChange s) apart (w.forCall tape i).memory i.args) ∧
      a.holds C.prog (lone (Frame.enter C.prog f i.args .normal) [] (w.forCall tape i)))
    (contract : ∀ (W : World) (base : Nat) (args : Array Value) (ds gs : List (DataW H)) (before : List MemPlace), W.ShapedOpen C.prog →
      (∀ (j : Nat) t v, fn.params[j]? = some t → args[j]? = some v → Value.okWide C.prog W .any base t v) → DataW.Whole enc C.prog fn.params.toList s.vars apart W args.toList ds gs before → X W →
      Calls C.prog f args W fun e W' => ∃ v, e = .returned v ∧ s.post enc C.prog fn apart fresh handsOn again W args v W') :
    ReturnsInHanded a C os f .any (fun w args => (s.pre enc C.prog fn conds apart w args ∧ X w) ∧ sizedMet enc C.prog fn (OpenSpec.ofChange s) apart w args) (s.post enc C.prog fn apart fresh handsOn again) := by
  refine returnsInHanded_of_calls own started noInit witness fun w tape i _ hs _ hok hpre _ => ?_
  obtain ⟨_, _, _, fn', hfn', _, _, _, _, hval⟩ := hok
  obtain rfl : fn' = fn := Option.some.inj (hfn'.symm.trans hfn)
  obtain ⟨⟨⟨ds, gs, before, hw, _⟩, hx⟩, _⟩ := hpre
  have hw' := DataW.Whole.of_heap (w' := w.forCall tape i) (by rfl) hw
  refine (contract (w.forCall tape i) w.heap.size i.args ds gs before hs hval hw' (hX _ _ (by rfl) hx)).mono fun e W' ⟨v, he, hp⟩ => ?_
  subst he
  exact ChangeSpec.post_blind hp

end

end Va

