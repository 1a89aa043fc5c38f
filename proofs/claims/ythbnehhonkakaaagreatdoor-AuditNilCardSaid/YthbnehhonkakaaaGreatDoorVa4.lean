/-
  VA, an abstract machine for fixed calls, and its soundness: part 4 of 7.
-/
import Derived.Test.YthbnehhonkakaaaGreatDoorVa3
import Derived.Lib.UnsafeStr
/-
  VA: new blocks, and writes.
-/
namespace Va
open Go Go.RowKit

variable {P : Program} {env : Nat → Value} {W0 : World} {ρ : Rho} {hp : Tr AO} {nx : Nat} {w : World}

theorem env_cells {v : Value} (h : v.oneCell' = true) : v.cells = #[v] := by
  cases v <;> simp_all [Value.oneCell', Value.cells]

theorem oneCell_sound (henv : ∀ i, (env i).oneCell' = true) {v : AV} {v' : Value} (h : VR env ρ v v') (hc : oneCell v = true) : v'.oneCell' = true := by
  cases h <;> simp_all [oneCell, Value.oneCell']

theorem allCell_sound (henv : ∀ i, (env i).oneCell' = true) : ∀ {l : List AV} {ws : List Value}, VRs env ρ l ws → allCell l = true → ∀ v ∈ ws, v.oneCell' = true
  | _, _, .nil, _, v, hv => by cases hv
  | _, _, .cons r s, hc, v, hv => by
    simp only [allCell, Bool.and_eq_true] at hc
    cases hv with
    | head => exact oneCell_sound henv r hc.1
    | tail _ h => exact allCell_sound henv s hc.2 v h

/-- Cells are stored one by one. -/
theorem run_storeRow {k e : Nat} {fz : Nat × Nat} {o0 : Nat} : ∀ (ws : List Value) (i : Nat) (w : World) (cc : Array Value), w.heap[k]? = some (.cells cc e fz) →
    o0 + i + ws.length ≤ cc.size → (∀ j, j < ws.length → ¬ (fz.1 ≤ o0 + i + j ∧ o0 + i + j < fz.2)) → (∀ v ∈ ws, v.oneCell' = true) →
    ∃ w' cc', (storeCells ⟨k, o0, none⟩ ws i).run P w = .ok () w' ∧ Chg k (.cells cc' e fz) w w' ∧ cc'.size = cc.size ∧
      ∀ j, cc'[j]? = if o0 + i ≤ j ∧ j < o0 + i + ws.length then ws[j - (o0 + i)]? else cc[j]?
  | [], i, w, cc, hh, _, _, _ => ⟨w, cc, rfl, ⟨hh, fun _ _ => rfl, rfl, rfl, rfl, rfl⟩, rfl, fun j => by rw [if_neg (by simp)]⟩
  | v :: ws, i, w, cc, hh, hl, hf, h1 => by
    simp only [List.length_cons] at hl
    have hadd : (⟨k, o0, none⟩ : Addr).add i = ⟨k, o0 + i, none⟩ := by unfold Addr.add; split <;> simp_all
    have hc : w.cell? ⟨k, o0 + i, none⟩ = some cc[o0 + i] := by simp [World.cell?, hh]
    have hz : w.frozen? ⟨k, o0 + i, none⟩ = false := by
      have := hf 0 (by simp)
      simp only [Nat.add_zero] at this
      simp only [World.frozen?, hh]
      simp only [Bool.and_eq_false_iff, decide_eq_false_iff_not]
      by_cases h : fz.1 ≤ o0 + i
      · right; intro h2; exact this ⟨h, h2⟩
      · left; exact h
    have hst : (store ((⟨k, o0, none⟩ : Addr).add i) v).run P w = .ok () (w.setCell ⟨k, o0 + i, none⟩ v) := by
      rw [hadd, run_store P w _ v _ (h1 v (by simp))]
      simp [hc, hz]
    have hh' : (w.setCell ⟨k, o0 + i, none⟩ v).heap[k]? = some (.cells (cc.setIfInBounds (o0 + i) v) e fz) := by
      simp [World.setCell, Array.getElem?_modify, hh]
    obtain ⟨w', cc', r1, r2, r3, r4⟩ := run_storeRow (o0 := o0) ws (i + 1) (w.setCell ⟨k, o0 + i, none⟩ v) _ hh' (by simp; omega)
      (fun j hj => by have := hf (j + 1) (by simp; omega); rwa [show o0 + i + (j + 1) = o0 + (i + 1) + j by omega] at this) (fun x hx => h1 x (by simp [hx]))
    refine ⟨w', cc', ?_, ⟨r2.at_, fun j hj => ?_, ?_, r2.os, r2.tape, r2.output⟩, by rw [r3]; simp, fun j => ?_⟩
    · simp only [storeCells, Sem.run_bind, hst, Result.andThen_ok]; exact r1
    · rw [r2.other j hj]; simp [World.setCell, Array.getElem?_modify, Ne.symm hj]
    · rw [r2.size]; simp [World.setCell]
    · rw [r4 j]
      simp only [List.length_cons, Array.getElem?_setIfInBounds]
      by_cases hj : o0 + i = j
      · subst hj
        rw [if_neg (by omega), if_pos rfl, if_pos (by omega), if_pos (by omega)]
        simp
      · rw [if_neg hj]
        by_cases hc : o0 + (i + 1) ≤ j ∧ j < o0 + (i + 1) + ws.length
        · rw [if_pos hc, if_pos (by omega), show j - (o0 + i) = (j - (o0 + (i + 1))) + 1 by omega]; simp
        · rw [if_neg hc, if_neg (by omega)]

theorem storeC_some {more : Bool} {b off : Nat} {vs : List AV} {hp' : Tr AO} (h : storeC more hp b off vs = some hp') :
    ∃ c e ex fz c', hp.get b = some (.cells c e ex fz) ∧ apartFrom fz off vs.length = true ∧ allCell vs = true ∧ putC (more && !ex) c off vs = some c' ∧ 2000 ≤ b ∧ hp' = hp.set b (.cells c' e ex fz) := by
  unfold storeC at h
  split at h
  · rename_i c e ex fz hb
    split at h
    · rename_i ha
      simp only [Bool.and_eq_true] at ha
      split at h
      · rename_i c' hc
        unfold putH at h
        split at h
        · rename_i hl
          cases h
          exact ⟨c, e, ex, fz, c', hb, ha.1, ha.2, hc, Nat.le_of_ble_eq_true hl, rfl⟩
        · cases h
      · cases h
    · cases h
  · cases h

theorem not_frozen {base size : Nat} {fz fz' : Nat × Nat} {off n j : Nat} (hf : FzR base size fz fz') (ha : apartFrom fz off n = true) (hj : j < n) (hs : base + off + j < size) :
    ¬ (fz'.1 ≤ base + off + j ∧ base + off + j < fz'.2) := by
  unfold apartFrom at ha
  simp only [Bool.or_eq_true, Nat.ble_eq] at ha
  rintro ⟨h1, h2⟩
  rcases hf with h | ⟨rfl, h⟩ | ⟨h, h3, h4⟩
  · omega
  · omega
  · omega

theorem cells_room {base size : Nat} {c : List AV} {cc : Array Value} (h : CellsR env ρ base c cc) (hs : cc.size = size) (hc : c ≠ []) : base + c.length ≤ size := by
  have hl : 0 < c.length := by cases c <;> simp_all
  obtain ⟨v', h1, _⟩ := h (c.length - 1) c[c.length - 1] (by simp)
  have := (Array.getElem?_eq_some_iff.1 h1).1
  omega

/-- A write to a block. -/
theorem storeC_sound (henv : ∀ i, (env i).oneCell' = true) (I : Inv env W0 ρ hp nx w) {more : Bool} {b off : Nat} {vs : List AV} {ws : List Value} {hp' : Tr AO} {p : Pl} (h : storeC more hp b off vs = some hp')
    (hp1 : ρ b = some p) (hv : VRs env ρ vs ws) (hroom : more = true → vs = [] ∨ p.base + off + vs.length ≤ p.size) :
    ∃ w', (storeCells ⟨p.blk, p.base + off, none⟩ ws).run P w = .ok () w' ∧ Inv env W0 ρ hp' nx w' ∧ ∀ c, ρ c = none → hp'.get c = hp.get c := by
  obtain ⟨c, e, ex, fz, c', hb, ha, hcell, hput, hl, rfl⟩ := storeC_some h
  obtain ⟨ob, g1, g2⟩ := I.obj b _ p hb hp1 rfl
  cases ob <;> simp only [OR] at g2
  rename_i cc e' fz'
  obtain ⟨rfl, hsz, hex, hcr, hfz⟩ := g2
  obtain ⟨p1, p2, p3, p4⟩ := putC_get hput
  have hlen : vs.length = ws.length := hv.length
  have hr : p.base + off + vs.length ≤ p.size ∨ vs = [] := by
    cases hm : (more && !ex) with
    | true => simp only [Bool.and_eq_true] at hm; exact (hroom hm.1).symm
    | false =>
      have := p4 hm
      by_cases hvs : vs = []
      · exact .inr hvs
      · left
        have hc0 : c ≠ [] := by
          intro e; subst e
          cases vs with
          | nil => exact hvs rfl
          | cons x l => simp at this
        have := cells_room hcr hsz hc0
        omega
  rcases hr with hr | rfl
  · obtain ⟨w', cc', r1, r2, r3, r4⟩ := run_storeRow (P := P) (o0 := p.base + off) ws 0 w cc g1 (by omega)
      (fun j hj => by have := not_frozen (base := p.base) (off := off) (j := j) hfz ha (by omega) (by omega); simpa using this) (allCell_sound henv hv hcell)
    refine ⟨w', r1, I.write hb rfl hp1 hl r2 ?_, fun d hd => ?_⟩
    · simp only [OR]
      refine ⟨trivial, by rw [r3]; exact hsz, fun hx => ⟨(hex hx).1, ?_⟩, fun i v hi => ?_, hfz⟩
      · have := p4 (by simp [hx]); rw [p2]; have := (hex hx).2; omega
      · rw [p1 i] at hi
        rw [r4]
        by_cases hin : off ≤ i ∧ i < off + vs.length
        · rw [if_pos hin] at hi
          obtain ⟨y, y1, y2⟩ := hv.get hi
          rw [if_pos (by omega), show p.base + i - (p.base + off + 0) = i - off by omega]
          exact ⟨y, y1, y2⟩
        · rw [if_neg hin] at hi
          obtain ⟨y, y1, y2⟩ := hcr i v hi
          rw [if_neg (by omega)]
          exact ⟨y, y1, y2⟩
    · rw [Tr.get_set, if_neg]; intro e; subst e; rw [hp1] at hd; cases hd
  · have : ws = [] := List.eq_nil_of_length_eq_zero (by simpa using hlen.symm)
    subst this
    have hc' : c' = c := by
      apply List.ext_getElem?
      intro i; rw [p1 i, if_neg (by simp)]
    subst hc'
    refine ⟨w, rfl, I.write hb rfl hp1 hl ⟨g1, fun _ _ => rfl, rfl, rfl, rfl, rfl⟩ ?_, fun d hd => ?_⟩
    · simp only [OR]; exact ⟨trivial, hsz, hex, hcr, hfz⟩
    · rw [Tr.get_set, if_neg]; intro e; subst e; rw [hp1] at hd; cases hd

/-- A new row of known cells. -/
theorem or_row {k e : Nat} {l : List AV} {cs : Array Value} (h : VRs env ρ l cs.toList) : OR env ρ ⟨k, 0, cs.size⟩ (.cells l e true (0, 0)) (.cells cs e) := by
  simp only [OR]
  refine ⟨trivial, trivial, fun _ => ⟨trivial, by simpa using h.length⟩, fun i v hi => ?_, .inl rfl⟩
  obtain ⟨y, y1, y2⟩ := h.get hi
  exact ⟨y, by simpa using y1, y2⟩

/-- An operation that makes one block and answers what it makes of its number. -/
def AllocOut (P : Program) (env : Nat → Value) (ρ : Rho) (w : World) (v : Nat → AV) (o : AO) (s : Sem Value) : Prop :=
  ∃ ob v' w' sz, s.run P w = .ok v' w' ∧ w'.heap = w.heap.push ob ∧ w'.os = w.os ∧ w'.tape = w.tape ∧ w'.output = w.output ∧
    ∀ b σ, ρ.le σ → σ b = some ⟨w.heap.size, 0, sz⟩ → VR env σ (v b) v' ∧ OR env σ ⟨w.heap.size, 0, sz⟩ o ob

theorem allocRow {t : TypeId} {l : List AV} {cs : Array Value} (h : VRs env ρ l cs.toList) :
    AllocOut P env ρ w (fun a => .ptr (some (a, 0))) (.cells l t true (0, 0)) (do pure (.pointer (some (← newRow t cs)))) :=
  ⟨.cells cs t, .pointer (some ⟨w.heap.size, 0, none⟩), { w with heap := w.heap.push (.cells cs t) }, cs.size, by simp [newRow], rfl, rfl, rfl, rfl, fun b σ hσ hb =>
    ⟨VR.ptr (o := 0) (p := ⟨w.heap.size, 0, cs.size⟩) hb, or_row (h.mono hσ)⟩⟩

theorem opAlloc_sound (henv : ∀ i, (env i).oneCell' = true) {e : TypeId} {r : ARes} (h : opAlloc P e hp nx = some r) :
    ∃ v o, r = .val (v nx) (hp.set nx o) (nx + 1) ∧ AllocOut P env ρ w v o (Instr.alloc e true (.tuple #[])) := by
  unfold opAlloc at h
  split at h
  · rename_i z hz
    obtain ⟨i, z', _, _, h3, h4⟩ := zeroA_sound (env := env) (ρ := ρ) hz
    split at h
    · simp only [newA, Option.some.injEq] at h
      refine ⟨fun a => .ptr (some (a, 0)), .cells z.cells e true (0, 0), h.symm, ?_⟩
      have hc := h3.cells (fun i => env_cells (henv i))
      obtain ⟨ob, v', w', sz, r1, r2⟩ := allocRow (P := P) (w := w) (t := e) hc
      exact ⟨ob, v', w', sz, by simp only [Instr.alloc, Sem.run_bind, h4, Result.andThen_ok]; exact r1, r2⟩
    · cases h
  · cases h

theorem opBox_sound (henv : ∀ i, (env i).oneCell' = true) {tm : Tr AV} {a : Go.Act} {x : Operand} {e : TypeId} {r : ARes} (hE : EvOk env ρ tm a [x]) (h : opBox tm e x hp nx = some r) :
    ∃ v o, r = .val (v nx) (hp.set nx o) (nx + 1) ∧ AllocOut P env ρ w v o (Instr.box e (a.eval x)) := by
  unfold opBox at h
  split at h
  · rename_i v hv
    split at h
    · simp only [newA, Option.some.injEq] at h
      refine ⟨fun a => .ptr (some (a, 0)), .cells v.cells e true (0, 0), h.symm, ?_⟩
      exact allocRow ((hE x (by simp) _ hv).cells (fun i => env_cells (henv i)))
    · cases h
  · cases h

theorem repeatL_get {l : List AV} : ∀ (n i : Nat), i < n * l.length → (repeatL l n)[i]? = l[i % l.length]?
  | 0, i, h => by omega
  | n + 1, i, h => by
    simp only [repeatL]
    have hpos : 0 < l.length := by
      rcases Nat.eq_zero_or_pos l.length with e | e
      · rw [e] at h; omega
      · exact e
    rw [List.getElem?_append]
    split
    · rename_i hi; rw [Nat.mod_eq_of_lt hi]
    · rename_i hi
      rw [repeatL_get n (i - l.length) (by rw [Nat.add_mul] at h; omega), Nat.mod_eq_sub_mod (by omega : i ≥ l.length)]

theorem repeatL_len {l : List AV} : ∀ n, (repeatL l n).length = n * l.length
  | 0 => by simp [repeatL]
  | n + 1 => by simp [repeatL, repeatL_len n, Nat.add_mul]; omega

/-- So many zeros. -/
theorem repeatL_rel {l : List AV} {z : Array Value} {n size : Nat} (h : VRs env ρ l z.toList) (hs : l.length = size) (zz : Array Value) (hz : n * size = 0 ∨ zz = z) :
    VRs env ρ (repeatL l n) ((Array.range (n * size)).map (zz[· % zz.size]!)).toList := by
  have hl : l.length = z.size := by simpa using h.length
  refine VRs.of_get (by simp [repeatL_len, hs]) fun i x hx => ?_
  have hi : i < n * l.length := by rw [← repeatL_len]; exact (List.getElem?_eq_some_iff.1 hx).1
  rcases hz with e | rfl
  · rw [hs] at hi; omega
  · rw [repeatL_get n i hi] at hx
    obtain ⟨y, y1, y2⟩ := h.get hx
    refine ⟨y, ?_, y2⟩
    rw [hs] at hi
    have hpos : 0 < zz.size := by
      rcases Nat.eq_zero_or_pos zz.size with e | e
      · rw [← hl, hs] at e; rw [e] at hi; omega
      · exact e
    have hlt : i % zz.size < zz.size := Nat.mod_lt _ hpos
    rw [hl] at y1
    simp only [Array.getElem?_toList] at y1
    simp [hi, getElem!_pos zz (i % zz.size) hlt]
    rw [Array.getElem?_eq_getElem hlt] at y1
    simpa using y1

end Va

/-
  VA: new slices, maps and iterators.
-/
namespace Va
open Go Go.RowKit

variable {P : Program} {env : Nat → Value} {W0 : World} {ρ : Rho} {hp : Tr AO} {nx : Nat} {w : World}

theorem sizeOfA_info {t : TypeId} {n : Nat} (h : sizeOfA P t = some n) : ∃ i, P.info? t = some i ∧ i.size = n := by
  unfold sizeOfA at h
  split at h
  · rename_i i hi; cases h; exact ⟨i, hi, rfl⟩
  · cases h

/-- A new row, and a slice over all of it. -/
theorem allocSlice {t : TypeId} {l : List AV} {cs : Array Value} {n size : Nat} (h : VRs env ρ l cs.toList) (hs : cs.size = n * size) (m : Nat) :
    AllocOut P env ρ w (fun a => .slice (some (a, 0)) m n true size) (.cells l t true (0, 0)) (do pure (.slice (some (← newRow t cs)) m n)) :=
  ⟨.cells cs t, .slice (some ⟨w.heap.size, 0, none⟩) m n, { w with heap := w.heap.push (.cells cs t) }, cs.size, by simp [newRow], rfl, rfl, rfl, rfl, fun b σ hσ hb =>
    ⟨VR.slice (o := 0) (p := ⟨w.heap.size, 0, cs.size⟩) hb (fun _ => rfl) (Nat.le_refl _) (by simp [hs]), or_row (h.mono hσ)⟩⟩

theorem opBuildSlice_sound (henv : ∀ i, (env i).oneCell' = true) {tm : Tr AV} {a : Go.Act} {t : TypeId} {len : Nat} {parts : Array (Nat × Operand)} {r : ARes}
    (hE : EvOk env ρ tm a (parts.toList.map (·.2))) (h : opBuildSlice P tm t len parts.toList hp nx = some r) :
    ∃ v o, r = .val (v nx) (hp.set nx o) (nx + 1) ∧ AllocOut P env ρ w v o (Instr.buildSlice t len (parts.map fun (i, x) => (i, a.eval x))) := by
  unfold opBuildSlice at h
  split at h
  · rename_i e ps hu hps
    split at h
    · rename_i z size hz hs
      obtain ⟨i, z', _, _, h3, h4⟩ := zeroA_sound (env := env) (ρ := ρ) hz
      split at h
      · rename_i hc
        simp only [Bool.and_eq_true] at hc
        split at h
        · rename_i cs hcs
          simp only [newA, Option.some.injEq] at h
          refine ⟨fun a => .slice (some (a, 0)) len len true size, .cells cs e true (0, 0), h.symm, ?_⟩
          have henv' := fun i => env_cells (henv i)
          have hzc := h3.cells henv'
          have hlen := Nat.eq_of_beq_eq_true hc.1
          have hbig := Nat.le_of_ble_eq_true hc.2
          have hp := evParts_sound hE hps
          have hpl : (parts.map fun (i, x) => (i, a.eval x)).toList = parts.toList.map fun (i, x) => (i, a.eval x) := by simp
          generalize hzz : (if len * size = 0 then #[] else z'.cells : Array Value) = zz
          have hrep := repeatL_rel (n := len) (size := size) hzc hlen zz (by
            by_cases h0 : len * size = 0
            · exact .inl h0
            · right; rw [← hzz, if_neg h0])
          obtain ⟨cs', f1, f2⟩ := fillA_sound henv' hcs hp hrep
          have hsz : cs'.size = len * size := by
            have g1 := f2.length
            simp only [Array.length_toList] at g1
            have : ∀ {ps : List (Nat × AV)} {l l' : List AV} {pl}, fillA pl l ps = some l' → l'.length = l.length := by
              intro ps
              induction ps with
              | nil => intro l l' pl h; simp only [fillA, Option.some.injEq] at h; rw [h]
              | cons p ps ih =>
                intro l l' pl h
                obtain ⟨i, v⟩ := p
                simp only [fillA] at h
                split at h
                · cases h
                · split at h
                  · split at h
                    · rename_i q hq
                      rw [ih h]
                      obtain ⟨_, q2, _, q4⟩ := putC_get hq
                      have := q4 rfl
                      omega
                    · cases h
                  · cases h
            have := this hcs
            rw [repeatL_len, hlen] at this
            omega
          obtain ⟨ob, v', w', sz, r1, r2⟩ := allocSlice (P := P) (w := w) (t := e) f2 hsz len
          refine ⟨ob, v', w', sz, ?_, r2⟩
          rw [← r1]
          simp only [Instr.buildSlice, Sem.run_bind, run_underlying hu, run_sizeOf hs, Result.andThen_ok]
          rw [if_neg (by omega)]
          by_cases h0 : len * size = 0
          · rw [if_pos h0] at hzz ⊢
            subst hzz
            simp only [pure_bind, Sem.run_pure]
            rw [hpl, f1]
            simp only [Sem.run_bind, Sem.run_pure]
          · rw [if_neg h0] at hzz ⊢
            subst hzz
            simp only [pure_bind, Sem.run_bind, h4, Sem.run_pure, Result.andThen_ok]
            rw [hpl, f1]
            simp only [Sem.run_bind, Sem.run_pure]
        · cases h
      · cases h
    · cases h
  · cases h

theorem allocMap : AllocOut P env ρ w (fun a => .map (some a)) (.map [] 0) (do pure (.map (some (← newObj (.map #[] 0))))) :=
  ⟨.map #[] 0, .map (some w.heap.size), { w with heap := w.heap.push (.map #[] 0) }, 0, by simp, rfl, rfl, rfl, rfl, fun b σ hσ hb =>
    ⟨VR.map (p := ⟨w.heap.size, 0, 0⟩) hb, by simp only [OR]; exact ⟨trivial, .nil⟩⟩⟩

theorem opMakeMap_sound {tm : Tr AV} {a : Go.Act} {t : TypeId} {x : Option Operand} {r : ARes} (hE : EvOk env ρ tm a x.toList) (h : opMakeMap P tm t x hp nx = some r) :
    ∃ v o, r = .val (v nx) (hp.set nx o) (nx + 1) ∧ AllocOut P env ρ w v o (Instr.makeMap t (x.map a.eval)) := by
  unfold opMakeMap at h
  split at h
  · simp only [newA, Option.some.injEq] at h
    refine ⟨fun a => .map (some a), .map [] 0, h.symm, ?_⟩
    exact allocMap
  · rename_i y
    split at h
    · rename_i k n kt et hy hu
      simp only [newA, Option.some.injEq] at h
      refine ⟨fun a => .map (some a), .map [] 0, h.symm, ?_⟩
      have h1 := hE y (by simp) _ hy
      obtain ⟨ob, v', w', sz, r1, r2⟩ := allocMap (P := P) (env := env) (ρ := ρ) (w := w)
      refine ⟨ob, v', w', sz, ?_, r2⟩
      rw [← r1]
      simp only [Option.map_some]
      generalize a.eval y = y' at h1
      cases h1
      simp [Instr.makeMap, run_underlying hu, asInt, asIntOf]
    · cases h

theorem opMakeSlice_sound (henv : ∀ i, (env i).oneCell' = true) {tm : Tr AV} {a : Go.Act} {t : TypeId} {x y : Operand} {r : ARes} (hE : EvOk env ρ tm a [x, y]) (h : opMakeSlice P tm t x y hp nx = some r) :
    ∃ v o, r = .val (v nx) (hp.set nx o) (nx + 1) ∧ AllocOut P env ρ w v o (Instr.makeSlice t (a.eval x) (a.eval y)) := by
  unfold opMakeSlice at h
  split at h
  · rename_i e n m hu hx hy
    split at h
    · rename_i z i hz hi
      obtain ⟨i2, z', hi2, _, h3, h4⟩ := zeroA_sound (env := env) (ρ := ρ) hz
      rw [hi] at hi2; cases hi2
      split at h
      · rename_i hc
        simp only [Bool.and_eq_true, small] at hc
        simp only [newA, Option.some.injEq] at h
        refine ⟨fun a => .slice (some (a, 0)) n m true i.size, .cells (repeatL z.cells m) e true (0, 0), h.symm, ?_⟩
        have h1 := hE x (by simp) _ hx
        have h2 := hE y (by simp) _ hy
        generalize a.eval x = x' at h1
        generalize a.eval y = y' at h2
        cases h1; cases h2
        have hlen := Nat.eq_of_beq_eq_true hc.1.1.1
        have hnm := Nat.le_of_ble_eq_true hc.1.1.2
        have hsm := Nat.le_of_ble_eq_true hc.1.2
        have hm := Nat.le_of_ble_eq_true hc.2
        have hzc := h3.cells (fun i => env_cells (henv i))
        generalize hzz : (if m * i.size = 0 then #[] else z'.cells : Array Value) = zz
        have hrep := repeatL_rel (n := m) (size := i.size) hzc hlen zz (by
          by_cases h0 : m * i.size = 0
          · exact .inl h0
          · right; rw [← hzz, if_neg h0])
        obtain ⟨ob, v', w', sz, r1, r2⟩ := allocSlice (P := P) (w := w) (t := e) (n := m) (size := i.size) hrep (by simp) n
        refine ⟨ob, v', w', sz, ?_, r2⟩
        rw [← r1]
        have wn : IntKind.i64.wrap (Int.ofNat n) = (n : Int) := wrap_id (by simp [IntKind.min, IntKind.signed, IntKind.bits] <;> omega) (by simp [IntKind.max, IntKind.signed, IntKind.bits] <;> omega)
        have wm : IntKind.i64.wrap (Int.ofNat m) = (m : Int) := wrap_id (by simp [IntKind.min, IntKind.signed, IntKind.bits] <;> omega) (by simp [IntKind.max, IntKind.signed, IntKind.bits] <;> omega)
        have hb : ¬ ((i.bytes : Int) * (m : Int) > 2 ^ 48) := by
          have h5 : ((m * i.bytes : Nat) : Int) ≤ ((1000000000 : Nat) : Int) := Int.ofNat_le.2 hsm
          have e : (i.bytes : Int) * (m : Int) = ((m * i.bytes : Nat) : Int) := by rw [Int.natCast_mul, Int.mul_comm]
          rw [e]
          generalize ((m * i.bytes : Nat) : Int) = q at h5
          omega
        have hs : sizeOfA P e = some i.size := by simp [sizeOfA, hi]
        simp only [Instr.makeSlice, asInt, asIntOf, Sem.run_bind, run_underlying hu, Result.andThen_ok, run_typeInfo hi, wn, wm, pure_bind, Sem.run_pure]
        have c1 : ((decide ((m : Int) < 0) || decide ((i.bytes : Int) * (m : Int) > 2 ^ 48)) || decide ((n : Int) < 0) || decide ((n : Int) > (m : Int))) = false := by
          simp only [Bool.or_eq_false_iff, decide_eq_false_iff_not]; omega
        simp only [c1, Bool.false_eq_true, if_false, Sem.run_bind, run_askRoom, Result.andThen_ok, Int.toNat_natCast, run_sizeOf hs]
        by_cases h0 : m * i.size = 0
        · rw [if_pos h0] at hzz ⊢
          subst hzz
          simp
        · rw [if_neg h0] at hzz ⊢
          subst hzz
          simp [h4]
      · cases h
    · cases h
  · cases h

theorem allocIter {m : Option Nat} {m' : Option Nat} {since st : Nat} (hm : ∀ σ, ρ.le σ → match m, m' with | none, none => True | some a, some b => ∃ q, σ a = some q ∧ b = q.blk | _, _ => False) :
    AllocOut P env ρ w (fun a => .ptr (some (a, 0))) (.mapIter m since [] st) (do pure (.pointer (some ⟨← newObj (.mapIter m' since #[] st), 0, none⟩))) :=
  ⟨.mapIter m' since #[] st, .pointer (some ⟨w.heap.size, 0, none⟩), { w with heap := w.heap.push (.mapIter m' since #[] st) }, 0, by simp, rfl, rfl, rfl, rfl, fun b σ hσ hb =>
    ⟨VR.ptr (o := 0) (p := ⟨w.heap.size, 0, 0⟩) hb, by simp only [OR]; exact ⟨trivial, hm σ hσ, trivial, trivial, trivial⟩⟩⟩

theorem opRange_sound (I : Inv env W0 ρ hp nx w) {tm : Tr AV} {a : Go.Act} {t : TypeId} {x : Operand} {r : ARes} (hE : EvOk env ρ tm a [x]) (h : opRange P tm t x hp nx = some r) :
    ∃ v o, r = .val (v nx) (hp.set nx o) (nx + 1) ∧ AllocOut P env ρ w v o (Instr.range t (a.eval x)) := by
  unfold opRange at h
  split at h
  · rename_i kt et hu hx
    simp only [newA, Option.some.injEq] at h
    refine ⟨fun a => .ptr (some (a, 0)), .mapIter none 0 [] 0, h.symm, ?_⟩
    have h1 := hE x (by simp) _ hx
    generalize a.eval x = x' at h1
    cases h1
    obtain ⟨ob, v', w', sz, r1, r2⟩ := allocIter (P := P) (env := env) (ρ := ρ) (w := w) (m := none) (m' := none) (since := 0) (st := 0) (fun _ _ => trivial)
    exact ⟨ob, v', w', sz, by rw [← r1]; simp [Instr.range, run_underlying hu], r2⟩
  · rename_i kt et m hu hx
    split at h
    · rename_i es clock hg
      simp only [newA, Option.some.injEq] at h
      refine ⟨fun a => .ptr (some (a, 0)), .mapIter (some m) clock [] clock, h.symm, ?_⟩
      have h1 := hE x (by simp) _ hx
      generalize a.eval x = x' at h1
      cases h1 with
      | map hr =>
        rename_i p
        obtain ⟨es', g1, g2, _⟩ := getMap_sound I hg hr
        obtain ⟨ob, v', w', sz, r1, r2⟩ := allocIter (P := P) (env := env) (ρ := ρ) (w := w) (m := some m) (m' := some p.blk) (since := clock) (st := clock) (fun σ hσ => ⟨p, hσ _ _ hr, rfl⟩)
        exact ⟨ob, v', w', sz, by rw [← r1]; simp [Instr.range, run_underlying hu, run_getObj (P := P) g1 trivial], r2⟩
    · cases h
  · cases h

end Va

/-
  VA: append and its kin.
-/
namespace Va
open Go Go.RowKit

variable {P : Program} {env : Nat → Value} {W0 : World} {ρ : Rho} {hp : Tr AO} {nx : Nat} {w : World}

def GoodV (P : Program) (env : Nat → Value) (W0 : World) (ρ : Rho) (hp : Tr AO) (nx : Nat) (w : World) (v : AV) (hp' : Tr AO) (nx' : Nat) (s : Sem Value) : Prop :=
  ∃ v' w' σ, s.run P w = .ok v' w' ∧ ρ.le σ ∧ VR env σ v v' ∧ Inv env W0 σ hp' nx' w' ∧ nx ≤ nx' ∧ ∀ b, b < nx → ρ b = none → σ b = none ∧ hp'.get b = hp.get b

def GoodU (P : Program) (env : Nat → Value) (W0 : World) (ρ : Rho) (hp : Tr AO) (nx : Nat) (w : World) (hp' : Tr AO) (s : Sem Unit) : Prop :=
  ∃ w', s.run P w = .ok () w' ∧ Inv env W0 ρ hp' nx w' ∧ ∀ b, ρ b = none → hp'.get b = hp.get b

theorem GoodV.of_comes (I : Inv env W0 ρ hp nx w) {v : AV} {s : Sem Value} (h : Comes1 P env ρ w v s) : GoodV P env W0 ρ hp nx w v hp nx s :=
  let ⟨v', h1, h2⟩ := h
  ⟨v', w, ρ, h1, Rho.le_refl _, h2, I, Nat.le_refl _, fun _ _ h => ⟨h, rfl⟩⟩

theorem GoodV.of_alloc (I : Inv env W0 ρ hp nx w) {v : Nat → AV} {o : AO} {s : Sem Value} (h : AllocOut P env ρ w v o s) : GoodV P env W0 ρ hp nx w (v nx) (hp.set nx o) (nx + 1) s := by
  obtain ⟨ob, v', w', sz, h1, h2, h3, h4, h5, h6⟩ := h
  have hf := I.fresh nx (Nat.le_refl _)
  obtain ⟨h7, h8⟩ := h6 nx (ρ.upd nx ⟨w.heap.size, 0, sz⟩) (Rho.le_upd hf) (by simp)
  refine ⟨v', w', _, h1, Rho.le_upd hf, h7, I.alloc hf (fun c => Tr.get_set _ _ _ _) (Nat.lt_succ_self _) (Nat.le_succ _) h2 h3 h4 h5 h8, Nat.le_succ _, fun b hb hn => ⟨?_, ?_⟩⟩
  · unfold Rho.upd; rw [if_neg (by omega)]; exact hn
  · rw [Tr.get_set, if_neg (by omega)]

-- numbers of bytes
theorem byteCells_len : ∀ l : List Nat, (byteCells l).length = l.length
  | [] => rfl
  | _ :: l => by simp [byteCells, byteCells_len l]

theorem byteCells_rel : ∀ (l : List UInt8), VRs env ρ (byteCells (l.map UInt8.toNat)) (l.map fun b => Value.int .u8 b.toNat)
  | [] => .nil
  | _b :: l => .cons (.int _ _) (byteCells_rel l)

theorem lenA_sound {size m : Nat} {x : AV} {x' : Value} (hx : VR env ρ x x') (h : lenA size x = some m) : (Builtin.lenOf x').run P w = .ok m w := by
  unfold lenA at h
  split at h
  · cases h; cases hx <;> rfl
  · split at h
    · cases h; cases hx; rw [bytes_len]; rfl
    · cases h
  · cases h

theorem moreCells_sound (I : Inv env W0 ρ hp nx w) {size m : Nat} {x : AV} {x' : Value} {cs : List AV} (hx : VR env ρ x x') (hl : lenA size x = some m) (h : moreCells size x hp = some cs) :
    ∃ ws : List Value, (Builtin.firstCells size m x').run P w = .ok ws.toArray w ∧ VRs env ρ cs ws ∧ cs.length = m * size := by
  unfold moreCells at h
  split at h
  · split at h
    · rename_i hn
      cases h
      have := Nat.eq_of_beq_eq_true hn
      subst this
      simp only [lenA, Option.some.injEq] at hl
      subst hl
      cases hx
      exact ⟨[], rfl, .nil, by simp⟩
    · cases h
  · rename_i b off n c ex sz
    split at h
    · rename_i hs
      have := Nat.eq_of_beq_eq_true hs
      subst this
      simp only [lenA, Option.some.injEq] at hl
      subst hl
      cases hx with
      | slice e _ _ _ =>
        obtain ⟨ws, h1, h2, h3⟩ := run_loadCells_of (P := P) I h e
        exact ⟨ws, h1, h2, by rw [h2.length, h3]⟩
      | sliceAny e =>
        have hcs : cs = [] := by
          obtain ⟨_, _, _, _, _, ht⟩ := loadC_some h
          have := takeN_len ht
          simpa using this
        subst hcs
        exact ⟨[], by simp [Builtin.firstCells, loadCells, loadCellsFrom], .nil, by simp⟩
    · cases h
  · cases h
    cases hx with
    | str s =>
      simp only [lenA] at hl
      split at hl
      · rename_i h1
        cases hl
        have := Nat.eq_of_beq_eq_true h1
        subst this
        refine ⟨s.data.toList.map fun b => Value.int .u8 b.toNat, ?_, byteCells_rel _, by simp [byteCells_len]⟩
        rw [bytes_len]
        simp only [Builtin.firstCells, ByteArray.extract_zero_size, Sem.run_pure]
        rw [← List.map_toArray]
      · cases hl
  · cases h

theorem nextslicecap_le (need old : Nat) (h : old < need) : Builtin.nextslicecap need old ≤ 16 * need + 4000 := by
  unfold Builtin.nextslicecap
  split
  · omega
  · split
    · omega
    · simp only [Builtin.growBy]
      (repeat' split) <;> omega

/-- What append does once it knows how much there is. -/
theorem openRow_sound {e size need : Nat} {l : List AV} {cs : Array Value} {cap' : Nat} (h : VRs env ρ l cs.toList) (zs : Array Value) (hz : cs.size + zs.size = cap' * size) (hn : need ≤ cap') {w : World} :
    AllocOut P env ρ w (fun a => .slice (some (a, 0)) need need false size) (.cells l e false (0, 0)) (do pure (.slice (some (← newRow e (cs ++ zs))) need cap')) := by
  refine ⟨.cells (cs ++ zs) e, .slice (some ⟨w.heap.size, 0, none⟩) need cap', { w with heap := w.heap.push (.cells (cs ++ zs) e) }, (cs ++ zs).size, by simp [newRow], rfl, rfl, rfl, rfl, fun b σ hσ hb =>
    ⟨VR.slice (o := 0) (p := ⟨w.heap.size, 0, (cs ++ zs).size⟩) hb (fun e => by cases e) hn (by simp [hz]), ?_⟩⟩
  simp only [OR]
  refine ⟨trivial, trivial, (fun e => by cases e), fun i v hi => ?_, .inl rfl⟩
  obtain ⟨y, y1, y2⟩ := (h.mono hσ).get hi
  refine ⟨y, ?_, y2⟩
  simp only [Array.getElem?_toList] at y1
  have := (Array.getElem?_eq_some_iff.1 y1).1
  rw [Array.getElem?_append, if_pos (by simpa using this)]
  simpa using y1

theorem AllocOut.fz {v : Nat → AV} {c : List AV} {e : Nat} {fz : Nat × Nat} {s : Sem Value} (h : AllocOut P env ρ w v (.cells c e false (0, 0)) s) (hs : ∀ ob v' w', s.run P w = .ok v' w' → w'.heap = w.heap.push ob → ∃ cc, ob = .cells cc e) :
    AllocOut P env ρ w v (.cells c e false fz) s := by
  obtain ⟨ob, v', w', sz, h1, h2, h3, h4, h5, h6⟩ := h
  refine ⟨ob, v', w', sz, h1, h2, h3, h4, h5, fun b σ hσ hb => ?_⟩
  obtain ⟨h7, h8⟩ := h6 b σ hσ hb
  refine ⟨h7, ?_⟩
  obtain ⟨cc, rfl⟩ := hs ob v' w' h1 h2
  simp only [OR] at h8 ⊢
  exact ⟨h8.1, h8.2.1, (fun e => by cases e), h8.2.2.2.1, h8.2.2.2.2.elim .inl (fun _ => .inl rfl)⟩

def isIntD : TypeDesc → Bool
  | .int _ => true
  | _ => false

theorem addLen_int {xd : TypeDesc} {bytes size m : Nat} {x : AV} {x' : Value} (hx : VR env ρ x x') (h : addLen xd bytes size x = some m) (hi : isIntD xd = true) : x' = .int .i64 (Int.ofNat m) ∧ m * bytes ≤ 1000000000 := by
  cases xd <;> simp only [isIntD, Bool.false_eq_true] at hi
  simp only [addLen] at h
  cases hx <;> first | (exact absurd h (by simp)) | skip
  rename_i k n
  cases k <;> first | (exact absurd h (by simp)) | skip
  cases n with
  | ofNat q =>
    simp only at h
    split at h
    · rename_i hs; cases h; exact ⟨rfl, Nat.le_of_ble_eq_true hs⟩
    · cases h
  | negSucc q => cases h

theorem addLen_other {xd : TypeDesc} {bytes size m : Nat} {x : AV} (h : addLen xd bytes size x = some m) (hi : isIntD xd = false) : lenA size x = some m := by
  cases xd <;> first | (simp [isIntD] at hi; done) | exact h

end Va

/-
  VA: append.
-/
namespace Va
open Go Go.RowKit

variable {P : Program} {env : Nat → Value} {W0 : World} {ρ : Rho} {hp : Tr AO} {nx : Nat} {w : World}

/-- The cells that an append adds: another's first ones, or zeros. -/
def AppD (P : Program) (zeros : Bool) (size : Nat) (elem : TypeId) (m : Nat) (x : Value) (ws : List Value) (w : World) : Prop :=
  (zeros = false ∧ (Builtin.firstCells size m x).run P w = .ok ws.toArray w) ∨
  (zeros = true ∧ m * size = 0 ∧ ws = []) ∨
  (zeros = true ∧ m * size ≠ 0 ∧ ∃ z, (∀ w, (zeroValue elem).run P w = .ok z w) ∧ ws.toArray = Builtin.zeroCells z.cells m)

/-- What an append comes to: with room, it stores and gives a longer slice; without, behind one draw, a new row. -/
structure AppLaw (P : Program) (w : World) (i : TypeInfo) (elem : TypeId) (base : Option Addr) (n c : Nat) (x : Value) (zeros : Bool) (m : Nat) (S : Sem Value) : Prop where
  inn : ∀ {ws : List Value}, n + m ≤ c → AppD P zeros i.size elem m x ws w → S.run P w = match base with
      | none => .ok (.slice none (n + m) c) w
      | some a => ((storeCells (a.add (n * i.size)) ws).run P w).andThen fun _ w' => .ok (.slice (some a) (n + m) c) w'
  out : ∀ {ws old : List Value} {z : Value}, ¬ n + m ≤ c → i.bytes ≠ 0 → (n + m) * i.bytes ≤ 1000000000 → (∀ w, (zeroValue elem).run P w = .ok z w) →
      (Builtin.firstCells i.size n (.slice base n c)).run P w.drew = .ok old.toArray w.drew → AppD P zeros i.size elem m x ws w.drew →
      ∃ cap', n + m ≤ cap' ∧ S.run P w =
        ((do pure (.slice (some (← newRow elem (old.toArray ++ ws.toArray ++ Builtin.zeroCells z.cells (cap' - (n + m))))) (n + m) cap') : Sem Value)).run P w.drew

theorem no_len_panic {n m b : Nat} {p : Prop} (hn : (n + m) * b ≤ 1000000000) (hb : b ≠ 0) : ¬ (((n + m : Nat) : Int) > IntKind.i64.max ∧ p) := by
  have hneed : n + m ≤ 1000000000 := Nat.le_trans (Nat.le_mul_of_pos_right _ (by omega)) hn
  rintro ⟨h1, _⟩
  simp [IntKind.max, IntKind.signed, IntKind.bits] at h1
  omega

theorem no_room_panic {n m b c : Nat} (h : ¬ n + m ≤ c) (hn : (n + m) * b ≤ 1000000000) (hb : b ≠ 0) : ¬ (Builtin.nextslicecap (n + m) c * b > 2 ^ 48) := by
  have hneed : n + m ≤ 1000000000 := Nat.le_trans (Nat.le_mul_of_pos_right _ (by omega)) hn
  have := nextslicecap_le (n + m) c (by omega)
  have h3 : Builtin.nextslicecap (n + m) c * b ≤ (16 * (n + m) + 4000) * b := Nat.mul_le_mul_right _ this
  have h4 : (16 * (n + m) + 4000) * b = 16 * ((n + m) * b) + 4000 * b := by rw [Nat.add_mul, Nat.mul_assoc]
  have h5 : b ≤ (n + m) * b := Nat.le_mul_of_pos_left _ (by omega)
  generalize (n + m) * b = q at *
  generalize Builtin.nextslicecap (n + m) c * b = u at *
  omega

theorem append_other {l : List TypeId} {st xt elem : TypeId} {xd : TypeDesc} {i : TypeInfo} (hst : P.underlying st = some (.slice elem)) (hxt : P.underlying xt = some xd) (hi : P.info? elem = some i)
    (hx : isIntD xd = false) {base : Option Addr} {n c m : Nat} {x : Value} (hm : (Builtin.lenOf x).run P w = .ok m w) (ty : TypeId) :
    AppLaw P w i elem base n c x false m (Builtin.append_ (st :: xt :: l).toArray ty #[.slice base n c, x]) where
  inn := by
    intro ws h ha
    have ha' : (Builtin.firstCells i.size m x).run P w = .ok ws.toArray w := by rcases ha with ⟨_, h⟩ | ⟨h, _⟩ | ⟨h, _⟩ <;> first | exact h | cases h
    have hs : sizeOfA P elem = some i.size := by simp [sizeOfA, hi]
    unfold Builtin.append_
    simp only [List.getElem?_toArray, List.getElem?_cons_zero, List.getElem?_cons_succ]
    simp only [Sem.run_bind, run_underlying hst, Result.andThen_ok, run_sizeOf hs, run_underlying hxt, Sem.run_pure]
    cases xd <;> first | (simp [isIntD] at hx; done) | (simp only [Bool.false_eq_true, if_false, Sem.run_bind, hm, Result.andThen_ok, if_pos h, Bool.not_false, if_true, ha']; cases base <;> simp)
  out := by
    intro ws old z h hb hn hz ho ha
    have ha' : (Builtin.firstCells i.size m x).run P w.drew = .ok ws.toArray w.drew := by rcases ha with ⟨_, h⟩ | ⟨h, _⟩ | ⟨h, _⟩ <;> first | exact h | cases h
    have hs : sizeOfA P elem = some i.size := by simp [sizeOfA, hi]
    have hd : ({ w with drawn := w.drawn + 1 } : World) = w.drew := rfl
    refine ⟨(Question.appendCap (n + m) c elem).cut (w.tape w.drawn (.appendCap (n + m) c elem)), by simp [Question.cut], ?_⟩
    unfold Builtin.append_
    simp only [List.getElem?_toArray, List.getElem?_cons_zero, List.getElem?_cons_succ]
    simp only [Sem.run_bind, run_underlying hst, Result.andThen_ok, run_sizeOf hs, run_underlying hxt, Sem.run_pure]
    cases xd <;> first | (simp [isIntD] at hx; done) |
      (simp only [Bool.false_eq_true, if_false, Sem.run_bind, hm, Result.andThen_ok, if_neg h, Bool.not_false, if_true, run_typeInfo hi, if_neg (no_len_panic hn hb), if_neg (no_room_panic h hn hb),
        Sem.run_pure, run_choose, Question.forced, run_askRoom, hd, ho, ha', hz])

theorem append_int {l : List TypeId} {st xt elem : TypeId} {k : IntKind} {i : TypeInfo} (hst : P.underlying st = some (.slice elem)) (hxt : P.underlying xt = some (.int k)) (hi : P.info? elem = some i)
    {base : Option Addr} {n c m : Nat} (hm : m * i.bytes ≤ 1000000000) (hb : i.bytes ≠ 0) (ty : TypeId) :
    AppLaw P w i elem base n c (.int .i64 (Int.ofNat m)) true m (Builtin.append_ (st :: xt :: l).toArray ty #[.slice base n c, .int .i64 (Int.ofNat m)]) := by
  have hs : sizeOfA P elem = some i.size := by simp [sizeOfA, hi]
  have hm2 : m ≤ 1000000000 := Nat.le_trans (Nat.le_mul_of_pos_right m (by omega)) hm
  have wm : IntKind.i64.wrap (Int.ofNat m) = (m : Int) := wrap_id (by simp [IntKind.min, IntKind.signed, IntKind.bits] <;> omega) (by simp [IntKind.max, IntKind.signed, IntKind.bits] <;> omega)
  have hbig : ¬ ((m : Int) * (i.bytes : Int) > 2 ^ 48) := by
    have h5 : ((m * i.bytes : Nat) : Int) ≤ ((1000000000 : Nat) : Int) := Int.ofNat_le.2 hm
    rw [← Int.natCast_mul]
    generalize ((m * i.bytes : Nat) : Int) = q at h5
    omega
  have hneg : ¬ ((m : Int) < 0) := by omega
  refine ⟨?_, ?_⟩
  · intro ws h ha
    have ha' : (m * i.size = 0 ∧ ws = []) ∨ (m * i.size ≠ 0 ∧ ∃ z, (∀ w, (zeroValue elem).run P w = .ok z w) ∧ ws.toArray = Builtin.zeroCells z.cells m) := by
      rcases ha with ⟨h, _⟩ | ⟨_, h⟩ | ⟨_, h⟩
      · cases h
      · exact .inl h
      · exact .inr h
    unfold Builtin.append_
    simp only [List.getElem?_toArray, List.getElem?_cons_zero, List.getElem?_cons_succ]
    simp only [Sem.run_bind, run_underlying hst, Result.andThen_ok, run_sizeOf hs, run_underlying hxt, Sem.run_pure]
    simp only [if_true, asInt, asIntOf, pure_bind, wm, hneg, if_false, Sem.run_bind, run_typeInfo hi, Result.andThen_ok, hbig, Int.toNat_natCast, if_pos h, Bool.not_true, Bool.false_eq_true]
    rcases ha' with ⟨h0, rfl⟩ | ⟨h0, z, hz, hw⟩
    · simp only [if_pos h0, Sem.run_pure, Result.andThen_ok]; cases base <;> simp
    · simp only [if_neg h0, Sem.run_bind, hz, Sem.run_pure, Result.andThen_ok, ← hw]; cases base <;> simp
  · intro ws old z h hb hn hz ho ha
    have ha' : (m * i.size = 0 ∧ ws = []) ∨ (m * i.size ≠ 0 ∧ ∃ z, (∀ w, (zeroValue elem).run P w = .ok z w) ∧ ws.toArray = Builtin.zeroCells z.cells m) := by
      rcases ha with ⟨h, _⟩ | ⟨_, h⟩ | ⟨_, h⟩
      · cases h
      · exact .inl h
      · exact .inr h
    have hd : ({ w with drawn := w.drawn + 1 } : World) = w.drew := rfl
    refine ⟨(Question.appendCap (n + m) c elem).cut (w.tape w.drawn (.appendCap (n + m) c elem)), by simp [Question.cut], ?_⟩
    unfold Builtin.append_
    simp only [List.getElem?_toArray, List.getElem?_cons_zero, List.getElem?_cons_succ]
    simp only [Sem.run_bind, run_underlying hst, Result.andThen_ok, run_sizeOf hs, run_underlying hxt, Sem.run_pure]
    simp only [if_true, asInt, asIntOf, pure_bind, wm, hneg, if_false, Sem.run_bind, run_typeInfo hi, Result.andThen_ok, hbig, Int.toNat_natCast, if_neg h, Bool.not_true, Bool.false_eq_true,
      if_neg (no_len_panic hn hb), if_neg (no_room_panic h hn hb), Sem.run_pure, run_choose, Question.forced, run_askRoom, hd, ho]
    rcases ha' with ⟨h0, rfl⟩ | ⟨h0, z', hz', hw⟩
    · simp only [if_pos h0, Sem.run_pure, Result.andThen_ok, hz]
    · simp only [if_neg h0, Sem.run_bind, hz', Sem.run_pure, Result.andThen_ok, ← hw]
      have hzz : z = z' := by have h1 := hz w; rw [hz' w] at h1; cases h1; rfl
      rw [hzz]

end Va

/-
  VA: append, with room and without.
-/
namespace Va
open Go Go.RowKit

variable {P : Program} {env : Nat → Value} {W0 : World} {ρ : Rho} {hp : Tr AO} {nx : Nat} {w : World}

/-- In place: the old block is given up for the new one, that lies in it. -/
theorem alias_sound (henv : ∀ i, (env i).oneCell' = true) (I : Inv env W0 ρ hp nx w) {b off n m size : Nat} {c old new : List AV} {e : Nat} {fz : Nat × Nat} {p : Pl} {ws : List Value} {cap' : Nat}
    (hb : hp.get b = some (.cells c e false fz)) (hp1 : ρ b = some p) (hl : 2000 ≤ b) (hold : takeN (n * size) (dropN off c) = some old) (hnew : new.length = m * size) (hws : VRs env ρ new ws) (hcell : allCell new = true)
    (ha : apartFrom fz (off + n * size) (m * size) = true) (hf : off = 0 ∨ fz.1 = fz.2) (hroom : p.base + off + cap' * size ≤ p.size) (hcap : n + m ≤ cap') :
    ∃ w', (storeCells ⟨p.blk, p.base + (off + n * size), none⟩ ws).run P w = .ok () w' ∧
      Inv env W0 (ρ.upd nx ⟨p.blk, p.base + off, p.size⟩) ((hp.set b .dead).set nx (.cells (old ++ new) e false fz)) (nx + 1) w' := by
  obtain ⟨ob, g1, g2⟩ := I.obj b _ p hb hp1 rfl
  cases ob <;> simp only [OR] at g2
  rename_i cc e' fz'
  obtain ⟨rfl, hsz, hex, hcr, hfz⟩ := g2
  have hlen : new.length = ws.length := hws.length
  have hmul : n * size + m * size ≤ cap' * size := by rw [← Nat.add_mul]; exact Nat.mul_le_mul_right _ hcap
  obtain ⟨w', cc', r1, r2, r3, r4⟩ := run_storeRow (P := P) (o0 := p.base + (off + n * size)) ws 0 w cc g1 (by omega)
    (fun j hj => by
      have := not_frozen (base := p.base) (off := off + n * size) (j := j) hfz ha (by omega) (by omega)
      simpa using this) (allCell_sound henv hws hcell)
  refine ⟨w', r1, I.alias hb rfl hp1 hl r2 ?_⟩
  have hf0 : ρ nx = none := I.fresh nx (Nat.le_refl _)
  have hle : ρ.le (ρ.upd nx ⟨p.blk, p.base + off, p.size⟩) := Rho.le_upd hf0
  have holdlen := takeN_len hold
  simp only [OR]
  refine ⟨trivial, by rw [r3]; exact hsz, (fun e => by cases e), fun i v hi => ?_, ?_⟩
  · rw [r4, List.getElem?_append] at *
    by_cases hin : i < old.length
    · rw [if_pos hin] at hi
      have hc : c[off + i]? = some v := by rw [← takeN_get hold i (by omega)]; exact hi
      obtain ⟨y, y1, y2⟩ := hcr (off + i) v hc
      rw [if_neg (by omega)]
      exact ⟨y, by rw [show p.base + off + i = p.base + (off + i) by omega]; exact y1, y2.mono hle⟩
    · rw [if_neg hin] at hi
      obtain ⟨y, y1, y2⟩ := hws.get hi
      have : i - old.length < ws.length := by rw [← hlen]; exact (List.getElem?_eq_some_iff.1 hi).1
      rw [if_pos (by omega), show p.base + off + i - (p.base + (off + n * size) + 0) = i - old.length by omega]
      exact ⟨y, y1, y2.mono hle⟩
  · rcases hfz with h | ⟨rfl, h⟩ | ⟨h, h3, h4⟩
    · exact .inl h
    · exact .inr (.inl ⟨rfl, h⟩)
    · rcases hf with rfl | hf
      · exact .inr (.inr ⟨h, by simpa using h3, by simpa using h4⟩)
      · exact absurd h (by omega)

theorem drew_inv (I : Inv env W0 ρ hp nx w) : Inv env W0 ρ hp nx w.drew := I.same rfl rfl rfl rfl

theorem zeroFits_sound {t : TypeId} {size : Nat} (h : zeroFits P t size = true) (henv : ∀ i, (env i).oneCell' = true) : ∃ i z, P.info? t = some i ∧ (∀ w, (zeroValue t).run P w = .ok z w) ∧ z.cells.size = size := by
  unfold zeroFits at h
  split at h
  · rename_i z hz
    obtain ⟨i, z', h1, _, h3, h4⟩ := zeroA_sound (env := env) (ρ := fun _ => none) hz
    have := (h3.cells (fun i => env_cells (henv i))).length
    rw [Nat.eq_of_beq_eq_true h] at this
    exact ⟨i, z', h1, h4, by simpa using this.symm⟩
  · cases h

/-- A new row behind a draw. -/
theorem outRow_sound (I : Inv env W0 ρ hp nx w) {elem : TypeId} {n m size cap' : Nat} {old new : List AV} {os ws : List Value} {z : Value} {fz : Nat × Nat} (ho : VRs env ρ old os) (hn : VRs env ρ new ws)
    (hol : old.length = n * size) (hnl : new.length = m * size) (hz : z.cells.size = size) (hcap : n + m ≤ cap') {s : Sem Value}
    (hs : s.run P w = ((do pure (.slice (some (← newRow elem (os.toArray ++ ws.toArray ++ Builtin.zeroCells z.cells (cap' - (n + m))))) (n + m) cap') : Sem Value)).run P w.drew) :
    GoodV P env W0 ρ hp nx w (.slice (some (nx, 0)) (n + m) (n + m) false size) (hp.set nx (.cells (old ++ new) elem false fz)) (nx + 1) s := by
  have hv : VRs env ρ (old ++ new) (os.toArray ++ ws.toArray).toList := by simpa using ho.append hn
  have hsz : (os.toArray ++ ws.toArray).size + (Builtin.zeroCells z.cells (cap' - (n + m))).size = cap' * size := by
    have h1 := ho.length
    have h2 := hn.length
    simp only [Array.size_append, List.size_toArray, Builtin.zeroCells, Array.size_map, Array.size_range, hz]
    have : (cap' - (n + m)) * size + (n + m) * size = cap' * size := by rw [← Nat.add_mul]; congr 1; omega
    have h3 : (n + m) * size = n * size + m * size := Nat.add_mul _ _ _
    omega
  have ha := AllocOut.fz (fz := fz) (openRow_sound (P := P) (e := elem) (need := n + m) hv _ hsz hcap (w := w.drew)) (by
    intro ob v' w' h1 h2
    simp only [newRow, Sem.run_bind, run_newObj, Result.andThen_ok, Sem.run_pure, Result.ok.injEq] at h1
    obtain ⟨_, rfl⟩ := h1
    have := Array.push_inj_right.1 h2
    exact ⟨_, this.symm⟩)
  obtain ⟨v', w', σ, g1, g2⟩ := GoodV.of_alloc (drew_inv I) ha
  exact ⟨v', w', σ, by rw [hs]; exact g1, g2⟩

end Va

/-
  VA: append as a whole; copy; clear.
-/
namespace Va
open Go Go.RowKit

variable {P : Program} {env : Nat → Value} {W0 : World} {ρ : Rho} {hp : Tr AO} {nx : Nat} {w : World}

theorem appd_sound (henv : ∀ i, (env i).oneCell' = true) {xd : TypeDesc} {elem : TypeId} {i : TypeInfo} {m : Nat} {x : AV} {x' : Value} {new : List AV} (_hi : P.info? elem = some i)
    (hx : VR env ρ x x') (hm : addLen xd i.bytes i.size x = some m) (h : addCells P xd elem i.size m x hp = some new) :
    new.length = m * i.size ∧ ∀ w2, Inv env W0 ρ hp nx w2 → ∃ ws : List Value, AppD P (isIntD xd) i.size elem m x' ws w2 ∧ VRs env ρ new ws := by
  cases hxd : isIntD xd with
  | false =>
    have hl := addLen_other hm hxd
    have hc : moreCells i.size x hp = some new := by cases xd <;> first | (simp [isIntD] at hxd; done) | exact h
    constructor
    · unfold moreCells at hc
      split at hc
      · split at hc
        · rename_i hn; cases hc
          simp only [lenA, Option.some.injEq] at hl
          have := Nat.eq_of_beq_eq_true hn
          simp [← hl, this]
        · cases hc
      · split at hc
        · rename_i hs
          simp only [lenA, Option.some.injEq] at hl
          obtain ⟨_, _, _, _, _, ht⟩ := loadC_some hc
          rw [takeN_len ht, hl]
        · cases hc
      · cases hc
        simp only [lenA] at hl
        split at hl
        · rename_i h1; cases hl; rw [Nat.eq_of_beq_eq_true h1]; simp [byteCells_len]
        · cases hl
      · cases hc
    · intro w2 I2
      obtain ⟨ws, h1, h2, _⟩ := moreCells_sound (P := P) I2 hx hl hc
      exact ⟨ws, .inl ⟨rfl, h1⟩, h2⟩
  | true =>
    obtain ⟨rfl, hb⟩ := addLen_int hx hm hxd
    have hc : ∃ z, zeroA P elem = some z ∧ z.cells.length = i.size ∧ new = repeatL z.cells m := by
      cases xd <;> simp only [isIntD, Bool.false_eq_true] at hxd
      simp only [addCells] at h
      split at h
      · rename_i z hz
        split at h
        · rename_i hc
          cases h
          simp only [Bool.and_eq_true] at hc
          exact ⟨z, hz, Nat.eq_of_beq_eq_true hc.1, rfl⟩
        · cases h
      · cases h
    obtain ⟨z, hz, hzl, rfl⟩ := hc
    refine ⟨by rw [repeatL_len, hzl], fun w2 I2 => ?_⟩
    obtain ⟨i2, z', hi2, _, h3, h4⟩ := zeroA_sound (env := env) (ρ := ρ) hz
    have hzc := h3.cells (fun i => env_cells (henv i))
    by_cases h0 : m * i.size = 0
    · refine ⟨[], .inr (.inl ⟨rfl, h0, rfl⟩), ?_⟩
      have : repeatL z.cells m = [] := List.eq_nil_of_length_eq_zero (by rw [repeatL_len, hzl, h0])
      rw [this]; exact .nil
    · have hrep := repeatL_rel (n := m) (size := i.size) hzc hzl z'.cells (.inr rfl)
      have hs : z'.cells.size = i.size := by have := hzc.length; rw [hzl] at this; simpa using this.symm
      refine ⟨_, .inr (.inr ⟨rfl, h0, z', h4, ?_⟩), hrep⟩
      simp only [Builtin.zeroCells, hs, Array.toArray_toList]

theorem appendTo_sound (henv : ∀ i, (env i).oneCell' = true) (I : Inv env W0 ρ hp nx w) {elem : TypeId} {i : TypeInfo} {xd : TypeDesc} {base : Option (Nat × Nat)} {n cap sz : Nat} {ex : Bool} {x : AV} {s' x' : Value} {r : ARes}
    (hi : P.info? elem = some i) (hb : i.bytes ≠ 0) (hsz : base = none ∨ sz = i.size) (hs : VR env ρ (.slice base n cap ex sz) s') (hx : VR env ρ x x') (h : appendTo P elem i xd base n cap ex x hp nx = some r) :
    ∃ base' c' v hp' nx' m, s' = .slice base' n c' ∧ addLen xd i.bytes i.size x = some m ∧ r = .val v hp' nx' ∧ ∀ S, AppLaw P w i elem base' n c' x' (isIntD xd) m S → GoodV P env W0 ρ hp nx w v hp' nx' S := by
  unfold appendTo at h
  split at h
  · cases h
  · rename_i m hm
    split at h
    · cases h
    · rename_i hsm
      simp only [Bool.and_eq_true, small] at hsm
      have hsm1 := Nat.le_of_ble_eq_true hsm.1.1
      obtain ⟨i2, z, hi2, hz, hzs⟩ := zeroFits_sound hsm.2 henv
      rw [hi] at hi2; cases hi2
      split at h
      · cases h
      · rename_i new hnew
        obtain ⟨hnl, happ⟩ := appd_sound (P := P) (W0 := W0) (nx := nx) (hp := hp) henv hi hx hm hnew
        have hgood_out : ∀ {base' : Option Addr} {c' : Nat} {S : Sem Value} {old : List AV} {os : List Value} {fz : Nat × Nat} {hp2 : Tr AO}, s' = .slice base' n c' → AppLaw P w i elem base' n c' x' (isIntD xd) m S → ¬ n + m ≤ c' → Inv env W0 ρ hp2 nx w → (∀ b, ρ b = none → hp2.get b = hp.get b) →
            (Builtin.firstCells i.size n s').run P w.drew = .ok os.toArray w.drew → VRs env ρ old os → old.length = n * i.size →
            GoodV P env W0 ρ hp nx w (.slice (some (nx, 0)) (n + m) (n + m) false i.size) (hp2.set nx (.cells (old ++ new) elem false fz)) (nx + 1) S := by
          intro base' c' S old os fz hp2 hs' hS hlt I2 hsame ho hov hol
          obtain ⟨ws, a1, a2⟩ := happ w.drew (drew_inv I)
          obtain ⟨cap', hc1, hrun⟩ := hS.out hlt hb hsm1 hz (hs' ▸ ho) a1
          obtain ⟨v', w', σ, g1, g2, g3, g4, g5, g6⟩ := outRow_sound I2 hov a2 hol hnl hzs hc1 hrun
          exact ⟨v', w', σ, g1, g2, g3, g4, g5, fun b hb hn => ⟨(g6 b hb hn).1, ((g6 b hb hn).2).trans (hsame b hn)⟩⟩
        split at h
        · rename_i hle
          have hle := Nat.le_of_ble_eq_true hle
          unfold appendIn at h
          split at h
          · cases h
            cases hs
            obtain ⟨ws, a1, a2⟩ := happ w I
            refine ⟨none, cap, _, _, _, m, rfl, hm, rfl, fun S hS => ?_⟩
            have := hS.inn hle a1
            exact GoodV.of_comes I ⟨_, this, .sliceNil _ _ _ _⟩
          · rename_i b off
            split at h
            · rename_i hp2 hst
              cases h
              obtain rfl := hsz.resolve_left (by simp)
              obtain ⟨ws, a1, a2⟩ := happ w I
              cases hs with
              | slice e0 e1 e2 e3 =>
                rename_i c' p
                have hroom : p.base + (off + n * i.size) + new.length ≤ p.size := by
                  have : n * i.size + m * i.size ≤ c' * i.size := by rw [← Nat.add_mul]; exact Nat.mul_le_mul_right _ (by omega)
                  omega
                obtain ⟨w', s1, s2, s3⟩ := storeC_sound (P := P) henv I hst e0 a2 (fun _ => .inr hroom)
                refine ⟨_, c', _, _, _, m, rfl, hm, rfl, fun S hS => ?_⟩
                have := hS.inn (show n + m ≤ c' by omega) a1
                simp only [mul_add_base, s1, Result.andThen_ok] at this
                exact ⟨_, w', ρ, this, Rho.le_refl _, .slice e0 e1 (by omega) e3, s2, Nat.le_refl _, fun b _ hn => ⟨hn, s3 b hn⟩⟩
              | sliceAny e0 =>
                rename_i k p _q
                have hm0 : m = 0 := by omega
                subst hm0
                have hn0 : new = [] := List.eq_nil_of_length_eq_zero (by rw [hnl]; simp)
                subst hn0
                cases a2
                obtain ⟨w', s1, s2, s3⟩ := storeC_sound (P := P) (ws := []) henv I hst e0 .nil (fun _ => .inl rfl)
                have hw' : w' = w := by simp [storeCells] at s1; exact s1.symm
                subst hw'
                refine ⟨_, 0, _, _, _, 0, rfl, hm, rfl, fun S hS => ?_⟩
                have := hS.inn (show 0 + 0 ≤ 0 by omega) a1
                simp only [storeCells] at this
                exact ⟨_, _, ρ, this, Rho.le_refl _, .sliceAny e0, s2, Nat.le_refl _, fun b _ hn => ⟨hn, s3 b hn⟩⟩
            · cases h
        · rename_i hle
          have hle : ¬ n + m ≤ cap := by intro e; rw [Nat.ble_eq_true_of_le e] at hle; cases hle
          unfold appendOut at h
          split at h
          · split at h
            · rename_i hn0
              have := Nat.eq_of_beq_eq_true hn0
              subst this
              simp only [openRow, newA, Option.some.injEq] at h
              subst h
              cases hs
              refine ⟨none, cap, _, _, _, m, rfl, hm, rfl, fun S hS => ?_⟩
              have := hgood_out (base' := none) (c' := cap) (old := []) (os := []) (fz := (0, 0)) (hp2 := hp) rfl hS hle I (fun _ _ => rfl) rfl .nil (by simp)
              simpa using this
            · cases h
          · rename_i b off
            split at h
            · rename_i c e ex2 fz hbg
              split at h
              · rename_i old hold
                obtain rfl := hsz.resolve_left (by simp)
                have holen := takeN_len hold
                have hload : loadC hp b off (n * i.size) = some old := by simp [loadC, hbg, hold]
                split at h
                · -- exact
                  simp only [openRow, newA, Option.some.injEq] at h
                  subst h
                  cases hs with
                  | slice e0 e1 e2 e3 =>
                    rename_i c' p
                    have := e1 rfl
                    subst this
                    obtain ⟨os, o1, o2, o3⟩ := run_loadCells_of (P := P) (drew_inv I) hload e0
                    exact ⟨_, c', _, _, _, m, rfl, hm, rfl, fun S hS => hgood_out rfl hS hle I (fun _ _ => rfl) o1 o2 holen⟩
                  | sliceAny e0 =>
                    have ho : old = [] := List.eq_nil_of_length_eq_zero (by rw [holen]; simp)
                    subst ho
                    exact ⟨_, 0, _, _, _, m, rfl, hm, rfl, fun S hS => hgood_out (os := []) rfl hS hle I (fun _ _ => rfl) (by simp [Builtin.firstCells, loadCells, loadCellsFrom]) .nil (by simp)⟩
                · -- open
                  unfold appendOpen at h
                  split at h
                  · rename_i hp2 hcond hput
                    simp only [Bool.and_eq_true, Bool.or_eq_true, Nat.beq_eq] at hcond
                    obtain ⟨⟨⟨⟨rfl, hapart⟩, hoff⟩, hcellnew⟩, hexf⟩ := hcond
                    unfold putH at hput
                    split at hput
                    · rename_i hl
                      cases hput
                      have hl := Nat.le_of_ble_eq_true hl
                      simp only [openRow, newA, Option.some.injEq] at h
                      subst h
                      have hkill : ∀ {p : Pl}, ρ b = some p → ∀ d, ρ d = none → (hp.set b .dead).get d = hp.get d := by
                        intro p e0 d hd
                        rw [Tr.get_set, if_neg]; intro e; subst e; rw [e0] at hd; cases hd
                      cases hs with
                      | slice e0 e1 e2 e3 =>
                        rename_i c' p
                        by_cases hroom : n + m ≤ c'
                        · obtain ⟨ws, a1, a2⟩ := happ w I
                          have hex2 : ex2 = false := by simpa using hexf
                          subst hex2
                          obtain ⟨w', s1, s2⟩ := alias_sound (P := P) henv I hbg e0 hl hold hnl a2 hcellnew hapart hoff e3 hroom
                          refine ⟨_, c', _, _, _, m, rfl, hm, rfl, fun S hS => ?_⟩
                          have := hS.inn hroom a1
                          simp only [mul_add_base, s1, Result.andThen_ok] at this
                          have hf0 : ρ nx = none := I.fresh nx (Nat.le_refl _)
                          refine ⟨_, w', _, this, Rho.le_upd hf0, ?_, s2, Nat.le_succ _, fun d hd hn => ⟨?_, ?_⟩⟩
                          · exact VR.slice (p := ⟨p.blk, p.base + off, p.size⟩) (o := 0) (by simp) (fun e => by cases e) hroom (by simpa using e3)
                          · unfold Rho.upd; rw [if_neg (by omega)]; exact hn
                          · rw [Tr.get_set, if_neg (by omega)]; exact hkill e0 d hn
                        · obtain ⟨os, o1, o2, o3⟩ := run_loadCells_of (P := P) (drew_inv I) hload e0
                          exact ⟨_, c', _, _, _, m, rfl, hm, rfl, fun S hS => hgood_out rfl hS hroom (I.kill b) (hkill e0) o1 o2 holen⟩
                      | sliceAny e0 =>
                        have ho : old = [] := List.eq_nil_of_length_eq_zero (by rw [holen]; simp)
                        subst ho
                        exact ⟨_, 0, _, _, _, m, rfl, hm, rfl, fun S hS => hgood_out (os := []) rfl hS hle (I.kill b) (hkill e0) (by simp [Builtin.firstCells, loadCells, loadCellsFrom]) .nil (by simp)⟩
                    · cases hput
                  · cases h
              · cases h
            · cases h

end Va

/-
  VA: maps written; copy; clear; iterators.
-/
namespace Va
open Go Go.RowKit

variable {P : Program} {env : Nat → Value} {W0 : World} {ρ : Rho} {hp : Tr AO} {nx : Nat} {w : World}

theorem putH_some {b : Nat} {o : AO} {hp' : Tr AO} (h : putH hp b o = some hp') : 2000 ≤ b ∧ hp' = hp.set b o := by
  unfold putH at h
  split at h
  · rename_i hl; cases h; exact ⟨Nat.le_of_ble_eq_true hl, rfl⟩
  · cases h

theorem chg_setObj {k : Nat} {o ob : Obj} (h : w.heap[k]? = some o) : Chg k ob w { w with heap := w.heap.setIfInBounds k ob } := by
  have hk := size_of_get h
  refine ⟨by simp [hk], fun j hj => ?_, by simp, rfl, rfl, rfl⟩
  simp [Ne.symm hj]

def plainObj : Obj → Bool
  | .cells .. => false
  | _ => true

theorem ba_beq_self (s : ByteArray) : (s == s) = true := by rw [beq_toListBytes]; simp

theorem run_setObj {k : Nat} {o ob : Obj} (h : w.heap[k]? = some o) (hc : plainObj o = true) : (setObj k ob).run P w = .ok () { w with heap := w.heap.setIfInBounds k ob } := by
  cases o <;> simp_all [setObj, Sem.run, plainObj]

/-- A block that is no row of cells is set. -/
theorem setObj_sound (I : Inv env W0 ρ hp nx w) {r : Nat} {p : Pl} {o u : AO} {o' ob : Obj} {hp' : Tr AO} (hg : hp.get r = some o) (ha : alive o = true) (hr : ρ r = some p) (h1 : w.heap[p.blk]? = some o')
    (hc : plainObj o' = true) (hput : putH hp r u = some hp') (hor : OR env ρ p u ob) : GoodU P env W0 ρ hp nx w hp' (setObj p.blk ob) := by
  obtain ⟨hl, rfl⟩ := putH_some hput
  refine ⟨_, run_setObj h1 hc, I.write hg ha hr hl (chg_setObj h1) hor, fun b hb => ?_⟩
  rw [Tr.get_set, if_neg]; intro e; subst e; rw [hr] at hb; cases hb

theorem EntsR.append {a b : List AEnt} {u v : List MapEntry} (h : EntsR env ρ a u) (k : EntsR env ρ b v) : EntsR env ρ (a ++ b) (u ++ v) := by
  induction h with
  | nil => exact k
  | cons x y _ ih => exact .cons x y ih

theorem EntsR.modify {f : AEnt → AEnt} {g : MapEntry → MapEntry} : ∀ {a : List AEnt} {u : List MapEntry} (i : Nat), EntsR env ρ a u →
    (∀ e e', a[i]? = some e → u[i]? = some e' → VR env ρ e.key e'.key → VR env ρ e.val e'.val → e'.born = e.born → VR env ρ (f e).key (g e').key ∧ VR env ρ (f e).val (g e').val ∧ (g e').born = (f e).born) →
    EntsR env ρ (modEnt f a i) (u.modify i g)
  | _, _, i, .nil, _ => by simpa [modEnt] using EntsR.nil
  | _, _, 0, .cons x y s, h => by
    obtain ⟨h1, h2, h3⟩ := h _ _ rfl rfl x y rfl
    simp only [modEnt, List.modify_zero_cons]
    rename_i k v k' v' b l l'
    generalize f ⟨k, v, b⟩ = fe at *
    generalize g ⟨k', v', b⟩ = ge at *
    cases fe; cases ge
    simp only at h3
    subst h3
    exact .cons h1 h2 s
  | _, _, i + 1, .cons x y s, h => by
    simp only [modEnt, List.modify_succ_cons]
    exact .cons x y (EntsR.modify i s fun e e' a b => h e e' (by simpa using a) (by simpa using b))

/-- A key that is found is, bit for bit, the key that is sought. -/
theorem ifaceVal_bits {f : Field} (hf : plainField P f = true) (n : Nat) {a b : AV} {a' b' : Value} (ha : VR env ρ a a') (hb : VR env ρ b b') (h : ifaceVal P f.type a b = some true) : Instr.sameBits n b' a' = true := by
  obtain ⟨d, hu, hd⟩ := plainField_desc hf
  unfold ifaceVal at h
  split at h
  · cases ha; cases hb
    simp only [Option.some.injEq, beq_iff_eq] at h
    subst h
    cases n <;> simp [Instr.sameBits]
  · split at h
    · rename_i hk
      cases ha; cases hb
      obtain rfl := kEq_eq hk
      simp only [Option.some.injEq, iEq_eq, beq_iff_eq] at h
      subst h
      cases n <;> simp [Instr.sameBits]
    · cases h
  · cases ha with
    | str s => cases hb with
      | str u =>
        simp only [Option.some.injEq, strEq_ba, decide_eq_true_eq] at h
        subst h
        cases n <;> simp [Instr.sameBits, ba_beq_self]
  · rename_i hu2
    rw [hu] at hu2
    rcases hd with rfl | ⟨k, rfl⟩ | rfl <;> cases hu2
  · cases h

theorem eqPlain_bits (n : Nat) : ∀ {fs : List Field} {x y : List AV} {xs ys : List Value}, fs.all (plainField P) = true → VRs env ρ x xs → VRs env ρ y ys → eqPlain P fs x y = some true →
    xs.length = ys.length ∧ (ys.zip xs).all (fun (a, b) => Instr.sameBits n a b) = true
  | [], x, y, xs, ys, _, hx, hy, h => by
    cases x with
    | cons a x => cases y <;> simp [eqPlain] at h
    | nil => cases y with
      | cons b y => simp [eqPlain] at h
      | nil => cases hx; cases hy; exact ⟨rfl, rfl⟩
  | f :: fs, x, y, xs, ys, ha, hx, hy, h => by
    cases x with
    | nil => cases y <;> simp [eqPlain] at h
    | cons a x => cases y with
      | nil => simp [eqPlain] at h
      | cons b y =>
        cases hx with
        | cons r1 s1 => cases hy with
          | cons r2 s2 =>
            simp only [List.all_cons, Bool.and_eq_true] at ha
            simp only [eqPlain] at h
            split at h
            · rename_i hv
              obtain ⟨h1, h2⟩ := eqPlain_bits n ha.2 s1 s2 h
              exact ⟨by simp [h1], by simp [ifaceVal_bits ha.1 n r1 r2 hv]; simpa using h2⟩
            · cases h
            · cases h

theorem sameKey_bits {kt : TypeId} {k j : AV} {k' j' : Value} (hok : keyOk P kt k = true) (hk : VR env ρ k k') (hj : VR env ρ j j') (h : sameKey P (fieldsL P kt) k j = some true) :
    Instr.sameBits 10000 j' k' = true := by
  have key : ∀ n, Instr.sameBits (n + 1) j' k' = true := by
    intro n
    rcases keyOk_kind hok with ⟨s, hu, rfl⟩ | ⟨d, q, m, hu, rfl⟩ | ⟨fs, l, hu, rfl, hps⟩
    · cases hk with
      | str s1 =>
        cases hj <;> first | (simp only [sameKey, reduceCtorEq] at h; done) | skip
        simp only [sameKey, Option.some.injEq, strEq_ba, decide_eq_true_eq] at h
        subst h
        simp [Instr.sameBits, ba_beq_self]
    · cases hk
      cases hj <;> first | (simp only [sameKey, reduceCtorEq] at h; done) | skip
      simp only [sameKey] at h
      split at h
      · rename_i hkk
        obtain rfl := kEq_eq hkk
        simp only [Option.some.injEq, iEq_eq, beq_iff_eq] at h
        subst h
        simp [Instr.sameBits]
      · cases h
    · cases hk with
      | agg r1 =>
        cases hj <;> first | (simp only [sameKey, reduceCtorEq] at h; done) | skip
        rename_i r2
        simp only [sameKey] at h
        unfold plainStruct at hps
        rw [hu] at hps
        simp only [Bool.and_eq_true] at hps
        rw [(underlying_fieldsOf hu).2] at h
        obtain ⟨h1, h2⟩ := eqPlain_bits n hps.1.1.1.1 r1 r2 h
        simp only [Array.length_toList] at h1
        simp only [Instr.sameBits, h1, beq_self_eq_true, Bool.true_and]
        exact h2
  exact key 9999

theorem findEnt_at {fs : List Field} {k : AV} : ∀ {es : List AEnt} {i j : Nat} {v : AV}, findEnt P fs k es i = some (some (j, v)) → ∃ e, i ≤ j ∧ es[j - i]? = some e ∧ e.val = v ∧ sameKey P fs k e.key = some true
  | [], i, j, v, h => by simp [findEnt] at h
  | e :: es, i, j, v, h => by
    simp only [findEnt] at h
    split at h
    · rename_i hs; cases h; exact ⟨e, Nat.le_refl _, by simp, rfl, hs⟩
    · obtain ⟨e2, h1, h2, h3, h4⟩ := findEnt_at h
      exact ⟨e2, by omega, by rw [show j - i = (j - (i + 1)) + 1 by omega]; simpa using h2, h3, h4⟩
    · cases h

theorem run_keyStays {old new : Value} (h : Instr.sameBits 10000 old new = true) : (Instr.keyThatStays old new).run P w = .ok new w := by
  simp [Instr.keyThatStays, h]

theorem mapPut_sound (I : Inv env W0 ρ hp nx w) {t : TypeId} {x k v : AV} {x' k' v' : Value} {hp' : Tr AO} (hx : VR env ρ x x') (hk : VR env ρ k k') (hv : VR env ρ v v') (h : mapPut P t x k v hp = some hp') :
    GoodU P env W0 ρ hp nx w hp' (Instr.mapUpdate t x' k' v') := by
  unfold mapPut at h
  split at h
  · rename_i kt et r hu
    split at h
    · rename_i hok
      split at h
      · rename_i es clock hg
        cases hx with
        | map hr =>
          rename_i p
          obtain ⟨es', g1, g2, g3⟩ := getMap_sound I hg hr
          have hck := checkKey_sound (P := P) (w := w) false hok hk
          split at h
          · rename_i i v1 hf
            obtain ⟨r', h3, h4⟩ := findKey_sound (P := P) (w := w) hok hk g2 hf
            cases h4
            obtain ⟨e, _, e1, e2, e3⟩ := findEnt_at hf
            simp only [Nat.sub_zero] at e1
            obtain ⟨e', q1, q2, q3, q4⟩ := g2.get e1
            have hks := run_keyStays (P := P) (w := w) (sameKey_bits hok hk q2 e3)
            have hor : OR env ρ p (.map (modEnt (fun e => { e with key := k, val := v }) es i) clock) (.map (es'.modify i fun e => { e with key := k', val := v' }) clock) := by
              simp only [OR]
              refine ⟨trivial, ?_⟩
              rw [Array.toList_modify]
              exact g2.modify i fun e e' _ _ _ _ hb => ⟨hk, hv, hb⟩
            obtain ⟨w', s1, s2, s3⟩ := setObj_sound (P := P) I g3 rfl hr g1 rfl h hor
            refine ⟨w', ?_, s2, s3⟩
            simp only [Instr.mapUpdate, Sem.run_bind, run_underlying hu, Result.andThen_ok, run_getObj (P := P) g1 trivial, hck, h3]
            have q1' : es'[i]? = some e' := by simpa using q1
            simp only [q1', Option.map_some, Option.getD_some, hks, Result.andThen_ok]
            exact s1
          · rename_i hf
            obtain ⟨r', h3, h4⟩ := findKey_sound (P := P) (w := w) hok hk g2 hf
            cases h4
            have hor : OR env ρ p (.map (es ++ [{ key := k, val := v, born := clock }]) (clock + 1)) (.map (es'.push { key := k', val := v', born := clock }) (clock + 1)) := by
              simp only [OR]
              refine ⟨trivial, ?_⟩
              rw [Array.toList_push]
              exact g2.append (.cons hk hv .nil)
            obtain ⟨w', s1, s2, s3⟩ := setObj_sound (P := P) I g3 rfl hr g1 rfl h hor
            refine ⟨w', ?_, s2, s3⟩
            simp only [Instr.mapUpdate, Sem.run_bind, run_underlying hu, Result.andThen_ok, run_getObj (P := P) g1 trivial, hck, h3]
            exact s1
          · cases h
      · cases h
    · cases h
  · cases h

theorem andVal_some {v u : AV} {h : Option (Tr AO)} {hp' : Tr AO} (e : andVal v h = some (u, hp')) : u = v ∧ h = some hp' := by
  unfold andVal at e
  split at e
  · cases e; exact ⟨rfl, rfl⟩
  · cases e

theorem mapEntryA_sound (I : Inv env W0 ρ hp nx w) {t : TypeId} {x k v : AV} {x' k' : Value} {hp' : Tr AO} (hx : VR env ρ x x') (hk : VR env ρ k k') (h : mapEntryA P t x k hp = some (v, hp')) :
    GoodV P env W0 ρ hp nx w v hp' nx (Instr.mapEntry t x' k') := by
  unfold mapEntryA at h
  split at h
  · rename_i kt et r hu
    split at h
    · rename_i es clock hok hg
      cases hx with
      | map hr =>
        rename_i p
        obtain ⟨es', g1, g2, g3⟩ := getMap_sound I hg hr
        have hck := checkKey_sound (P := P) (w := w) false hok hk
        split at h
        · rename_i i v1 hf
          obtain ⟨r', h3, h4⟩ := findKey_sound (P := P) (w := w) hok hk g2 hf
          cases h4
          rename_i v1' hv1
          obtain ⟨e, _, e1, e2, e3⟩ := findEnt_at hf
          simp only [Nat.sub_zero] at e1
          obtain ⟨e', q1, q2, q3, q4⟩ := g2.get e1
          have hks := run_keyStays (P := P) (w := w) (sameKey_bits hok hk q2 e3)
          rw [nth_eq, e1] at h
          obtain ⟨rfl, hput⟩ := andVal_some h
          have hor : OR env ρ p (.map (modEnt (fun e => { e with key := k }) es i) clock) (.map (es'.modify i fun e => { e with key := k' }) clock) := by
            simp only [OR]
            refine ⟨trivial, ?_⟩
            rw [Array.toList_modify]
            exact g2.modify i fun e e' _ _ _ hv hb => ⟨hk, hv, hb⟩
          obtain ⟨w', s1, s2, s3⟩ := setObj_sound (P := P) I g3 rfl hr g1 rfl hput hor
          have q1' : es'[i]? = some e' := by simpa using q1
          refine ⟨.tuple #[v1', goInt e'.born], w', ρ, ?_, Rho.le_refl _, .tuple (.cons hv1 (.cons (by rw [q4]; exact .int _ _) .nil)), s2, Nat.le_refl _, fun b _ hn => ⟨hn, s3 b hn⟩⟩
          simp only [Instr.mapEntry, Sem.run_bind, run_underlying hu, Result.andThen_ok, run_getObj (P := P) g1 trivial, hck, h3]
          simp only [q1', Option.map_some, Option.getD_some, hks, Result.andThen_ok, s1]
          rfl
        · rename_i hf
          split at h
          · rename_i z hz
            obtain ⟨r', h3, h4⟩ := findKey_sound (P := P) (w := w) hok hk g2 hf
            cases h4
            obtain ⟨rfl, hput⟩ := andVal_some h
            obtain ⟨_, z', _, _, h5, h6⟩ := zeroA_sound (env := env) (ρ := ρ) hz
            have hor : OR env ρ p (.map (es ++ [{ key := k, val := z, born := clock }]) (clock + 1)) (.map (es'.push { key := k', val := z', born := clock }) (clock + 1)) := by
              simp only [OR]
              refine ⟨trivial, ?_⟩
              rw [Array.toList_push]
              exact g2.append (.cons hk h5 .nil)
            obtain ⟨w', s1, s2, s3⟩ := setObj_sound (P := P) I g3 rfl hr g1 rfl hput hor
            refine ⟨.tuple #[z', goInt clock], w', ρ, ?_, Rho.le_refl _, .tuple (.cons h5 (.cons (.int _ _) .nil)), s2, Nat.le_refl _, fun b _ hn => ⟨hn, s3 b hn⟩⟩
            simp only [Instr.mapEntry, Sem.run_bind, run_underlying hu, Result.andThen_ok, run_getObj (P := P) g1 trivial, hck, h3, h6, s1]
            rfl
          · cases h
        · cases h
    · cases h
  · cases h

end Va

/-
  VA: the other operations on maps, iterators and slices; conversions.
-/
namespace Va
open Go Go.RowKit

variable {P : Program} {env : Nat → Value} {W0 : World} {ρ : Rho} {hp : Tr AO} {nx : Nat} {w : World}

theorem findBorn_sound {b : Int} : ∀ {es : List AEnt} {es' : List MapEntry} {i j : Nat}, EntsR env ρ es es' → findBorn es b i = some j →
    i ≤ j ∧ es'.findIdx? (fun e => (e.born : Int) == b) = some (j - i)
  | _, _, i, j, .nil, h => by simp [findBorn] at h
  | _, _, i, j, .cons x y s, h => by
    simp only [findBorn, iEq_eq] at h
    split at h
    · rename_i hb; cases h; simp only [List.findIdx?_cons, hb, if_true]; simp
    · rename_i hb
      obtain ⟨h1, h2⟩ := findBorn_sound s h
      refine ⟨by omega, ?_⟩
      simp only [List.findIdx?_cons, hb, Bool.false_eq_true, if_false, h2, Option.map_some]
      congr 1; omega

theorem entryStoreA_sound (I : Inv env W0 ρ hp nx w) {t : TypeId} {x s v : AV} {x' s' v' : Value} {hp' : Tr AO} (hx : VR env ρ x x') (hs : VR env ρ s s') (hv : VR env ρ v v') (h : entryStoreA x s v hp = some hp') :
    GoodU P env W0 ρ hp nx w hp' (Instr.entryStore t x' s' v') := by
  unfold entryStoreA at h
  split at h
  · rename_i r k b
    split at h
    · rename_i es clock hg
      split at h
      · rename_i i hb
        cases hs
        cases hx with
        | map hr =>
          rename_i p
          obtain ⟨es', g1, g2, g3⟩ := getMap_sound I hg hr
          obtain ⟨_, hfi⟩ := findBorn_sound g2 hb
          have hor : OR env ρ p (.map (modEnt (fun e => { e with val := v }) es i) clock) (.map (es'.modify i fun e => { e with val := v' }) clock) := by
            simp only [OR]
            refine ⟨trivial, ?_⟩
            rw [Array.toList_modify]
            exact g2.modify i fun e e' _ _ hk _ hb => ⟨hk, hv, hb⟩
          obtain ⟨w', s1, s2, s3⟩ := setObj_sound (P := P) I g3 rfl hr g1 rfl h hor
          refine ⟨w', ?_, s2, s3⟩
          have hfi' : es'.findIdx? (fun e => (e.born : Int) == b) = some i := by
            rw [show es' = es'.toList.toArray by simp, List.findIdx?_toArray]; simpa using hfi
          simp only [Instr.entryStore, Sem.run_bind, run_getObj (P := P) g1 trivial, Result.andThen_ok, asInt, asIntOf, pure_bind, hfi']
          exact s1
      · cases h
    · cases h
  · cases h

theorem EntsR.erase : ∀ {a : List AEnt} {u : List MapEntry} (i : Nat), EntsR env ρ a u → EntsR env ρ (delEnt a i) (u.eraseIdx i)
  | _, _, i, .nil => by simpa [delEnt] using EntsR.nil
  | _, _, 0, .cons x y s => by simpa [delEnt] using s
  | _, _, i + 1, .cons x y s => by simpa [delEnt] using EntsR.cons x y (EntsR.erase i s)

theorem deleteA_sound (I : Inv env W0 ρ hp nx w) {l : List TypeId} {t ty : TypeId} {x k : AV} {x' k' : Value} {hp' : Tr AO} (hx : VR env ρ x x') (hk : VR env ρ k k') (h : deleteA P t x k hp = some hp') :
    GoodV P env W0 ρ hp nx w undefA hp' nx (Builtin.delete_ (t :: l).toArray ty #[x', k']) := by
  unfold deleteA at h
  split at h
  · rename_i kt et r hu
    split at h
    · rename_i es clock hok hg
      cases hx with
      | map hr =>
        rename_i p
        obtain ⟨es', g1, g2, g3⟩ := getMap_sound I hg hr
        have hck := checkKey_sound (P := P) (w := w) es'.isEmpty hok hk
        split at h
        · rename_i i v1 hf
          obtain ⟨r', h3, h4⟩ := findKey_sound (P := P) (w := w) hok hk g2 hf
          cases h4
          have hor : OR env ρ p (.map (delEnt es i) clock) (.map (es'.eraseIdxIfInBounds i) clock) := by
            simp only [OR]
            refine ⟨trivial, ?_⟩
            rw [Array.toList_eraseIdxIfInBounds]
            exact g2.erase i
          obtain ⟨w', s1, s2, s3⟩ := setObj_sound (P := P) I g3 rfl hr g1 rfl h hor
          refine ⟨.tuple #[], w', ρ, ?_, Rho.le_refl _, .tuple .nil, s2, Nat.le_refl _, fun b _ hn => ⟨hn, s3 b hn⟩⟩
          unfold Builtin.delete_
          simp only [List.getElem?_toArray, List.getElem?_cons_zero, List.getElem?_cons_succ]
          simp only [Sem.run_bind, run_underlying hu, run_getObj (P := P) g1 trivial, Result.andThen_ok, hck, h3, s1, Sem.run_pure]
        · rename_i hf
          obtain ⟨r', h3, h4⟩ := findKey_sound (P := P) (w := w) hok hk g2 hf
          cases h4
          cases h
          have hsame : w.heap.setIfInBounds p.blk (.map es' clock) = w.heap := by
            apply Array.ext_getElem?
            intro j
            rw [Array.getElem?_setIfInBounds]
            split
            · rename_i e; subst e; split
              · exact g1.symm
              · rename_i hlt; rw [Array.getElem?_eq_none (by omega)]
            · rfl
          refine ⟨.tuple #[], w, ρ, ?_, Rho.le_refl _, .tuple .nil, I, Nat.le_refl _, fun b _ hn => ⟨hn, rfl⟩⟩
          have hso := run_setObj (P := P) (ob := .map es' clock) g1 rfl
          rw [hsame] at hso
          unfold Builtin.delete_
          simp only [List.getElem?_toArray, List.getElem?_cons_zero, List.getElem?_cons_succ]
          simp only [Sem.run_bind, run_underlying hu, run_getObj (P := P) g1 trivial, Result.andThen_ok, hck, h3, hso, Sem.run_pure]
        · cases h
    · cases h
  · cases h

-- iterators
def IterR (ρ : Rho) : Option Nat → Option Nat → Prop
  | none, none => True
  | some a, some b => ∃ q, ρ a = some q ∧ b = q.blk
  | _, _ => False

theorem iter_of (I : Inv env W0 ρ hp nx w) {r : Nat} {p : Pl} {m : Option Nat} {since st : Nat} {seen : List Nat} (hg : hp.get r = some (.mapIter m since seen st)) (hr : ρ r = some p) :
    ∃ m' seen', w.heap[p.blk]? = some (.mapIter m' since seen' st) ∧ seen'.toList = seen ∧ p.base = 0 ∧ IterR ρ m m' := by
  obtain ⟨ob, h1, h2⟩ := I.obj r _ p hg hr rfl
  cases ob <;> simp only [OR] at h2
  obtain ⟨h3, h4, rfl, h6, rfl⟩ := h2
  refine ⟨_, _, h1, h6, h3, ?_⟩
  rename_i m' _ _ _
  cases m <;> cases m' <;> exact h4

theorem leftEnts_sound {seen : List Nat} : ∀ {es : List AEnt} {es' : List MapEntry}, EntsR env ρ es es' → EntsR env ρ (leftEnts seen es) (es'.filter fun e => !seen.contains e.born)
  | _, _, .nil => .nil
  | _, _, .cons x y s => by
    rename_i k v k' v' b l l'
    have hm : ∀ (l : List Nat), memN b l = l.contains b := by
      intro l
      induction l with
      | nil => rfl
      | cons a l ih =>
        simp only [memN, List.contains_cons, ih]
        congr 1
        rw [Bool.eq_iff_iff]; simp
    simp only [leftEnts, List.filter_cons, hm]
    cases hc : seen.contains b with
    | true => simp only [Bool.not_true, Bool.false_eq_true, if_false, if_true]; exact leftEnts_sound s
    | false => simp only [Bool.not_false, Bool.false_eq_true, if_false, if_true]; exact .cons x y (leftEnts_sound s)

theorem EntsR.all {f : AEnt → Bool} {g : MapEntry → Bool} (hfg : ∀ e e', e'.born = e.born → g e' = f e) : ∀ {a : List AEnt} {u : List MapEntry}, EntsR env ρ a u → u.all g = a.all f
  | _, _, .nil => rfl
  | _, _, .cons x y s => by simp only [List.all_cons, EntsR.all hfg s]; congr 1; exact hfg ⟨_, _, _⟩ ⟨_, _, _⟩ rfl

theorem nextA_sound (I : Inv env W0 ρ hp nx w) {r : Nat} {p : Pl} {o : AO} {ty : TypeId} {res : ARes} (hg : hp.get r = some o) (hr : ρ r = some p) (h : nextA o r hp nx = some res) :
    ∃ v hp' nx', res = .val v hp' nx' ∧ GoodV P env W0 ρ hp nx w v hp' nx' (Instr.next (.pointer (some ⟨p.blk, p.base + 0, none⟩)) false ty) := by
  unfold nextA at h
  split at h
  · cases h
    obtain ⟨m', seen', h1, h2, h3, h4⟩ := iter_of I hg hr
    cases m' with
    | some b => exact h4.elim
    | none =>
      refine ⟨_, _, _, rfl, GoodV.of_comes I ⟨.tuple #[.bool false], ?_, .tuple (.cons (.bool false) .nil)⟩⟩
      rw [h3]
      simp [Instr.next, run_getObj (P := P) h1 trivial]
  · rename_i m since seen last
    split at h
    · rename_i v hp2 hn
      cases h
      obtain ⟨m', seen', h1, h2, h3, h4⟩ := iter_of I hg hr
      cases m' with
      | none => exact h4.elim
      | some b =>
        obtain ⟨q, hq, rfl⟩ := h4
        refine ⟨_, _, _, rfl, ?_⟩
        unfold nextMapA at hn
        split at hn
        · rename_i es clock hgm
          obtain ⟨es', g1, g2, g3⟩ := getMap_sound I hgm hq
          split at hn
          · cases hn
          · rename_i hold
            have hl := leftEnts_sound (seen := seen) g2
            have hleft : (es'.filter fun e => !seen'.contains e.born).toList = es'.toList.filter fun e => !seen.contains e.born := by
              rw [Array.toList_filter]; congr 1; funext e; rw [← h2]; simp
            have hcond : (!seen'.isEmpty && !es'.isEmpty && es'.all (·.born ≥ last)) = false := by
              rw [← hold]
              have e1 : seen'.isEmpty = seen.isEmpty := by rw [← h2]; simp
              have e2 : es'.isEmpty = es.isEmpty := by
                have hsz : es'.size = es.length := by simpa using g2.length.symm
                rw [Bool.eq_iff_iff, Array.isEmpty_iff_size_eq_zero, List.isEmpty_iff_length_eq_zero, hsz]
              have e3 : es'.all (·.born ≥ last) = es.all (fun e => Nat.ble last e.born) := by
                rw [← Array.all_toList]
                exact g2.all fun e e' hb => by rw [hb, Bool.eq_iff_iff]; simp [Nat.ble_eq]
              rw [e1, e2, e3]
            split at hn
            · rename_i he
              cases hn
              rw [he] at hl
              generalize hlc : (es'.filter fun e => !seen'.contains e.born) = lc at hleft
              have hlc0 : lc = #[] := by
                cases hl' : (es'.toList.filter fun e => !seen.contains e.born) with
                | nil => rw [hl'] at hleft; simpa using hleft
                | cons a b => rw [hl'] at hl; cases hl
              subst hlc0
              refine GoodV.of_comes I ⟨.tuple #[.bool false], ?_, .tuple (.cons (.bool false) .nil)⟩
              rw [h3]
              simp only [Instr.next, Sem.run_bind, run_getObj (P := P) h1 trivial, Result.andThen_ok, run_getObj (P := P) g1 trivial, hcond, Bool.false_eq_true, if_false, hlc]
              simp [Question.forced]
            · rename_i e he
              split at hn
              · rename_i hborn
                obtain ⟨rfl, hput⟩ := andVal_some hn
                have hb := hborn
                rw [Nat.blt_eq] at hb
                rw [he] at hl
                generalize hlc : (es'.filter fun e => !seen'.contains e.born) = lc at hleft
                cases hl' : (es'.toList.filter fun e => !seen.contains e.born) with
                | nil => rw [hl'] at hl; cases hl
                | cons e' rest =>
                  rw [hl'] at hl hleft
                  cases hl with
                  | cons x y s =>
                    cases s
                    rename_i k v k' v' bn
                    have hlc1 : lc = #[⟨k', v', bn⟩] := by
                      apply Array.ext'; exact hleft
                    subst hlc1
                    simp only at hb hput
                    have hor : OR env ρ p (.mapIter (some m) since (seen ++ [bn]) clock) (.mapIter (some q.blk) since (seen'.push bn) clock) := by
                      simp only [OR]
                      exact ⟨h3, ⟨q, hq, rfl⟩, trivial, by simp [h2], trivial⟩
                    obtain ⟨w', s1, s2, s3⟩ := setObj_sound (P := P) I hg rfl hr h1 rfl hput hor
                    refine ⟨.tuple #[.bool true, k', v'], w', ρ, ?_, Rho.le_refl _, .tuple (.cons (.bool true) (.cons x (.cons y .nil))), s2, Nat.le_refl _, fun b _ hn => ⟨hn, s3 b hn⟩⟩
                    rw [h3]
                    have f1 : (#[({ key := k', val := v', born := bn } : MapEntry)].filter fun x => decide (x.born < since)) = #[⟨k', v', bn⟩] := by simp [hb]
                    have f2 : (#[({ key := k', val := v', born := bn } : MapEntry)].filter fun x => decide (x.born ≥ since)) = #[] := by simp; omega
                    simp only [Instr.next, Sem.run_bind, run_getObj (P := P) h1 trivial, Result.andThen_ok, run_getObj (P := P) g1 trivial, hcond, Bool.false_eq_true, if_false, hlc, f1, f2]
                    simp [Question.forced, s1]
              · cases hn
            · cases hn
        · cases hn
    · cases h
  · cases h

end Va

/-
  VA: lengths, copies, conversions, unsafe strings.
-/
namespace Va
open Go Go.RowKit

variable {P : Program} {env : Nat → Value} {W0 : World} {ρ : Rho} {hp : Tr AO} {nx : Nat} {w : World}

theorem entryA_sound (I : Inv env W0 ρ hp nx w) {it v : AV} {it' : Value} (hi : VR env ρ it it') (h : entryA it hp = some v) : Comes1 P env ρ w v (Instr.entry it') := by
  unfold entryA at h
  split at h
  · rename_i r
    cases hi with
    | ptr hr =>
      rename_i p
      split at h
      · rename_i m since seen stepped hg
        obtain ⟨m', seen', h1, h2, h3, h4⟩ := iter_of I hg hr
        cases m' with
        | none => exact h4.elim
        | some b =>
          obtain ⟨q, hq, rfl⟩ := h4
          split at h
          · rename_i stamp es clock hl hgm
            obtain ⟨es', g1, g2, g3⟩ := getMap_sound I hgm hq
            split at h
            · rename_i hc
              have hc := Nat.eq_of_beq_eq_true hc
              subst hc
              split at h
              · rename_i e he
                cases h
                have hback : seen'.back? = some stamp := by
                  rw [Array.back?_eq_getElem?]
                  have : ∀ (l : List Nat), lastOf l = l.getLast? := by
                    intro l
                    induction l with
                    | nil => rfl
                    | cons a l ih => cases l with
                      | nil => rfl
                      | cons b l => simp only [lastOf, ih]; simp [List.getLast?_cons_cons]
                  rw [this, List.getLast?_eq_getElem?, ← h2] at hl
                  simpa using hl
                have hfind : ∀ {es : List AEnt} {es' : List MapEntry}, EntsR env ρ es es' → findStamp stamp es = some e → ∃ e', es'.find? (fun x => x.born == stamp) = some e' ∧ VR env ρ e.key e'.key ∧ VR env ρ e.val e'.val := by
                  intro es es' hes
                  induction hes with
                  | nil => intro h; simp [findStamp] at h
                  | cons x y s ih =>
                    intro h
                    simp only [findStamp] at h
                    split at h
                    · rename_i hb
                      cases h
                      rename_i k v k' v' b l l'
                      have := Nat.eq_of_beq_eq_true hb
                      exact ⟨⟨k', v', b⟩, by simp [this], x, y⟩
                    · rename_i hb
                      obtain ⟨e', k1, k2⟩ := ih h
                      rename_i k v k' v' b l l'
                      have hne : b ≠ stamp := by intro e; subst e; simp at hb
                      exact ⟨e', by simp [hne, k1], k2⟩
                obtain ⟨e', k1, k2, k3⟩ := hfind g2 he
                refine ⟨.tuple #[e'.key, e'.val], ?_, .tuple (.cons k2 (.cons k3 .nil))⟩
                have k1' : es'.find? (fun x => x.born == stamp) = some e' := by rw [← Array.find?_toList]; exact k1
                rw [h3]
                simp [Instr.entry, run_getObj (P := P) h1 trivial, hback, run_getObj (P := P) g1 trivial, k1']
              · cases h
            · cases h
          · cases h
      · cases h
  · cases h

theorem lenOfA_sound (I : Inv env W0 ρ hp nx w) {l : List TypeId} {t ty : TypeId} {x v : AV} {x' : Value} (hx : VR env ρ x x') (h : lenOfA P t x hp = some v) :
    Comes1 P env ρ w v (Builtin.len_ (t :: l).toArray ty #[x']) := by
  unfold lenOfA at h
  split at h
  · rename_i hu
    cases h
    cases hx with
    | str s => exact ⟨_, by unfold Builtin.len_; simp only [List.getElem?_toArray, List.getElem?_cons_zero]; simp only [Sem.run_bind, run_underlying hu, Result.andThen_ok]; rfl, by rw [bytes_len]; exact .int _ _⟩
  · rename_i hu
    cases h
    cases hx <;> exact ⟨_, by unfold Builtin.len_; simp only [List.getElem?_toArray, List.getElem?_cons_zero]; simp only [Sem.run_bind, run_underlying hu, Result.andThen_ok]; rfl, .int _ _⟩
  · rename_i hu
    cases h
    exact ⟨_, by unfold Builtin.len_; simp only [List.getElem?_toArray, List.getElem?_cons_zero]; simp only [Sem.run_bind, run_underlying hu, Result.andThen_ok]; rfl, .int _ _⟩
  · rename_i hu
    cases h
    cases hx
    exact ⟨_, by unfold Builtin.len_; simp only [List.getElem?_toArray, List.getElem?_cons_zero]; simp only [Sem.run_bind, run_underlying hu, Result.andThen_ok]; rfl, .int _ _⟩
  · rename_i r hu
    split at h
    · rename_i es clock hg
      cases h
      cases hx with
      | map hr =>
        obtain ⟨es', g1, g2, _⟩ := getMap_sound I hg hr
        refine ⟨goInt es'.size, ?_, ?_⟩
        · unfold Builtin.len_; simp only [List.getElem?_toArray, List.getElem?_cons_zero]; simp only [Sem.run_bind, run_underlying hu, Result.andThen_ok, run_getObj (P := P) g1 trivial]; rfl
        · have := g2.length; simp at this; rw [this]; exact .int _ _
    · cases h
  · cases h

theorem capOfA_sound {l : List TypeId} {t ty : TypeId} {x v : AV} {x' : Value} (hx : VR env ρ x x') (h : capOfA P t x = some v) : Comes1 P env ρ w v (Builtin.cap_ (t :: l).toArray ty #[x']) := by
  unfold capOfA at h
  split at h
  · rename_i hu
    cases h
    have hrun : ∀ a n c, (Builtin.cap_ (t :: l).toArray ty #[.slice a n c]).run P w = .ok (goInt c) w := by
      intro a n c
      unfold Builtin.cap_
      simp only [List.getElem?_toArray, List.getElem?_cons_zero]
      simp only [Sem.run_bind, run_underlying hu, Result.andThen_ok]
      rfl
    cases hx with
    | sliceNil => exact ⟨_, hrun _ _ _, .int _ _⟩
    | slice _ e _ _ => have := e rfl; subst this; exact ⟨_, hrun _ _ _, .int _ _⟩
    | sliceAny _ => exact ⟨_, hrun _ _ _, .int _ _⟩
  · rename_i hu
    cases h
    refine ⟨_, ?_, .int _ _⟩
    unfold Builtin.cap_
    simp only [List.getElem?_toArray, List.getElem?_cons_zero]
    simp only [Sem.run_bind, run_underlying hu, Result.andThen_ok]
    rfl
  · cases h

theorem moreCells_len {size m : Nat} {x : AV} {cs : List AV} (hl : lenA size x = some m) (hc : moreCells size x hp = some cs) : cs.length = m * size := by
  unfold moreCells at hc
  split at hc
  · split at hc
    · rename_i hn; cases hc
      simp only [lenA, Option.some.injEq] at hl
      have := Nat.eq_of_beq_eq_true hn
      simp [← hl, this]
    · cases hc
  · split at hc
    · simp only [lenA, Option.some.injEq] at hl
      obtain ⟨_, _, _, _, _, ht⟩ := loadC_some hc
      rw [takeN_len ht, hl]
    · cases hc
  · cases hc
    simp only [lenA] at hl
    split at hl
    · rename_i h1; cases hl; rw [Nat.eq_of_beq_eq_true h1]; simp [byteCells_len]
    · cases hl
  · cases hc

theorem bytes_take (l : List UInt8) (k : Nat) : (byteCells (l.map UInt8.toNat)).take k = byteCells ((l.take k).map UInt8.toNat) := by
  induction l generalizing k with
  | nil => simp [byteCells]
  | cons a l ih => cases k with
    | zero => simp [byteCells]
    | succ k => simp [byteCells, ih]

/-- The first so many of them. -/
theorem firstCells_sound (I : Inv env W0 ρ hp nx w) {size m k : Nat} {x : AV} {x' : Value} {cs : List AV} (hx : VR env ρ x x') (hl : lenA size x = some m) (h : moreCells size x hp = some cs) (hk : k ≤ m) :
    ∃ ws : List Value, (Builtin.firstCells size k x').run P w = .ok ws.toArray w ∧ VRs env ρ (cs.take (k * size)) ws := by
  unfold moreCells at h
  split at h
  · split at h
    · rename_i hn
      cases h
      have := Nat.eq_of_beq_eq_true hn
      subst this
      simp only [lenA, Option.some.injEq] at hl
      subst hl
      cases hx
      exact ⟨[], rfl, by simpa using VRs.nil⟩
    · cases h
  · rename_i b off n c ex sz
    split at h
    · simp only [lenA, Option.some.injEq] at hl
      subst hl
      obtain ⟨cc, e, ex2, fz, hb, ht⟩ := loadC_some h
      obtain ⟨rfl, hlen⟩ := takeN_some _ _ _ ht
      have hks : k * size ≤ n * size := Nat.mul_le_mul_right _ hk
      have hload : loadC hp b off (k * size) = some (((dropN off cc).take (n * size)).take (k * size)) := by
        have hall : ∀ (q : Nat) (l : List AV), q ≤ l.length → takeN q l = some (l.take q) := by
          intro q
          induction q with
          | zero => intro l _; simp [takeN]
          | succ q ih => intro l hq; cases l with
            | nil => simp at hq
            | cons a l => simp only [takeN, ih l (by simpa using hq)]; simp
        simp only [loadC, hb]
        rw [hall _ _ (by omega), List.take_take, Nat.min_eq_left hks]
      cases hx with
      | slice e0 _ _ _ =>
        obtain ⟨ws, h1, h2, h3⟩ := run_loadCells_of (P := P) I hload e0
        exact ⟨ws, h1, h2⟩
      | sliceAny e0 =>
        have : k = 0 := by omega
        subst this
        exact ⟨[], by simp [Builtin.firstCells, loadCells, loadCellsFrom], by simpa using VRs.nil⟩
    · cases h
  · cases h
    cases hx with
    | str s =>
      simp only [lenA] at hl
      split at hl
      · rename_i h1
        cases hl
        have := Nat.eq_of_beq_eq_true h1
        subst this
        refine ⟨(s.data.toList.take k).map fun b => Value.int .u8 b.toNat, ?_, ?_⟩
        · have : (s.extract 0 k).data = (s.data.toList.take k).toArray := by
            rw [ByteArray.data_extract]
            apply Array.ext'
            simp [Array.toList_extract, List.extract_eq_take_drop]
          simp only [Builtin.firstCells, Sem.run_pure, this]
          rw [List.map_toArray]
        · simp only [Nat.mul_one]
          unfold bytesOfA
          rw [bytes_take]
          exact byteCells_rel _
      · cases hl
  · cases h

theorem copyA_sound (henv : ∀ i, (env i).oneCell' = true) (I : Inv env W0 ρ hp nx w) {l : List TypeId} {st ty : TypeId} {base : Option (Nat × Nat)} {n c sz : Nat} {ex : Bool} {x : AV} {d' x' : Value} {r : ARes}
    (hd : VR env ρ (.slice base n c ex sz) d') (hx : VR env ρ x x') (h : copyA P st base n c sz x hp nx = some r) :
    ∃ v hp' nx', r = .val v hp' nx' ∧ GoodV P env W0 ρ hp nx w v hp' nx' (Builtin.copy_ (st :: l).toArray ty #[d', x']) := by
  unfold copyA at h
  split at h
  · rename_i elem hu
    split at h
    · rename_i size hs
      split at h
      · rename_i m cs hsz0 hl hm
        simp only [Bool.and_eq_true] at hsz0
        obtain ⟨hsz, hnc0⟩ := hsz0
        have hnc := Nat.le_of_ble_eq_true hnc0
        split at h
        · rename_i cs2 ht
          obtain ⟨rfl, hlen⟩ := takeN_some _ _ _ ht
          obtain ⟨ws, f1, f2⟩ := firstCells_sound (P := P) (k := min m n) I hx hl hm (Nat.min_le_left _ _)
          have hlo := lenA_sound (P := P) (w := w) hx hl
          have hcl := moreCells_len hl hm
          have hmin : Nat.min m n = min m n := rfl
          have hrun : ∀ b' c', (Builtin.copy_ (st :: l).toArray ty #[.slice b' n c', x']).run P w = (match b' with
              | some a => ((storeCells a ws).run P w).andThen fun _ w' => .ok (goInt (min m n : Nat)) w'
              | none => .ok (goInt (min m n : Nat)) w) := by
            intro b' c'
            unfold Builtin.copy_
            simp only [List.getElem?_toArray, List.getElem?_cons_zero, List.getElem?_cons_succ]
            simp only [Sem.run_bind, run_underlying hu, Result.andThen_ok, hlo, hmin, run_sizeOf hs, f1]
            cases b' <;> simp
          split at h
          · cases h
            cases hd
            exact ⟨_, _, _, rfl, GoodV.of_comes I ⟨_, hrun none c, .int _ _⟩⟩
          · rename_i b off
            split at h
            · rename_i hp2 hst
              cases h
              have hszz : sz = size := by simpa [Nat.beq_eq] using hsz
              subst hszz
              have hfin : ∀ {p : Pl}, ρ b = some p → (p.base + off + (min m n * sz) ≤ p.size ∨ min m n = 0) → ∃ w', (storeCells ⟨p.blk, p.base + off, none⟩ ws).run P w = .ok () w' ∧ Inv env W0 ρ hp2 nx w' ∧ ∀ c, ρ c = none → hp2.get c = hp.get c := by
                intro p e0 hr
                refine storeC_sound (P := P) henv I hst e0 f2 (fun _ => ?_)
                rcases hr with hr | hr
                · right
                  have : (cs.take (min m n * sz)).length ≤ min m n * sz := List.length_take_le _ _
                  omega
                · left; rw [hr]; simp
              cases hd with
              | slice e0 e1 e2 e3 =>
                rename_i c' p
                obtain ⟨w', s1, s2, s3⟩ := hfin e0 (.inl (by
                  have : min m n * sz ≤ c' * sz := Nat.mul_le_mul_right _ (Nat.le_trans (Nat.min_le_right _ _) (Nat.le_trans hnc e2))
                  omega))
                refine ⟨_, _, _, rfl, _, w', ρ, ?_, Rho.le_refl _, .int _ _, s2, Nat.le_refl _, fun b _ hn => ⟨hn, s3 b hn⟩⟩
                rw [hrun]; simp only [s1, Result.andThen_ok]; rfl
              | sliceAny e0 =>
                rename_i k p
                obtain ⟨w', s1, s2, s3⟩ := hfin e0 (.inr (by simp))
                have hws : ws = [] := by
                  have := f2.length
                  simp at this
                  exact List.eq_nil_of_length_eq_zero this.symm
                subst hws
                have hw' : w' = w := by simp [storeCells] at s1; exact s1.symm
                subst hw'
                refine ⟨_, _, _, rfl, _, _, ρ, ?_, Rho.le_refl _, .int _ _, s2, Nat.le_refl _, fun b _ hn => ⟨hn, s3 b hn⟩⟩
                rw [hrun]; simp [storeCells]; rfl
            · cases h
        · cases h
      · cases h
    · cases h
  · cases h

end Va

/-
  VA: conversions; unsafe strings; clear, min, max; functions without a Go body.
-/
namespace Va
open Go Go.RowKit

variable {P : Program} {env : Nat → Value} {W0 : World} {ρ : Rho} {hp : Tr AO} {nx : Nat} {w : World}

theorem isU8_sound {e : TypeId} (h : isU8 P e = true) : P.underlying e = some (.int .u8) := by
  unfold isU8 at h
  split at h
  · assumption
  · cases h

theorem bytesBack_sound : ∀ {cs : List AV} {ws : List Value} {s : List Nat}, VRs env ρ cs ws → bytesBack cs = some s → ∃ l : List UInt8, s = l.map UInt8.toNat ∧ ws = (l.map fun b => (b.toNat : Int)).map (Value.int .u8)
  | _, _, s, .nil, h => by simp only [bytesBack, Option.some.injEq] at h; subst h; exact ⟨[], rfl, rfl⟩
  | _, _, s, .cons r q, h => by
    rename_i v v' l l'
    cases r <;> first | (simp only [bytesBack, reduceCtorEq] at h; done) | skip
    rename_i k n
    cases k <;> first | (simp only [bytesBack, reduceCtorEq] at h; done) | skip
    cases n with
    | negSucc n => simp only [bytesBack, reduceCtorEq] at h
    | ofNat n =>
      simp only [bytesBack] at h
      split at h
      · rename_i hn
        split at h
        · rename_i t ht
          cases h
          obtain ⟨m, h1, h2⟩ := bytesBack_sound q ht
          have hn := Nat.le_of_ble_eq_true hn
          refine ⟨UInt8.ofNat n :: m, ?_, ?_⟩
          · simp [h1, UInt8.toNat_ofNat_of_lt' (show n < 2 ^ 8 by omega)]
          · simp [h2, UInt8.toNat_ofNat_of_lt' (show n < 2 ^ 8 by omega)]
        · cases h
      · cases h

theorem foldl_push (l : List UInt8) : ∀ (s : ByteArray), ((l.map fun b => (b.toNat : Int)).foldl (fun r n => r.push (UInt8.ofNat n.toNat)) s).data.toList = s.data.toList ++ l := by
  induction l with
  | nil => intro s; simp
  | cons b l ih =>
    intro s
    simp only [List.map_cons, List.foldl_cons]
    rw [ih]
    simp [ByteArray.push]

theorem ofBytes_sound (I : Inv env W0 ρ hp nx w) {src dst e : TypeId} {a : Option (Nat × Nat)} {n c sz : Nat} {ex : Bool} {x' : Value} {v : AV} (hs : P.underlying src = some (.slice e)) (hd : P.underlying dst = some .string)
    (hx : VR env ρ (.slice a n c ex sz) x') (h : ofBytes P e a n hp = some v) : Comes1 P env ρ w v (convert src dst x') := by
  unfold ofBytes at h
  split at h
  · rename_i hu
    have hu := isU8_sound hu
    cases h
    cases hx
    refine ⟨.string .empty, ?_, VR.str .empty⟩
    simp [convert, run_underlying hs, run_underlying hd, run_underlying hu, Conv.bytesToString]
  · rename_i b off hu
    have hu := isU8_sound hu
    split at h
    · rename_i cs hl
      unfold strOf at h
      split at h
      · rename_i s hb
        cases h
        have main : ∀ (ad : Addr) (cap : Nat) (ws : List Value), (loadCells ad n).run P w = .ok ws.toArray w → VRs env ρ cs ws → Comes1 P env ρ w (.str s) (convert src dst (.slice (some ad) n cap)) := by
          intro ad cap ws h1 h2
          obtain ⟨l, rfl, rfl⟩ := bytesBack_sound h2 hb
          have h3 := run_bytesToString (P := P) w ad n cap (l.map fun b => (b.toNat : Int)) h1
          refine ⟨.string ((l.map fun b => (b.toNat : Int)).foldl (fun r n => r.push (UInt8.ofNat n.toNat)) ByteArray.empty), ?_, ?_⟩
          · have : (convert src dst (.slice (some ad) n cap)).run P w = (Conv.bytesToString (.slice (some ad) n cap)).run P w := by
              simp [convert, run_underlying hs, run_underlying hd, run_underlying hu]
            rw [this]; exact h3
          · have h4 := foldl_push l ByteArray.empty
            have : l.map UInt8.toNat = bytesOfA ((l.map fun b => (b.toNat : Int)).foldl (fun r n => r.push (UInt8.ofNat n.toNat)) ByteArray.empty) := by
              unfold bytesOfA; rw [h4]; simp
            rw [this]; exact .str _
        cases hx with
        | slice e0 _ _ _ =>
          obtain ⟨ws, h1, h2, _⟩ := run_loadCells_of (P := P) I hl e0
          exact main _ _ ws h1 h2
        | sliceAny e0 =>
          have : cs = [] := by
            obtain ⟨_, _, _, _, _, ht⟩ := loadC_some hl
            exact List.eq_nil_of_length_eq_zero (takeN_len ht)
          subst this
          exact main _ _ [] (by simp [loadCells, loadCellsFrom]) .nil
      · cases h
    · cases h
  · cases h

theorem push_modify {α : Type} (h : Array α) (o : α) (f : α → α) : (h.push o).modify h.size f = h.push (f o) := by
  apply Array.ext_getElem?
  intro i
  rw [Array.getElem?_modify, Array.getElem?_push, Array.getElem?_push]
  by_cases e : i = h.size
  · subst e; simp
  · rw [if_neg (Ne.symm e), if_neg e, if_neg e]

theorem toBytes_sound {src dst e : TypeId} {s : ByteArray} {d0 : TypeDesc} {r : ARes} (hs : P.underlying src = some d0) (hd : P.underlying dst = some (.slice e)) (h : toBytes P e (bytesOfA s) hp nx = some r) :
    ∃ v o, r = .val (v nx) (hp.set nx o) (nx + 1) ∧ AllocOut P env ρ w v o (convert src dst (.string s)) := by
  unfold toBytes at h
  split at h
  · rename_i hu
    have hu := isU8_sound hu
    simp only [newA, Option.some.injEq] at h
    refine ⟨fun a => .slice (some (a, 0)) (bytesOfA s).length (bytesOfA s).length false 1, .cells (byteCells (bytesOfA s)) e false (1, 0), h.symm, ?_⟩
    rw [bytes_len]
    generalize hc : (Question.appendCap s.size 0 e).cut (w.tape w.drawn (.appendCap s.size 0 e)) = cap
    have hcap : s.size ≤ cap := by rw [← hc]; simp [Question.cut]
    generalize hrow : ((s.data.map fun b => Value.int .u8 b.toNat) ++ Array.replicate (cap - s.size) (.int .u8 0) : Array Value) = row
    have hsz : row.size = cap := by rw [← hrow]; simp; have : s.data.size = s.size := rfl; omega
    refine ⟨.cells row e (cap, cap + 1), .slice (some ⟨w.heap.size, 0, none⟩) s.size cap, { w.drew with heap := w.heap.push (.cells row e (cap, cap + 1)) }, cap, ?_, rfl, rfl, rfl, rfl, fun b σ hσ hb => ⟨?_, ?_⟩⟩
    · have hconv : (convert src dst (.string s)).run P w = (Conv.stringToBytes e s).run P w := by
        cases d0 <;> simp [convert, run_underlying hs, run_underlying hd, run_underlying hu]
      rw [hconv]
      simp only [Conv.stringToBytes, Sem.run_bind, run_choose, Question.forced, Bool.false_eq_true, if_false, Result.andThen_ok, hc, hrow, newRow, run_newObj, Sem.run_pure, markStringish, run_shape]
      have hshape : (({ w with drawn := w.drawn + 1 } : World).alloc (.cells row e)).shape? w.heap.size = some (e, row.size) := by simp [World.shape?, World.alloc]
      have e1 : ({ ({ w with drawn := w.drawn + 1 } : World) with heap := w.heap.push (.cells row e) } : World) = ({ w with drawn := w.drawn + 1 } : World).alloc (.cells row e) := rfl
      simp only [e1, hshape, run_freeze, Result.andThen_ok, hsz]
      congr 1
      simp only [World.freeze, Nat.succ_ne_zero, if_false, World.alloc, World.drew]
      rw [push_modify]
      simp
    · exact VR.slice (o := 0) (p := ⟨w.heap.size, 0, cap⟩) hb (fun e => by cases e) hcap (by simp)
    · simp only [OR]
      refine ⟨trivial, hsz, (fun e => by cases e), fun i v hi => ?_, .inr (.inl ⟨rfl, Nat.le_refl _⟩)⟩
      have hv := byteCells_rel (env := env) (ρ := σ) s.data.toList
      obtain ⟨y, y1, y2⟩ := hv.get hi
      refine ⟨y, ?_, y2⟩
      rw [← hrow, Nat.zero_add, Array.getElem?_append]
      simp only [List.getElem?_map, Array.getElem?_toList, Option.map_eq_some_iff] at y1
      obtain ⟨c, c1, c2⟩ := y1
      have := (Array.getElem?_eq_some_iff.1 c1).1
      rw [if_pos (by simpa using this)]
      simp [c1, c2]
  · cases h

theorem shape_of (I : Inv env W0 ρ hp nx w) {b : Nat} {p : Pl} {c : List AV} {e : Nat} {ex : Bool} {fz : Nat × Nat} (hg : hp.get b = some (.cells c e ex fz)) (hr : ρ b = some p) :
    ∃ cc fz', w.heap[p.blk]? = some (.cells cc e fz') ∧ cc.size = p.size ∧ (ex = true → p.base = 0 ∧ c.length = p.size) ∧ CellsR env ρ p.base c cc ∧ FzR p.base p.size fz fz' ∧ w.shape? p.blk = some (e, p.size) := by
  obtain ⟨ob, h1, h2⟩ := I.obj b _ p hg hr rfl
  cases ob <;> simp only [OR] at h2
  obtain ⟨rfl, h3, h4, h5, h6⟩ := h2
  exact ⟨_, _, h1, h3, h4, h5, h6, by simp [World.shape?, h1, h3]⟩

theorem run_seenAt {a : Addr} {sh : TypeId × Nat} (h : w.shape? a.block = some sh) : (Conv.seenAt a).run P w = .ok a w := by
  simp [Conv.seenAt, viewAt, h]

theorem toUnsafe_sound (I : Inv env W0 ρ hp nx w) {src dst t : TypeId} {b off : Nat} {x' : Value} {v : AV} (hs : P.underlying src = some (.pointer t)) (hd : P.underlying dst = some .unsafePointer)
    (hx : VR env ρ (.ptr (some (b, off))) x') (h : toUnsafe P t b off hp = some v) : Comes1 P env ρ w v (convert src dst x') := by
  unfold toUnsafe at h
  split at h
  · rename_i c e ex fz size hg hsz
    split at h
    · rename_i hc
      cases h
      simp only [Bool.and_eq_true, Bool.not_eq_true', Nat.blt_eq] at hc
      cases hx with
      | ptr hr =>
        rename_i p
        obtain ⟨cc, fz', g1, g2, g3, g4, g5, g6⟩ := shape_of I hg hr
        have hne : c ≠ [] := by intro e; subst e; simp at hc
        have hroom := cells_room g4 g2 hne
        have hz : size ≠ 0 := by intro e; subst e; simp at hc
        refine ⟨_, ?_, .ptr hr⟩
        simp [convert, run_underlying hs, run_underlying hd, Conv.unsafePointer, run_seenAt (P := P) (a := ⟨p.blk, p.base + off, none⟩) g6, cellsIn, g6, run_sizeOf hsz, hz, show ¬ p.size ≤ p.base + off by omega]
    · cases h
  · cases h

theorem ofUnsafe_sound (I : Inv env W0 ρ hp nx w) {src dst u : TypeId} {b off : Nat} {x' : Value} {v : AV} (hs : P.underlying src = some .unsafePointer) (hd : P.underlying dst = some (.pointer u))
    (hx : VR env ρ (.ptr (some (b, off))) x') (h : ofUnsafe P u b off hp = some v) : Comes1 P env ρ w v (convert src dst x') := by
  unfold ofUnsafe at h
  split at h
  · rename_i c e fz size hg hsz
    split at h
    · rename_i hl
      cases h
      cases hx with
      | ptr hr =>
        rename_i p
        obtain ⟨cc, fz', g1, g2, g3, g4, g5, g6⟩ := shape_of I hg hr
        obtain ⟨k1, k2⟩ := g3 rfl
        rw [k2] at hl
        refine ⟨_, ?_, .ptr hr⟩
        simp [convert, run_underlying hs, run_underlying hd, Conv.unsafePointer, run_seenAt (P := P) (a := ⟨p.blk, off, none⟩) g6, run_sizeOf hsz, variablesAt, g6, k1, hl]
    · cases h
  · cases h

theorem convertA_sound (I : Inv env W0 ρ hp nx w) {src dst : TypeId} {x : AV} {x' : Value} {r : ARes} (hx : VR env ρ x x') (h : convertA P src dst x hp nx = some r) :
    ∃ v hp' nx', r = .val v hp' nx' ∧ GoodV P env W0 ρ hp nx w v hp' nx' (convert src dst x') := by
  have good : ∀ {v : AV}, Comes1 P env ρ w v (convert src dst x') → ∃ u hp' nx', ARes.val v hp nx = .val u hp' nx' ∧ GoodV P env W0 ρ hp nx w u hp' nx' (convert src dst x') :=
    fun hc => ⟨_, _, _, rfl, GoodV.of_comes I hc⟩
  have goodR : ∀ {o : Option AV}, valR o hp nx = some r → (∀ v, o = some v → Comes1 P env ρ w v (convert src dst x')) → ∃ u hp' nx', r = .val u hp' nx' ∧ GoodV P env W0 ρ hp nx w u hp' nx' (convert src dst x') := by
    intro o ho hc
    unfold valR at ho
    split at ho
    · cases ho; exact good (hc _ rfl)
    · cases ho
  unfold convertA at h
  split at h
  · rename_i d k j n hs hd
    cases h
    cases hx
    rw [wrapA_eq]
    refine good ⟨_, ?_, .int _ _⟩
    cases d <;> simp [convert, run_underlying hs, run_underlying hd, Conv.intToInt]
  · rename_i d s hs hd
    cases h
    cases hx with
    | str s =>
      refine good ⟨_, ?_, .str s⟩
      cases d <;> simp [convert, run_underlying hs, run_underlying hd]
  · rename_i d e s hs hd
    cases hx with
    | str s =>
      obtain ⟨v, o, rfl, ha⟩ := toBytes_sound (P := P) (env := env) (ρ := ρ) (w := w) hs hd h
      exact ⟨_, _, _, rfl, GoodV.of_alloc I ha⟩
  · rename_i e a n c ex sz hs hd
    exact goodR h fun v hv => ofBytes_sound I hs hd hx hv
  · rename_i t b off hs hd
    exact goodR h fun v hv => toUnsafe_sound I hs hd hx hv
  · rename_i u b off hs hd
    exact goodR h fun v hv => ofUnsafe_sound I hs hd hx hv
  · cases h

end Va

