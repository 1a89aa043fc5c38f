/-
  VA, an abstract machine for fixed calls, and its soundness: part 3 of 7.
-/
import Derived.Test.YthbnehhonkakaaaGreatDoorVa2
import Derived.Laws.BytesString
/-
  VA, the abstract machine: its operations and its steps.
-/
namespace Va
open Go

/-- What an operation comes to. -/
inductive ARes where
  | val (v : AV) (hp : Tr AO) (nx : Nat)
  | enter (f : FuncId) (args : List AV)
  | round (l : Nat) (args : List AV)
  | defer (d : ADef)
  | recover

inductive XK where
  | noEscape | makeNoZero (elem : TypeId) | clone | overlaps (size : Nat) | cmpString | indexByteString | countString

def fillA (place : Nat → Option (Nat × Nat)) : List AV → List (Nat × AV) → Option (List AV)
  | cs, [] => some cs
  | cs, (i, v) :: rest =>
    match place i with
    | none => none
    | some (off, size) =>
      if Nat.beq v.cells.length size then
        match putC false cs off v.cells with
        | some cs' => fillA place cs' rest
        | none => none
      else none

def evParts (tm : Tr AV) : List (Nat × Operand) → Option (List (Nat × AV))
  | [] => some []
  | (i, x) :: l => match ev tm x, evParts tm l with
    | some v, some r => some ((i, v) :: r)
    | _, _ => none

def placeA (P : Program) (f : Field) : Option (Nat × Nat) :=
  match sizeOfA P f.type with
  | some n => some (f.offset, n)
  | none => none

def repeatL {α : Type} (l : List α) : Nat → List α
  | 0 => []
  | n + 1 => l ++ repeatL l n

def toNatI : Int → Option Nat
  | .ofNat n => some n
  | .negSucc _ => none

def newA (hp : Tr AO) (nx : Nat) (o : AO) (v : Nat → AV) : Option ARes := some (.val (v nx) (hp.set nx o) (nx + 1))

/-- A bound, at most so great. -/
def bound (x : AV) (y : Nat) : Option Nat :=
  match x with
  | .int _ (.ofNat n) => match Nat.ble n y with
    | true => some n
    | false => none
  | _ => none

def boundOr (x : Option AV) (y d : Nat) : Option Nat :=
  match x with
  | some x => bound x y
  | none => match Nat.ble d y with
    | true => some d
    | false => none

/-- A slice's bounds. -/
def boundsA (len cap : Nat) (low high max : Option AV) : Option (Nat × Nat × Nat) :=
  match max.isSome && high.isNone, boundOr max cap cap with
  | false, some m => match boundOr high m len with
    | some h => match boundOr low h 0 with
      | some l => some (l, h, m)
      | none => none
    | none => none
  | _, _ => none

def evO (tm : Tr AV) : Option Operand → Option (Option AV)
  | none => some none
  | some x => match ev tm x with
    | some v => some (some v)
    | none => none

def sliceStr (s : List Nat) (b : Option (Nat × Nat × Nat)) : Option AV :=
  match b with
  | some (l, h, _) => match takeN (h - l) (dropN l s) with
    | some r => some (.str r)
    | none => none
  | none => none

def moved (a : Option (Nat × Nat)) (n : Nat) : Option (Nat × Nat) :=
  match a with
  | some (b, o) => some (b, o + n)
  | none => none

def sliceSl (a : Option (Nat × Nat)) (ex : Bool) (sz size : Nat) (b : Option (Nat × Nat × Nat)) : Option AV :=
  match b with
  | some (l, h, m) => match ex with
    | true => some (.slice (match Nat.beq m l with | true => a | false => moved a (l * size)) (h - l) (m - l) true sz)
    | false => some (.slice (moved a (l * size)) (h - l) (m - l) false sz)
  | none => none

def sliceA (P : Program) (t : TypeId) (x : AV) (low high max : Option AV) : Option AV :=
  match P.underlying t, x with
  | some .string, .str s => match max with
    | some _ => none
    | none => sliceStr s (boundsA s.length s.length low high none)
  | some (.slice elem), .slice a len cap ex sz => match sizeOfA P elem with
    | some size => match a.isNone || Nat.beq size sz with
      | true => sliceSl a (ex || max.isSome) sz size (boundsA len cap low high max)
      | false => none
    | none => none
  | _, _ => none

def sameKey (P : Program) (fs : List Field) (k j : AV) : Option Bool :=
  match k, j with
  | .str a, .str b => some (strEq a b)
  | .int p a, .int q b => match kEq p q with
    | true => some (iEq a b)
    | false => none
  | .agg a, .agg b => eqPlain P fs a b
  | _, _ => none

def findEnt (P : Program) (fs : List Field) (k : AV) : List AEnt → Nat → Option (Option (Nat × AV))
  | [], _ => some none
  | e :: es, i =>
    match sameKey P fs k e.key with
    | some true => some (some (i, e.val))
    | some false => findEnt P fs k es (i + 1)
    | none => none

/-- Is it a key of a kind that is plain? -/
def keyOk (P : Program) (t : TypeId) (k : AV) : Bool :=
  match P.underlying t, k with
  | some .string, .str _ => true
  | some (.int _), .int _ _ => true
  | some (.struct _), .agg x => plainStruct P t x.length
  | _, _ => false

def modEnt (f : AEnt → AEnt) : List AEnt → Nat → List AEnt
  | [], _ => []
  | e :: l, 0 => f e :: l
  | e :: l, n + 1 => e :: modEnt f l n

def delEnt : List AEnt → Nat → List AEnt
  | [], _ => []
  | _ :: l, 0 => l
  | e :: l, n + 1 => e :: delEnt l n

def getMap (hp : Tr AO) (r : Nat) : Option (List AEnt × Nat) :=
  match hp.get r with
  | some (.map es c) => some (es, c)
  | _ => none

def lookupA (P : Program) (t : TypeId) (x k : AV) (ok : Bool) (hp : Tr AO) : Option AV :=
  match P.underlying t with
  | some (.map kt et) =>
    if keyOk P kt k then
      let es? := match x with
        | .map none => some []
        | .map (some r) => (match getMap hp r with | some (es, _) => some es | none => none)
        | _ => none
      match es? with
      | none => none
      | some es =>
        match findEnt P (fieldsL P kt) k es 0 with
        | some (some (_, v)) => some (if ok then .tuple [v, .bool true] else v)
        | some none => (match zeroA P et with
          | some z => some (if ok then .tuple [z, .bool false] else z)
          | none => none)
        | none => none
    else none
  | _ => none

def mapPut (P : Program) (t : TypeId) (x k v : AV) (hp : Tr AO) : Option (Tr AO) :=
  match P.underlying t, x with
  | some (.map kt _), .map (some r) =>
    if keyOk P kt k then
      match getMap hp r with
      | some (es, clock) =>
        (match findEnt P (fieldsL P kt) k es 0 with
        | some (some (i, _)) => putH hp r (.map (modEnt (fun e => { e with key := k, val := v }) es i) clock)
        | some none => putH hp r (.map (es ++ [{ key := k, val := v, born := clock }]) (clock + 1))
        | none => none)
      | none => none
    else none
  | _, _ => none

def andVal (v : AV) (h : Option (Tr AO)) : Option (AV × Tr AO) :=
  match h with
  | some h => some (v, h)
  | none => none

def mapEntryA (P : Program) (t : TypeId) (x k : AV) (hp : Tr AO) : Option (AV × Tr AO) :=
  match P.underlying t, x with
  | some (.map kt et), .map (some r) =>
    match keyOk P kt k, getMap hp r with
    | true, some (es, clock) =>
        (match findEnt P (fieldsL P kt) k es 0 with
        | some (some (i, v)) =>
          match nth es i with
          | some e => andVal (.tuple [v, .int .i64 (.ofNat e.born)]) (putH hp r (.map (modEnt (fun e => { e with key := k }) es i) clock))
          | none => none
        | some none =>
          match zeroA P et with
          | some z => andVal (.tuple [z, .int .i64 (.ofNat clock)]) (putH hp r (.map (es ++ [{ key := k, val := z, born := clock }]) (clock + 1)))
          | none => none
        | none => none)
    | _, _ => none
  | _, _ => none

def findBorn : List AEnt → Int → Nat → Option Nat
  | [], _, _ => none
  | e :: l, b, i => if iEq e.born b then some i else findBorn l b (i + 1)

def entryStoreA (x s v : AV) (hp : Tr AO) : Option (Tr AO) :=
  match x, s with
  | .map (some r), .int _ b =>
    (match getMap hp r with
    | some (es, clock) =>
      (match findBorn es b 0 with
      | some i => putH hp r (.map (modEnt (fun e => { e with val := v }) es i) clock)
      | none => none)
    | none => none)
  | _, _ => none

def memN (n : Nat) : List Nat → Bool
  | [] => false
  | m :: l => Nat.beq n m || memN n l

def leftEnts (seen : List Nat) : List AEnt → List AEnt
  | [] => []
  | e :: l => if memN e.born seen then leftEnts seen l else e :: leftEnts seen l

def allOld (since : Nat) : List AEnt → Bool
  | [] => true
  | e :: l => Nat.blt e.born since && allOld since l

/-- The next entry of a range over a map, where there is but one way on. -/
def nextMapA (r : Nat) (m since : Nat) (seen : List Nat) (last : Nat) (hp : Tr AO) : Option (AV × Tr AO) :=
  match getMap hp m with
  | some (es, clock) =>
    match !seen.isEmpty && !es.isEmpty && es.all (fun e => Nat.ble last e.born) with
    | true => none
    | false => match leftEnts seen es with
      | [] => some (.tuple [.bool false], hp)
      | [e] => match Nat.blt e.born since with
        | true => andVal (.tuple [.bool true, e.key, e.val]) (putH hp r (.mapIter (some m) since (seen ++ [e.born]) clock))
        | false => none
      | _ => none
  | none => none

def lastOf : List Nat → Option Nat
  | [] => none
  | [x] => some x
  | _ :: l => lastOf l

def findStamp (b : Nat) : List AEnt → Option AEnt
  | [] => none
  | e :: l => if Nat.beq e.born b then some e else findStamp b l

def entryA (it : AV) (hp : Tr AO) : Option AV :=
  match it with
  | .ptr (some (r, 0)) =>
    (match hp.get r with
    | some (.mapIter (some m) _ seen stepped) =>
      match lastOf seen, getMap hp m with
      | some stamp, some (es, clock) =>
        if Nat.beq clock stepped then
          match findStamp stamp es with
          | some e => some (.tuple [e.key, e.val])
          | none => none
        else none
      | _, _ => none
    | _ => none)
  | _ => none

def byteCells : List Nat → List AV
  | [] => []
  | b :: l => .int .u8 (.ofNat b) :: byteCells l

def bytesBack : List AV → Option (List Nat)
  | [] => some []
  | .int .u8 (.ofNat b) :: l => if Nat.ble b 255 then (match bytesBack l with | some r => some (b :: r) | none => none) else none
  | _ => none

def mergeFz (fz : Nat × Nat) (off n : Nat) : Nat × Nat :=
  if Nat.ble fz.2 fz.1 then (off, off + n) else (min fz.1 off, max fz.2 (off + n))

/-- What append puts behind: the cells of its second argument. -/
def moreCells (size : Nat) (x : AV) (hp : Tr AO) : Option (List AV) :=
  match x with
  | .slice none n _ _ _ => if Nat.beq n 0 then some [] else none
  | .slice (some (b, off)) n _ _ sz => if Nat.beq sz size then loadC hp b off (n * size) else none
  | .str s => some (byteCells s)
  | _ => none

def lenA (size : Nat) : AV → Option Nat
  | .slice _ n _ _ _ => some n
  | .str s => if Nat.beq size 1 then some s.length else none
  | _ => none

/-- Far below what no memory bears. -/
def small (n bytes : Nat) : Bool := Nat.ble (n * bytes) 1000000000

def nextCap (need old : Nat) : Nat := Builtin.nextslicecap need old

def valR (v : Option AV) (hp : Tr AO) (nx : Nat) : Option ARes :=
  match v with
  | some v => some (.val v hp nx)
  | none => none

def unitR (h : Option (Tr AO)) (nx : Nat) : Option ARes :=
  match h with
  | some h => some (.val undefA h nx)
  | none => none

/-- How many elements append puts behind: of another slice, of a string, of 'make'. -/
def addLen (xd : TypeDesc) (bytes size : Nat) (x : AV) : Option Nat :=
  match xd with
  | .int _ => match x with
    | .int .i64 (.ofNat m) => match small m bytes with
      | true => some m
      | false => none
    | _ => none
  | _ => lenA size x

def addCells (P : Program) (xd : TypeDesc) (elem : TypeId) (size m : Nat) (x : AV) (hp : Tr AO) : Option (List AV) :=
  match xd with
  | .int _ => match zeroA P elem with
    | some z => match Nat.beq z.cells.length size && Nat.ble (m * size) 10000 with
      | true => some (repeatL z.cells m)
      | false => none
    | none => none
  | _ => moreCells size x hp

/-- append with room: the new cells go behind the old ones. -/
def appendIn (base : Option (Nat × Nat)) (n need cap : Nat) (ex : Bool) (size : Nat) (new : List AV) (hp : Tr AO) (nx : Nat) : Option ARes :=
  match base with
  | none => some (.val (.slice none need cap ex size) hp nx)
  | some (b, off) => match storeC true hp b (off + n * size) new with
    | some hp' => some (.val (.slice base need cap ex size) hp' nx)
    | none => none

def openRow (elem : TypeId) (need size : Nat) (cs : List AV) (fz : Nat × Nat) (hp : Tr AO) (nx : Nat) : Option ARes :=
  newA hp nx (.cells cs elem false fz) (fun a => .slice (some (a, 0)) need need false size)

/-- Where the old row's room isn't known: the old row is given up; the new cells lie behind it or in a new row. -/
def appendOpen (elem : TypeId) (b off n m size : Nat) (e : TypeId) (ex : Bool) (fz : Nat × Nat) (new cs : List AV) (hp : Tr AO) (nx : Nat) : Option ARes :=
  match Nat.beq e elem && apartFrom fz (off + n * size) (m * size) && (Nat.beq off 0 || Nat.beq fz.1 fz.2) && allCell new && !ex, putH hp b .dead with
  | true, some hp' => openRow elem (n + m) size cs fz hp' nx
  | _, _ => none

/-- append without room that is known of. -/
def appendOut (elem : TypeId) (base : Option (Nat × Nat)) (n m : Nat) (ex : Bool) (size : Nat) (new : List AV) (hp : Tr AO) (nx : Nat) : Option ARes :=
  match base with
  | none => match Nat.beq n 0 with
    | true => openRow elem (n + m) size new (0, 0) hp nx
    | false => none
  | some (b, off) => match hp.get b with
    | some (.cells c e ex' fz) => match takeN (n * size) (dropN off c) with
      | some old => match ex with
        | true => openRow elem (n + m) size (old ++ new) (0, 0) hp nx
        | false => appendOpen elem b off n m size e ex' fz new (old ++ new) hp nx
      | none => none
    | _ => none

/-- The type has a zero value of its size. -/
def zeroFits (P : Program) (t : TypeId) (size : Nat) : Bool :=
  match zeroA P t with
  | some z => Nat.beq z.cells.length size
  | none => false

def appendTo (P : Program) (elem : TypeId) (i : TypeInfo) (xd : TypeDesc) (base : Option (Nat × Nat)) (n cap : Nat) (ex : Bool) (x : AV) (hp : Tr AO) (nx : Nat) : Option ARes :=
  match addLen xd i.bytes i.size x with
  | none => none
  | some m => match small (n + m) i.bytes && small cap i.bytes && zeroFits P elem i.size with
    | false => none
    | true => match addCells P xd elem i.size m x hp with
      | none => none
      | some new => match Nat.ble (n + m) cap with
        | true => appendIn base n (n + m) cap ex i.size new hp nx
        | false => appendOut elem base n m ex i.size new hp nx

def appendA (P : Program) (argTypes : List TypeId) (s x : AV) (hp : Tr AO) (nx : Nat) : Option ARes :=
  match argTypes, s with
  | st :: xt :: _, .slice base n cap ex sz => match P.underlying st, P.underlying xt with
    | some (.slice elem), some xd => match P.info? elem with
      | some i => match (base.isNone || Nat.beq sz i.size) && !Nat.beq i.bytes 0 with
        | true => appendTo P elem i xd base n cap ex x hp nx
        | false => none
      | none => none
    | _, _ => none
  | _, _ => none

def lenOfA (P : Program) (t : TypeId) (x : AV) (hp : Tr AO) : Option AV :=
  match P.underlying t, x with
  | some .string, .str s => some (.int .i64 (.ofNat s.length))
  | some (.slice _), .slice _ n _ _ _ => some (.int .i64 (.ofNat n))
  | some (.array n _), _ => some (.int .i64 (.ofNat n))
  | some (.map _ _), .map none => some (.int .i64 0)
  | some (.map _ _), .map (some r) => match getMap hp r with
    | some (es, _) => some (.int .i64 (.ofNat es.length))
    | none => none
  | _, _ => none

def capOfA (P : Program) (t : TypeId) (x : AV) : Option AV :=
  match P.underlying t, x with
  | some (.slice _), .slice _ _ n true _ => some (.int .i64 (.ofNat n))
  | some (.array n _), _ => some (.int .i64 (.ofNat n))
  | _, _ => none

def copyA (P : Program) (st : TypeId) (base : Option (Nat × Nat)) (n c sz : Nat) (x : AV) (hp : Tr AO) (nx : Nat) : Option ARes :=
  match P.underlying st with
  | some (.slice elem) => match sizeOfA P elem with
    | some size => match (base.isNone || Nat.beq sz size) && Nat.ble n c, lenA size x, moreCells size x hp with
      | true, some m, some cs => match takeN (min m n * size) cs with
        | some cs => match base with
          | none => some (.val (.int .i64 (.ofNat (min m n))) hp nx)
          | some (b, off) => match storeC true hp b off cs with
            | some hp' => some (.val (.int .i64 (.ofNat (min m n))) hp' nx)
            | none => none
        | none => none
      | _, _, _ => none
    | none => none
  | _ => none

def clearA (P : Program) (t : TypeId) (x : AV) (hp : Tr AO) : Option (Tr AO) :=
  match P.underlying t, x with
  | some (.slice _), .slice none _ _ _ _ => some hp
  | some (.slice elem), .slice (some (b, off)) n c _ sz => match Nat.beq n 0, zeroA P elem, sizeOfA P elem with
    | true, _, _ => some hp
    | false, some z, some size => match Nat.beq sz size && Nat.beq z.cells.length size && Nat.ble n c with
      | true => storeC true hp b off (repeatL z.cells n)
      | false => none
    | _, _, _ => none
  | _, _ => none

def deleteA (P : Program) (t : TypeId) (m k : AV) (hp : Tr AO) : Option (Tr AO) :=
  match P.underlying t, m with
  | some (.map kt _), .map (some r) => match keyOk P kt k, getMap hp r with
    | true, some (es, clock) => match findEnt P (fieldsL P kt) k es 0 with
      | some (some (i, _)) => putH hp r (.map (delEnt es i) clock)
      | some none => some hp
      | none => none
    | _, _ => none
  | _, _ => none

def isU8 (P : Program) (e : TypeId) : Bool :=
  match P.underlying e with
  | some (.int .u8) => true
  | _ => false

def unsafeStrA (P : Program) (pt : TypeId) (p : Option (Nat × Nat)) (n : Nat) (hp : Tr AO) (nx : Nat) : Option ARes :=
  match P.underlying pt, p with
  | some (.pointer e), some (b, off) => match hp.get b with
    | some (.cells c e' ex fz) => match Nat.beq e e' && isU8 P e && Nat.beq (P.cellsOf e) 1 && Nat.ble n 1000000000 && !Nat.beq n 0 && Nat.ble fz.1 fz.2, takeN n (dropN off c) with
      | true, some bs => match bytesBack bs, putH hp b (.cells c e' ex (mergeFz fz off n)) with
        | some s, some hp' => some (.val (.str s) hp' nx)
        | _, _ => none
      | _, _ => none
    | _ => none
  | _, _ => none

def unsafeStr0 (P : Program) (pt : TypeId) (p : Option (Nat × Nat)) (n : Nat) (hp : Tr AO) (nx : Nat) : Option ARes :=
  match Nat.beq n 0 with
  | true => some (.val (.str []) hp nx)
  | false => unsafeStrA P pt p n hp nx

def builtinA (P : Program) (b : Builtin) (argTypes : List TypeId) (args : List AV) (hp : Tr AO) (nx : Nat) : Option ARes :=
  match b, args, argTypes with
  | .len, [x], t :: _ => valR (lenOfA P t x hp) hp nx
  | .cap, [x], t :: _ => valR (capOfA P t x) hp nx
  | .append, [s, x], l => appendA P l s x hp nx
  | .copy, [.slice base n c _ sz, x], t :: _ => copyA P t base n c sz x hp nx
  | .clear, [x], t :: _ => unitR (clearA P t x hp) nx
  | .delete, [m, k], t :: _ => unitR (deleteA P t m k hp) nx
  | .min, [.int k a, .int _ b], _ => some (.val (.int k (if iLt b a then b else a)) hp nx)
  | .max, [.int k a, .int _ b], _ => some (.val (.int k (if iLt a b then b else a)) hp nx)
  | .recover, [], _ => some .recover
  | .unsafeSliceData, [.slice (some a) _ c _ _], _ => (match Nat.beq c 0 with | true => none | false => some (.val (.ptr (some a)) hp nx))
  | .unsafeString, [.ptr p, .int _ (.ofNat n)], pt :: _ => unsafeStr0 P pt p n hp nx
  | _, _, _ => none

def idxByte (l : List Nat) (c : Nat) (i : Nat) : Int :=
  match l with
  | [] => -1
  | b :: r => if Nat.beq b c then i else idxByte r c (i + 1)

def cntByte : List Nat → Nat → Nat → Nat
  | [], _, n => n
  | b :: r, c, n => cntByte r c (cond (Nat.beq b c) (n + 1) n)

def externA (k : XK) (args : List AV) (hp : Tr AO) (nx : Nat) : Option ARes :=
  match k, args with
  | .noEscape, [x] => some (.val x hp nx)
  | .clone, [.iface t (.map (some r))] => (match getMap hp r with
    | some (es, clock) => newA hp nx (.map es clock) (fun a => .iface t (.map (some a)))
    | none => none)
  | .makeNoZero e, [.int .i64 (.ofNat n)] =>
    if small n 1 then newA hp nx (.cells [] e false (0, 0)) (fun a => .slice (some (a, 0)) n n false 1) else none
  | .overlaps size, [.slice a la _ _ _, .slice b lb _ _ _] =>
    (match a, b with
    | some (x, i), some (y, j) =>
      if Nat.beq la 0 || Nat.beq lb 0 || Nat.beq size 0 then some (.val (.bool false) hp nx)
      else if Nat.beq x y then some (.val (.bool (Nat.blt i (j + lb * size) && Nat.blt j (i + la * size))) hp nx)
      else none
    | _, _ => some (.val (.bool false) hp nx))
  | .cmpString, [.str a, .str b] => some (.val (.int .i64 (if strLt a b then -1 else if strEq a b then 0 else 1)) hp nx)
  | .indexByteString, [.str s, .int .u8 (.ofNat c)] => (match Nat.ble c 255 with
    | true => some (.val (.int .i64 (idxByte s c 0)) hp nx)
    | false => none)
  | .countString, [.str s, .int .u8 (.ofNat c)] => (match Nat.ble c 255 with
    | true => some (.val (.int .i64 (.ofNat (cntByte s c 0))) hp nx)
    | false => none)
  | _, _ => none

def callFn (P : Program) (X : Nat → Option XK) (f : FuncId) (args : List AV) (hp : Tr AO) (nx : Nat) : Option ARes :=
  match P.funcs[f]? with
  | none => none
  | some fn => match fn.body with
    | some _ => some (.enter f args)
    | none => match X f with
      | some k => externA k args hp nx
      | none => none

def invokeA (P : Program) (X : Nat → Option XK) (fn : Fn) (captured args : List AV) (hp : Tr AO) (nx : Nat) : Option ARes :=
  match fn with
  | .func f => callFn P X f (args ++ captured) hp nx
  | .yield l => some (.round l args)
  | _ => none

def toBytes (P : Program) (e : TypeId) (s : List Nat) (hp : Tr AO) (nx : Nat) : Option ARes :=
  match isU8 P e with
  | true => newA hp nx (.cells (byteCells s) e false (1, 0)) (fun a => .slice (some (a, 0)) s.length s.length false 1)
  | false => none

def strOf (l : Option (List Nat)) : Option AV :=
  match l with
  | some s => some (.str s)
  | none => none

def ofBytes (P : Program) (e : TypeId) (a : Option (Nat × Nat)) (n : Nat) (hp : Tr AO) : Option AV :=
  match isU8 P e, a with
  | true, none => some (.str [])
  | true, some (b, off) => match loadC hp b off n with
    | some cs => strOf (bytesBack cs)
    | none => none
  | _, _ => none

def toUnsafe (P : Program) (t : TypeId) (b off : Nat) (hp : Tr AO) : Option AV :=
  match hp.get b, sizeOfA P t with
  | some (.cells c _ _ _), some size => match Nat.blt off c.length && !Nat.beq size 0 with
    | true => some (.ptr (some (b, off)))
    | false => none
  | _, _ => none

def ofUnsafe (P : Program) (u : TypeId) (b off : Nat) (hp : Tr AO) : Option AV :=
  match hp.get b, sizeOfA P u with
  | some (.cells c e true _), some _ => match liesAt P P.depth e (c.length / P.cellsOf e) off u 1 with
    | true => some (.ptr (some (b, off)))
    | false => none
  | _, _ => none

def convertA (P : Program) (src dst : TypeId) (x : AV) (hp : Tr AO) (nx : Nat) : Option ARes :=
  match P.underlying src, P.underlying dst, x with
  | some _, some (.int k), .int _ n => some (.val (.int k (wrapA k n)) hp nx)
  | some _, some .string, .str s => some (.val (.str s) hp nx)
  | some _, some (.slice e), .str s => toBytes P e s hp nx
  | some (.slice e), some .string, .slice a n _ _ _ => valR (ofBytes P e a n hp) hp nx
  | some (.pointer t), some .unsafePointer, .ptr (some (b, off)) => valR (toUnsafe P t b off hp) hp nx
  | some .unsafePointer, some (.pointer u), .ptr (some (b, off)) => valR (ofUnsafe P u b off hp) hp nx
  | _, _, _ => none

def opAlloc (P : Program) (e : TypeId) (hp : Tr AO) (nx : Nat) : Option ARes :=
  match zeroA P e with
  | some z => match allCell z.cells with
    | true => newA hp nx (.cells z.cells e true (0, 0)) (fun a => .ptr (some (a, 0)))
    | false => none
  | none => none

def opBox (tm : Tr AV) (e : TypeId) (x : Operand) (hp : Tr AO) (nx : Nat) : Option ARes :=
  match ev tm x with
  | some v => match allCell v.cells with
    | true => newA hp nx (.cells v.cells e true (0, 0)) (fun a => .ptr (some (a, 0)))
    | false => none
  | none => none

def buildStruct (P : Program) (fs : List Field) (z : List AV) (ps : List (Nat × AV)) : Option AV :=
  match mapO (placeA P) fs with
  | some l => match fillA (nth l) z ps with
    | some cs => some (.agg cs)
    | none => none
  | none => none

def buildArray (P : Program) (e : TypeId) (z : List AV) (ps : List (Nat × AV)) : Option AV :=
  match sizeOfA P e with
  | some size => match fillA (fun i => some (i * size, size)) z ps with
    | some cs => some (.agg cs)
    | none => none
  | none => none

def opBuild (P : Program) (tm : Tr AV) (t : TypeId) (parts : List (Nat × Operand)) : Option AV :=
  match zeroA P t, evParts tm parts with
  | some z, some ps => match P.underlying t with
    | some (.struct fs) => buildStruct P fs.toList z.cells ps
    | some (.array _ e) => buildArray P e z.cells ps
    | _ => none
  | _, _ => none

def opBuildSlice (P : Program) (tm : Tr AV) (t : TypeId) (len : Nat) (parts : List (Nat × Operand)) (hp : Tr AO) (nx : Nat) : Option ARes :=
  match P.underlying t, evParts tm parts with
  | some (.slice e), some ps => match zeroA P e, sizeOfA P e with
    | some z, some size => match Nat.beq z.cells.length size && Nat.ble (len * size) 10000 with
      | true => match fillA (fun i => some (i * size, size)) (repeatL z.cells len) ps with
        | some cs => newA hp nx (.cells cs e true (0, 0)) (fun a => .slice (some (a, 0)) len len true size)
        | none => none
      | false => none
    | _, _ => none
  | _, _ => none

def opLoad (P : Program) (tm : Tr AV) (t : TypeId) (x : Operand) (hp : Tr AO) : Option AV :=
  match ev tm x with
  | some (.ptr (some (b, off))) => loadA P t hp b off
  | _ => none

def opStore (P : Program) (tm : Tr AV) (t : TypeId) (x v : Operand) (hp : Tr AO) : Option (Tr AO) :=
  match ev tm x, ev tm v, sizeOfA P t with
  | some (.ptr (some (b, off))), some v, some n =>
    match Nat.beq v.cells.length n with
    | true => storeC false hp b off v.cells
    | false => none
  | _, _, _ => none

def opNilCheck (tm : Tr AV) (x : Operand) : Option AV :=
  match ev tm x with
  | some (.ptr (some a)) => some (.ptr (some a))
  | some (.func (.func f) a b) => some (.func (.func f) a b)
  | some (.iface t v) => some (.iface t v)
  | _ => none

def opBin (P : Program) (tm : Tr AV) (op : BinOp) (t : TypeId) (x y : Operand) : Option AV :=
  match ev tm x, ev tm y with
  | some a, some b => binA P op t x y a b
  | _, _ => none

def opUn (tm : Tr AV) (op : UnOp) (x : Operand) : Option AV :=
  match ev tm x with
  | some a => unA op a
  | none => none

def opConvert (P : Program) (tm : Tr AV) (s d : TypeId) (x : Operand) (hp : Tr AO) (nx : Nat) : Option ARes :=
  match ev tm x with
  | some a => convertA P s d a hp nx
  | none => none

def opMakeIface (P : Program) (tm : Tr AV) (t : TypeId) (x : Operand) : Option AV :=
  match ev tm x, P.underlying t with
  | some a, some d => match d with
    | .interface _ => none
    | _ => some (.iface t a)
  | _, _ => none

def plainFn : Fn → Bool
  | .func _ => true
  | _ => false

def opMakeFunc (tm : Tr AV) (fn : Fn) (first captured : List Operand) : Option AV :=
  match plainFn fn, evs tm first, evs tm captured with
  | true, some a, some b => some (.func fn a b)
  | _, _, _ => none

def opMakeMap (P : Program) (tm : Tr AV) (t : TypeId) (r : Option Operand) (hp : Tr AO) (nx : Nat) : Option ARes :=
  match r with
  | none => newA hp nx (.map [] 0) (fun a => .map (some a))
  | some x => match ev tm x, P.underlying t with
    | some (.int _ _), some (.map _ _) => newA hp nx (.map [] 0) (fun a => .map (some a))
    | _, _ => none

def opMakeSlice (P : Program) (tm : Tr AV) (t : TypeId) (l c : Operand) (hp : Tr AO) (nx : Nat) : Option ARes :=
  match P.underlying t, ev tm l, ev tm c with
  | some (.slice e), some (.int .i64 (.ofNat n)), some (.int .i64 (.ofNat m)) => match zeroA P e, P.info? e with
    | some z, some i =>
      match Nat.beq z.cells.length i.size && Nat.ble n m && small m i.bytes && Nat.ble m 10000 with
      | true => newA hp nx (.cells (repeatL z.cells m) e true (0, 0)) (fun a => .slice (some (a, 0)) n m true i.size)
      | false => none
    | _, _ => none
  | _, _, _ => none

def opSlice (P : Program) (tm : Tr AV) (t : TypeId) (x : Operand) (lo hi mx : Option Operand) : Option AV :=
  match ev tm x, evO tm lo, evO tm hi, evO tm mx with
  | some a, some lo, some hi, some mx => sliceA P t a lo hi mx
  | _, _, _, _ => none

def fieldAddrA (P : Program) (f : Option Field) (b off : Nat) : Option AV :=
  match f with
  | some f => match sizeOfA P f.type with
    | some n => match Nat.beq n 0 with
      | true => none
      | false => some (.ptr (some (b, off + f.offset)))
    | none => none
  | none => none

def opFieldAddr (P : Program) (tm : Tr AV) (t : TypeId) (x : Operand) (i : Nat) : Option AV :=
  match ev tm x, fieldsOf P t with
  | some (.ptr (some (b, off))), some fs => fieldAddrA P (nth fs i) b off
  | _, _ => none

def opField (P : Program) (tm : Tr AV) (t : TypeId) (x : Operand) (i : Nat) : Option AV :=
  match ev tm x, fieldsOf P t with
  | some (.agg cs), some fs => match nth fs i with
    | some f => partA P f.type cs f.offset
    | none => none
  | _, _ => none

def indexAddrA (P : Program) (t : TypeId) (x : AV) (i : Nat) : Option AV :=
  match P.underlying t, x with
  | some (.slice e), .slice (some (b, off)) n _ _ sz => match sizeOfA P e with
    | some size => match Nat.blt i n && Nat.beq sz size with
      | true => some (.ptr (some (b, off + i * size)))
      | false => none
    | none => none
  | some (.array n e), .ptr (some (b, off)) => match sizeOfA P e with
    | some size => match Nat.blt i n with
      | true => some (.ptr (some (b, off + i * size)))
      | false => none
    | none => none
  | _, _ => none

def opIndexAddr (P : Program) (tm : Tr AV) (t : TypeId) (x ix : Operand) : Option AV :=
  match ev tm x, ev tm ix with
  | some a, some (.int _ (.ofNat i)) => indexAddrA P t a i
  | _, _ => none

def indexA (P : Program) (t : TypeId) (x : AV) (i : Nat) : Option AV :=
  match P.underlying t, x with
  | some .string, .str s => match nth s i with
    | some b => some (.int .u8 (.ofNat b))
    | none => none
  | some (.array n e), .agg cs => match sizeOfA P e with
    | some size => match Nat.blt i n with
      | true => partA P e cs (i * size)
      | false => none
    | none => none
  | _, _ => none

def opIndex (P : Program) (tm : Tr AV) (t : TypeId) (x ix : Operand) : Option AV :=
  match ev tm x, ev tm ix with
  | some a, some (.int _ (.ofNat i)) => indexA P t a i
  | _, _ => none

def opLookup (P : Program) (tm : Tr AV) (t : TypeId) (x k : Operand) (ok : Bool) (hp : Tr AO) : Option AV :=
  match ev tm x, ev tm k with
  | some m, some k => lookupA P t m k ok hp
  | _, _ => none

def opMapPut (P : Program) (tm : Tr AV) (t : TypeId) (m k x : Operand) (hp : Tr AO) : Option (Tr AO) :=
  match ev tm m, ev tm k, ev tm x with
  | some m, some k, some x => mapPut P t m k x hp
  | _, _, _ => none

def opMapEntry (P : Program) (tm : Tr AV) (t : TypeId) (m k : Operand) (hp : Tr AO) (nx : Nat) : Option ARes :=
  match ev tm m, ev tm k with
  | some m, some k => match mapEntryA P t m k hp with
    | some (v, h) => some (.val v h nx)
    | none => none
  | _, _ => none

def opEntryStore (tm : Tr AV) (m s x : Operand) (hp : Tr AO) : Option (Tr AO) :=
  match ev tm m, ev tm s, ev tm x with
  | some m, some s, some x => entryStoreA m s x hp
  | _, _, _ => none

def opRange (P : Program) (tm : Tr AV) (t : TypeId) (x : Operand) (hp : Tr AO) (nx : Nat) : Option ARes :=
  match P.underlying t, ev tm x with
  | some (.map _ _), some (.map none) => newA hp nx (.mapIter none 0 [] 0) (fun a => .ptr (some (a, 0)))
  | some (.map _ _), some (.map (some m)) => match getMap hp m with
    | some (_, clock) => newA hp nx (.mapIter (some m) clock [] clock) (fun a => .ptr (some (a, 0)))
    | none => none
  | _, _ => none

def nextA (it : AO) (r : Nat) (hp : Tr AO) (nx : Nat) : Option ARes :=
  match it with
  | .mapIter none _ _ _ => some (.val (.tuple [.bool false]) hp nx)
  | .mapIter (some m) since seen last => match nextMapA r m since seen last hp with
    | some (v, h) => some (.val v h nx)
    | none => none
  | _ => none

def opNext (tm : Tr AV) (it : Operand) (isString : Bool) (hp : Tr AO) (nx : Nat) : Option ARes :=
  match isString, ev tm it with
  | false, some (.ptr (some (r, 0))) => match hp.get r with
    | some o => nextA o r hp nx
    | none => none
  | _, _ => none

def opEntry (tm : Tr AV) (it : Operand) (hp : Tr AO) : Option AV :=
  match ev tm it with
  | some it => entryA it hp
  | none => none

def noIface (P : Program) (t : TypeId) : Bool :=
  match P.underlying t with
  | some (.interface _) => false
  | some _ => true
  | none => false

def orZero (P : Program) (t : TypeId) (ok : Bool) : Option AV :=
  match ok, zeroA P t with
  | true, some z => some (.tuple [z, .bool false])
  | _, _ => none

def assertA (P : Program) (t : TypeId) (ok : Bool) (x : AV) : Option AV :=
  match x with
  | .iface u v => match Nat.beq u t with
    | true => some (match ok with | true => .tuple [v, .bool true] | false => v)
    | false => orZero P t ok
  | .nilIface => orZero P t ok
  | _ => none

def opAssert (P : Program) (tm : Tr AV) (x : Operand) (t : TypeId) (ok : Bool) : Option AV :=
  match ev tm x, noIface P t with
  | some x, true => assertA P t ok x
  | _, _ => none

def opExtract (tm : Tr AV) (x : Operand) (i : Nat) : Option AV :=
  match ev tm x with
  | some (.tuple vs) => nth vs i
  | _ => none

def callVal (P : Program) (X : Nat → Option XK) (f : Option AV) (args : List AV) (hp : Tr AO) (nx : Nat) : Option ARes :=
  match f with
  | some (.func fn first captured) => invokeA P X fn captured (first ++ args) hp nx
  | _ => none

def opCall (P : Program) (X : Nat → Option XK) (tm : Tr AV) (c : Call) (hp : Tr AO) (nx : Nat) : Option ARes :=
  match evs tm c.args.toList with
  | none => none
  | some args => match c.callee with
    | .builtin b => builtinA P b c.argTypes.toList args hp nx
    | .value f => callVal P X (ev tm f) args hp nx
    | .invoke _ _ => none

def opDefer (tm : Tr AV) (c : Call) : Option ARes :=
  match evs tm c.args.toList, c.callee with
  | some args, .value f => match ev tm f with
    | some (.func fn first captured) => some (.defer (.call fn captured (first ++ args)))
    | _ => none
  | _, _ => none

def opPick (tm : Tr AV) (c a b : Operand) : Option AV :=
  match ev tm c with
  | some (.bool true) => ev tm a
  | some (.bool false) => ev tm b
  | _ => none

def aopOp (P : Program) (X : Nat → Option XK) (tm : Tr AV) (hp : Tr AO) (nx : Nat) : Op → Option ARes
  | .move x => valR (ev tm x) hp nx
  | .assign x => valR (ev tm x) hp nx
  | .pick c a b => valR (opPick tm c a b) hp nx
  | .alloc e => opAlloc P e hp nx
  | .box e x => opBox tm e x hp nx
  | .build t parts => valR (opBuild P tm t parts.toList) hp nx
  | .buildSlice t len parts => opBuildSlice P tm t len parts.toList hp nx
  | .load t x => valR (opLoad P tm t x hp) hp nx
  | .store t x v => unitR (opStore P tm t x v hp) nx
  | .nilCheck x => valR (opNilCheck tm x) hp nx
  | .binOp op t x y _ => valR (opBin P tm op t x y) hp nx
  | .unOp op _ x => valR (opUn tm op x) hp nx
  | .convert s d x => opConvert P tm s d x hp nx
  | .makeInterface t x => valR (opMakeIface P tm t x) hp nx
  | .makeFunc fn first captured => valR (opMakeFunc tm fn first.toList captured.toList) hp nx
  | .makeMap t r => opMakeMap P tm t r hp nx
  | .makeSlice t l c => opMakeSlice P tm t l c hp nx
  | .slice t x lo hi mx => valR (opSlice P tm t x lo hi mx) hp nx
  | .fieldAddr t x i => valR (opFieldAddr P tm t x i) hp nx
  | .field t x i => valR (opField P tm t x i) hp nx
  | .indexAddr t x ix => valR (opIndexAddr P tm t x ix) hp nx
  | .index t x ix => valR (opIndex P tm t x ix) hp nx
  | .lookup t x k ok => valR (opLookup P tm t x k ok hp) hp nx
  | .mapUpdate t m k x => unitR (opMapPut P tm t m k x hp) nx
  | .insert t m k x => unitR (opMapPut P tm t m k x hp) nx
  | .mapEntry t m k => opMapEntry P tm t m k hp nx
  | .entryStore _ m s x => unitR (opEntryStore tm m s x hp) nx
  | .range t x => opRange P tm t x hp nx
  | .next it s => opNext tm it s hp nx
  | .entry it => valR (opEntry tm it hp) hp nx
  | .typeAssert x _ t ok => valR (opAssert P tm x t ok) hp nx
  | .extract x i => valR (opExtract tm x i) hp nx
  | .call c => opCall P X tm c hp nx
  | .defer c => opDefer tm c
  | _ => none

def aop (P : Program) (X : Nat → Option XK) (tm : Tr AV) (o : Oper) (hp : Tr AO) (nx : Nat) : Option ARes :=
  aopOp P X tm hp nx o.op

-- regions that draw
/-- 0: a value out of values alone; 1: one that is read off memory, too; 2: a new block; 3: anything else. -/
def cls (P : Program) (o : Oper) : Nat :=
  match o.op with
  | .move _ | .pick .. | .build .. | .nilCheck _ | .binOp .. | .unOp .. | .makeInterface .. | .makeFunc .. | .slice .. | .fieldAddr .. | .field .. | .indexAddr .. | .index ..
  | .typeAssert .. | .extract .. => 0
  | .load .. | .lookup .. | .entry _ => 1
  | .convert s d _ => (match P.underlying s, P.underlying d with
    | _, some (.slice _) => 3
    | some (.int _), some (.int _) => 0
    | some (.slice _), some .string => 1
    | some .string, some .string => 0
    | _, _ => 3)
  | .alloc _ | .box .. | .buildSlice .. | .makeMap .. | .makeSlice .. => 2
  | .call c => (match c.callee with
    | .builtin .len | .builtin .cap => 1
    | _ => 3)
  | _ => 3

def isEff (P : Program) (o : Oper) : Bool := Nat.beq (cls P o) 3

def isRead (P : Program) (o : Oper) : Bool := Nat.beq (cls P o) 1

def maskOf (done : List Nat) : List Edge → Nat → Nat
  | [], m => m
  | e :: l, m => maskOf done l (if Region.binds .any e then m ||| 2 ^ e.on ||| (nth done e.on).getD 0 else m)

/-- For each operation: what must have run ahead of it, as bits. -/
def masks : List Oper → List Nat → List Nat
  | [], acc => acc
  | o :: l, acc => masks l (acc ++ [maskOf acc o.after.toList 0])

def subMask (a b : Nat) : Bool := Nat.beq (a &&& b) a

def pickOne (P : Program) (eff : Bool) : List Oper → List Nat → Nat → Nat → Option Nat
  | o :: l, m :: ms, i, done =>
    match !done.testBit i && (isEff P o == eff) && subMask m done with
    | true => some i
    | false => pickOne P eff l ms (i + 1) done
  | _, _, _, _ => none

def loose (P : Program) (ops : List Oper) (mask : Nat) : List Nat → List Nat
  | [] => []
  | i :: l => match nth ops i with
    | some o => match isRead P o && !mask.testBit i with
      | true => i :: loose P ops mask l
      | false => loose P ops mask l
    | none => loose P ops mask l

def order (P : Program) (ops : List Oper) (ms : List Nat) : Nat → Nat → List Nat → List Ac
  | 0, _, _ => []
  | f + 1, done, reads =>
    match pickOne P false ops ms 0 done with
    | some i => .ex i :: order P ops ms f (done ||| 2 ^ i) (i :: reads)
    | none => match pickOne P true ops ms 0 done with
      | some i =>
        (match loose P ops ((nth ms i).getD 0) reads with
        | [] => .ex i :: order P ops ms f (done ||| 2 ^ i) reads
        | ls => .ex i :: .ck ls :: order P ops ms f (done ||| 2 ^ i) reads)
      | none => []

def acts (P : Program) (ops : List Oper) : List Ac := order P ops (masks ops []) (ops.length + 1) 0 []

def dstOf (ops : List Oper) (j : Nat) : Option Nat :=
  match nth ops j with
  | some o => o.dst
  | none => none

-- what makes a row of acts good
def operandTmps : List Operand → List Nat
  | [] => []
  | .tmp t :: l => t :: operandTmps l
  | _ :: l => operandTmps l

/-- The slots that an operation reads: its operands' and its guard's. -/
def readsOf (ops : List Oper) (o : Oper) : List Nat :=
  (match o.guard with
  | none => []
  | some (j, _) => (match dstOf ops j with
    | some d => [d]
    | none => [])) ++ operandTmps o.op.operands.toList

/-- Every direct one ahead of an operation is among those. -/
def predsIn (done : Nat) : List Edge → Bool
  | [] => true
  | e :: l => (!Region.binds .any e || done.testBit e.on) && predsIn done l

/-- No operation that has not run, but for one, could run. -/
def noneReady (ops : List Oper) (done e : Nat) : List Oper → Nat → Bool
  | [], _ => true
  | o :: l, i => (done.testBit i || Nat.beq i e || !predsIn done o.after.toList) && noneReady ops done e l (i + 1)

/-- A slot that operation 'k' (of no effect) writes: nobody else writes it, and who reads it has 'k' ahead; one of an effect: who reads it is ordered with it. -/
def slotOk (eff : Bool) (k d : Nat) (mk : Nat) (ops : List Oper) : List Oper → List Nat → Nat → Bool
  | o :: l, m :: ms, i =>
    (cond (Nat.beq i k) (eff || !memN d (readsOf ops o)) ((eff || !(match o.dst with | some d' => Nat.beq d d' | none => false)) &&
      (!memN d (readsOf ops o) || m.testBit k || (eff && mk.testBit i)))) && slotOk eff k d mk ops l ms (i + 1)
  | [], [], _ => true
  | _, _, _ => false

def slotsOk (P : Program) (ops : List Oper) (ms : List Nat) : List Oper → List Nat → Nat → Bool
  | o :: l, m :: ms', k => (match o.dst with
    | none => true
    | some d => slotOk (isEff P o) k d m ops ops ms 0) && slotsOk P ops ms l ms' (k + 1)
  | [], [], _ => true
  | _, _, _ => false

/-- Every read that has run and is not ahead of effect 'e' is in the list. -/
def looseIn (P : Program) (ops : List Oper) (done mask : Nat) (ls : List Nat) : List Oper → Nat → Bool
  | [], _ => true
  | o :: l, i => (!done.testBit i || !isRead P o || mask.testBit i || memN i ls) && looseIn P ops done mask ls l (i + 1)

def ckOf : List Ac → List Nat
  | .ck ls :: _ => ls
  | _ => []

/-- 'done', 'effs': what has run, and the effects of it. -/
def goodFrom (P : Program) (ops : List Oper) (ms : List Nat) : List Ac → Nat → Nat → Bool
  | [], done, _ => Nat.beq done (2 ^ ops.length - 1)
  | .ck _ :: rest, done, effs => goodFrom P ops ms rest done effs
  | .ex i :: rest, done, effs =>
    match nth ops i, nth ms i with
    | some o, some m =>
      Nat.blt i ops.length && !done.testBit i && predsIn done o.after.toList &&
      (match isEff P o with
      | false => (match rest with | .ck _ :: _ => false | _ => true) && goodFrom P ops ms rest (done ||| 2 ^ i) effs
      | true => subMask effs m && noneReady ops done i ops 0 && looseIn P ops done m (ckOf rest) ops 0 && goodFrom P ops ms rest (done ||| 2 ^ i) (effs ||| 2 ^ i))
    | _, _ => false

def edgesBack : List Oper → Nat → Bool
  | [], _ => true
  | o :: l, i => o.after.toList.all (fun e => !Region.binds .any e || Nat.blt e.on i) && edgesBack l (i + 1)

def goodActs (P : Program) (ops : List Oper) (l : List Ac) : Bool :=
  edgesBack ops 0 && slotsOk P ops (masks ops []) ops (masks ops []) 0 && goodFrom P ops (masks ops []) l 0 0

/-- Is an operation to run, by its guard? -/
def wantedA (ops : List Oper) (tm : Tr AV) (o : Oper) : Option Bool :=
  match o.guard with
  | none => some true
  | some (j, want) => match dstOf ops j with
    | some d => (match tm.get d with
      | some (.bool b) => some (b == want)
      | some (.tuple []) => some false
      | _ => none)
    | none => none

def setT (nt : Nat) (tm : Tr AV) (d : Option Nat) (v : AV) : Option (Tr AV) :=
  match d with
  | none => some tm
  | some d => match Nat.blt d nt with
    | true => some (tm.set d v)
    | false => none

inductive AR where
  | next (s : ASt)
  | done (v : AV)
  | fail (why : Nat)

def withTm (s : FS) (df : List ADef) (ret : Bool) (k : List AIt) (tm : Option (Tr AV)) : Option AFr :=
  match tm with
  | some tm => some ⟨s, tm, k, df, ret⟩
  | none => none

/-- The frame goes on behind its operation, with a value. -/
def finishIt (s : FS) (tm : Tr AV) (df : List ADef) (ret : Bool) (v : AV) : List AIt → Option AFr
  | .reg ops (o :: rest) :: k => withTm s df ret (.reg ops rest :: k) (setT s.nt tm o.dst v)
  | .drw ops (.ex i :: rest) :: k => withTm s df ret (.drw ops rest :: k) (setT s.nt tm (dstOf ops i) v)
  | .inRangeFunc l :: k => some ⟨s, tm, .endRangeFunc l :: k, df, ret⟩
  | _ => none

def finishA (fr : AFr) (v : AV) : Option AFr :=
  match fr with
  | ⟨s, tm, todo, df, ret⟩ => finishIt s tm df ret v todo

def fillT : Tr AV → Nat → List AV → Tr AV
  | t, _, [] => t
  | t, i, v :: l => fillT (t.set i v) (i + 1) l

def enterFn (f : FuncId) (args : List AV) (dfd : Bool) (nt : Nat) (c : Option Code) : Option AFr :=
  match c with
  | some c => some ⟨⟨f, nt, dfd, none⟩, fillT .leaf 0 args, [.code c], [], false⟩
  | none => none

def enterA (P : Program) (f : FuncId) (args : List AV) (dfd : Bool) : Option AFr :=
  match P.funcs[f]? with
  | some fn => enterFn f args dfd fn.ntmps fn.body
  | none => none

def setParams (nt : Nat) : Tr AV → List Tmp → List AV → Option (Tr AV)
  | t, [], [] => some t
  | t, p :: ps, v :: vs => match Nat.blt p nt with
    | true => setParams nt (t.set p v) ps vs
    | false => none
  | _, _, _ => none

def roundFr (r : ALoop) (l : Nat) (tm : Option (Tr AV)) : Option AFr :=
  match tm with
  | some tm => some ⟨⟨r.fn, r.nt, false, some l⟩, tm, [.code r.assign, .beginRound, .code r.body], [], false⟩
  | none => none

def roundA (hp : Tr AO) (l : Nat) (args : List AV) : Option AFr :=
  match hp.get l with
  | some (.loop r) => roundFr r l (setParams r.nt r.tm r.params args)
  | _ => none

def exitA (id : Nat) : List AIt → Option (List AIt)
  | .inBlock i :: k => match Nat.beq i id with
    | true => some k
    | false => exitA id k
  | _ :: k => exitA id k
  | [] => none

def gotoA (l : Nat) : List AIt → Option (List AIt)
  | .inScope body :: k => match findLabel body l with
    | some rest => some (.code rest :: .inScope body :: k)
    | none => gotoA l k
  | _ :: k => gotoA l k
  | [] => none

def nextO (fr : Option AFr) (cs : List AFr) (hp : Tr AO) (nx why : Nat) : AR :=
  match fr with
  | some fr => .next ⟨fr, cs, hp, nx⟩
  | none => .fail why

/-- What a frame's result does to the stack. -/
def returnA (dfd : Bool) (cs : List AFr) (hp : Tr AO) (nx : Nat) (v : AV) : AR :=
  match cs with
  | [] => .done v
  | c :: cs => match dfd with
    | true => .next ⟨c, cs, hp, nx⟩
    | false => nextO (finishA c v) cs hp nx 1

def recoverA (s : FS) (tm : Tr AV) (todo : List AIt) (df : List ADef) (ret : Bool) (cs : List AFr) (hp : Tr AO) (nx : Nat) : AR :=
  match s.dfd, s.rnd, cs with
  | true, none, c :: _ => match c.ret with
    | true => nextO (finishIt s tm df ret .nilIface todo) cs hp nx 7
    | false => .fail 8
  | _, _, _ => .fail 9

def applyA (P : Program) (s : FS) (tm : Tr AV) (todo : List AIt) (df : List ADef) (ret : Bool) (cs : List AFr) (hp : Tr AO) (nx : Nat) (r : Option ARes) : AR :=
  match r with
  | none => .fail 2
  | some (.val v hp nx) => nextO (finishIt s tm df ret v todo) cs hp nx 3
  | some (.enter f args) => nextO (enterA P f args false) (⟨s, tm, todo, df, ret⟩ :: cs) hp nx 4
  | some (.round l args) => nextO (roundA hp l args) (⟨s, tm, todo, df, ret⟩ :: cs) hp nx 5
  | some (.defer d) => match s.rnd with
    | none => nextO (finishIt s tm (d :: df) ret undefA todo) cs hp nx 6
    | some _ => .fail 37
  | some .recover => recoverA s tm todo df ret cs hp nx

def consO {α : Type} (x : Option α) (l : Option (List α)) : Option (List α) :=
  match x, l with
  | some x, some l => some (x :: l)
  | _, _ => none

def resultA (P : Program) (hp : Tr AO) (tm : Tr AV) : ResultVar → Option AV
  | .tmp t => tm.get t
  | .cell a t => match tm.get a with
    | some (.ptr (some (b, off))) => loadA P t hp b off
    | _ => none

def resultsA (P : Program) (hp : Tr AO) (tm : Tr AV) (l : List ResultVar) : Option (List AV) := mapO (resultA P hp tm) l

def oneOf : List AV → AV
  | [v] => v
  | l => .tuple l

def leavePut (dfd : Bool) (cs : List AFr) (nx : Nat) (jump : Option Code) (hp : Option (Tr AO)) : AR :=
  match hp with
  | some hp => returnA dfd cs hp nx (.bool jump.isNone)
  | none => .fail 34

/-- The frame leaves a round of a range over a function. -/
def leaveLoop (dfd : Bool) (cs : List AFr) (hp : Tr AO) (nx : Nat) (l : Nat) (jump : Option Code) (o : Option AO) : AR :=
  match o with
  | some (.loop r) =>
    leavePut dfd cs nx jump (putH hp l (.loop { r with state := if jump.isNone then .ready else .done, pending := jump }))
  | _ => .fail 10

/-- The frame's code has come to its end, to a return, or to a way out. -/
def leaveA (s : FS) (tm : Tr AV) (todo : List AIt) (df : List ADef) (cs : List AFr) (hp : Tr AO) (nx : Nat) (jump : Option Code) : AR :=
  match s.rnd with
  | none => .next ⟨⟨s, tm, todo, df, true⟩, cs, hp, nx⟩
  | some l => leaveLoop s.dfd cs hp nx l jump (hp.get l)

def putThen (fr : AFr) (cs : List AFr) (nx : Nat) (hp : Option (Tr AO)) : AR :=
  match hp with
  | some hp => .next ⟨fr, cs, hp, nx⟩
  | none => .fail 35

def takeDefers (s : FS) (tm : Tr AV) (todo : List AIt) (ds : List ADef) (cs : List AFr) (hp : Tr AO) (nx r : Nat) (o : Option AO) : AR :=
  match o with
  | some (.deferred (some l)) => putThen ⟨s, tm, todo, l ++ ds, true⟩ cs nx (putH hp r (.deferred none))
  | _ => .fail 11

def deferredA (P : Program) (c : AFr) (cs : List AFr) (hp : Tr AO) (nx : Nat) (r : Option ARes) : AR :=
  match r with
  | some (.enter f args) => nextO (enterA P f args true) (c :: cs) hp nx 12
  | _ => .fail 13

def returnO (dfd : Bool) (cs : List AFr) (hp : Tr AO) (nx : Nat) (l : Option (List AV)) : AR :=
  match l with
  | some l => returnA dfd cs hp nx (oneOf l)
  | none => .fail 14

def resultsOf (P : Program) (f : FuncId) : Option (List ResultVar) :=
  match P.funcs[f]? with
  | some fn => some fn.results.toList
  | none => none

def returnF (P : Program) (s : FS) (tm : Tr AV) (cs : List AFr) (hp : Tr AO) (nx : Nat) (rs : Option (List ResultVar)) : AR :=
  match rs with
  | some rs => returnO s.dfd cs hp nx (resultsA P hp tm rs)
  | none => .fail 15

def unwindA (P : Program) (X : Nat → Option XK) (s : FS) (tm : Tr AV) (todo : List AIt) (df : List ADef) (cs : List AFr) (hp : Tr AO) (nx : Nat) : AR :=
  match df with
  | .collected r :: ds => takeDefers s tm todo ds cs hp nx r (hp.get r)
  | .call fn captured args :: ds => deferredA P ⟨s, tm, todo, ds, true⟩ cs hp nx (invokeA P X fn captured args hp nx)
  | [] => returnF P s tm cs hp nx (resultsOf P s.fn)

def sameVal (u v : Option AV) : Bool :=
  match u, v with
  | some u, some v => avEq u v
  | _, _ => false

def valOf (r : Option ARes) : Option AV :=
  match r with
  | some (.val v _ _) => some v
  | _ => none

def getO {α : Type} (t : Tr α) (d : Option Nat) : Option α :=
  match d with
  | some d => t.get d
  | none => none

def checkOne (P : Program) (X : Nat → Option XK) (tm : Tr AV) (hp : Tr AO) (nx : Nat) (ops : List Oper) (o : Oper) : Bool :=
  match wantedA ops tm o with
  | some true => sameVal (getO tm o.dst) (valOf (aop P X tm o hp nx))
  | some false => true
  | none => false

def checkA (P : Program) (X : Nat → Option XK) (tm : Tr AV) (hp : Tr AO) (nx : Nat) (ops : List Oper) : List Nat → Bool
  | [] => true
  | i :: l => (match nth ops i with
    | some o => checkOne P X tm hp nx ops o
    | none => false) && checkA P X tm hp nx ops l

def stepOp (P : Program) (X : Nat → Option XK) (s : FS) (tm : Tr AV) (todo : List AIt) (df : List ADef) (cs : List AFr) (hp : Tr AO) (nx : Nat) (o : Oper) (w : Option Bool) : AR :=
  match w with
  | some true => applyA P s tm todo df false cs hp nx (aop P X tm o hp nx)
  | some false => nextO (finishIt s tm df false undefA todo) cs hp nx 22
  | none => .fail 23

def toA (s : FS) (tm : Tr AV) (df : List ADef) (cs : List AFr) (hp : Tr AO) (nx : Nat) (k : List AIt) : AR := .next ⟨⟨s, tm, k, df, false⟩, cs, hp, nx⟩

def toO (s : FS) (tm : Tr AV) (df : List ADef) (cs : List AFr) (hp : Tr AO) (nx : Nat) (why : Nat) (k : Option (List AIt)) : AR :=
  match k with
  | some k => toA s tm df cs hp nx k
  | none => .fail why

def stepCond (s : FS) (tm : Tr AV) (df : List ADef) (cs : List AFr) (hp : Tr AO) (nx : Nat) (k : List AIt) (thn els : Code) (c : Option AV) : AR :=
  match c with
  | some (.bool b) => match b with
    | true => toA s tm df cs hp nx (.code thn :: k)
    | false => toA s tm df cs hp nx (.code els :: k)
  | _ => .fail 16

def stepExit (s : FS) (tm : Tr AV) (todo : List AIt) (df : List ADef) (cs : List AFr) (hp : Tr AO) (nx : Nat) (id : Nat) (k : Option (List AIt)) : AR :=
  match k with
  | some k => toA s tm df cs hp nx k
  | none => match s.rnd with
    | none => .fail 17
    | some _ => leaveA s tm todo df cs hp nx (some (.exit id))

def stepRegion (P : Program) (s : FS) (tm : Tr AV) (df : List ADef) (cs : List AFr) (hp : Tr AO) (nx : Nat) (k : List AIt) (ops : List Oper) (draw : Bool) : AR :=
  match draw with
  | true => match goodActs P ops (acts P ops) with
    | true => toA s tm df cs hp nx (.drw ops (acts P ops) :: k)
    | false => .fail 36
  | false => toA s tm df cs hp nx (.reg ops ops :: k)

/-- Where a loop over a function keeps what is deferred in its rounds. -/
def loopDefers (rnd : Option Nat) (hp : Tr AO) (nx : Nat) : Option (Nat × List ADef × Tr AO × Nat) :=
  match rnd with
  | some l => match hp.get l with
    | some (.loop r) => some (r.defers, [], hp, nx)
    | _ => none
  | none => some (nx, [.collected nx], hp.set nx (.deferred (some [])), nx + 1)

def rangeIn (P : Program) (s : FS) (tm : Tr AV) (df : List ADef) (cs : List AFr) (k : List AIt) (params : List Tmp) (assign body : Code) (g : FuncId) (first captured : List AV) (d : Option (Nat × List ADef × Tr AO × Nat)) : AR :=
  match d with
  | some (defers, mark, hp, nx) =>
    nextO (enterA P g (first ++ (.func (.yield nx) [] [] :: captured)) false) (⟨s, tm, .inRangeFunc nx :: k, mark ++ df, false⟩ :: cs)
      (hp.set nx (.loop { state := .ready, pending := none, fn := s.fn, nt := s.nt, tm := tm, params := params, assign, body, defers })) (nx + 1) 20
  | none => .fail 19

def stepRange (P : Program) (s : FS) (tm : Tr AV) (df : List ADef) (cs : List AFr) (hp : Tr AO) (nx : Nat) (k : List AIt) (params : List Tmp) (assign body : Code) (f : Option AV) : AR :=
  match f with
  | some (.func (.func g) first captured) => rangeIn P s tm df cs k params assign body g first captured (loopDefers s.rnd hp nx)
  | _ => .fail 20

def stepCode (P : Program) (s : FS) (tm : Tr AV) (df : List ADef) (cs : List AFr) (hp : Tr AO) (nx : Nat) (k : List AIt) : Code → AR
  | .ret => leaveA s tm (.code .ret :: k) df cs hp nx (some .ret)
  | .skip => toA s tm df cs hp nx k
  | .label _ => toA s tm df cs hp nx k
  | .seq a b => toA s tm df cs hp nx (.code a :: .code b :: k)
  | .cond c thn els => stepCond s tm df cs hp nx k thn els (ev tm c)
  | .block id body => toA s tm df cs hp nx (.code body :: .inBlock id :: k)
  | .loop body => toA s tm df cs hp nx (.code body :: .inLoop body :: k)
  | .scope body => toA s tm df cs hp nx (.code body :: .inScope body :: k)
  | .exit id => stepExit s tm (.code (.exit id) :: k) df cs hp nx id (exitA id k)
  | .goto l => toO s tm df cs hp nx 18 (gotoA l k)
  | .region _ ops draw => stepRegion P s tm df cs hp nx k ops.toList draw
  | .rangeFunc f params assign body => stepRange P s tm df cs hp nx k params.toList assign body (ev tm f)
  | .refuse _ => .fail 21

def isBusy : LoopState → Bool
  | .busy => true
  | _ => false

def isReady : LoopState → Bool
  | .ready => true
  | _ => false

def endRange (s : FS) (tm : Tr AV) (df : List ADef) (cs : List AFr) (hp : Tr AO) (nx : Nat) (k : List AIt) (l : Nat) (o : Option AO) : AR :=
  match o with
  | some (.loop r) => match isBusy r.state with
    | true => .fail 29
    | false => putThen ⟨s, tm, (match r.pending with | some c => .code c :: k | none => k), df, false⟩ cs nx (putH hp l (.loop { r with state := .exhausted }))
  | _ => .fail 30

def beginIt (s : FS) (tm : Tr AV) (df : List ADef) (cs : List AFr) (hp : Tr AO) (nx : Nat) (k : List AIt) (l : Nat) (o : Option AO) : AR :=
  match o with
  | some (.loop r) => match isReady r.state with
    | true => putThen ⟨s, tm, k, df, false⟩ cs nx (putH hp l (.loop { r with state := .busy }))
    | false => .fail 31
  | _ => .fail 32

def stepReg (P : Program) (X : Nat → Option XK) (s : FS) (tm : Tr AV) (df : List ADef) (cs : List AFr) (hp : Tr AO) (nx : Nat) (k : List AIt) (ops : List Oper) : List Oper → AR
  | [] => toA s tm df cs hp nx k
  | o :: rest => stepOp P X s tm (.reg ops (o :: rest) :: k) df cs hp nx o (wantedA ops tm o)

/-- The next block is not there yet. -/
def freshAt (hp : Tr AO) (nx : Nat) : Bool :=
  match hp.get nx with
  | none => true
  | some _ => false

def stepDrw (P : Program) (X : Nat → Option XK) (s : FS) (tm : Tr AV) (df : List ADef) (cs : List AFr) (hp : Tr AO) (nx : Nat) (k : List AIt) (ops : List Oper) : List Ac → AR
  | [] => toA s tm df cs hp nx k
  | .ck ls :: rest => match checkA P X tm hp nx ops ls with
    | true => toA s tm df cs hp nx (.drw ops rest :: k)
    | false => .fail 24
  | .ex i :: rest => match nth ops i, freshAt hp nx with
    | some o, true => stepOp P X s tm (.drw ops (.ex i :: rest) :: k) df cs hp nx o (wantedA ops tm o)
    | _, _ => .fail 27

def stepBegin (s : FS) (tm : Tr AV) (df : List ADef) (cs : List AFr) (hp : Tr AO) (nx : Nat) (k : List AIt) (l : Option Nat) : AR :=
  match l with
  | some l => beginIt s tm df cs hp nx k l (hp.get l)
  | none => .fail 33

def stepIt (P : Program) (X : Nat → Option XK) (s : FS) (tm : Tr AV) (df : List ADef) (cs : List AFr) (hp : Tr AO) (nx : Nat) : List AIt → AR
  | [] => leaveA s tm [] df cs hp nx none
  | .code c :: k => stepCode P s tm df cs hp nx k c
  | .inBlock _ :: k => toA s tm df cs hp nx k
  | .inScope _ :: k => toA s tm df cs hp nx k
  | .inLoop body :: k => toA s tm df cs hp nx (.code body :: .inLoop body :: k)
  | .reg ops r :: k => stepReg P X s tm df cs hp nx k ops r
  | .drw ops r :: k => stepDrw P X s tm df cs hp nx k ops r
  | .inRangeFunc _ :: _ => .fail 28
  | .endRangeFunc l :: k => endRange s tm df cs hp nx k l (hp.get l)
  | .beginRound :: k => stepBegin s tm df cs hp nx k s.rnd

def astep (P : Program) (X : Nat → Option XK) (s : ASt) : AR :=
  match s with
  | ⟨⟨s, tm, todo, df, ret⟩, cs, hp, nx⟩ => match ret with
    | true => unwindA P X s tm todo df cs hp nx
    | false => stepIt P X s tm df cs hp nx todo

/-- 2^n steps. -/
def runP (P : Program) (X : Nat → Option XK) : Nat → ASt → AR
  | 0, s => astep P X s
  | n + 1, s => match runP P X n s with
    | .next s' => runP P X n s'
    | .done v => .done v
    | .fail w => .fail w

end Va

/-
  VA: operations that only compute a value, and those that read memory.
-/
namespace Va
open Go Go.RowKit

variable {P : Program} {env : Nat → Value} {W0 : World} {ρ : Rho} {hp : Tr AO} {nx : Nat} {w : World}

theorem binA_sound {op : BinOp} {t : TypeId} {x y : Operand} {a b v : AV} {a' b' : Value} (ha : VR env ρ a a') (hb : VR env ρ b b') (h : binA P op t x y a b = some v) :
    Comes1 P env ρ w v (do eqGuard op t x y a' b'; binOp op t a' b') := by
  unfold binA at h
  split at h
  · rename_i k m j n
    cases ha; cases hb
    have hg : (eqGuard op t x y (.int k m) (.int j n)).run P w = .ok () w := by cases op <;> rfl
    split at h
    · rename_i hk
      have : Comes1 P env ρ w v (binOp op t (.int k m) (.int j n)) := by
        cases hs : isShift op with
        | true => exact shift_sound hs h t
        | false =>
          rw [hs, Bool.false_or] at hk
          obtain rfl := kEq_eq hk
          exact intBin_sound h t
      obtain ⟨v', h1, h2⟩ := this
      exact ⟨v', by simp [hg, h1], h2⟩
    · cases h
  · rename_i m n
    cases ha with
    | str s => cases hb with
      | str u =>
        have hg : (eqGuard op t x y (.string s) (.string u)).run P w = .ok () w := by cases op <;> rfl
        obtain ⟨v', h1, h2⟩ := strBin_sound (P := P) (env := env) (ρ := ρ) (w := w) h t
        exact ⟨v', by simp [hg, h1], h2⟩
  · rename_i hn1 hn2
    have key : ∀ r, eqlB P t x y a b = some r → (binOp .eql t a' b').run P w = .ok (.bool r) w ∧ (binOp .neq t a' b').run P w = .ok (.bool (!r)) w := by
      intro r hr
      obtain ⟨h1, _⟩ := eqlB_sound (w := w) ha hb hr
      have hne : ∀ o, o = BinOp.eql ∨ o = BinOp.neq → binOp o t a' b' = (if o = .eql then (do pure (.bool (← Op.equal t a' b'))) else (do pure (.bool (!(← Op.equal t a' b'))))) := by
        intro o ho
        have hbad : eqlB P t x y a b ≠ none := by rw [hr]; simp
        have hform : fitsEq P t x y a b = true := by
          unfold eqlB at hr; split at hr
          · assumption
          · cases hr
        unfold fitsEq at hform
        split at hform <;> first | (cases hform; done) | skip
        all_goals (cases ha <;> cases hb <;> rcases ho with rfl | rfl <;> rfl)
      constructor
      · rw [hne _ (.inl rfl)]; simp [h1]
      · rw [hne _ (.inr rfl)]; simp [h1]
    split at h
    · cases hr : eqlB P t x y a b with
      | none => simp [hr, boolO] at h
      | some r =>
        simp only [hr, boolO, Option.some.injEq] at h
        subst h
        exact ⟨_, by simp [(eqlB_sound (w := w) ha hb hr).2 .eql, (key r hr).1], .bool _⟩
    · cases hr : eqlB P t x y a b with
      | none => simp [hr, negO, boolO] at h
      | some r =>
        simp only [hr, negO, boolO, Option.some.injEq] at h
        subst h
        exact ⟨_, by simp [(eqlB_sound (w := w) ha hb hr).2 .neq, (key r hr).2], .bool _⟩
    · cases h

/-- What an operation's own operands come to. -/
def EvOk (env : Nat → Value) (ρ : Rho) (tm : Tr AV) (a : Go.Act) (l : List Operand) : Prop := ∀ x ∈ l, ∀ v, ev tm x = some v → VR env ρ v (a.eval x)

theorem EvOk.evs {tm : Tr AV} {a : Go.Act} {l : List Operand} (h : EvOk env ρ tm a l) {r : List AV} (hr : evs tm l = some r) : VRs env ρ r (l.map a.eval) :=
  mapO_sound (fun x hx v hv => h x hx v hv) hr

theorem opPick_sound {tm : Tr AV} {a : Go.Act} {c x y : Operand} {v : AV} (hE : EvOk env ρ tm a [c, x, y]) (h : opPick tm c x y = some v) :
    Comes1 P env ρ w v (do pure (if ← asBool (a.eval c) then a.eval x else a.eval y)) := by
  unfold opPick at h
  split at h
  · rename_i hc
    have h1 := hE c (by simp) _ hc
    generalize a.eval c = c' at h1
    cases h1
    exact ⟨_, by simp [asBool], hE x (by simp) _ h⟩
  · rename_i hc
    have h1 := hE c (by simp) _ hc
    generalize a.eval c = c' at h1
    cases h1
    exact ⟨_, by simp [asBool], hE y (by simp) _ h⟩
  · cases h

theorem opLoad_sound (I : Inv env W0 ρ hp nx w) {tm : Tr AV} {a : Go.Act} {t : TypeId} {x : Operand} {v : AV} (hE : EvOk env ρ tm a [x]) (h : opLoad P tm t x hp = some v) :
    Comes1 P env ρ w v (Instr.loadAt t (a.eval x)) := by
  unfold opLoad at h
  split at h
  · rename_i b off hx
    have h1 := hE x (by simp) _ hx
    generalize a.eval x = x' at h1
    cases h1 with
    | ptr e =>
      obtain ⟨v', h2, h3⟩ := loadA_sound (P := P) I h e
      exact ⟨v', by simp [Instr.loadAt, Instr.sureAddr, h2], h3⟩
  · cases h

theorem opNilCheck_sound {tm : Tr AV} {a : Go.Act} {o : Oper} {x : Operand} {v : AV} (ho : o.op = .nilCheck x) (hE : EvOk env ρ tm a [x]) (h : opNilCheck tm x = some v) :
    ∃ v', (execOp a.eval o).run P w = .ok (.value v') w ∧ VR env ρ v v' := by
  unfold opNilCheck at h
  split at h
  · rename_i hx
    cases h
    have h1 := hE x (by simp) _ hx
    have e : ∃ x', a.eval x = x' := ⟨_, rfl⟩
    obtain ⟨x', e⟩ := e
    rw [e] at h1
    cases h1 with
    | ptr e1 => exact ⟨_, by simp [execOp, ho, e], .ptr e1⟩
  · rename_i hx
    cases h
    have h1 := hE x (by simp) _ hx
    have e : ∃ x', a.eval x = x' := ⟨_, rfl⟩
    obtain ⟨x', e⟩ := e
    rw [e] at h1
    cases h1 with
    | func f r s => cases f with
      | func g => exact ⟨_, by simp only [execOp, ho, e]; rfl, .func (.func _) r s⟩
  · rename_i hx
    cases h
    have h1 := hE x (by simp) _ hx
    have e : ∃ x', a.eval x = x' := ⟨_, rfl⟩
    obtain ⟨x', e⟩ := e
    rw [e] at h1
    cases h1 with
    | iface t r => exact ⟨_, by simp only [execOp, ho, e]; rfl, .iface _ r⟩
  · cases h

theorem opMakeIface_sound {tm : Tr AV} {a : Go.Act} {t : TypeId} {x : Operand} {v : AV} (hE : EvOk env ρ tm a [x]) (h : opMakeIface P tm t x = some v) :
    Comes1 P env ρ w v (Instr.makeInterface t (a.eval x)) := by
  unfold opMakeIface at h
  split at h
  · rename_i a' d hx hu
    split at h
    · cases h
    · rename_i hd
      cases h
      refine ⟨_, ?_, .iface t (hE x (by simp) _ hx)⟩
      simp only [Instr.makeInterface, Sem.run_bind, run_underlying hu, Result.andThen_ok]
      rfl
  · cases h

theorem opMakeFunc_sound {tm : Tr AV} {a : Go.Act} {fn : Fn} {first captured : Array Operand} {v : AV} (hE : EvOk env ρ tm a (first ++ captured).toList) (h : opMakeFunc tm fn first.toList captured.toList = some v) :
    Comes1 P env ρ w v (Instr.makeFunc fn (first.map a.eval) (captured.map a.eval)) := by
  unfold opMakeFunc at h
  split at h
  · rename_i l r hp h1 h2
    cases h
    have e1 := (show EvOk env ρ tm a first.toList from fun x hx => hE x (by simp at hx ⊢; exact .inl hx)).evs h1
    have e2 := (show EvOk env ρ tm a captured.toList from fun x hx => hE x (by simp at hx ⊢; exact .inr hx)).evs h2
    have hf : FnR ρ fn fn := by cases fn <;> simp [plainFn] at hp <;> constructor
    exact ⟨_, rfl, .func hf (by simpa using e1) (by simpa using e2)⟩
  · cases h

theorem fields_get {t : TypeId} {fs : List Field} (h : fieldsOf P t = some fs) : ∃ a : Array Field, P.underlying t = some (.struct a) ∧ fs = a.toList := by
  unfold fieldsOf at h
  split at h
  · rename_i a hu; cases h; exact ⟨a, hu, rfl⟩
  · cases h

theorem opFieldAddr_sound {tm : Tr AV} {a : Go.Act} {t : TypeId} {x : Operand} {i : Nat} {v : AV} (hE : EvOk env ρ tm a [x]) (h : opFieldAddr P tm t x i = some v) :
    Comes1 P env ρ w v (Instr.fieldAt t (a.eval x) i) := by
  unfold opFieldAddr at h
  split at h
  · rename_i b off fs hx hf
    obtain ⟨fa, hu, rfl⟩ := fields_get hf
    have h1 := hE x (by simp) _ hx
    generalize a.eval x = x' at h1
    cases h1 with
    | ptr e =>
      unfold fieldAddrA at h
      split at h
      · rename_i f hn
        rw [nth_eq] at hn
        split at h
        · rename_i n hs
          split at h
          · cases h
          · rename_i hz
            cases h
            have hz' : n ≠ 0 := by intro e; subst e; simp at hz
            refine ⟨_, ?_, .ptr e⟩
            have hn' : fa[i]? = some f := by simpa using hn
            simp [Instr.fieldAt, run_underlying hu, hn', Instr.sureAddr, fieldPlace, run_sizeOf hs, hz']
            rw [addr_add]
        · cases h
      · cases h
  · cases h

theorem partA_sound {t : TypeId} {cs : List AV} {ca : Array Value} {off : Nat} {v : AV} (hc : VRs env ρ cs ca.toList) (h : partA P t cs off = some v) :
    Comes1 P env ρ w v (part t ca off) := by
  unfold partA at h
  split at h
  · rename_i n ha hs
    split at h
    · rename_i l hl
      cases h
      refine ⟨.agg (ca.extract off (off + n)), by simp [part, run_isAgg ha, run_sizeOf hs], .agg ?_⟩
      obtain ⟨rfl, hlen⟩ := takeN_some _ _ _ hl
      rw [dropN_eq]
      have : (ca.extract off (off + n)).toList = (ca.toList.drop off).take n := by
        simp [Array.toList_extract, List.extract_eq_take_drop]
      rw [this]
      exact (hc.drop off).take n
    · cases h
  · rename_i ha
    rw [nth_eq] at h
    obtain ⟨v', h1, h2⟩ := hc.get h
    exact ⟨v', run_part_plain ha (by simpa using h1), h2⟩
  · cases h

theorem opField_sound {tm : Tr AV} {a : Go.Act} {t : TypeId} {x : Operand} {i : Nat} {v : AV} (hE : EvOk env ρ tm a [x]) (h : opField P tm t x i = some v) :
    Comes1 P env ρ w v (Instr.field t (a.eval x) i) := by
  unfold opField at h
  split at h
  · rename_i cs fs hx hf
    obtain ⟨fa, hu, rfl⟩ := fields_get hf
    have h1 := hE x (by simp) _ hx
    generalize a.eval x = x' at h1
    cases h1 with
    | agg r =>
      split at h
      · rename_i f hn
        rw [nth_eq] at hn
        have hn' : fa[i]? = some f := by simpa using hn
        obtain ⟨v', h2, h3⟩ := partA_sound (P := P) (w := w) r h
        exact ⟨v', by simp [Instr.field, run_underlying hu, hn', asAgg, h2], h3⟩
      · cases h
  · cases h

theorem mul_add_base (k b o i s : Nat) : Addr.add ⟨k, b + o, none⟩ (i * s) = ⟨k, b + (o + i * s), none⟩ := addr_add _ _ _ _

theorem opIndexAddr_sound {tm : Tr AV} {a : Go.Act} {t : TypeId} {x ix : Operand} {v : AV} (hE : EvOk env ρ tm a [x, ix]) (h : opIndexAddr P tm t x ix = some v) :
    Comes1 P env ρ w v (Instr.indexAt t (a.eval x) (a.eval ix)) := by
  unfold opIndexAddr at h
  split at h
  · rename_i xv k i hx hi
    have h1 := hE x (by simp) _ hx
    have h2 := hE ix (by simp) _ hi
    generalize a.eval x = x' at h1
    generalize a.eval ix = i' at h2
    cases h2
    unfold indexAddrA at h
    split at h
    · rename_i e b off n c ex sz hu
      cases h1 with
      | slice e1 _ _ _ =>
        split at h
        · rename_i size hs
          split at h
          · rename_i hlt
            cases h
            simp only [Bool.and_eq_true] at hlt
            have hlt1 : i < n := by have := hlt.1; rwa [Nat.blt_eq] at this
            refine ⟨_, ?_, .ptr e1⟩
            simp [Instr.indexAt, asIntOf, run_underlying hu, run_sizeOf hs, hlt1, mul_add_base]
          · cases h
        · cases h
      | sliceAny e1 =>
        split at h
        · split at h
          · rename_i hlt; simp [Nat.blt] at hlt
          · cases h
        · cases h
    · rename_i n e b off hu
      cases h1 with
      | ptr e1 =>
        split at h
        · rename_i size hs
          split at h
          · rename_i hlt
            cases h
            have hlt1 : i < n := by rwa [Nat.blt_eq] at hlt
            refine ⟨_, ?_, .ptr e1⟩
            simp [Instr.indexAt, asIntOf, run_underlying hu, Instr.sureAddr, run_sizeOf hs, hlt1, mul_add_base]
          · cases h
        · cases h
    · cases h
  · cases h

theorem bytes_get {s : ByteArray} {i b : Nat} (h : (bytesOfA s)[i]? = some b) : ∃ c : UInt8, s[i]? = some c ∧ b = c.toNat := by
  simp only [bytesOfA, List.getElem?_map, Option.map_eq_some_iff] at h
  obtain ⟨c, h1, h2⟩ := h
  refine ⟨c, ?_, h2.symm⟩
  rw [Array.getElem?_toList] at h1
  obtain ⟨hlt, h3⟩ := Array.getElem?_eq_some_iff.1 h1
  have hlt' : i < s.size := hlt
  rw [getElem?_pos s i hlt']
  exact congrArg some h3

theorem opIndex_sound {tm : Tr AV} {a : Go.Act} {t : TypeId} {x ix : Operand} {v : AV} (hE : EvOk env ρ tm a [x, ix]) (h : opIndex P tm t x ix = some v) :
    Comes1 P env ρ w v (Instr.index t (a.eval x) (a.eval ix)) := by
  unfold opIndex at h
  split at h
  · rename_i xv k i hx hi
    have h1 := hE x (by simp) _ hx
    have h2 := hE ix (by simp) _ hi
    generalize a.eval x = x' at h1
    generalize a.eval ix = i' at h2
    cases h2
    unfold indexA at h
    split at h
    · rename_i l hu
      split at h
      · rename_i b hb
        cases h
        cases h1 with
        | str s =>
          rw [nth_eq] at hb
          obtain ⟨c, h3, rfl⟩ := bytes_get hb
          exact ⟨_, by simp [Instr.index, asIntOf, run_underlying hu, h3], .int _ _⟩
      · cases h
    · rename_i n e cs hu
      cases h1 with
      | agg r =>
        split at h
        · rename_i size hs
          split at h
          · rename_i hlt
            have hlt1 : i < n := by rwa [Nat.blt_eq] at hlt
            obtain ⟨v', h3, h4⟩ := partA_sound (P := P) (w := w) r h
            exact ⟨v', by simp [Instr.index, asIntOf, run_underlying hu, run_sizeOf hs, hlt1, h3], h4⟩
          · cases h
        · cases h
    · cases h
  · cases h

theorem opExtract_sound {tm : Tr AV} {a : Go.Act} {x : Operand} {i : Nat} {v : AV} (hE : EvOk env ρ tm a [x]) (h : opExtract tm x i = some v) :
    Comes1 P env ρ w v (Instr.extract (a.eval x) i) := by
  unfold opExtract at h
  split at h
  · rename_i vs hx
    have h1 := hE x (by simp) _ hx
    generalize a.eval x = x' at h1
    cases h1 with
    | tuple r =>
      rename_i cs
      rw [nth_eq] at h
      obtain ⟨v', h2, h3⟩ := r.get h
      have h2' : cs[i]? = some v' := by simpa using h2
      exact ⟨v', by simp [Instr.extract, h2'], h3⟩
  · cases h

theorem opUn_sound {tm : Tr AV} {a : Go.Act} {op : UnOp} {x : Operand} {v : AV} (hE : EvOk env ρ tm a [x]) (h : opUn tm op x = some v) :
    Comes1 P env ρ w v (Op.unary op (a.eval x)) := by
  unfold opUn at h
  split at h
  · rename_i a' hx; exact unA_sound h (hE x (by simp) _ hx)
  · cases h

theorem opBin_sound {tm : Tr AV} {a : Go.Act} {op : BinOp} {t : TypeId} {x y : Operand} {v : AV} (hE : EvOk env ρ tm a [x, y]) (h : opBin P tm op t x y = some v) :
    Comes1 P env ρ w v (do eqGuard op t x y (a.eval x) (a.eval y); binOp op t (a.eval x) (a.eval y)) := by
  unfold opBin at h
  split at h
  · rename_i a' b' hx hy; exact binA_sound (hE x (by simp) _ hx) (hE y (by simp) _ hy) h
  · cases h

end Va

/-
  VA: slicing, type assertions, composite values.
-/
namespace Va
open Go Go.RowKit

variable {P : Program} {env : Nat → Value} {W0 : World} {ρ : Rho} {hp : Tr AO} {nx : Nat} {w : World}

inductive OpR (env : Nat → Value) (ρ : Rho) : Option AV → Option Value → Prop
  | none : OpR env ρ none none
  | some {v : AV} {v' : Value} : VR env ρ v v' → OpR env ρ (some v) (some v')

theorem evO_sound {tm : Tr AV} {a : Go.Act} {x : Option Operand} {r : Option AV} (hE : EvOk env ρ tm a x.toList) (h : evO tm x = some r) : OpR env ρ r (x.map a.eval) := by
  cases x with
  | none => simp only [evO, Option.some.injEq] at h; subst h; exact .none
  | some x =>
    simp only [evO] at h
    split at h
    · rename_i v hv; cases h; exact .some (hE x (by simp) _ hv)
    · cases h

theorem bound_sound {x : AV} {x' : Value} {y n y' : Nat} {code : BoundsCode} (hx : VR env ρ x x') (h : bound x y = some n) (hy : y ≤ y') :
    (Instr.sliceBound x' y' code).run P w = .ok n w ∧ n ≤ y := by
  unfold bound at h
  split at h
  · split at h
    · rename_i hb
      cases h
      cases hx
      have := Nat.le_of_ble_eq_true hb
      refine ⟨?_, this⟩
      simp [Instr.sliceBound, asIntOf, show n ≤ y' by omega]
    · cases h
  · cases h

theorem boundsA_sound {isSlice : Bool} {len cap cap' : Nat} {low high max : Option AV} {low' high' max' : Option Value} {l h m : Nat}
    (hl : OpR env ρ low low') (hh : OpR env ρ high high') (hm : OpR env ρ max max') (hc : cap ≤ cap') (hb : boundsA len cap low high max = some (l, h, m)) :
    ∃ m', (Instr.sliceBounds isSlice len cap' low' high' max').run P w = .ok (l, h, m') w ∧ l ≤ h ∧ h ≤ m ∧ m ≤ m' ∧ m' ≤ cap' ∧ (max.isSome = true → m' = m) ∧ (cap' = cap → m' = m) := by
  unfold boundsA at hb
  split at hb
  · rename_i m0 hmh hm0
    split at hb
    · rename_i h0 hh0
      split at hb
      · rename_i l0 hl0
        simp only [Option.some.injEq, Prod.mk.injEq] at hb
        obtain ⟨rfl, rfl, rfl⟩ := hb
        have hlow : ∀ code, (match low' with | some v => Instr.sliceBound v h0 code | none => pure 0).run P w = .ok l0 w ∧ l0 ≤ h0 := by
          intro code
          cases hl with
          | none =>
            simp only [boundOr] at hl0
            split at hl0
            · cases hl0; exact ⟨rfl, Nat.zero_le _⟩
            · cases hl0
          | some hv => exact bound_sound hv hl0 (Nat.le_refl _)
        cases hm with
        | none =>
          simp only [boundOr, Nat.ble_eq_true_of_le (Nat.le_refl cap), Option.some.injEq] at hm0
          subst hm0
          cases hh with
          | none =>
            simp only [boundOr] at hh0
            split at hh0
            · rename_i hle
              cases hh0
              have := Nat.le_of_ble_eq_true hle
              refine ⟨cap', ?_, (hlow .sliceB).2, this, hc, Nat.le_refl _, by simp, fun e => e⟩
              have := (hlow .sliceB).1
              cases hl <;> simp_all [Instr.sliceBounds]
            · cases hh0
          | some hv =>
            obtain ⟨h1, h2⟩ := bound_sound (P := P) (w := w) (code := if isSlice then .sliceAcap else .sliceAlen) hv hh0 hc
            refine ⟨cap', ?_, (hlow .sliceB).2, h2, hc, Nat.le_refl _, by simp, fun e => e⟩
            have := (hlow .sliceB).1
            cases hl <;> simp_all [Instr.sliceBounds]
        | some hmv =>
          obtain ⟨h3, h4⟩ := bound_sound (P := P) (w := w) (code := if isSlice then .slice3Acap else .slice3Alen) hmv hm0 hc
          cases hh with
          | none => simp at hmh
          | some hv =>
            obtain ⟨h1, h2⟩ := bound_sound (P := P) (w := w) (code := .slice3B) hv hh0 (Nat.le_refl m0)
            refine ⟨m0, ?_, (hlow .slice3C).2, h2, Nat.le_refl _, by omega, fun _ => rfl, fun _ => rfl⟩
            have := (hlow .slice3C).1
            cases hl <;> simp_all [Instr.sliceBounds]
      · cases hb
    · cases hb
  · cases hb

theorem bytes_extract (s : ByteArray) (l h : Nat) : bytesOfA (s.extract l h) = ((bytesOfA s).drop l).take (h - l) := by
  unfold bytesOfA
  rw [ByteArray.data_extract]
  simp [Array.toList_extract, List.extract_eq_take_drop, List.map_take, List.map_drop]

theorem sliceA_sound {t : TypeId} {x v : AV} {x' : Value} {low high max : Option AV} {low' high' max' : Option Value} (hx : VR env ρ x x')
    (hl : OpR env ρ low low') (hh : OpR env ρ high high') (hm : OpR env ρ max max') (h : sliceA P t x low high max = some v) :
    Comes1 P env ρ w v (Instr.sliceAt t x' low' high' max') := by
  unfold sliceA at h
  split at h
  · rename_i s hu
    cases hx with
    | str s =>
      split at h
      · cases h
      · cases hm
        unfold sliceStr at h
        split at h
        · rename_i l hh2 m hb
          obtain ⟨m', h1, h2, h3, h4, _⟩ := boundsA_sound (P := P) (w := w) (isSlice := false) hl hh .none (Nat.le_refl _) hb
          split at h
          · rename_i r hr
            cases h
            obtain ⟨rfl, _⟩ := takeN_some _ _ _ hr
            rw [dropN_eq, ← bytes_extract]
            refine ⟨_, ?_, .str _⟩
            rw [bytes_len] at h1
            simp [Instr.sliceAt, Instr.slice, run_underlying hu, h1]
          · cases h
        · cases h
  · rename_i elem a len cap ex sz hu
    split at h
    · rename_i size hs
      split at h
      · rename_i ha
        unfold sliceSl at h
        split at h
        · rename_i l hh2 m hb
          cases hx with
          | sliceNil =>
            obtain ⟨m', h1, h2, h3, h4, h5, h6, h7⟩ := boundsA_sound (P := P) (w := w) (isSlice := true) hl hh hm (Nat.le_refl _) hb
            obtain rfl := h7 rfl
            have hrun : (Instr.sliceAt t (.slice none len cap) low' high' max').run P w = .ok (.slice none (hh2 - l) (m' - l)) w := by
              simp [Instr.sliceAt, Instr.slice, run_underlying hu, h1, run_sizeOf hs]
            split at h
            · cases h
              refine ⟨_, hrun, ?_⟩
              cases Nat.beq m' l
              · exact .sliceNil _ _ _ _
              · exact .sliceNil _ _ _ _
            · cases h
              exact ⟨_, hrun, .sliceNil _ _ _ _⟩
          | sliceAny e0 =>
            rename_i b o k p
            obtain ⟨m', h1, h2, h3, h4, h5, h6, h7⟩ := boundsA_sound (P := P) (w := w) (isSlice := true) hl hh hm (Nat.le_refl _) hb
            obtain rfl : l = 0 := by omega
            obtain rfl : hh2 = 0 := by omega
            obtain rfl : m = 0 := by omega
            obtain rfl : m' = 0 := by omega
            have hrun : (Instr.sliceAt t (.slice (some ⟨p.blk, k, none⟩) 0 0) low' high' max').run P w = .ok (.slice (some ⟨p.blk, k, none⟩) 0 0) w := by
              simp [Instr.sliceAt, Instr.slice, run_underlying hu, h1, run_sizeOf hs]
            refine ⟨_, hrun, ?_⟩
            split at h <;> cases h
            · exact .sliceAny e0
            · exact .sliceAny (o := o + 0 * size) e0
          | slice e0 e1 e2 e3 =>
            rename_i b o c' p
            obtain rfl : size = sz := by simpa [Nat.beq_eq] using ha
            obtain ⟨m', h1, h2, h3, h4, h5, h6, h7⟩ := boundsA_sound (P := P) (w := w) (isSlice := true) hl hh hm e2 hb
            have hroom : p.base + (o + l * size) + (m' - l) * size ≤ p.size := by
              have : l * size + (m' - l) * size = m' * size := by rw [← Nat.add_mul]; congr 1; omega
              have : m' * size ≤ c' * size := Nat.mul_le_mul_right _ h5
              omega
            have hrun : (Instr.sliceAt t (.slice (some ⟨p.blk, p.base + o, none⟩) len c') low' high' max').run P w =
                .ok (.slice (if m' = l then some ⟨p.blk, p.base + o, none⟩ else some ⟨p.blk, p.base + (o + l * size), none⟩) (hh2 - l) (m' - l)) w := by
              simp only [Instr.sliceAt, Instr.slice, Sem.run_bind, run_underlying hu, h1, run_sizeOf hs, Result.andThen_ok, Option.map_some, mul_add_base]
              rfl
            split at h
            · rename_i hex
              cases h
              have hmm : m' = m := by
                cases ex with
                | true => exact h7 (e1 rfl)
                | false => exact h6 (by simpa using hex)
              subst hmm
              refine ⟨_, hrun, ?_⟩
              by_cases hml : m' = l
              · rw [if_pos hml, beq_t hml]
                exact .slice e0 (fun _ => rfl) (Nat.le_refl _) (by rw [hml]; simp; omega)
              · rw [if_neg hml, beq_f hml]
                exact .slice e0 (fun _ => rfl) (Nat.le_refl _) hroom
            · rename_i hex
              cases h
              refine ⟨_, hrun, ?_⟩
              by_cases hml : m' = l
              · rw [if_pos hml]
                obtain rfl : hh2 = l := by omega
                obtain rfl : m = hh2 := by omega
                subst hml
                simp only [Nat.sub_self]
                exact .sliceAny e0
              · rw [if_neg hml]
                exact .slice e0 (fun e => by cases e) (by omega) hroom
        · cases h
      · cases h
    · cases h
  · cases h

theorem opSlice_sound {tm : Tr AV} {a : Go.Act} {t : TypeId} {x : Operand} {lo hi mx : Option Operand} {v : AV} (hE : EvOk env ρ tm a (x :: (lo.toList ++ hi.toList ++ mx.toList)))
    (h : opSlice P tm t x lo hi mx = some v) : Comes1 P env ρ w v (Instr.sliceAt t (a.eval x) (lo.map a.eval) (hi.map a.eval) (mx.map a.eval)) := by
  unfold opSlice at h
  split at h
  · rename_i xv l' h' m' hx h1 h2 h3
    exact sliceA_sound (hE x (by simp) _ hx) (evO_sound (fun y hy => hE y (by simp at hy; simp [hy])) h1) (evO_sound (fun y hy => hE y (by simp at hy; simp [hy])) h2)
      (evO_sound (fun y hy => hE y (by simp at hy; simp [hy])) h3) h
  · cases h

theorem zeroA_sound {t : TypeId} {z : AV} (h : zeroA P t = some z) : ∃ i v, P.info? t = some i ∧ i.zero = some v ∧ VR env ρ z v ∧ ∀ w, (zeroValue t).run P w = .ok v w := by
  unfold zeroA at h
  split at h
  · rename_i i hi
    split at h
    · rename_i v hv
      refine ⟨i, v, hi, hv, ofV_sound h, fun w => ?_⟩
      simp [zeroValue, run_typeInfo hi, hv]
    · cases h
  · cases h

theorem orZero_sound {t : TypeId} {ok : Bool} {v : AV} {s d : Option TypeId} {m : String} (h : orZero P t ok = some v) :
    ∃ v', (if ok then (do pure (.tuple #[← zeroValue t, .bool false]) : Sem Value) else runtimePanic (.typeAssertion s d t m)).run P w = .ok v' w ∧ VR env ρ v v' := by
  unfold orZero at h
  split at h
  · rename_i z hz
    cases h
    obtain ⟨i, z', _, _, h3, h4⟩ := zeroA_sound (env := env) (ρ := ρ) hz
    exact ⟨_, by simp [h4], .tuple (.cons h3 (.cons (.bool false) .nil))⟩
  · cases h

theorem opAssert_sound {tm : Tr AV} {a : Go.Act} {x : Operand} {t u : TypeId} {ok : Bool} {v : AV} (hE : EvOk env ρ tm a [x]) (h : opAssert P tm x t ok = some v) :
    Comes1 P env ρ w v (Instr.typeAssert (a.eval x) u t ok) := by
  unfold opAssert at h
  split at h
  · rename_i xv hx hn
    have h1 := hE x (by simp) _ hx
    generalize a.eval x = x' at h1
    unfold noIface at hn
    split at hn
    · cases hn
    · rename_i d hd hu
      unfold assertA at h
      split at h
      · rename_i t1 v1
        cases h1 with
        | iface _ r =>
          rename_i v1'
          split at h
          · rename_i ht
            obtain rfl := Nat.eq_of_beq_eq_true ht
            cases h
            refine ⟨if ok then .tuple #[v1', .bool true] else v1', ?_, ?_⟩
            · simp only [Instr.typeAssert, Sem.run_bind, run_underlying hu, Result.andThen_ok]
              cases d <;> first | exact absurd rfl (hd _) | (simp; done)
            · cases ok
              · exact r
              · exact .tuple (.cons r (.cons (.bool true) .nil))
          · rename_i ht
            have hne : t1 ≠ t := by intro e; subst e; simp at ht
            obtain ⟨v', h2, h3⟩ := orZero_sound (P := P) (env := env) (ρ := ρ) (w := w) (s := some u) (d := some t1) (m := "") h
            refine ⟨v', ?_, h3⟩
            rw [← h2]
            simp only [Instr.typeAssert, Sem.run_bind, run_underlying hu, Result.andThen_ok]
            cases d <;> first | exact absurd rfl (hd _) | (simp [hne]; done)
      · cases h1
        obtain ⟨v', h2, h3⟩ := orZero_sound (P := P) (env := env) (ρ := ρ) (w := w) (s := some u) (d := none) (m := "") h
        refine ⟨v', ?_, h3⟩
        rw [← h2]
        simp only [Instr.typeAssert, Sem.run_bind, run_underlying hu, Result.andThen_ok]
        try (cases d <;> first | exact absurd rfl (hd _) | rfl)
      · cases h
    · cases hn
  · cases h

end Va

/-
  VA: rows of cells: what is put into them; composite literals.
-/
namespace Va
open Go Go.RowKit

variable {P : Program} {env : Nat → Value} {W0 : World} {ρ : Rho} {hp : Tr AO} {nx : Nat} {w : World}

theorem putC_get {more : Bool} : ∀ {l : List AV} {off : Nat} {vs l' : List AV}, putC more l off vs = some l' →
    (∀ i, l'[i]? = if off ≤ i ∧ i < off + vs.length then vs[i - off]? else l[i]?) ∧ l'.length = max l.length (off + vs.length) ∧ off ≤ l.length ∧ (more = false → off + vs.length ≤ l.length)
  | l, 0, [], l', h => by
    have : l' = l := by cases l <;> (simp [putC] at h; first | exact h.symm | exact h)
    subst this
    exact ⟨fun i => by rw [if_neg (by simp)], by simp, by simp, by simp⟩
  | [], 0, v :: vs, l', h => by
    simp only [putC] at h
    split at h
    · rename_i hm
      cases h
      exact ⟨fun i => by
        by_cases hi : i < (v :: vs).length
        · rw [if_pos ⟨Nat.zero_le _, by omega⟩]; simp
        · rw [if_neg (by omega), List.getElem?_eq_none (by omega)]; simp, by simp, by simp, fun e => by rw [hm] at e; cases e⟩
    · cases h
  | x :: l, 0, v :: vs, l', h => by
    simp only [putC] at h
    split at h
    · rename_i r hr
      cases h
      obtain ⟨h1, h2, h3, h4⟩ := putC_get hr
      refine ⟨fun i => ?_, by simp only [List.length_cons, h2]; omega, by simp, fun e => by have := h4 e; simp only [List.length_cons] at this ⊢; omega⟩
      cases i with
      | zero => simp
      | succ i =>
        have := h1 i
        simp only [List.getElem?_cons_succ, List.length_cons, Nat.zero_le, true_and, Nat.zero_add, Nat.sub_zero] at this ⊢
        rw [this]
        by_cases hi : i < vs.length
        · rw [if_pos hi, if_pos (by omega)]
        · rw [if_neg hi, if_neg (by omega)]
    · cases h
  | x :: l, k + 1, vs, l', h => by
    simp only [putC] at h
    split at h
    · rename_i r hr
      cases h
      obtain ⟨h1, h2, h3, h4⟩ := putC_get hr
      refine ⟨fun i => ?_, by simp only [List.length_cons, h2]; omega, by simp only [List.length_cons]; omega, fun e => by have := h4 e; simp only [List.length_cons] at this ⊢; omega⟩
      cases i with
      | zero => rw [if_neg (by omega)]; simp
      | succ i =>
        have := h1 i
        simp only [List.getElem?_cons_succ] at this ⊢
        rw [this]
        by_cases hi : k ≤ i ∧ i < k + vs.length
        · rw [if_pos hi, if_pos (by omega), show i + 1 - (k + 1) = i - k by omega]
        · rw [if_neg hi, if_neg (by omega)]
    · cases h
  | [], k + 1, vs, l', h => by cases vs <;> simp [putC] at h

/-- The model's way of laying cells into an array. -/
theorem fold_get : ∀ (ws : List Value) (k off : Nat) (cs : Array Value),
    ((ws.zipIdx k).foldl (fun cs (c, j) => cs.setIfInBounds (off + j) c) cs).size = cs.size ∧
    ∀ i, ((ws.zipIdx k).foldl (fun cs (c, j) => cs.setIfInBounds (off + j) c) cs)[i]? = if off + k ≤ i ∧ i < off + k + ws.length ∧ i < cs.size then ws[i - (off + k)]? else cs[i]?
  | [], k, off, cs => ⟨rfl, fun i => by rw [if_neg (by simp; omega)]; rfl⟩
  | v :: ws, k, off, cs => by
    obtain ⟨h1, h2⟩ := fold_get ws (k + 1) off (cs.setIfInBounds (off + k) v)
    refine ⟨by simpa [List.zipIdx_cons] using h1, fun i => ?_⟩
    simp only [List.zipIdx_cons, List.foldl_cons]
    rw [h2 i]
    simp only [Array.size_setIfInBounds, Array.getElem?_setIfInBounds, List.length_cons]
    by_cases hi : off + k = i
    · subst hi
      rw [if_neg (by omega), if_pos rfl]
      by_cases hs : off + k < cs.size
      · rw [if_pos hs, if_pos (by omega)]; simp
      · rw [if_neg hs, if_neg (by omega), Array.getElem?_eq_none (by omega)]
    · rw [if_neg hi]
      by_cases hc : off + (k + 1) ≤ i ∧ i < off + (k + 1) + ws.length ∧ i < cs.size
      · rw [if_pos hc, if_pos (by omega), show i - (off + k) = (i - (off + (k + 1))) + 1 by omega]; simp
      · rw [if_neg hc, if_neg (by omega)]

theorem VR.cells {v : AV} {v' : Value} (h : VR env ρ v v') (henv : ∀ i, (env i).cells = #[env i]) : VRs env ρ v.cells v'.cells.toList := by
  cases h with
  | agg r => exact r
  | opq i => rw [henv i]; exact .cons (.opq i) .nil
  | bool b => exact .cons (.bool b) .nil
  | int k n => exact .cons (.int k n) .nil
  | str s => exact .cons (.str s) .nil
  | ptrNil => exact .cons .ptrNil .nil
  | ptr e => exact .cons (.ptr e) .nil
  | sliceNil a b c d => exact .cons (.sliceNil a b c d) .nil
  | slice a b c d => exact .cons (.slice a b c d) .nil
  | sliceAny e => exact .cons (.sliceAny e) .nil
  | mapNil => exact .cons .mapNil .nil
  | map e => exact .cons (.map e) .nil
  | func a b c => exact .cons (.func a b c) .nil
  | nilFunc => exact .cons .nilFunc .nil
  | iface t r => exact .cons (.iface t r) .nil
  | nilIface => exact .cons .nilIface .nil
  | tuple r => exact .cons (.tuple r) .nil

/-- Cells are laid into a row, on both sides. -/
theorem putC_rel {l vs l' : List AV} {off : Nat} {cs ws : Array Value} (h : putC false l off vs = some l') (hl : VRs env ρ l cs.toList) (hv : VRs env ρ vs ws.toList) :
    VRs env ρ l' ((ws.zipIdx.foldl (fun cs (c, j) => cs.setIfInBounds (off + j) c) cs)).toList ∧ off + ws.size ≤ cs.size := by
  obtain ⟨h1, h2, h3, h4⟩ := putC_get h
  have e1 : l.length = cs.size := by simpa using hl.length
  have e2 : vs.length = ws.size := by simpa using hv.length
  have e4 := h4 rfl
  have hf : ws.zipIdx.foldl (fun cs (c, j) => cs.setIfInBounds (off + j) c) cs = (ws.toList.zipIdx 0).foldl (fun cs (c, j) => cs.setIfInBounds (off + j) c) cs := by
    rw [← Array.foldl_toList, Array.toList_zipIdx]
  obtain ⟨g1, g2⟩ := fold_get ws.toList 0 off cs
  refine ⟨?_, by omega⟩
  rw [hf]
  refine VRs.of_get (by simp [g1]; omega) fun i x hx => ?_
  rw [h1 i] at hx
  simp only [Array.getElem?_toList]
  rw [g2 i]
  simp only [Array.length_toList, Nat.add_zero]
  by_cases hi : off ≤ i ∧ i < off + vs.length
  · rw [if_pos hi] at hx
    obtain ⟨y, y1, y2⟩ := hv.get hx
    rw [if_pos (by omega)]
    exact ⟨y, y1, y2⟩
  · rw [if_neg hi] at hx
    obtain ⟨y, y1, y2⟩ := hl.get hx
    rw [if_neg (by omega)]
    exact ⟨y, by simpa using y1, y2⟩

inductive PartsR (env : Nat → Value) (ρ : Rho) : List (Nat × AV) → List (Nat × Value) → Prop
  | nil : PartsR env ρ [] []
  | cons {i : Nat} {v : AV} {v' : Value} {l : List (Nat × AV)} {l' : List (Nat × Value)} : VR env ρ v v' → PartsR env ρ l l' → PartsR env ρ ((i, v) :: l) ((i, v') :: l')

theorem fillA_sound (henv : ∀ i, (env i).cells = #[env i]) {pl : Nat → Option (Nat × Nat)} : ∀ {ps : List (Nat × AV)} {ps' : List (Nat × Value)} {l l' : List AV} {cs : Array Value},
    fillA pl l ps = some l' → PartsR env ρ ps ps' → VRs env ρ l cs.toList → ∃ cs', Instr.fill pl cs ps' = some cs' ∧ VRs env ρ l' cs'.toList
  | [], _, l, l', cs, h, .nil, hl => by simp only [fillA, Option.some.injEq] at h; subst h; exact ⟨cs, rfl, hl⟩
  | (i, v) :: ps, _, l, l', cs, h, .cons r s, hl => by
    rename_i v' ps'
    simp only [fillA] at h
    split at h
    · cases h
    · rename_i off size hpl
      split at h
      · rename_i hs
        split at h
        · rename_i q hq
          have hc := r.cells henv
          obtain ⟨h1, h2⟩ := putC_rel hq hl hc
          obtain ⟨cs', h3, h4⟩ := fillA_sound henv h s h1
          refine ⟨cs', ?_, h4⟩
          have hsz : v'.cells.size = size := by
            have := hc.length
            rw [Nat.eq_of_beq_eq_true hs] at this
            simpa using this.symm
          simp only [Instr.fill, hpl]
          rw [if_neg (by simp [hsz]; omega)]
          exact h3
        · cases h
      · cases h

theorem evParts_sound {tm : Tr AV} {a : Go.Act} : ∀ {l : List (Nat × Operand)} {r : List (Nat × AV)}, EvOk env ρ tm a (l.map (·.2)) → evParts tm l = some r →
    PartsR env ρ r (l.map fun (i, x) => (i, a.eval x))
  | [], r, _, h => by simp only [evParts, Option.some.injEq] at h; subst h; exact .nil
  | (i, x) :: l, r, hE, h => by
    simp only [evParts] at h
    split at h
    · rename_i v q hv hq
      cases h
      exact .cons (hE x (by simp) _ hv) (evParts_sound (fun y hy => hE y (by simp at hy ⊢; exact .inr hy)) hq)
    · cases h

theorem ofV_cells {v : Value} {z : AV} (h : VR env ρ z v) (henv : ∀ i, (env i).cells = #[env i]) : VRs env ρ z.cells v.cells.toList := h.cells henv

theorem mapM_places : ∀ {fs : List Field} {l : List (Nat × Nat)} (w : World), mapO (placeA P) fs = some l →
    (fs.mapM fun (f : Field) => (do pure (f.offset, ← Go.sizeOf f.type) : Sem (Nat × Nat))).run P w = .ok l w
  | [], l, w, h => by simp only [mapO, Option.some.injEq] at h; subst h; rfl
  | f :: fs, l, w, h => by
    simp only [mapO] at h
    split at h
    · cases h
    · rename_i y hy
      split at h
      · cases h
      · rename_i r hr
        cases h
        unfold placeA at hy
        split at hy
        · rename_i n hn
          cases hy
          have ih := mapM_places w hr
          simp only [List.mapM_cons, Sem.run_bind, run_sizeOf hn, Result.andThen_ok, Sem.run_pure]
          rw [ih]; rfl
        · cases hy

theorem opBuild_sound (henv : ∀ i, (env i).cells = #[env i]) {tm : Tr AV} {a : Go.Act} {t : TypeId} {parts : Array (Nat × Operand)} {v : AV}
    (hE : EvOk env ρ tm a (parts.toList.map (·.2))) (h : opBuild P tm t parts.toList = some v) :
    Comes1 P env ρ w v (Instr.build t (parts.map fun (i, x) => (i, a.eval x))) := by
  unfold opBuild at h
  split at h
  · rename_i z ps hz hps
    obtain ⟨i, z', _, _, h3, h4⟩ := zeroA_sound (env := env) (ρ := ρ) hz
    have hp := evParts_sound hE hps
    have hzc := h3.cells henv
    have hpl : (parts.map fun (i, x) => (i, a.eval x)).toList = parts.toList.map fun (i, x) => (i, a.eval x) := by simp
    split at h
    · rename_i fs hu
      unfold buildStruct at h
      split at h
      · rename_i l hl
        split at h
        · rename_i cs hcs
          cases h
          obtain ⟨cs', h5, h6⟩ := fillA_sound henv hcs hp hzc
          refine ⟨.agg cs', ?_, .agg h6⟩
          have hm : (fs.mapM fun (f : Field) => (do pure (f.offset, ← Go.sizeOf f.type) : Sem (Nat × Nat))).run P w = .ok l.toArray w := by
            rw [show fs = fs.toList.toArray by simp, List.mapM_toArray, Sem.run_map, mapM_places w hl]; rfl
          have hnth : (fun i => (l.toArray)[i]?) = nth l := by funext i; simp [nth_eq]
          simp only [Instr.build, Sem.run_bind, h4, Result.andThen_ok, run_underlying hu, hm]
          rw [hpl, hnth, h5]; rfl
        · cases h
      · cases h
    · rename_i n e hu
      unfold buildArray at h
      split at h
      · rename_i size hs
        split at h
        · rename_i cs hcs
          cases h
          obtain ⟨cs', h5, h6⟩ := fillA_sound henv hcs hp hzc
          refine ⟨.agg cs', ?_, .agg h6⟩
          simp only [Instr.build, Sem.run_bind, h4, Result.andThen_ok, run_underlying hu, run_sizeOf hs]
          rw [hpl, h5]; rfl
        · cases h
      · cases h
    · cases h
  · cases h

end Va

/-
  VA: maps and iterators, read.
-/
namespace Va
open Go Go.RowKit

variable {P : Program} {env : Nat → Value} {W0 : World} {ρ : Rho} {hp : Tr AO} {nx : Nat} {w : World}

theorem getMap_sound (I : Inv env W0 ρ hp nx w) {r : Nat} {p : Pl} {es : List AEnt} {clock : Nat} (h : getMap hp r = some (es, clock)) (hp' : ρ r = some p) :
    ∃ es' : Array MapEntry, w.heap[p.blk]? = some (.map es' clock) ∧ EntsR env ρ es es'.toList ∧ hp.get r = some (.map es clock) := by
  unfold getMap at h
  split at h
  · rename_i hg
    cases h
    obtain ⟨ob, h1, h2⟩ := I.obj r _ p hg hp' rfl
    cases ob <;> simp only [OR] at h2
    obtain ⟨rfl, h3⟩ := h2
    exact ⟨_, h1, h3, hg⟩
  · cases h

theorem run_getObj {k : Nat} {o : Obj} (h : w.heap[k]? = some o) (hc : match o with | .cells .. => False | _ => True) : (getObj k).run P w = .ok o w := by
  cases o <;> simp_all [getObj, Sem.run]

theorem EntsR.length {a : List AEnt} {b : List MapEntry} (h : EntsR env ρ a b) : a.length = b.length := by
  induction h with
  | nil => rfl
  | cons _ _ _ ih => simp [ih]

theorem EntsR.get {a : List AEnt} {b : List MapEntry} (h : EntsR env ρ a b) : ∀ {i : Nat} {e : AEnt}, a[i]? = some e → ∃ e', b[i]? = some e' ∧ VR env ρ e.key e'.key ∧ VR env ρ e.val e'.val ∧ e'.born = e.born := by
  induction h with
  | nil => intro i e h; simp at h
  | cons x y s ih =>
    intro i e h
    cases i with
    | zero => simp at h; subst h; exact ⟨_, List.getElem?_cons_zero, x, y, rfl⟩
    | succ i => simp at h; obtain ⟨e', h1, h2⟩ := ih h; exact ⟨e', by simpa using h1, h2⟩

/-- Keys' kinds. -/
inductive KeyKind (P : Program) (kt : TypeId) (k : AV) : Prop
  | str (s : List Nat) : P.underlying kt = some .string → k = .str s → KeyKind P kt k
  | int (d : IntKind) (j : IntKind) (n : Int) : P.underlying kt = some (.int d) → k = .int j n → KeyKind P kt k
  | agg (fs : Array Field) (l : List AV) : P.underlying kt = some (.struct fs) → k = .agg l → plainStruct P kt l.length = true → KeyKind P kt k

theorem keyOk_kind {kt : TypeId} {k : AV} (h : keyOk P kt k = true) : KeyKind P kt k := by
  unfold keyOk at h
  split at h
  · rename_i hu; exact .str _ hu rfl
  · rename_i hu; exact .int _ _ _ hu rfl
  · rename_i hu; exact .agg _ _ hu rfl h
  · cases h

theorem checkKey_plain (e : Bool) (n : Nat) {t : TypeId} {d : TypeDesc} (hu : P.underlying t = some d) (hd : d = .bool ∨ (∃ k, d = .int k) ∨ d = .string) (v : Value) :
    (Instr.checkKey e (n + 1) t v).run P w = .ok () w := by
  simp only [Instr.checkKey, Sem.run_bind, run_underlying hu, Result.andThen_ok]
  rcases hd with rfl | ⟨k, rfl⟩ | rfl <;> cases v <;> rfl

theorem plainField_desc {f : Field} (h : plainField P f = true) : ∃ d, P.underlying f.type = some d ∧ (d = .bool ∨ (∃ k, d = .int k) ∨ d = .string) := by
  unfold plainField at h
  simp only [Bool.and_eq_true] at h
  have h2 := h.2
  split at h2
  · rename_i hu; exact ⟨_, hu, .inl rfl⟩
  · rename_i hu; exact ⟨_, hu, .inr (.inl ⟨_, rfl⟩)⟩
  · rename_i hu; exact ⟨_, hu, .inr (.inr rfl)⟩
  · cases h2

theorem run_forIn_unit {α : Type} (f : α → PUnit → Sem (ForInStep PUnit)) : ∀ (l : List α), (∀ x ∈ l, (f x PUnit.unit).run P w = .ok (.yield PUnit.unit) w) → (forIn l PUnit.unit f).run P w = .ok PUnit.unit w
  | [], _ => rfl
  | x :: l, h => by
    simp only [List.forIn_cons, Sem.run_bind, h x (by simp), Result.andThen_ok]
    exact run_forIn_unit f l fun y hy => h y (by simp [hy])

theorem inOrder_mem : ∀ {fs : List Field} {n : Nat}, inOrder fs n = true → ∀ f ∈ fs, f.offset < n + fs.length
  | [], _, _, f, hf => by cases hf
  | g :: fs, n, ho, f, hf => by
    simp only [inOrder, Bool.and_eq_true] at ho
    have := Nat.eq_of_beq_eq_true ho.1
    simp only [List.length_cons]
    cases hf with
    | head => omega
    | tail _ h => have := inOrder_mem ho.2 f h; omega

theorem checkKey_sound (e : Bool) {kt : TypeId} {k : AV} {k' : Value} (hk : keyOk P kt k = true) (hv : VR env ρ k k') : (Instr.checkKey e 10000 kt k').run P w = .ok () w := by
  have key : ∀ m n, m = n + 1 → (Instr.checkKey e (m + 1) kt k').run P w = .ok () w := by
    intro m n hmn
    rcases keyOk_kind hk with ⟨s, hu, rfl⟩ | ⟨d, j, q, hu, rfl⟩ | ⟨fs, l, hu, rfl, hps⟩
    · exact checkKey_plain e m hu (.inr (.inr rfl)) _
    · exact checkKey_plain e m hu (.inr (.inl ⟨_, rfl⟩)) _
    · cases hv with
      | agg r =>
        rename_i cs
        unfold plainStruct at hps
        rw [hu] at hps
        simp only [Bool.and_eq_true, Bool.not_eq_true'] at hps
        have hlen := Nat.eq_of_beq_eq_true hps.1.1.2
        have hl2 := r.length
        simp only [Array.length_toList] at hl2 hlen
        simp only [Instr.checkKey, Sem.run_bind, run_underlying hu, Result.andThen_ok]
        rw [← Array.forIn_toList]
        rw [run_forIn_unit]
        · rfl
        · intro f hf
          have hall := List.all_eq_true.1 hps.1.1.1.1 f hf
          have hoff := inOrder_mem hps.1.1.1.2 f hf
          obtain ⟨hagg, hname⟩ := part_plain f hall
          obtain ⟨d, hu2, hd⟩ := plainField_desc hall
          have hlt : f.offset < cs.size := by simp at hoff; omega
          have hc : cs[f.offset]? = some cs[f.offset] := by simp
          subst hmn
          simp [hname, run_part_plain hagg hc, checkKey_plain e n hu2 hd]
  exact key 9999 9998 rfl

inductive FoundR (env : Nat → Value) (ρ : Rho) : Option (Nat × AV) → Option (Nat × Value) → Prop
  | none : FoundR env ρ none none
  | some {i : Nat} {v : AV} {v' : Value} : VR env ρ v v' → FoundR env ρ (some (i, v)) (some (i, v'))

theorem findNow_sound {fs : List Field} {d : TypeDesc} {k : AV} {k' : Value} (hd : (∃ s, k = .str s ∧ d = .string) ∨ ∃ j n q, k = .int j n ∧ d = .int q) (hk : VR env ρ k k') :
    ∀ {es : List AEnt} {es' : List MapEntry} {i : Nat} {r : Option (Nat × AV)}, EntsR env ρ es es' → findEnt P fs k es i = some r →
    ∃ r', Instr.findNow d k' es' i = some r' ∧ FoundR env ρ r r'
  | _, _, i, r, .nil, h => by simp only [findEnt, Option.some.injEq] at h; subst h; exact ⟨none, rfl, .none⟩
  | _, _, i, r, .cons ek ev s, h => by
    rename_i k2 v2 k2' v2' b l l'
    simp only [findEnt] at h
    have step : ∀ q, sameKey P fs k k2 = some q → Instr.sameNow d k' k2' = some q := by
      intro q hq
      rcases hd with ⟨s, rfl, rfl⟩ | ⟨j, n, q, rfl, rfl⟩
      · cases hk with
        | str s1 =>
          cases ek <;> simp only [sameKey, reduceCtorEq] at hq
          rename_i s2
          simp only [Option.some.injEq, strEq_beq] at hq
          simp [Instr.sameNow, hq]
      · cases hk
        cases ek <;> simp only [sameKey, reduceCtorEq] at hq
        split at hq
        · rename_i hkk
          cases hq
          obtain rfl := kEq_eq hkk
          simp [Instr.sameNow, iEq_eq]
        · cases hq
    simp only [Instr.findNow]
    split at h
    · rename_i hs
      cases h
      rw [step _ hs]
      exact ⟨_, rfl, .some ev⟩
    · rename_i hs
      rw [step _ hs]
      exact findNow_sound hd hk s h
    · cases h

theorem findAsking_sound {kt : TypeId} {l : List AV} {k' : Value} (hps : plainStruct P kt l.length = true) (hk : VR env ρ (.agg l) k') :
    ∀ {es : List AEnt} {es' : List MapEntry} {i : Nat} {r : Option (Nat × AV)}, EntsR env ρ es es' → findEnt P (fieldsL P kt) (.agg l) es i = some r →
    ∃ r', (Instr.findAsking kt k' es' i).run P w = .ok r' w ∧ FoundR env ρ r r'
  | _, _, i, r, .nil, h => by simp only [findEnt, Option.some.injEq] at h; subst h; exact ⟨none, rfl, .none⟩
  | _, _, i, r, .cons ek ev s, h => by
    rename_i k2 v2 k2' v2' b m m'
    simp only [findEnt] at h
    have step : ∀ q, sameKey P (fieldsL P kt) (.agg l) k2 = some q → (Op.equal kt k' k2').run P w = .ok q w := by
      intro q hq
      cases hk with
      | agg r1 =>
        cases ek <;> simp only [sameKey, reduceCtorEq] at hq
        rename_i r2
        exact eqStruct_sound (n := 9998) hps r1 r2 hq
    simp only [Instr.findAsking, Sem.run_bind]
    split at h
    · rename_i hs
      cases h
      rw [step _ hs]
      exact ⟨_, rfl, .some ev⟩
    · rename_i hs
      rw [step _ hs]
      exact findAsking_sound hps hk s h
    · cases h

theorem findKey_sound {kt : TypeId} {k : AV} {k' : Value} {es : List AEnt} {es' : List MapEntry} {r : Option (Nat × AV)} (hok : keyOk P kt k = true) (hk : VR env ρ k k') (he : EntsR env ρ es es')
    (h : findEnt P (fieldsL P kt) k es 0 = some r) : ∃ r', (Instr.findKey kt k' es').run P w = .ok r' w ∧ FoundR env ρ r r' := by
  rcases keyOk_kind hok with ⟨s, hu, rfl⟩ | ⟨d, j, m, hu, rfl⟩ | ⟨fs, l, hu, rfl, hps⟩
  · obtain ⟨r', h1, h2⟩ := findNow_sound (P := P) (d := .string) (.inl ⟨_, rfl, rfl⟩) hk he h
    exact ⟨r', by simp [Instr.findKey, run_underlying hu, h1], h2⟩
  · obtain ⟨r', h1, h2⟩ := findNow_sound (P := P) (d := .int d) (.inr ⟨_, _, _, rfl, rfl⟩) hk he h
    exact ⟨r', by simp [Instr.findKey, run_underlying hu, h1], h2⟩
  · obtain ⟨r', h1, h2⟩ := findAsking_sound (P := P) (w := w) hps hk he h
    refine ⟨r', ?_, h2⟩
    simp only [Instr.findKey, Sem.run_bind, run_underlying hu, Result.andThen_ok]
    cases he with
    | nil =>
      simp only [findEnt, Option.some.injEq] at h
      subst h
      cases h2
      rfl
    | cons ek ev s =>
      have : ∀ (e : MapEntry) l, Instr.findNow (.struct fs) k' (e :: l) 0 = none := by
        intro e l
        cases hk with
        | agg r1 => rfl
      rw [this]
      exact h1

def lookupRest (P : Program) (kt et : TypeId) (ok : Bool) (k : AV) (es : List AEnt) : Option AV :=
  match findEnt P (fieldsL P kt) k es 0 with
  | some (some (_, v)) => some (if ok then .tuple [v, .bool true] else v)
  | some none => (match zeroA P et with
    | some z => some (if ok then .tuple [z, .bool false] else z)
    | none => none)
  | none => none

theorem lookupRest_sound {t kt et : TypeId} {k v : AV} {x' k' : Value} {ok : Bool} {es : List AEnt} {es' : Array MapEntry} (hu : P.underlying t = some (.map kt et))
    (hx : (x' = .map none ∧ es' = #[]) ∨ (∃ b c, x' = .map (some b) ∧ w.heap[b]? = some (.map es' c)))
    (hok : keyOk P kt k = true) (hk : VR env ρ k k') (he : EntsR env ρ es es'.toList)
    (h : lookupRest P kt et ok k es = some v) :
    Comes1 P env ρ w v (Instr.lookup t x' k' ok) := by
  unfold lookupRest at h
  split at h
  · rename_i i v1 hf
    cases h
    obtain ⟨r', h3, h4⟩ := findKey_sound (P := P) (w := w) hok hk he hf
    cases h4 with
    | some hv =>
      rename_i v1'
      refine ⟨if ok then .tuple #[v1', .bool true] else v1', ?_, ?_⟩
      · rcases hx with ⟨rfl, rfl⟩ | ⟨b, c, rfl, g1⟩
        · simp only [Instr.lookup, Sem.run_bind, run_underlying hu, Sem.run_pure, Result.andThen_ok, checkKey_sound (w := w) _ hok hk, h3]
        · simp only [Instr.lookup, Sem.run_bind, run_underlying hu, Sem.run_pure, Result.andThen_ok, run_getObj (P := P) g1 trivial, checkKey_sound (w := w) _ hok hk, h3]
      · cases ok
        · exact hv
        · exact .tuple (.cons hv (.cons (.bool true) .nil))
  · rename_i hf
    split at h
    · rename_i z hz
      cases h
      obtain ⟨r', h3, h4⟩ := findKey_sound (P := P) (w := w) hok hk he hf
      cases h4
      obtain ⟨_, z', _, _, h5, h6⟩ := zeroA_sound (env := env) (ρ := ρ) hz
      refine ⟨if ok then .tuple #[z', .bool false] else z', ?_, ?_⟩
      · rcases hx with ⟨rfl, rfl⟩ | ⟨b, c, rfl, g1⟩
        · simp only [Instr.lookup, Sem.run_bind, run_underlying hu, Sem.run_pure, Result.andThen_ok, checkKey_sound (w := w) _ hok hk, h3, h6]
        · simp only [Instr.lookup, Sem.run_bind, run_underlying hu, Sem.run_pure, Result.andThen_ok, run_getObj (P := P) g1 trivial, checkKey_sound (w := w) _ hok hk, h3, h6]
      · cases ok
        · exact h5
        · exact .tuple (.cons h5 (.cons (.bool false) .nil))
    · cases h
  · cases h

theorem lookupA_sound (I : Inv env W0 ρ hp nx w) {t : TypeId} {x k v : AV} {x' k' : Value} {ok : Bool} (hx : VR env ρ x x') (hk : VR env ρ k k') (h : lookupA P t x k ok hp = some v) :
    Comes1 P env ρ w v (Instr.lookup t x' k' ok) := by
  unfold lookupA at h
  split at h
  · rename_i kt et hu
    split at h
    · rename_i hok
      cases hx <;> first | (cases h; done) | skip
      · exact lookupRest_sound (es' := #[]) hu (.inl ⟨rfl, rfl⟩) hok hk .nil h
      · rename_i r0 p0 hr
        cases hg : getMap hp r0 with
        | none => simp [hg] at h
        | some ec =>
          obtain ⟨es, clock⟩ := ec
          simp only [hg] at h
          obtain ⟨es', g1, g2, _⟩ := getMap_sound I hg hr
          exact lookupRest_sound (es' := es') hu (.inr ⟨_, _, rfl, g1⟩) hok hk g2 h
    · cases h
  · cases h

end Va

