import Derived.Test.YtjjmdbhgmecpjaaGreatDoorEvC
import GoSem.ClaimKeys
import Derived.DeepKeys3
import Derived.Laws.StructEq
set_option linter.unusedSimpArgs false
set_option linter.unusedVariables false
namespace Go.Ev

/-! ### What the operations do, on abstract values -/

def avCell : Value → AV
  | .bool b => .bool b
  | .int k n => .int k n
  | .string s => .str (strOf s)
  | .pointer none => .nilptr
  | .slice none 0 0 => .nilslice
  | .map none => .nilMap
  | .nilFunc => .nilFunc
  | .nilIface => .nilIface
  | .func f xs ys => if xs.size = 0 ∧ ys.size = 0 then .func f [] [] else .undef
  | _ => .undef

def avOf : Value → AV
  | .agg cs => .agg (cs.toList.map avCell)
  | .tuple cs => .tuple (cs.toList.map avCell)
  | v => avCell v

def AV.isUndef : AV → Bool
  | .undef => true
  | _ => false


/-- A value that its abstract value tells in full. -/
def valCell : AV → Option Value
  | .int k n => some (.int k n)
  | .bool b => some (.bool b)
  | _ => none
def valCells : List AV → Option (List Value)
  | [] => some []
  | a :: l => match valCell a, valCells l with | some v, some vs => some (v :: vs) | _, _ => none
def valOf : AV → Option Value
  | .agg cs => (valCells cs).map fun vs => .agg vs.toArray
  | .int k n => some (.int k n)
  | _ => none

def eqCell : AV → AV → Bool
  | .int k n, .int k' m => decide (k = k') && decide (n = m)
  | .bool a, .bool b => a == b
  | _, _ => false
def eqCells : List AV → List AV → Bool
  | [], [] => true
  | a :: l, b :: m => eqCell a b && eqCells l m
  | _, _ => false
def eqKey : AV → AV → Bool
  | .agg xs, .agg ys => eqCells xs ys
  | .int k n, .int k' m => decide (k = k') && decide (n = m)
  | _, _ => false


def isAggD : TypeDesc → Bool
  | .struct _ | .array _ _ => true
  | _ => false

section
variable (P : Program)

def szOf (t : TypeId) : Option Nat := (P.info? t).map (·.size)
def bytesOf (t : TypeId) : Option Nat := (P.info? t).map (·.bytes)
def aggOf (t : TypeId) : Option Bool := (P.underlying t).map isAggD
def zeroOf (t : TypeId) : Option AV := (P.info? t).bind fun i => i.zero.map avOf
def elemOfSlice (t : TypeId) : Option TypeId := match P.underlying t with | some (.slice e) => some e | _ => none
def fieldOf (t : TypeId) (f : Nat) : Option Field := match P.underlying t with | some (.struct fs) => fs[f]? | _ => none

/-- A part of an aggregate's cells as a value of type t. -/
def partOf (t : TypeId) (cs : List AV) (off : Nat) : Option AV :=
  match aggOf P t, szOf P t with
  | some true, some n => if off + n ≤ cs.length then some (.agg ((cs.drop off).take n)) else none
  | some false, _ => cs[off]?
  | _, _ => none

def Heap.load (H : Heap) (a : AV) (n : Nat) : Option (List AV) :=
  match a with
  | .iptr cs o => if o + n ≤ cs.length then some ((cs.drop o).take n) else none
  | .ptr b i o g =>
    match H.blk b with
    | some (.row _ esz els _ wgen) =>
      if wgen ≤ g ∧ o + n ≤ esz then
        match els[i]? with
        | some cs => some ((cs.drop o).take n)
        | none => none
      else none
    | _ => none
  | _ => none

def splice (cs : List AV) (o : Nat) (vs : List AV) : List AV := cs.take o ++ vs ++ cs.drop (o + vs.length)

def Heap.store (H : Heap) (a : AV) (vs : List AV) : Option Heap :=
  match a with
  | .ptr b i o g =>
    match H.blk b with
    | some (.row ty esz els gen _) =>
      if g = gen ∧ o + vs.length ≤ esz ∧ vs.all AV.isCell = true then
        match els[i]? with
        | some cs => some (H.set b (.row ty esz (els.set i (splice cs o vs)) gen gen))
        | none => none
      else none
    | _ => none
  | _ => none

/-- The first n elements of a slice (or the bytes of a string). -/
def Heap.elems (H : Heap) (esz n : Nat) (a : AV) : Option (List (List AV)) :=
  match a with
  | .nilslice => if n = 0 then some [] else none
  | .eslice => if n = 0 then some [] else none
  | .slice b off len _ _ g =>
    match H.blk b with
    | some (.row _ sz els _ wgen) => if wgen ≤ g ∧ sz = esz ∧ n ≤ len then some ((els.drop off).take n) else none
    | _ => none
  | .lst sz es => if sz = esz ∧ n ≤ es.length then some (es.take n) else none
  | .str s => if esz = 1 ∧ n ≤ s.length then some ((s.take n).map fun (c : Nat) => [AV.int .u8 (c : Int)]) else none
  | _ => none

def AV.len? : AV → Option Nat
  | .nilslice => some 0
  | .eslice => some 0
  | .slice _ _ len _ _ _ => some len
  | .lst _ es => some es.length
  | .str s => some s.length
  | _ => none

def setAll (els : List (List AV)) (i : Nat) (new : List (List AV)) : List (List AV) := els.take i ++ new ++ els.drop (i + new.length)

def maxBytes : Nat := 140737488355328

def Heap.append (H : Heap) (e : TypeId) (esz bytes : Nat) (s : AV) (new : List (List AV)) : Option (AV × Heap) :=
  if new.all (fun cs => cs.all AV.isCell) = true then
    match s with
    | .nilslice => if new.length = 0 then some (.nilslice, H) else
        if new.length * bytes ≤ maxBytes ∧ new.length ≤ maxBytes then some (.slice H.next 0 new.length new.length false 0, H.push (.row e esz new 0 0)) else none
    | .eslice => if new.length = 0 then some (.eslice, H) else
        if new.length * bytes ≤ maxBytes ∧ new.length ≤ maxBytes then some (.slice H.next 0 new.length new.length false 0, H.push (.row e esz new 0 0)) else none
    | .lst sz es => if new.length = 0 then some (.lst sz es, H) else none
    | .slice b off len cap ex g =>
      if new.length = 0 then some (s, H) else
      match H.blk b with
      | some (.row ty sz els gen wgen) =>
        if wgen ≤ g ∧ sz = esz ∧ (len + new.length) * bytes ≤ maxBytes ∧ len + new.length ≤ maxBytes then
          if len + new.length ≤ cap then
            if g = gen then some (.slice b off (len + new.length) cap ex g, H.set b (.row ty sz (setAll els (off + len) new) gen gen)) else none
          else if ex then some (.slice H.next 0 (len + new.length) (len + new.length) false 0, H.push (.row e esz ((els.drop off).take len ++ new) 0 0))
          else if g = gen ∧ off + len = els.length then some (.slice b off (len + new.length) (len + new.length) false (gen + 1), H.set b (.row ty sz (els ++ new) (gen + 1) wgen))
          else none
        else none
      | _ => none
    | _ => none
  else none

/-- '==' of the fields of two structs. -/
def eqFields (rec : TypeId → AV → AV → Option Bool) (xs ys : List AV) : List Field → Option Bool
  | [] => some true
  | f :: fs =>
    if f.name = "_" then eqFields rec xs ys fs else
    match partOf P f.type xs f.offset, partOf P f.type ys f.offset with
    | some a, some b =>
      match rec f.type a b with
      | some true => eqFields rec xs ys fs
      | some false => some false
      | none => none
    | _, _ => none

/-- '==' -/
def eqA : Nat → TypeId → AV → AV → Option Bool
  | 0, _, _, _ => none
  | d + 1, t, x, y =>
    match P.underlying t, x, y with
    | some .bool, .bool a, .bool b => some (a == b)
    | some (.int _), .int k a, .int k' b => if k = k' then some (a == b) else none
    | some .string, .str a, .str b => some (a == b)
    | some (.pointer _), .nilptr, .nilptr => some true
    | some (.pointer _), .nilptr, .ptr .. | some (.pointer _), .nilptr, .iptr .. | some (.pointer _), .ptr .., .nilptr | some (.pointer _), .iptr .., .nilptr => some false
    | some (.interface _), .nilIface, .nilIface => some true
    | some (.interface _), .nilIface, .iface .. | some (.interface _), .iface .., .nilIface => some false
    | some (.slice _), .nilslice, .nilslice => some true
    | some (.slice _), .nilslice, .eslice | some (.slice _), .nilslice, .slice .. | some (.slice _), .nilslice, .lst .. => some false
    | some (.slice _), .eslice, .nilslice | some (.slice _), .slice .., .nilslice | some (.slice _), .lst .., .nilslice => some false
    | some (.map _ _), .nilMap, .nilMap => some true
    | some (.map _ _), .nilMap, .map _ | some (.map _ _), .map _, .nilMap => some false
    | some (.func ..), .nilFunc, .nilFunc => some true
    | some (.func ..), .nilFunc, .func .. | some (.func ..), .func .., .nilFunc => some false
    | some (.struct fs), .agg xs, .agg ys => if P.stoodInHeld t then none else eqFields P (eqA d) xs ys fs.toList
    | _, _, _ => none

def lessA : List Nat → List Nat → Bool
  | _, [] => false
  | [], _ :: _ => true
  | a :: x, b :: y => decide (a < b) || (a == b && lessA x y)

def evInt (op : BinOp) (k : IntKind) (a b : Int) : Option AV :=
  match op with
  | .add => some (.int k (k.wrap (a + b)))
  | .sub => some (.int k (k.wrap (a - b)))
  | .mul => some (.int k (k.wrap (a * b)))
  | .quo => if b = 0 then none else some (.int k (k.wrap (a.tdiv b)))
  | .rem => if b = 0 then none else some (.int k (a.tmod b))
  | .and => some (.int k (k.wrap (BitVec.ofInt k.bits a &&& BitVec.ofInt k.bits b).toNat))
  | .or => some (.int k (k.wrap (BitVec.ofInt k.bits a ||| BitVec.ofInt k.bits b).toNat))
  | .xor => some (.int k (k.wrap (BitVec.ofInt k.bits a ^^^ BitVec.ofInt k.bits b).toNat))
  | .eql => some (.bool (a == b))
  | .neq => some (.bool (a != b))
  | .lss => some (.bool (decide (a < b)))
  | .leq => some (.bool (decide (a ≤ b)))
  | .gtr => some (.bool (decide (a > b)))
  | .geq => some (.bool (decide (a ≥ b)))
  | _ => none

def evStr (op : BinOp) (a b : List Nat) : Option AV :=
  match op with
  | .add => if a.length + b.length ≤ maxBytes then some (.str (a ++ b)) else none
  | .eql => some (.bool (a == b))
  | .neq => some (.bool (!(a == b)))
  | .lss => some (.bool (lessA a b))
  | .leq => some (.bool (lessA a b || a == b))
  | .gtr => some (.bool (!(lessA a b || a == b)))
  | .geq => some (.bool (!(lessA a b)))
  | _ => none

def eqOk (op : BinOp) (t : TypeId) (x y : Operand) (a b : AV) : Bool :=
  match a, b with
  | .nilIface, .nilIface => (match x with | .const _ => true | _ => false) || (match y with | .const _ => true | _ => false)
  | .agg _, .agg _ => !(P.eqGuardType P.depth t)
  | _, _ => true

def evBin (op : BinOp) (t : TypeId) (x y : Operand) (a b : AV) : Option AV :=
  match op, a, b with
  | .shl, .int k m, .int _ n => if n < 0 then none else some (.int k (k.wrap (m * 2 ^ (min n.toNat k.bits))))
  | .shr, .int k m, .int _ n => if n < 0 then none else some (.int k (m.fdiv (2 ^ (min n.toNat k.bits))))
  | op, .int k m, .int k' n => if k = k' then evInt op k m n else none
  | op, .str m, .str n => evStr op m n
  | .eql, a, b => if eqOk P op t x y a b then (eqA P 10000 t a b).map .bool else none
  | .neq, a, b => if eqOk P op t x y a b then (eqA P 10000 t a b).map fun r => .bool (!r) else none
  | _, _, _ => none

def evUn (op : UnOp) (x : AV) : Option AV :=
  match op, x with
  | .neg, .int k n => some (.int k (k.wrap (0 - n)))
  | .xor, .int k n => some (.int k (k.wrap (BitVec.ofInt k.bits (if k.signed then -1 else k.max) ^^^ BitVec.ofInt k.bits n).toNat))
  | .not, .bool b => some (.bool (!b))
  | _, _ => none

def isIfaceD : TypeDesc → Bool
  | .interface _ => true
  | _ => false

def AV.int? : AV → Option Int
  | .int _ n => some n
  | _ => none

/-- The bounds of a slice expression: low, high, max (present: cap known). -/
def boundsOk (l h m : Int) : Bool := decide (0 ≤ l) && decide (l ≤ h) && decide (h ≤ m)

def optInt (ρ : Operand → AV) : Option Operand → Option (Option Int)
  | none => some none
  | some x => match ρ x with | .int _ n => some (some n) | _ => none

/-- The row behind a slice, where its generation still counts: how many cells an element has. -/
def Heap.eszOf (H : Heap) (b g : Nat) : Option Nat :=
  match H.blk b with
  | some (.row _ esz _ _ wgen) => if wgen ≤ g then some esz else none
  | _ => none

def evSlice (H : Heap) (t : TypeId) (a : AV) (lo hi mx : Option Int) : Option AV :=
  let l := lo.getD 0
  match P.underlying t, a, mx with
  | some .string, .str s, none =>
    let h := hi.getD s.length
    if boundsOk l h s.length then some (.str ((s.drop l.toNat).take (h - l).toNat)) else none
  | some (.slice e), .nilslice, none => if boundsOk l (hi.getD 0) 0 && (szOf P e).isSome then some .nilslice else none
  | some (.slice e), .nilslice, some m =>
    match hi with
    | some h => if boundsOk l h m && decide (m ≤ 0) && (szOf P e).isSome then some .nilslice else none
    | none => none
  | some (.slice e), .eslice, none => if boundsOk l (hi.getD 0) 0 && (szOf P e).isSome then some .eslice else none
  | some (.slice e), .lst sz es, none =>
    let h := hi.getD es.length
    if boundsOk l h es.length && decide (szOf P e = some sz) then some (.lst sz ((es.drop l.toNat).take (h - l).toNat)) else none
  | some (.slice e), .lst sz es, some m =>
    match hi with
    | some h => if boundsOk l h m && decide (m ≤ es.length) && decide (l = m) && decide (szOf P e = some sz) then some .eslice else none
    | none => none
  | some (.slice e), .slice b off len cap ex g, none =>
    let h := hi.getD len
    if boundsOk l h cap && decide ((szOf P e).isSome ∧ szOf P e = H.eszOf b g) then some (.slice b (off + l.toNat) (h - l).toNat (cap - l.toNat) ex g) else none
  | some (.slice e), .slice b off _ cap _ g, some m =>
    match hi with
    | some h => if boundsOk l h m && decide (m ≤ cap) && decide ((szOf P e).isSome ∧ szOf P e = H.eszOf b g) then (if l = m then some .eslice else some (.slice b (off + l.toNat) (h - l).toNat (m - l).toNat true g)) else none
    | none => none
  | _, _, _ => none

def evIndexAddr (H : Heap) (t : TypeId) (a i : AV) : Option AV :=
  match i with
  | .int _ n =>
    match P.underlying t, a with
    | some (.slice e), .slice b off len _ _ g => if 0 ≤ n ∧ n < (len : Int) ∧ szOf P e = H.eszOf b g then (szOf P e).map fun _ => .ptr b (off + n.toNat) 0 g else none
    | some (.slice e), .lst sz es => if 0 ≤ n ∧ szOf P e = some sz then (es[n.toNat]?).map fun cs => .iptr cs 0 else none
    | _, _ => none
  | _ => none

def evIndex (t : TypeId) (a i : AV) : Option AV :=
  match i with
  | .int _ n =>
    match P.underlying t, a with
    | some .string, .str s => if 0 ≤ n then (s[n.toNat]?).map fun (c : Nat) => .int .u8 (c : Int) else none
    | some (.array len e), .agg cs => if 0 ≤ n ∧ n < (len : Int) then (szOf P e).bind fun sz => partOf P e cs (n.toNat * sz) else none
    | _, _ => none
  | _ => none

/-- Some kinds of conversion. -/
def evConvert (s d : TypeId) (x : AV) : Option AV :=
  match P.underlying s, P.underlying d, x with
  | some _, some (.int k), .int _ n => some (.int k (k.wrap n))
  | some _, some .string, .str l => some (.str l)
  | _, _, _ => none

def fillA (place : Nat → Option (Nat × Nat)) (cells : List AV) : List (Nat × AV) → Option (List AV)
  | [] => some cells
  | (i, v) :: rest =>
    match place i with
    | none => none
    | some (off, size) =>
      if v.isUndef = false ∧ v.cells.length = size ∧ off + size ≤ cells.length then fillA place (splice cells off v.cells) rest else none

def evBuild (t : TypeId) (parts : List (Nat × AV)) : Option AV :=
  match zeroOf P t, P.underlying t with
  | some z, some (.struct fs) =>
    if z.isUndef then none else
    if fs.all (fun f => (szOf P f.type).isSome) then
      (fillA (fun i => (fs[i]?).bind fun f => (szOf P f.type).map fun s => (f.offset, s)) z.cells parts).map .agg
    else none
  | some z, some (.array _ e) =>
    if z.isUndef then none else
    (szOf P e).bind fun s => (fillA (fun i => some (i * s, s)) z.cells parts).map .agg
  | _, _ => none

def fillE (esz : Nat) (els : List (List AV)) : List (Nat × AV) → Option (List (List AV))
  | [] => some els
  | (i, v) :: rest => if v.isUndef = false ∧ v.cells.length = esz ∧ i < els.length then fillE esz (els.set i v.cells) rest else none

def evBuildSlice (H : Heap) (t : TypeId) (len : Nat) (parts : List (Nat × AV)) : Option (AV × Heap) :=
  (elemOfSlice P t).bind fun e =>
  match szOf P e, zeroOf P e with
  | some s, some z =>
    if len * s ≤ 2 ^ 24 ∧ z.isUndef = false ∧ z.cells.length = s then
      (fillE s (List.replicate len z.cells) parts).map fun els => (.slice H.next 0 len len true 0, H.push (.row e s els 0 0))
    else none
  | _, _ => none

def evMakeSlice (H : Heap) (t : TypeId) (l c : AV) : Option (AV × Heap) :=
  (elemOfSlice P t).bind fun e =>
  match P.info? e, zeroOf P e, l, c with
  | some i, some z, .int _ l, .int _ c =>
    if 0 ≤ l ∧ l ≤ c ∧ c ≤ 9223372036854775807 ∧ i.bytes * c ≤ 140737488355328 ∧ z.isUndef = false ∧ z.cells.length = i.size then
      some (.slice H.next 0 l.toNat c.toNat true 0, H.push (.row e i.size (List.replicate c.toNat z.cells) 0 0))
    else none
  | _, _, _, _ => none

/-! ### Maps whose keys are strings -/

def isStrT (t : TypeId) : Bool := match P.underlying t with | some .string => true | _ => false

/-- The place of a key among a map's entries, its value and its stamp. -/
def findK (l : List Nat) : List (AV × AV × Nat) → Nat → Option (Option (Nat × AV × Nat))
  | [], _ => some none
  | (.str k, x, n) :: es, i => if l = k then some (some (i, x, n)) else findK l es (i + 1)
  | _ :: _, _ => none

def evLookup (H : Heap) (t : TypeId) (m k : AV) (ok : Bool) : Option AV :=
  match P.underlying t, k with
  | some (.map kt et), .str l =>
    if isStrT P kt = true then
      match m with
      | .nilMap => (zeroOf P et).map fun z => if ok = true then .tuple [z, .bool false] else z
      | .map b =>
        match H.blk b with
        | some (.map es _) =>
          match findK l es 0 with
          | some (some (_, v, _)) => some (if ok = true then .tuple [v, .bool true] else v)
          | some none => (zeroOf P et).map fun z => if ok = true then .tuple [z, .bool false] else z
          | none => none
        | _ => none
      | _ => none
    else none
  | _, _ => none

def evMapUpdate (H : Heap) (t : TypeId) (m k x : AV) : Option Heap :=
  match P.underlying t, k, m with
  | some (.map kt _), .str l, .map b =>
    if isStrT P kt = true then
      match H.blk b with
      | some (.map es cl) =>
        match findK l es 0 with
        | some (some (i, _, n)) => some (H.set b (.map (es.set i (.str l, x, n)) cl))
        | some none => some (H.set b (.map (es ++ [(.str l, x, cl)]) (cl + 1)))
        | none => none
      | _ => none
    else none
  | _, _, _ => none

/-! Maps whose keys are structs of numbers and truth values. -/

/-- A key that a map of this key type takes. -/
def keyGood (kt : TypeId) (v : Value) : Bool :=
  match P.underlying kt with
  | some (.int k) => (match v with | .int k' _ => decide (k' = k) | _ => false)
  | _ => (keyOf P kt v).isSome
def keyOk (kt : TypeId) (a : AV) : Option Value :=
  match valOf a with
  | some v => if keyGood P kt v = true then some v else none
  | none => none

def wideK (kt : TypeId) : Bool := (match P.underlying kt with | some (.int _) => true | some (.array _ _) | some (.struct _) => P.keyTypeAt 100 kt && P.tiled 100 kt | _ => false)

def findW (key : AV) : List (AV × AV × Nat) → Nat → Option (Nat × AV × Nat)
  | [], _ => none
  | (k, x, n) :: es, i => if eqKey k key = true then some (i, x, n) else findW key es (i + 1)

/-- The key occurs once at most. -/
def oneW (key : AV) : List (AV × AV × Nat) → Bool
  | [] => true
  | e :: es => if eqKey e.1 key = true then es.all (fun e => !eqKey e.1 key) else oneW key es

def evLookupW (H : Heap) (t : TypeId) (m k : AV) (ok : Bool) : Option AV :=
  match P.underlying t with
  | some (.map kt et) =>
    if wideK P kt = true ∧ (keyOk P kt k).isSome then
      match m with
      | .nilMap => (zeroOf P et).map fun z => if ok = true then .tuple [z, .bool false] else z
      | .map b =>
        match H.blk b with
        | some (.map es _) =>
          if es.all (fun e => (keyOk P kt e.1).isSome) = true ∧ oneW k es = true then
            match findW k es 0 with
            | some (_, v, _) => some (if ok = true then .tuple [v, .bool true] else v)
            | none => (zeroOf P et).map fun z => if ok = true then .tuple [z, .bool false] else z
          else none
        | _ => none
      | _ => none
    else none
  | _ => none

def evMapUpdateW (H : Heap) (t : TypeId) (m k x : AV) : Option Heap :=
  match P.underlying t, m with
  | some (.map kt _), .map b =>
    if wideK P kt = true ∧ (keyOk P kt k).isSome then
      match H.blk b with
      | some (.map es cl) =>
        if es.all (fun e => (keyOk P kt e.1).isSome) = true ∧ oneW k es = true then
          match findW k es 0 with
          | some (i, _, n) => some (H.set b (.map (es.set i (k, x, n)) cl))
          | none => some (H.set b (.map (es ++ [(k, x, cl)]) (cl + 1)))
        else none
      | _ => none
    else none
  | _, _ => none

/-- A map, read; or written: by the kind of the key. -/
def evLook (H : Heap) (t : TypeId) (m k : AV) (ok : Bool) : Option AV := match k with | .agg _ | .int _ _ => evLookupW P H t m k ok | _ => evLookup P H t m k ok
def evMapUpd (H : Heap) (t : TypeId) (m k x : AV) : Option Heap := match k with | .agg _ | .int _ _ => evMapUpdateW P H t m k x | _ => evMapUpdate P H t m k x

def evDelete (H : Heap) (ts : Array TypeId) (m k : AV) : Option (AV × Heap) :=
  match (ts[0]?).bind P.underlying, k, m with
  | some (.map kt _), .str l, .map b =>
    if isStrT P kt = true then
      match H.blk b with
      | some (.map es cl) =>
        match findK l es 0 with
        | some (some (i, _, _)) => some (.tuple [], H.set b (.map (es.eraseIdx i) cl))
        | some none => some (.tuple [], H.set b (.map es cl))
        | none => none
      | _ => none
    else none
  | _, _, _ => none

def evClear (H : Heap) (ts : Array TypeId) (x : AV) : Option (AV × Heap) :=
  match (ts[0]?).bind P.underlying, x with
  | some (.map _ _), .map b => (match H.blk b with | some (.map _ cl) => some (.tuple [], H.set b (.map [] cl)) | _ => none)
  | some (.slice _), .nilslice => some (.tuple [], H)
  | some (.slice _), .eslice => some (.tuple [], H)
  | some (.slice e), .slice b off len _ _ g =>
    if len = 0 then some (.tuple [], H) else
    match szOf P e, zeroOf P e, H.blk b with
    | some s, some z, some (.row ty sz els gen _) =>
      if g = gen ∧ sz = s ∧ z.isUndef = false ∧ z.cells.length = s ∧ z.cells.all AV.isCell = true ∧ off + len ≤ els.length then some (.tuple [], H.set b (.row ty sz (setAll els off (List.replicate len z.cells)) gen gen)) else none
    | _, _, _ => none
  | _, _ => none

/-- The bytes of a slice, as a string. -/
def bytesOfCells : List (List AV) → Option (List Nat)
  | [] => some []
  | [.int .u8 n] :: r => if 0 ≤ n ∧ n < 256 then (bytesOfCells r).map (n.toNat :: ·) else none
  | _ :: _ => none

def evBytes (H : Heap) (s d : TypeId) (x : AV) : Option AV :=
  match P.underlying s, P.underlying d with
  | some (.slice e), some .string =>
    match P.underlying e, x with
    | some (.int .u8), .slice _ _ len _ _ _ => ((H.elems 1 len x).bind bytesOfCells).map .str
    | _, _ => none
  | _, _ => none

/-- Text to bytes: a new row. -/
def isTextT (s d : TypeId) : Bool := match P.underlying s, P.underlying d with | some .string, some (.slice _) => true | _, _ => false
def evText (H : Heap) (d : TypeId) (x : AV) : Option (AV × Heap) :=
  match P.underlying d, x with
  | some (.slice e), .str l =>
    match P.underlying e with
    | some (.int .u8) => some (.slice H.next 0 l.length l.length false 0, H.push (.row e 1 (l.map fun (c : Nat) => [AV.int .u8 (c : Int)]) 0 0))
    | _ => none
  | _, _ => none

def evBuiltin (H : Heap) (b : Builtin) (ts : Array TypeId) (args : List AV) : Option (AV × Heap) :=
  match b, args with
  | .len, [x] =>
    match (ts[0]?).bind P.underlying, x with
    | some .string, .str s => some (.int .i64 s.length, H)
    | some (.slice _), .nilslice => some (.int .i64 0, H)
    | some (.slice _), .eslice => some (.int .i64 0, H)
    | some (.slice _), .slice _ _ n _ _ _ => some (.int .i64 n, H)
    | some (.slice _), .lst _ es => some (.int .i64 es.length, H)
    | some (.map _ _), .nilMap => some (.int .i64 0, H)
    | some (.map _ _), .map b => (match H.blk b with | some (.map es _) => some (.int .i64 es.length, H) | _ => none)
    | _, _ => none
  | .append, [s, x] =>
    match ts.toList with
    | [t, u] =>
      match elemOfSlice P t, P.underlying u with
      | some e, some d =>
        match P.info? e, d with
        | some _, .int _ => none
        | some i, _ =>
          match i.zero, x.len? with
          | some z, some n => if z.cells.size = i.size ∧ 0 < i.size then (H.elems i.size n x).bind fun new => H.append e i.size i.bytes s new else none
          | _, _ => none
        | _, _ => none
      | _, _ => none
    | _ => none
  | .max, [.int k a, .int k' b] => if k = k' then some (.int k (if b > a then b else a), H) else none
  | .min, [.int k a, .int k' b] => if k = k' then some (.int k (if b < a then b else a), H) else none
  | .delete, [m, k] => evDelete P H ts m k
  | .clear, [x] => evClear P H ts x
  | _, _ => none

def evOp (ρ : Operand → AV) (o : Oper) (H : Heap) : Option (AV × Heap) :=
  match o.op with
  | .move x | .assign x => some (ρ x, H)
  | .pick c a b => (match ρ c with | .bool t => some (if t then ρ a else ρ b, H) | _ => none)
  | .alloc t => (match zeroOf P t with
    | some z => if z.isUndef then none else some (.ptr H.next 0 0 0, H.push (.row t z.cells.length [z.cells] 0 0))
    | none => none)
  | .box t x => if (ρ x).isUndef then none else some (.ptr H.next 0 0 0, H.push (.row t (ρ x).cells.length [(ρ x).cells] 0 0))
  | .build t parts => (evBuild P t (parts.toList.map fun p => (p.1, ρ p.2))).map (·, H)
  | .buildSlice t len parts => evBuildSlice P H t len (parts.toList.map fun p => (p.1, ρ p.2))
  | .load t a => (match aggOf P t, szOf P t with
    | some true, some n => (H.load (ρ a) n).map fun cs => (.agg cs, H)
    | some false, _ => (match H.load (ρ a) 1 with | some [v] => some (v, H) | _ => none)
    | _, _ => none)
  | .store t a x => if (ρ x).isUndef = false ∧ szOf P t = some (ρ x).cells.length then (H.store (ρ a) (ρ x).cells).map fun H' => (.undef, H') else none
  | .binOp op t x y _ => (evBin P op t x y (ρ x) (ρ y)).map (·, H)
  | .unOp op _ x => (evUn op (ρ x)).map (·, H)
  | .convert s d x => if isTextT P s d = true then evText P H d (ρ x) else (match evConvert P s d (ρ x) with | some r => some (r, H) | none => (evBytes P H s d (ρ x)).map (·, H))
  | .makeMap _ none => some (.map H.next, H.push (.map [] 0))
  | .lookup t x k ok => (evLook P H t (ρ x) (ρ k) ok).map (·, H)
  | .mapUpdate t m k x => (evMapUpd P H t (ρ m) (ρ k) (ρ x)).map fun H' => (.undef, H')
  | .makeInterface t x => (match P.underlying t with | some d => if isIfaceD d then none else some (.iface t (ρ x), H) | none => none)
  | .makeFunc fn first captured => some (.func fn (first.toList.map ρ) (captured.toList.map ρ), H)
  | .makeSlice t l c => evMakeSlice P H t (ρ l) (ρ c)
  | .slice t x lo hi mx => (match optInt ρ lo, optInt ρ hi, optInt ρ mx with
    | some l, some h, some m => (evSlice P H t (ρ x) l h m).map (·, H)
    | _, _, _ => none)
  | .fieldAddr s x f => (match fieldOf P s f with
    | some fd => (match szOf P fd.type, ρ x with
      | some n, .ptr b i o g => if n = 0 then none else some (.ptr b i (o + fd.offset) g, H)
      | some n, .iptr cs o => if n = 0 then none else some (.iptr cs (o + fd.offset), H)
      | _, _ => none)
    | none => none)
  | .field s x f => (match fieldOf P s f, ρ x with
    | some fd, .agg cs => (partOf P fd.type cs fd.offset).map (·, H)
    | _, _ => none)
  | .indexAddr t x i => (evIndexAddr P H t (ρ x) (ρ i)).map (·, H)
  | .index t x i => (evIndex P t (ρ x) (ρ i)).map (·, H)
  | .extract t i => (match ρ t with | .tuple vs => (vs[i]?).map (·, H) | _ => none)
  | .nilCheck x => (match ρ x with | .ptr b i o g => some (.ptr b i o g, H) | .iptr cs o => some (.iptr cs o, H) | _ => none)
  | .call { callee := .builtin b, args, argTypes } => evBuiltin P H b argTypes (args.toList.map ρ)
  | _ => none

end
end Go.Ev
