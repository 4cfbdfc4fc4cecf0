/- The abstract operations: those on values alone, those that read, those that lay a block, those that change memory. -/
import Derived.Test.YtpoafkipnjfioaaGreatAbs0
namespace Go.Abs
open Go

def isAggT (P : Program) (t : TypeId) : Bool :=
  match P.underlying t with
  | some (.struct _) | some (.array ..) => true
  | _ => false
def szT (P : Program) (t : TypeId) : Option Nat := (P.info? t).map (·.size)
def bytesT (P : Program) (t : TypeId) : Option Nat := (P.info? t).map (·.bytes)

abbrev R := Option (AV × Mem)

def strLess : List UInt8 → List UInt8 → Bool
  | _, [] => false
  | [], _ :: _ => true
  | a :: x, b :: y => decide (a < b) || (decide (a = b) && strLess x y)

def intA (op : BinOp) (k : IntKind) (x y : Int) : Option AV :=
  match op with
  | .add => some (.int k (k.wrap (x + y)))
  | .sub => some (.int k (k.wrap (x - y)))
  | .mul => some (.int k (k.wrap (x * y)))
  | .quo => if y = 0 then none else some (.int k (k.wrap (x.tdiv y)))
  | .rem => if y = 0 then none else some (.int k (x.tmod y))
  | .and => some (.int k (k.wrap (BitVec.ofInt k.bits x &&& BitVec.ofInt k.bits y).toNat))
  | .or => some (.int k (k.wrap (BitVec.ofInt k.bits x ||| BitVec.ofInt k.bits y).toNat))
  | .xor => some (.int k (k.wrap (BitVec.ofInt k.bits x ^^^ BitVec.ofInt k.bits y).toNat))
  | .andNot => some (.int k (k.wrap (BitVec.ofInt k.bits x &&& ~~~(BitVec.ofInt k.bits y)).toNat))
  | .eql => some (.bool (x == y))
  | .neq => some (.bool (x != y))
  | .lss => some (.bool (decide (x < y)))
  | .leq => some (.bool (decide (x ≤ y)))
  | .gtr => some (.bool (decide (x > y)))
  | .geq => some (.bool (decide (x ≥ y)))
  | _ => none

def strA (op : BinOp) (x y : List UInt8) : Option AV :=
  match op with
  | .add => if x.length + y.length ≤ 4611686018427387904 then some (.str (x ++ y)) else none
  | .eql => some (.bool (x == y))
  | .neq => some (.bool !(x == y))
  | .lss => some (.bool (strLess x y))
  | .leq => some (.bool (strLess x y || x == y))
  | .gtr => some (.bool (!(strLess x y || x == y)))
  | .geq => some (.bool (!strLess x y))
  | _ => none

def shA (op : BinOp) (k : IntKind) (a b : Int) : Option AV :=
  if b < 0 then none else
  match op with
  | .shl => some (.int k (k.wrap (a * 2 ^ (min b.toNat k.bits))))
  | .shr => some (.int k (a.fdiv (2 ^ (min b.toNat k.bits))))
  | _ => none

/-- The cells of a part. -/
def partA (P : Program) (t : TypeId) (cs : List AV) (off : Nat) : Option AV :=
  match P.underlying t with
  | none => none
  | some _ => if isAggT P t then
      match szT P t with
      | some n => if off + n ≤ cs.length then some (.agg ((cs.drop off).take n)) else none
      | none => none
    else cs[off]?

/-- '==' of two values, of some kinds. -/
def eqFields (P : Program) (eq : TypeId → AV → AV → Option Bool) : List Field → List AV → List AV → Option Bool
    | [], _, _ => some true
    | f :: fs, xs, ys =>
      if f.name = "_" then eqFields P eq fs xs ys else
      match partA P f.type xs f.offset, partA P f.type ys f.offset with
      | some a, some b => match eq f.type a b with
        | some true => eqFields P eq fs xs ys
        | some false => some false
        | none => none
      | _, _ => none
def eqElems (P : Program) (eq : TypeId → AV → AV → Option Bool) (elem : TypeId) (n : Nat) (xs ys : List AV) : Nat → Nat → Option Bool
    | 0, _ => some true
    | k + 1, i =>
      match partA P elem xs (i * n), partA P elem ys (i * n) with
      | some a, some b => match eq elem a b with
        | some true => eqElems P eq elem n xs ys k (i + 1)
        | some false => some false
        | none => none
      | _, _ => none
def eqBool : AV → AV → Option Bool
  | .bool a, .bool b => some (a == b)
  | _, _ => none
def eqInt : AV → AV → Option Bool
  | .int k a, .int k' b => if k = k' then some (a == b) else none
  | _, _ => none
def eqStr : AV → AV → Option Bool
  | .str a, .str b => some (a == b)
  | _, _ => none
def eqPtr : AV → AV → Option Bool
  | .ptr none, .ptr b => some b.isNone
  | .ptr (some _), .ptr none => some false
  | _, _ => none
def eqSl : AV → AV → Option Bool
  | .sl none _ _ _ _, .sl b _ _ _ _ => some b.isNone
  | .sl (some _) _ _ _ _, .sl none _ _ _ _ => some false
  | _, _ => none
def eqMap : AV → AV → Option Bool
  | .map none, .map b => some b.isNone
  | .map (some _), .map none => some false
  | _, _ => none
def eqFn : AV → AV → Option Bool
  | .nilFn, .nilFn => some true
  | .nilFn, .fn .. => some false
  | .fn .., .nilFn => some false
  | _, _ => none
def eqIface : AV → AV → Option Bool
  | .nilIface, .iface .. => some false
  | .iface .., .nilIface => some false
  | _, _ => none
def aggOf : AV → Option (List AV)
  | .agg xs => some xs
  | _ => none
def eqA (P : Program) : Nat → TypeId → AV → AV → Option Bool
  | 0, _, _, _ => none
  | d + 1, t, x, y =>
    match P.underlying t with
    | some .bool => eqBool x y
    | some (.int _) => eqInt x y
    | some .string => eqStr x y
    | some (.pointer _) => eqPtr x y
    | some (.slice _) => eqSl x y
    | some (.map ..) => eqMap x y
    | some (.func ..) => eqFn x y
    | some (.interface _) => eqIface x y
    | some (.struct fields) => if P.stoodInHeld t then none else (aggOf x).bind fun xs => (aggOf y).bind fun ys => eqFields P (eqA P d) fields.toList xs ys
    | some (.array len elem) => (aggOf x).bind fun xs => (aggOf y).bind fun ys => (szT P elem).bind fun n => eqElems P (eqA P d) elem n xs ys len 0
    | _ => none

def isAggV : AV → Bool
  | .agg _ => true
  | _ => false

/-- '==' and '!=' where they are no numbers and no strings. -/
def eqT (P : Program) (neg : Bool) (t : TypeId) (x y : AV) : Option AV :=
  match (if isAggV x && P.eqGuardType P.depth t then none else eqA P 50 t x y) with
  | some b => some (.bool (if neg then !b else b))
  | none => none

def binA (P : Program) (op : BinOp) (t : TypeId) (x y : AV) : Option AV :=
  match x, y with
  | .int k a, .int k' b =>
    match op with
    | .shl | .shr => shA op k a b
    | _ => if k = k' then intA op k a b else none
  | .str a, .str b => match op with
    | .shl | .shr => none
    | _ => strA op a b
  | _, _ => match op with
    | .eql => eqT P false t x y
    | .neq => eqT P true t x y
    | _ => none

def unA (op : UnOp) (x : AV) : Option AV :=
  match op, x with
  | .neg, .int k n => some (.int k (k.wrap (0 - n)))
  | .xor, .int k n => intA .xor k (if k.signed then -1 else k.max) n
  | .not, .bool b => some (.bool !b)
  | _, _ => none

def nnA : AV → Option AV
  | .ptr (some a) => some (.ptr (some a))
  | .iface t v => some (.iface t v)
  | .fn (.func f) x y => some (.fn (.func f) x y)
  | .yld b => some (.yld b)
  | _ => none

def offA (x : AV) (n : Nat) : Option AV :=
  match x with
  | .ptr (some a) => some (.ptr (some ⟨a.b, a.o + n⟩))
  | _ => none

def fieldOf (P : Program) (s : TypeId) (f : Nat) : Option (Nat × TypeId) :=
  match P.underlying s with
  | some (.struct fields) => (fields.toList[f]?).map fun f => (f.offset, f.type)
  | _ => none

def fieldAddrA (P : Program) (s : TypeId) (x : AV) (f : Nat) : Option AV :=
  match fieldOf P s f with
  | some (off, ft) => match szT P ft with
    | some (_ + 1) => offA x off
    | _ => none
  | none => none

def fieldA (P : Program) (s : TypeId) (x : AV) (f : Nat) : Option AV :=
  match fieldOf P s f, x with
  | some (off, ft), .agg cs => partA P ft cs off
  | _, _ => none

def ixA (sz len : Nat) (a : AA) (i : Int) : Option AV :=
  if 0 ≤ i then if i < len then some (.ptr (some ⟨a.b, a.o + i.toNat * sz⟩)) else none else none

def indexAddrA (P : Program) (t : TypeId) (x i : AV) : Option AV :=
  match P.underlying t with
  | some (.slice e) => match x, i with
    | .sl (some a) sz len _ ex, .int _ n => match szT P e with
      | some s => if s = sz ∨ ex = true then ixA s len a n else none
      | none => none
    | _, _ => none
  | some (.array len e) => match x, i with
    | .ptr (some a), .int _ n => match szT P e with
      | some s => ixA s len a n
      | none => none
    | _, _ => none
  | _ => none

def indexA (P : Program) (t : TypeId) (x i : AV) : Option AV :=
  match P.underlying t with
  | some (.array len e) => match x, i with
    | .agg cs, .int _ n => if 0 ≤ n then if n < len then (match szT P e with | some s => partA P e cs (n.toNat * s) | none => none) else none else none
    | _, _ => none
  | some .string => match x, i with
    | .str s, .int _ n => if 0 ≤ n then (match s[n.toNat]? with | some c => some (.int .u8 c.toNat) | none => none) else none
    | _, _ => none
  | _ => none

/-- A slice's bounds: from 0 if none is given; to 'd'. -/
def loA : Option AV → Nat → Option Nat
  | none, _ => some 0
  | some (.int _ n), h => if 0 ≤ n then if n ≤ h then some n.toNat else none else none
  | _, _ => none
def hiA : Option AV → Nat → Nat → Option Nat
  | none, len, _ => some len
  | some (.int _ n), _, cap => if 0 ≤ n then if n ≤ cap then some n.toNat else none else none
  | _, _, _ => none

def sliceA (P : Program) (t : TypeId) (x : AV) (lo hi : Option AV) : Option AV :=
  match P.underlying t with
  | some .string => match x with
    | .str s => match hiA hi s.length s.length with
      | some h => match loA lo h with
        | some l => some (.str ((s.take h).drop l))
        | none => none
      | none => none
    | _ => none
  | some (.slice e) => match x, szT P e with
    | .sl a sz len cap ex, some s => match hiA hi len cap with
      | some h => match loA lo h with
        | some l => match a with
          | some a => if s = sz ∨ ex = true then some (.sl (some ⟨a.b, a.o + l * s⟩) s (h - l) (cap - l) ex) else none
          | none => if cap = 0 then some (.sl none s 0 0 true) else none
        | none => none
      | none => none
    | _, _ => none
  | some (.array n e) => match x, szT P e with
    | .ptr (some a), some s => match hiA hi n n with
      | some h => match loA lo h with
        | some l => some (.sl (some ⟨a.b, a.o + l * s⟩) s (h - l) (n - l) true)
        | none => none
      | none => none
    | _, _ => none
  | _ => none

/-- A slice of a slice with its capacity said. -/
def slice3A (P : Program) (t : TypeId) (x : AV) (lo : Option AV) (hi mx : AV) : Option AV :=
  match P.underlying t with
  | some (.slice e) => match x, szT P e with
    | .sl (some a) sz _ cap ex, some s => match hiA (some mx) 0 cap with
      | some m => match hiA (some hi) 0 m with
        | some h => match loA lo h with
          | some l => if s = sz ∨ ex = true then some (.sl (some ⟨a.b, a.o + l * s⟩) s (h - l) (m - l) true) else none
          | none => none
        | none => none
      | none => none
    | _, _ => none
  | _ => none

def convA (P : Program) (src dst : TypeId) (x : AV) : Option AV :=
  match P.underlying src, P.underlying dst, x with
  | some _, some (.int k), .int _ n => some (.int k (k.wrap n))
  | some .string, some .string, .str s => some (.str s)
  | _, _, _ => none

def extractA (x : AV) (i : Nat) : Option AV :=
  match x with
  | .tup vs => vs[i]?
  | _ => none

def mkIfaceA (P : Program) (t : TypeId) (x : AV) : Option AV :=
  match P.underlying t with
  | some (.interface _) | none => none
  | _ => some (.iface t x)

def pickA (c a b : AV) : Option AV :=
  match c with
  | .bool true => some a
  | .bool false => some b
  | _ => none

/-- The zero value's cells. -/
def zeroA (P : Program) (t : TypeId) : Option (List AV) :=
  match (P.info? t).bind (·.zero) with
  | some v => (ofV v).bind AV.cells
  | none => none

/-- Parts put into cells. -/
def fillA (place : Nat → Option (Nat × Nat)) (cs : List AV) : List (Nat × AV) → Option (List AV)
  | [] => some cs
  | (i, v) :: rest =>
    match place i, v.cells with
    | some (off, size), some vs =>
      if vs.length = size then if off + size ≤ cs.length then fillA place (cs.take off ++ vs ++ cs.drop (off + size)) rest else none else none
    | _, _ => none

noncomputable def evParts (P : Program) (t : List AV) : List (Nat × Operand) → Option (List (Nat × AV))
  | [] => some []
  | (i, x) :: xs => match ev P t x, evParts P t xs with
    | some a, some as => some ((i, a) :: as)
    | _, _ => none

def placesOf (P : Program) : List Field → Option (List (Nat × Nat))
  | [] => some []
  | f :: fs => match szT P f.type, placesOf P fs with
    | some n, some ps => some ((f.offset, n) :: ps)
    | _, _ => none

def buildA (P : Program) (t : TypeId) (parts : List (Nat × AV)) : Option AV :=
  match P.underlying t, zeroA P t with
  | some (.struct fields), some zs => match placesOf P fields.toList with
    | some ps => (fillA (ps[·]?) zs parts).map AV.agg
    | none => none
  | some (.array _ e), some zs => match szT P e with
    | some s => (fillA (fun i => some (i * s, s)) zs parts).map AV.agg
    | none => none
  | _, _ => none

def lenA (x : AV) : Option AV :=
  match x with
  | .str s => some (.int .i64 s.length)
  | .sl _ _ len _ _ => some (.int .i64 len)
  | _ => none
/-- 'len' by the type. -/
def lenT (P : Program) (t : TypeId) (x : AV) : Option AV :=
  match P.underlying t with
  | some .string => match x with | .str s => some (.int .i64 s.length) | _ => none
  | some (.array n _) => some (.int .i64 n)
  | some (.slice _) => match x with | .sl _ _ len _ _ => some (.int .i64 len) | _ => none
  | _ => none
def capT (P : Program) (t : TypeId) (x : AV) : Option AV :=
  match P.underlying t with
  | some (.slice _) => match x with | .sl _ _ _ cap true => some (.int .i64 cap) | _ => none
  | _ => none
def minA (x y : AV) : Option AV :=
  match x, y with
  | .int k a, .int _ b => some (.int k (if b < a then b else a))
  | _, _ => none
def maxA (x y : AV) : Option AV :=
  match x, y with
  | .int k a, .int _ b => some (.int k (if a < b then b else a))
  | _, _ => none

inductive Cls where
  | p | r | a | e
  deriving DecidableEq

def cls (P : Program) : Op → Cls
  | .load .. => .r
  | .alloc _ | .box .. | .buildSlice .. | .makeSlice .. => .a
  | .makeMap .. => .a
  | .lookup .. => .r
  | .convert src dst _ => match P.underlying src, P.underlying dst with
    | some (.slice _), some .string => .r
    | _, some (.slice _) => .a
    | _, _ => .p
  | .move _ | .assign _ | .pick .. | .nilCheck _ | .binOp .. | .unOp .. | .fieldAddr .. | .field .. | .indexAddr .. | .index .. | .slice .. | .extract ..
  | .makeInterface .. | .makeFunc .. | .build .. => .p
  | .call { callee := .builtin b, argTypes := ts, .. } => match b with
    | .len => match (ts[0]?).bind P.underlying with
      | some (.map ..) => .r
      | _ => .p
    | .cap | .min | .max => .p
    | _ => .e
  | _ => .e

/-- Operations on values alone. -/
noncomputable def pureOp (P : Program) (op : Op) (t : List AV) : Option AV :=
  match op with
  | .move x | .assign x => ev P t x
  | .pick c a b => (ev P t c).bind fun c => (ev P t a).bind fun a => (ev P t b).bind fun b => pickA c a b
  | .nilCheck x => (ev P t x).bind nnA
  | .binOp op xt x y _ => (ev P t x).bind fun a => (ev P t y).bind fun b => binA P op xt a b
  | .unOp op _ x => (ev P t x).bind (unA op)
  | .convert src dst x => (ev P t x).bind (convA P src dst)
  | .fieldAddr s x f => (ev P t x).bind fun a => fieldAddrA P s a f
  | .field s x f => (ev P t x).bind fun a => fieldA P s a f
  | .indexAddr s x i => (ev P t x).bind fun a => (ev P t i).bind fun b => indexAddrA P s a b
  | .index s x i => (ev P t x).bind fun a => (ev P t i).bind fun b => indexA P s a b
  | .slice s x lo hi none => (ev P t x).bind fun a =>
    match lo, hi with
    | none, none => sliceA P s a none none
    | some lo, none => (ev P t lo).bind fun l => sliceA P s a (some l) none
    | none, some hi => (ev P t hi).bind fun h => sliceA P s a none (some h)
    | some lo, some hi => (ev P t lo).bind fun l => (ev P t hi).bind fun h => sliceA P s a (some l) (some h)
  | .slice s x lo (some hi) (some mx) => (ev P t x).bind fun a => (ev P t hi).bind fun h => (ev P t mx).bind fun m =>
    match lo with
    | none => slice3A P s a none h m
    | some lo => (ev P t lo).bind fun l => slice3A P s a (some l) h m
  | .extract x i => (ev P t x).bind fun a => extractA a i
  | .makeInterface xt x => (ev P t x).bind (mkIfaceA P xt)
  | .makeFunc f first cap => (evs P t first.toList).bind fun a => (evs P t cap.toList).bind fun b => some (.fn f a b)
  | .build s parts => (evParts P t parts.toList).bind (buildA P s)
  | .call { callee := .builtin .len, args := ⟨[x]⟩, argTypes := ⟨[s]⟩ } => (ev P t x).bind (lenT P s)
  | .call { callee := .builtin .cap, args := ⟨[x]⟩, argTypes := ⟨[s]⟩ } => (ev P t x).bind (capT P s)
  | .call { callee := .builtin .min, args := ⟨[x, y]⟩, .. } => (ev P t x).bind fun a => (ev P t y).bind (minA a)
  | .call { callee := .builtin .max, args := ⟨[x, y]⟩, .. } => (ev P t x).bind fun a => (ev P t y).bind (maxA a)
  | _ => none

def bytesA : List AV → Option (List UInt8)
  | [] => some []
  | .int .u8 n :: cs => (bytesA cs).map (UInt8.ofNat n.toNat :: ·)
  | _ => none

noncomputable def loadA (P : Program) (t : TypeId) (x : AV) (m : Mem) : Option AV :=
  match P.underlying t with
  | none => none
  | some _ => if isAggT P t then (szT P t).bind (ldN m x) else ld1 m x

noncomputable def toStrA (P : Program) (src : TypeId) (x : AV) (m : Mem) : Option AV :=
  match P.underlying src with
  | some (.slice e) => match P.underlying e with
    | some (.int .u8) => match x with
      | .sl none _ _ _ _ => some (.str [])
      | .sl (some a) _ len _ _ => ((ldCells m a len).bind bytesA).map AV.str
      | _ => none
    | _ => none
  | _ => none

/-- Are two keys the same? Of whole numbers, and strings. -/
def keyEq (d : TypeDesc) : AV → AV → Option Bool
  | .int k a, .int k' b => match d with
    | .int _ => if k = k' then some (a == b) else none
    | _ => none
  | .str a, .str b => match d with
    | .string => some (a == b)
    | _ => none
  | _, _ => none

/-- A key is looked for: it is there once, or not at all. -/
def mget (d : TypeDesc) (k : AV) : List (AV × AV) → Option (Option AV)
  | [] => some none
  | (k', v) :: es => match keyEq d k k', mget d k es with
    | some true, some none => some (some v)
    | some false, some r => some r
    | _, _ => none
def mset (d : TypeDesc) (k v : AV) (es : List (AV × AV)) : List (AV × AV) := es.map fun e => if keyEq d k e.1 = some true then (k, v) else e
def mput (d : TypeDesc) (k v : AV) (es : List (AV × AV)) : Option (List (AV × AV)) :=
  match mget d k es with
  | some none => some (es ++ [(k, v)])
  | some (some _) => some (mset d k v es)
  | none => none
def mdel (d : TypeDesc) (k : AV) (es : List (AV × AV)) : Option (List (AV × AV)) :=
  match mget d k es with
  | some _ => some (es.filter fun e => !(keyEq d k e.1 == some true))
  | none => none

noncomputable def mapOf (m : Mem) (x : AV) : Option (List (AV × AV)) :=
  match x with
  | .map none => some []
  | .map (some b) => match m.get b with
    | some (.map es) => some es
    | _ => none
  | _ => none

/-- The zero value. -/
def zeroV (P : Program) (t : TypeId) : Option AV := ((P.info? t).bind (·.zero)).bind ofV

noncomputable def lookupA (P : Program) (t : TypeId) (x k : AV) (ok : Bool) (m : Mem) : Option AV :=
  match P.underlying t with
  | some (.map key elem) => (P.underlying key).bind fun d => (mapOf m x).bind fun es => (keyEq d k k).bind fun _ => (mget d k es).bind fun r =>
    match r with
    | some v => some (if ok then .tup [v, .bool true] else v)
    | none => (zeroV P elem).map fun v => if ok then .tup [v, .bool false] else v
  | _ => none
noncomputable def lenM (P : Program) (t : TypeId) (x : AV) (m : Mem) : Option AV :=
  match P.underlying t with
  | some (.map ..) => (mapOf m x).map fun es => .int .i64 es.length
  | _ => none

/-- Operations that read memory. -/
noncomputable def readOp (P : Program) (op : Op) (t : List AV) (m : Mem) : Option AV :=
  match op with
  | .load s x => (ev P t x).bind fun a => loadA P s a m
  | .convert src _ x => (ev P t x).bind fun a => toStrA P src a m
  | .lookup s x k ok => (ev P t x).bind fun a => (ev P t k).bind fun k => lookupA P s a k ok m
  | .call { callee := .builtin .len, args := ⟨[x]⟩, argTypes := ⟨[s]⟩ } => (ev P t x).bind fun a => lenM P s a m
  | _ => none

/-- An entry of a map is set, or taken out. -/
noncomputable def mapPut (P : Program) (t : TypeId) (x k v : AV) (m : Mem) : Option Mem :=
  match P.underlying t, x with
  | some (.map key _), .map (some b) => (P.underlying key).bind fun d => match m.get b with
    | some (.map es) => (keyEq d k k).bind fun _ => (mput d k v es).map fun es' => m.put b (some (.map es'))
    | _ => none
  | _, _ => none
noncomputable def mapDel (P : Program) (t : TypeId) (x k : AV) (m : Mem) : Option Mem :=
  match P.underlying t, x with
  | some (.map key _), .map (some b) => (P.underlying key).bind fun d => match m.get b with
    | some (.map es) => (keyEq d k k).bind fun _ => (mdel d k es).map fun es' => m.put b (some (.map es'))
    | _ => none
  | _, _ => none
/-- Cells of a slice made zero. -/
noncomputable def clearA (P : Program) (t : TypeId) (x : AV) (m : Mem) : Option Mem :=
  match P.underlying t with
  | some (.slice e) => match x with
    | .sl none _ 0 _ _ => some m
    | .sl (some a) sz len _ ex => (zeroA P e).bind fun zs => (szT P e).bind fun n =>
      if len = 0 then some m else if (n = sz ∨ ex = true) ∧ zs.length = n then stCells m a (List.replicate len zs).flatten else none
    | _ => none
  | _ => none

def maxBytes : Nat := 140737488355328

/-- Operations that lay a new block: its cells, and the value by the block's number. -/
noncomputable def allocOp (P : Program) (op : Op) (t : List AV) : Option (Blk × (Nat → AV)) :=
  match op with
  | .alloc e => (zeroA P e).map fun cs => (.cells cs false, fun b => .ptr (some ⟨b, 0⟩))
  | .box _ x => ((ev P t x).bind AV.cells).map fun cs => (.cells cs false, fun b => .ptr (some ⟨b, 0⟩))
  | .makeMap s none => match P.underlying s with
    | some (.map ..) => some (.map [], fun b => .map (some b))
    | _ => none
  | .buildSlice s len parts =>
    match P.underlying s with
    | some (.slice e) => match szT P e, zeroA P e with
      | some n, some zs => if len * n ≤ 16777216 ∧ zs.length = n then (evParts P t parts.toList).bind fun ps =>
          (fillA (fun i => some (i * n, n)) (List.replicate len zs).flatten ps).map fun cs => (.cells cs false, fun b => .sl (some ⟨b, 0⟩) n len len true) else none
      | _, _ => none
    | _ => none
  | .makeSlice s l c => (ev P t l).bind fun l => (ev P t c).bind fun c =>
    match P.underlying s, l, c with
    | some (.slice e), .int .i64 l, .int .i64 c => match szT P e, zeroA P e, bytesT P e with
      | some n, some zs, some w =>
        if 0 ≤ l ∧ l ≤ c ∧ c < 9223372036854775808 ∧ c.toNat * w ≤ maxBytes ∧ zs.length = n then
          some (.cells (List.replicate c.toNat zs).flatten false, fun b => .sl (some ⟨b, 0⟩) n l.toNat c.toNat true) else none
      | _, _, _ => none
    | _, _, _ => none
  | .convert src dst x => (ev P t x).bind fun x =>
    match (P.underlying src).isSome, P.underlying dst, x with
    | true, some (.slice e), .str s => match P.underlying e, szT P e with
      | some (.int .u8), some 1 => some (.cells (s.map fun c => .int .u8 c.toNat) true, fun b => .sl (some ⟨b, 0⟩) 1 s.length s.length false)
      | _, _ => none
    | _, _, _ => none
  | _ => none

/-- The cells that are appended. -/
noncomputable def srcA (sz : Nat) (x : AV) (m : Mem) : Option (Nat × List AV) :=
  match x with
  | .sl none _ 0 _ _ => some (0, [])
  | .sl (some a) s len _ ex => if s = sz ∨ ex = true then (ldCells m a (len * sz)).map fun cs => (len, cs) else none
  | .str s => if sz = 1 then some (s.length, s.map fun c => .int .u8 c.toNat) else none
  | _ => none

/-- append: within the capacity in place; beyond it into a new block: where the old capacity was not exact, the old block is dead. -/
noncomputable def appendA (sz w : Nat) (s x : AV) (m : Mem) : R :=
  match srcA sz x m with
  | none => none
  | some (n, new) =>
    if ¬ new.all AV.one then none else
    match s with
    | .sl none _ 0 0 _ =>
      if n = 0 then some (.sl none sz 0 0 true, m)
      else if n * w ≤ maxBytes then some (.sl (some ⟨m.next, 0⟩) sz n n false, m.alloc new) else none
    | .sl (some a) s' len cap ex =>
      if s' = sz ∨ ex = true then
        if len + n ≤ cap then (stCells m ⟨a.b, a.o + len * sz⟩ new).map fun m' => (.sl (some a) sz (len + n) cap ex, m')
        else if (len + n) * w ≤ maxBytes then
          match ldCells m a (len * sz) with
          | some old =>
            if ex then some (.sl (some ⟨m.next, 0⟩) sz (len + n) (len + n) false, m.alloc (old ++ new))
            else match m.get a.b with
              | some (.cells _ false) => some (.sl (some ⟨m.next, 0⟩) sz (len + n) (len + n) false, (m.put a.b none).alloc (old ++ new))
              | _ => none
          | none => none
        else none
      else none
    | _ => none

/-- append of so many zero values, where there is no room. -/
noncomputable def appendZ (P : Program) (st : TypeId) (s x : AV) (m : Mem) : R :=
  match P.underlying st with
  | some (.slice e) => (zeroA P e).bind fun zs => (szT P e).bind fun n => (bytesT P e).bind fun w =>
    match s, x with
    | .sl (some a) _ len cap true, .int _ k =>
      if 0 < k ∧ zs.length = n ∧ 0 < n ∧ 0 < w ∧ 0 < cap ∧ len ≤ cap ∧ cap < len + k.toNat ∧ (len + k.toNat) * w ≤ maxBytes then
        (ldCells m a (len * n)).map fun old => (.sl (some ⟨m.next, 0⟩) n (len + k.toNat) (len + k.toNat) false, m.alloc (old ++ (List.replicate k.toNat zs).flatten)) else none
    | _, _ => none
  | _ => none

noncomputable def copyA (sz : Nat) (d x : AV) (m : Mem) : R :=
  match d, srcA sz x m with
  | .sl a s len _ ex, some (n, cs) =>
    if min n len = 0 then some (.int .i64 0, m) else
    match a with
    | some a => if s = sz ∨ ex = true then (if (cs.take (min n len * sz)).all AV.one then (stCells m a (cs.take (min n len * sz))).map fun m' => (.int .i64 (min n len : Nat), m') else none) else none
    | none => none
  | _, _ => none

end Go.Abs
