/-
  THE OPERATIONS, IN SHORT: what an operation does to a known part of the heap, its types looked up beforehand; each shown against the model's own 'execOp'.
-/
import Derived.Test.YtgbhdpeibiglfaaDoorSep
set_option linter.unusedVariables false
set_option linter.unusedSimpArgs false
namespace Go.Proofs.YtgbhdpeibiglfaaDoor.Sep
open Go Go.RowKit

/-- what a value's parts are told apart by -/
inductive Leaf where
  | b | i | s
/-- Instructions that only look. -/
inductive QI where
  | mv | pick
  | ld | ldn (n : Nat)
  | fad (off : Nat)
  | iad (sz : Nat) | iada (len sz : Nat)
  | ixs | ixa (len sz : Nat) (agg : Bool)
  | fld (off : Nat) | fldn (off n : Nat)
  | ext (i : Nat)
  | bin (op : BinOp)
  | eqb (neg : Bool) | eqp (neg : Bool) | eqs (neg : Bool) | ein (neg : Bool)
  | un (op : UnOp)
  | cvi (k : IntKind) | idv | b2s
  | lens | len | cap | lenc (n : Nat)
  | slc (sz : Nat) (lo hi mx : Bool) | sls (lo hi : Bool) | sla (n sz : Nat) (lo hi : Bool)
  | nilc
  | mkf (fn : Fn) (first : Nat)
  | mki (t : TypeId) | tas (t : TypeId)
  | build (zero : Array Value) (places : List (Nat × Nat))
  | min2 | max2
  | eqa (ls : List (Nat × Leaf)) (neg : Bool)
  | s2a (n : Nat)
/-- Instructions that do more. -/
inductive EI where
  | new (zero : Array Value) (T : TypeId)
  | box (T : TypeId)
  | lits (T : TypeId) (zero : Array Value) (len : Nat) (places : List (Nat × Nat))
  | st (n : Nat)
  | mks (T : TypeId) (sz bytes : Nat) (zero : Array Value)
  | call (f : FuncId)
  | callv
  | app (T : TypeId) (sz bytes : Nat) (zero : Array Value)
  | appz (T : TypeId) (sz bytes : Nat) (zero : Array Value)
  | copy (sz : Nat)
  | s2b (T : TypeId)
  | mrk
  | clr (sz : Nat) (zero : Array Value)
  | pan
inductive Ins where
  | q (i : QI)
  | e (i : EI)

/-! ### What they answer -/
def intV (op : BinOp) (k : IntKind) (a b : Int) : Option Value :=
  match op with
  | .add => some (.int k (k.wrap (a + b)))
  | .sub => some (.int k (k.wrap (a - b)))
  | .mul => some (.int k (k.wrap (a * b)))
  | .quo => if b = 0 then none else some (.int k (k.wrap (a.tdiv b)))
  | .rem => if b = 0 then none else some (.int k (a.tmod b))
  | .and => some (.int k (k.wrap (BitVec.ofInt k.bits a &&& BitVec.ofInt k.bits b).toNat))
  | .or => some (.int k (k.wrap (BitVec.ofInt k.bits a ||| BitVec.ofInt k.bits b).toNat))
  | .xor => some (.int k (k.wrap (BitVec.ofInt k.bits a ^^^ BitVec.ofInt k.bits b).toNat))
  | .andNot => some (.int k (k.wrap (BitVec.ofInt k.bits a &&& ~~~BitVec.ofInt k.bits b).toNat))
  | .eql => some (.bool (a == b))
  | .neq => some (.bool (a != b))
  | .lss => some (.bool (a < b))
  | .leq => some (.bool (a ≤ b))
  | .gtr => some (.bool (a > b))
  | .geq => some (.bool (a ≥ b))
  | _ => none
def shiftV (op : BinOp) (k : IntKind) (a b : Int) : Option Value :=
  if b < 0 then none else
  match op with
  | .shl => some (.int k (k.wrap (a * 2 ^ min b.toNat k.bits)))
  | .shr => some (.int k (a.fdiv (2 ^ min b.toNat k.bits)))
  | _ => none
def strV (op : BinOp) (x y : ByteArray) : Option Value :=
  match op with
  | .add => if ((x.size + y.size : Nat) : Int) > IntKind.i64.max then none else some (.string (x ++ y))
  | .eql => some (.bool (x.toList == y.toList))
  | .neq => some (.bool !(x.toList == y.toList))
  | .lss => some (.bool (Op.bytesLess x.toList y.toList))
  | .leq => some (.bool (Op.bytesLess x.toList y.toList || x.toList == y.toList))
  | .gtr => some (.bool !(Op.bytesLess x.toList y.toList || x.toList == y.toList))
  | .geq => some (.bool !(Op.bytesLess x.toList y.toList))
  | _ => none
def binV (op : BinOp) (x y : Value) : Option Value :=
  match op, x, y with
  | .shl, .int k a, .int _ b => shiftV .shl k a b
  | .shr, .int k a, .int _ b => shiftV .shr k a b
  | op, .int k a, .int k' b => if k = k' then intV op k a b else none
  | op, .string a, .string b => strV op a b
  | _, _, _ => none
def unV (op : UnOp) (x : Value) : Option Value :=
  match op, x with
  | .neg, .int k n => some (.int k (k.wrap (0 - n)))
  | .xor, .int k n => some (.int k (k.wrap (BitVec.ofInt k.bits (if k.signed then -1 else k.max) ^^^ BitVec.ofInt k.bits n).toNat))
  | .not, .bool b => some (.bool !b)
  | _, _ => none
/-- n cells from an address on -/
def Heap.loadN (H : Heap) (a : Addr) (i : Nat) : Nat → Option (List Value)
  | 0 => some []
  | n + 1 => match H.cell? (a.add i) with
    | some v => (H.loadN a (i + 1) n).map (v :: ·)
    | none => none
def scalarV : Value → Bool
  | .agg _ | .tuple _ => false
  | _ => true
def Heap.storeN (H : Heap) (a : Addr) (i : Nat) : List Value → Option Heap
  | [] => some H
  | v :: rest => if scalarV v && (H.cell? (a.add i)).isSome && !H.frozen? (a.add i) then (H.setCell (a.add i) v).storeN a (i + 1) rest else none
def boundV (x : Value) (y : Nat) : Option Nat :=
  match x with
  | .int _ i => if 0 ≤ i ∧ i ≤ y then some i.toNat else none
  | _ => none
/-- the bounds of a cut: the operands that are there, in order -/
def boundsV (len cap : Nat) (lo hi mx : Bool) (xs : List Value) : Option (Nat × Nat × Nat) :=
  match lo, hi, mx, xs with
  | false, false, false, [] => some (0, len, cap)
  | true, false, false, [l] => (boundV l len).map fun l => (l, len, cap)
  | false, true, false, [h] => (boundV h cap).map fun h => (0, h, cap)
  | true, true, false, [l, h] => (boundV h cap).bind fun h => (boundV l h).map fun l => (l, h, cap)
  | false, true, true, [h, m] => (boundV m cap).bind fun m => (boundV h m).map fun h => (0, h, m)
  | true, true, true, [l, h, m] => (boundV m cap).bind fun m => (boundV h m).bind fun h => (boundV l h).map fun l => (l, h, m)
  | _, _, _, _ => none
def byteOf : Value → Option UInt8
  | .int .u8 n => some (UInt8.ofNat n.toNat)
  | _ => none
def fillV (cells : Array Value) : List ((Nat × Nat) × Value) → Option (Array Value)
  | [] => some cells
  | ((off, size), v) :: rest =>
    if v.cells.size ≠ size || off + v.cells.size > cells.size then none
    else fillV (v.cells.zipIdx.foldl (fun cs (c, j) => cs.setIfInBounds (off + j) c) cells) rest

def leafV : Leaf → Value → Value → Option Bool
  | .b, .bool a, .bool c => some (a == c)
  | .i, .int k a, .int k' c => if k = k' then some (a == c) else none
  | .s, .string a, .string c => some (a == c)
  | _, _, _ => none
def allV : List (Nat × Leaf) → (Nat → Option Value) → (Nat → Option Value) → Option Bool
  | [], _, _ => some true
  | (o, l) :: r, f, g => match f o, g o with
    | some x, some y => match leafV l x y, allV r f g with
      | some a, some c => some (a && c)
      | _, _ => none
    | _, _ => none

def QI.ev (q : QI) (xs : List Value) (H : Heap) : Option Value :=
  match q, xs with
  | .mv, [x] => some x
  | .pick, [.bool c, a, b] => some (if c then a else b)
  | .ld, [.pointer (some a)] => H.cell? a
  | .ldn n, [.pointer (some a)] => (H.loadN a 0 n).map fun l => .agg l.toArray
  | .fad off, [.pointer (some a)] => some (.pointer (some (a.add off)))
  | .iad sz, [.slice (some a) ln _, .int _ i] => if 0 ≤ i ∧ i < ln then some (.pointer (some (a.add (i.toNat * sz)))) else none
  | .iada ln sz, [.pointer (some a), .int _ i] => if 0 ≤ i ∧ i < ln then some (.pointer (some (a.add (i.toNat * sz)))) else none
  | .ixs, [.string s, .int _ i] => if 0 ≤ i then (s[i.toNat]?).map fun b => .int .u8 b.toNat else none
  | .ixa ln sz agg, [.agg cs, .int _ i] => if 0 ≤ i ∧ i < ln then (if agg then some (.agg (cs.extract (i.toNat * sz) (i.toNat * sz + sz))) else cs[i.toNat * sz]?) else none
  | .fld off, [.agg cs] => cs[off]?
  | .fldn off n, [.agg cs] => some (.agg (cs.extract off (off + n)))
  | .ext i, [.tuple vs] => vs[i]?
  | .bin op, [x, y] => binV op x y
  | .eqb neg, [.bool a, .bool b] => some (.bool ((a == b) != neg))
  | .eqp neg, [.pointer none, .pointer b] => some (.bool (b.isNone != neg))
  | .eqp neg, [.pointer (some _), .pointer none] => some (.bool (false != neg))
  | .eqs neg, [.slice none _ _, .slice b _ _] => some (.bool (b.isNone != neg))
  | .eqs neg, [.slice (some _) _ _, .slice none _ _] => some (.bool (false != neg))
  | .ein neg, [.nilIface, .nilIface] => some (.bool (true != neg))
  | .ein neg, [.iface _ _, .nilIface] => some (.bool (false != neg))
  | .un op, [x] => unV op x
  | .cvi k, [.int _ n] => some (.int k (k.wrap n))
  | .idv, [.string s] => some (.string s)
  | .b2s, [.slice none _ _] => some (.string .empty)
  | .b2s, [.slice (some a) n _] => match H.loadN a 0 n with
    | some l => (l.mapM byteOf).map fun bs => .string ⟨bs.toArray⟩
    | none => none
  | .lens, [.string s] => some (.int .i64 s.size)
  | .len, [.slice _ n _] => some (.int .i64 n)
  | .lenc n, [_] => some (.int .i64 n)
  | .cap, [.slice _ _ c] => some (.int .i64 c)
  | .slc sz lo hi mx, .slice a ln cp :: bs => (boundsV ln cp lo hi mx bs).map fun (l, h, m) => .slice (if m = l then a else a.map (·.add (l * sz))) (h - l) (m - l)
  | .sls lo hi, .string s :: bs => (boundsV s.size s.size lo hi false bs).map fun (l, h, _) => .string (s.extract l h)
  | .sla n sz lo hi, .pointer (some a) :: bs => (boundsV n n lo hi false bs).map fun (l, h, m) => .slice (some (if m = l then a else a.add (l * sz))) (h - l) (m - l)
  | .nilc, [.pointer (some a)] => some (.pointer (some a))
  | .mkf fn n, xs => some (.func fn (xs.take n).toArray (xs.drop n).toArray)
  | .mki t, [x] => some (.iface t x)
  | .tas t, [.iface u v] => if u = t then some v else none
  | .build zero places, xs => if places.length = xs.length then (fillV zero (places.zip xs)).map .agg else none
  | .min2, [.int k x, .int _ y] => some (.int k (if y < x then y else x))
  | .max2, [.int k x, .int _ y] => some (.int k (if y > x then y else x))
  | .s2a n, [.slice a ln _] => if n ≤ ln then some (.pointer a) else none
  | .eqa ls neg, [.agg xs, .agg ys] => (allV ls (fun i => xs[i]?) (fun i => ys[i]?)).map fun r => .bool (r != neg)
  | _, _ => none

def lenV : Value → Option Nat
  | .slice _ n _ => some n
  | .string s => some s.size
  | _ => none
def cellsV (sz n : Nat) (x : Value) (H : Heap) : Option (List Value) :=
  match x with
  | .slice (some a) _ _ => H.loadN a 0 (n * sz)
  | .slice none _ _ => some []
  | .string s => some ((s.extract 0 n).data.toList.map fun b => .int .u8 b.toNat)
  | _ => none
/-- n cells of a row of zeros -/
def rowV (zero : Array Value) (n : Nat) : Array Value := (Array.range n).map (zero[· % zero.size]!)

/-- What a call or a value ends with. -/
def endK (K : Value → Heap → Prop) (KP : List PanicEntry → Heap → Prop) (e : Ending) (H : Heap) : Prop :=
  match e with
  | .returned v => K v H
  | .panicked ch => KP ch H
  | .outgrown => False

def callable (P : Program) (f : FuncId) : Bool := (P.funcs[f]?).any fun fn => fn.body.isSome && fn.name != "runtime.NumGoroutine"

def zerosV (sz : Nat) (zero : Array Value) (n : Nat) : List Value := if n * sz = 0 then [] else (Builtin.zeroCells zero n).toList
/-- n new elements, their cells 'new', are put behind a slice -/
def appE (T : TypeId) (sz bytes : Nat) (zero : Array Value) (base : Option Addr) (sLen sCap n : Nat) (new : List Value) (K : Value → Heap → Prop) (H : Heap) : Prop :=
  (sLen + n ≤ sCap → match base with
    | some a => match H.storeN (a.add (sLen * sz)) 0 new with
      | some H' => K (.slice base (sLen + n) sCap) H'
      | none => False
    | none => K (.slice none (sLen + n) sCap) H) ∧
  (sCap < sLen + n → Builtin.nextslicecap (sLen + n) sCap * bytes ≤ 281474976710656 ∧ match cellsV sz sLen (.slice base sLen sCap) H with
    | none => False
    | some old => ∀ r c, sLen + n ≤ c → Newer H r → K (.slice (some ⟨r, 0, none⟩) (sLen + n) c) (H.set r (.cells ((old ++ new).toArray ++ Builtin.zeroCells zero (c - (sLen + n))) T (0, 0))))

def awpE (P : Program) (e : EI) (xs : List Value) (K : Value → Heap → Prop) (KP : List PanicEntry → Heap → Prop) (H : Heap) : Prop :=
  match e, xs with
  | .new zero T, [] => ∀ r, H r = none → K (.pointer (some ⟨r, 0, none⟩)) (H.set r (.cells zero T (0, 0)))
  | .box T, [x] => ∀ r, H r = none → K (.pointer (some ⟨r, 0, none⟩)) (H.set r (.cells x.cells T (0, 0)))
  | .lits T zero len places, xs => match (if places.length = xs.length then fillV zero (places.zip xs) else none) with
    | some cs => ∀ r, H r = none → K (.slice (some ⟨r, 0, none⟩) len len) (H.set r (.cells cs T (0, 0)))
    | none => False
  | .st n, [.pointer (some a), v] => v.cells.size = n ∧ match H.storeN a 0 v.cells.toList with
    | some H' => K undef H'
    | none => False
  | .mks T sz bytes zero, [.int _ l, .int _ c] => 0 ≤ l ∧ l ≤ c ∧ bytes * c ≤ 281474976710656 ∧ c ≤ 281474976710656 ∧
      ∀ r, H r = none → K (.slice (some ⟨r, 0, none⟩) l.toNat c.toNat) (H.set r (.cells (rowV (if c.toNat * sz = 0 then #[] else zero) (c.toNat * sz)) T (0, 0)))
  | .call f, args => ∃ S, ACalls P f args.toArray H S ∧ ∀ e H', S e H' → endK K KP e H'
  | .callv, .func (.func f) first captured :: args => callable P f = true ∧ ∃ S, ACalls P f (first ++ args.toArray ++ captured) H S ∧ ∀ e H', S e H' → endK K KP e H'
  | .app T sz bytes zero, [.slice base sLen sCap, x] => match lenV x with
    | none => False
    | some n => match cellsV sz n x H with
      | none => False
      | some new => appE T sz bytes zero base sLen sCap n new K H
  | .appz T sz bytes zero, [.slice base sLen sCap, .int _ l] => 0 ≤ l ∧ (sLen : Int) + l ≤ 9223372036854775807 ∧ l * bytes ≤ 281474976710656 ∧ appE T sz bytes zero base sLen sCap l.toNat (zerosV sz zero l.toNat) K H
  | .copy sz, [.slice base dLen _, src] => match lenV src with
    | none => False
    | some m => match cellsV sz (min m dLen) src H with
      | none => False
      | some cs => match base with
        | some a => match H.storeN a 0 cs with
          | some H' => K (.int .i64 (min m dLen : Nat)) H'
          | none => False
        | none => K (.int .i64 (min m dLen : Nat)) H
  | .s2b T, [.string s] => ∀ r c, s.size ≤ c → H r = none → K (.slice (some ⟨r, 0, none⟩) s.size c) (H.set r (.cells ((s.data.map fun b => .int .u8 b.toNat) ++ Array.replicate (c - s.size) (.int .u8 0)) T (c, c + 1)))
  | .mrk, [.slice (some a) n c] => match H a.block with
    | some (.cells cs e (0, 0)) => K (.slice (some a) n c) (H.set a.block (.cells cs e (cs.size, cs.size + 1)))
    | _ => False
  | .clr sz zero, [.slice a n _] => match a with
    | none => K (.tuple #[]) H
    | some a => if n = 0 then K (.tuple #[]) H else match H.storeN a 0 (Builtin.zeroCells zero n).toList with
      | some H' => K (.tuple #[]) H'
      | none => False
  | .pan, [.iface t v] => KP [{ v := .iface t v, recovered := false }] H
  | _, _ => False

/-! ### How an operation is written in short -/
def sizeP (P : Program) (t : TypeId) : Option Nat := (P.info? t).map (·.size)
def aggP (P : Program) (t : TypeId) : Option Bool := (P.underlying t).map fun | .struct _ | .array _ _ => true | _ => false
def zeroP (P : Program) (t : TypeId) : Option (Array Value) := (P.info? t).bind fun i => i.zero.map (·.cells)
def bytesP (P : Program) (t : TypeId) : Option Nat := (P.info? t).map (·.bytes)
def boundOps (lo hi mx : Option Operand) : List Operand := lo.toList ++ hi.toList ++ mx.toList
def fieldPlaces (P : Program) (fs : Array Field) (parts : List (Nat × Operand)) : Option (List (Nat × Nat)) :=
  if (fs.all fun f => (sizeP P f.type).isSome) then parts.mapM fun (i, _) => match fs[i]? with
    | some f => (sizeP P f.type).map fun s => (f.offset, s)
    | none => none
  else none

def shiftL (off : Nat) (ls : List (Nat × Leaf)) : List (Nat × Leaf) := ls.map fun x => (off + x.1, x.2)
def joinL (off : Nat) (n : Option Nat) (ls acc : Option (List (Nat × Leaf))) : Option (List (Nat × Leaf)) := match n, ls, acc with
  | some n, some ls, some acc => if (ls.all fun x => decide (x.1 < n)) then some (shiftL off ls ++ acc) else none
  | _, _, _ => none
/-- the parts by which values of a type are told apart -/
def eqLeaves (P : Program) : Nat → TypeId → Option (List (Nat × Leaf))
  | 0, _ => none
  | d + 1, t => match P.underlying t with
    | some .bool => some [(0, .b)]
    | some (.int _) => some [(0, .i)]
    | some .string => some [(0, .s)]
    | some (.struct fs) => if P.stoodInHeld t then none else fs.toList.foldr (fun f acc => if f.name = "_" then none else joinL f.offset (sizeP P f.type) (eqLeaves P d f.type) acc) (some [])
    | some (.array len e) => match sizeP P e with
      | some n => (List.range len).foldr (fun i acc => joinL (i * n) (some n) (eqLeaves P d e) acc) (some [])
      | none => none
    | _ => none
def eqAll (P : Program) (t : TypeId) : Option (List (Nat × Leaf)) := if P.eqGuardType P.depth t then none else eqLeaves P 20 t

def lowOp (P : Program) (o : Oper) : Option (Ins × List Operand) :=
  match o.op with
  | .move x | .assign x => some (.q .mv, [x])
  | .pick c a b => some (.q .pick, [c, a, b])
  | .load t x => match aggP P t, sizeP P t with
    | some true, some n => some (.q (.ldn n), [x])
    | some false, _ => some (.q .ld, [x])
    | _, _ => none
  | .fieldAddr t x f => match P.underlying t with
    | some (.struct fs) => match fs[f]? with
      | some fl => match sizeP P fl.type with
        | some (n + 1) => some (.q (.fad fl.offset), [x])
        | _ => none
      | none => none
    | _ => none
  | .indexAddr t x i => match P.underlying t with
    | some (.slice e) => match sizeP P e with
      | some n => some (.q (.iad n), [x, i])
      | none => none
    | some (.array len e) => match sizeP P e with
      | some n => some (.q (.iada len n), [x, i])
      | none => none
    | _ => none
  | .index t x i => match P.underlying t with
    | some .string => some (.q .ixs, [x, i])
    | some (.array len e) => match aggP P e, sizeP P e with
      | some b, some n => some (.q (.ixa len n b), [x, i])
      | _, _ => none
    | _ => none
  | .field t x f => match P.underlying t with
    | some (.struct fs) => match fs[f]? with
      | some fl => match aggP P fl.type, sizeP P fl.type with
        | some true, some n => some (.q (.fldn fl.offset n), [x])
        | some false, _ => some (.q (.fld fl.offset), [x])
        | _, _ => none
      | none => none
    | _ => none
  | .extract x i => some (.q (.ext i), [x])
  | .binOp op t x y _ => match P.underlying t with
    | some (.int _) | some .string => some (.q (.bin op), [x, y])
    | some .bool => match op with
      | .eql => some (.q (.eqb false), [x, y])
      | .neq => some (.q (.eqb true), [x, y])
      | _ => none
    | some (.pointer e) => match op with
      | .eql => some (.q (.eqp false), [x, y])
      | .neq => some (.q (.eqp true), [x, y])
      | _ => none
    | some (.slice _) => match op with
      | .eql => some (.q (.eqs false), [x, y])
      | .neq => some (.q (.eqs true), [x, y])
      | _ => none
    | some (.interface _) => match op, y with
      | .eql, .const .nilIface => some (.q (.ein false), [x, y])
      | .neq, .const .nilIface => some (.q (.ein true), [x, y])
      | _, _ => none
    | some (.struct _) | some (.array _ _) => match op, eqAll P t with
      | .eql, some ls => some (.q (.eqa ls false), [x, y])
      | .neq, some ls => some (.q (.eqa ls true), [x, y])
      | _, _ => none
    | _ => none
  | .unOp op _ x => some (.q (.un op), [x])
  | .convert s d x => match P.underlying s, P.underlying d with
    | some (.int _), some (.int k) => some (.q (.cvi k), [x])
    | some .string, some .string => some (.q .idv, [x])
    | some (.slice e), some .string => match P.underlying e with
      | some (.int .u8) => some (.q .b2s, [x])
      | _ => none
    | some .string, some (.slice e) => match P.underlying e with
      | some (.int .u8) => some (.e (.s2b e), [x])
      | _ => none
    | some (.slice _), some (.slice e) => if (s == d) = true then match P.underlying e with
      | some (.int .u8) => some (.e .mrk, [x])
      | _ => none
      else none
    | _, _ => none
  | .nilCheck x => some (.q .nilc, [x])
  | .makeFunc fn first captured => some (.q (.mkf fn first.size), first.toList ++ captured.toList)
  | .makeInterface t x => match P.underlying t with
    | some (.interface _) | none => none
    | some _ => some (.q (.mki t), [x])
  | .typeAssert x _ t false => match P.underlying t with
    | some (.interface _) | none => none
    | some _ => some (.q (.tas t), [x])
  | .slice t x lo hi mx => match P.underlying t with
    | some .string => if mx.isNone then some (.q (.sls lo.isSome hi.isSome), x :: boundOps lo hi none) else none
    | some (.slice e) => match sizeP P e with
      | some n => if mx.isSome && hi.isNone then none else some (.q (.slc n lo.isSome hi.isSome mx.isSome), x :: boundOps lo hi mx)
      | none => none
    | some (.array n e) => match sizeP P e with
      | some s => if mx.isNone then some (.q (.sla n s lo.isSome hi.isSome), x :: boundOps lo hi none) else none
      | none => none
    | _ => none
  | .build t parts => match zeroP P t, P.underlying t with
    | some z, some (.struct fs) => match fieldPlaces P fs parts.toList with
      | some ps => some (.q (.build z ps), parts.toList.map (·.2))
      | none => none
    | some z, some (.array _ e) => match sizeP P e with
      | some s => some (.q (.build z (parts.toList.map fun (i, _) => (i * s, s))), parts.toList.map (·.2))
      | none => none
    | _, _ => none
  | .alloc t => match zeroP P t with
    | some z => some (.e (.new z t), [])
    | none => none
  | .box t x => some (.e (.box t), [x])
  | .buildSlice t len parts => match P.underlying t with
    | some (.slice e) => match sizeP P e, zeroP P e with
      | some s, some z => if len * s > 2 ^ 24 then none else
          some (.e (.lits e (rowV (if len * s = 0 then #[] else z) (len * s)) len (parts.toList.map fun (i, _) => (i * s, s))), parts.toList.map (·.2))
      | _, _ => none
    | _ => none
  | .store t a v => match sizeP P t with
    | some n => some (.e (.st n), [a, v])
    | none => none
  | .makeSlice t l c => match P.underlying t with
    | some (.slice e) => match sizeP P e, bytesP P e, zeroP P e with
      | some s, some b, some z => some (.e (.mks e s b z), [l, c])
      | _, _, _ => none
    | _ => none
  | .panic x => some (.e .pan, [x])
  | .call c => match c.callee with
    | .value (.func f) => if callable P f then some (.e (.call f), c.args.toList) else none
    | .value x => some (.e .callv, x :: c.args.toList)
    | .builtin .len => match c.args.toList, c.argTypes[0]? with
      | [x], some t => match P.underlying t with
        | some .string => some (.q .lens, [x])
        | some (.slice _) => some (.q .len, [x])
        | some (.array n _) => some (.q (.lenc n), [x])
        | _ => none
      | _, _ => none
    | .builtin .cap => match c.args.toList, c.argTypes[0]? with
      | [x], some t => match P.underlying t with
        | some (.slice _) => some (.q .cap, [x])
        | _ => none
      | _, _ => none
    | .builtin .min => match c.args.toList with
      | [x, y] => some (.q .min2, [x, y])
      | _ => none
    | .builtin .max => match c.args.toList with
      | [x, y] => some (.q .max2, [x, y])
      | _ => none
    | .builtin .append => match c.args.toList, c.argTypes[0]?, c.argTypes[1]? with
      | [s, x], some t, some u => match P.underlying t, P.underlying u with
        | some (.slice e), some d => match d with
          | .int _ => match sizeP P e, bytesP P e, zeroP P e with
            | some n, some (b + 1), some z => some (.e (.appz e n (b + 1) z), [s, x])
            | _, _, _ => none
          | _ => match sizeP P e, bytesP P e, zeroP P e with
            | some n, some (b + 1), some z => some (.e (.app e n (b + 1) z), [s, x])
            | _, _, _ => none
        | _, _ => none
      | _, _, _ => none
    | .builtin .copy => match c.args.toList, c.argTypes[0]? with
      | [d, s], some t => match P.underlying t with
        | some (.slice e) => match sizeP P e with
          | some n => some (.e (.copy n), [d, s])
          | none => none
        | _ => none
      | _, _ => none
    | .builtin .clear => match c.args.toList, c.argTypes[0]? with
      | [d], some t => match P.underlying t with
        | some (.slice e) => match sizeP P e, zeroP P e with
          | some n, some z => some (.e (.clr n z), [d])
          | _, _ => none
        | _ => none
      | _, _ => none
    | _ => none
  | .sliceToArrayPointer t x => match P.underlying t with
    | some (.array n _) => some (.q (.s2a n), [x])
    | _ => none
  | _ => none
end Go.Proofs.YtgbhdpeibiglfaaDoor.Sep
