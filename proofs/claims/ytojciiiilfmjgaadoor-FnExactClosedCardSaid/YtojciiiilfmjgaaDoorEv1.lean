/- What a Go function does, reckoned in plain data, and that it does so: part 1. -/
import Derived.WalkKit
set_option linter.all false
/- What a Go function does to plain values: data, frames, operations, code, functions. No memory stands here. -/
namespace Go.Ev

/-- A scalar: one cell, and no slice, no pointer. -/
def _root_.Go.Value.scalar : Value → Bool
  | .bool _ | .int _ _ | .string _ | .pointer none | .nilFunc | .nilIface => true
  | _ => false

/-- A cell's data: a scalar, or a slice: how many cells an element has, and its elements' cells. -/
inductive D where
  | v (x : Value)
  | sl (z : Nat) (rows : List (List D))
  deriving Inhabited

/-- What a zero cell is. -/
inductive ZC where
  | zi (k : IntKind) | zb | zs | zl (z : Nat) | zx
  deriving DecidableEq

def ZC.d : ZC → D
  | .zi k => .v (.int k 0)
  | .zb => .v (.bool false)
  | .zs => .v (.string .empty)
  | .zl z => .sl z []
  | .zx => .v .nilFunc

def ZC.fit : ZC → D → Bool
  | .zi k, .v (.int k' _) => k == k'
  | .zb, .v (.bool _) => true
  | .zs, .v (.string _) => true
  | .zl z, .sl z' _ => z == z'
  | _, _ => false

def ZC.flat : ZC → Bool
  | .zi _ | .zb | .zs => true
  | _ => false

def fits : List ZC → List D → Bool
  | [], [] => true
  | z :: zs, d :: ds => z.fit d && fits zs ds
  | _, _ => false

/-- What is known of a type. -/
structure TE where
  t : Nat
  size : Nat
  agg : Bool
  flds : List Nat := []
  el : Option (Nat × Nat × Nat) := none
  ar : Option (Nat × Nat × Nat) := none
  zero : List ZC := []
  kd : Nat := 0
  eq : Bool := false

def TE.find (τ : List TE) (t : Nat) : Option TE := τ.find? (·.t == t)

/-- A place: a slot, and steps from there: the row and the column of a cell, once for each slice on the way. -/
structure Pl where
  s : Nat
  st : List (Nat × Nat)
  deriving DecidableEq

def addLast : List (Nat × Nat) → Nat → List (Nat × Nat)
  | [], _ => []
  | [(i, c)], k => [(i, c + k)]
  | x :: y :: r, k => x :: addLast (y :: r) k

/-- What a slot holds. -/
inductive X where
  | u
  | d (x : D) (o : Option Pl)
  | agg (xs : List D) (o : Option Pl)
  | box (xs : List D)
  | pt (p : Pl)
  | tup (b n : Nat)
  | clo (f : Nat) (caps : List Nat)
  | fv (f : Nat) (caps : List (List D))
  deriving Inhabited

abbrev Fr := Nat → X
def upd (φ : Fr) (t : Nat) (x : X) : Fr := fun s => if s = t then x else φ s

/-- The slot of a tuple's component. -/
def cix (t i : Nat) : Nat := 1000 + 8 * t + i

def X.cells : X → Option (List D)
  | .d x _ => some [x]
  | .agg xs _ => some xs
  | _ => none

def mkX (agg : Bool) (xs : List D) (o : Option Pl) : Option X :=
  if agg then some (.agg xs o) else match xs with
    | [.v x] => some (.d (.v x) none)
    | [x] => some (.d x o)
    | _ => none

def X.val : X → Option Value
  | .d (.v x) _ => some x
  | _ => none

def X.int : X → Option Int
  | .d (.v (.int _ n)) _ => some n
  | _ => none

def rowsX : X → Option (List (List D))
  | .box cs => some [cs]
  | .agg cs _ => some [cs]
  | .d (.sl _ rows) _ => some rows
  | _ => none

def cellsIn : List (List D) → List (Nat × Nat) → Nat → Option (List D)
  | _, [], _ => none
  | rows, [(i, c)], n => match rows[i]? with
    | some row => if c + n ≤ row.length then some ((row.drop c).take n) else none
    | none => none
  | rows, (i, c) :: s :: st, n => match rows[i]? with
    | some row => match row[c]? with
      | some (.sl _ r) => cellsIn r (s :: st) n
      | _ => none
    | none => none

def putIn : List (List D) → List (Nat × Nat) → List D → Option (List (List D))
  | _, [], _ => none
  | rows, [(i, c)], new => match rows[i]? with
    | some row => if c + new.length ≤ row.length then some (rows.set i (row.take c ++ new ++ row.drop (c + new.length))) else none
    | none => none
  | rows, (i, c) :: s :: st, new => match rows[i]? with
    | some row => match row[c]? with
      | some (.sl z r) => match putIn r (s :: st) new with
        | some r' => some (rows.set i (row.set c (.sl z r')))
        | none => none
      | _ => none
    | none => none

def cellsAt (φ : Fr) (p : Pl) (n : Nat) : Option (List D) := match rowsX (φ p.s) with
  | some rows => cellsIn rows p.st n
  | none => none

def putX (x : X) (st : List (Nat × Nat)) (new : List D) : Option X := match x with
  | .box cs => match putIn [cs] st new with
    | some (cs' :: _) => some (.box cs')
    | _ => none
  | .agg cs o => match putIn [cs] st new with
    | some (cs' :: _) => some (.agg cs' o)
    | _ => none
  | .d (.sl z rows) o => match putIn rows st new with
    | some rows' => some (.d (.sl z rows') o)
    | none => none
  | _ => none

def putAt (φ : Fr) (p : Pl) (new : List D) : Option Fr := match putX (φ p.s) p.st new with
  | some x => some (upd φ p.s x)
  | none => none

/-- The datum at an origin. -/
def dataAt (φ : Fr) (p : Pl) : Option D := match p.st with
  | [] => match φ p.s with
    | .d x _ => some x
    | _ => none
  | _ => match cellsAt φ p 1 with
    | some [x] => some x
    | _ => none

def setAt (φ : Fr) (p : Pl) (x : D) : Option Fr := match p.st with
  | [] => match φ p.s with
    | .d _ o => some (upd φ p.s (.d x o))
    | _ => none
  | _ => putAt φ p [x]

/-- How a parameter is handed on, as far as values go. -/
inductive PK where
  | val
  | ptr (n : Nat)
  | rptr (n : Nat)
  | mut
  | magg (b : Nat)
  deriving DecidableEq

/-! ## Operations -/

def strRoom : Nat := 2 ^ 60
def memRoom : Nat := 2 ^ 47
def makeRoom : Nat := 2 ^ 44

def bin : BinOp → Value → Value → Option Value
  | .add, .int k a, .int k' b => if k = k' then some (.int k (k.wrap (a + b))) else none
  | .sub, .int k a, .int k' b => if k = k' then some (.int k (k.wrap (a - b))) else none
  | .mul, .int k a, .int k' b => if k = k' then some (.int k (k.wrap (a * b))) else none
  | .quo, .int k a, .int k' b => if k = k' ∧ b ≠ 0 then some (.int k (k.wrap (a.tdiv b))) else none
  | .rem, .int k a, .int k' b => if k = k' ∧ b ≠ 0 then some (.int k (a.tmod b)) else none
  | .and, .int k a, .int k' b => if k = k' then some (.int k (k.wrap (BitVec.ofInt k.bits a &&& BitVec.ofInt k.bits b).toNat)) else none
  | .or, .int k a, .int k' b => if k = k' then some (.int k (k.wrap (BitVec.ofInt k.bits a ||| BitVec.ofInt k.bits b).toNat)) else none
  | .xor, .int k a, .int k' b => if k = k' then some (.int k (k.wrap (BitVec.ofInt k.bits a ^^^ BitVec.ofInt k.bits b).toNat)) else none
  | .shl, .int k a, .int _ b => if b < 0 then none else some (.int k (k.wrap (a * 2 ^ (min b.toNat k.bits))))
  | .shr, .int k a, .int _ b => if b < 0 then none else some (.int k (a.fdiv (2 ^ (min b.toNat k.bits))))
  | .lss, .int k a, .int k' b => if k = k' then some (.bool (decide (a < b))) else none
  | .leq, .int k a, .int k' b => if k = k' then some (.bool (decide (a ≤ b))) else none
  | .gtr, .int k a, .int k' b => if k = k' then some (.bool (decide (a > b))) else none
  | .geq, .int k a, .int k' b => if k = k' then some (.bool (decide (a ≥ b))) else none
  | .eql, .int k a, .int k' b => if k = k' then some (.bool (a == b)) else none
  | .neq, .int k a, .int k' b => if k = k' then some (.bool (a != b)) else none
  | .add, .string a, .string b => if a.size + b.size ≤ strRoom then some (.string (a ++ b)) else none
  | .eql, .string a, .string b => some (.bool (a.toList == b.toList))
  | .neq, .string a, .string b => some (.bool !(a.toList == b.toList))
  | .lss, .string a, .string b => some (.bool (Op.bytesLess a.toList b.toList))
  | .leq, .string a, .string b => some (.bool (Op.bytesLess a.toList b.toList || a.toList == b.toList))
  | .gtr, .string a, .string b => some (.bool !(Op.bytesLess a.toList b.toList || a.toList == b.toList))
  | .geq, .string a, .string b => some (.bool !(Op.bytesLess a.toList b.toList))
  | _, _, _ => none

/-- Two lists of scalars, of these kinds: whether they are equal. -/
def leafEq : List ZC → List D → List D → Option Bool
  | [], [], [] => some true
  | .zi k :: zs, .v (.int k1 a) :: xs, .v (.int k2 b) :: ys => if k1 = k ∧ k2 = k then (leafEq zs xs ys).map ((a == b) && ·) else none
  | .zs :: zs, .v (.string a) :: xs, .v (.string b) :: ys => (leafEq zs xs ys).map ((a.toList == b.toList) && ·)
  | .zb :: zs, .v (.bool a) :: xs, .v (.bool b) :: ys => (leafEq zs xs ys).map ((a == b) && ·)
  | _, _, _ => none

def unF : UnOp → Value → Option Value
  | .not, .bool b => some (.bool !b)
  | .neg, .int k n => some (.int k (k.wrap (0 - n)))
  | .xor, .int k n => some (.int k (k.wrap (BitVec.ofInt k.bits (if k.signed then -1 else k.max) ^^^ BitVec.ofInt k.bits n).toNat))
  | _, _ => none

section
variable (τ : List TE) (φ : Fr)

def elz (ty : Nat) : Nat := match TE.find τ ty with
  | some e => match e.el with
    | some (_, z, _) => z
    | none => 0
  | none => 0

def cpX (t : Nat) : X → X
  | .d (.sl z r) o => .d (.sl z r) (some (o.getD ⟨t, []⟩))
  | .agg xs o => .agg xs (some (o.getD ⟨t, [(0, 0)]⟩))
  | .box _ => .pt ⟨t, [(0, 0)]⟩
  | x => x

/-- An operand, copied. -/
def opX (ty : Nat) : Operand → X
  | .tmp t => cpX t (φ t)
  | .const (.slice none 0 0) => .d (.sl (elz τ ty) []) none
  | .const v => if v.scalar then .d (.v v) none else .u
  | .func f => .clo f []
  | .global _ => .u

/-- An operand's value, for a variable of its own. -/
def ownX : X → X
  | .d x _ => .d x none
  | .agg xs _ => .agg xs none
  | x => x

def ptX : Operand → Option Pl
  | .tmp t => match φ t with
    | .box _ => some ⟨t, [(0, 0)]⟩
    | .pt p => some p
    | _ => none
  | _ => none

def binX (op : BinOp) (t : Nat) (x y : X) : Option X := match x, y with
  | .d (.v (.bool a)) _, .d (.v (.bool b)) _ => match TE.find τ t with
    | some e => if e.kd = 1 then (match op with
      | .eql => some (.d (.v (.bool (a == b))) none)
      | .neq => some (.d (.v (.bool !(a == b))) none)
      | _ => none) else none
    | none => none
  | .d (.v a) _, .d (.v b) _ => (bin op a b).map fun r => .d (.v r) none
  | .agg xs _, .agg ys _ => match TE.find τ t with
    | some e => if e.eq then (match op, leafEq e.zero xs ys with
      | .eql, some b => some (.d (.v (.bool b)) none)
      | .neq, some b => some (.d (.v (.bool !b)) none)
      | _, _ => none) else none
    | none => none
  | _, _ => none

/-- The literal nil of an interface. -/
def isNil : Operand → Bool
  | .const .nilIface => true
  | _ => false

def nilX (op : BinOp) (t : Nat) (x : X) : Option X := match x, TE.find τ t with
  | .d (.v .nilIface) _, some e => if e.kd = 3 then (match op with
    | .eql => some (.d (.v (.bool true)) none)
    | .neq => some (.d (.v (.bool false)) none)
    | _ => none) else none
  | _, _ => none

def loadX (t : Nat) (p : Pl) : Option X := match TE.find τ t with
  | some e => match cellsAt φ p e.size with
    | some cs => if fits e.zero cs then mkX e.agg cs (some p) else none
    | none => none
  | none => none

def storeX (t : Nat) (p : Pl) (x : X) : Option Fr := match TE.find τ t, x.cells with
  | some e, some cs => if fits e.zero cs then putAt φ p cs else none
  | _, _ => none

def fieldX (s : Nat) (p : Pl) (f : Nat) : Option X := match TE.find τ s with
  | some e => match e.flds[f]? with
    | some off => match cellsAt φ ⟨p.s, addLast p.st off⟩ 1 with
      | some _ => some (.pt ⟨p.s, addLast p.st off⟩)
      | none => none
    | none => none
  | none => none

def indexX (t : Nat) (x : Operand) (i : Int) : Option X := if i < 0 then none else match TE.find τ t with
  | some e => match e.el with
    | some (_, z, _) => match opX τ φ t x with
      | .d (.sl z' rows) (some p) => if z' = z ∧ 0 < z ∧ i.toNat < rows.length then some (.pt ⟨p.s, p.st ++ [(i.toNat, 0)]⟩) else none
      | _ => none
    | none => match e.ar, ptX φ x with
      | some (n, _, z), some p => if i.toNat < n then (match cellsAt φ ⟨p.s, addLast p.st (i.toNat * z)⟩ 1 with
        | some _ => some (.pt ⟨p.s, addLast p.st (i.toNat * z)⟩)
        | none => none) else none
      | _, _ => none
  | none => none

def strRows (s : ByteArray) : List (List D) := s.data.toList.map fun b => [.v (.int .u8 b.toNat)]

def appX (t t' : Nat) (x y : X) : Option X := match TE.find τ t with
  | some e => match e.el, x with
    | some (et, z, by_), .d (.sl z1 rows) _ => match TE.find τ et with
      | some ee => if z1 = z ∧ 0 < z ∧ ee.zero.length = z then (match y with
        | .d (.sl z2 rows') _ => if (TE.find τ t').any (·.el.isSome) = true ∧ z2 = z ∧ rows'.all (fits ee.zero) = true ∧ (rows.length + rows'.length) * by_ ≤ memRoom ∧ rows.length + rows'.length ≤ strRoom then some (.d (.sl z (rows ++ rows')) none) else none
        | .d (.v (.string s)) _ => if (TE.find τ t').any (·.kd == 2) = true ∧ ee.zero = [.zi .u8] ∧ (rows.length + s.size) * by_ ≤ memRoom ∧ rows.length + s.size ≤ strRoom then some (.d (.sl z (rows ++ strRows s)) none) else none
        | _ => none) else none
      | none => none
    | _, _ => none
  | none => none

def makeX (t : Nat) (n : Int) : Option X := match TE.find τ t with
  | some e => match e.el with
    | some (et, z, by_) => match TE.find τ et with
      | some ee => if fits ee.zero (ee.zero.map ZC.d) = true ∧ ee.zero.length = z ∧ 0 < z ∧ 0 ≤ n ∧ (by_ : Int) * n ≤ 281474976710656 ∧ n ≤ 281474976710656 then some (.d (.sl z (List.replicate n.toNat (ee.zero.map ZC.d))) none) else none
      | none => none
    | none => none
  | none => none

/-- Cells put over cells. -/
def splice (cs : List D) (off : Nat) (new : List D) : List D := cs.take off ++ new ++ cs.drop (off + new.length)

def fillX (place : Nat → Option (Nat × Nat)) (cs : List D) : List (Nat × X) → Option (List D)
  | [] => some cs
  | (i, x) :: rest => match place i, x.cells with
    | some (off, size), some new => if new.length = size ∧ off + size ≤ cs.length then fillX place (splice cs off new) rest else none
    | _, _ => none

/-- The type of a struct's field, by the table: the size of what lies from its offset to the next one's. -/
def fldSize (e : TE) (f : Nat) : Option (Nat × Nat) := match e.flds[f]? with
  | some off => some (off, (e.flds[f + 1]?).getD e.size - off)
  | none => none

def buildX (t : Nat) (ps : List (Nat × X)) : Option X := match TE.find τ t with
  | some e => if e.agg = true ∧ fits e.zero (e.zero.map ZC.d) = true then (match e.ar with
    | some (n, _, z) => match fillX (fun i => if i < n then some (i * z, z) else none) (e.zero.map ZC.d) ps with
      | some cs => if fits e.zero cs then some (.agg cs none) else none
      | none => none
    | none => match fillX (fldSize e) (e.zero.map ZC.d) ps with
      | some cs => if fits e.zero cs then some (.agg cs none) else none
      | none => none) else none
  | none => none

def fillRows (z : Nat) (rows : List (List D)) : List (Nat × X) → Option (List (List D))
  | [] => some rows
  | (i, x) :: rest => match x.cells with
    | some new => if new.length = z ∧ i < rows.length then fillRows z (rows.set i new) rest else none
    | none => none

def buildSliceX (t n : Nat) (ps : List (Nat × X)) : Option X := match TE.find τ t with
  | some e => match e.el with
    | some (et, z, _) => match TE.find τ et with
      | some ee => if fits ee.zero (ee.zero.map ZC.d) = true ∧ ee.zero.length = z ∧ 0 < z ∧ n * z ≤ 4096 then (match fillRows z (List.replicate n (ee.zero.map ZC.d)) ps with
        | some rows => if rows.all (fits ee.zero) = true then some (.d (.sl z rows) none) else none
        | none => none) else none
      | none => none
    | none => none
  | none => none

def bound (d : Nat) : Option X → Option Nat
  | none => some d
  | some x => match x.int with
    | some n => if 0 ≤ n then some n.toNat else none
    | none => none

def sliceX (t : Nat) (x : X) (lo hi mx : Option X) : Option X := match x with
  | .d (.v (.string s)) _ => match TE.find τ t with
    | some e => if e.kd = 2 then (match bound 0 lo, bound s.size hi, mx with
      | some l, some h, none => if l ≤ h ∧ h ≤ s.size then some (.d (.v (.string (s.extract l h))) none) else none
      | _, _, _ => none) else none
    | none => none
  | .d (.sl z rows) _ => if z = elz τ t ∧ 0 < z then (match bound 0 lo, bound rows.length hi with
    | some l, some h => match mx with
      | none => if l ≤ h ∧ h ≤ rows.length then some (.d (.sl z ((rows.take h).drop l)) none) else none
      | some m => if hi.isSome = true ∧ m.int = some (h : Int) ∧ l ≤ h ∧ h ≤ rows.length then some (.d (.sl z ((rows.take h).drop l)) none) else none
    | _, _ => none) else none
  | _ => none

def bytesOf : List (List D) → Option (List UInt8)
  | [] => some []
  | [.v (.int .u8 n)] :: rs => (bytesOf rs).map (UInt8.ofNat n.toNat :: ·)
  | _ :: _ => none

/-- What a type is, as far as conversions go: 1: bool, 2: string, 3: an integer, 4: a slice of bytes. -/
def convX (src dst : Nat) (x : X) : Option X := match TE.find τ src, TE.find τ dst with
  | some es, some ed => match ed.zero, x with
    | [.zi k], .d (.v (.int _ n)) _ => if ed.agg then none else some (.d (.v (.int k (k.wrap n))) none)
    | [.zs], .d (.v (.string s)) _ => if ed.agg then none else some (.d (.v (.string s)) none)
    | [.zs], .d (.sl 1 rows) _ => if (ed.agg || es.el.isNone) = true then none else (bytesOf rows).map fun l => .d (.v (.string ⟨l.toArray⟩)) none
    | [.zl 1], .d (.v (.string s)) _ => if ed.agg ∨ 2 * s.size > memRoom then none else some (.d (.sl 1 (strRows s)) none)
    | _, _ => none
  | _, _ => none

def lenX (t : Nat) (x : X) : Option X := match TE.find τ t with
  | some e => match x with
    | .d (.v (.string s)) _ => if e.kd = 2 then some (.d (.v (.int .i64 s.size)) none) else none
    | .d (.sl _ rows) _ => if e.el.isSome then some (.d (.v (.int .i64 rows.length)) none) else none
    | _ => none
  | none => none

def strIndexX (t : Nat) (x i : X) : Option X := match x, i.int with
  | .d (.v (.string s)) _, some n => if 0 ≤ n then (match TE.find τ t, s.data.toList[n.toNat]? with
    | some e, some b => if e.kd = 2 then some (.d (.v (.int .u8 b.toNat)) none) else none
    | _, _ => none) else none
  | _, _ => none

def mmX (mx : Bool) : List X → Option X
  | [.d (.v (.int k a)) _, .d (.v (.int k' b)) _] => if k = k' then some (.d (.v (.int k (if mx then (if b > a then b else a) else (if b < a then b else a)))) none) else none
  | _ => none

def partsX (ps : List (Nat × Operand)) (ty : Nat → Nat) : List (Nat × X) := ps.map fun p => (p.1, opX τ φ (ty p.1) p.2)

def capSlots : List Operand → Option (List Nat)
  | [] => some []
  | .tmp t :: xs => match φ t, capSlots xs with
    | .box _, some r => some (t :: r)
    | _, _ => none
  | _ => none

/-- The operations that leave nothing but their result. -/
def pureX (o : Op) (ty : Nat) : Option X := match o with
  | .move x => match opX τ φ ty x with
    | .u => none
    | x => some x
  | .assign x => match opX τ φ ty x with
    | .u => none
    | x => some (ownX x)
  | .pick c x y => match (opX τ φ ty c).val with
    | some (.bool b) => match (opX τ φ ty (if b then x else y)).val with
      | some v => some (.d (.v v) none)
      | none => none
    | _ => none
  | .alloc t => match TE.find τ t with
    | some e => if fits e.zero (e.zero.map ZC.d) then some (.box (e.zero.map ZC.d)) else none
    | none => none
  | .box t x => match TE.find τ t, (opX τ φ t x).cells with
    | some e, some cs => if fits e.zero cs then some (.box cs) else none
    | _, _ => none
  | .load t x => match ptX φ x with
    | some p => loadX τ φ t p
    | none => none
  | .nilCheck x => (ptX φ x).map .pt
  | .binOp op t x y _ => if isNil y then nilX τ op t (opX τ φ t x) else binX τ op t (opX τ φ t x) (opX τ φ t y)
  | .unOp op _ x => match (opX τ φ ty x).val with
    | some v => (unF op v).map fun r => .d (.v r) none
    | none => none
  | .fieldAddr s x f => match ptX φ x with
    | some p => fieldX τ φ s p f
    | none => none
  | .indexAddr t x i => match (opX τ φ 0 i).int with
    | some n => indexX τ φ t x n
    | none => none
  | .index t x i => strIndexX τ t (opX τ φ t x) (opX τ φ 0 i)
  | .extract (.tmp t) i => match φ t with
    | .tup b n => if i < n ∧ n ≤ 8 then (match cpX (cix b i) (φ (cix b i)) with
      | .u => none
      | x => some x) else none
    | _ => none
  | .slice t x lo hi mx => sliceX τ t (opX τ φ t x) (lo.map (opX τ φ 0)) (hi.map (opX τ φ 0)) (mx.map (opX τ φ 0))
  | .convert src dst x => convX τ src dst (opX τ φ src x)
  | .makeSlice t n c => match (opX τ φ 0 n).int, (opX τ φ 0 c).int with
    | some n, some c => if n = c then makeX τ t n else none
    | _, _ => none
  | .build t ps => buildX τ t (partsX τ φ ps.toList fun _ => 0)
  | .buildSlice t n ps => buildSliceX τ t n (partsX τ φ ps.toList fun _ => 0)
  | .makeFunc (.func f) fs cs => if fs.size = 0 then (capSlots φ cs.toList).map (.clo f) else none
  | .call c => match c.callee, c.args.toList, c.argTypes.toList with
    | .builtin .len, [x], [t] => lenX τ t (opX τ φ t x)
    | .builtin .append, [x, y], [t, t'] => appX τ t t' (opX τ φ t x) (opX τ φ t' y)
    | .builtin .max, [x, y], _ => mmX true [opX τ φ 0 x, opX τ φ 0 y]
    | .builtin .min, [x, y], _ => mmX false [opX τ φ 0 x, opX τ φ 0 y]
    | _, _, _ => none
  | _ => none
end

/-! ## Calls -/

section
variable (τ : List TE) (φ : Fr)

def capsX : List Nat → Option (List (List D))
  | [] => some []
  | s :: ss => match φ s, capsX ss with
    | .box cs, some r => some (cs :: r)
    | _, _ => none

/-- The same, as far as it is flat. -/
def sameD : D → D → Bool
  | .sl _ _, .sl _ _ => true
  | .v (.int k a), .v (.int k' b) => decide (k = k') && decide (a = b)
  | .v (.string a), .v (.string b) => decide (a = b)
  | .v (.bool a), .v (.bool b) => decide (a = b)
  | _, _ => false
def sameL : List D → List D → Bool
  | [], [] => true
  | x :: xs, y :: ys => sameD x y && sameL xs ys
  | _, _ => false

/-- Of one shape. -/
def sameZ : List D → List D → Bool
  | [], [] => true
  | .sl z _ :: xs, .sl z' _ :: ys => decide (z = z') && sameZ xs ys
  | .v _ :: xs, .v _ :: ys => sameZ xs ys
  | _, _ => false

def argX (k : PK) (x : Operand) (ty : Nat) : Option X := match k with
  | .val => match opX τ φ ty x with
    | .d d _ => match TE.find τ ty with
      | some e => if (!e.agg && fits e.zero [d]) = true then some (.d d none) else none
      | none => none
    | .agg xs _ => match TE.find τ ty with
      | some e => if (e.agg && fits e.zero xs) = true then some (.agg xs none) else none
      | none => none
    | .clo f caps => (capsX φ caps).map (.fv f)
    | .fv f c => some (.fv f c)
    | _ => none
  | .ptr n | .rptr n => match ptX φ x with
    | some p => (cellsAt φ p n).map .box
    | none => none
  | .mut => match opX τ φ ty x with
    | .d (.sl z r) _ => match TE.find τ ty with
      | some e => if (!e.agg && fits e.zero [.sl z r]) = true then some (.d (.sl z r) none) else none
      | none => none
    | _ => none
  | .magg _ => match opX τ φ ty x with
    | .agg xs (some p) => match cellsAt φ p xs.length, TE.find τ ty with
      | some ys, some e => if (e.agg && fits e.zero xs && sameL xs ys) = true then some (.agg xs none) else none
      | _, _ => none
    | _ => none

def argsX : List PK → List Operand → List Nat → Option (List X)
  | [], [], [] => some []
  | k :: ks, x :: xs, t :: ts => match argX τ φ k x t, argsX ks xs ts with
    | some a, some r => some (a :: r)
    | _, _ => none
  | _, _, _ => none

/-- What a call wrote is put back. -/
def backX (φ0 : Fr) (k : PK) (x : Operand) (out : X) (φ : Fr) : Option Fr := match k with
  | .ptr _ => match ptX φ0 x, out with
    | some p, .box cs => putAt φ p cs
    | _, _ => none
  | .mut => match opX τ φ0 0 x, out with
    | .d (.sl z _) (some p), .d (.sl z' r) _ => if z' = z then setAt φ p (.sl z' r) else none
    | _, _ => none
  | .magg _ => match opX τ φ0 0 x, out with
    | .agg xs (some p), .agg cs _ => if sameZ xs cs = true then putAt φ p cs else none
    | _, _ => none
  | _ => some φ

def backsX (φ0 : Fr) : List PK → List Operand → List X → Fr → Option Fr
  | k :: ks, x :: xs, o :: os, φ => match backX τ φ0 k x o φ with
    | some φ' => backsX φ0 ks xs os φ'
    | none => none
  | [], _, _, φ => some φ
  | _, _, _, _ => none

def putComps (t : Nat) : Nat → List X → Fr → Fr
  | _, [], φ => φ
  | i, x :: xs, φ => putComps t (i + 1) xs (upd φ (cix t i) x)

def putRes (dst : Option Tmp) (rs : List X) (φ : Fr) : Fr := match dst with
  | none => φ
  | some d => match rs with
    | [] => upd φ d .u
    | [r] => upd φ d r
    | rs => upd (putComps d 0 rs φ) d (.tup d rs.length)

def resX (r : ResultVar) : Option X := match r with
  | .tmp t => match φ t with
    | .d d _ => some (.d d none)
    | .agg xs _ => some (.agg xs none)
    | .pt ⟨s, [(0, 0)]⟩ => match φ s with
      | .box cs => some (.box cs)
      | _ => none
    | .box cs => some (.box cs)
    | _ => none
  | .cell t ty => match φ t, TE.find τ ty with
    | .box cs, some e => if fits e.zero cs then mkX e.agg cs none else none
    | _, _ => none

def outX (i : Nat) (k : PK) : Option X := match k with
  | .ptr _ => match φ i with
    | .box cs => some (.box cs)
    | _ => none
  | .mut => match φ i with
    | .d d _ => some (.d d none)
    | _ => none
  | .magg b => match φ b with
    | .box cs => some (.agg cs none)
    | _ => none
  | _ => some .u

def outsX : Nat → List PK → Option (List X)
  | _, [] => some []
  | i, k :: ks => match outX φ i k, outsX (i + 1) ks with
    | some a, some r => some (a :: r)
    | _, _ => none

def resesX : List ResultVar → Option (List X)
  | [] => some []
  | r :: rs => match resX τ φ r, resesX rs with
    | some a, some as => some (a :: as)
    | _, _ => none
end

/-! ## Code -/

/-! A statement whose order is drawn: a part that may go in any order, then a tail. -/

def insN (l : List Nat) (x : Nat) : List Nat := if l.contains x then l else x :: l

/-- What surely is done where operation o runs. -/
def predsOf (Bs : List (List Nat)) (o : Oper) : List Nat := o.after.toList.foldl (fun l e => if Region.binds .any e then (Bs.getD e.on []).foldl insN (insN l e.on) else l) []

def predsL : List Oper → List (List Nat) → List (List Nat)
  | [], Bs => Bs
  | o :: l, Bs => predsL l (Bs ++ [predsOf Bs o])

/-- Where the tail begins. -/
def cutOf (ops : List Oper) : Nat := (((predsL ops []).zipIdx.reverse).dropWhile fun p => p.1.length == p.2).length

def dstsOf (ops : List Oper) : List Nat := ops.filterMap (·.dst)

def isHit (ds : List Nat) (s : Nat) : Bool := ds.any fun d => s == d || (decide (cix d 0 ≤ s) && decide (s < cix d 8))

/-- Slots are emptied. -/
def clrX (ds : List Nat) (φ : Fr) : Fr := fun s => if isHit ds s then .u else φ s

/-- What is written in the settled part: whole boxes. -/
def stT (o : Oper) : Option Nat := match o.op with
  | .store _ (.tmp s) _ => some s
  | _ => none
def isSt (o : Oper) : Bool := match o.op with
  | .store _ _ _ => true
  | _ => false
/-- A box that is made, and written behind. -/
def isAl (W : List Nat) (o : Oper) : Bool := match o.op, o.dst with
  | .alloc _, some s => o.guard.isNone && W.contains s
  | _, _ => false
def isEf (W : List Nat) (o : Oper) : Bool := isSt o || isAl W o
def hideX (W : List Nat) (φ : Fr) : Fr := fun s => if W.contains s then .u else φ s
def rstX (W : List Nat) (φ ψ : Fr) : Fr := fun s => if W.contains s then φ s else ψ s

inductive EE where
  | normal
  | exit (id : Nat)
  | ret
  deriving DecidableEq

section
variable (τ : List TE) (S : Nat → Option (List PK)) (F : Nat → List X → Option (List X × List X))

def callX (f : Nat) (c : Call) (dst : Option Tmp) (extra : List X) (φ : Fr) : Option Fr := match S f with
  | some ks => match argsX τ φ (ks.take c.args.size) c.args.toList c.argTypes.toList with
    | some as => match F f (as ++ extra) with
      | some (rs, outs) => if rs.length ≤ 8 then (match backsX τ φ (ks.take c.args.size) c.args.toList outs φ with
        | some φ' => some (putRes dst rs φ')
        | none => none) else none
      | none => none
    | none => none
  | none => none

/-- Whether what was captured is what the function takes behind its arguments. -/
def extraOk (ks : Option (List PK)) (n : Nat) (cs : List (List D)) : Bool := match ks with
  | some ks => decide (ks.drop n = cs.map fun ds => .rptr ds.length) && Nat.ble n ks.length
  | none => false

def evOp (o : Oper) (φ : Fr) : Option Fr := match o.op with
  | .store t x y => match ptX φ x with
    | some p => storeX τ φ t p (opX τ φ t y)
    | none => none
  | .call c => match c.callee with
    | .value (.func f) => callX τ S F f c o.dst [] φ
    | .value (.tmp t) => match φ t with
      | .clo f caps => match capsX φ caps with
        | some cs => if extraOk (S f) c.args.size cs = true then callX τ S F f c o.dst (cs.map .box) φ else none
        | none => none
      | .fv f cs => if extraOk (S f) c.args.size cs = true then callX τ S F f c o.dst (cs.map .box) φ else none
      | _ => none
    | _ => match pureX τ φ o.op o.type with
      | some x => some (putRes o.dst [x] φ)
      | none => none
  | _ => match pureX τ φ o.op o.type with
    | some x => some (putRes o.dst [x] φ)
    | none => none

/-- Slots that were passed over: put anew; passed over. -/
def rmS (dst : Option Tmp) (sk : Option (List Nat)) : Option (List Nat) := match dst with
  | none => sk
  | some d => sk.map fun l => l.filter (· != d)
def addS (dst : Option Tmp) (sk : Option (List Nat)) : Option (List Nat) := match dst with
  | none => sk
  | some d => sk.map (d :: ·)
def inS (d : Nat) (sk : Option (List Nat)) : Bool := match sk with
  | some l => l.contains d
  | none => false

@[simp] theorem rmS_none (dst : Option Tmp) : rmS dst none = none := by cases dst <;> rfl
@[simp] theorem addS_none (dst : Option Tmp) : addS dst none = none := by cases dst <;> rfl
theorem inS_none (d : Nat) : inS d none = false := rfl

def evOps (ops : Array Oper) (l : List Oper) (φ : Fr) (sk : Option (List Nat) := none) : Option Fr := match l with
  | [] => some φ
  | o :: rest => match o.guard with
    | none => match evOp τ S F o φ with
      | some φ' => evOps ops rest φ' (rmS o.dst sk)
      | none => none
    | some (j, want) => match (ops[j]?).bind (·.dst) with
      | some d => if inS d sk = true then evOps ops rest (putRes o.dst [] φ) (addS o.dst sk) else match (φ d).val with
        | some (.bool b) => if b = want then (match evOp τ S F o φ with
            | some φ' => evOps ops rest φ' (rmS o.dst sk)
            | none => none) else evOps ops rest (putRes o.dst [] φ) (addS o.dst sk)
        | _ => none
      | none => none

/-- A region whose order is drawn: what leaves but results, what is written in the settled part, then the tail. -/
def evD (ops : Array Oper) (φ : Fr) : Option Fr :=
  if ((ops.toList.take (cutOf ops.toList)).filterMap stT).isEmpty then evOps τ S F ops ops.toList (clrX (dstsOf (ops.toList.take (cutOf ops.toList))) φ) (some []) else
  match evOps τ S F ops ((ops.toList.take (cutOf ops.toList)).filter fun o => !isEf ((ops.toList.take (cutOf ops.toList)).filterMap stT) o) (clrX (dstsOf (ops.toList.take (cutOf ops.toList))) (hideX ((ops.toList.take (cutOf ops.toList)).filterMap stT) φ)) with
  | some φ1 => match evOps τ S F ops ((ops.toList.take (cutOf ops.toList)).filter (isEf ((ops.toList.take (cutOf ops.toList)).filterMap stT))) (rstX (((ops.toList.take (cutOf ops.toList)).filterMap stT).filter fun s => !(dstsOf (ops.toList.take (cutOf ops.toList))).contains s) φ φ1) with
    | some φ2 => evOps τ S F ops (ops.toList.drop (cutOf ops.toList)) φ2
    | none => none
  | none => none

def iter (body : Fr → Option (EE × Fr)) : Nat → Fr → Option (EE × Fr)
  | 0, _ => none
  | k + 1, φ => match body φ with
    | some (.normal, φ') => iter body k φ'
    | r => r

def evC (k : Nat) : Code → Fr → Option (EE × Fr)
  | .skip, φ => some (.normal, φ)
  | .region _ ops dr, φ => (if dr then evD τ S F ops φ else evOps τ S F ops ops.toList φ (some [])).map fun φ' => (.normal, φ')
  | .seq a b, φ => match evC k a φ with
    | some (.normal, φ') => evC k b φ'
    | r => r
  | .cond c a b, φ => match (opX τ φ 0 c).val with
    | some (.bool t) => if t then evC k a φ else evC k b φ
    | _ => none
  | .block id c, φ => match evC k c φ with
    | some (.exit id', φ') => if id' = id then some (.normal, φ') else some (.exit id', φ')
    | r => r
  | .loop c, φ => iter (evC k c) k φ
  | .exit id, φ => some (.exit id, φ)
  | .ret, φ => some (.ret, φ)
  | _, _ => none
end

def args0 (as : List X) : Fr := fun s => as.getD s .u

/-- A function that is not gone through, by what it answers. -/
abbrev Prims := Nat → Option (List X → Option (List X × List X))

structure Prog where
  τ : List TE
  funcs : Nat → Option Func
  pks : Nat → Option (List PK)
  prims : Prims

def evF (E : Prog) : Nat → Nat → List X → Option (List X × List X)
  | 0, _, _ => none
  | k + 1, f, as => match E.prims f with
    | some p => p as
    | none => match E.funcs f, E.pks f with
      | some fn, some ks => match fn.body with
        | some c => if as.length = ks.length then (match evC E.τ E.pks (evF E k) k c (args0 as) with
          | some (.exit _, _) => none
          | some (_, φ) => match resesX E.τ φ fn.results.toList, outsX φ 0 ks with
            | some rs, some os => some (rs, os)
            | _, _ => none
          | none => none) else none
        | none => none
      | _, _ => none

end Go.Ev

/- Who owns what: modes of slots, and the rules of a check of a function's text by them. -/
namespace Go.Ev

/-- Where what is viewed lies: with an argument, or at a label. -/
inductive Pv where
  | arg (i : Nat)
  | lab (l : List Nat)
  deriving DecidableEq

inductive M where
  | u
  | emp
  | own (cols : List M)
  | view (ps : List Pv)
  deriving Inhabited

mutual
def M.eqb : M → M → Bool
  | .u, .u => true
  | .emp, .emp => true
  | .own a, .own b => eqbL a b
  | .view a, .view b => a == b
  | _, _ => false
def eqbL : List M → List M → Bool
  | [], [] => true
  | a :: as, b :: bs => a.eqb b && eqbL as bs
  | _, _ => false
end

/-- Where the origin of a copied header is, if it has one. -/
inductive Og where
  | no
  | at (s : Nat) (cs : List Nat)
  | ats (s : Nat) (cs : List Nat) (js : List Nat)
  | vw (s : Nat)
  | dead
  deriving DecidableEq

inductive SM where
  | u
  | c (m : M) (og : Og)
  | agg (ms : List M) (og : Og)
  | box (ms : List M)
  | vbox (ps : List Pv) (n : Nat)
  | pt (s : Nat) (cs : List Nat)
  | pa (s : Nat) (cs : List Nat) (n : Nat)
  | pv (ps : List Pv) (s : Nat)
  | tup (b n : Nat)
  | clo (f : Nat) (caps : List Nat)
  | fv (fs : List Nat) (i : Nat)
  deriving Inhabited

def SM.eqb : SM → SM → Bool
  | .u, .u => true
  | .c m a, .c m' a' => m.eqb m' && a == a'
  | .agg m a, .agg m' a' => eqbL m m' && a == a'
  | .box m, .box m' => eqbL m m'
  | .vbox p n, .vbox p' n' => p == p' && n == n'
  | .pt s q, .pt s' q' => s == s' && q == q'
  | .pv p s, .pv p' s' => p == p' && s == s'
  | .pa s q n, .pa s' q' n' => s == s' && q == q' && n == n'
  | .tup b n, .tup b' n' => b == b' && n == n'
  | .clo f q, .clo f' q' => f == f' && q == q'
  | .fv f q, .fv f' q' => f == f' && q == q'
  | _, _ => false

abbrev Mu := List (Nat × SM)
def Mu.get (μ : Mu) (s : Nat) : SM := match μ.lookup s with
  | some m => m
  | none => .u
def Mu.set (μ : Mu) (s : Nat) (m : SM) : Mu := (s, m) :: μ.filter (fun p => p.1 != s)

def isPre (a b : List Nat) : Bool := a.isPrefixOf b
def addc : List Nat → Nat → List Nat
  | [], _ => []
  | [c], k => [c + k]
  | x :: y :: r, k => x :: addc (y :: r) k

mutual
/-- Where all that is not owned lies. -/
def M.prov : M → Option (List Pv)
  | .u => none
  | .emp => some []
  | .view ps => some ps
  | .own cols => provL cols
def provL : List M → Option (List Pv)
  | [] => some []
  | m :: ms => match m.prov, provL ms with
    | some a, some b => some (a ++ b)
    | _, _ => none
end

def M.viewAt (l : List Nat) : M → M
  | .own cols => match provL cols with
    | some ps => .view (.lab l :: ps)
    | none => .u
  | m => m

def viewsAt (l : List Nat) : Nat → List M → List M
  | _, [] => []
  | k, m :: ms => m.viewAt (l ++ [k]) :: viewsAt l (k + 1) ms

abbrev PF := List Pv → Option (List Pv)

mutual
/-- All places of views are put anew. -/
def M.map (f : PF) : M → M
  | .u => .u
  | .emp => .emp
  | .view ps => match f ps with
    | some ps => .view ps
    | none => .u
  | .own cols => .own (mapL f cols)
def mapL (f : PF) : List M → List M
  | [] => []
  | m :: ms => m.map f :: mapL f ms
end

def SM.map (f : PF) : SM → SM
  | .c m a => .c (m.map f) a
  | .agg ms a => .agg (mapL f ms) a
  | .box ms => .box (mapL f ms)
  | .vbox ps n => match f ps with
    | some ps => .vbox ps n
    | none => .u
  | .pv ps s => match f ps with
    | some ps => .pv ps s
    | none => .u
  | x => x

def Mu.map (μ : Mu) (f : PF) : Mu := List.map (fun p => (p.1, p.2.map f)) μ

/-- What is at l goes to l'. -/
def rnP (l l' : List Nat) : Pv → List Pv
  | .arg i => [.arg i]
  | .lab p => if isPre l p then [.lab (l' ++ p.drop l.length)] else if isPre p l then [.lab p, .lab l'] else [.lab p]
def rnF (l l' : List Nat) : PF := fun ps => some (ps.flatMap (rnP l l'))
/-- A row of cells that lies at q is written. -/
def killF (q : List Nat) : PF := fun ps => if ps.any (fun | .lab p => isPre p q | _ => false) then none else some ps
/-- All that lies at q, or within, is written. -/
def killD (q : List Nat) : PF := fun ps => if ps.any (fun | .lab p => isPre p q || isPre q p | _ => false) then none else some ps

def isCix (t x : Nat) : Bool := decide (cix t 0 ≤ x) && decide (x < cix t 8)

/-- A slot, or a component of the tuple in it. -/
def hit (t s : Nat) : Bool := s == t || isCix t s

def Og.dropS (t : Nat) : Og → Og
  | .at s cs => if hit t s then .dead else .at s cs
  | .ats s cs js => if hit t s then .dead else .ats s cs js
  | .vw s => if hit t s then .dead else .vw s
  | o => o

/-- No reference to a slot stays. -/
def SM.dropS (t : Nat) : SM → SM
  | .c m o => .c m (o.dropS t)
  | .agg m o => .agg m (o.dropS t)
  | .pt s cs => if hit t s then .u else .pt s cs
  | .pa s cs n => if hit t s then .u else .pa s cs n
  | .pv ps s => if hit t s then .u else .pv ps s
  | .tup b n => if hit t b then .u else .tup b n
  | .clo f caps => if caps.any (hit t) then .u else .clo f caps
  | x => x

/-- Nothing stays that refers to what lies at a label, or within. -/
def Og.dropL (l : List Nat) : Og → Og
  | .at s cs => if isPre l (s :: cs) then .dead else .at s cs
  | .ats s cs js => if js.any (fun j => isPre l (s :: addc cs j)) then .dead else .ats s cs js
  | .vw s => if l.head? = some s then .dead else .vw s
  | o => o
def SM.dropL (l : List Nat) : SM → SM
  | .c m o => .c m (o.dropL l)
  | .agg m o => .agg m (o.dropL l)
  | .pt s cs => if isPre l (s :: cs.dropLast) then .u else .pt s cs
  | .pa s cs n => if isPre l (s :: cs.dropLast) then .u else .pa s cs n
  | .pv ps s => if l.head? = some s then .u else .pv ps s
  | x => x

/-- A slot is given up. -/
def Mu.clear (μ : Mu) (t : Nat) : Mu := (List.filter (fun p => !hit t p.1) μ).map fun p => (p.1, p.2.dropS t)
def Mu.put (μ : Mu) (t : Nat) (m : SM) : Mu := (t, m.dropS t) :: μ.clear t
def Mu.dropL (μ : Mu) (l : List Nat) : Mu := List.map (fun p => (p.1, p.2.dropL l)) μ
def Mu.dropLs (μ : Mu) (s : Nat) (cs : List Nat) : Nat → Mu
  | 0 => μ
  | n + 1 => (μ.dropLs s cs n).dropL (s :: addc cs n)

def modeIn : M → List Nat → Option M
  | m, [] => some m
  | .own cols, k :: r => match cols[k]? with
    | some m => modeIn m r
    | none => none
  | _, _ => none

/-- The mode of an owned cell. -/
def SM.at : SM → List Nat → Option M
  | .c m _, cs => modeIn m cs
  | .box ms, k :: r => match ms[k]? with
    | some m => modeIn m r
    | none => none
  | .agg ms _, k :: r => match ms[k]? with
    | some m => modeIn m r
    | none => none
  | _, _ => none

mutual
/-- What may be taken for what. -/
def leM : M → M → Bool
  | _, .u => true
  | .emp, .emp => true
  | .emp, .own _ => true
  | .emp, .view _ => true
  | .own a, .own b => leL a b
  | .own a, .view b => match provL a with
    | some p => p.all b.contains
    | none => false
  | .view a, .view b => a.all b.contains
  | _, _ => false
def leL : List M → List M → Bool
  | [], [] => true
  | a :: as, b :: bs => leM a b && leL as bs
  | _, _ => false
end

def leOg : Og → Og → Bool
  | _, .dead => true
  | a, b => a == b

def leSM : SM → SM → Bool
  | _, .u => true
  | .c m o, .c m' o' => leM m m' && leOg o o'
  | .agg m o, .agg m' o' => leL m m' && leOg o o'
  | .box m, .box m' => leL m m'
  | a, b => a.eqb b

/-- Whether what lies at a label is owned all the way. -/
def Mu.owned (μ : Mu) (s : Nat) (cs : List Nat) : Bool := match cs, μ.get s with
  | [], .box _ => true
  | [], .agg _ _ => true
  | cs, x => match x.at cs with
    | some (.own _) => true
    | _ => false

/-- Whether nothing lies at a label: no slice was made there. -/
def Mu.void (μ : Mu) (s : Nat) (cs : List Nat) : Bool := match (μ.get s).at cs with
  | some .emp => true
  | _ => false

def SM.refOk (ν : Mu) : SM → Bool
  | .pt s cs => ν.owned s cs.dropLast
  | .pa s cs _ => ν.owned s cs.dropLast
  | .c _ (.at s cs) => ν.owned s cs || (match (ν.get s).at cs with | some .emp => true | _ => false)
  | .agg _ (.ats s cs js) => js.all fun j => ν.owned s (addc cs j) || ν.void s (addc cs j)
  | _ => true

def weakOk (μ ν : Mu) : Bool := ν.all fun p => leSM (μ.get p.1) (ν.get p.1) && (ν.get p.1).refOk ν

/-! ## Signatures -/

inductive PM where
  | rd
  | frz
  | own (m : M)
  | aggo (ms : List M)
  | mut (m : M)
  | magg (b : Nat) (ms : List M)
  | ptr (ms ms' : List M)
  | rptr (n : Nat)
  | fn (fs : List Nat)
  deriving Inhabited

def PM.pk : PM → PK
  | .rd | .frz | .own _ | .aggo _ | .fn _ => .val
  | .mut _ => .mut
  | .magg b _ => .magg b
  | .ptr ms _ => .ptr ms.length
  | .rptr n => .rptr n

structure Sig where
  pms : List PM
  tys : List Nat := []
  res : List SM
  deriving Inhabited

end Go.Ev

/- The rules of the check: what each operation does to modes. -/
namespace Go.Ev

section
variable (τ : List TE)

def flatM (z : ZC) (m : M) : M := match m with
  | .u => .u
  | m => if z.flat then .view [] else m
def flatL : List ZC → List M → List M
  | z :: zs, m :: ms => flatM z m :: flatL zs ms
  | _, _ => []
def zeroM (z : ZC) : M := if z.flat then .view [] else .emp

def M.readable : M → Bool
  | .u => false
  | _ => true
def M.isOwn : M → Bool
  | .own _ => true
  | _ => false

def M.mayOwn : M → Bool
  | .own _ | .emp => true
  | _ => false

def SM.readable : SM → Bool
  | .c m _ => m.readable
  | .agg ms _ => ms.all M.readable
  | _ => false

def Og.cp (t : Nat) (m : M) : Og → Og
  | .no => match m with
    | .own _ | .emp => .at t []
    | .view _ => .vw t
    | .u => .dead
  | o => o

/-- An operand's mode, copied. -/
def cpM (t : Nat) : SM → SM
  | .c m o => .c (m.viewAt [t]) (o.cp t m)
  | .agg ms o => .agg (viewsAt [t] 0 ms) (match o with
    | .no => .ats t [0] ((List.range ms.length).filter fun j => (ms[j]?).any M.mayOwn)
    | o => o)
  | .box _ => .pt t [0]
  | .vbox ps _ => .pv ps t
  | x => x

def opM (μ : Mu) : Operand → SM
  | .tmp t => cpM t (μ.get t)
  | .const (.slice none 0 0) => .c .emp .no
  | .const v => if v.scalar then .c (.view []) .no else .u
  | .func f => .clo f []
  | .global _ => .u

def rdO (μ : Mu) (x : Operand) : Bool := (opM μ x).readable
def scM : SM := .c (.view []) .no

def putM (dst : Option Tmp) (m : SM) (μ : Mu) : Option Mu := match m with
  | .u => none
  | m => match dst with
    | none => some μ
    | some d => some (μ.put d m)

/-- The mode of a cell in memory. -/
def Mu.mat (μ : Mu) (s : Nat) (cs : List Nat) : Option M := match μ.get s with
  | .agg _ _ => none
  | x => x.at cs

/-- Whether nothing lies at a place in memory: no slice was made there. -/
def Mu.mvoid (μ : Mu) (s : Nat) (cs : List Nat) : Bool := match μ.mat s cs with
  | some .emp => true
  | _ => false

def loadMs (μ : Mu) (s : Nat) (cs : List Nat) (zs : List ZC) : List M := zs.zipIdx.map fun z => match μ.mat s (addc cs z.2) with
  | some m => flatM z.1 (m.viewAt (s :: addc cs z.2))
  | none => .u

/-- What is loaded. -/
def loadM (μ : Mu) (t : Nat) (p : SM) : Option SM := match TE.find τ t with
  | some e => match p with
    | .pa s [c0] n => match e.zero, μ.get s with
      | [z], .box ms => if z.flat && !e.agg && ((ms.drop c0).take n).all M.readable then some scM else none
      | _, _ => none
    | .pt s cs => if μ.mvoid s cs.dropLast then some (if e.agg then .agg (e.zero.map fun _ => .view []) .dead else .c (.view []) .dead) else
      let ms := loadMs μ s cs e.zero
      if ms.isEmpty || !ms.all M.readable then none else if e.agg then some (.agg ms (.ats s cs ((List.range ms.length).filter fun j => (μ.mat s (addc cs j)).any M.mayOwn && !((e.zero[j]?).any ZC.flat)))) else match e.zero, ms with
        | [z], [m] => if z.flat then some scM else some (.c m (match μ.mat s cs with
          | some (.view _) => .vw s
          | _ => .at s cs))
        | _, _ => none
    | .pv ps s => if e.zero.isEmpty then none else if e.agg then some (.agg (e.zero.map fun z => flatM z (.view ps)) (.vw s)) else match e.zero with
      | [z] => if z.flat then some scM else some (.c (.view ps) (.vw s))
      | _ => none
    | _ => none
  | none => none

def M.noOwn : M → Bool
  | .own _ => false
  | _ => true
def SM.noOwn : SM → Bool
  | .c m _ => m.noOwn
  | .agg ms _ => ms.all M.noOwn
  | .box _ => false
  | _ => true

/-- What is owned at cells of slot t goes to labels that are told, one by one. -/
def giveR (t : Nat) (l' : Nat → List Nat) : List Nat → List M → Mu → List M × Mu
  | [], rs, μ => (rs, μ)
  | j :: js, rs, μ => giveR t l' js (mapL (rnF [t, j] (l' j)) rs) ((μ.map (rnF [t, j] (l' j))).dropL [t, j])

def ownsAt (ms : List M) : List Nat := (List.range ms.length).filter fun j => (ms[j]?).any M.isOwn

/-- The modes of what an operand hands over, at labels that are told; what is owned goes along. -/
def give (μ : Mu) (x : Operand) (l' : Nat → List Nat) : Option (List M × Mu) := match x with
  | .tmp t => match μ.get t with
    | .c (.own cols) _ => some ([(M.own cols).map (rnF [t] (l' 0))], ((μ.map (rnF [t] (l' 0))).dropL [t]).set t (.c (((M.own cols).map (rnF [t] (l' 0))).viewAt (l' 0)) .dead))
    | .c m _ => if m.readable then some ([m], μ) else none
    | .agg ms _ => if ms.all M.readable then (if ms.all M.noOwn then some (ms, μ) else some (giveR t l' (ownsAt ms) ms (μ.set t .u))) else none
    | _ => none
  | .const (.slice none 0 0) => some ([.emp], μ)
  | .const v => if v.scalar then some ([.view []], μ) else none
  | _ => none

/-- A cell that may be owned: a slot, or a cell of its box. -/
def Mu.cellSet (μ : Mu) (s : Nat) (cs : List Nat) (m : M) : Option Mu := match cs, μ.get s with
  | [], .c _ o => some (μ.set s (.c m o))
  | [k], .box ms => if k < ms.length then some (μ.set s (.box (ms.set k m))) else none
  | [k], .agg ms o => if k < ms.length then some (μ.set s (.agg (ms.set k m) o)) else none
  | _, _ => none
def Mu.cellGet (μ : Mu) (s : Nat) (cs : List Nat) : Option M := match cs, μ.get s with
  | [], .c m _ => some m
  | [k], .box ms => ms[k]?
  | [k], .agg ms _ => ms[k]?
  | _, _ => none

/-- What a copied header's origin owns goes to the copy. -/
def takeG (t : Nat) (μ : Mu) : Option Mu := match μ.get t with
  | .c (.view _) (.at s cs) => if s = t then none else match μ.cellGet s cs with
    | some (.own cols) =>
      let f := rnF (s :: cs) [t]
      (((μ.map f).dropL (s :: cs)).cellSet s cs (((M.own cols).map f).viewAt [t])).map fun μ' => μ'.set t (.c ((M.own cols).map f) .dead)
    | _ => none
  | _ => none

/-- The same of a struct's cells, whose origin is in a box: of those that are told. -/
def takeAs (s k t : Nat) : List Nat → Mu → Option Mu
  | [], μ => some μ
  | j :: js, μ => match μ.cellGet s [k + j], μ.get t with
    | some (.own cols), .agg ms o => match ms[j]? with
      | some (.view _) =>
        let f := rnF [s, k + j] [t, j]
        match ((μ.map f).dropL [s, k + j]).cellSet s [k + j] (((M.own cols).map f).viewAt [t, j]) with
        | some μ' => takeAs s k t js (μ'.set t (.agg ((mapL f ms).set j ((M.own cols).map f)) .dead))
        | none => none
      | _ => none
    | _, _ => none

def takeA (t : Nat) (js : List Nat) (μ : Mu) : Option Mu := match μ.get t with
  | .agg _ (.ats s [k] js') => if s = t || !js.all js'.contains then none else takeAs s k t js μ
  | _ => none

/-- Nothing is owned below a label any more: what was viewed there is frozen. -/
def unL (l : List Nat) : PF := fun ps => some (ps.filter fun | .lab p => !isPre l p | _ => true)

/-- What a slot owns is frozen. -/
def frzG (s : Nat) (μ : Mu) : Option Mu := match μ.get s with
  | .c (.own cols) o => match provL cols with
    | some ps => some (((μ.map (unL [s])).dropL [s]).set s (.c ((M.view ps).map (unL [s])) (match o with
      | .no => .no
      | _ => .dead)))
    | none => none
  | _ => none

/-- The columns of a slice that is handed over or read. -/
def colsOf (zs : List ZC) (m : M) : Option (List M) := match m with
  | .own cols => if cols.length = zs.length then some cols else none
  | .emp => some (zs.map zeroM)
  | .view ps => some (zs.map fun z => flatM z (.view ps))
  | .u => none

/-- What an argument that is read hangs on. -/
def provSM (μ : Mu) : SM → Option (List Pv)
  | .c m _ => m.prov
  | .agg ms _ => provL ms
  | .clo _ caps => capsP caps
  | .fv _ i => some [.arg i]
  | _ => none
  where capsP : List Nat → Option (List Pv)
  | [] => some []
  | c :: r => match μ.get c, capsP r with
    | .box ms, some q => match provL ms with
      | some p => some (.lab [c] :: p ++ q)
      | none => none
    | _, _ => none

structure ArgM where
  prov : List Pv := []
  /-- Labels below which all may be written. -/
  wr : List (List Nat) := []
  /-- The row of cells in which a part may be written. -/
  row : Option (Nat × List Nat) := none

def substP (as : List ArgM) : Pv → List Pv
  | .arg i => match as[i]? with
    | some a => a.prov
    | none => []
  | .lab l => [.lab l]
def substF (as : List ArgM) : PF := fun ps => some (ps.flatMap (substP as))

def cellsM (μ : Mu) (s : Nat) (cs : List Nat) : Nat → Option (List M)
  | 0 => some []
  | n + 1 => match cellsM μ s cs n, (μ.get s).at (addc cs n) with
    | some r, some m => some (r ++ [m])
    | _, _ => none

/-- Whether the row in which a cell lies is owned. -/
def Mu.rowOwned (μ : Mu) (s : Nat) (cs : List Nat) : Bool := !cs.isEmpty && μ.owned s cs.dropLast

/-- The cells of a pointer's: as they are told; what is viewed with the argument may be viewed anyhow. -/
def lePtr (i : Nat) : List M → List M → Bool
  | [], [] => true
  | a :: as, b :: bs => (match a, b with
    | .view _, .view [.arg j] => j == i
    | .emp, .view [.arg j] => j == i
    | a, b => leM a b) && lePtr i as bs
  | _, _ => false

/-- One argument: what it hangs on, what may be written. -/
def argM (μ : Mu) (i : Nat) (pm : PM) (x : Operand) (ty : Nat) : Option ArgM := match pm with
  | .rd => match TE.find τ ty with
    | some e => if e.zero.all ZC.flat then (if rdO μ x then some {} else none) else (provSM μ (opM μ x)).map fun p => { prov := p }
    | none => none
  | .frz => match opM μ x with
    | .c m _ => if leM m (.view []) then some {} else none
    | .agg ms _ => if ms.all (leM · (.view [])) then some {} else none
    | _ => none
  | .fn fs => match opM μ x with
    | .clo f caps => if fs.contains f then (provSM μ (.clo f caps)).map fun p => { prov := p } else none
    | .fv gs j => if gs.all fs.contains then some { prov := [.arg j] } else none
    | _ => none
  | .own m => match x with
    | .tmp t => match μ.get t with
      | .c m' _ => if leM m' m && (match m' with | .own _ | .emp => true | _ => false) then some { wr := [[t]] } else none
      | _ => none
    | .const (.slice none 0 0) => if leM .emp m then some {} else none
    | _ => none
  | .aggo ms => match x with
    | .tmp t => match μ.get t with
      | .agg ms' _ => if leL ms' ms then some { prov := (provL ms').getD [], wr := [[t]] } else none
      | _ => none
    | _ => none
  | .mut m => match opM μ x with
    | .c _ (.at s cs) => match (μ.get s).at cs with
      | some m' => if m'.eqb m && μ.owned s cs then some { prov := (m'.prov).getD [], wr := [s :: cs] } else none
      | none => none
    | _ => none
  | .magg _ ms => match opM μ x with
    | .agg _ (.ats s cs js) => match cellsM μ s cs ms.length with
      | some ms' => if eqbL ms' ms && μ.rowOwned s cs && (List.range ms.length).all (fun j => js.contains j || (ms[j]?).any (fun m => m.eqb (.view []))) then some { prov := (provL ms').getD [], wr := (List.range ms.length).map (fun j => s :: addc cs j) } else none
      | none => none
    | _ => none
  | .ptr ms _ => match opM μ x with
    | .pt s cs => match cellsM μ s cs ms.length with
      | some ms' => if lePtr i ms' ms && μ.rowOwned s cs then some { prov := (provL ms').getD [], wr := (List.range ms.length).map (fun j => s :: addc cs j), row := some (s, cs) } else none
      | none => none
    | _ => none
  | .rptr n => match opM μ x with
    | .pt s cs => match cellsM μ s cs n with
      | some ms => match provL ms with
        | some p => if μ.rowOwned s cs then some { prov := .lab (s :: cs.dropLast) :: p } else none
        | none => none
      | none => none
    | .pv ps _ => some { prov := ps }
    | _ => none

def argsM (μ : Mu) : Nat → List PM → List Operand → List Nat → Option (List ArgM)
  | _, [], [], [] => some []
  | i, p :: ps, x :: xs, t :: ts => match argM τ μ i p x t, argsM μ (i + 1) ps xs ts with
    | some a, some as => some (a :: as)
    | _, _ => none
  | _, _, _, _ => none

def apart1 (a b : ArgM) : Bool :=
  a.wr.all (fun q => (killD q b.prov).isSome) &&
  (match a.row with
    | some (s, cs) => (killF (s :: cs.dropLast) b.prov).isSome
    | none => true) &&
  a.wr.all (fun q => b.wr.all fun q' => !isPre q q' && !isPre q' q) &&
  (match a.row, b.row with
    | some (s, cs), some (s', cs') => !(s == s' && cs.dropLast == cs'.dropLast)
    | _, _ => true) &&
  (match a.row with
    | some (s, cs) => b.wr.all fun q => !isPre q (s :: cs.dropLast)
    | none => true)

/-- No argument is read that another one may write. -/
def apart : List ArgM → Bool
  | [] => true
  | a :: as => as.all (fun b => apart1 a b && apart1 b a) && apart as

def killAll (qs : List (List Nat)) (μ : Mu) : Mu := qs.foldl (fun μ q => (μ.map (killD q)).dropL q) μ

/-- What a call wrote. -/
def afterM (all : List ArgM) : List PM → List Operand → List ArgM → Mu → Option Mu
  | p :: ps, x :: xs, a :: rest, μ =>
    match p, x with
    | .own _, .tmp t => afterM all ps xs rest ((killAll a.wr μ).set t .u)
    | .aggo _, .tmp t => afterM all ps xs rest ((killAll a.wr μ).set t .u)
    | .mut _, _ => match a.wr with
      | [q] => afterM all ps xs rest ((μ.map (killD q)).dropL (q ++ [0]))
      | _ => none
    | .magg _ _, _ => afterM all ps xs rest (a.wr.foldl (fun μ q => μ.map (killD q)) μ)
    | .ptr _ ms', _ => match a.row with
      | some (s, cs) =>
        let μ1 := (killAll a.wr μ).map (killF (s :: cs.dropLast))
        let new := mapL (substF all) ms'
        match cs, μ1.get s with
        | [k], .box ms => if k + new.length ≤ ms.length then afterM all ps xs rest (μ1.set s (.box (ms.take k ++ new ++ ms.drop (k + new.length)))) else none
        | _, _ => match cellsM μ1 s cs new.length with
          | some old => if leL new old then afterM all ps xs rest μ1 else none
          | none => none
      | none => none
    | _, _ => afterM all ps xs rest μ
  | [], [], [], μ => some μ
  | _, _, _, _ => none

def putResM (dst : Option Tmp) (rs : List SM) (μ : Mu) : Option Mu := match dst with
  | none => some μ
  | some d => match rs with
    | [] => some (μ.clear d)
    | [r] => some (μ.put d r)
    | rs => if rs.length ≤ 8 then some ((d, .tup d rs.length) :: ((rs.zipIdx.map fun p => (cix d p.2, p.1)) ++ μ.clear d)) else none

def PM.quiet : PM → Bool
  | .rd | .frz | .rptr _ | .fn _ => true
  | _ => false
def PM.isRptr : PM → Bool
  | .rptr _ => true
  | _ => false

/-- A call; the captured variables of a function value are read alone. -/
def callM (Sg : Nat → Option Sig) (μ : Mu) (f : Nat) (c : Call) (dst : Option Tmp) (nx : Nat) (px : List Pv) : Option Mu := match Sg f with
  | some sg => if sg.pms.length = c.args.size + nx ∧ (sg.pms.drop c.args.size).all PM.isRptr = true then
      (match argsM τ μ 0 (sg.pms.take c.args.size) c.args.toList c.argTypes.toList with
      | some as =>
        let all := as ++ List.replicate nx { prov := px }
        if apart (as ++ [{ prov := px }]) then
          (match afterM all (sg.pms.take c.args.size) c.args.toList as μ with
          | some μ2 => putResM dst (sg.res.map (SM.map (substF all))) μ2
          | none => none) else none
      | none => none) else none
  | none => none

/-! Calls that read their arguments alone. -/

def prov0 : SM → Option (List Pv)
  | .c m _ => m.prov
  | .agg ms _ => provL ms
  | _ => none

/-- What captured boxes hang on. -/
def capsQ (μ : Mu) : List Nat → Option (List Pv)
  | [] => some []
  | c :: r => match μ.get c, capsQ μ r with
    | .box ms, some q => match provL ms with
      | some p => some (.lab [c] :: p ++ q)
      | none => none
    | _, _ => none

def argQ0 (μ : Mu) (pm : PM) (x : Operand) (ty : Nat) : Option (List Pv) := match TE.find τ ty with
  | some e => if (opM μ x).readable then (match pm with
    | .rd => if e.zero.all ZC.flat then some [] else prov0 (opM μ x)
    | .frz => match prov0 (opM μ x) with
      | some [] => some []
      | _ => none
    | _ => none) else none
  | none => none

/-- A pointer that is read through. -/
def argQp (μ : Mu) (n : Nat) (x : Operand) : Option (List Pv) := match opM μ x with
  | .pt s [k] => match μ.get s with
    | .box ms => if k + n ≤ ms.length then (provL ((ms.drop k).take n)).map fun p => .lab [s] :: p else none
    | _ => none
  | .pv ps _ => if 0 < n then some ps else none
  | _ => none

/-- A function's value. -/
def argQf (μ : Mu) (fs : List Nat) (x : Operand) : Option (List Pv) := match opM μ x with
  | .clo f caps => if fs.contains f then capsQ μ caps else none
  | .fv gs j => if gs.all fs.contains then some [.arg j] else none
  | _ => none

def argQ (μ : Mu) (pm : PM) (x : Operand) (ty : Nat) : Option (List Pv) := match pm with
  | .rptr n => argQp μ n x
  | .fn fs => argQf μ fs x
  | pm => argQ0 τ μ pm x ty

def argsQ (μ : Mu) : List PM → List Operand → List Nat → Option (List (List Pv))
  | [], [], [] => some []
  | p :: ps, x :: xs, t :: ts => match argQ τ μ p x t, argsQ μ ps xs ts with
    | some a, some as => some (a :: as)
    | _, _ => none
  | _, _, _ => none

def Pv.isLab : Pv → Bool
  | .lab _ => true
  | _ => false

def substQ (as : List (List Pv)) : PF := fun ps => if ps.any Pv.isLab then none else some (ps.flatMap fun
  | .arg i => as.getD i []
  | .lab _ => [])

def SM.resOk : SM → Bool
  | .c _ .no => true
  | .agg _ .no => true
  | .box _ => true
  | _ => false

def callQ (Sg : Nat → Option Sig) (μ : Mu) (f : Nat) (c : Call) (dst : Option Tmp) : Option Mu := match Sg f with
  | some sg => if sg.tys = c.argTypes.toList ∧ sg.res.all SM.resOk = true then (match argsQ τ μ sg.pms c.args.toList c.argTypes.toList with
    | some as => putResM dst (sg.res.map (SM.map (substQ as))) μ
    | none => none) else none
  | none => none

def offB (e : TE) (i : Nat) : Nat := match e.ar with
  | some (_, _, z) => i * z
  | none => (e.flds[i]?).getD 0

def cellsOfM : SM → List M
  | .c m _ => [m]
  | .agg ms _ => ms
  | _ => []

def capM (μ : Mu) : List Operand → Option (List Nat)
  | [] => some []
  | .tmp t :: xs => match μ.get t, capM μ xs with
    | .box _, some r => some (t :: r)
    | _, _ => none
  | _ => none

/-- Whether what is converted to a string is a string, or bytes. -/
def convOk (src : Nat) (zs : List ZC) : Bool := match zs with
  | [.zs] => match TE.find τ src with
    | some e => match e.el with
      | some (et, _, _) => match TE.find τ et with
        | some ee => ee.zero == [.zi .u8] && !ee.agg
        | none => false
      | none => true
    | none => false
  | [.zi _] => true
  | _ => false

/-- The slot of what is about to be stored. -/
def gam : Nat := 10000

def landP (row : List Nat) (c : Nat) : Pv → Option Pv
  | .arg i => some (.arg i)
  | .lab [] => some (.lab [])
  | .lab [a] => if a = gam then none else some (.lab [a])
  | .lab (a :: k :: r) => if a = gam then some (.lab (row ++ (c + k) :: r)) else some (.lab (a :: k :: r))

def landF (row : List Nat) (c : Nat) : PF := fun ps => (ps.mapM (landP row c)).bind (killF row)

def under (row : List Nat) (c n : Nat) (l : List Nat) : Bool := (List.range n).any fun k => isPre (row ++ [c + k]) l

/-- What refers to cells that are written, or to what they lie in, refers no more. -/
def finSM (row : List Nat) (c n : Nat) : SM → SM
  | .c m (.at s cs) => if isPre (s :: cs) row || under row c n (s :: cs) then .c m .dead else .c m (.at s cs)
  | .c m (.vw q) => if row.head? = some q then .c m .dead else .c m (.vw q)
  | .c m (.ats _ _ _) => .c m .dead
  | .agg ms (.ats s cs js) => if js.any (fun j => isPre (s :: addc cs j) row || under row c n (s :: addc cs j)) then .agg ms .dead else .agg ms (.ats s cs js)
  | .agg ms (.at _ _) => .agg ms .dead
  | .agg ms (.vw _) => .agg ms .dead
  | .pt s cs => if under row c n (s :: cs.dropLast) then .u else .pt s cs
  | .pa s cs k => if under row c n (s :: cs.dropLast) then .u else .pa s cs k
  | .pv ps q => if row.head? = some q then .u else .pv ps q
  | x => x

def Mu.fin (μ : Mu) (row : List Nat) (c n : Nat) : Mu := List.map (fun p => (p.1, finSM row c n (p.2.map (landF row c)))) μ

def SM.noG : SM → Bool
  | .pt q _ => q != gam
  | .pa q _ _ => q != gam
  | .c _ (.at q _) => q != gam
  | .agg _ (.ats q _ _) => q != gam
  | _ => true

mutual
/-- What may be taken for what, where ownership stays. -/
def leS : M → M → Bool
  | _, .u => true
  | .emp, .emp => true
  | .emp, .own _ => true
  | .emp, .view _ => true
  | .own a, .own b => leSL a b
  | .view a, .view b => a.all b.contains
  | _, _ => false
def leSL : List M → List M → Bool
  | [], [] => true
  | a :: as, b :: bs => leS a b && leSL as bs
  | _, _ => false
end

/-- A slot whose cells were written. -/
def SM.wrote : SM → SM
  | .c m .no => .c m .no
  | .c m _ => .c m .dead
  | x => x

def spliceM (ms : List M) (off : Nat) (new : List M) : List M := ms.take off ++ new ++ ms.drop (off + new.length)

/-- The modes of what leaves nothing but its result. -/
def pureM (cols : List M) (μ : Mu) (o : Op) : Option SM := match o with
  | .move x => some (opM μ x)
  | .pick c x y => if rdO μ c && rdO μ x && rdO μ y then some scM else none
  | .alloc t => match TE.find τ t with
    | some e => some (.box (e.zero.map zeroM))
    | none => none
  | .load t x => loadM τ μ t (opM μ x)
  | .nilCheck x => match opM μ x with
    | .pt s cs => some (.pt s cs)
    | .pv ps s => some (.pv ps s)
    | _ => none
  | .makeInterface _ _ => some scM
  | .binOp _ _ x y _ => if rdO μ x && rdO μ y then some scM else none
  | .unOp _ _ x => if rdO μ x then some scM else none
  | .fieldAddr s x f => match TE.find τ s, opM μ x with
    | some e, .pt s cs => match e.flds[f]? with
      | some off => some (.pt s (addc cs off))
      | none => none
    | some _, .pv ps s => some (.pv ps s)
    | _, _ => none
  | .indexAddr t x i => if !rdO μ i then none else match TE.find τ t with
    | some e => match e.el with
      | some _ => match opM μ x with
        | .c _ (.at s cs) => some (.pt s (cs ++ [0]))
        | .c (.view ps) (.vw s) => some (.pv ps s)
        | _ => none
      | none => match e.ar, opM μ x with
        | _, _ => none
    | none => none
  | .index _ x i => if rdO μ x && rdO μ i then some scM else none
  | .extract (.tmp t) i => match μ.get t with
    | .tup b n => if i < n then some (cpM (cix b i) (μ.get (cix b i))) else none
    | _ => none
  | .slice _ x lo hi mx => if lo.all (rdO μ) && hi.all (rdO μ) && mx.all (rdO μ) then match opM μ x with
      | .c m _ => if m.readable then some (.c m .no) else none
      | _ => none
    else none
  | .convert src dst x => if rdO μ x then (match TE.find τ dst with
    | some e => if convOk τ src e.zero then some scM else none
    | none => none) else none
  | .makeSlice t n c => match TE.find τ t with
    | some e => match e.el with
      | some (et, _, _) => match TE.find τ et with
        | some ee => if rdO μ n && rdO μ c && leL (ee.zero.map zeroM) cols && cols.all M.readable then some (.c (.own cols) .no) else none
        | none => none
      | none => none
    | none => none
  | .build t ps => match TE.find τ t with
    | some e => if ps.toList.all (fun p => rdO μ p.2) then some (.agg (flatL e.zero (ps.toList.foldl (fun ms p => spliceM ms (offB e p.1) (cellsOfM (opM μ p.2))) (e.zero.map zeroM))) .no) else none
    | none => none
  | .buildSlice t _ ps => match TE.find τ t with
    | some e => match e.el with
      | some (et, _, _) => match TE.find τ et with
        | some ee => if ps.toList.all (fun p => rdO μ p.2 && leSL (cellsOfM (opM μ p.2)) cols) && leSL (ee.zero.map zeroM) cols && cols.all M.readable then some (.c (.own cols) .no) else none
        | none => none
      | none => none
    | none => none
  | .makeFunc (.func f) _ cs => (capM μ cs.toList).map fun caps => .clo f caps
  | .call c => match c.callee, c.args.toList with
    | .builtin .len, [x] => if rdO μ x then some scM else none
    | .builtin .max, [x, y] => if rdO μ x && rdO μ y then some scM else none
    | .builtin .min, [x, y] => if rdO μ x && rdO μ y then some scM else none
    | _, _ => none
  | _ => none

def pureC (cols : List M) (o : Oper) (μ : Mu) : Option Mu := match pureM τ cols μ o.op with
  | some m => putM o.dst m μ
  | none => none

def colsD : List M → List Nat → Option (List M)
  | cols, [] => some cols
  | cols, k :: r => match cols[k]? with
    | some (.own cs) => colsD cs r
    | _ => none

/-- The modes of a row of cells in memory. -/
def nodeC : SM → List Nat → Option (List M)
  | .box ms, [] => some ms
  | .box ms, k :: r => match ms[k]? with
    | some (.own cs) => colsD cs r
    | _ => none
  | .c (.own cols) _, cs => colsD cols cs
  | _, _ => none

def Mu.okG (μ : Mu) : Bool := List.all μ (fun p => p.2.noG) && (match μ.get gam with
  | .u => true
  | _ => false)

/-- Cells are written at a row, from a column on. -/
def storeM (zs : List ZC) (ms : List M) (μ : Mu) (s : Nat) (cs : List Nat) (c : Nat) : Option Mu :=
  let row := s :: cs
  let f := landF row c
  let new := flatL zs ms
  let μ2 := μ.fin row c ms.length
  match cs, μ.get s with
  | [], .box old => if c + ms.length ≤ old.length then some (μ2.set s (.box (spliceM (mapL f old) c (mapL f new)))) else none
  | cs, sm => match nodeC sm cs with
    | some cols => if leSL (mapL f new) (((mapL f cols).drop c).take ms.length) then some (μ2.set s ((sm.map f).wrote)) else none
    | none => none

def appM1 (m1 : M) (d : Nat) (cols : List M) : Bool := match m1 with
  | .own c => leSL (mapL (killF [d]) c) cols
  | .emp => true
  | _ => false

/-- append: what is owned is consumed, what is appended is copied; the columns are told; both must be these, or less. -/
def appM (μ : Mu) (t : Nat) (x y : Operand) (d : Nat) (cols : List M) : Option Mu := match TE.find τ t with
  | some e => match e.el with
    | some (et, _, _) => match TE.find τ et with
      | some ee => match give (μ.clear d) x (fun _ => [d]) with
        | some ([m1], μ1) => match opM μ1 y with
          | .c my _ =>
            if my.readable && appM1 m1 d cols && leSL (ee.zero.map fun z => flatM z (my.map (killF [d]))) cols && cols.all M.readable then some ((μ1.map (killF [d])).put d (.c (.own cols) .no)) else none
          | _ => none
        | _ => none
      | none => none
    | none => none
  | none => none

/-- A copy that takes what is owned along. -/
def moveT (μ : Mu) (x : Operand) (d : Nat) : Option Mu := match opM μ x with
  | .c _ _ => match give (μ.clear d) x fun _ => [d] with
    | some ([m], μ') => some (μ'.put d (.c m .dead))
    | _ => none
  | .agg _ _ => match give (μ.clear d) x fun k => [d, k] with
    | some (ms, μ') => some (μ'.put d (.agg ms .dead))
    | none => none
  | _ => none

def quietB : PM → Bool
  | .rd => true
  | .frz => true
  | .rptr _ => true
  | .fn _ => true
  | _ => false

/-- A function that writes what lies behind its first argument, and answers a scalar, or what is frozen. -/
def mutOk (sg : Sig) : Option M := match sg.pms, sg.res with
  | .mut m :: ps, [.c (.view []) .no] => if ps.all quietB && decide (m.prov = some []) && m.isOwn then some m else none
  | _, _ => none

/-- The mode of the cell, or the slot, in which a header lies. -/
def cellM (μ : Mu) (s : Nat) (cs : List Nat) : Option M := match cs with
  | [] => match μ.get s with
    | .c m _ => some m
    | _ => none
  | cs => match nodeC (μ.get s) cs.dropLast with
    | some cols => cols[cs.getLastD 0]?
    | none => none

/-- The modes once what lies behind a header was written. -/
def backM (μ : Mu) (s : Nat) (cs : List Nat) (m : M) : Mu := match cs with
  | [] => (μ.map (killD [s])).put s (.c m (match μ.get s with
    | .c _ .no => .no
    | _ => .dead))
  | cs => Mu.set (List.map (fun p => (p.1, finSM (s :: cs.dropLast) (cs.getLastD 0) 1 (p.2.map (killD (s :: cs))))) μ) s ((μ.get s).map (killD (s :: cs))).wrote

def argMq (μ : Mu) (m : M) (x : Operand) (t : Nat) : Option (Nat × List Nat) := match opM μ x with
  | .c m0 (.at s cs) => match cellM μ s cs, TE.find τ t, m with
    | some m', some e, .own cols => match e.zero with
      | [.zl z] => if m0.readable && leS m' m && leS m (m'.map (killD (s :: cs))) && Nat.blt s 1000 && μ.okG && cols.length == z && Nat.blt 0 z && m'.isOwn then some (s, cs) else none
      | _ => none
    | _, _, _ => none
  | _ => none

/-- A call that writes what lies behind its first argument. -/
def callMq (Sg : Nat → Option Sig) (μ : Mu) (f : Nat) (c : Call) (dst : Option Tmp) : Option Mu := match Sg f with
  | some sg => match mutOk sg, sg.pms, c.args.toList, c.argTypes.toList with
    | some m, _ :: ps, x :: xs, t :: ts => if sg.tys = t :: ts then (match argMq τ μ m x t, argsQ τ μ ps xs ts with
      | some (s, cs), some pss => if pss.all (fun q => (killD (s :: cs) q).isSome) then putResM dst [.c (.view []) .no] (backM μ s cs m) else none
      | _, _ => none) else none
    | _, _, _, _ => none
  | none => none

def SM.isV0 : SM → Bool
  | .c (.view []) .no => true
  | _ => false

/-- A function whose first argument is written: what is known of it ahead of the call, and behind it. -/
def ioOk (sg : Sig) : Option (SM × SM × Nat) := match sg.pms with
  | .ptr ms ms' :: ps => if ps.all quietB && sg.res.all SM.resOk && ms.length == ms'.length && Nat.blt 0 ms.length then some (.box ms, .box ms', ms.length) else none
  | .magg _ ms :: ps => if ps.all quietB && sg.res.all SM.resOk && sg.res.all SM.isV0 && (provL ms).any List.isEmpty && Nat.blt 0 ms.length then some (.agg ms .no, .agg ms .no, ms.length) else none
  | _ => none

/-- What is viewed in such an argument. -/
def argF (px : List Pv) : PF := fun ps => if ps.isEmpty then some [] else if ps.all px.contains then some [.arg 0] else none

/-- A pointer to a whole box. -/
def argPq (μ : Mu) (ms : List M) (x : Operand) : Option (Nat × List Pv) := match opM μ x with
  | .pt s [0] => match μ.get s with
    | .box ms0 => match provL ms0 with
      | some px => if ms0.length == ms.length && leSL (mapL (argF px) ms0) ms && Nat.blt s 1000 && μ.okG && (killD [s] px).isSome then some (s, px) else none
      | none => none
    | _ => none
  | _ => none

/-- The modes once a box was written by a call. -/
def backP (μ : Mu) (s : Nat) (ms : List M) : Mu := Mu.set (List.map (fun p => (p.1, finSM [s] 0 ms.length (p.2.map (killD [s])))) μ) s (.box ms)

def Mu.clearO (μ : Mu) : Option Tmp → Mu
  | some d => μ.clear d
  | none => μ

/-- A call that writes what its first argument points to. -/
def callPq (Sg : Nat → Option Sig) (μ : Mu) (f : Nat) (c : Call) (dst : Option Tmp) : Option Mu := match Sg f with
  | some sg => match ioOk sg, sg.pms, c.args.toList, c.argTypes.toList with
    | some _, .ptr ms ms' :: ps, x :: xs, t :: ts => if sg.tys = t :: ts then (match argPq (μ.clearO dst) ms x, argsQ τ (μ.clearO dst) ps xs ts with
      | some (s, px), some pss => if pss.all (fun q => (killD [s] q).isSome) then putResM dst (sg.res.map (SM.map (substQ (px :: pss)))) (backP (μ.clearO dst) s (mapL (substQ (px :: pss)) ms')) else none
      | _, _ => none) else none
    | _, _, _, _ => none
  | none => none

/-- A column of a struct that is lent: tied to the box's, or flat. -/
def colA (m0 m8 m : M) (z : ZC) (tied : Bool) : Bool := match m with
  | .own cols => leS m0 m && tied && m8.readable && (match z with
    | .zl zz => cols.length == zz && Nat.blt 0 zz
    | _ => false)
  | .view [] => z.flat && m0.readable && m8.readable
  | _ => false

/-- A struct out of a whole box. -/
def argAq (μ : Mu) (ms : List M) (x : Operand) (t : Nat) : Option Nat := match opM μ x, TE.find τ t with
  | .agg m8 (.ats s [0] js), some e => match μ.get s with
    | .box ms0 => if ms0.length == ms.length && m8.length == ms.length && e.zero.length == ms.length && (List.range ms.length).all (fun j => colA (ms0.getD j .u) (m8.getD j .u) (ms.getD j .u) (e.zero.getD j .zx) (js.contains j)) && Nat.blt s 1000 && μ.okG then some s else none
    | _ => none
  | _, _ => none

/-- A call that writes what a struct, its first argument, owns. -/
def callAq (Sg : Nat → Option Sig) (μ : Mu) (f : Nat) (c : Call) (dst : Option Tmp) : Option Mu := match Sg f with
  | some sg => match ioOk sg, sg.pms, c.args.toList, c.argTypes.toList with
    | some _, .magg _ ms :: ps, x :: xs, t :: ts => if sg.tys = t :: ts then (match argAq τ (μ.clearO dst) ms x t, argsQ τ (μ.clearO dst) ps xs ts with
      | some s, some pss => if pss.all (fun q => (killD [s] q).isSome) then putResM dst (sg.res.map (SM.map (substQ ([] :: pss)))) (backP (μ.clearO dst) s ms) else none
      | _, _ => none) else none
    | _, _, _, _ => none
  | none => none

/-- A struct that is loaded from its box, which is given up: what it owns goes along. -/
def loadT (μ : Mu) (t : Nat) (x : Operand) (d : Nat) : Option Mu := match opM μ x, TE.find τ t with
  | .pt s [0], some e => match (μ.clear d).get s with
    | .box ms => if e.agg && ms.length == e.zero.length && ms.all M.readable && s != d then
        some ((giveR s (fun k => [d, k]) (ownsAt ms) ms ((μ.clear d).set s .u)).2.put d (.agg (flatL e.zero (giveR s (fun k => [d, k]) (ownsAt ms) ms ((μ.clear d).set s .u)).1) .dead))
      else none
    | _ => none
  | _, _ => none

/-- The functions that a value may be, and what they capture hangs on. -/
def funsM (μ : Mu) (y : Operand) : Option (List Nat × List Pv) := match opM μ y with
  | .clo f caps => (capsQ μ caps).map fun p => ([f], p)
  | .fv fs j => some (fs, [.arg j])
  | _ => none

def fnOk (Sg : Nat → Option Sig) (μ : Mu) (c : Call) (f : Nat) : Bool := match Sg f with
  | some sg => sg.res.length == 1 && sg.res.all SM.isV0 && Nat.ble c.args.size sg.pms.length && sg.tys.take c.args.size == c.argTypes.toList && (argsQ τ μ (sg.pms.take c.args.size) c.args.toList c.argTypes.toList).isSome
  | none => false

/-- A call of a function's value that answers a scalar. -/
def callFv (Sg : Nat → Option Sig) (μ : Mu) (y : Operand) (c : Call) (dst : Option Tmp) : Option Mu := match funsM μ y with
  | some (fs, _) => if fs.all (fnOk τ Sg μ c) then putResM dst [.c (.view []) .no] μ else none
  | none => none

/-- A component of a tuple, with what it owns. -/
def extractT (μ : Mu) (x : Operand) (i d : Nat) : Option Mu := match x with
  | .tmp t => match μ.get t with
    | .tup b n => if i < n then moveT μ (.tmp (cix b i)) d else none
    | _ => none
  | _ => none

/-- The columns that an operation is told, if any: for append, for the slices that are built; a copy takes along if any are told. -/
def chkOp (Sg : Nat → Option Sig) (cols : List M) (o : Oper) (μ : Mu) : Option Mu := match o.op with
  | .assign x => match o.dst with
    | some d => match opM μ x with
      | .c _ _ => match give (μ.clear d) x fun _ => [d] with
        | some ([m], μ') => some (μ'.put d (.c m .no))
        | _ => none
      | .agg _ _ => match give (μ.clear d) x fun k => [d, k] with
        | some (ms, μ') => some (μ'.put d (.agg ms .no))
        | _ => none
      | .tup _ _ => none
      | m => putM o.dst m μ
    | none => none
  | .move x => if cols.isEmpty then pureC τ cols o μ else (match o.dst with
    | some d => moveT μ x d
    | none => none)
  | .load t x => if cols.isEmpty then pureC τ cols o μ else (match o.dst with
    | some d => loadT τ μ t x d
    | none => none)
  | .extract x i => if cols.isEmpty then pureC τ cols o μ else (match o.dst with
    | some d => extractT μ x i d
    | none => none)
  | .box t x => match TE.find τ t, o.dst with
    | some e, some d => match give (μ.clear d) x fun k => [d, k] with
      | some (ms, μ') => some (μ'.put d (.box (flatL e.zero ms)))
      | none => none
    | _, _ => none
  | .store t x y => match TE.find τ t, give μ y (fun k => [gam, k]) with
    | some e, some (ms, μ1) => match opM μ1 x with
      | .pt s cs => if !(μ.okG && μ1.okG && s != gam) then none else if μ1.mvoid s cs.dropLast then some μ1 else storeM e.zero ms μ1 s cs.dropLast (cs.getLastD 0)
      | _ => none
    | _, _ => none
  | .call c => match c.callee with
    | .value (.func f) => match callQ τ Sg μ f c o.dst with
      | some μ' => some μ'
      | none => match callMq τ Sg μ f c o.dst with
        | some μ' => some μ'
        | none => match callPq τ Sg μ f c o.dst with
          | some μ' => some μ'
          | none => callAq τ Sg μ f c o.dst
    | .value y => callFv τ Sg μ y c o.dst
    | .builtin .append => match c.args.toList, c.argTypes.toList, o.dst with
      | [x, y], [t, _], some d => appM τ μ t x y d cols
      | _, _, _ => none
    | _ => pureC τ cols o μ
  | _ => pureC τ cols o μ
end
end Go.Ev

/- The check of a function's text: what is done between operations is told by a policy, which nothing hangs on. -/
namespace Go.Ev

mutual
def joinM : M → M → M
  | .u, _ => .u
  | _, .u => .u
  | .emp, m => m
  | m, .emp => m
  | .view a, .view b => .view (a ++ b.filter (fun p => !a.contains p))
  | .own a, .own b => if a.length = b.length then .own (joinL a b) else .u
  | .own a, .view b => match provL a with
    | some p => .view (b ++ p.filter (fun x => !b.contains x))
    | none => .u
  | .view b, .own a => match provL a with
    | some p => .view (b ++ p.filter (fun x => !b.contains x))
    | none => .u
def joinL : List M → List M → List M
  | a :: as, b :: bs => joinM a b :: joinL as bs
  | _, _ => []
end

def joinOg (a b : Og) : Og := if a == b then a else .dead

def joinSM : SM → SM → SM
  | .c m a, .c m' a' => .c (joinM m m') (joinOg a a')
  | .agg m a, .agg m' a' => if m.length = m'.length then .agg (joinL m m') (joinOg a a') else .u
  | .box m, .box m' => if m.length = m'.length then .box (joinL m m') else .u
  | a, b => if a.eqb b then a else .u

def muEqb (μ ν : Mu) : Bool := μ.length == ν.length && μ.all fun p => p.2.eqb (ν.get p.1)

def isU : SM → Bool
  | .u => true
  | .c .u .dead => true
  | _ => false

def fixRef (ν : Mu) (x : SM) : SM := if x.refOk ν then x else match x with
  | .c m _ => .c m .dead
  | .agg m _ => .agg m .dead
  | _ => .u

def joinMu (μ ν : Mu) : Mu :=
  let r := (List.map (fun p => (p.1, joinSM p.2 (ν.get p.1))) μ).filter (fun p => !isU p.2)
  (List.map (fun p => (p.1, fixRef r p.2)) r).filter (fun p => !isU p.2)
def joinO : Option Mu → Option Mu → Option Mu
  | some a, some b => some (joinMu a b)
  | some a, none => some a
  | none, b => b

/-! ## What is taken ahead of an operation -/

inductive Gh where
  | one (t : Nat)
  | cell (t : Nat) (js : List Nat)
  | frz (t : Nat)

def Gh.run (μ : Mu) : Gh → Option Mu
  | .one t => takeG t μ
  | .cell t js => takeA t js μ
  | .frz t => frzG t μ

def takes (bor : List Nat) (all : Bool) (μ : Mu) (x : Operand) : List Gh := match x with
  | .tmp t => match μ.get t with
    | .c (.view _) (.at s cs) => if s != t && (all || !bor.contains s) then (match μ.cellGet s cs with
        | some (.own _) => [.one t]
        | _ => []) else []
    | .agg ms (.ats s [k] js) => if s != t && (all || !bor.contains s) then [.cell t (js.filter (fun j => match μ.cellGet s [k + j], ms[j]? with
        | some (.own _), some (.view _) => true
        | _, _ => false))] else []
    | _ => []
  | _ => []

def ghosts (Sg : Nat → Option Sig) (bor : List Nat) (o : Oper) (μ : Mu) : List Gh := match o.op with
  | .assign x => takes bor false μ x
  | .store _ _ x => takes bor false μ x
  | .box _ x => takes bor false μ x
  | .call c => match c.callee with
    | .builtin .append => match c.args.toList with
      | [x, _] => takes bor true μ x
      | _ => []
    | .value (.func f) => match Sg f with
      | some sg => (sg.pms.zip c.args.toList).flatMap fun p => match p.1 with
        | .own _ => takes bor true μ p.2
        | .aggo _ => takes bor false μ p.2
        | .frz => match p.2 with
          | .tmp t => match μ.get t with
            | .c (.own _) _ => [.frz t]
            | .c (.view _) (.at s []) => if bor.contains s then [] else [.frz s]
            | _ => []
          | _ => []
        | _ => []
      | none => []
    | _ => []
  | _ => []

def runG (gs : List Gh) (μ : Mu) : Option Mu := gs.foldl (fun r g => r.bind fun μ => g.run μ) (some μ)

def elemZ (τ : List TE) (t : Nat) : List ZC := match TE.find τ t with
  | some e => match e.el with
    | some (et, _, _) => match TE.find τ et with
      | some ee => ee.zero
      | none => []
    | none => []
  | none => []

def srcM (μ : Mu) (x : Operand) (f : PF) : M := match x with
  | .tmp t => match μ.get t with
    | .c m _ => m.map f
    | _ => .u
  | .const (.slice none 0 0) => .emp
  | _ => .view []

/-- The columns that are told to an operation. -/
def colsG (τ : List TE) (o : Oper) (μ : Mu) : List M := match o.op with
  | .call c => match c.callee, c.args.toList, c.argTypes.toList, o.dst with
    | .builtin .append, [x, y], t :: _, some d =>
      let zs := elemZ τ t
      match give (μ.clear d) x (fun _ => [d]) with
      | some ([m1], μ1) => match opM μ1 y, colsOf zs (m1.map (killF [d])) with
        | .c my _, some a => joinL a (zs.map fun z => flatM z (my.map (killF [d])))
        | _, _ => []
      | _ => []
    | _, _, _, _ => []
  | .makeSlice t _ _ => (elemZ τ t).map zeroM
  | .buildSlice t n ps => match o.dst with
    | some _ =>
      let zs := elemZ τ t
      ps.toList.foldl (fun ms p => joinL ms (flatL zs (cellsOfM (opM μ p.2)))) (zs.map zeroM)
    | none => []
  | _ => []

structure Fx where
  τ : List TE
  Sg : Nat → Option Sig
  bor : List Nat

def stepG (X : Fx) (o : Oper) (μ : Mu) : Option Mu := match runG (ghosts X.Sg X.bor o μ) μ with
  | some μ => chkOp X.τ X.Sg (colsG X.τ o μ) o μ
  | none => none

def opsG (X : Fx) : List Oper → Mu → Option Mu
  | [], μ => some μ
  | o :: rest, μ => match stepG X o μ with
    | some μ' => opsG X rest μ'
    | none => none

structure Outs where
  n : Option Mu := none
  e : List (Nat × Mu) := []
  r : Option Mu := none

def mergeE (a b : List (Nat × Mu)) : List (Nat × Mu) := b.foldl (fun a p => match a.lookup p.1 with
  | some μ => (p.1, joinMu μ p.2) :: a.filter (fun q => q.1 != p.1)
  | none => p :: a) a

def codeG (X : Fx) : Code → Mu → Option Outs
  | .skip, μ => some { n := some μ }
  | .region _ ops _, μ => (opsG X ops.toList μ).map fun μ => { n := some μ }
  | .seq a b, μ => match codeG X a μ with
    | some o => match o.n with
      | some μ' => match codeG X b μ' with
        | some o' => some { n := o'.n, e := mergeE o.e o'.e, r := joinO o.r o'.r }
        | none => none
      | none => some o
    | none => none
  | .cond c a b, μ => if rdO μ c then (match codeG X a μ, codeG X b μ with
    | some o, some o' => some { n := joinO o.n o'.n, e := mergeE o.e o'.e, r := joinO o.r o'.r }
    | _, _ => none) else none
  | .block id c, μ => match codeG X c μ with
    | some o => some { n := joinO o.n (o.e.lookup id), e := o.e.filter (fun p => p.1 != id), r := o.r }
    | none => none
  | .loop c, μ =>
    let rec go : Nat → Mu → Option Outs
      | 0, _ => none
      | k + 1, μ => match codeG X c μ with
        | some o => match o.n with
          | some μ' =>
            let ν := joinMu μ μ'
            if muEqb ν μ then some { o with n := none } else go k ν
          | none => some { o with n := none }
        | none => none
    go 6 μ
  | .exit id, μ => some { e := [(id, μ)] }
  | .ret, μ => some { r := some μ }
  | _, _ => none

def entryM (τ : List TE) (i : Nat) (pm : PM) (ty : Nat) : SM := match pm with
  | .frz => match TE.find τ ty with
    | some e => if e.agg then .agg (e.zero.map fun _ => .view []) .no else .c (.view []) .no
    | none => .u
  | .rd => match TE.find τ ty with
    | some e => if e.agg then .agg (e.zero.map fun z => flatM z (.view [.arg i])) .no else match e.zero with
      | [z] => .c (flatM z (.view [.arg i])) .no
      | _ => .u
    | none => .u
  | .own m | .mut m => .c m .no
  | .aggo ms | .magg _ ms => .agg ms .no
  | .ptr ms _ => .box ms
  | .rptr n => .vbox [.arg i] n
  | .fn fs => .fv fs i

def entry (τ : List TE) (pms : List PM) (tys : List Nat) : Mu :=
  (pms.zip tys).zipIdx.map fun p => (p.2, entryM τ p.2 p.1.1 p.1.2)

end Go.Ev

/- How data stand for what lies in memory: read alone, or owned. -/
namespace Go.Ev

def _root_.Go.Value.isCell : Value → Bool
  | .agg _ | .tuple _ => false
  | _ => true

theorem scalar_cell {v : Value} (h : v.scalar = true) : v.isCell = true := by cases v <;> simp_all [Value.scalar, Value.isCell]

def Pl.cell (p : Pl) (i c : Nat) : Pl := ⟨p.s, p.st ++ [(i, c)]⟩
def Pl.lab (p : Pl) : List Nat := p.s :: p.st.map (·.2)

/-- Of a block that is owned: where the header is that owns it, at which offset, with which room, and how many cells an element has. -/
structure Ow where
  p : Pl
  off : Nat
  cap : Nat
  z : Nat

structure Cx where
  own : Nat → Option Ow
  G : Nat → Prop
  PA : Nat → Nat → Prop

def okP (C : Cx) (b : Nat) : Pv → Prop
  | .arg i => C.PA i b
  | .lab l => ∃ o, C.own b = some o ∧ l <+: o.p.lab

def okB (C : Cx) (ps : List Pv) (b : Nat) : Prop := C.G b ∨ ∃ p ∈ ps, okP C b p

/-- Data that are read. -/
inductive Rd (w : World) (ok : Nat → Prop) : D → Value → Prop
  | v {x : Value} : x.scalar = true → Rd w ok (.v x) x
  | nil {z : Nat} {a : Option Addr} {c : Nat} : Rd w ok (.sl z []) (.slice a 0 c)
  | sl {z : Nat} {rows : List (List D)} {b off c : Nat} {arr : Array Value} {ty : TypeId} {fz : Nat × Nat} :
      ok b → w.heap[b]? = some (.cells arr ty fz) → rows.length ≤ c → off + rows.length * z ≤ arr.size → (∀ row ∈ rows, row.length = z) →
      (∀ (i j : Nat) (row : List D) (d : D), rows[i]? = some row → row[j]? = some d → Rd w ok d (arr.getD (off + i * z + j) undef)) →
      Rd w ok (.sl z rows) (.slice (some ⟨b, off, none⟩) rows.length c)

/-- Data at a place, by a mode. -/
inductive Rep (w : World) (C : Cx) : Pl → M → D → Value → Prop
  | u {p d v} : Rep w C p .u d v
  | emp {p z} : Rep w C p .emp (.sl z []) (.slice none 0 0)
  | view {p ps d v} : Rd w (okB C ps) d v → Rep w C p (.view ps) d v
  | nil {p cols z} : Rep w C p (.own cols) (.sl z []) (.slice none 0 0)
  | own {p : Pl} {cols : List M} {z : Nat} {rows : List (List D)} {b off c : Nat} {arr : Array Value} {ty : TypeId} :
      C.own b = some ⟨p, off, c, z⟩ → w.heap[b]? = some (.cells arr ty (0, 0)) → rows.length ≤ c → off + c * z ≤ arr.size → cols.length = z → 0 < z → (∀ row ∈ rows, row.length = z) →
      (∀ (i j : Nat) (row : List D) (d : D) (m : M), rows[i]? = some row → row[j]? = some d → cols[j]? = some m → Rep w C (p.cell i j) m d (arr.getD (off + i * z + j) undef)) →
      Rep w C p (.own cols) (.sl z rows) (.slice (some ⟨b, off, none⟩) rows.length c)

theorem Rd.cell {w : World} {ok : Nat → Prop} {d : D} {v : Value} (h : Rd w ok d v) : v.isCell = true := by
  cases h with
  | v h => exact scalar_cell h
  | nil => rfl
  | sl => rfl

theorem Rd.mono {w w' : World} {ok ok' : Nat → Prop} {d : D} {v : Value} (h : Rd w ok d v) (hk : ∀ b, ok b → ok' b ∧ w'.heap[b]? = w.heap[b]?) : Rd w' ok' d v := by
  induction h with
  | v h => exact .v h
  | nil => exact .nil
  | sl h1 h2 h3 h4 h5 _ ih => exact .sl (hk _ h1).1 (by rw [(hk _ h1).2]; exact h2) h3 h4 h5 ih

theorem Rep.cell {w : World} {C : Cx} {p : Pl} {m : M} {d : D} {v : Value} (h : Rep w C p m d v) (hm : m.readable = true) : v.isCell = true := by
  cases h with
  | u => cases hm
  | emp => rfl
  | view h => exact h.cell
  | nil => rfl
  | own => rfl

/-- Steps behind a place. -/
def Pl.ext (p : Pl) (q : List (Nat × Nat)) : Pl := ⟨p.s, p.st ++ q⟩
@[simp] theorem Pl.ext_nil (p : Pl) : p.ext [] = p := by cases p; simp [Pl.ext]
theorem Pl.cell_ext (p : Pl) (i c : Nat) (q : List (Nat × Nat)) : (p.cell i c).ext q = p.ext ((i, c) :: q) := by simp [Pl.cell, Pl.ext]

/-- What is owned at p goes to p'; views are told anew. -/
theorem Rep.move {w w' : World} {C C' : Cx} {p : Pl} {m : M} {d : D} {v : Value} (h : Rep w C p m d v) : ∀ (p' : Pl) (f : PF),
    (∀ b q off c z, C.own b = some ⟨p.ext q, off, c, z⟩ → C'.own b = some ⟨p'.ext q, off, c, z⟩ ∧ w'.heap[b]? = w.heap[b]?) →
    (∀ ps ps', f ps = some ps' → ∀ b, okB C ps b → okB C' ps' b ∧ w'.heap[b]? = w.heap[b]?) → Rep w' C' p' (m.map f) d v := by
  induction h with
  | u => intro p' f _ _; simp only [M.map]; exact .u
  | emp => intro p' f _ _; simp only [M.map]; exact .emp
  | @view p ps d v h =>
    intro p' f _ hv
    simp only [M.map]
    cases e : f ps with
    | none => exact .u
    | some ps' => exact .view (h.mono (hv ps ps' e))
  | nil => intro p' f _ _; simp only [M.map]; exact .nil
  | @own p cols z rows b off c arr ty h1 h2 h3 h4 h5 h6 h7 _ ih =>
    intro p' f ho hv
    simp only [M.map]
    have hb := ho b [] off c z (by simpa using h1)
    have hlen : ∀ l : List M, (mapL f l).length = l.length := by intro l; induction l <;> simp_all [mapL]
    have hget : ∀ (l : List M) (j : Nat) (m' : M), (mapL f l)[j]? = some m' → ∃ m, l[j]? = some m ∧ m' = m.map f := by
      intro l
      induction l with
      | nil => intro j m' h; simp [mapL] at h
      | cons a l ih =>
        intro j m' h
        cases j with
        | zero => simp only [mapL, List.getElem?_cons_zero, Option.some.injEq] at h; exact ⟨a, rfl, h.symm⟩
        | succ j => simp only [mapL, List.getElem?_cons_succ] at h; simpa using ih j m' h
    refine .own (by simpa using hb.1) (by rw [hb.2]; exact h2) h3 h4 (by rw [hlen]; exact h5) h6 h7 ?_
    intro i j row d' m' hi hj hm
    obtain ⟨m0, hm0, rfl⟩ := hget cols j m' hm
    refine ih i j row d' m0 hi hj hm0 (p'.cell i j) f ?_ hv
    intro b' q off' c' z' hb'
    rw [Pl.cell_ext] at hb' ⊢
    exact ho b' _ off' c' z' hb'

theorem okB_mono {C : Cx} {ps ps' : List Pv} (h : ∀ p ∈ ps, p ∈ ps') {b : Nat} (hb : okB C ps b) : okB C ps' b := by
  rcases hb with hb | ⟨p, hp, hb⟩
  · exact .inl hb
  · exact .inr ⟨p, h p hp, hb⟩

theorem isPre_iff {a b : List Nat} : isPre a b = true ↔ a <+: b := by simp [isPre]

theorem Pl.lab_cell (p : Pl) (i c : Nat) : (p.cell i c).lab = p.lab ++ [c] := by simp [Pl.cell, Pl.lab]
theorem Pl.lab_ext (p : Pl) (q : List (Nat × Nat)) : (p.ext q).lab = p.lab ++ q.map (·.2) := by simp [Pl.ext, Pl.lab]

theorem provL_mem {cols : List M} {ps : List Pv} (h : provL cols = some ps) {j : Nat} {m : M} (hj : cols[j]? = some m) : ∃ qs, m.prov = some qs ∧ ∀ p ∈ qs, p ∈ ps := by
  induction cols generalizing ps j with
  | nil => simp at hj
  | cons a l ih =>
    simp only [provL] at h
    split at h
    · rename_i x y hx hy
      cases h
      cases j with
      | zero => simp only [List.getElem?_cons_zero, Option.some.injEq] at hj; subst hj; exact ⟨x, hx, fun p hp => by simp [hp]⟩
      | succ j =>
        simp only [List.getElem?_cons_succ] at hj
        obtain ⟨qs, h1, h2⟩ := ih hy hj
        exact ⟨qs, h1, fun p hp => by simp [h2 p hp]⟩
    · cases h

/-- What is owned may be read. -/
theorem Rep.read {w : World} {C : Cx} {p : Pl} {m : M} {d : D} {v : Value} (h : Rep w C p m d v) : ∀ (l : List Nat) (qs : List Pv), l <+: p.lab → m.prov = some qs → Rd w (okB C (.lab l :: qs)) d v := by
  induction h with
  | u => intro l qs _ hq; cases hq
  | emp => intro l qs _ _; exact .nil
  | view h =>
    intro l qs _ hq
    simp only [M.prov, Option.some.injEq] at hq; subst hq
    exact h.mono fun b hb => ⟨okB_mono (by simp_all) hb, rfl⟩
  | nil => intro l qs _ _; exact .nil
  | @own p cols z rows b off c arr ty h1 h2 h3 h4 h5 h6 h7 _ ih =>
    intro l qs hl hq
    simp only [M.prov] at hq
    have hsz : off + rows.length * z ≤ arr.size := by have := Nat.mul_le_mul_right z h3; omega
    refine .sl (.inr ⟨.lab l, by simp, ⟨_, h1, hl⟩⟩) h2 h3 hsz h7 ?_
    intro i j row d' hi hj
    have hjz : j < z := by
      have := h7 row (List.mem_of_getElem? hi)
      have := (List.getElem?_eq_some_iff.1 hj).1
      omega
    have hc : cols[j]? = some cols[j] := by simp [h5, hjz]
    obtain ⟨rs, hr1, hr2⟩ := provL_mem hq hc
    have := ih i j row d' _ hi hj hc l rs (by rw [Pl.lab_cell]; exact hl.trans (List.prefix_append _ _)) hr1
    exact this.mono fun b' hb' => ⟨okB_mono (by intro p hp; simp only [List.mem_cons] at hp ⊢; exact hp.imp id (hr2 p)) hb', rfl⟩

theorem Rep.viewAt {w : World} {C : Cx} {p p' : Pl} {m : M} {d : D} {v : Value} (h : Rep w C p m d v) : Rep w C p' (m.viewAt p.lab) d v := by
  cases h with
  | u => exact .u
  | emp => exact .emp
  | view h => exact .view h
  | @nil _ cols z =>
    simp only [M.viewAt]
    split
    · exact .view .nil
    · exact .u
  | own h1 h2 h3 h4 h5 h6 h7 h8 =>
    simp only [M.viewAt]
    split
    · rename_i ps hp
      exact .view (Rep.read (.own h1 h2 h3 h4 h5 h6 h7 h8) _ _ (List.prefix_refl _) (by simpa [M.prov] using hp))
    · exact .u

/-- What is read by a mode, if it may be read. -/
theorem Rep.rd {w : World} {C : Cx} {p : Pl} {m : M} {d : D} {v : Value} (h : Rep w C p m d v) {qs : List Pv} (hq : m.prov = some qs) : ∃ ok, Rd w ok d v := ⟨_, h.read p.lab qs (List.prefix_refl _) hq⟩

end Go.Ev

/- Nodes within data: rows of cells at steps, read and written. -/
namespace Go.Ev

/-- The rows at steps. -/
def rowsD : List (List D) → List (Nat × Nat) → Option (List (List D))
  | rows, [] => some rows
  | rows, (i, c) :: r => match rows[i]? with
    | some row => match row[c]? with
      | some (.sl _ rs) => rowsD rs r
      | _ => none
    | none => none

def setD : List (List D) → List (Nat × Nat) → List (List D) → List (List D)
  | _, [], rs => rs
  | rows, (i, c) :: r, rs => match rows[i]? with
    | some row => match row[c]? with
      | some (.sl z rs0) => rows.set i (row.set c (.sl z (setD rs0 r rs)))
      | _ => rows
    | none => rows

theorem cellsIn_snoc (st : List (Nat × Nat)) (i c n : Nat) : ∀ (rows : List (List D)), cellsIn rows (st ++ [(i, c)]) n =
    match rowsD rows st with
    | some rs => match rs[i]? with
      | some row => if c + n ≤ row.length then some ((row.drop c).take n) else none
      | none => none
    | none => none := by
  induction st with
  | nil =>
    intro rows
    simp only [List.nil_append, cellsIn, rowsD]
    all_goals (cases rows[i]? <;> rfl)
  | cons q st ih =>
    intro rows
    obtain ⟨a, b⟩ := q
    cases h : st ++ [(i, c)] with
    | nil => simp at h
    | cons q' st' =>
      rw [List.cons_append, h]
      simp only [cellsIn, rowsD]
      cases rows[a]? with
      | none => rfl
      | some row =>
        simp only
        cases row[b]? with
        | none => rfl
        | some d =>
          cases d with
          | v x => rfl
          | sl z r => simp only; rw [← h]; exact ih r

theorem putIn_snoc (st : List (Nat × Nat)) (i c : Nat) (new : List D) : ∀ (rows : List (List D)), putIn rows (st ++ [(i, c)]) new =
    match rowsD rows st with
    | some rs => match rs[i]? with
      | some row => if c + new.length ≤ row.length then some (setD rows st (rs.set i (row.take c ++ new ++ row.drop (c + new.length)))) else none
      | none => none
    | none => none := by
  induction st with
  | nil =>
    intro rows
    simp only [List.nil_append, putIn, rowsD, setD]
    all_goals (cases rows[i]? <;> rfl)
  | cons q st ih =>
    intro rows
    obtain ⟨a, b⟩ := q
    cases h : st ++ [(i, c)] with
    | nil => simp at h
    | cons q' st' =>
      rw [List.cons_append, h]
      simp only [putIn, rowsD]
      cases hr : rows[a]? with
      | none => rfl
      | some row =>
        simp only
        cases hd : row[b]? with
        | none => rfl
        | some d =>
          cases d with
          | v x => rfl
          | sl z r =>
            simp only
            rw [← h, ih r]
            cases rowsD r st with
            | none => rfl
            | some rs =>
              simp only
              cases rs[i]? with
              | none => rfl
              | some row' =>
                simp only
                by_cases e : c + new.length ≤ row'.length
                · rw [if_pos e, if_pos e]; simp [setD, hr, hd]
                · rw [if_neg e, if_neg e]

theorem modeIn_snoc (cs : List Nat) (k : Nat) : ∀ (cols : List M), modeIn (.own cols) (cs ++ [k]) =
    match colsD cols cs with
    | some c => c[k]?
    | none => none := by
  induction cs with
  | nil =>
    intro cols
    simp only [List.nil_append, modeIn, colsD]
    cases cols[k]? <;> rfl
  | cons a cs ih =>
    intro cols
    simp only [List.cons_append, modeIn, colsD]
    cases cols[a]? with
    | none => rfl
    | some m =>
      cases m with
      | own c => exact ih c
      | u => cases cs <;> rfl
      | emp => cases cs <;> rfl
      | view ps => cases cs <;> rfl

theorem modeIn_own (cs : List Nat) : ∀ (cols : List M) (c : List M), modeIn (.own cols) cs = some (.own c) → colsD cols cs = some c := by
  induction cs with
  | nil => intro cols c h; simp only [modeIn, Option.some.injEq, M.own.injEq] at h; subst h; rfl
  | cons a cs ih =>
    intro cols c h
    simp only [modeIn, colsD] at h ⊢
    cases hc : cols[a]? with
    | none => rw [hc] at h; cases h
    | some m =>
      rw [hc] at h
      cases m with
      | own c' => exact ih c' c h
      | u => cases cs <;> simp [modeIn] at h
      | emp => cases cs <;> simp [modeIn] at h
      | view ps => cases cs <;> simp [modeIn] at h

/-- The cells of a node stand for values. -/
def Kids (w : World) (C : Cx) (p : Pl) (cols : List M) (rows : List (List D)) (val : Nat → Nat → Value) : Prop :=
  ∀ (i j : Nat) (row : List D) (d : D) (m : M), rows[i]? = some row → row[j]? = some d → cols[j]? = some m → Rep w C (p.cell i j) m d (val i j)

/-- A node in memory: its block. -/
structure Node (w : World) (C : Cx) (p : Pl) (cols : List M) (rows : List (List D)) (b off cap z : Nat) (arr : Array Value) : Prop where
  own : C.own b = some ⟨p, off, cap, z⟩
  heap : ∃ ty, w.heap[b]? = some (.cells arr ty (0, 0))
  size : ∀ (i : Nat) (row : List D), rows[i]? = some row → off + i * z + row.length ≤ arr.size
  len : ∀ (i : Nat) (row : List D), rows[i]? = some row → row.length = cols.length
  step : rows.length ≤ 1 ∨ cols.length = z
  kids : Kids w C p cols rows fun i j => arr.getD (off + i * z + j) undef

theorem Rep.node {w : World} {C : Cx} {p : Pl} {cols : List M} {z : Nat} {rows : List (List D)} {v : Value} (h : Rep w C p (.own cols) (.sl z rows) v) (hr : rows ≠ []) :
    ∃ b off cap arr, v = .slice (some ⟨b, off, none⟩) rows.length cap ∧ Node w C p cols rows b off cap z arr ∧ rows.length ≤ cap ∧ off + cap * z ≤ arr.size ∧ cols.length = z ∧ 0 < z := by
  cases h with
  | nil => exact (hr rfl).elim
  | @own _ _ _ _ b off c arr ty h1 h2 h3 h4 h5 h6 h7 h8 =>
    refine ⟨b, off, c, arr, rfl, ⟨h1, ⟨ty, h2⟩, ?_, ?_, .inr h5, h8⟩, h3, h4, h5, h6⟩
    · intro i row hi
      rw [h7 row (List.mem_of_getElem? hi)]
      have hlt := (List.getElem?_eq_some_iff.1 hi).1
      have : (i + 1) * z ≤ c * z := Nat.mul_le_mul_right z (by omega)
      rw [Nat.add_mul] at this
      omega
    · intro i row hi
      rw [h7 row (List.mem_of_getElem? hi), h5]

/-- A node below. -/
theorem Kids.node {w : World} {C : Cx} : ∀ (st : List (Nat × Nat)) (p : Pl) (cols : List M) (rows : List (List D)) (val : Nat → Nat → Value) (rs : List (List D)) (cs : List M),
    Kids w C p cols rows val → st ≠ [] → rowsD rows st = some rs → colsD cols (st.map (·.2)) = some cs → rs ≠ [] → ∃ b off cap z arr, Node w C (p.ext st) cs rs b off cap z arr
  | [], _, _, _, _, _, _, _, h, _, _, _ => (h rfl).elim
  | (i, c) :: r, p, cols, rows, val, rs, cs, hk, _, hr, hc, hne => by
    simp only [rowsD] at hr
    simp only [List.map_cons, colsD] at hc
    split at hr
    · rename_i row hrow
      split at hr
      · rename_i z rs0 hd
        split at hc
        · rename_i cs0 hm
          have h1 := hk i c row _ _ hrow hd hm
          by_cases e : r = []
          · subst e
            simp only [rowsD, Option.some.injEq] at hr; subst hr
            simp only [List.map_nil, colsD, Option.some.injEq] at hc; subst hc
            obtain ⟨b, off, cap, arr, _, hn, _⟩ := h1.node hne
            exact ⟨b, off, cap, z, arr, hn⟩
          · have hne0 : rs0 ≠ [] := by
              rintro rfl
              cases r with
              | nil => exact e rfl
              | cons q r => obtain ⟨a, b⟩ := q; simp [rowsD] at hr
            obtain ⟨b, off, cap, arr, _, hn, _⟩ := h1.node hne0
            have := Kids.node r (p.cell i c) cs0 rs0 _ rs cs hn.kids e hr hc hne
            rwa [Pl.cell_ext] at this
        · cases hc
      · cases hr
    · cases hr

/-- A cell below. -/
theorem Kids.at {w : World} {C : Cx} : ∀ (st : List (Nat × Nat)) (p : Pl) (cols : List M) (rows : List (List D)) (val : Nat → Nat → Value) (rs : List (List D)) (cs : List M) (i j : Nat) (row : List D) (d : D) (m : M),
    Kids w C p cols rows val → rowsD rows st = some rs → colsD cols (st.map (·.2)) = some cs → rs[i]? = some row → row[j]? = some d → cs[j]? = some m → ∃ v, Rep w C ((p.ext st).cell i j) m d v
  | [], p, cols, rows, val, rs, cs, i, j, row, d, m, hk, hr, hc, h1, h2, h3 => by
    simp only [rowsD, Option.some.injEq] at hr; subst hr
    simp only [List.map_nil, colsD, Option.some.injEq] at hc; subst hc
    exact ⟨_, by simpa using hk i j row d m h1 h2 h3⟩
  | q :: r, p, cols, rows, val, rs, cs, i, j, row, d, m, hk, hr, hc, h1, h2, h3 => by
    have hne : rs ≠ [] := by rintro rfl; simp at h1
    obtain ⟨b, off, cap, z, arr, hn⟩ := Kids.node (q :: r) p cols rows val rs cs hk (by simp) hr hc hne
    exact ⟨_, hn.kids i j row d m h1 h2 h3⟩

theorem mapL_get {f : PF} : ∀ {l : List M} {j : Nat} {m' : M}, (mapL f l)[j]? = some m' → ∃ m, l[j]? = some m ∧ m' = m.map f
  | [], j, m', h => by simp [mapL] at h
  | a :: l, 0, m', h => by simp only [mapL, List.getElem?_cons_zero, Option.some.injEq] at h; exact ⟨a, rfl, h.symm⟩
  | a :: l, j + 1, m', h => by
    simp only [mapL, List.getElem?_cons_succ] at h
    simpa using mapL_get h

theorem mapL_len {f : PF} : ∀ {l : List M}, (mapL f l).length = l.length
  | [] => rfl
  | _ :: l => by simp [mapL, mapL_len (l := l)]

theorem mapL_at {f : PF} {l : List M} {j : Nat} {m : M} (h : l[j]? = some m) : (mapL f l)[j]? = some (m.map f) := by
  induction l generalizing j with
  | nil => simp at h
  | cons a l ih =>
    cases j with
    | zero => simp only [List.getElem?_cons_zero, Option.some.injEq] at h; subst h; rfl
    | succ j => simp only [List.getElem?_cons_succ] at h; simpa [mapL] using ih h

/-- Kids that stay where they are. -/
theorem Kids.move {w w' : World} {C C' : Cx} {p p' : Pl} {cols : List M} {rows : List (List D)} {val : Nat → Nat → Value} (h : Kids w C p cols rows val) (f : PF)
    (ho : ∀ b i j q off c z, C.own b = some ⟨p.ext ((i, j) :: q), off, c, z⟩ → C'.own b = some ⟨p'.ext ((i, j) :: q), off, c, z⟩ ∧ w'.heap[b]? = w.heap[b]?)
    (hv : ∀ ps ps', f ps = some ps' → ∀ b, okB C ps b → okB C' ps' b ∧ w'.heap[b]? = w.heap[b]?) : Kids w' C' p' (mapL f cols) rows val := by
  intro i j row d m' h1 h2 h3
  obtain ⟨m, hm, rfl⟩ := mapL_get h3
  refine (h i j row d m h1 h2 hm).move (p'.cell i j) f ?_ hv
  intro b q off c z hb
  rw [Pl.cell_ext] at hb ⊢
  exact ho b i j q off c z hb

end Go.Ev
namespace Go.Ev

theorem setD_length (rs : List (List D)) : ∀ (st : List (Nat × Nat)) (rows : List (List D)), st ≠ [] → (setD rows st rs).length = rows.length
  | [], _, h => (h rfl).elim
  | (i, c) :: r, rows, _ => by
    simp only [setD]
    split
    · split
      · simp
      · rfl
    · rfl

theorem setD_rows (rs : List (List D)) (z : Nat) : ∀ (st : List (Nat × Nat)) (rows : List (List D)), st ≠ [] → (∀ row ∈ rows, row.length = z) → ∀ row ∈ setD rows st rs, row.length = z
  | [], _, h, _ => (h rfl).elim
  | (i, c) :: r, rows, _, hz => by
    simp only [setD]
    split
    · rename_i row hi
      split
      · intro row' hr
        rcases List.mem_or_eq_of_mem_set hr with h | h
        · exact hz _ h
        · subst h; simp [hz row (List.mem_of_getElem? hi)]
      · exact hz
    · exact hz

/-- What a node becomes. -/
structure Turned (w' : World) (C' : Cx) (p : Pl) (cols : List M) (rs rs' : List (List D)) (b off cap z : Nat) (arr : Array Value) : Prop where
  own : C'.own b = some ⟨p, off, cap, z⟩
  ex : ∃ arr' ty, w'.heap[b]? = some (.cells arr' ty (0, 0)) ∧ arr'.size = arr.size ∧ Kids w' C' p cols rs' fun i j => arr'.getD (off + i * z + j) undef
  len : rs'.length = rs.length
  rows : ∀ row ∈ rs', row.length = cols.length

theorem get_set_row {α : Type} {rows : List (List α)} {i c i' j : Nat} {row row' : List α} {x y : α} (hi : rows[i]? = some row) (h1 : (rows.set i (row.set c x))[i']? = some row') (h2 : row'[j]? = some y) :
    (i' = i ∧ j = c ∧ y = x) ∨ ((i' ≠ i ∨ j ≠ c) ∧ ∃ r, rows[i']? = some r ∧ r[j]? = some y) := by
  rw [List.getElem?_set] at h1
  split at h1
  · rename_i e; subst e
    split at h1
    · cases h1
      rw [List.getElem?_set] at h2
      split at h2
      · rename_i e; subst e
        split at h2
        · cases h2; exact .inl ⟨rfl, rfl, rfl⟩
        · cases h2
      · rename_i e; exact .inr ⟨.inr (fun h => e h.symm), row, hi, h2⟩
    · cases h1
  · rename_i e; exact .inr ⟨.inl (fun h => e h.symm), row', h1, h2⟩

theorem Kids.set {w w' : World} {C C' : Cx} (f : PF) (rs' : List (List D))
    (hv : ∀ ps ps', f ps = some ps' → ∀ b, okB C ps b → okB C' ps' b ∧ w'.heap[b]? = w.heap[b]?) :
    ∀ (st : List (Nat × Nat)) (p : Pl) (cols : List M) (rows : List (List D)) (val : Nat → Nat → Value) (rs : List (List D)) (cs : List M),
    Kids w C p cols rows val → st ≠ [] → rowsD rows st = some rs → colsD cols (st.map (·.2)) = some cs → rs ≠ [] →
    (∀ b off cap z arr, Node w C (p.ext st) cs rs b off cap z arr → Turned w' C' (p.ext st) (mapL f cs) rs rs' b off cap z arr) →
    (∀ b q off cap z, C.own b = some ⟨p.ext q, off, cap, z⟩ → ¬ st <+: q → C'.own b = some ⟨p.ext q, off, cap, z⟩ ∧ w'.heap[b]? = w.heap[b]?) →
    Kids w' C' p (mapL f cols) (setD rows st rs') val
  | [], _, _, _, _, _, _, _, h, _, _, _, _, _ => (h rfl).elim
  | (i, c) :: r, p, cols, rows, val, rs, cs, hk, _, hr, hc, hne, hn, ho => by
    simp only [rowsD] at hr
    simp only [List.map_cons, colsD] at hc
    split at hr
    · rename_i row hrow
      split at hr
      · rename_i z0 rs0 hd
        split at hc
        · rename_i cs0 hm
          have h1 := hk i c row _ _ hrow hd hm
          have hne0 : rs0 ≠ [] := by
            rintro rfl
            cases r with
            | nil => simp only [rowsD, Option.some.injEq] at hr; exact hne hr.symm
            | cons q r => obtain ⟨a, b⟩ := q; simp [rowsD] at hr
          -- the cell on the way
          have key : Rep w' C' (p.cell i c) (.own (mapL f cs0)) (.sl z0 (setD rs0 r rs')) (val i c) := by
            obtain ⟨b, off, cap, arr, hval, hnode, hcap, hsz, hz, hz0⟩ := h1.node hne0
            rw [hval]
            by_cases e : r = []
            · subst e
              simp only [rowsD, Option.some.injEq] at hr; subst hr
              simp only [List.map_nil, colsD, Option.some.injEq] at hc; subst hc
              have hp : p.ext [(i, c)] = p.cell i c := rfl
              obtain ⟨t1, ⟨arr', ty, t2, t3, t4⟩, t5, t6⟩ := hn b off cap z0 arr hnode
              simp only [setD]
              rw [← t5]
              refine .own t1 t2 (by omega) (by omega) (by rw [mapL_len]; exact hz) hz0 (fun row' hr' => by rw [t6 row' hr', mapL_len]; exact hz) ?_
              intro i' j row' d' m' q1 q2 q3
              exact t4 i' j row' d' m' q1 q2 q3
            · have hrl : (setD rs0 r rs').length = rs0.length := setD_length rs' r rs0 e
              have hb := ho b [(i, c)] off cap z0 hnode.own (by
                rintro ⟨t, ht⟩
                cases r with
                | nil => exact e rfl
                | cons q r => simp at ht)
              obtain ⟨ty, hty⟩ := hnode.heap
              have hrows : ∀ row' ∈ rs0, row'.length = z0 := by
                intro row' hr'
                obtain ⟨i', hi'⟩ := List.getElem?_of_mem hr'
                rw [hnode.len i' row' hi', hz]
              rw [← hrl]
              refine .own (arr := arr) (ty := ty) hb.1 (by rw [hb.2]; exact hty) (by omega) hsz (by rw [mapL_len]; exact hz) hz0 (setD_rows rs' z0 r rs0 e hrows) ?_
              have ih := Kids.set f rs' hv r (p.cell i c) cs0 rs0 _ rs cs hnode.kids e hr hc hne (by rw [Pl.cell_ext]; exact hn) (by
                intro b' q off' cap' z' hb' hq
                rw [Pl.cell_ext] at hb' ⊢
                exact ho b' _ off' cap' z' hb' (by
                  rintro ⟨t, ht⟩
                  simp only [List.cons_append, List.cons.injEq, true_and] at ht
                  exact hq ⟨t, ht⟩))
              intro i' j row' d' m' q1 q2 q3
              exact ih i' j row' d' m' q1 q2 q3
          have hset : setD rows ((i, c) :: r) rs' = rows.set i (row.set c (.sl z0 (setD rs0 r rs'))) := by simp only [setD, hrow, hd]
          rw [hset]
          intro i' j row' d' m' q1 q2 q3
          obtain ⟨m, hm', rfl⟩ := mapL_get q3
          rcases get_set_row hrow q1 q2 with ⟨rfl, rfl, rfl⟩ | ⟨hne', r', hr', hd'⟩
          · rw [hm] at hm'; cases hm'
            exact key
          · refine (hk i' j r' d' m hr' hd' hm').move (p.cell i' j) f ?_ hv
            intro b q off cap z hb
            rw [Pl.cell_ext] at hb ⊢
            refine ho b _ off cap z hb ?_
            rintro ⟨t, ht⟩
            simp only [List.cons_append, List.cons.injEq, Prod.mk.injEq] at ht
            omega
        · cases hc
      · cases hr
    · cases hr
end Go.Ev

/- Frames: what each slot's mode says of it, and when that stays. -/
namespace Go.Ev

def Pl.addc (p : Pl) (k : Nat) : Pl := ⟨p.s, addLast p.st k⟩

/-- A place in what is owned, and the pointer to it. -/
def PtOk (C : Cx) (p : Pl) (v : Value) : Prop :=
  ∃ st i c b off cap z, p.st = st ++ [(i, c)] ∧ C.own b = some ⟨⟨p.s, st⟩, off, cap, z⟩ ∧ v = .pointer (some ⟨b, off + i * z + c, none⟩)

/-- A header that is the one at a place. -/
def HdOk (C : Cx) (φ : Fr) (p : Pl) (d : D) (v : Value) : Prop :=
  (v = .slice none 0 0 ∧ ∃ z, d = .sl z [] ∧ dataAt φ p = some (.sl z [])) ∨
  ∃ b off c z rows0 rows, d = .sl z rows0 ∧ List.length rows0 = List.length rows ∧ v = .slice (some ⟨b, off, none⟩) (List.length rows) c ∧ C.own b = some ⟨p, off, c, z⟩ ∧ dataAt φ p = some (.sl z rows)

def D.isSl : D → Bool
  | .sl _ _ => true
  | _ => false

def OgOk0 (C : Cx) (φ : Fr) (tm : Nat → Value) (m : M) (o : Option Pl) (d : D) (v : Value) : Og → Prop
  | .no => o = none
  | .vw q => ∃ p, o = some p ∧ p.s = q ∧ (m.readable = true → dataAt φ p = some d)
  | .at q cs => ∃ p, o = some p ∧ p.s = q ∧ p.st.map (·.2) = cs ∧ HdOk C φ p d v ∧ (m.readable = true → dataAt φ p = some d) ∧ (cs = [] → tm q = v)
  | _ => True

def OgOk (C : Cx) (φ : Fr) (tm : Nat → Value) (m : M) (o : Option Pl) (d : D) (v : Value) (og : Og) : Prop := d.isSl = true → OgOk0 C φ tm m o d v og

def AOgOk (C : Cx) (φ : Fr) (ms : List M) (o : Option Pl) (ds : List D) (vs : Array Value) : Og → Prop
  | .no => o = none
  | .ats q cs js => ∃ p, o = some p ∧ p.s = q ∧ p.st.map (·.2) = cs ∧ p.st ≠ [] ∧
      ∀ j ∈ js, ∃ d, ds[j]? = some d ∧ HdOk C φ (p.addc j) d (vs.getD j undef) ∧ (((ms[j]?).getD .u).readable = true → dataAt φ (p.addc j) = some d)
  | _ => True

/-- Cells that lie in memory and are read. -/
def ReadAt (w : World) (ok : Nat → Prop) (v : Value) (ds : List D) : Prop :=
  ∃ b off arr ty fz, v = .pointer (some ⟨b, off, none⟩) ∧ w.heap[b]? = some (.cells arr ty fz) ∧ ok b ∧ off + ds.length ≤ arr.size ∧ ∀ (j : Nat) (d : D), ds[j]? = some d → Rd w ok d (arr.getD (off + j) undef)

/-- What a mode says of a slot's data and value; what it owns is owned at slot s. -/
def ClaimX (w : World) (C : Cx) (φ : Fr) (tm : Nat → Value) (s : Nat) (x : X) (v : Value) : SM → Prop
  | .u => True
  | .c m og => ∃ d o, x = .d d o ∧ Rep w C ⟨s, []⟩ m d v ∧ OgOk C φ tm m o d v og
  | .agg ms og => ∃ ds o vs, x = .agg ds o ∧ v = .agg vs ∧ vs.size = ds.length ∧ ms.length = ds.length ∧
      Kids w C ⟨s, []⟩ ms [ds] (fun _ j => vs.getD j undef) ∧ AOgOk C φ ms o ds vs og
  | .box ms => ∃ ds b off arr, x = .box ds ∧ v = .pointer (some ⟨b, off, none⟩) ∧ Node w C ⟨s, []⟩ ms [ds] b off 0 0 arr
  | .vbox ps n => ∃ ds, x = .box ds ∧ ds.length = n ∧ ReadAt w (okB C ps) v ds
  | .pt q cs => ∃ p, x = .pt p ∧ p.s = q ∧ p.st.map (·.2) = cs ∧ PtOk C p v
  | .pa q cs n => ∃ p k, x = .pt p ∧ p.s = q ∧ k < n ∧ p.st.map (·.2) = addc cs k ∧ PtOk C p v
  | .pv ps q => ∃ p, x = .pt p ∧ p.s = q ∧ φ q ≠ .u ∧ (∃ b off, v = .pointer (some ⟨b, off, none⟩)) ∧ ∀ n ds, cellsAt φ p n = some ds → 0 < n → ReadAt w (okB C ps) v ds
  | .tup b n => x = .tup b n ∧ n ≤ 8 ∧ ∃ vs : Array Value, v = .tuple vs ∧ vs.size = n ∧ ∀ i < n, vs.getD i undef = tm (cix b i)
  | .clo f caps => x = .clo f caps ∧ v = .func (.func f) #[] (caps.map tm).toArray
  | .fv fs i => ∃ f caps vs, x = .fv f caps ∧ f ∈ fs ∧ v = .func (.func f) #[] vs ∧ vs.size = caps.length ∧
      ∀ (j : Nat) (ds : List D), caps[j]? = some ds → ReadAt w (okB C [.arg i]) (vs.getD j undef) ds

def Claim (w : World) (C : Cx) (φ : Fr) (tm : Nat → Value) (s : Nat) (sm : SM) : Prop := ClaimX w C φ tm s (φ s) (tm s) sm

/-- What a reference hangs on stays. -/
def RefKeep (C C' : Cx) (φ φ' : Fr) (tm tm' : Nat → Value) (f : PF) : SM → Prop
  | .c m (.at q cs) => (∀ p : Pl, p.s = q → p.st.map (·.2) = cs → (∀ d v, HdOk C φ p d v → HdOk C' φ' p d v) ∧ ((m.map f).readable = true → dataAt φ' p = dataAt φ p)) ∧ (cs = [] → tm' q = tm q)
  | .c m (.vw q) => ∀ p : Pl, p.s = q → (m.map f).readable = true → dataAt φ' p = dataAt φ p
  | .agg ms (.ats q cs js) => ∀ (p : Pl), p.s = q → p.st.map (·.2) = cs → ∀ j ∈ js, (∀ d v, HdOk C φ (p.addc j) d v → HdOk C' φ' (p.addc j) d v) ∧ ((((mapL f ms)[j]?).getD .u).readable = true → dataAt φ' (p.addc j) = dataAt φ (p.addc j))
  | .pt q cs => ∀ b st off cap z, C.own b = some ⟨⟨q, st⟩, off, cap, z⟩ → st.map (·.2) = cs.dropLast → C'.own b = some ⟨⟨q, st⟩, off, cap, z⟩
  | .pa q cs _ => ∀ b st off cap z, C.own b = some ⟨⟨q, st⟩, off, cap, z⟩ → st.map (·.2) = cs.dropLast → C'.own b = some ⟨⟨q, st⟩, off, cap, z⟩
  | .pv _ q => (φ q ≠ .u → φ' q ≠ .u) ∧ ∀ (p : Pl) n, p.s = q → cellsAt φ' p n = cellsAt φ p n
  | .tup b n => ∀ i < n, tm' (cix b i) = tm (cix b i)
  | .clo _ caps => ∀ c ∈ caps, tm' c = tm c
  | _ => True

theorem readable_map {f : PF} {m : M} (h : (m.map f).readable = true) : m.readable = true := by cases m <;> simp_all [M.map, M.readable]

theorem ReadAt.mono {w w' : World} {ok ok' : Nat → Prop} {v : Value} {ds : List D} (h : ReadAt w ok v ds) (hk : ∀ b, ok b → ok' b ∧ w'.heap[b]? = w.heap[b]?) : ReadAt w' ok' v ds := by
  obtain ⟨b, off, arr, ty, fz, h1, h2, h3, h4, h5⟩ := h
  exact ⟨b, off, arr, ty, fz, h1, by rw [(hk b h3).2]; exact h2, (hk b h3).1, h4, fun j d hj => (h5 j d hj).mono hk⟩

theorem addc_dropLast : ∀ (cs : List Nat) (k : Nat), (addc cs k).dropLast = cs.dropLast
  | [], _ => rfl
  | [_], _ => rfl
  | x :: y :: r, k => by
    have := addc_dropLast (y :: r) k
    cases r with
    | nil => simp [addc]
    | cons z r =>
      simp only [addc] at this ⊢
      rw [List.dropLast_cons_of_ne_nil (by simp), this]
      simp

theorem map_dropLast_snoc {p : Pl} {st : List (Nat × Nat)} {i c : Nat} {cs : List Nat} (h : p.st = st ++ [(i, c)]) (h2 : p.st.map (·.2) = cs) : st.map (·.2) = cs.dropLast := by
  rw [← h2, h]; simp

theorem ClaimX.dropS {w : World} {C : Cx} {φ : Fr} {tm : Nat → Value} {s t : Nat} {x : X} {v : Value} {sm : SM} (h : ClaimX w C φ tm s x v sm) : ClaimX w C φ tm s x v (sm.dropS t) := by
  cases sm with
  | c m og =>
    obtain ⟨d, o, e1, e2, e3⟩ := h
    refine ⟨d, o, e1, e2, ?_⟩
    intro hsl
    have e3 := e3 hsl
    cases og with
    | «at» q cs => simp only [Og.dropS]; split <;> first | trivial | exact e3
    | ats q cs js => simp only [Og.dropS]; split <;> trivial
    | vw q => simp only [Og.dropS]; split <;> first | trivial | exact e3
    | no => exact e3
    | dead => trivial
  | agg ms og =>
    obtain ⟨ds, o, vs, e1, e2, e3, e4, e5, e6⟩ := h
    refine ⟨ds, o, vs, e1, e2, e3, e4, e5, ?_⟩
    cases og with
    | «at» q cs => simp only [Og.dropS]; split <;> trivial
    | ats q cs js => simp only [Og.dropS]; split <;> first | trivial | exact e6
    | vw q => simp only [Og.dropS]; split <;> trivial
    | no => exact e6
    | dead => trivial
  | pt q cs => simp only [SM.dropS]; split; trivial; exact h
  | pa q cs n => simp only [SM.dropS]; split; trivial; exact h
  | pv ps q => simp only [SM.dropS]; split; trivial; exact h
  | tup b n => simp only [SM.dropS]; split; trivial; exact h
  | clo g caps => simp only [SM.dropS]; split; trivial; exact h
  | u => exact h
  | box ms => exact h
  | vbox ps n => exact h
  | fv fs i => exact h

/-- What is not owned, anywhere. -/
theorem Rep.moveV {w w' : World} {C C' : Cx} {p p' : Pl} {m : M} {d : D} {v : Value} (h : Rep w C p m d v) (hn : m.noOwn = true) (f : PF)
    (hv : ∀ ps ps', f ps = some ps' → ∀ b, okB C ps b → okB C' ps' b ∧ w'.heap[b]? = w.heap[b]?) : Rep w' C' p' (m.map f) d v := by
  cases h with
  | u => exact .u
  | emp => exact .emp
  | @view _ ps _ _ h =>
    simp only [M.map]
    cases e : f ps with
    | none => exact .u
    | some ps' => exact .view (h.mono (hv ps ps' e))
  | nil => cases hn
  | own => cases hn

/-- What a mode says stays, where its own memory and what it refers to stay. -/
theorem ClaimX.keepG {w w' : World} {C C' : Cx} {φ φ' : Fr} {tm tm' : Nat → Value} {s s' : Nat} {x : X} {v : Value} {sm : SM} (h : ClaimX w C φ tm s x v sm) (f : PF)
    (ho : sm.noOwn = true ∨ ∀ b q off c z, C.own b = some ⟨⟨s, q⟩, off, c, z⟩ → C'.own b = some ⟨⟨s', q⟩, off, c, z⟩ ∧ w'.heap[b]? = w.heap[b]?)
    (hv : ∀ ps ps', f ps = some ps' → ∀ b, okB C ps b → okB C' ps' b ∧ w'.heap[b]? = w.heap[b]?)
    (hP : ∀ i b, C.PA i b → C'.PA i b ∧ w'.heap[b]? = w.heap[b]?) (hG : ∀ b, C.G b → C'.G b ∧ w'.heap[b]? = w.heap[b]?)
    (hr : RefKeep C C' φ φ' tm tm' f sm) : ClaimX w' C' φ' tm' s' x v (sm.map f) := by
  have hext : ∀ s q, (⟨s, []⟩ : Pl).ext q = ⟨s, q⟩ := fun s q => by simp [Pl.ext]
  cases sm with
  | u => trivial
  | c m og =>
    obtain ⟨d, o, e1, e2, e3⟩ := h
    refine ⟨d, o, e1, ?_, ?_⟩
    · rcases ho with ho | ho
      · exact e2.moveV ho f hv
      · exact e2.move ⟨s', []⟩ f (by intro b q off c z hb; rw [hext] at hb ⊢; exact ho b q off c z hb) hv
    · intro hsl
      have e3 := e3 hsl
      cases og with
      | no => exact e3
      | dead => trivial
      | ats q cs js => trivial
      | vw q =>
        obtain ⟨p, q1, q2, q3⟩ := e3
        exact ⟨p, q1, q2, fun hm => by rw [hr p q2 hm]; exact q3 (readable_map hm)⟩
      | «at» q cs =>
        obtain ⟨p, q1, q2, q3, q4, q5, q6⟩ := e3
        exact ⟨p, q1, q2, q3, (hr.1 p q2 q3).1 _ _ q4, fun hm => by rw [(hr.1 p q2 q3).2 hm]; exact q5 (readable_map hm), fun e => by rw [hr.2 e]; exact q6 e⟩
  | agg ms og =>
    obtain ⟨ds, o, vs, e1, e2, e3, e4, e5, e6⟩ := h
    refine ⟨ds, o, vs, e1, e2, e3, by rw [mapL_len]; exact e4, ?_, ?_⟩
    · rcases ho with ho | ho
      · intro i j row d m' h1 h2 h3
        obtain ⟨m, hm, rfl⟩ := mapL_get h3
        exact (e5 i j row d m h1 h2 hm).moveV (by simp only [SM.noOwn, List.all_eq_true] at ho; exact ho m (List.mem_of_getElem? hm)) f hv
      · exact e5.move f (by intro b i j q off c z hb; rw [hext] at hb ⊢; exact ho b _ off c z hb) hv
    cases og with
    | no => exact e6
    | dead => trivial
    | vw q => trivial
    | «at» q cs => trivial
    | ats q cs js =>
      obtain ⟨p, q1, q2, q3, q4, q5⟩ := e6
      refine ⟨p, q1, q2, q3, q4, fun j hj => ?_⟩
      obtain ⟨d, g1, g2, g3⟩ := q5 j hj
      refine ⟨d, g1, (hr p q2 q3 j hj).1 _ _ g2, fun hm => ?_⟩
      rw [(hr p q2 q3 j hj).2 hm]
      refine g3 ?_
      cases hq : ms[j]? with
      | none =>
        exfalso
        have hl := (List.getElem?_eq_some_iff.1 g1).1
        rw [List.getElem?_eq_none_iff] at hq
        omega
      | some m =>
        rw [mapL_at hq] at hm
        exact readable_map hm
  | box ms =>
    obtain ⟨ds, b, off, arr, e1, e2, e3⟩ := h
    have ho := ho.resolve_left (by simp [SM.noOwn])
    have hb := ho b [] off 0 0 e3.own
    obtain ⟨ty, hty⟩ := e3.heap
    refine ⟨ds, b, off, arr, e1, e2, hb.1, ⟨ty, by rw [hb.2]; exact hty⟩, e3.size, fun i row hi => by rw [mapL_len]; exact e3.len i row hi, .inl (by simp), ?_⟩
    exact e3.kids.move f (by intro b i j q off c z hb; rw [hext] at hb ⊢; exact ho b _ off c z hb) hv
  | vbox ps n =>
    obtain ⟨ds, e1, e2, e3⟩ := h
    simp only [SM.map]
    cases e : f ps with
    | none => trivial
    | some ps' => exact ⟨ds, e1, e2, e3.mono (hv ps ps' e)⟩
  | pt q cs =>
    obtain ⟨p, e1, e2, e3, st, i, c, b, off, cap, z, g1, g2, g3⟩ := h
    subst e2
    exact ⟨p, e1, rfl, e3, st, i, c, b, off, cap, z, g1, hr b st off cap z g2 (map_dropLast_snoc g1 e3), g3⟩
  | pa q cs n =>
    obtain ⟨p, k, e1, e2, e0, e3, st, i, c, b, off, cap, z, g1, g2, g3⟩ := h
    subst e2
    exact ⟨p, k, e1, rfl, e0, e3, st, i, c, b, off, cap, z, g1, hr b st off cap z g2 (by rw [map_dropLast_snoc g1 e3, addc_dropLast]), g3⟩
  | pv ps q =>
    obtain ⟨p, e1, e2, e0, e9, e3⟩ := h
    simp only [SM.map]
    cases e : f ps with
    | none => trivial
    | some ps' => exact ⟨p, e1, e2, hr.1 e0, e9, fun n ds hd hn => (e3 n ds (by rw [← hr.2 p n e2]; exact hd) hn).mono (hv ps ps' e)⟩
  | tup b n =>
    obtain ⟨e1, e2, vs, e3, e4, e5⟩ := h
    exact ⟨e1, e2, vs, e3, e4, fun i hi => by rw [hr i hi]; exact e5 i hi⟩
  | clo g caps =>
    obtain ⟨e1, e2⟩ := h
    refine ⟨e1, ?_⟩
    rw [e2]
    congr 2
    exact List.map_congr_left fun c hc => (hr c hc).symm
  | fv fs i =>
    obtain ⟨g, caps, vs, e1, e2, e3, e4, e5⟩ := h
    refine ⟨g, caps, vs, e1, e2, e3, e4, fun j ds hj => (e5 j ds hj).mono ?_⟩
    intro b hb
    rcases hb with hb | ⟨p, hp, hb⟩
    · exact ⟨.inl (hG b hb).1, (hG b hb).2⟩
    · simp only [List.mem_singleton] at hp; subst hp
      exact ⟨.inr ⟨.arg i, by simp, (hP i b hb).1⟩, (hP i b hb).2⟩

theorem Claim.keep {w w' : World} {C C' : Cx} {φ φ' : Fr} {tm tm' : Nat → Value} {s : Nat} {sm : SM} (h : Claim w C φ tm s sm) (f : PF) (h1 : φ' s = φ s) (h2 : tm' s = tm s)
    (ho : ∀ b q off c z, C.own b = some ⟨⟨s, q⟩, off, c, z⟩ → C'.own b = some ⟨⟨s, q⟩, off, c, z⟩ ∧ w'.heap[b]? = w.heap[b]?)
    (hv : ∀ ps ps', f ps = some ps' → ∀ b, okB C ps b → okB C' ps' b ∧ w'.heap[b]? = w.heap[b]?)
    (hP : ∀ i b, C.PA i b → C'.PA i b ∧ w'.heap[b]? = w.heap[b]?) (hG : ∀ b, C.G b → C'.G b ∧ w'.heap[b]? = w.heap[b]?)
    (hr : RefKeep C C' φ φ' tm tm' f sm) : Claim w' C' φ' tm' s (sm.map f) := by
  unfold Claim
  rw [h1, h2]
  exact ClaimX.keepG h f (.inr ho) hv hP hG hr

end Go.Ev

/- States: frames, what they own, and what a call began with. -/
namespace Go.Ev

/-! ## Modes of slots -/

theorem lookup_map {α β : Type} (g : α → β) (l : List (Nat × α)) (s : Nat) : (l.map fun p => (p.1, g p.2)).lookup s = (l.lookup s).map g := by
  induction l with
  | nil => rfl
  | cons a l ih =>
    obtain ⟨k, x⟩ := a
    simp only [List.map_cons, List.lookup_cons]
    split <;> simp_all

theorem lookup_filter {α : Type} (P : Nat → Bool) (l : List (Nat × α)) (s : Nat) : (l.filter fun p => P p.1).lookup s = if P s then l.lookup s else none := by
  induction l with
  | nil => simp
  | cons a l ih =>
    obtain ⟨k, x⟩ := a
    by_cases hk : P k = true
    · rw [List.filter_cons_of_pos (by simpa using hk)]
      simp only [List.lookup_cons]
      by_cases e : s = k
      · subst e; simp [hk]
      · have : (s == k) = false := by simpa using e
        rw [this]; exact ih
    · rw [List.filter_cons_of_neg (by simpa using hk), ih]
      simp only [List.lookup_cons]
      by_cases e : s = k
      · subst e; simp [hk]
      · have : (s == k) = false := by simpa using e
        rw [this]

theorem get_mapG (g : SM → SM) (hg : g .u = .u) (μ : Mu) (s : Nat) : Mu.get (List.map (fun p => (p.1, g p.2)) μ) s = g (μ.get s) := by
  unfold Mu.get
  rw [lookup_map]
  cases List.lookup s μ <;> simp [hg]

theorem get_map (μ : Mu) (f : PF) (s : Nat) : (μ.map f).get s = (μ.get s).map f := get_mapG _ rfl μ s
theorem get_dropL (μ : Mu) (l : List Nat) (s : Nat) : (μ.dropL l).get s = (μ.get s).dropL l := get_mapG _ rfl μ s
theorem get_set (μ : Mu) (t : Nat) (m : SM) (s : Nat) : (μ.set t m).get s = if s = t then m else μ.get s := by
  unfold Mu.get Mu.set
  rw [List.lookup_cons, lookup_filter (fun x => x != t)]
  by_cases e : s = t
  · subst e; simp
  · have : (s == t) = false := by simpa using e
    rw [this]; simp [e]
theorem get_clear (μ : Mu) (t : Nat) (s : Nat) : (μ.clear t).get s = if hit t s then .u else (μ.get s).dropS t := by
  unfold Mu.clear
  rw [get_mapG _ rfl]
  unfold Mu.get
  rw [lookup_filter (fun x => !hit t x)]
  cases hit t s <;> simp [SM.dropS]
theorem get_put (μ : Mu) (t : Nat) (m : SM) (s : Nat) : (μ.put t m).get s = if s = t then m.dropS t else if hit t s then .u else (μ.get s).dropS t := by
  have := get_clear μ t s
  unfold Mu.put
  unfold Mu.get at this ⊢
  rw [List.lookup_cons]
  by_cases e : s = t
  · subst e; simp
  · have h : (s == t) = false := by simpa using e
    rw [h]; simp only [e, if_false]; exact this

theorem hit_self (t : Nat) : hit t t = true := by simp [hit]

/-! ## States -/

structure Calm (w w' : World) : Prop where
  os : w'.os = w.os
  tape : w'.tape = w.tape
  output : w'.output = w.output

theorem Calm.refl (w : World) : Calm w w := ⟨rfl, rfl, rfl⟩
theorem Calm.trans {a b c : World} (h : Calm a b) (k : Calm b c) : Calm a c := ⟨k.os.trans h.os, k.tape.trans h.tape, k.output.trans h.output⟩

structure Rg where
  i : Nat
  b : Nat
  off : Nat
  n : Nat

structure Start where
  w : World
  own0 : Nat → Prop
  G : Nat → Prop
  PA : Nat → Nat → Prop
  rg : List Rg
  hd : Option Value := none
  ks : List Nat := []

def RangeSame (w w' : World) (b off n : Nat) : Prop :=
  ∃ arr ty arr', w.heap[b]? = some (.cells arr ty (0, 0)) ∧ w'.heap[b]? = some (.cells arr' ty (0, 0)) ∧ arr'.size = arr.size ∧ ∀ i, i < off ∨ off + n ≤ i → arr'[i]? = arr[i]?

/-- A range that is told is the first slot's, which is not put. -/
def RgOk (A : Start) : Prop := ∀ r ∈ A.rg, r.i = 0 ∧ A.hd.isSome = true

theorem RgOk.nil {A : Start} (h : A.rg = []) : RgOk A := by intro r hr; rw [h] at hr; cases hr

/-- What is owned is there, and its room. -/
def OwnOk (w : World) (N : Nat → Option Ow) : Prop := ∀ b o, N b = some o → ∃ arr ty, w.heap[b]? = some (.cells arr ty (0, 0)) ∧ o.off + o.cap * o.z ≤ arr.size

theorem OwnOk.none {w : World} : OwnOk w (fun _ => Option.none) := by intro b o h; cases h

structure St (A : Start) (w : World) (μ : Mu) (φ : Fr) (tm : Nat → Value) (C : Cx) : Prop where
  slot : ∀ s, φ s = .u ∨ Claim w C φ tm s (μ.get s)
  inj : ∀ b b' o o', C.own b = some o → C.own b' = some o' → o.p = o'.p → b = b'
  own : ∀ b o, C.own b = some o → b < w.heap.size ∧ ¬ C.G b ∧ (∀ i, ¬ C.PA i b) ∧ (A.own0 b ∨ A.w.heap.size ≤ b)
  frz : ∀ b, C.G b → b < w.heap.size ∧ (A.G b ∨ A.own0 b ∨ A.w.heap.size ≤ b)
  ag : ∀ b, A.G b → C.G b ∧ b < A.w.heap.size ∧ ¬ A.own0 b
  pa : ∀ i b, C.PA i b → b < A.w.heap.size ∧ ¬ A.own0 b ∧ A.PA i b
  old : ∀ b, b < A.w.heap.size → ¬ A.own0 b → w.heap[b]? = A.w.heap[b]?
  size : A.w.heap.size ≤ w.heap.size
  calm : Calm A.w w
  rng : ∀ r ∈ A.rg, RangeSame A.w w r.b r.off r.n ∧ ∀ o, C.own r.b = some o → o = ⟨⟨r.i, []⟩, r.off, 0, 0⟩ ∧ ∃ ds, φ r.i = .box ds ∧ ds.length = r.n
  oko : OwnOk w C.own

/-- More is there, and all that was is as it was. -/
structure Ext (w w' : World) : Prop where
  size : w.heap.size ≤ w'.heap.size
  same : ∀ b, b < w.heap.size → w'.heap[b]? = w.heap[b]?
  calm : Calm w w'

theorem Ext.refl (w : World) : Ext w w := ⟨Nat.le_refl _, fun _ _ => rfl, .refl _⟩
theorem Ext.trans {a b c : World} (h : Ext a b) (k : Ext b c) : Ext a c :=
  ⟨Nat.le_trans h.size k.size, fun i hi => (k.same i (Nat.lt_of_lt_of_le hi h.size)).trans (h.same i hi), h.calm.trans k.calm⟩

theorem RangeSame.ext {w0 w w' : World} {b off n : Nat} (h : RangeSame w0 w b off n) (e : w'.heap[b]? = w.heap[b]?) : RangeSame w0 w' b off n := by
  obtain ⟨arr, ty, arr', h1, h2, h3⟩ := h
  exact ⟨arr, ty, arr', h1, e.trans h2, h3⟩

theorem RangeSame.lt {w0 w : World} {b off n : Nat} (h : RangeSame w0 w b off n) : b < w.heap.size := by
  obtain ⟨arr, ty, arr', h1, h2, h3⟩ := h
  exact (Array.getElem?_eq_some_iff.1 h2).1

section
variable {A : Start} {w w' : World} {μ : Mu} {φ : Fr} {tm : Nat → Value} {C : Cx}

theorem St.ok_lt (h : St A w μ φ tm C) {ps : List Pv} {b : Nat} (hb : okB C ps b) : b < w.heap.size := by
  rcases hb with hb | ⟨p, _, hb⟩
  · exact (h.frz b hb).1
  · cases p with
    | arg i => exact Nat.lt_of_lt_of_le (h.pa i b hb).1 h.size
    | lab l => obtain ⟨o, ho, _⟩ := hb; exact (h.own b o ho).1

/-- What is owned behind slot t (and the components of a tuple in it) is given up; new blocks are owned as told. -/
def Cx.drop (C : Cx) (t : Nat) (n : Nat) (N : Nat → Option Ow) : Cx where
  own b := if n ≤ b then N b else match C.own b with
    | some o => if hit t o.p.s then none else some o
    | none => none
  G b := C.G b ∨ ∃ o, C.own b = some o ∧ hit t o.p.s = true
  PA := C.PA

theorem Cx.drop_own {t n : Nat} {N : Nat → Option Ow} {b : Nat} {o : Ow} (h : C.own b = some o) (hb : b < n) (ht : hit t o.p.s = false) : (C.drop t n N).own b = some o := by
  simp only [Cx.drop, if_neg (Nat.not_le.2 hb), h, ht]
  rfl

theorem Cx.drop_inv {t n : Nat} {N : Nat → Option Ow} {b : Nat} {o : Ow} (h : (C.drop t n N).own b = some o) : (n ≤ b ∧ N b = some o) ∨ (b < n ∧ C.own b = some o ∧ hit t o.p.s = false) := by
  simp only [Cx.drop] at h
  by_cases e : n ≤ b
  · rw [if_pos e] at h; exact .inl ⟨e, h⟩
  · rw [if_neg e] at h
    right
    cases ho : C.own b with
    | none => rw [ho] at h; cases h
    | some o' =>
      rw [ho] at h
      by_cases hh : hit t o'.p.s = true
      · simp [hh] at h
      · simp only [hh, if_false, Option.some.injEq, Bool.false_eq_true] at h
        subst h
        exact ⟨by omega, rfl, by simpa using hh⟩

theorem Cx.drop_ok (h : St A w μ φ tm C) {t : Nat} {N : Nat → Option Ow} {ps : List Pv} {b : Nat} (hb : okB C ps b) : okB (C.drop t w.heap.size N) ps b := by
  rcases hb with hb | ⟨p, hp, hb⟩
  · exact .inl (.inl hb)
  · cases p with
    | arg i => exact .inr ⟨_, hp, hb⟩
    | lab l =>
      obtain ⟨o, ho, hl⟩ := hb
      cases ht : hit t o.p.s with
      | true => exact .inl (.inr ⟨o, ho, ht⟩)
      | false => exact .inr ⟨_, hp, ⟨o, Cx.drop_own ho (h.own b o ho).1 ht, hl⟩⟩

def idF : PF := fun ps => some ps
mutual
theorem map_id : ∀ (m : M), m.map idF = m
  | .u => rfl
  | .emp => rfl
  | .view ps => rfl
  | .own cols => by simp only [M.map, mapL_id cols]
theorem mapL_id : ∀ (l : List M), mapL idF l = l
  | [] => rfl
  | m :: l => by simp only [mapL, map_id m, mapL_id l]
end
theorem smap_id (m : SM) : m.map idF = m := by cases m <;> simp [SM.map, map_id, mapL_id, idF]

theorem dataAt_same {φ' : Fr} {p : Pl} (h : φ' p.s = φ p.s) : dataAt φ' p = dataAt φ p := by
  unfold dataAt cellsAt
  rw [h]

theorem cellsAt_same {φ' : Fr} {p : Pl} {n : Nat} (h : φ' p.s = φ p.s) : cellsAt φ' p n = cellsAt φ p n := by
  unfold cellsAt
  rw [h]

/-- References that were dropped with a slot lead elsewhere. -/
theorem refKeep_dropS {C' : Cx} {φ' : Fr} {tm' : Nat → Value} {t : Nat} (f : PF) (sm : SM)
    (hφ : ∀ s, hit t s = false → φ' s = φ s) (ht : ∀ s, hit t s = false → tm' s = tm s)
    (ho : ∀ b o, C.own b = some o → hit t o.p.s = false → C'.own b = some o)
    (hc : ∀ b n, (sm = .tup b n) → ∀ i < n, hit t b = false → hit t (cix b i) = false) : RefKeep C C' φ φ' tm tm' f (sm.dropS t) := by
  have hhd : ∀ (p : Pl) d v, hit t p.s = false → HdOk C φ p d v → HdOk C' φ' p d v := by
    intro p d v hp h
    rcases h with ⟨h1, z, h0, h2⟩ | ⟨b, off, c, z, rows0, rows, h0, h01, h1, h2, h3⟩
    · exact .inl ⟨h1, z, h0, by rw [dataAt_same (hφ p.s hp)]; exact h2⟩
    · exact .inr ⟨b, off, c, z, rows0, rows, h0, h01, h1, ho b _ h2 hp, by rw [dataAt_same (hφ p.s hp)]; exact h3⟩
  cases sm with
  | c m og =>
    cases og with
    | «at» s cs =>
      simp only [SM.dropS, Og.dropS]
      by_cases e : hit t s = true
      · simp only [e, if_true]; trivial
      · have e' : hit t s = false := by simpa using e
        simp only [e', if_false, Bool.false_eq_true]
        refine ⟨?_, fun _ => ht _ e'⟩
        intro p hp _
        subst hp
        exact ⟨fun d v => hhd p d v e', fun _ => dataAt_same (hφ _ e')⟩
    | vw s =>
      simp only [SM.dropS, Og.dropS]
      by_cases e : hit t s = true
      · simp only [e, if_true]; trivial
      · have e' : hit t s = false := by simpa using e
        simp only [e', if_false, Bool.false_eq_true]
        intro p hp _
        subst hp
        exact dataAt_same (hφ _ e')
    | ats s cs js =>
      simp only [SM.dropS, Og.dropS]
      split <;> trivial
    | no => trivial
    | dead => trivial
  | agg ms og =>
    cases og with
    | «at» s cs =>
      simp only [SM.dropS, Og.dropS]
      split <;> trivial
    | ats s cs js =>
      simp only [SM.dropS, Og.dropS]
      by_cases e : hit t s = true
      · simp only [e, if_true]; trivial
      · have e' : hit t s = false := by simpa using e
        simp only [e', if_false, Bool.false_eq_true]
        intro p hp _ j _
        subst hp
        exact ⟨fun d v => hhd (p.addc j) d v e', fun _ => dataAt_same (p := p.addc j) (hφ _ e')⟩
    | vw s =>
      simp only [SM.dropS, Og.dropS]
      by_cases e : hit t s = true
      · simp only [e, if_true]; trivial
      · simp only [e, if_false, Bool.false_eq_true]; trivial
    | no => trivial
    | dead => trivial
  | pt s cs =>
    simp only [SM.dropS]
    by_cases e : hit t s = true
    · simp only [e, if_true]; trivial
    · simp only [e, if_false, Bool.false_eq_true]
      intro b st off cap z hb _
      exact ho b _ hb (by simpa using e)
  | pa s cs n =>
    simp only [SM.dropS]
    by_cases e : hit t s = true
    · simp only [e, if_true]; trivial
    · simp only [e, if_false, Bool.false_eq_true]
      intro b st off cap z hb _
      exact ho b _ hb (by simpa using e)
  | pv ps s =>
    simp only [SM.dropS]
    by_cases e : hit t s = true
    · simp only [e, if_true]; trivial
    · simp only [e, if_false, Bool.false_eq_true]
      refine ⟨fun h => by rw [hφ s (by simpa using e)]; exact h, ?_⟩
      intro p n hp
      subst hp
      exact cellsAt_same (hφ _ (by simpa using e))
  | tup b n =>
    simp only [SM.dropS]
    by_cases e : hit t b = true
    · simp only [e, if_true]; trivial
    · simp only [e, if_false, Bool.false_eq_true]
      intro i hi
      exact ht _ (hc b n rfl i hi (by simpa using e))
  | clo g caps =>
    simp only [SM.dropS]
    by_cases e : caps.any (hit t) = true
    · simp only [e, if_true]; trivial
    · simp only [e, if_false, Bool.false_eq_true]
      intro c hc'
      refine ht _ ?_
      have e' : caps.any (hit t) = false := by simpa using e
      rw [List.any_eq_false] at e'
      simpa using e' c hc'
  | u => trivial
  | box ms => trivial
  | vbox ps n => trivial
  | fv fs i => trivial

theorem Claim.dropS {s t : Nat} {sm : SM} (h : Claim w C φ tm s sm) : Claim w C φ tm s (sm.dropS t) := ClaimX.dropS h

theorem cix_hit {t b i n : Nat} (hn : n ≤ 8) (hi : i < n) (ht : t < 1000) (hb : hit t b = false) : hit t (cix b i) = false := by
  have h0 : b ≠ t := by rintro rfl; simp [hit] at hb
  rw [Bool.eq_false_iff]
  intro h
  unfold hit isCix cix at h
  rw [Bool.or_eq_true, Bool.and_eq_true, beq_iff_eq, decide_eq_true_iff, decide_eq_true_iff] at h
  omega

end
end Go.Ev

/- A slot is written: what all other slots say stays. -/
namespace Go.Ev
section
variable {A : Start} {w w' : World} {μ : Mu} {φ : Fr} {tm : Nat → Value} {C : Cx}

theorem St.putG (h : St A w μ φ tm C) {t : Nat} (ht : t < 1000) (he : Ext w w') (N : Nat → Option Ow)
    (hN : ∀ b o, w.heap.size ≤ b → N b = some o → b < w'.heap.size)
    (hNt : ∀ b o, w.heap.size ≤ b → N b = some o → hit t o.p.s = true)
    (hNi : ∀ b b' o o', w.heap.size ≤ b → w.heap.size ≤ b' → N b = some o → N b' = some o' → o.p = o'.p → b = b') (hNk : OwnOk w' N)
    {μ' : Mu} {φ' : Fr} {tm' : Nat → Value} (hφ : ∀ s, hit t s = false → φ' s = φ s) (htm : ∀ s, hit t s = false → tm' s = tm s)
    (hμ : ∀ s, hit t s = false → μ'.get s = (μ.get s).dropS t)
    (hc : ∀ s, hit t s = true → φ' s = .u ∨ Claim w' (C.drop t w.heap.size N) φ' tm' s (μ'.get s)) :
    St A w' μ' φ' tm' (C.drop t w.heap.size N) := by
  have hsame : ∀ b, b < w.heap.size → w'.heap[b]? = w.heap[b]? := he.same
  refine ⟨?_, ?_, ?_, ?_, ?_, ?_, ?_, Nat.le_trans h.size he.size, h.calm.trans he.calm, ?_, ?_⟩
  rotate_right
  · intro b o h1
    rcases Cx.drop_inv h1 with ⟨l1, n1⟩ | ⟨l1, n1, g1⟩
    · exact hNk b o n1
    · rw [hsame b l1]; exact h.oko b o n1
  · intro s
    cases hs : hit t s with
    | true => exact hc s hs
    | false =>
      rw [hφ s hs, hμ s hs]
      rcases h.slot s with h1 | h1
      · exact .inl h1
      · right
        have h2 := h1.dropS (t := t)
        have h3 := h2.keep (w' := w') (C' := C.drop t w.heap.size N) (φ' := φ') (tm' := tm') idF (hφ s hs) (htm s hs) ?_ ?_ ?_ ?_ ?_
        · rwa [smap_id] at h3
        · intro b q off c z hb
          have hlt := (h.own b _ hb).1
          exact ⟨Cx.drop_own hb hlt hs, hsame b hlt⟩
        · intro ps ps' hf b hb
          cases hf
          exact ⟨Cx.drop_ok h hb, hsame b (h.ok_lt hb)⟩
        · intro i b hb
          exact ⟨hb, hsame b (Nat.lt_of_lt_of_le (h.pa i b hb).1 h.size)⟩
        · intro b hb
          exact ⟨.inl hb, hsame b (h.frz b hb).1⟩
        · refine refKeep_dropS idF _ hφ htm (fun b o hb hh => Cx.drop_own hb (h.own b o hb).1 hh) ?_
          intro b n e i hi hb
          rw [e] at h1
          exact cix_hit h1.2.1 hi ht hb
  · intro b b' o o' h1 h2 e
    rcases Cx.drop_inv h1 with ⟨l1, n1⟩ | ⟨l1, n1, g1⟩ <;> rcases Cx.drop_inv h2 with ⟨l2, n2⟩ | ⟨l2, n2, g2⟩
    · exact hNi b b' o o' l1 l2 n1 n2 e
    · rw [← e, hNt b o l1 n1] at g2; cases g2
    · rw [e, hNt b' o' l2 n2] at g1; cases g1
    · exact h.inj b b' o o' n1 n2 e
  · intro b o h1
    rcases Cx.drop_inv h1 with ⟨l1, n1⟩ | ⟨l1, n1, g1⟩
    · refine ⟨hN b o l1 n1, ?_, ?_, .inr (Nat.le_trans h.size l1)⟩
      · rintro (hg | ⟨o', ho', _⟩)
        · have := (h.frz b hg).1; omega
        · have := (h.own b o' ho').1; omega
      · intro i hp
        have := (h.pa i b hp).1
        have := h.size
        omega
    · obtain ⟨q1, q2, q3, q4⟩ := h.own b o n1
      refine ⟨Nat.lt_of_lt_of_le q1 he.size, ?_, q3, q4⟩
      rintro (hg | ⟨o', ho', hh⟩)
      · exact q2 hg
      · rw [n1] at ho'; cases ho'; rw [hh] at g1; cases g1
  · rintro b (hg | ⟨o, ho, hh⟩)
    · exact ⟨Nat.lt_of_lt_of_le (h.frz b hg).1 he.size, (h.frz b hg).2⟩
    · obtain ⟨q1, q2, q3, q4⟩ := h.own b o ho
      exact ⟨Nat.lt_of_lt_of_le q1 he.size, .inr q4⟩
  · intro b hb
    exact ⟨.inl (h.ag b hb).1, (h.ag b hb).2⟩
  · exact h.pa
  · intro b hb hn
    rw [hsame b (Nat.lt_of_lt_of_le hb h.size)]
    exact h.old b hb hn
  · intro r hr
    obtain ⟨h1, h2⟩ := h.rng r hr
    refine ⟨h1.ext (hsame r.b h1.lt), fun o ho => ?_⟩
    rcases Cx.drop_inv ho with ⟨l1, n1⟩ | ⟨l1, n1, g1⟩
    · have := h1.lt; omega
    · obtain ⟨e, ds, q1, q2⟩ := h2 o n1
      refine ⟨e, ds, ?_, q2⟩
      rw [e] at g1
      rw [hφ r.i g1]; exact q1

/-- One slot. -/
theorem St.put (h : St A w μ φ tm C) {t : Nat} (ht : t < 1000) (he : Ext w w') (N : Nat → Option Ow)
    (hN : ∀ b o, w.heap.size ≤ b → N b = some o → b < w'.heap.size)
    (hNt : ∀ b o, w.heap.size ≤ b → N b = some o → hit t o.p.s = true)
    (hNi : ∀ b b' o o', w.heap.size ≤ b → w.heap.size ≤ b' → N b = some o → N b' = some o' → o.p = o'.p → b = b') (hNk : OwnOk w' N)
    {x : X} {tm' : Nat → Value} (htm : ∀ s, hit t s = false → tm' s = tm s) {sm : SM}
    (hc : Claim w' (C.drop t w.heap.size N) (upd φ t x) tm' t (sm.dropS t)) :
    St A w' (μ.put t sm) (upd φ t x) tm' (C.drop t w.heap.size N) := by
  refine h.putG ht he N hN hNt hNi hNk ?_ htm ?_ ?_
  · intro s hs
    have : s ≠ t := by rintro rfl; rw [hit_self] at hs; cases hs
    simp [upd, this]
  · intro s hs
    have : s ≠ t := by rintro rfl; rw [hit_self] at hs; cases hs
    rw [get_put, if_neg this, hs]; rfl
  · intro s hs
    rw [get_put]
    by_cases e : s = t
    · subst e; rw [if_pos rfl]; exact .inr hc
    · rw [if_neg e, hs]; exact .inr trivial

/-- What a value hangs on, beside slot t, stays when t is written. -/
theorem Rd.drop (h : St A w μ φ tm C) {t : Nat} {N : Nat → Option Ow} (he : Ext w w') {ps : List Pv} {d : D} {v : Value} (hr : Rd w (okB C ps) d v) : Rd w' (okB (C.drop t w.heap.size N) ps) d v :=
  hr.mono fun b hb => ⟨Cx.drop_ok h hb, he.same b (h.ok_lt hb)⟩

theorem ReadAt.drop (h : St A w μ φ tm C) {t : Nat} {N : Nat → Option Ow} (he : Ext w w') {ps : List Pv} {v : Value} {ds : List D} (hr : ReadAt w (okB C ps) v ds) : ReadAt w' (okB (C.drop t w.heap.size N) ps) v ds :=
  hr.mono fun b hb => ⟨Cx.drop_ok h hb, he.same b (h.ok_lt hb)⟩

/-- Scalars. -/
theorem claim_sc {C' : Cx} {φ' : Fr} {tm' : Nat → Value} {t : Nat} {v : Value} (hs : v.scalar = true) (h1 : φ' t = .d (.v v) none) (h2 : tm' t = v) : Claim w' C' φ' tm' t scM :=
  ⟨.v v, none, h1, by rw [h2]; exact .view (.v hs), fun h => by cases h⟩
end
end Go.Ev

/- The types of a program, as the check knows them, are its types. -/
namespace Go.Ev

def ZC.v : ZC → Value
  | .zi k => .int k 0
  | .zb => .bool false
  | .zs => .string .empty
  | .zl _ => .slice none 0 0
  | .zx => .nilFunc

def ZC.is : ZC → Value → Bool
  | .zi k, .int k' n => k == k' && n == 0
  | .zb, .bool b => !b
  | .zs, .string x => x.data == #[]
  | .zl _, .slice none 0 0 => true
  | .zx, .nilFunc => true
  | .zx, .pointer none => true
  | .zx, .nilIface => true
  | _, _ => false

def zeros : List ZC → List Value → Bool
  | [], [] => true
  | z :: zs, v :: vs => z.is v && zeros zs vs
  | _, _ => false

def TE.ok (P : Program) (e : TE) : Bool :=
  (match P.info? e.t with
    | some i => i.size == e.size && (match i.zero with
      | some v => zeros e.zero v.cells.toList
      | none => false)
    | none => false) &&
  match P.underlying e.t with
  | some (.struct fs) => e.agg && e.flds == fs.toList.map (·.offset) && fs.toList.all (fun f => (P.info? f.type).any (·.size != 0)) && e.el.isNone && e.ar.isNone && e.kd == 0
  | some (.array n x) => e.agg && e.ar == some (n, x, P.cellsOf x) && (P.info? x).isSome && e.el.isNone && e.flds == [] && e.kd == 0
  | some (.slice x) => !e.agg && e.el == some (x, P.cellsOf x, P.bytesOf x) && (P.info? x).isSome && e.ar.isNone && e.flds == [] && e.kd == 0
  | some d => !e.agg && e.el.isNone && e.ar.isNone && e.flds == [] && (e.kd == 0 || (e.kd == 1 && (d matches .bool)) || (e.kd == 2 && (d matches .string)) || (e.kd == 3 && (d matches .interface _)))
  | none => false

/-- Sizes: of a zero value, of a struct's fields, of the elements. -/
def TE.okF (P : Program) (e : TE) : Bool :=
  e.zero.length == e.size && (match e.zero with
  | [.zi k] => e.agg || (match P.underlying e.t with | some (.int k') => k' == k | _ => false)
  | [.zs] => e.agg || (match P.underlying e.t with | some .string => true | _ => false)
  | _ => true) && (match P.underlying e.t with
  | some (.struct fs) => (List.range fs.size).all fun f => match fs[f]?, fldSize e f with
      | some fl, some (_, n) => P.cellsOf fl.type == n && (P.info? fl.type).isSome
      | _, _ => false
  | _ => true)

/-- Two lists of plain cells, of these kinds: whether they are equal. -/
def leafV : List ZC → List Value → List Value → Option Bool
  | [], [], [] => some true
  | .zi k :: zs, .int k1 a :: xs, .int k2 b :: ys => if k1 = k ∧ k2 = k then (leafV zs xs ys).map ((a == b) && ·) else none
  | .zs :: zs, .string a :: xs, .string b :: ys => (leafV zs xs ys).map ((a.toList == b.toList) && ·)
  | .zb :: zs, .bool a :: xs, .bool b :: ys => (leafV zs xs ys).map ((a == b) && ·)
  | _, _, _ => none

def EqFact (P : Program) (t : Nat) (zs : List ZC) : Prop :=
  ∀ (x y : Operand) (xs ys : List Value) (b : Bool) (w : World), leafV zs xs ys = some b →
    (do eqGuard .eql t x y (.agg xs.toArray) (.agg ys.toArray); binOp .eql t (.agg xs.toArray) (.agg ys.toArray) : Sem Value).run P w = .ok (.bool b) w ∧
    (do eqGuard .neq t x y (.agg xs.toArray) (.agg ys.toArray); binOp .neq t (.agg xs.toArray) (.agg ys.toArray) : Sem Value).run P w = .ok (.bool !b) w

structure Env where
  P : Program
  τ : List TE
  mix : P.follows .mixedOrders = true
  ok : τ.all (·.ok P) = true
  okF : τ.all (·.okF P) = true
  eqok : ∀ e ∈ τ, e.eq = true → EqFact P e.t e.zero
  tabs : List (Nat × Array Value)

def Env.get (V : Env) (t : Nat) : Option TE := TE.find V.τ t

theorem Env.get_ok {V : Env} {t : Nat} {e : TE} (h : V.get t = some e) : e.t = t ∧ e.ok V.P = true := by
  unfold Env.get TE.find at h
  have h1 := List.find?_some h
  have h2 := List.mem_of_find?_eq_some h
  exact ⟨by simpa using h1, List.all_eq_true.1 V.ok e h2⟩

section
variable {V : Env} {t : Nat} {e : TE}

theorem Env.info (h : V.get t = some e) : ∃ i v, V.P.info? t = some i ∧ i.size = e.size ∧ i.zero = some v ∧ zeros e.zero v.cells.toList = true := by
  obtain ⟨rfl, hok⟩ := V.get_ok h
  unfold TE.ok at hok
  rw [Bool.and_eq_true] at hok
  have h1 := hok.1
  split at h1
  · rename_i i hi
    rw [Bool.and_eq_true] at h1
    have h2 := h1.2
    split at h2
    · rename_i v hv; exact ⟨i, v, hi, by simpa using h1.1, hv, h2⟩
    · simp at h2
  · simp at h1

theorem Env.desc (h : V.get t = some e) : ∃ d, V.P.underlying t = some d ∧ e.agg = (match d with | .struct _ | .array _ _ => true | _ => false) ∧
    (∀ (f off : Nat), e.flds[f]? = some off → ∃ (fs : Array Field) (fl : Field), d = .struct fs ∧ fs[f]? = some fl ∧ fl.offset = off ∧ ∃ i, V.P.info? fl.type = some i ∧ i.size ≠ 0) ∧
    (∀ n x z, e.ar = some (n, x, z) → d = .array n x ∧ ∃ i, V.P.info? x = some i ∧ i.size = z) ∧
    (∀ x z y, e.el = some (x, z, y) → d = .slice x ∧ ∃ i, V.P.info? x = some i ∧ i.size = z ∧ i.bytes = y) ∧ (e.kd = 1 → d = .bool) ∧ (e.kd = 2 → d = .string) ∧ (e.kd = 3 → ∃ ms, d = .interface ms) := by
  obtain ⟨rfl, hok⟩ := V.get_ok h
  unfold TE.ok at hok
  rw [Bool.and_eq_true] at hok
  have h1 := hok.2
  split at h1
  · rename_i fs hu
    simp only [Bool.and_eq_true, beq_iff_eq, List.all_eq_true, Option.isNone_iff_eq_none] at h1
    obtain ⟨⟨⟨⟨⟨a1, a2⟩, a3⟩, a4⟩, a5⟩, a6⟩ := h1
    refine ⟨_, hu, by simp [a1], ?_, by simp [a5], by simp [a4], by simp [a6], by simp [a6], by simp [a6]⟩
    intro f off hf
    rw [a2, List.getElem?_map, Option.map_eq_some_iff] at hf
    obtain ⟨fl, hfl, rfl⟩ := hf
    have := a3 fl (List.mem_of_getElem? hfl)
    rw [Option.any_eq_true] at this
    obtain ⟨i, hi, hne⟩ := this
    exact ⟨fs, fl, rfl, by simpa using hfl, rfl, i, hi, by simpa using hne⟩
  · rename_i n x hu
    simp only [Bool.and_eq_true, beq_iff_eq, Option.isNone_iff_eq_none, Option.isSome_iff_exists] at h1
    obtain ⟨⟨⟨⟨⟨a1, a2⟩, i, a3⟩, a4⟩, a5⟩, a6⟩ := h1
    refine ⟨_, hu, by simp [a1], by simp [a5], ?_, by simp [a4], by simp [a6], by simp [a6], by simp [a6]⟩
    intro n' x' z' h'
    rw [a2] at h'
    simp only [Option.some.injEq, Prod.mk.injEq] at h'
    obtain ⟨rfl, rfl, rfl⟩ := h'
    exact ⟨rfl, i, a3, by simp [Program.cellsOf, a3]⟩
  · rename_i x hu
    simp only [Bool.and_eq_true, beq_iff_eq, Option.isNone_iff_eq_none, Option.isSome_iff_exists, Bool.not_eq_true'] at h1
    obtain ⟨⟨⟨⟨⟨a1, a2⟩, i, a3⟩, a4⟩, a5⟩, a6⟩ := h1
    refine ⟨_, hu, by simp [a1], by simp [a5], by simp [a4], ?_, by simp [a6], by simp [a6], by simp [a6]⟩
    intro x' z' y' h'
    rw [a2] at h'
    simp only [Option.some.injEq, Prod.mk.injEq] at h'
    obtain ⟨rfl, rfl, rfl⟩ := h'
    exact ⟨rfl, i, a3, by simp [Program.cellsOf, a3], by simp [Program.bytesOf, a3]⟩
  · rename_i d h2 h3 h4 hu
    simp only [Bool.and_eq_true, beq_iff_eq, Option.isNone_iff_eq_none, Bool.not_eq_true'] at h1
    obtain ⟨⟨⟨⟨a1, a2⟩, a3⟩, a4⟩, a5⟩ := h1
    refine ⟨d, hu, ?_, by simp [a4], by simp [a3], by simp [a2], ?_, ?_, ?_⟩
    · rw [a1]
      split
      · rename_i fs; exact (h2 fs rfl).elim
      · rename_i n x; exact (h3 n x rfl).elim
      · rfl
    · intro hb
      rw [hb] at a5
      cases d <;> simp_all
    · intro hb
      rw [hb] at a5
      cases d <;> simp_all
    · intro hb
      rw [hb] at a5
      cases d <;> simp_all
  · simp at h1

theorem Env.agg_run (h : V.get t = some e) (w : World) : (isAgg t).run V.P w = .ok e.agg w := by
  obtain ⟨d, hu, ha, _⟩ := Env.desc h
  unfold isAgg
  rw [Sem.run_bind, run_underlying hu w, ha]
  cases d <;> rfl

theorem Env.size_run (h : V.get t = some e) (w : World) : (sizeOf t).run V.P w = .ok e.size w := by
  obtain ⟨i, v, hi, hs, _⟩ := Env.info h
  simp [sizeOf, typeInfo, hi, hs]


theorem zero_len {zs : List ZC} {vs : List Value} (h : zeros zs vs = true) : zs.length = vs.length := by
  induction zs generalizing vs with
  | nil => cases vs <;> simp_all [zeros]
  | cons z zs ih => cases vs with
    | nil => simp [zeros] at h
    | cons v vs => simp only [zeros, Bool.and_eq_true] at h; simp [ih h.2]

theorem Env.get_okF (h : V.get t = some e) : e.okF V.P = true := List.all_eq_true.1 V.okF e (List.mem_of_find?_eq_some h)

theorem Env.zero_size (h : V.get t = some e) : e.zero.length = e.size := by
  have := Env.get_okF h
  unfold TE.okF at this
  simp only [Bool.and_eq_true, beq_iff_eq] at this
  exact this.1.1

theorem Env.int_of {k : IntKind} (h : V.get t = some e) (hz : e.zero = [.zi k]) (ha : e.agg = false) : V.P.underlying t = some (.int k) := by
  have := Env.get_okF h
  have ht := (V.get_ok h).1
  unfold TE.okF at this
  rw [hz, ha, ht] at this
  simp only [Bool.and_eq_true, Bool.false_or] at this
  have := this.1.2
  split at this
  · rename_i k' e'; rw [e']; simp only [beq_iff_eq] at this; rw [this]
  · cases this

theorem Env.str_of (h : V.get t = some e) (hz : e.zero = [.zs]) (ha : e.agg = false) : V.P.underlying t = some .string := by
  have := Env.get_okF h
  have ht := (V.get_ok h).1
  unfold TE.okF at this
  rw [hz, ha, ht] at this
  simp only [Bool.and_eq_true, Bool.false_or] at this
  have := this.1.2
  split at this
  · rename_i e'; exact e'
  · cases this
end
end Go.Ev

/- Operands: what is read of a slot. -/
namespace Go.Ev

/-- The values of slots, and of the components of tuples. -/
def tmO (tmps : Array Value) (g : Nat → Value) : Nat → Value := fun s => if s < 1000 then tmps.getD s undef else g s

def sm1 : Operand → Bool
  | .tmp t => decide (t < 1000)
  | _ => true

theorem viewsAt_get {l : List Nat} : ∀ {ms : List M} {k j : Nat} {m' : M}, (viewsAt l k ms)[j]? = some m' → ∃ m, ms[j]? = some m ∧ m' = m.viewAt (l ++ [k + j])
  | [], k, j, m', h => by simp [viewsAt] at h
  | m :: ms, k, 0, m', h => by simp only [viewsAt, List.getElem?_cons_zero, Option.some.injEq] at h; exact ⟨m, rfl, h.symm⟩
  | m :: ms, k, j + 1, m', h => by
    simp only [viewsAt, List.getElem?_cons_succ] at h
    obtain ⟨m1, h1, h2⟩ := viewsAt_get h
    exact ⟨m1, by simpa using h1, by rw [h2]; congr 3; omega⟩

theorem viewsAt_len {l : List Nat} : ∀ {ms : List M} {k : Nat}, (viewsAt l k ms).length = ms.length
  | [], _ => rfl
  | _ :: ms, k => by simp [viewsAt, viewsAt_len (ms := ms)]

theorem viewAt_noOwn (l : List Nat) (m : M) : (m.viewAt l).noOwn = true := by
  cases m with
  | own cols => simp only [M.viewAt]; split <;> rfl
  | _ => rfl

theorem viewAt_readable {l : List Nat} {m : M} (h : (m.viewAt l).readable = true) : m.readable = true := by
  cases m <;> simp_all [M.viewAt, M.readable]

theorem viewsAt_noOwn (l : List Nat) : ∀ (ms : List M) (k : Nat), (viewsAt l k ms).all M.noOwn = true
  | [], _ => rfl
  | m :: ms, k => by simp [viewsAt, viewAt_noOwn, viewsAt_noOwn l ms (k + 1)]

theorem cpM_noOwn (t : Nat) (sm : SM) : (cpM t sm).noOwn = true := by
  cases sm <;> simp [cpM, SM.noOwn, viewAt_noOwn, viewsAt_noOwn]

theorem opM_noOwn (μ : Mu) (x : Operand) : (opM μ x).noOwn = true := by
  unfold opM
  split
  · exact cpM_noOwn _ _
  · rfl
  · split <;> rfl
  · rfl
  · rfl

section
variable {w : World} {C : Cx} {φ : Fr} {tm : Nat → Value}

theorem hd_of {p : Pl} {m : M} {d : D} {v : Value} (h : Rep w C p m d v) (hm : m.mayOwn = true) (hd : dataAt φ p = some d) : HdOk C φ p d v := by
  cases h with
  | u => cases hm
  | emp => exact .inl ⟨rfl, _, rfl, hd⟩
  | view h => cases hm
  | nil => exact .inl ⟨rfl, _, rfl, hd⟩
  | own h1 h2 h3 h4 h5 h6 h7 h8 => exact .inr ⟨_, _, _, _, _, _, rfl, rfl, rfl, h1, hd⟩

theorem cpM_sound {t s : Nat} {v : Value} {sm : SM} (htv : tm t = v) (h : ClaimX w C φ tm t (φ t) v sm) : ClaimX w C φ tm s (cpX t (φ t)) v (cpM t sm) := by
  cases sm with
  | u => trivial
  | c m og =>
    obtain ⟨d, o, e1, e2, e3⟩ := h
    rw [e1]
    have hr : Rep w C ⟨s, []⟩ (m.viewAt [t]) d v := by
      have := e2.viewAt (p' := ⟨s, []⟩)
      simpa [Pl.lab] using this
    cases d with
    | v x => exact ⟨.v x, o, rfl, hr, fun h => by cases h⟩
    | sl z rows =>
      refine ⟨.sl z rows, some (o.getD ⟨t, []⟩), rfl, hr, fun _ => ?_⟩
      have hda : dataAt φ ⟨t, []⟩ = some (.sl z rows) := by simp [dataAt, e1]
      have e3 := e3 rfl
      cases og with
      | no =>
        have e3 : o = none := e3
        subst e3
        cases m with
        | u => trivial
        | emp => exact ⟨⟨t, []⟩, rfl, rfl, rfl, hd_of e2 rfl hda, fun _ => hda, fun _ => htv⟩
        | own cols => exact ⟨⟨t, []⟩, rfl, rfl, rfl, hd_of e2 rfl hda, fun _ => hda, fun _ => htv⟩
        | view ps => exact ⟨⟨t, []⟩, rfl, rfl, fun _ => hda⟩
      | «at» q cs =>
        obtain ⟨p, q1, q2, q3, q4, q5, q6⟩ := e3
        subst q1
        exact ⟨p, rfl, q2, q3, q4, fun hm => q5 (viewAt_readable hm), q6⟩
      | ats q cs js => trivial
      | vw q =>
        obtain ⟨p, q1, q2, q3⟩ := e3
        subst q1
        exact ⟨p, rfl, q2, fun hm => q3 (viewAt_readable hm)⟩
      | dead => trivial
  | agg ms og =>
    obtain ⟨ds, o, vs, e1, e2, e3, e4, e5, e6⟩ := h
    rw [e1]
    refine ⟨ds, _, vs, rfl, e2, e3, by rw [viewsAt_len]; exact e4, ?_, ?_⟩
    · intro i j row d m' h1 h2 h3
      obtain ⟨m, hm, rfl⟩ := viewsAt_get h3
      cases i with
      | succ i => simp at h1
      | zero =>
        have := (e5 0 j row d m h1 h2 hm).viewAt (p' := (⟨s, []⟩ : Pl).cell 0 j)
        simpa [Pl.lab, Pl.cell] using this
    · cases og with
      | no =>
        have e6 : o = none := e6
        subst e6
        refine ⟨⟨t, [(0, 0)]⟩, rfl, rfl, rfl, by simp, ?_⟩
        intro j hj
        simp only [List.mem_filter, List.mem_range, Option.any_eq_true] at hj
        obtain ⟨hj, m, hm, hmo⟩ := hj
        have hjd : j < ds.length := by omega
        have hd : ds[j]? = some ds[j] := List.getElem?_eq_getElem hjd
        have hda : dataAt φ ⟨t, [(0, j)]⟩ = some ds[j] := by
          simp [dataAt, cellsAt, e1, rowsX, cellsIn, Nat.succ_le_of_lt hjd, List.take_one, List.head?_drop, hd]
        have hr := e5 0 j ds ds[j] m rfl hd hm
        have hp : (⟨t, [(0, 0)]⟩ : Pl).addc j = (⟨t, []⟩ : Pl).cell 0 j := by simp [Pl.addc, Pl.cell, addLast]
        rw [hp]
        exact ⟨ds[j], hd, hd_of hr hmo hda, fun _ => hda⟩
      | «at» q cs => trivial
      | ats q cs js =>
        obtain ⟨p, q1, q2, q3, q4, q5⟩ := e6
        subst q1
        refine ⟨p, rfl, q2, q3, q4, fun j hj => ?_⟩
        obtain ⟨d, g1, g2, g3⟩ := q5 j hj
        refine ⟨d, g1, g2, fun hm => g3 ?_⟩
        cases hq : (viewsAt [t] 0 ms)[j]? with
        | none => rw [hq] at hm; cases hm
        | some m' =>
          rw [hq] at hm
          obtain ⟨m, h1, rfl⟩ := viewsAt_get hq
          rw [h1]; exact viewAt_readable hm
      | vw q => trivial
      | dead => trivial
  | box ms =>
    obtain ⟨ds, b, off, arr, e1, e2, e3⟩ := h
    rw [e1]
    exact ⟨⟨t, [(0, 0)]⟩, rfl, rfl, rfl, [], 0, 0, b, off, 0, 0, rfl, e3.own, by rw [e2]; simp⟩
  | vbox ps n =>
    obtain ⟨ds, e1, e2, b, off, arr, ty, fz, g1, g2, g3, g4, g5⟩ := h
    rw [e1]
    refine ⟨⟨t, [(0, 0)]⟩, rfl, rfl, by rw [e1]; simp, ⟨b, off, g1⟩, ?_⟩
    intro k ds' hds hk
    simp only [cellsAt, e1, rowsX, cellsIn, List.getElem?_cons_zero, Nat.zero_add, List.drop_zero] at hds
    split at hds
    · rename_i hle
      cases hds
      refine ⟨b, off, arr, ty, fz, g1, g2, g3, by simp; omega, ?_⟩
      intro j d hj
      rw [List.getElem?_take] at hj
      split at hj
      · exact g5 j d hj
      · cases hj
    · cases hds
  | pt q cs => obtain ⟨p, e1, r⟩ := h; rw [e1]; exact ⟨p, rfl, r⟩
  | pa q cs n => obtain ⟨p, k, e1, r⟩ := h; rw [e1]; exact ⟨p, k, rfl, r⟩
  | pv ps q => obtain ⟨p, e1, r⟩ := h; rw [e1]; exact ⟨p, rfl, r⟩
  | tup b n => obtain ⟨e1, r⟩ := h; rw [e1]; exact ⟨rfl, r⟩
  | clo g caps => obtain ⟨e1, r⟩ := h; rw [e1]; exact ⟨rfl, r⟩
  | fv fs i => obtain ⟨g, caps, vs, e1, r⟩ := h; rw [e1]; exact ⟨g, caps, vs, rfl, r⟩

end

section
variable {τ : List TE} {A : Start} {w : World} {μ : Mu} {φ : Fr} {C : Cx} {a : Act} {g : Nat → Value}

theorem tmO_eval {t : Nat} (ht : t < 1000) : tmO a.tmps g t = a.eval (.tmp t) := by simp [tmO, ht, Act.eval]

theorem const_sc {v : Value} (hv : v.scalar = true) (ty : Nat) : opX τ φ ty (.const v) = .d (.v v) none ∧ opM μ (.const v) = scM := by
  cases v <;> simp_all [Value.scalar, opX, opM, scM]

theorem const_no {v : Value} (hv : v.scalar = false) (hn : v ≠ .slice none 0 0) (ty : Nat) : opX τ φ ty (.const v) = .u := by
  unfold opX
  split
  · rename_i e; cases e
  · rename_i e; cases e; exact (hn rfl).elim
  · rename_i e; cases e; rw [hv]; rfl
  · rename_i e; cases e
  · rename_i e; cases e

theorem op_sound {x : Operand} {ty s : Nat} (h : St A w μ φ (tmO a.tmps g) C) (hx : sm1 x = true) (hu : opX τ φ ty x ≠ .u) :
    ClaimX w C φ (tmO a.tmps g) s (opX τ φ ty x) (a.eval x) (opM μ x) := by
  cases x with
  | tmp t =>
    have ht : t < 1000 := by simpa [sm1] using hx
    simp only [opX] at hu ⊢
    have hs : φ t ≠ .u := by intro e; rw [e] at hu; exact hu rfl
    have hc := (h.slot t).resolve_left hs
    unfold Claim at hc
    rw [tmO_eval ht] at hc
    exact cpM_sound (tmO_eval (by simpa [sm1] using hx)) hc
  | const v =>
    cases hv : v.scalar with
    | true =>
      obtain ⟨e1, e2⟩ := const_sc (τ := τ) (φ := φ) (μ := μ) hv ty
      rw [e1, e2]
      exact ⟨.v v, none, rfl, .view (.v hv), fun h => by cases h⟩
    | false =>
      by_cases hn : v = .slice none 0 0
      · subst hn
        exact ⟨_, _, rfl, .emp, fun _ => rfl⟩
      · exact (hu (const_no hv hn ty)).elim
  | func f => exact ⟨rfl, rfl⟩
  | global n => exact (hu rfl).elim

theorem rep_val {p : Pl} {m : M} {x u : Value} (h : Rep w C p m (.v x) u) (hm : m.readable = true) : u = x := by
  cases h with
  | u => cases hm
  | view h => cases h; rfl

/-- A scalar operand. -/
theorem val_sound {x : Operand} {ty : Nat} {v : Value} (h : St A w μ φ (tmO a.tmps g) C) (hx : sm1 x = true) (hr : rdO μ x = true) (hv : (opX τ φ ty x).val = some v) : a.eval x = v ∧ v.scalar = true := by
  have hu : opX τ φ ty x ≠ .u := by intro e; rw [e] at hv; cases hv
  have hc := op_sound (s := 0) h hx hu
  generalize opX τ φ ty x = y at *
  unfold rdO at hr
  generalize opM μ x = sm at *
  unfold X.val at hv
  split at hv
  · cases hv
    cases sm <;> first | (cases hr; done) | skip
    · obtain ⟨d, o, e1, e2, e3⟩ := hc
      cases e1
      simp only [SM.readable] at hr
      have := rep_val e2 hr
      refine ⟨this, ?_⟩
      cases e2 with
      | u => cases hr
      | view h => cases h with | v h => exact h
    · obtain ⟨ds, o, vs, e1, _⟩ := hc; cases e1
  · cases hv
end
end Go.Ev

/- What leaves nothing but its result. -/
namespace Go.Ev

theorem dropS_noOwn (t : Nat) {sm : SM} (h : sm.noOwn = true) : (sm.dropS t).noOwn = true := by
  cases sm <;> simp only [SM.dropS] <;> first | exact h | (split <;> first | rfl | exact h)

theorem refKeep_refl {C : Cx} {φ : Fr} {tm : Nat → Value} (f : PF) (sm : SM) : RefKeep C C φ φ tm tm f sm := by
  cases sm with
  | c m og =>
    cases og with
    | «at» q cs => exact ⟨fun p _ _ => ⟨fun _ _ h => h, fun _ => rfl⟩, fun _ => rfl⟩
    | vw q => exact fun p _ _ => rfl
    | _ => trivial
  | agg ms og =>
    cases og with
    | ats q cs js => exact fun p _ _ j _ => ⟨fun _ _ h => h, fun _ => rfl⟩
    | _ => trivial
  | pt q cs => exact fun b st off cap z h _ => h
  | pa q cs n => exact fun b st off cap z h _ => h
  | pv ps q => exact ⟨fun h => h, fun _ _ _ => rfl⟩
  | tup b n => exact fun _ _ => rfl
  | clo f caps => exact fun _ _ => rfl
  | _ => trivial

structure NewOk (n m d : Nat) (N : Nat → Option Ow) : Prop where
  lt : ∀ b o, n ≤ b → N b = some o → b < m
  lab : ∀ b o, n ≤ b → N b = some o → o.p.s = d
  inj : ∀ b b' o o', n ≤ b → n ≤ b' → N b = some o → N b' = some o' → o.p = o'.p → b = b'

theorem NewOk.none {n m d : Nat} : NewOk n m d (fun _ => Option.none) := ⟨by simp, by simp, by simp⟩

/-- An operation's result: a copy, or something new. -/
def PureOk (V : Env) (w : World) (C : Cx) (φ : Fr) (tm : Nat → Value) (a : Act) (o : Oper) (x : X) (sm : SM) : Prop :=
  (∃ v, (execOp a.eval o).run V.P w = .ok (.value v) w ∧ sm.noOwn = true ∧ ∀ s, ClaimX w C φ tm s x v sm) ∨
  (∃ v w', (execOp a.eval o).run V.P w = .ok (.value v) w' ∧ Ext w w' ∧ ∀ d, ∃ N, NewOk w.heap.size w'.heap.size d N ∧ OwnOk w' N ∧
    ∀ C' φ' tm', (∀ b o, w.heap.size ≤ b → N b = some o → C'.own b = some o) → (∀ ps b, okB C ps b → okB C' ps b) → ClaimX w' C' φ' tm' d x v sm)

section
variable {V : Env} {A : Start} {w w' : World} {μ : Mu} {φ : Fr} {tm : Nat → Value} {C : Cx} {a : Act} {g : Nat → Value} {o : Oper}

theorem St.ext (h : St A w μ φ tm C) (he : Ext w w') : St A w' μ φ tm C := by
  have hsame : ∀ b, b < w.heap.size → w'.heap[b]? = w.heap[b]? := he.same
  refine ⟨?_, h.inj, ?_, ?_, h.ag, h.pa, ?_, Nat.le_trans h.size he.size, h.calm.trans he.calm, ?_, ?_⟩
  rotate_right
  · intro b o hb
    rw [hsame b (h.own b o hb).1]; exact h.oko b o hb
  · intro s
    rcases h.slot s with h1 | h1
    · exact .inl h1
    · right
      have h3 := h1.keep (w' := w') (C' := C) (φ' := φ) (tm' := tm) idF rfl rfl ?_ ?_ ?_ ?_ (refKeep_refl _ _)
      · rwa [smap_id] at h3
      · intro b q off c z hb; exact ⟨hb, hsame b (h.own b _ hb).1⟩
      · intro ps ps' hf b hb; cases hf; exact ⟨hb, hsame b (h.ok_lt hb)⟩
      · intro i b hb; exact ⟨hb, hsame b (Nat.lt_of_lt_of_le (h.pa i b hb).1 h.size)⟩
      · intro b hb; exact ⟨hb, hsame b (h.frz b hb).1⟩
  · intro b o hb
    obtain ⟨q1, q2⟩ := h.own b o hb
    exact ⟨Nat.lt_of_lt_of_le q1 he.size, q2⟩
  · intro b hb
    exact ⟨Nat.lt_of_lt_of_le (h.frz b hb).1 he.size, (h.frz b hb).2⟩
  · intro b hb hn
    rw [hsame b (Nat.lt_of_lt_of_le hb h.size)]
    exact h.old b hb hn
  · intro r hr
    obtain ⟨h1, h2⟩ := h.rng r hr
    exact ⟨h1.ext (hsame r.b h1.lt), h2⟩

theorem tm_put {d : Nat} {v : Value} (hd : d < 1000) (hsz : d < a.tmps.size) : tmO (a.put (some d) v).tmps g = fun s => if s = d then v else tmO a.tmps g s := by
  funext s
  simp only [tmO, Act.put]
  by_cases hs : s = d
  · subst hs
    simp [hd, Array.getD_eq_getD_getElem?, hsz]
  · rw [if_neg hs]
    split
    · simp only [Array.getD_eq_getD_getElem?, Array.getElem?_setIfInBounds]
      rw [if_neg (fun e => hs e.symm)]
    · rfl

/-- A copy is put down. -/
theorem St.putV (h : St A w μ φ tm C) {d : Nat} (hd : d < 1000) {x : X} {v : Value} {sm : SM} (hn : sm.noOwn = true) (hc : ClaimX w C φ tm d x v sm) :
    St A w (μ.put d sm) (upd φ d x) (fun s => if s = d then v else tm s) (C.drop d w.heap.size fun _ => none) := by
  refine h.put hd (Ext.refl w) _ (by simp) (by simp) (by simp) .none ?_ ?_
  · intro s hs
    have : s ≠ d := by rintro rfl; rw [hit_self] at hs; cases hs
    simp [this]
  · unfold Claim
    have hx : upd φ d x d = x := by simp [upd]
    rw [hx]
    simp only [if_true]
    have := ClaimX.keepG (w' := w) (C' := C.drop d w.heap.size fun _ => none) (φ' := upd φ d x) (tm' := fun s => if s = d then v else tm s) (s' := d) (hc.dropS (t := d)) idF
      (.inl (dropS_noOwn d hn)) (by intro ps ps' hf b hb; cases hf; exact ⟨Cx.drop_ok h hb, rfl⟩) (fun i b hb => ⟨hb, rfl⟩) (fun b hb => ⟨.inl hb, rfl⟩) ?_
    · rwa [smap_id] at this
    · refine refKeep_dropS idF sm ?_ ?_ (fun b o hb hh => Cx.drop_own hb (h.own b o hb).1 hh) ?_
      · intro s hs
        have : s ≠ d := by rintro rfl; rw [hit_self] at hs; cases hs
        simp [upd, this]
      · intro s hs
        have : s ≠ d := by rintro rfl; rw [hit_self] at hs; cases hs
        simp [this]
      · rintro b n rfl i hi hb
        exact cix_hit hc.2.1 hi hd hb

/-- Something new is put down. -/
theorem St.putN (h : St A w μ φ tm C) {d : Nat} (hd : d < 1000) (he : Ext w w') {x : X} {v : Value} {sm : SM} {N : Nat → Option Ow} (hN : NewOk w.heap.size w'.heap.size d N) (hNk : OwnOk w' N)
    (hc : ∀ C' φ' tm', (∀ b o, w.heap.size ≤ b → N b = some o → C'.own b = some o) → (∀ ps b, okB C ps b → okB C' ps b) → ClaimX w' C' φ' tm' d x v sm) :
    St A w' (μ.put d sm) (upd φ d x) (fun s => if s = d then v else tm s) (C.drop d w.heap.size N) := by
  refine h.put hd he N hN.lt (fun b o hb ho => by rw [hN.lab b o hb ho]; exact hit_self d) hN.inj hNk ?_ ?_
  · intro s hs
    have : s ≠ d := by rintro rfl; rw [hit_self] at hs; cases hs
    simp [this]
  · unfold Claim
    have hx : upd φ d x d = x := by simp [upd]
    rw [hx]
    simp only [if_true]
    exact (hc _ _ _ (fun b o hb ho => by simp [Cx.drop, hb, ho]) (fun ps b hb => Cx.drop_ok h hb)).dropS

theorem PureOk.st {d : Nat} {x : X} {sm : SM} (hp : PureOk V w C φ (tmO a.tmps g) a o x sm) (h : St A w μ φ (tmO a.tmps g) C) (hd : d < 1000) (hsz : d < a.tmps.size) :
    ∃ v w' C', (execOp a.eval o).run V.P w = .ok (.value v) w' ∧ Ext w w' ∧ St A w' (μ.put d sm) (upd φ d x) (tmO (a.put (some d) v).tmps g) C' := by
  rcases hp with ⟨v, h1, h2, h3⟩ | ⟨v, w', h1, h2, h3⟩
  · exact ⟨v, w, _, h1, Ext.refl w, by rw [tm_put hd hsz]; exact h.putV hd h2 (h3 d)⟩
  · obtain ⟨N, h4, h6, h5⟩ := h3 d
    exact ⟨v, w', _, h1, h2, by rw [tm_put hd hsz]; exact h.putN hd h2 h4 h6 h5⟩
end
end Go.Ev

/- What single operations do in Go: runs of the model. -/
namespace Go.Ev

theorem strRoom_le : (strRoom : Int) ≤ IntKind.i64.max := by decide

theorem if_some {α : Type} {c : Prop} [Decidable c] {a v : α} (h : (if c then some a else none) = some v) : c ∧ a = v := by
  split at h
  · rename_i hc; exact ⟨hc, Option.some.inj h⟩
  · cases h

theorem if_some' {α : Type} {c : Prop} [Decidable c] {a v : α} (h : (if c then none else some a) = some v) : ¬ c ∧ a = v := by
  split at h
  · cases h
  · rename_i hc; exact ⟨hc, Option.some.inj h⟩

theorem str_add {P : Program} {t : TypeId} {xo yo : Operand} {a b : ByteArray} {v : Value} {w : World} (h : (if a.size + b.size ≤ strRoom then some (Value.string (a ++ b)) else none) = some v) :
    (do eqGuard .add t xo yo (.string a) (.string b); binOp .add t (.string a) (.string b) : Sem Value).run P w = .ok v w := by
  obtain ⟨hk, rfl⟩ := if_some h
  have h1 := strRoom_le
  have h2 : ¬ (((a.size + b.size : Nat) : Int) > IntKind.i64.max) := by omega
  simp only [eqGuard, binOp, Op.stringOp, Sem.run_bind, if_neg h2]
  rfl

theorem bool_eq {P : Program} {t : TypeId} {a b : Bool} {w : World} (h : P.underlying t = some .bool) : (Op.equal t (.bool a) (.bool b)).run P w = .ok (a == b) w := by
  show (Op.equalIn (9999 + 1) t (.bool a) (.bool b)).run P w = _
  rw [Op.equalIn, Sem.run_bind, run_underlying h w]
  rfl

theorem nil_eq {P : Program} {t : TypeId} {ms : Array (String × TypeId)} {w : World} (h : P.underlying t = some (.interface ms)) : (Op.equal t .nilIface .nilIface).run P w = .ok true w := by
  show (Op.equalIn (9999 + 1) t .nilIface .nilIface).run P w = _
  rw [Op.equalIn, Sem.run_bind, run_underlying h w]
  rfl

theorem bin_run {op : BinOp} {P : Program} {t : TypeId} {xo yo : Operand} {x y v : Value} {w : World} (h : bin op x y = some v) :
    (do eqGuard op t xo yo x y; binOp op t x y : Sem Value).run P w = .ok v w := by
  unfold bin at h
  split at h
  all_goals first
    | (obtain ⟨hk, rfl⟩ := if_some h; subst hk; simp [eqGuard, binOp, Op.intArith, Op.intCmp, Op.intBits]; done)
    | (obtain ⟨⟨hk, hk2⟩, rfl⟩ := if_some h; subst hk; simp [eqGuard, binOp, Op.intDiv, hk2]; done)
    | (obtain ⟨hk, rfl⟩ := if_some' h; simp [eqGuard, binOp, Op.shift, hk]; done)
    | exact str_add h
    | (cases h; simp [eqGuard, binOp, Op.stringOp]; done)
    | (cases h; done)

section
variable {V : Env} {w : World}

theorem cell_of {b off : Nat} {arr : Array Value} {ty : TypeId} {fz : Nat × Nat} (h : w.heap[b]? = some (.cells arr ty fz)) : w.cell? ⟨b, off, none⟩ = arr[off]? := by
  simp [World.cell?, h]

theorem addr_add {b off n : Nat} : (⟨b, off, none⟩ : Addr).add n = ⟨b, off + n, none⟩ := by unfold Addr.add; split <;> simp_all

theorem load_agg {t : TypeId} {e : TE} {b off : Nat} {arr : Array Value} {ty : TypeId} {fz : Nat × Nat} (he : V.get t = some e) (ha : e.agg = true)
    (hb : w.heap[b]? = some (.cells arr ty fz)) (hs : off + e.size ≤ arr.size) :
    (loadVar t ⟨b, off, none⟩).run V.P w = .ok (.agg ((arr.toList.drop off).take e.size).toArray) w := by
  have hl : ((arr.toList.drop off).take e.size).length = e.size := by simp; omega
  have h1 : (loadCells ⟨b, off, none⟩ e.size).run V.P w = .ok ((arr.toList.drop off).take e.size).toArray w := by
    have := run_loadCells_list (P := V.P) w ⟨b, off, none⟩ ((arr.toList.drop off).take e.size) (fun j v hv => by
      rw [addr_add, cell_of hb]
      rw [List.getElem?_take] at hv
      split at hv
      · rw [List.getElem?_drop] at hv; simpa using hv
      · cases hv)
    rwa [hl] at this
  simp only [loadVar, Sem.run_bind, Env.agg_run he, ha, Result.andThen_ok, if_true, Env.size_run he, h1]
  rfl

theorem load_one {t : TypeId} {e : TE} {b off : Nat} {arr : Array Value} {ty : TypeId} {fz : Nat × Nat} {v : Value} (he : V.get t = some e) (ha : e.agg = false)
    (hb : w.heap[b]? = some (.cells arr ty fz)) (hv : arr[off]? = some v) : (loadVar t ⟨b, off, none⟩).run V.P w = .ok v w := by
  have hc : w.cell? ⟨b, off, none⟩ = some v := by rw [cell_of hb]; exact hv
  simp only [loadVar, Sem.run_bind, Env.agg_run he, ha, Result.andThen_ok]
  simp [run_load, hc]

theorem newVar_run {ty : TypeId} {v : Value} : (newVar ty v).run V.P w = .ok ⟨w.heap.size, 0, none⟩ (w.alloc (.cells v.cells ty)) := rfl

theorem field_run {s f off : Nat} {e : TE} {b o' : Nat} (he : V.get s = some e) (hf : e.flds[f]? = some off) :
    (Instr.fieldAt s (.pointer (some ⟨b, o', none⟩)) f).run V.P w = .ok (.pointer (some ⟨b, o' + off, none⟩)) w := by
  obtain ⟨d, hu, _, hfl, _⟩ := Env.desc he
  obtain ⟨fs, fl, rfl, h1, h2, i, hi, hne⟩ := hfl f off hf
  simp only [Instr.fieldAt, Sem.run_bind, run_underlying hu, Result.andThen_ok, h1, Instr.sureAddr, Sem.run_pure, fieldPlace, sizeOf, typeInfo, run_program, hi]
  simp [hne, h2, addr_add]

theorem index_run {t n x z y : Nat} {e : TE} {b o' len c : Nat} {k : IntKind} (he : V.get t = some e) (hel : e.el = some (x, z, y)) (hn : n < len) :
    (Instr.indexAt t (.slice (some ⟨b, o', none⟩) len c) (.int k n)).run V.P w = .ok (.pointer (some ⟨b, o' + n * z, none⟩)) w := by
  obtain ⟨d, hu, _, _, _, hsl, _⟩ := Env.desc he
  obtain ⟨rfl, i, hi, hz, _⟩ := hsl x z y hel
  simp [Instr.indexAt, Sem.run_bind, asIntOf, run_underlying hu, hn, sizeOf, typeInfo, hi, hz, addr_add]

theorem len_slice {t n c : Nat} {p : Option Addr} {e : TE} {x : Nat × Nat × Nat} {ty : TypeId} (he : V.get t = some e) (hel : e.el = some x) :
    (Builtin.len_ #[t] ty #[.slice p n c]).run V.P w = .ok (.int .i64 n) w := by
  obtain ⟨d, hu, _, _, _, hsl, _⟩ := Env.desc he
  obtain ⟨rfl, _⟩ := hsl x.1 x.2.1 x.2.2 hel
  simp [Builtin.len_, Sem.run_bind, run_underlying hu, goInt]

theorem places_some {P : Program} : ∀ (fs : List Field), (fs.all fun f => (P.info? f.type).any (·.size != 0)) = true → ∃ places, fs.mapM (fun f => (P.info? f.type).map fun i => (f.offset, i.size)) = some places
  | [], _ => ⟨[], rfl⟩
  | f :: fs, h => by
    simp only [List.all_cons, Bool.and_eq_true] at h
    obtain ⟨places, hp⟩ := places_some fs h.2
    cases hi : P.info? f.type with
    | none => rw [hi] at h; simp at h
    | some i => exact ⟨(f.offset, i.size) :: places, by simp [hi, hp]⟩

theorem built0 {t : Nat} {e : TE} (h : V.get t = some e) (ha : e.agg = true) (hr : e.ar.isNone = true) : ∃ v : Value, V.P.built t [] = some v.cells ∧ zeros e.zero v.cells.toList = true := by
  obtain ⟨i, v, hi, _, hz, hzs⟩ := Env.info h
  refine ⟨v, ?_, hzs⟩
  obtain ⟨rfl, hok⟩ := V.get_ok h
  unfold TE.ok at hok
  rw [Bool.and_eq_true] at hok
  have h1 := hok.2
  unfold Program.built
  split at h1
  · rename_i fs hu
    simp only [Bool.and_eq_true] at h1
    obtain ⟨⟨⟨⟨⟨_, _⟩, a3⟩, _⟩, _⟩, _⟩ := h1
    obtain ⟨places, hp⟩ := places_some fs.toList a3
    simp [hi, hu, hz, hp, Instr.fill]
  · simp only [Bool.and_eq_true, beq_iff_eq] at h1
    obtain ⟨⟨⟨⟨⟨_, a2⟩, _⟩, _⟩, _⟩, _⟩ := h1
    rw [a2] at hr; cases hr
  · rename_i x hu; simp [ha] at h1
  · simp [ha] at h1
  · cases h1

theorem exec_value {s : Sem Value} {v : Value} {w w' : World} (h : s.run V.P w = .ok v w') : (do pure (Next.value (← s)) : Sem Next).run V.P w = .ok (.value v) w' := by
  rw [Sem.run_bind, h]; rfl

end
end Go.Ev

/- Loads. -/
namespace Go.Ev

theorem modeIn_nil (m : M) : modeIn m [] = some m := by cases m <;> rfl

theorem modeIn_snoc' {m : M} {cs : List Nat} {k : Nat} {m' : M} (h : modeIn m (cs ++ [k]) = some m') : ∃ cols c, m = .own cols ∧ colsD cols cs = some c ∧ c[k]? = some m' := by
  cases m with
  | own cols =>
    rw [modeIn_snoc] at h
    split at h
    · rename_i c hc; exact ⟨cols, c, rfl, hc, h⟩
    · cases h
  | u => cases cs <;> simp [modeIn] at h
  | emp => cases cs <;> simp [modeIn] at h
  | view ps => cases cs <;> simp [modeIn] at h

theorem mat_snoc {μ : Mu} {s k : Nat} {cs : List Nat} {m : M} (h : μ.mat s (cs ++ [k]) = some m) : ∃ cols, nodeC (μ.get s) cs = some cols ∧ cols[k]? = some m := by
  unfold Mu.mat at h
  split at h
  · cases h
  · rename_i hne
    generalize μ.get s = x at *
    cases x with
    | c m0 o =>
      simp only [SM.at] at h
      obtain ⟨cols, c, rfl, h1, h2⟩ := modeIn_snoc' h
      exact ⟨c, h1, h2⟩
    | box ms =>
      cases cs with
      | nil =>
        simp only [List.nil_append, SM.at] at h
        split at h
        · rename_i m0 hm0; rw [modeIn_nil] at h; cases h; exact ⟨ms, rfl, hm0⟩
        · cases h
      | cons a r =>
        simp only [List.cons_append, SM.at] at h
        split at h
        · rename_i m0 hm0
          obtain ⟨cols, c, rfl, h1, h2⟩ := modeIn_snoc' h
          exact ⟨c, by simp only [nodeC, hm0]; exact h1, h2⟩
        · cases h
    | agg ms o => exact (hne ms o rfl).elim
    | _ => simp [SM.at] at h

theorem addc_snoc (l : List Nat) (c k : Nat) : addc (l ++ [c]) k = l ++ [c + k] := by
  induction l with
  | nil => rfl
  | cons a l ih =>
    cases l with
    | nil => rfl
    | cons b l => simp only [List.cons_append, addc] at ih ⊢; rw [ih]

theorem addLast_snoc (l : List (Nat × Nat)) (i c k : Nat) : addLast (l ++ [(i, c)]) k = l ++ [(i, c + k)] := by
  induction l with
  | nil => rfl
  | cons a l ih =>
    cases l with
    | nil => rfl
    | cons b l => simp only [List.cons_append, addLast] at ih ⊢; rw [ih]

theorem rowsD_snoc (st : List (Nat × Nat)) (i c : Nat) : ∀ (rows : List (List D)), rowsD rows (st ++ [(i, c)]) =
    match rowsD rows st with
    | some rs => match rs[i]? with
      | some row => match row[c]? with
        | some (.sl _ r) => some r
        | _ => none
      | none => none
    | none => none := by
  induction st with
  | nil =>
    intro rows
    simp only [List.nil_append, rowsD]
    all_goals cases rows[i]? with
    | none => rfl
    | some row =>
      simp only
      cases row[c]? with
      | none => rfl
      | some d => cases d <;> rfl
  | cons q st ih =>
    intro rows
    obtain ⟨a, b⟩ := q
    simp only [List.cons_append, rowsD]
    cases rows[a]? with
    | none => rfl
    | some row =>
      simp only
      cases row[b]? with
      | none => rfl
      | some d => cases d with
        | v x => rfl
        | sl z r => exact ih r

section
variable {V : Env} {A : Start} {w : World} {μ : Mu} {φ : Fr} {tm : Nat → Value} {C : Cx}

theorem St.node_at (h : St A w μ φ tm C) {s : Nat} {st : List (Nat × Nat)} {cols : List M} {rows rs : List (List D)} (hn : nodeC (μ.get s) (st.map (·.2)) = some cols)
    (hr : rowsX (φ s) = some rows) (hd : rowsD rows st = some rs) (hne : rs ≠ []) : ∃ b off cap z arr, Node w C ⟨s, st⟩ cols rs b off cap z arr := by
  have hu : φ s ≠ .u := by intro e; rw [e] at hr; cases hr
  have hc := (h.slot s).resolve_left hu
  unfold Claim at hc
  generalize μ.get s = sm at *
  have hrows : st ≠ [] → rows ≠ [] := by
    intro he h0
    subst h0
    cases st with
    | nil => exact he rfl
    | cons q r => obtain ⟨i, c⟩ := q; simp [rowsD] at hd
  cases sm with
  | box ms =>
    obtain ⟨ds, b, off, arr, e1, e2, e3⟩ := hc
    rw [e1] at hr
    simp only [rowsX, Option.some.injEq] at hr
    subst hr
    cases st with
    | nil =>
      simp only [rowsD, Option.some.injEq] at hd
      subst hd
      simp only [List.map_nil, nodeC, Option.some.injEq] at hn
      subst hn
      exact ⟨b, off, 0, 0, arr, e3⟩
    | cons q r =>
      obtain ⟨i, c⟩ := q
      have hcol : colsD ms (((i, c) :: r).map (·.2)) = some cols := by
        simp only [List.map_cons, nodeC] at hn ⊢
        simp only [colsD]
        exact hn
      have := Kids.node ((i, c) :: r) ⟨s, []⟩ ms [ds] _ rs cols e3.kids (by simp) hd hcol hne
      simpa [Pl.ext] using this
  | c m og =>
    obtain ⟨d, o, e1, e2, e3⟩ := hc
    rw [e1] at hr
    cases m with
    | own cols0 =>
      cases d with
      | v x => simp [rowsX] at hr
      | sl z rows0 =>
        simp only [rowsX, Option.some.injEq] at hr
        subst hr
        simp only [nodeC] at hn
        cases st with
        | nil =>
          simp only [rowsD, Option.some.injEq] at hd
          subst hd
          simp only [List.map_nil, colsD, Option.some.injEq] at hn
          subst hn
          obtain ⟨b, off, cap, arr, _, e4, _⟩ := e2.node hne
          exact ⟨b, off, cap, z, arr, e4⟩
        | cons q r =>
          obtain ⟨b, off, cap, arr, _, e4, _⟩ := e2.node (hrows (by simp))
          have := Kids.node (q :: r) ⟨s, []⟩ cols0 rows0 _ rs cols e4.kids (by simp) hd hn hne
          simpa [Pl.ext] using this
    | _ => simp [nodeC] at hn
  | _ => simp [nodeC] at hn

theorem cellsAt_snoc {p : Pl} {st : List (Nat × Nat)} {i c n : Nat} {ds : List D} (hp : p.st = st ++ [(i, c)]) (hc : cellsAt φ p n = some ds) :
    ∃ rows rs row, rowsX (φ p.s) = some rows ∧ rowsD rows st = some rs ∧ rs[i]? = some row ∧ c + n ≤ row.length ∧ ds = (row.drop c).take n := by
  unfold cellsAt at hc
  split at hc
  · rename_i rows hr
    rw [hp, cellsIn_snoc] at hc
    split at hc
    · rename_i rs hrs
      split at hc
      · rename_i row hrow
        split at hc
        · rename_i hle; cases hc; exact ⟨rows, rs, row, hr, hrs, hrow, hle, rfl⟩
        · cases hc
      · cases hc
    · cases hc
  · cases hc

theorem cellsAt_of {p : Pl} {st : List (Nat × Nat)} {i c n : Nat} {rows rs : List (List D)} {row : List D} (hp : p.st = st ++ [(i, c)]) (h1 : rowsX (φ p.s) = some rows) (h2 : rowsD rows st = some rs)
    (h3 : rs[i]? = some row) (h4 : c + n ≤ row.length) : cellsAt φ p n = some ((row.drop c).take n) := by
  unfold cellsAt
  rw [h1]
  simp only
  rw [hp, cellsIn_snoc, h2]
  simp only
  rw [h3]
  simp only
  rw [if_pos h4]

/-- The cells at a pointer, in memory. -/
theorem St.cells (h : St A w μ φ tm C) {p : Pl} {v : Value} {st : List (Nat × Nat)} {i c n : Nat} {ds : List D} {cols : List M} (hv : PtOk C p v) (hp : p.st = st ++ [(i, c)])
    (hn : nodeC (μ.get p.s) (st.map (·.2)) = some cols) (hc : cellsAt φ p n = some ds) :
    ∃ b off cap z arr ty rows rs row, v = .pointer (some ⟨b, off + i * z + c, none⟩) ∧ Node w C ⟨p.s, st⟩ cols rs b off cap z arr ∧ w.heap[b]? = some (.cells arr ty (0, 0)) ∧
      rowsX (φ p.s) = some rows ∧ rowsD rows st = some rs ∧ rs[i]? = some row ∧ c + n ≤ row.length ∧ ds = (row.drop c).take n ∧ off + i * z + c + n ≤ arr.size ∧
      ∀ (j : Nat) (d : D) (m : M), ds[j]? = some d → cols[c + j]? = some m → Rep w C ⟨p.s, st ++ [(i, c + j)]⟩ m d (arr.getD (off + i * z + c + j) undef) := by
  obtain ⟨rows, rs, row, h1, h2, h3, h4, h5⟩ := cellsAt_snoc hp hc
  have hne : rs ≠ [] := by intro e; rw [e] at h3; simp at h3
  obtain ⟨b, off, cap, z, arr, hnode⟩ := h.node_at hn h1 h2 hne
  obtain ⟨st', i', c', b', off', cap', z', q1, q2, q3⟩ := hv
  rw [hp] at q1
  obtain ⟨q4, q5⟩ := List.append_inj' q1 rfl
  cases q5
  subst q4
  have hb := h.inj _ _ _ _ hnode.own q2 rfl
  subst hb
  have ho := hnode.own.symm.trans q2
  cases ho
  obtain ⟨ty, hty⟩ := hnode.heap
  refine ⟨b, off, cap, z, arr, ty, rows, rs, row, q3, hnode, hty, h1, h2, h3, h4, h5, ?_, ?_⟩
  · have := hnode.size i row h3; omega
  · intro j d m hj hm
    rw [h5, List.getElem?_take] at hj
    split at hj
    · rw [List.getElem?_drop] at hj
      have := hnode.kids i (c + j) row d m h3 hj hm
      simpa [Pl.cell, Nat.add_assoc] using this
    · cases hj

theorem fit_flat {z : ZC} {d : D} (h : z.fit d = true) (hf : z.flat = true) : ∃ x, d = .v x ∧ x.scalar = true := by
  cases z <;> simp only [ZC.flat, Bool.false_eq_true] at hf
  all_goals
    cases d with
    | v x => cases x <;> simp_all [ZC.fit, Value.scalar]
    | sl z r => simp [ZC.fit] at h

theorem fits_len : ∀ {zs : List ZC} {ds : List D}, fits zs ds = true → zs.length = ds.length
  | [], [], _ => rfl
  | [], _ :: _, h => by simp [fits] at h
  | _ :: _, [], h => by simp [fits] at h
  | z :: zs, d :: ds, h => by simp only [fits, Bool.and_eq_true] at h; simp [fits_len h.2]

theorem fits_at : ∀ {zs : List ZC} {ds : List D} {j : Nat} {z : ZC} {d : D}, fits zs ds = true → zs[j]? = some z → ds[j]? = some d → z.fit d = true
  | [], ds, j, z, d, _, h, _ => by simp at h
  | _ :: _, [], j, z, d, _, _, h => by simp at h
  | z0 :: zs, d0 :: ds, j, z, d, h, h1, h2 => by
    simp only [fits, Bool.and_eq_true] at h
    cases j with
    | zero => simp only [List.getElem?_cons_zero, Option.some.injEq] at h1 h2; subst h1; subst h2; exact h.1
    | succ j => simp only [List.getElem?_cons_succ] at h1 h2; exact fits_at h.2 h1 h2

theorem flatM_r {z : ZC} {m : M} (h : (flatM z m).readable = true) : m.readable = true := by
  cases m <;> first | rfl | (cases h; done)

theorem flatM_u (z : ZC) : flatM z .u = .u := rfl
theorem flatM_flat {z : ZC} {m : M} (h : m.readable = true) (hz : z.flat = true) : flatM z m = .view [] := by
  cases m <;> first | (cases h; done) | (simp [flatM, hz])
theorem flatM_no {z : ZC} {m : M} (hz : z.flat = false) : flatM z m = m := by
  cases m <;> simp [flatM, hz]

theorem flat_rep {p p' : Pl} {z : ZC} {m m' : M} {d : D} {v : Value} (hz : z.fit d = true) (h : Rep w C p m d v) (hm : m'.readable = true → m.readable = true) (h' : Rep w C p' m' d v) : Rep w C p' (flatM z m') d v := by
  cases hr : m'.readable with
  | false =>
    cases m' with
    | u => exact .u
    | _ => cases hr
  | true =>
    cases hf : z.flat with
    | true =>
      rw [flatM_flat hr hf]
      obtain ⟨x, rfl, hx⟩ := fit_flat hz hf
      rw [rep_val h (hm hr)]
      exact .view (.v hx)
    | false => rw [flatM_no hf]; exact h'

theorem flat_readable {z : ZC} {m : M} (h : m.readable = true) : (flatM z m).readable = true := by
  cases hf : z.flat with
  | true => rw [flatM_flat h hf]; rfl
  | false => rw [flatM_no hf]; exact h

theorem rep_emp {p : Pl} {d : D} {v : Value} (h : Rep w C p .emp d v) : ∃ z, d = .sl z [] ∧ v = .slice none 0 0 := by
  cases h; exact ⟨_, rfl, rfl⟩

end
end Go.Ev

