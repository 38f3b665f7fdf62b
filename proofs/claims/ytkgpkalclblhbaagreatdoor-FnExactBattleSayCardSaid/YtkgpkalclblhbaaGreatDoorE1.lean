/-
  A pure interpreter of loaded code: values are lists and numbers, what is written is kept under keys.
-/
import Derived.Orders
import Derived.KernelRfl
namespace Go.Proofs.YtkgpkalclblhbaaGreatDoor.Eng
open Go
set_option linter.unusedVariables false

/-! ### Types and what they mean -/
inductive Ty where
  | int (k : IntKind)
  | bool
  | str
  | unit
  | sl (e : Ty)
  | pair (a b : Ty)
  | ap (i : Nat)
  | err
  deriving DecidableEq

structure Term where
  f0 : Int
  f1 : List Term
inductive Hydra where
  | mk (f0 : List Hydra)
def Hydra.f0 : Hydra → List Hydra
  | .mk l => l
structure Trade where
  f0 : List Int
  f1 : List Int
structure TwoInts where
  f0 : Int
  f1 : Int
structure Battle where
  f0 : List Int
  f1 : Int
  f2 : List Int
  f3 : List Int

def NT : Nat → Type
  | 0 => Term
  | 1 => Hydra
  | 2 => Trade
  | 3 => TwoInts
  | 4 => Battle
  | 5 => Int × Int × Int
  | _ => Unit
def unf : Nat → Ty
  | 0 => .pair (.int .i64) (.pair (.sl (.ap 0)) .unit)
  | 1 => .sl (.ap 1)
  | 2 => .pair (.sl (.int .i64)) (.pair (.sl (.int .i64)) .unit)
  | 3 => .pair (.int .i64) (.pair (.int .i64) .unit)
  | 4 => .pair (.sl (.int .i64)) (.pair (.int .i64) (.pair (.sl (.int .i64)) (.pair (.sl (.int .i64)) .unit)))
  | 5 => .pair (.int .i64) (.pair (.int .i64) (.pair (.int .i64) .unit))
  | _ => .unit
@[reducible] def Den : Ty → Type
  | .int _ => Int
  | .bool => Bool
  | .str => List UInt8
  | .unit => Unit
  | .sl e => List (Den e)
  | .pair a b => Den a × Den b
  | .ap i => NT i
  | .err => Bool
def un : (i : Nat) → NT i → Den (unf i)
  | 0, t => ((t.f0, t.f1, ()) : Int × List Term × Unit)
  | 1, t => (t.f0 : List Hydra)
  | 2, t => ((t.f0, t.f1, ()) : List Int × List Int × Unit)
  | 3, t => ((t.f0, t.f1, ()) : Int × Int × Unit)
  | 4, t => ((t.f0, t.f1, t.f2, t.f3, ()) : List Int × Int × List Int × List Int × Unit)
  | 5, (t : Int × Int × Int) => ((t.1, t.2.1, t.2.2, ()) : Int × Int × Int × Unit)
  | _ + 6, _ => ()
def fo : (i : Nat) → Den (unf i) → NT i
  | 0, (t : Int × List Term × Unit) => (⟨t.1, t.2.1⟩ : Term)
  | 1, (t : List Hydra) => Hydra.mk t
  | 2, (t : List Int × List Int × Unit) => (⟨t.1, t.2.1⟩ : Trade)
  | 3, (t : Int × Int × Unit) => (⟨t.1, t.2.1⟩ : TwoInts)
  | 4, (t : List Int × Int × List Int × List Int × Unit) => (⟨t.1, t.2.1, t.2.2.1, t.2.2.2.1⟩ : Battle)
  | 5, (t : Int × Int × Int × Unit) => ((t.1, t.2.1, t.2.2.1) : Int × Int × Int)
  | _ + 6, _ => ()
theorem un_fo : ∀ (i : Nat) (x : Den (unf i)), un i (fo i x) = x
  | 0, _ => rfl
  | 1, _ => rfl
  | 2, _ => rfl
  | 3, _ => rfl
  | 4, _ => rfl
  | 5, _ => rfl
  | _ + 6, _ => rfl
theorem fo_un : ∀ (i : Nat) (x : NT i), fo i (un i x) = x
  | 0, ⟨_, _⟩ => rfl
  | 1, .mk _ => rfl
  | 2, _ => rfl
  | 3, _ => rfl
  | 4, _ => rfl
  | 5, _ => rfl
  | _ + 6, _ => rfl
def zeroNT : (i : Nat) → NT i
  | 0 => (⟨0, []⟩ : Term)
  | 1 => Hydra.mk []
  | 2 => (⟨[], []⟩ : Trade)
  | 3 => (⟨0, 0⟩ : TwoInts)
  | 4 => (⟨[], 0, [], []⟩ : Battle)
  | 5 => ((0, 0, 0) : Int × Int × Int)
  | _ + 6 => ()
def zeroD : (t : Ty) → Den t
  | .int _ => (0 : Int)
  | .bool => false
  | .str => ([] : List UInt8)
  | .unit => ()
  | .sl _ => []
  | .pair a b => (zeroD a, zeroD b)
  | .ap i => zeroNT i
  | .err => true

/-- A type seen as its parts. -/
def under : Ty → Ty
  | .ap i => unf i
  | t => t
def unD : (t : Ty) → Den t → Den (under t)
  | .ap i, x => un i x
  | .int _, x => x
  | .bool, x => x
  | .str, x => x
  | .unit, x => x
  | .sl _, x => x
  | .pair _ _, x => x
  | .err, x => x
def foD : (t : Ty) → Den (under t) → Den t
  | .ap i, x => fo i x
  | .int _, x => x
  | .bool, x => x
  | .str, x => x
  | .unit, x => x
  | .sl _, x => x
  | .pair _ _, x => x
  | .err, x => x
/-- How many cells a value takes. -/
def szNT : Nat → Nat
  | 0 => 2
  | 1 => 1
  | 2 => 2
  | 3 => 2
  | 4 => 4
  | 5 => 3
  | _ => 0
def sz : Ty → Nat
  | .int _ => 1
  | .bool => 1
  | .str => 1
  | .unit => 0
  | .sl _ => 1
  | .pair a b => sz a + sz b
  | .ap i => szNT i
  | .err => 1
/-- No memory lies behind a value of this type. -/
def flat : Ty → Bool
  | .int _ => true
  | .bool => true
  | .str => true
  | .unit => true
  | .pair a b => flat a && flat b
  | .ap 3 => true
  | .ap 5 => true
  | .err => true
  | _ => false

structure PV where
  t : Ty
  x : Den t
/-- The same, seen as a type: also as a named type whose meaning it is, or the other way round. -/
def PV.to (p : PV) (t : Ty) : Option (Den t) :=
  if h : p.t = t then some (h ▸ p.x)
  else if h : p.t = under t then some (foD t (h ▸ p.x))
  else if h : under p.t = t then some (h ▸ unD p.t p.x)
  else none

/-- The parts of a record. -/
def fieldT : Ty → Nat → Option Ty
  | .pair a _, 0 => some a
  | .pair _ b, n + 1 => fieldT b n
  | _, _ => none
def fieldD : (t : Ty) → Den t → Nat → Option PV
  | .pair a _, x, 0 => some ⟨a, x.1⟩
  | .pair _ b, x, n + 1 => fieldD b x.2 n
  | _, _, _ => none
def setD : (t : Ty) → Den t → Nat → PV → Option (Den t)
  | .pair a b, x, 0, p => (p.to a).map fun y => ((y, x.2) : Den a × Den b)
  | .pair a b, x, n + 1, p => (setD b x.2 n p).map fun y => ((x.1, y) : Den a × Den b)
  | _, _, _, _ => none
/-- What lies at the end of a path, and what is there when it is written. -/
def pathD : (t : Ty) → Den t → List Nat → Option PV
  | t, x, [] => some ⟨t, x⟩
  | t, x, f :: fs => match fieldD (under t) (unD t x) f with
    | some p => pathD p.t p.x fs
    | none => none
def putD : (t : Ty) → Den t → List Nat → PV → Option (Den t)
  | t, _, [], p => p.to t
  | t, x, f :: fs, p => match fieldD (under t) (unD t x) f with
    | some q => match putD q.t q.x fs p with
      | some y => (setD (under t) (unD t x) f ⟨q.t, y⟩).map (foD t)
      | none => none
    | none => none

/-! ### States -/
inductive Slot where
  | dead
  | und
  | lit (b : Bool)
  | val (tn : Bool) (t : Ty) (x : Den t)
  | nil (e : Ty)
  | nnv (tn : Bool) (e : Ty) (x : List (Den e))
  | clip (tn : Bool) (e : Ty) (x : List (Den e))
  | ref (k : Nat)
  | vw (k : Nat) (lo hi : Nat)
  | ptr (k : Nat) (path : List Nat)
  | eptr (k : Nat) (i : Nat) (path : List Nat)
  | sptr (tn : Bool) (t : Ty) (x : Den t)
  | tup (l : List Slot)
  | agg (t : Ty) (l : List Slot)
  | nw (x : List Int)
/-- What lies under a key: a row that its holder may write; one that nobody writes any more; a variable with an address. -/
inductive Ob where
  | none
  | gone
  | sl (tn nx : Bool) (e : Ty) (x : List (Den e))
  | pubd (tn nx : Bool) (e : Ty) (x : List (Den e))
  | box (tn : Bool) (t : Ty) (x : Den t)
  | io (tn : Bool) (e : Ty) (x : List (Den e))
  | bx (t : Ty) (l : List Slot)
  | dp (e : Ty) (x : List (Den e))
  | mp (t : Ty) (x : List ((Int × Int × Int) × Den t))
  | sd (x : List (List Int))
structure St where
  sl : List Slot
  ob : List Ob
structure V where
  z : Slot
  b : Ob
  bs : List Ob

/-- How a result is handed back: as a row that may be written; with parts of what came in; nil exactly if it is empty; as a pointer to a variable made here. -/
structure RM where
  own : Bool
  tn : Bool
  nx : Bool := false
  bx : Bool := false
  dp : Bool := false
inductive LK where
  | val (tn : Bool)
  | own (tn : Bool)
  | ptr
  | agg (t : Ty) (l : List LK)
  | bx (t : Ty) (l : List LK)
  | dp
  | sd
inductive PM where
  | ln
  | ptr
  | mv
  | io
  | dio
  deriving DecidableEq
/-- What comes in by its address and is handed back changed. -/
def PM.pinned : PM → Bool
  | .ptr => true
  | .io => true
  | .dio => true
  | _ => false
/-- What comes in by its address and has a key of its own. -/
def PM.boxed : PM → Bool
  | .ptr => true
  | .io => true
  | _ => false
structure FnT where
  code : Code
  ntmps : Nat
  res : List ResultVar
  pars : List (Ty × PM)
  outs : List (Ty × RM)
  live : List (Nat × List (Nat × LK))
  own : List Nat
  rg : List (Option Ty)
  pg : List (Option Ty)
/-- The first key of what came in; how many keys there are. -/
def FnT.kb (f : FnT) : Nat := 4 * f.ntmps
def FnT.nk (f : FnT) : Nat := 4 * f.ntmps + f.pars.length

def DenR : List Ty → Type
  | [] => Unit
  | [t] => Den t
  | t :: u :: ts => Den t × DenR (u :: ts)
def spread : (ts : List Ty) → DenR ts → List PV
  | [], _ => []
  | [t], x => [⟨t, x⟩]
  | t :: u :: ts, x => ⟨t, x.1⟩ :: spread (u :: ts) x.2
def gather : (ts : List Ty) → List PV → Option (DenR ts)
  | [], [] => some ()
  | [t], [p] => p.to t
  | t :: u :: ts, p :: ps => match p.to t, gather (u :: ts) ps with
    | some y, some ys => some ((y, ys) : Den t × DenR (u :: ts))
    | _, _ => none
  | _, _ => none
def FnT.outTys (f : FnT) : List Ty := f.outs.map (·.1) ++ (f.pars.filter (·.2.pinned)).map (·.1)
/-- 'q': what holds of the world at each call: of variables that are only read; 'mp': a map's elements, its keys being three numbers; 'eq': records of two numbers that are held against each other. -/
structure Tab where
  ty : Nat → Option Ty
  fn : Nat → Option FnT
  q : World → Prop := fun _ => True
  mp : Nat → Option Ty := fun _ => none
  eq : Nat → Bool := fun _ => false
def Tab.outTys (T : Tab) (g : Nat) : List Ty := match T.fn g with
  | some f => f.outTys
  | none => []
abbrev Tab.R (T : Tab) (g : Nat) : Type := DenR (T.outTys g)
/-- What is said of a function by itself, its text left aside. -/
abbrev Ext (T : Tab) := (g : Nat) → Option (List PV → Option (T.R g))

def isAggT : Ty → Bool
  | .pair _ _ => true
  | .unit => true
  | .ap 1 => false
  | .ap _ => true
  | _ => false
def mkVal (tn : Bool) (t : Ty) (x : Den t) : Slot := .val (tn && !flat t) t x
def lim : Nat := 1099511627776

/-! ### What a slot reads as -/
def constSlot (t : Option Ty) : Value → Slot
  | .bool b => .lit b
  | .int k n => .val false (.int k) n
  | .string s => .val false .str s.data.toList
  | .nilIface => .val false .err true
  | .slice Option.none 0 0 => match t with
    | some (.sl e) => .nil e
    | some (.ap 1) => .nil (.ap 1)
    | _ => .dead
  | _ => .dead
def rd (s : St) (t : Option Ty) : Operand → Slot
  | .tmp i => s.sl.getD i .dead
  | .const v => constSlot t v
  | _ => .dead
def keyOf : Slot → Option Nat
  | .ref k => some k
  | .vw k _ _ => some k
  | .ptr k _ => some k
  | .eptr k _ _ => some k
  | _ => none
/-- All keys of a slot: a record's are those of its parts. -/
def keysOf : Slot → List Nat
  | .agg _ l => l.filterMap keyOf
  | z => (keyOf z).toList
def obOf (s : St) (z : Slot) : Ob := match keyOf z with
  | some k => s.ob.getD k .none
  | none => .none
def obsOf (s : St) : Slot → List Ob
  | .agg _ l => l.map (obOf s)
  | _ => []
def viewZ (s : St) (z : Slot) : V := ⟨z, obOf s z, obsOf s z⟩
def view (s : St) (o : Option Ty × Operand) : V := viewZ s (rd s o.1 o.2)
def obRow : Ob → Option (Bool × Bool × ((e : Ty) × List (Den e)))
  | .sl tn nx e x => some (tn, nx, ⟨e, x⟩)
  | .pubd tn nx e x => some (tn, nx, ⟨e, x⟩)
  | _ => none
def data1 (z : Slot) (b : Ob) : Option (Bool × PV) := match z with
  | .lit b => some (false, ⟨.bool, b⟩)
  | .val tn t x => some (tn, ⟨t, x⟩)
  | .nil e => some (false, ⟨.sl e, ([] : List (Den e))⟩)
  | .nw x => some (false, ⟨.sl (.int .i64), (x : List Int)⟩)
  | .nnv tn e x => some (tn, ⟨.sl e, x⟩)
  | .clip tn e x => some (tn, ⟨.sl e, x⟩)
  | .ref _ => match b with
    | .sl tn _ e x => some (tn, ⟨.sl e, x⟩)
    | .pubd tn _ e x => some (tn, ⟨.sl e, x⟩)
    | _ => none
  | .vw _ lo hi => match b with
    | .sl tn _ e x => some (tn, ⟨.sl e, (x.take hi).drop lo⟩)
    | .pubd tn _ e x => some (tn, ⟨.sl e, (x.take hi).drop lo⟩)
    | _ => none
  | _ => none
/-- A record's parts as data. -/
def aggF : (t : Ty) → List Slot → List Ob → Option (Bool × Den t)
  | .pair a b, z :: zs, o :: os => match data1 z o, aggF b zs os with
    | some (tn, p), some (tn', y) => match p.to a with
      | some x => if sz a = 1 ∧ isAggT a = false then some (tn || tn', ((x, y) : Den a × Den b)) else none
      | none => none
    | _, _ => none
  | .unit, [], [] => some (false, ())
  | _, _, _ => none
def dataV (v : V) : Option (Bool × PV) := match v.z with
  | .agg t l => match aggF (under t) l v.bs with
    | some (tn, y) => if isAggT t = true then some (tn, ⟨t, foD t y⟩) else none
    | none => none
  | z => data1 z v.b
/-- Whether it may be written yet. -/
def own1 (z : Slot) (b : Ob) : Bool := match z, b with
  | .ref _, .sl _ _ _ _ => true
  | .vw _ _ _, .sl _ _ _ _ => true
  | _, _ => false
def ownL : List Slot → List Ob → Bool
  | z :: zs, o :: os => own1 z o || ownL zs os
  | _, _ => false
def isOwn (v : V) : Bool := match v.z with
  | .agg _ l => ownL l v.bs
  | z => own1 z v.b
def shV (v : V) : Option (Bool × PV) := if isOwn v then none else dataV v
/-- It is never written from here on. -/
def pub1 (z : Slot) (b : Ob) : List (Nat × Ob) := match z, b with
  | .ref k, .sl tn nx e x => [(k, .pubd tn nx e x)]
  | .vw k _ _, .sl tn nx e x => [(k, .pubd tn nx e x)]
  | _, _ => []
def pubL : List Slot → List Ob → List (Nat × Ob)
  | z :: zs, o :: os => pub1 z o ++ pubL zs os
  | _, _ => []
def pubM (v : V) : List (Nat × Ob) := match v.z with
  | .agg _ l => pubL l v.bs
  | z => pub1 z v.b

/-! ### Numbers and texts -/
def arith (op : BinOp) (k : IntKind) (a b : Int) : Option (Bool × PV) := match op with
  | .add => some (true, ⟨.int k, k.wrap (a + b)⟩)
  | .sub => some (true, ⟨.int k, k.wrap (a - b)⟩)
  | .mul => some (true, ⟨.int k, k.wrap (a * b)⟩)
  | .quo => some (!decide (b = 0), ⟨.int k, k.wrap (a.tdiv b)⟩)
  | .rem => some (!decide (b = 0), ⟨.int k, a.tmod b⟩)
  | .and => some (true, ⟨.int k, k.wrap ((BitVec.ofInt k.bits a) &&& (BitVec.ofInt k.bits b)).toNat⟩)
  | .or => some (true, ⟨.int k, k.wrap ((BitVec.ofInt k.bits a) ||| (BitVec.ofInt k.bits b)).toNat⟩)
  | .xor => some (true, ⟨.int k, k.wrap ((BitVec.ofInt k.bits a) ^^^ (BitVec.ofInt k.bits b)).toNat⟩)
  | .andNot => some (true, ⟨.int k, k.wrap ((BitVec.ofInt k.bits a) &&& ~~~(BitVec.ofInt k.bits b)).toNat⟩)
  | .eql => some (true, ⟨.bool, decide (a = b)⟩)
  | .neq => some (true, ⟨.bool, !decide (a = b)⟩)
  | .lss => some (true, ⟨.bool, decide (a < b)⟩)
  | .leq => some (true, ⟨.bool, decide (a ≤ b)⟩)
  | .gtr => some (true, ⟨.bool, decide (a > b)⟩)
  | .geq => some (true, ⟨.bool, decide (a ≥ b)⟩)
  | _ => none
def shiftD (op : BinOp) (k : IntKind) (a b : Int) : Option (Bool × PV) := match op with
  | .shl => some (decide (0 ≤ b), ⟨.int k, k.wrap (a * 2 ^ (min b.toNat k.bits))⟩)
  | .shr => some (decide (0 ≤ b), ⟨.int k, a.fdiv (2 ^ (min b.toNat k.bits))⟩)
  | _ => none
def isShift : BinOp → Bool
  | .shl => true
  | .shr => true
  | _ => false
def strD (op : BinOp) (a b : List UInt8) : Option (Bool × PV) := match op with
  | .eql => some (true, ⟨.bool, decide (a = b)⟩)
  | .neq => some (true, ⟨.bool, !decide (a = b)⟩)
  | .add => some (decide (a.length + b.length < lim), ⟨.str, (a ++ b : List UInt8)⟩)
  | _ => none
def binD (op : BinOp) (p q : PV) : Option (Bool × PV) := match p, q with
  | ⟨.int k, a⟩, ⟨.int j, b⟩ => if isShift op then shiftD op k a b else if k = j then arith op k a b else none
  | ⟨.str, a⟩, ⟨.str, b⟩ => strD op a b
  | ⟨.bool, a⟩, ⟨.bool, b⟩ => match op with
    | .eql => some (true, ⟨.bool, a == b⟩)
    | .neq => some (true, ⟨.bool, !(a == b)⟩)
    | _ => none
  | _, _ => none
def unopD (op : UnOp) (p : PV) : Option PV := match op, p with
  | .not, ⟨.bool, b⟩ => some ⟨.bool, !b⟩
  | .neg, ⟨.int k, n⟩ => some ⟨.int k, k.wrap (0 - n)⟩
  | _, _ => none
/-- Records whose parts take one cell each. -/
def ones : Ty → Bool
  | .pair a b => sz a == 1 && !isAggT a && ones b
  | .unit => true
  | _ => false
def fieldsOf (tn : Bool) : (t : Ty) → Den t → List Slot
  | .pair a b, x => mkVal tn a x.1 :: fieldsOf tn b x.2
  | _, _ => []
def zeroF : Ty → List Slot
  | .pair (.sl e) b => .nil e :: zeroF b
  | .pair a b => .val false a (zeroD a) :: zeroF b
  | _ => []
/-- A record, taken apart. -/
def toAgg : Slot → Option (Ty × List Slot)
  | .agg t l => some (t, l)
  | .val tn t x => if isAggT t && ones (under t) then some (t, fieldsOf tn (under t) (unD t x)) else none
  | _ => none
/-- What may be a record's part. -/
def fldOk (v : V) : Option Slot := match v.z, v.b with
  | .val tn u x, _ => if sz u = 1 ∧ isAggT u = false then some (.val tn u x) else none
  | .nil e, _ => some (.nil e)
  | .ref k, .sl _ _ _ _ => some (.ref k)
  | .ref k, .pubd _ _ _ _ => some (.ref k)
  | _, _ => none
def setFields : List Slot → List Nat → List V → Option (List Slot)
  | l, [], [] => some l
  | l, i :: is, v :: vs => match fldOk v with
    | some z => if i < l.length then setFields (l.set i z) is vs else none
    | none => none
  | _, _, _ => none
/-- Held against nil: known of what is not empty, and of what is nil exactly if it is empty. -/
def nilCmp (v : V) : Option (Bool × Bool) := match v.z with
  | .nil _ => some (true, true)
  | .nnv _ _ _ => some (true, false)
  | .ref _ => match obRow v.b with
    | some (_, nx, ⟨_, x⟩) => if nx then some (true, x.isEmpty) else some (!x.isEmpty, false)
    | _ => none
  | .val _ (.sl _) x => some (!x.isEmpty, false)
  | _ => none

section ops
variable (T : Tab)
/-! ### One operation: what it looks at, and what it leaves -/
def opnds (o : Oper) : List (Option Ty × Operand) := match o.op with
  | .move x => [(T.ty o.type, x)]
  | .assign x => [(T.ty o.type, x)]
  | .pick c a b => [(none, c), (T.ty o.type, a), (T.ty o.type, b)]
  | .alloc _ => []
  | .box t x => [(T.ty t, x)]
  | .build t parts => match T.ty t with
    | some u => parts.toList.map fun (i, x) => (fieldT (under u) i, x)
    | none => []
  | .buildSlice t _ parts => match T.ty t with
    | some (.sl e) => parts.toList.map fun (_, x) => (some e, x)
    | _ => []
  | .load _ p => [(none, p)]
  | .store t p x => [(none, p), (T.ty t, x)]
  | .nilCheck x => [(none, x)]
  | .binOp _ t x y _ => [(T.ty t, x), (T.ty t, y)]
  | .unOp _ t x => [(T.ty t, x)]
  | .convert t _ x => [(T.ty t, x)]
  | .makeSlice _ l c => [(none, l), (none, c)]
  | .slice t x lo hi mx => (T.ty t, x) :: (lo.toList ++ hi.toList ++ mx.toList).map fun y => (none, y)
  | .fieldAddr _ p _ => [(none, p)]
  | .field t x _ => [(T.ty t, x)]
  | .indexAddr t x i => [(T.ty t, x), (none, i)]
  | .index t x i => [(T.ty t, x), (none, i)]
  | .extract x _ => [(none, x)]
  | .sliceToArrayPointer _ x => [(none, x)]
  | .makeMap _ none => []
  | .lookup _ m k false => [(none, m), (none, k)]
  | .insert t m k x => [(none, m), (none, k), (T.mp t, x)]
  | .mapUpdate t m k x => [(none, m), (none, k), (T.mp t, x)]
  | .call c => c.args.toList.zipIdx.map fun (x, i) => ((c.argTypes[i]?).bind T.ty, x)
  | _ => []
/-- It only hands on what it gets. -/
def blind : Op → Bool
  | .move _ => true
  | .assign _ => true
  | .pick _ _ _ => true
  | .extract _ _ => true
  | _ => false
abbrev Out := Bool × Slot × List (Nat × Ob)
def pureO (c : Bool) (tn : Bool) (p : PV) : Option Out := some (c, mkVal tn p.t p.x, [])
/-- A row that has just been made: under a key of its own, or never written again. -/
def newRow (own : List Nat) (d : Option Nat) (fr : Ob) (c : Bool) (tn nx : Bool) (e : Ty) (x : List (Den e)) (m : List (Nat × Ob)) : Option Out := match d with
  | none => none
  | some d => if own.contains d then match fr with
      | .none => some (c, .ref (4 * d), (4 * d, .sl (tn && !flat e) nx e x) :: m)
      | _ => none
    else some (c, .val (tn && !flat e) (.sl e) x, m)
def fillD (t : Ty) (x : Den t) (tn : Bool) : List Nat → List V → Option (Bool × Den t)
  | [], [] => some (tn, x)
  | i :: r, v :: vs => match fieldT t i, dataV v with
    | some u, some (b, p) => match p.to u with
      | some y => match setD t x i ⟨u, y⟩ with
        | some x' => fillD t x' (tn || b) r vs
        | none => none
      | none => none
    | _, _ => none
  | _, _ => none
def rowD (e : Ty) (tn : Bool) : List V → Option (Bool × List (Den e))
  | [] => some (tn, [])
  | v :: vs => match dataV v with
    | some (b, p) => match p.to e, rowD e (tn || b) vs with
      | some y, some (c, ys) => some (c, y :: ys)
      | _, _ => none
    | none => none
def inOrder : Nat → List (Nat × Operand) → Bool
  | _, [] => true
  | n, (i, _) :: r => i == n && inOrder (n + 1) r
def intV (v : V) : Option Int := match dataV v with
  | some (_, ⟨.int _, n⟩) => some n
  | _ => none
def optInt (b : Bool) (v : Option V) : Option (Option Int) := if b then match v with
  | some v => (intV v).map some
  | none => none
  else some none
/-- A record, not a row that has a name. -/
def isRec : Ty → Bool
  | .pair _ _ => true
  | .ap 1 => false
  | .ap 5 => false
  | .ap _ => true
  | _ => false
/-- It takes no cell. -/
def sz0 (t : Ty) : Bool := sz t == 0
def noDup : List Nat → Bool
  | [] => true
  | k :: r => !r.contains k && noDup r
def disj (a b : List Nat) : Bool := a.all fun k => !b.contains k
def fieldOkT (t : Ty) (f : Nat) : Bool := match fieldT (under t) f with
  | some u => !sz0 u
  | none => false
/-- The type at a path's end. -/
def pathT : Ty → List Nat → Option Ty
  | t, [] => some t
  | t, f :: fs => match fieldT (under t) f with
    | some u => pathT u fs
    | none => none
def obShapeT : Ob → Option Ty
  | .sl _ _ e _ => some e
  | .pubd _ _ e _ => some e
  | .io _ e _ => some e
  | _ => none
def toTy (T : Tab) (tid : Nat) (tn : Bool) (p : PV) : Option Out := match T.ty tid with
  | some t => match p.to t with
    | some y => pureO true tn ⟨t, y⟩
    | none => none
  | none => none

/-- The type's places, where it is a row's. -/
def rowT (T : Tab) (tid : Nat) : Option Ty := match T.ty tid with
  | some (.sl e) => some e
  | _ => none
/-- A row that came in to be written. -/
def ioRow (v : V) : Option ((e : Ty) × List (Den e)) := match v.z, v.b with
  | .ref _, .io _ e x => some ⟨e, x⟩
  | .ref _, .dp e x => some ⟨e, x⟩
  | .ref _, .sd x => some ⟨.sl (.int .i64), (x : List (List Int))⟩
  | _, _ => none
/-- A place that is a row of its own, or a record of such rows: what it holds, and its keys. -/
def elemOwn (v : V) : Option (PV × List Nat) := match v.z, v.b, v.bs with
  | .ref k, .sl _ _ e x, _ => if flat e = true then some (⟨.sl e, x⟩, [k]) else none
  | .agg (.ap 2) [.ref k0, .ref k1], _, [.sl _ _ (.int .i64) x0, .sl _ _ (.int .i64) x1] => if k0 = k1 then none else some (⟨.ap 2, (⟨x0, x1⟩ : Trade)⟩, [k0, k1])
  | _, _, _ => none
def PV.is (p : PV) (t : Ty) : Option (Den t) := if h : p.t = t then some (h ▸ p.x) else none
def deepD (own : List Nat) (d : Option Nat) : Bool := match d with
  | some d => own.contains (d + 1000000)
  | none => false
/-- A new row of rows of its own. -/
def newDeep (d : Option Nat) (fr : Ob) (c : Bool) (e : Ty) (x : List (Den e)) (m : List (Nat × Ob)) : Option Out := match d, fr with
  | some d, .none => some (c, .ref (4 * d), (4 * d, .dp e x) :: m)
  | _, _ => none
/-- A new row of rows that nobody writes any more, each of them made here and told from the others. -/
def newSd (d : Option Nat) (fr : Ob) (c : Bool) (x : List (List Int)) (m : List (Nat × Ob)) : Option Out := match d, fr with
  | some d, .none => some (c, .ref (4 * d), (4 * d, .sd x) :: m)
  | _, _ => none
def dpBuild (o : Oper) (fr : Ob) (e : Ty) : List V → Option Out
  | [] => newDeep o.dst fr true e [] []
  | [v] => match v.z with
    | .nw x => match e with
      | .sl (.int .i64) => newSd o.dst fr true [x] []
      | _ => none
    | _ => match elemOwn v with
      | some (p, ks) => match p.is e with
        | some y => newDeep o.dst fr true e [y] (ks.map fun k => (k, Ob.gone))
        | none => none
      | none => none
  | _ => none
/-- A row of rows seen as one whose rows nobody writes any more. -/
def obSd : Ob → Option (List (List Int))
  | .sd x => some x
  | .dp (.sl (.int .i64)) x => some x
  | _ => none
def apartR (xs ys : List (List Int)) : Bool := ys.all fun y => xs.all fun x => !(x == y)
def sdAppend (T : Tab) (o : Oper) (ts : Array TypeId) (a b : V) (fr : Ob) (xs : List (List Int)) : Option Out := match ts[0]?, a.z, b.z, obSd b.b with
  | some t, .ref k, .ref k', some ys => if rowT T t = some (.sl (.int .i64)) ∧ ts = #[t, t] ∧ k ≠ k' then
      newSd o.dst fr (decide (xs.length + ys.length < lim) && apartR xs ys) (xs ++ ys) ([k, k'].map fun k => (k, Ob.gone)) else none
  | _, _, _, _ => none
def sdLoad (T : Tab) (tid : TypeId) (i : Nat) (xs : List (List Int)) (m : List (Nat × Ob)) : Option Out := if T.ty tid = some (.sl (.int .i64)) then some (true, .nw (xs.getD i []), m) else none
def dpAppend (T : Tab) (o : Oper) (ts : Array TypeId) (a b : V) (fr : Ob) (e : Ty) (xs : List (Den e)) : Option Out := match ts[0]?, a.z, b.z, b.b with
  | some t, .ref k, .ref k', .dp e' ys => if h : e' = e then (if rowT T t = some e ∧ ts = #[t, t] ∧ k ≠ k' then
      newDeep o.dst fr (decide (xs.length + ys.length < lim)) e (xs ++ (h ▸ ys : List (Den e))) ([k, k'].map fun k => (k, Ob.gone)) else none) else none
  | _, _, _, _ => none
def dpStore (T : Tab) (tid : TypeId) (v a : V) (e : Ty) (xs : List (Den e)) : Option Out := match v.z, elemOwn a with
  | .eptr k i [], some (p, ks) => match p.is e with
    | some y => if T.ty tid = some e ∧ ks.contains k = false then some (decide (i < xs.length), .und, (k, .dp e (xs.set i y)) :: ks.map fun k => (k, Ob.gone)) else none
    | none => none
  | _, _ => none
def ownD (own : List Nat) (d : Option Nat) : Bool := match d with
  | some d => own.contains d
  | none => false
def aggBuild (t : Ty) (is : List Nat) (vs : List V) : Option Out := if isAggT t = true ∧ ones (under t) = true then match setFields (zeroF (under t)) is vs with
    | some l => some (true, .agg t l, [])
    | none => none
  else none
def aggField (T : Tab) (tid : TypeId) (f : Nat) (t : Ty) (l : List Slot) : Option Out := match l[f]? with
  | some z => if T.ty tid = some t ∧ isRec t = true ∧ ones (under t) = true ∧ (fieldT (under t) f).isSome = true then some (true, z, []) else none
  | none => none
def bxAlloc (t : Ty) (d : Nat) : Option Out := if isAggT t = true ∧ ones (under t) = true then some (true, .ptr (4 * d) [], [(4 * d, .bx t (zeroF (under t)))]) else none
def bxBox (T : Tab) (tid : TypeId) (d : Option Nat) (a : V) (fr : Ob) : Option Out := match T.ty tid, d, toAgg a.z, fr with
  | some t, some d, some (t', l), .none => if t' = t ∧ l.length = sz t then some (true, .ptr (4 * d) [], [(4 * d, .bx t l)]) else none
  | _, _, _, _ => none
def bxLoad (T : Tab) (tid : TypeId) (path : List Nat) (t : Ty) (l : List Slot) : Option Out := match path with
  | [] => if T.ty tid = some t ∧ isAggT t = true ∧ isRec t = true then some (true, .agg t l, []) else none
  | [f] => match T.ty tid, l[f]? with
    | some u, some z => if sz u = 1 ∧ isAggT u = false ∧ ones (under t) = true ∧ (fieldT (under t) f).isSome = true then some (true, z, []) else none
    | _, _ => none
  | _ => none
def bxStore (T : Tab) (tid : TypeId) (v a : V) (t : Ty) (l : List Slot) : Option Out := match v.z with
  | .ptr k [] => match toAgg a.z with
    | some (t', l') => if T.ty tid = some t ∧ t' = t ∧ l'.length = sz t then some (true, .und, [(k, .bx t l')]) else none
    | none => none
  | .ptr k [f] => match T.ty tid, fldOk a with
    | some u, some z => if sz u = 1 ∧ ones (under t) = true ∧ (fieldT (under t) f).isSome = true then some (true, .und, [(k, .bx t (l.set f z))]) else none
    | _, _ => none
  | _ => none
def isK : Operand → Bool
  | .const _ => true
  | _ => false
def errCmp (op : BinOp) (p : Bool) : Option Out := match op with
  | .eql => pureO true false ⟨.bool, p⟩
  | .neq => pureO true false ⟨.bool, !p⟩
  | _ => none
def twoCmp (op : BinOp) (p r : TwoInts) : Option Out := match op with
  | .eql => pureO true false ⟨.bool, decide (p.f0 = r.f0) && decide (p.f1 = r.f1)⟩
  | .neq => pureO true false ⟨.bool, !(decide (p.f0 = r.f0) && decide (p.f1 = r.f1))⟩
  | _ => none
/-- One cell that leads nowhere. -/
def scalar : Ty → Bool
  | .int _ => true
  | .bool => true
  | _ => false
def mpGet (t : Ty) (k : Int × Int × Int) : List ((Int × Int × Int) × Den t) → Den t
  | [] => zeroD t
  | e :: r => if k = e.1 then e.2 else mpGet t k r
def mpSet (t : Ty) (k : Int × Int × Int) (y : Den t) : List ((Int × Int × Int) × Den t) → List ((Int × Int × Int) × Den t)
  | [] => [(k, y)]
  | e :: r => if k = e.1 then (k, y) :: r else e :: mpSet t k y r
def mpKey (v : V) : Option (Int × Int × Int) := match dataV v with
  | some (_, ⟨.ap 5, k⟩) => some k
  | _ => none
def mpMake (T : Tab) (tid : TypeId) (d : Option Nat) (fr : Ob) : Option Out := match T.mp tid, d, fr with
  | some t, some d, .none => some (true, .ref (4 * d), [(4 * d, .mp t [])])
  | _, _, _ => none
def mpLook (T : Tab) (tid : TypeId) (m k : V) : Option Out := match m.z, m.b, mpKey k with
  | .ref _, .mp t x, some j => if T.mp tid = some t ∧ scalar t = true then pureO true false ⟨t, mpGet t j x⟩ else none
  | _, _, _ => none
def mpPut (T : Tab) (tid : TypeId) (m k a : V) : Option Out := match m.z, m.b, mpKey k, dataV a with
  | .ref n, .mp t x, some j, some (_, p) => match p.is t with
    | some y => if T.mp tid = some t ∧ scalar t = true then some (true, .und, [(n, .mp t (mpSet t j y x))]) else none
    | none => none
  | _, _, _, _ => none
def arrPtr (T : Tab) (tid : TypeId) (v : V) : Option Out := match shV v with
  | some (tn, ⟨.sl (.int .i64), xs⟩) => if T.ty tid = some (.ap 5) then some (decide (3 ≤ xs.length), .sptr tn (.ap 5) ((xs.getD 0 0, xs.getD 1 0, xs.getD 2 0) : Int × Int × Int), []) else none
  | _ => none
def opC (own : List Nat) (o : Oper) (vs : List V) (fr : Ob) : Option Out :=
  match o.op, vs with
  | .move _, [v] => some (true, v.z, [])
  | .assign _, [v] => some (true, v.z, [])
  | .pick _ _ _, [c, a, b] => match c.z with
    | .lit true => some (true, a.z, [])
    | .lit false => some (true, b.z, [])
    | _ => none
  | .binOp op xt _ yo _, [a, b] => match a.z, b.z with
    | .nil _, _ => if rowT T xt = none then none else match op, nilCmp b with
      | .eql, some (c, r) => pureO c false ⟨.bool, r⟩
      | .neq, some (c, r) => pureO c false ⟨.bool, !r⟩
      | _, _ => none
    | _, .nil _ => if rowT T xt = none then none else match op, nilCmp a with
      | .eql, some (c, r) => pureO c false ⟨.bool, r⟩
      | .neq, some (c, r) => pureO c false ⟨.bool, !r⟩
      | _, _ => none
    | _, _ => match dataV a, dataV b with
      | some (_, ⟨.bool, p⟩), some (_, ⟨.bool, r⟩) => if T.ty xt = some .bool then match op with
          | .eql => pureO true false ⟨.bool, p == r⟩
          | .neq => pureO true false ⟨.bool, !(p == r)⟩
          | _ => none
        else none
      | some (_, ⟨.err, p⟩), some (_, ⟨.err, true⟩) => if T.ty xt = some .err ∧ isK yo = true then errCmp op p else none
      | some (_, ⟨.ap 3, p⟩), some (_, ⟨.ap 3, r⟩) => if T.eq xt = true then twoCmp op p r else none
      | some (_, p), some (_, r) => match binD op p r with
        | some (c, v) => pureO c false v
        | none => none
      | _, _ => none
  | .unOp op _ _, [a] => match dataV a with
    | some (_, p) => match unopD op p with
      | some v => pureO true false v
      | none => none
    | none => none
  | .convert src dst _, [a] => match T.ty src, T.ty dst, dataV a with
    | some (.int _), some (.int k), some (_, ⟨.int _, n⟩) => pureO true false ⟨.int k, k.wrap n⟩
    | some (.sl (.int .u8)), some .str, some (_, ⟨.sl (.int .u8), xs⟩) => pureO true false ⟨.str, ((xs : List Int).map fun n => UInt8.ofNat n.toNat : List UInt8)⟩
    | _, _, _ => none
  | .call ⟨.builtin b, _, ts⟩, vs => match b, vs with
    | .len, [a] => match ioRow a with
      | some ⟨e, xs⟩ => match ts[0]? with
        | some t => if rowT T t = some e then pureO true false ⟨.int .i64, (xs.length : Int)⟩ else none
        | none => none
      | none => match ts[0]?, dataV a with
        | some t, some (_, ⟨.sl _, xs⟩) => if rowT T t = none then none else pureO true false ⟨.int .i64, (xs.length : Int)⟩
        | some t, some (_, ⟨.str, xs⟩) => if T.ty t = some .str then pureO true false ⟨.int .i64, (xs.length : Int)⟩ else none
        | _, _ => none
    | .max, [a, b] => match dataV a, dataV b with
      | some (_, ⟨.int .i64, x⟩), some (_, ⟨.int .i64, y⟩) => pureO true false ⟨.int .i64, (max x y : Int)⟩
      | _, _ => none
    | .max, [a, b, c] => match dataV a, dataV b, dataV c with
      | some (_, ⟨.int .i64, x⟩), some (_, ⟨.int .i64, y⟩), some (_, ⟨.int .i64, z⟩) => pureO true false ⟨.int .i64, (max (max x y) z : Int)⟩
      | _, _, _ => none
    | .min, [a, b] => match dataV a, dataV b with
      | some (_, ⟨.int .i64, x⟩), some (_, ⟨.int .i64, y⟩) => pureO true false ⟨.int .i64, (min x y : Int)⟩
      | _, _ => none
    | .append, [a, b] => match a.b with
     | .dp e0 xs0 => dpAppend T o ts a b fr e0 xs0
     | .sd xs0 => sdAppend T o ts a b fr xs0
     | _ => match ts[0]?, dataV b with
      | some t, some (tb, ⟨.sl e, ys⟩) => if rowT T t = some e ∧ ts = #[t, t] then match a.z, a.b with
        | .nil e', _ => if e' = e then newRow own o.dst fr (decide (ys.length < lim)) tb false e ys [] else none
        | .ref k, .sl tn _ e' xs => if h : e' = e then 
            newRow own o.dst fr (decide (xs.length + ys.length < lim)) (tn || tb) false e ((h ▸ xs : List (Den e)) ++ ys) [(k, .gone)]
          else none
        | .vw k lo hi, .sl tn nx e' xs => match b.z with
          | .vw k' lo' hi' => if k' = k ∧ lo = 0 ∧ e' = e then
              some (decide (hi ≤ lo' ∧ hi' = xs.length), .vw k 0 (hi + (xs.length - lo')), [(k, .sl tn nx e' (xs.take hi ++ (xs.drop lo' ++ xs.drop (hi + (xs.length - lo')))))])
            else none
          | _ => none
        | _, _ => none
        else none
      | _, _ => none
    | .clear, [a] => match ts[0]?, a.z, a.b with
      | some t, .vw k lo hi, .sl tn nx e xs => if rowT T t = some e ∧ ts = #[t] then some (true, .dead, [(k, .sl tn nx e (xs.take lo ++ (List.replicate (hi - lo) (zeroD e) ++ xs.drop hi)))]) else none
      | _, _, _ => none
    | _, _ => none
  | .buildSlice tid n parts, vs => match rowT T tid with
    | some e => if parts.size = n ∧ inOrder 0 parts.toList = true ∧ n < 100000 then if deepD own o.dst then dpBuild o fr e vs else match rowD e false vs with
        | some (tn, xs) => newRow own o.dst fr true tn false e xs (vs.flatMap pubM)
        | none => none
      else none
    | none => none
  | .makeSlice tid _ _, [l, c] => match rowT T tid, dataV l, dataV c with
    | some e, some (_, ⟨.int .i64, n⟩), some (_, ⟨.int .i64, m⟩) => if deepD own o.dst then newDeep o.dst fr (decide (0 ≤ n ∧ Int.toNat n < lim ∧ n = m)) e (List.replicate n.toNat (zeroD e)) [] else newRow own o.dst fr (decide (0 ≤ n ∧ Int.toNat n < lim ∧ n = m)) false false e (List.replicate n.toNat (zeroD e)) []
    | _, _, _ => none
  | .build tid parts, vs => match T.ty tid with
    | some t => if isRec t && noDup (parts.toList.map (·.1)) then if ownD own o.dst then aggBuild t (parts.toList.map (·.1)) vs else match fillD (under t) (unD t (zeroD t)) false (parts.toList.map (·.1)) vs with
      | some (tn, y) => some (true, mkVal tn t (foD t y), vs.flatMap pubM)
      | none => none
      else none
    | none => none
  | .slice tid _ lo hi mx, v :: is =>
    match optInt lo.isSome is.head?, optInt hi.isSome (is.drop lo.toList.length).head?, optInt mx.isSome (is.drop (lo.toList.length + hi.toList.length)).head? with
    | some l, some h, some none => match v.z, v.b, isOwn v with
      | .ref k, .sl _ _ e xs, true => if rowT T tid = some e then
          some (decide (0 ≤ l.getD 0 ∧ l.getD 0 ≤ h.getD xs.length ∧ h.getD xs.length ≤ xs.length), .vw k (l.getD 0).toNat (h.getD xs.length).toNat, [])
        else none
      | .vw k lo hi', .sl _ _ e xs, true => if rowT T tid = some e ∧ lo = 0 then
          some (decide (0 ≤ l.getD 0 ∧ l.getD 0 ≤ h.getD hi' ∧ h.getD hi' ≤ xs.length), .vw k (l.getD 0).toNat (h.getD hi').toNat, [])
        else none
      | _, _, false => match dataV v with
        | some (tn, ⟨.sl e, xs⟩) => if rowT T tid = some e then
            pureO (decide (0 ≤ l.getD 0 ∧ l.getD 0 ≤ h.getD xs.length ∧ h.getD xs.length ≤ xs.length)) tn ⟨.sl e, (xs.take (h.getD xs.length).toNat).drop (l.getD 0).toNat⟩
          else none
        | some (_, ⟨.str, xs⟩) => if T.ty tid = some .str then
            pureO (decide (0 ≤ l.getD 0 ∧ l.getD 0 ≤ h.getD xs.length ∧ h.getD xs.length ≤ xs.length)) false ⟨.str, (xs.take (h.getD xs.length).toNat).drop (l.getD 0).toNat⟩
          else none
        | _ => none
      | _, _, _ => none
    | some (some l), some (some h), some (some m) => match v.z, v.b, isOwn v with
      | .ref k, .sl _ _ e xs, true => if rowT T tid = some e then some (decide (0 ≤ l ∧ l ≤ h ∧ h ≤ m ∧ m ≤ xs.length), .dead, []) else none
      | _, _, _ => none
    | some none, some (some h), some (some m) => match v.z, v.b, isOwn v with
      | .nil e, _, _ => if rowT T tid = some e then some (decide (h = 0 ∧ m = 0), .nil e, []) else none
      | .ref k, .sl tn nx e xs, true => if rowT T tid = some e then newRow own o.dst fr (decide (0 ≤ h ∧ h = m ∧ h ≤ xs.length)) tn false e (xs.take h.toNat) [(k, .gone)] else none
      | _, _, false => match dataV v with
        | some (tn, ⟨.sl e, xs⟩) => if rowT T tid = some e then some (decide (0 ≤ h ∧ h = m ∧ h ≤ xs.length), .clip tn e (xs.take h.toNat), []) else none
        | _ => none
      | _, _, _ => none
    | _, _, _ => none
  | .indexAddr tid _ _, [v, j] => match intV j with
    | some i => match v.z, v.b, isOwn v with
      | .ref k, .sl _ _ e xs, true => if rowT T tid = some e then some (decide (0 ≤ i ∧ i < xs.length), .eptr k i.toNat [], []) else none
      | .ref k, .io _ e xs, _ => if rowT T tid = some e then some (decide (0 ≤ i ∧ i < xs.length), .eptr k i.toNat [], []) else none
      | .ref k, .dp e xs, _ => if rowT T tid = some e then some (decide (0 ≤ i ∧ i < xs.length), .eptr k i.toNat [], []) else none
      | .ref k, .sd xs, _ => if rowT T tid = some (.sl (.int .i64)) then some (decide (0 ≤ i ∧ i < xs.length), .eptr k i.toNat [], []) else none
      | _, _, false => match dataV v with
        | some (tn, ⟨.sl e, xs⟩) => if rowT T tid = some e then some (decide (0 ≤ i ∧ i < xs.length), .sptr tn e (xs.getD i.toNat (zeroD e)), []) else none
        | _ => none
      | _, _, _ => none
    | none => none
  | .index tid _ _, [v, j] => match intV j, dataV v with
    | some i, some (_, ⟨.str, xs⟩) => if T.ty tid = some .str then pureO (decide (0 ≤ i ∧ i < xs.length)) false ⟨.int .u8, ((xs.getD i.toNat 0).toNat : Int)⟩ else none
    | _, _ => none
  | .fieldAddr tid _ f, [v] => match v.z with
    | .sptr tn t x => if T.ty tid = some t ∧ isRec t = true then
        match fieldD (under t) (unD t x) f with
        | some r => if sz0 r.t then none else some (true, .sptr tn r.t r.x, [])
        | none => none
      else none
    | .ptr k path => match v.b with
      | .box _ t _ => match pathT t path with
        | some u => if T.ty tid = some u ∧ isRec u = true ∧ fieldOkT u f = true then some (true, .ptr k (path ++ [f]), []) else none
        | none => none
      | .bx t _ => match pathT t path with
        | some u => if T.ty tid = some u ∧ isRec u = true ∧ fieldOkT u f = true then some (true, .ptr k (path ++ [f]), []) else none
        | none => none
      | _ => none
    | .eptr k i path => match obShapeT v.b with
      | some e => match pathT e path with
        | some u => if T.ty tid = some u ∧ isRec u = true ∧ fieldOkT u f = true then some (true, .eptr k i (path ++ [f]), []) else none
        | none => none
      | none => none
    | _ => none
  | .field tid _ f, [v] => match v.z with
   | .agg t l => aggField T tid f t l
   | _ => match dataV v with
    | some (tn, ⟨t, y⟩) => if T.ty tid = some t ∧ isRec t = true then
        match fieldD (under t) (unD t y) f with
        | some r => pureO true tn r
        | none => none
      else none
    | none => none
  | .load tid _, [v] => match v.z, v.b with
    | .ptr _ path, .bx t l => bxLoad T tid path t l
    | .sptr tn t x, _ => toTy T tid tn ⟨t, x⟩
    | .ptr _ path, .box tn t x => match pathD t x path with
      | some r => toTy T tid tn r
      | none => none
    | .eptr _ i path, .sl tn _ e xs => match pathD e (xs.getD i (zeroD e)) path with
      | some r => toTy T tid tn r
      | none => none
    | .eptr _ i path, .pubd tn _ e xs => match pathD e (xs.getD i (zeroD e)) path with
      | some r => toTy T tid tn r
      | none => none
    | .eptr _ i [], .sd xs => sdLoad T tid i xs []
    | .eptr k i [], .dp (.sl (.int .i64)) xs => sdLoad T tid i xs [(k, .sd xs)]
    | _, _ => none
  | .store tid _ _, [v, a] => match v.b with
   | .bx t l => bxStore T tid v a t l
   | .dp e xs => dpStore T tid v a e xs
   | _ => match T.ty tid, dataV a with
    | some u, some (tb, p) => match p.to u with
      | some q => match v.z, v.b with
        | .ptr k path, .box tn t y => match putD t y path ⟨u, q⟩ with
          | some y' => some (true, .und, (k, .box ((tn || tb) && !flat t) t y') :: pubM a)
          | none => none
        | .eptr k i path, .sl tn nx e xs => if (keysOf a.z).contains k then none else match putD e (xs.getD i (zeroD e)) path ⟨u, q⟩ with
          | some y' => some (decide (i < xs.length), .und, (k, .sl ((tn || tb) && !flat e) nx e (xs.set i y')) :: pubM a)
          | none => none
        | .eptr k i path, .io tn e xs => if (keysOf a.z).contains k then none else match putD e (xs.getD i (zeroD e)) path ⟨u, q⟩ with
          | some y' => some (decide (i < xs.length), .und, (k, .io ((tn || tb) && !flat e) e (xs.set i y')) :: pubM a)
          | none => none
        | _, _ => none
      | none => none
    | _, _ => none
  | .nilCheck _, [v] => match v.z, v.b with
    | .ptr k p, .box _ _ _ => some (true, .ptr k p, [])
    | .ptr k p, .bx _ _ => some (true, .ptr k p, [])
    | .sptr tn t y, _ => some (true, .sptr tn t y, [])
    | .eptr k i p, .sl _ _ _ _ => some (true, .eptr k i p, [])
    | _, _ => none
  | .alloc tid, [] => match T.ty tid, o.dst, fr with
    | some t, some d, .none => if ownD own o.dst then bxAlloc t d
      else some (true, .ptr (4 * d) [], [(4 * d, .box false t (zeroD t))])
    | _, _, _ => none
  | .box tid _, [a] => if ownD own o.dst then bxBox T tid o.dst a fr else match T.ty tid, o.dst, dataV a, fr with
    | some t, some d, some (tn, p), .none => match p.to t with
      | some y => some (true, .ptr (4 * d) [], (4 * d, .box (tn && !flat t) t y) :: pubM a)
      | none => none
    | _, _, _, _ => none
  | .sliceToArrayPointer tid _, [v] => arrPtr T tid v
  | .makeMap tid none, [] => mpMake T tid o.dst fr
  | .lookup tid _ _ false, [m, k] => mpLook T tid m k
  | .insert tid _ _ _, [m, k, a] => mpPut T tid m k a
  | .mapUpdate tid _ _ _, [m, k, a] => mpPut T tid m k a
  | .extract _ i, [v] => match v.z with
    | .tup l => match l[i]? with
      | some z => some (true, z, [])
      | none => none
    | _ => none
  | _, _ => none

/-! ### Calls -/
/-- What is lent: also a row of rows of its own. -/
def lendV (v : V) : Option (Bool × PV) := match v.z, v.b with
  | .ref _, .dp e x => some (false, ⟨.sl e, x⟩)
  | _, _ => dataV v
def lendK (v : V) : List Nat := match v.z, v.b with
  | .ref k, .dp _ _ => [k]
  | _, _ => (pubM v).map (·.1)
def argOf (t : Ty) (m : PM) (v : V) : Option (PV × Bool) := match m with
  | .ptr => match v.z, v.b with
    | .ptr _ [], .box tn t' y => if t' = t then some (⟨t', y⟩, tn) else none
    | _, _ => none
  | .mv => match v.z, v.b with
    | .ref _, .sl tn _ e x => if t = .sl e then some (⟨.sl e, x⟩, tn) else none
    | _, _ => none
  | .io => match v.z, v.b with
    | .ref _, .sl tn _ e x => if t = .sl e ∧ flat e = true then some (⟨.sl e, x⟩, tn) else none
    | .ref _, .io tn e x => if t = .sl e ∧ flat e = true then some (⟨.sl e, x⟩, tn) else none
    | _, _ => none
  | .dio => match v.z, v.b with
    | .ref _, .dp e x => if t = .sl e then some (⟨.sl e, x⟩, false) else none
    | _, _ => none
  | .ln => match lendV v with
    | some (tn, p) => match p.to t with
      | some y => some (⟨t, y⟩, tn)
      | none => none
    | none => none
/-- The arguments, and whether one has parts that came in. -/
def argsOf : List (Ty × PM) → List V → Option (List PV × Bool)
  | [], [] => some ([], false)
  | (t, m) :: prs, v :: vs => match argOf t m v, argsOf prs vs with
    | some (p, a), some (ps, c) => some (p :: ps, a || c)
    | _, _ => none
  | _, _ => none
/-- The keys of rows that are lent; of rows and variables that are handed over. -/
def lentKeys : List (Ty × PM) → List V → List Nat
  | (_, .ln) :: prs, v :: vs => lendK v ++ lentKeys prs vs
  | _ :: prs, _ :: vs => lentKeys prs vs
  | _, _ => []
def heldKeys : List (Ty × PM) → List V → List Nat
  | (_, .ln) :: prs, _ :: vs => heldKeys prs vs
  | (_, _) :: prs, v :: vs => (keyOf v.z).toList ++ heldKeys prs vs
  | _, _ => []
/-- A row that was made by a call and that nobody writes any more, told from all others. -/
def nwOr (b tn : Bool) (e : Ty) (x : List (Den e)) : Slot := if b then (match PV.is ⟨.sl e, x⟩ (.sl (.int .i64)) with
    | some y => .nw y
    | none => .val tn (.sl e) x)
  else .val tn (.sl e) x
/-- The slots of the results. 'tn': there are parts that came in among the arguments; 'rf': and rows that may be written yet. -/
def resSlots (own : List Nat) (d : Nat) (tn rf tp : Bool) : Nat → List (Ty × RM) → List PV → Option (List Slot × List (Nat × Ob))
  | _, [], _ => some ([], [])
  | i, (t, m) :: ms, p :: ps =>
    if p.t = t then
      if m.tn && !flat t && rf then none else
      match resSlots own d tn rf tp (i + 1) ms ps with
      | none => none
      | some (zs, obs) =>
        if m.bx then some (.ptr (4 * d + i) [] :: zs, (4 * d + i, .box ((m.tn && tn || tp) && !flat p.t) p.t p.x) :: obs) else
        match m.own, p with
        | true, ⟨.sl e, x⟩ => if m.dp then some (.ref (4 * d + i) :: zs, (4 * d + i, .dp e x) :: obs) else if own.contains d then some (.ref (4 * d + i) :: zs, (4 * d + i, .sl ((m.tn && tn || tp) && !flat e) m.nx e x) :: obs)
            else some (nwOr (own.contains (d + 2000000)) ((m.tn && tn || tp) && !flat e) e x :: zs, obs)
        | _, ⟨t, x⟩ => some (mkVal (m.tn && tn || tp) t x :: zs, obs)
    else none
  | _, _, _ => none
/-- Whether variables that are handed over have parts that came in. -/
def tpOf : List (Ty × PM) → List V → Bool
  | (_, .ptr) :: prs, v :: vs => (match v.b with
    | .box tn _ _ => tn
    | _ => false) || tpOf prs vs
  | _ :: prs, _ :: vs => tpOf prs vs
  | _, _ => false
/-- A row that is handed back. -/
def ioBack (b : Ob) (e : Ty) (y : List (Den e)) : Ob := match b with
  | .io _ _ _ => .io false e y
  | _ => .sl false false e y
/-- What pointers that were handed over point to, behind the call. -/
def boxMods (tp : Bool) : List (Ty × PM) → List V → List PV → Option (List (Nat × Ob))
  | [], [], [] => some []
  | (t, .ptr) :: prs, v :: vs, p :: ps => match v.z, p.to t, boxMods tp prs vs ps with
    | .ptr k _, some y, some r => if p.t = t then some ((k, .box (tp && !flat t) t y) :: r) else none
    | _, _, _ => none
  | (t, .io) :: prs, v :: vs, p :: ps => match v.z, p, boxMods tp prs vs ps with
    | .ref k, ⟨.sl e, y⟩, some r => if t = .sl e ∧ flat e = true then some ((k, ioBack v.b e y) :: r) else none
    | _, _, _ => none
  | (t, .dio) :: prs, v :: vs, p :: ps => match v.z, p, boxMods tp prs vs ps with
    | .ref k, ⟨.sl e, y⟩, some r => if t = .sl e then some ((k, .dp e y) :: r) else none
    | _, _, _ => none
  | (_, .ln) :: prs, _ :: vs, ps => boxMods tp prs vs ps
  | (_, .mv) :: prs, v :: vs, ps => match keyOf v.z, boxMods tp prs vs ps with
    | some k, some r => some ((k, .gone) :: r)
    | _, _ => none
  | _, _, _ => none
def packS : List Slot → Slot
  | [z] => z
  | zs => .tup zs
/-- Records among the results, put together again. -/
def grpS : List (Option Ty) → List Slot → List Slot
  | none :: g, z :: zs => z :: grpS g zs
  | some t :: g, z :: zs => .agg t ((z :: zs).take (sz t)) :: grpS g ((z :: zs).drop (sz t))
  | _, zs => zs
/-- The records' parts are results of one cell. -/
def grpOk : List (Option Ty) → List (Ty × RM) → Bool
  | none :: g, _ :: ms => grpOk g ms
  | some t :: g, ms => isAggT t && ones (under t) && (decide (0 < sz t) && (decide (sz t ≤ ms.length) && ((ms.take (sz t)).all fun m => sz m.1 == 1 && !isAggT m.1 && !m.2.bx) && grpOk g (ms.drop (sz t))))
  | [], _ => true
  | none :: _, [] => false
/-- How many keys the results may take. -/
def keyN : List (Ty × RM) → Nat
  | [] => 0
  | (_, m) :: ms => if keyN ms = 0 then (if m.bx || m.own then 1 else 0) else keyN ms + 1
def callC (own : List Nat) (f : FnT) (d : Nat) (tn rf : Bool) (vs : List V) (r : List PV) : Option Out :=
  match resSlots own d tn rf (tpOf f.pars vs) 0 f.outs r, boxMods (tpOf f.pars vs) f.pars vs (r.drop f.outs.length) with
  | some (zs, obs), some bs => if grpOk f.rg f.outs then some (true, packS (grpS f.rg zs), obs ++ bs) else none
  | _, _ => none

def isAgg1 : Slot → Bool
  | .agg _ _ => true
  | _ => false
/-- The arguments' slots: records that are handed over by their parts are taken apart. -/
def argZ : List (Option Ty) → List Slot → Option (List Slot)
  | none :: g, z :: zs => (argZ g zs).map (z :: ·)
  | some t :: g, z :: zs => match toAgg z, argZ g zs with
    | some (t', l), some r => if t' = t ∧ l.length = sz t ∧ 0 < sz t ∧ ∀ y ∈ l, isAgg1 y = false then some (l ++ r) else none
    | _, _ => none
  | [], zs => some zs
  | _, [] => none
/-! ### Regions -/
def modOb (l : List Ob) : List (Nat × Ob) → List Ob
  | [] => l
  | (k, b) :: r => (modOb l r).set k b
def St.out (s : St) (d : Option Nat) (z : Slot) (m : List (Nat × Ob)) : St :=
  ⟨match d with | some d => s.sl.set d z | none => s.sl, modOb s.ob m⟩
/-- The keys whose contents it looks at, and those that it turns. -/
structure Log where
  rd : List Nat
  md : List Nat
def freshKeys : Option Nat → List Nat
  | some d => [4 * d, 4 * d + 1, 4 * d + 2, 4 * d + 3, 4 * d + 4]
  | none => []
def looks (s : St) (o : Oper) : List Nat := if blind o.op then [] else ((opnds T o).flatMap fun x => keysOf (rd s x.1 x.2)) ++ freshKeys o.dst
def views (s : St) (o : Oper) : List V := (opnds T o).map (view s)
def argVs (f : FnT) (s : St) (o : Oper) : Option (List V) := (argZ f.pg ((opnds T o).map fun x => rd s x.1 x.2)).map fun zs => zs.map (viewZ s)
def freshOb (s : St) (d : Option Nat) : Ob := match d with
  | some d => s.ob.getD (4 * d) .gone
  | none => .gone
/-- The keys of an operation's results have not been used. -/
def freshAll (s : St) (d n : Nat) : Bool := decide (n ≤ 5) && (List.range n).all fun i => match s.ob.getD (4 * d + i) .gone with
  | .none => true
  | _ => false

variable (call : (g : Nat) → List PV → Option (T.R g)) {R : Type}
def runOp (own : List Nat) (i : Nat) (o : Oper) (s : St) (K : St → Log → Option R) : Option R :=
  match o.op with
  | .call ⟨.value (.func g), xs, ts⟩ => match T.fn g, o.dst with
    | some f, some d => match argVs T f s o with
      | some vs => match argsOf f.pars vs with
        | some (ps, tn) => if noDup (heldKeys f.pars vs) && disj (lentKeys f.pars vs) (heldKeys f.pars vs) && ts.size == xs.size then
            (call g ps).bind fun r => match callC own f d tn (!(lentKeys f.pars vs).isEmpty) vs (spread (T.outTys g) r) with
              | some (_, z, m) => if freshAll s d (keyN f.outs) then K (s.out (some d) z m) ⟨looks T s o, m.map (·.1)⟩ else none
              | none => none
          else none
        | none => none
      | none => none
    | _, _ => none
  | _ => match opC T own o (views T s o) (freshOb s o.dst) with
    | some (c, z, m) => if c = true then K (s.out o.dst z m) ⟨looks T s o, m.map (·.1)⟩ else none
    | none => none
def isGuard (ops : Array Oper) (i : Nat) : Bool := ops.any fun o => match o.guard with
  | some (j, _) => j == i
  | none => false
def wantedS (ops : Array Oper) (s : St) (o : Oper) : Option Bool := match o.guard with
  | none => some true
  | some (j, want) => match (ops[j]?).bind (·.dst) with
    | none => some false
    | some d => match s.sl.getD d .dead with
      | .lit b => some (b == want)
      | .und => some false
      | _ => none
def splitOn (ops : Array Oper) (i : Nat) (o : Oper) (s : St) (K : St → Option R) : Option R :=
  if isGuard ops i then match o.dst with
    | none => none
    | some d => match s.sl.getD d .dead with
      | .lit _ => K s
      | .val _ .bool b => if b = true then K ⟨s.sl.set d (.lit true), s.ob⟩ else K ⟨s.sl.set d (.lit false), s.ob⟩
      | _ => none
  else K s
def stepOp (own : List Nat) (ops : Array Oper) (i : Nat) (o : Oper) (s : St) (K : St → Log → Option R) : Option R :=
  match wantedS ops s o with
  | some true => runOp T call own i o s fun s' lg => splitOn ops i o s' fun s'' => K s'' lg
  | some false => K (s.out o.dst .und []) ⟨[], []⟩
  | none => none
def execOps (own : List Nat) (ops : Array Oper) : Nat → List Oper → St → List Log → (St → List Log → Option R) → Option R
  | _, [], s, lgs, K => K s lgs
  | i, o :: r, s, lgs, K => stepOp T call own ops i o s fun s' lg => execOps own ops (i + 1) r s' (lg :: lgs) K

/-- What binds an operation to come behind another one, at once or through others. -/
def anc (ops : Array Oper) (j : Nat) : Nat → Nat → Bool
  | 0, _ => false
  | n + 1, i => match ops[i]? with
    | some o => o.after.any fun e => Region.binds .any e && (e.on == j || (decide (j < e.on) && anc ops j n e.on))
    | none => false
def notSeen (d : Option Nat) (o : Oper) : Bool := match d with
  | none => true
  | some d => (opnds T o).all fun x => match x.2 with
    | .tmp i => i != d
    | _ => true
def apartB (ops : Array Oper) (a b : Oper) (x y : Log) : Bool :=
  a.apart ops b && notSeen T a.dst b && notSeen T b.dst a && disj x.md y.rd && disj x.md y.md && disj y.md x.rd
/-- Any two operations of which none must come first are apart. 'lgs': of the first operations, the last one first. -/
def pairOk (ops : Array Oper) (i j : Nat) (x y : Log) : Bool := match ops[i]?, ops[j]? with
  | some a, some b => apartB T ops a b x y || anc ops j ops.size i
  | _, _ => false
def pairsWith (ops : Array Oper) (i : Nat) (x : Log) : List Log → Bool
  | [] => true
  | y :: r => pairOk T ops i r.length x y && pairsWith ops i x r
def pairsOk (ops : Array Oper) : List Log → Bool
  | [] => true
  | x :: r => pairsWith T ops r.length x r && pairsOk ops r
/-- Edges lead back. -/
def edgesOk (ops : Array Oper) : Bool := (List.range ops.size).all fun i => match ops[i]? with
  | some o => o.after.all fun e => !Region.binds .any e || decide (e.on < i)
  | none => true
def execRegion (own : List Nat) (ops : Array Oper) (draw : Bool) (s : St) (K : St → Option R) : Option R :=
  execOps T call own ops 0 ops.toList s [] fun s' lgs => if !draw || (pairsOk T ops lgs && edgesOk ops) then K s' else none

/-! ### Control -/
/-- A row that may be written. -/
def resOwn (v : V) : Option (Bool × Bool × PV) := match v.z, v.b with
  | .nil e, _ => some (false, true, ⟨.sl e, ([] : List (Den e))⟩)
  | .ref _, .sl tn nx e x => some (tn, nx, ⟨.sl e, x⟩)
  | .vw _ 0 hi, .sl tn _ e x => some (tn, false, ⟨.sl e, x.take hi⟩)
  | _, _ => none
def resDp (v : V) : Option (Bool × Bool × PV) := match v.z, v.b with
  | .nil e, _ => some (false, true, ⟨.sl e, ([] : List (Den e))⟩)
  | .ref _, .dp e x => some (false, false, ⟨.sl e, x⟩)
  | _, _ => none
/-- A pointer to a variable that was made here. -/
def resBox (kb : Nat) (v : V) : Option (Bool × PV) := match v.z, v.b with
  | .ptr k [], .box tn t x => if kb ≤ k then none else some (tn, ⟨t, x⟩)
  | _, _ => none
def isNilOk : PV → Bool
  | ⟨.sl _, x⟩ => !x.isEmpty
  | _ => true
/-- A result: what a slot holds, or what a variable holds. -/
inductive RS where
  | z (z : Slot)
  | cell (d : Nat) (u : TypeId)
def rsOf (s : St) : ResultVar → RS
  | .tmp d => .z (s.sl.getD d .dead)
  | .cell d u => .cell d u
/-- Records among the results, taken apart. -/
def rsAll (s : St) : List (Option Ty) → List ResultVar → Option (List RS)
  | none :: g, d :: ds => (rsAll s g ds).map (rsOf s d :: ·)
  | some t :: g, .tmp d :: ds => match toAgg (s.sl.getD d .dead), rsAll s g ds with
    | some (t', l), some r => if t' = t ∧ l.length = sz t then some (l.map .z ++ r) else none
    | _, _ => none
  | some t :: g, .cell d u :: ds => match s.sl.getD d .dead, obOf s (s.sl.getD d .dead), rsAll s g ds with
    | .ptr _ [], .bx t' l, some r => if t' = t ∧ T.ty u = some t ∧ isAggT t = true ∧ isRec t = true then some (l.map .z ++ r) else none
    | _, _, _ => none
  | [], ds => some (ds.map (rsOf s))
  | _, _ => none
def resOne (np : Nat) (s : St) (t : Ty) (m : RM) : RS → Option (Bool × PV)
  | .z z => if m.bx then match resBox np (viewZ s z) with
      | some (tn, p) => if (tn = false ∨ m.tn = true) ∧ p.t = t then some (true, p) else none
      | none => none
    else if m.own then match (if m.dp then resDp (viewZ s z) else resOwn (viewZ s z)) with
      | some (tn, nx, p) => if (tn = false ∨ m.tn = true) ∧ p.t = t then some ((if m.nx && !nx then isNilOk p else true), p) else none
      | none => none
    else match dataV (viewZ s z) with
      | some (tn, p) => match p.to t with
        | some y => if tn = false ∨ m.tn = true then some (true, ⟨t, y⟩) else none
        | none => none
      | none => none
  | .cell d u => if m.bx || m.own then none else match s.sl.getD d .dead, obOf s (s.sl.getD d .dead) with
    | .ptr _ [], .box tn t' x => match T.ty u with
      | some u' => match (PV.mk t' x).to u' with
        | some y => if u' = t ∧ (tn = false ∨ m.tn = true) then some (true, ⟨u', y⟩) else none
        | none => none
      | none => none
    | _, _ => none
def resKey (m : RM) : RS → List Nat
  | .z z => if m.bx || m.own then (keyOf z).toList else []
  | .cell _ _ => []
def retKeys : List (Ty × RM) → List RS → List Nat
  | (_, m) :: ms, d :: ds => resKey m d ++ retKeys ms ds
  | _, _ => []
def pubKs (s : St) (l : List Slot) : List Nat := ((l.map (viewZ s)).flatMap pubM).map (·.1)
def retSlots : List (Ty × RM) → List RS → List Slot
  | (_, m) :: ms, .z z :: ds => if m.bx || m.own then retSlots ms ds else z :: retSlots ms ds
  | _ :: ms, .cell _ _ :: ds => retSlots ms ds
  | _, _ => []
def retRes (np : Nat) (s : St) : List (Ty × RM) → List RS → Option (Bool × List PV)
  | [], [] => some (true, [])
  | (t, m) :: ms, d :: ds => match resOne T np s t m d, retRes np s ms ds with
    | some (c, p), some (c', ps) => some (c && c', p :: ps)
    | _, _ => none
  | _, _ => none
def retPtrs (s : St) : Nat → List (Ty × PM) → Option (List PV)
  | _, [] => some []
  | i, (t, .ptr) :: r => match s.ob.getD i .none, retPtrs s (i + 1) r with
    | .box tn t' y, some ps => if t' = t ∧ (tn = false ∨ flat t = true) then some (⟨t', y⟩ :: ps) else none
    | _, _ => none
  | i, (t, .io) :: r => match s.ob.getD i .none, retPtrs s (i + 1) r with
    | .io _ e y, some ps => if t = .sl e then some (⟨.sl e, y⟩ :: ps) else none
    | _, _ => none
  | _, (_, .dio) :: _ => none
  | i, (_, _) :: r => retPtrs s (i + 1) r
/-- A row of rows that nobody writes any more, handed back as one's own again: nothing else is held then. -/
def unSd (f : FnT) (s : St) : St := match f.res, f.outs with
  | [.tmp d], [(_, m)] => match s.sl.getD d .dead with
    | .ref k => match s.ob.getD k .none with
      | .sd x => if m.dp && (f.pars.all fun p => !p.2.pinned) then ⟨(List.replicate s.sl.length .dead).set d (.ref k), (List.replicate s.ob.length .gone).set k (.dp (.sl (.int .i64)) x)⟩ else s
      | _ => s
    | _ => s
  | _, _ => s
def ret1 (g : Nat) (f : FnT) (s : St) : Option (T.R g) := match rsAll T s f.rg f.res with
  | none => none
  | some rs => match retRes T f.kb s f.outs rs, retPtrs s f.kb f.pars with
    | some (c, ps), some qs => if noDup (retKeys f.outs rs) && (disj (pubKs s (retSlots f.outs rs)) (retKeys f.outs rs) && grpOk f.rg f.outs) then (if c = true then gather (T.outTys g) (ps ++ qs) else none) else none
    | _, _ => none

def ret (g : Nat) (f : FnT) (s : St) : Option (T.R g) := ret1 T g f (unSd f s)
def firstId : Code → Nat
  | .region id _ _ => id
  | .seq a _ => firstId a
  | .block _ b => firstId b
  | _ => 0
/-- A record's parts, put in order: keys from 'k' on. -/
def canonF (s : St) (ob : List Ob) : Nat → List LK → List Slot → Option (List Slot × List Ob)
  | _, [], [] => some ([], ob)
  | k, lk :: lks, z :: zs => match canonF s ob (match lk with | .own _ => k + 1 | _ => k) lks zs with
    | none => none
    | some (r, ob') => match lk with
      | .val tn => match data1 z (obOf s z) with
        | some (b, ⟨t, x⟩) => if (b = false ∨ tn = true) ∧ sz t = 1 ∧ isAggT t = false then some (mkVal tn t x :: r, ob') else none
        | none => none
      | .own tn => match ob'.getD k .gone with
        | .none => match z, obOf s z with
          | .ref _, .sl b _ e x => if b = false ∨ tn = true then some (.ref k :: r, ob'.set k (.sl (tn && !flat e) false e x)) else none
          | .nil e, _ => some (.ref k :: r, ob'.set k (.sl (tn && !flat e) false e []))
          | _, _ => none
        | _ => none
      | _ => none
  | _, _, _ => none
def canonOne (s : St) (acc : St) : Nat × LK → Option St
  | (i, .val tn) => match dataV (view s (none, .tmp i)) with
    | some (b, ⟨t, x⟩) => if b = false ∨ tn = true then some ⟨acc.sl.set i (mkVal tn t x), acc.ob⟩ else none
    | none => none
  | (i, .own tn) => match acc.ob.getD (4 * i + 3) .gone with
    | .none => match s.sl.getD i .dead, obOf s (s.sl.getD i .dead) with
      | .ref k, .sl b _ e x => if b = false ∨ tn = true then some ⟨acc.sl.set i (.ref (4 * i + 3)), acc.ob.set (4 * i + 3) (.sl (tn && !flat e) false e x)⟩ else none
      | .vw k 0 hi, .sl b _ e x => if b = false ∨ tn = true then some ⟨acc.sl.set i (.ref (4 * i + 3)), acc.ob.set (4 * i + 3) (.sl (tn && !flat e) false e (x.take hi))⟩ else none
      | .nil e, _ => some ⟨acc.sl.set i (.ref (4 * i + 3)), acc.ob.set (4 * i + 3) (.sl (tn && !flat e) false e [])⟩
      | _, _ => none
    | _ => none
  | (i, .ptr) => match s.sl.getD i .dead, obOf s (s.sl.getD i .dead) with
    | .ptr k [], .box tn t x => match acc.ob.getD k .gone with
      | .none => some ⟨acc.sl.set i (.ptr k []), acc.ob.set k (.box tn t x)⟩
      | _ => none
    | .ref k, .io tn e x => match acc.ob.getD k .gone with
      | .none => some ⟨acc.sl.set i (.ref k), acc.ob.set k (.io (!flat e) e x)⟩
      | _ => none
    | _, _ => none
  | (i, .dp) => match acc.ob.getD (4 * i + 3) .gone with
    | .none => match s.sl.getD i .dead, obOf s (s.sl.getD i .dead) with
      | .ref _, .dp e x => some ⟨acc.sl.set i (.ref (4 * i + 3)), acc.ob.set (4 * i + 3) (.dp e x)⟩
      | .ref _, .mp t x => some ⟨acc.sl.set i (.ref (4 * i + 3)), acc.ob.set (4 * i + 3) (.mp t x)⟩
      | _, _ => none
    | _ => none
  | (i, .sd) => match acc.ob.getD (4 * i + 3) .gone with
    | .none => match s.sl.getD i .dead, obOf s (s.sl.getD i .dead) with
      | .ref _, .sd x => some ⟨acc.sl.set i (.ref (4 * i + 3)), acc.ob.set (4 * i + 3) (.sd x)⟩
      | _, _ => none
    | _ => none
  | (i, .agg t ks) => match toAgg (s.sl.getD i .dead) with
    | some (t', l) => if t' = t ∧ ks.length = l.length then match canonF s acc.ob (4 * i) ks l with
        | some (zs, ob) => some ⟨acc.sl.set i (.agg t zs), ob⟩
        | none => none
      else none
    | none => none
  | (i, .bx t ks) => match s.sl.getD i .dead, obOf s (s.sl.getD i .dead) with
    | .ptr k [], .bx t' l => if t' = t then match canonF s acc.ob (k + 1) ks l with
        | some (zs, ob) => match ob.getD k .gone with
          | .none => some ⟨acc.sl.set i (.ptr k []), ob.set k (.bx t zs)⟩
          | _ => none
        | none => none
      else none
    | _, _ => none
def canonAll (s : St) : St → List (Nat × LK) → Option St
  | acc, [] => some acc
  | acc, l :: r => match canonOne s acc l with
    | some a => canonAll s a r
    | none => none
/-- The keys of rows and variables that are kept as they are; the slots that are kept as data. -/
def takeF : List LK → List Slot → List Nat
  | .own _ :: ks, z :: zs => (keyOf z).toList ++ takeF ks zs
  | _ :: ks, _ :: zs => takeF ks zs
  | _, _ => []
def valF : List LK → List Slot → List Slot
  | .val _ :: ks, z :: zs => z :: valF ks zs
  | _ :: ks, _ :: zs => valF ks zs
  | _, _ => []
def takeKeys (s : St) : List (Nat × LK) → List Nat
  | [] => []
  | (i, .ptr) :: r => (keyOf (s.sl.getD i .dead)).toList ++ takeKeys s r
  | (i, .own _) :: r => (keyOf (s.sl.getD i .dead)).toList ++ takeKeys s r
  | (i, .dp) :: r => (keyOf (s.sl.getD i .dead)).toList ++ takeKeys s r
  | (i, .sd) :: r => (keyOf (s.sl.getD i .dead)).toList ++ takeKeys s r
  | (_, .val _) :: r => takeKeys s r
  | (i, .agg _ ks) :: r => (match toAgg (s.sl.getD i .dead) with
    | some (_, l) => takeF ks l
    | none => []) ++ takeKeys s r
  | (i, .bx _ ks) :: r => (match s.sl.getD i .dead, obOf s (s.sl.getD i .dead) with
    | .ptr k [], .bx _ l => k :: takeF ks l
    | _, _ => []) ++ takeKeys s r
def valSlots (s : St) : List (Nat × LK) → List Slot
  | [] => []
  | (i, .val _) :: r => s.sl.getD i .dead :: valSlots s r
  | (_, .ptr) :: r => valSlots s r
  | (_, .own _) :: r => valSlots s r
  | (_, .dp) :: r => valSlots s r
  | (_, .sd) :: r => valSlots s r
  | (i, .agg _ ks) :: r => (match toAgg (s.sl.getD i .dead) with
    | some (_, l) => valF ks l
    | none => []) ++ valSlots s r
  | (i, .bx _ ks) :: r => (match s.sl.getD i .dead, obOf s (s.sl.getD i .dead) with
    | .ptr _ [], .bx _ l => valF ks l
    | _, _ => []) ++ valSlots s r
/-- What came in by its address is kept. -/
def pinsOk (f : FnT) (s : St) : Bool := (List.range f.pars.length).all fun i => match f.pars[i]? with
  | some (_, .ptr) => match s.ob.getD (f.kb + i) .none with
    | .box _ _ _ => true
    | _ => false
  | some (_, .io) => match s.ob.getD (f.kb + i) .none with
    | .io _ _ _ => true
    | _ => false
  | _ => true
/-- Rows of rows that are kept as read-only ones. -/
def sdOb (ob : List Ob) : Slot → List Ob
  | .ref k => match ob.getD k .none with
    | .dp (.sl (.int .i64)) x => ob.set k (.sd x)
    | _ => ob
  | _ => ob
def sdObs (sl : List Slot) : List (Nat × LK) → List Ob → List Ob
  | [], ob => ob
  | (i, .sd) :: r, ob => sdObs sl r (sdOb ob (sl.getD i .dead))
  | _ :: r, ob => sdObs sl r ob
def canon1 (f : FnT) (l : List (Nat × LK)) (s : St) : Option St := if s.sl.length == f.ntmps && (noDup (takeKeys s l) && disj (pubKs s (valSlots s l)) (takeKeys s l)) then match canonAll s ⟨List.replicate f.ntmps .dead, List.replicate f.nk .none⟩ l with
      | some s' => if pinsOk f s' then some s' else none
      | none => none
    else none
def canon (f : FnT) (id : Nat) (s : St) : Option St := match f.live.lookup id with
  | some l => canon1 f l ⟨s.sl, sdObs s.sl l s.ob⟩
  | none => none

/-- A region at which paths meet: there the state is put in order, as at a loop's head. -/
def isJoin (f : FnT) (n id : Nat) : Bool := (f.live.lookup (id + 1000000)).isSome && n != 3999
def exec (g : Nat) (f : FnT) (again : Nat → List Item → St → Option (T.R g)) : Nat → List Item → St → Option (T.R g) :=
  Nat.rec (fun _ _ => none) fun n exec' todo s => match todo with
    | [] => ret T g f s
    | .inBlock _ :: k => exec' k s
    | .inLoop b :: k => again (firstId b) (.code b :: .inLoop b :: k) s
    | .code c :: k => match c with
      | .skip => exec' k s
      | .region id ops draw => if isJoin f n id then again (id + 1000000) (.code (.region id ops draw) :: k) s else execRegion T call f.own ops draw s fun s' => exec' k s'
      | .seq a b => exec' (.code a :: .code b :: k) s
      | .cond c x y => match rd s none c with
        | .lit true => exec' (.code x :: k) s
        | .lit false => exec' (.code y :: k) s
        | .val _ .bool b => if b = true then exec' (.code x :: k) s else exec' (.code y :: k) s
        | _ => none
      | .block id b => exec' (.code b :: .inBlock id :: k) s
      | .loop b => again (firstId b) (.code b :: .inLoop b :: k) s
      | .exit id => match exitTo id k with
        | some k' => exec' k' s
        | none => none
      | .ret => ret T g f s
      | _ => none
    | _ => none
end ops

/-- What comes in: slots, and what lies under the keys from 'k' on. -/
def initZ : Nat → List (Ty × PM) → List PV → List Slot
  | k, (_, m) :: prs, p :: ps => (match m, p with
    | .ptr, _ => .ptr k []
    | .dio, _ => .dead
    | .mv, ⟨.sl _, _⟩ => .ref k
    | .io, ⟨.sl _, _⟩ => .ref k
    | _, p => mkVal true p.t p.x) :: initZ (k + 1) prs ps
  | _, _, _ => []
def initOb : Nat → List (Ty × PM) → List PV → List Ob → List Ob
  | k, (_, m) :: prs, p :: ps, ob => initOb (k + 1) prs ps (match m, p with
    | .ptr, p => ob.set k (.box false p.t p.x)
    | .mv, ⟨.sl e, x⟩ => ob.set k (.sl (!flat e) false e x)
    | .io, ⟨.sl e, x⟩ => ob.set k (.io (!flat e) e x)
    | _, _ => ob)
  | _, _, _, ob => ob
def initSt (f : FnT) (ps : List PV) : St := ⟨grpS f.pg (initZ f.kb f.pars ps) ++ List.replicate (f.ntmps - (grpS f.pg (initZ f.kb f.pars ps)).length) .dead, initOb f.kb f.pars ps (List.replicate f.nk .none)⟩
def parsOk : List (Ty × PM) → List PV → Bool
  | [], [] => true
  | (t, _) :: r, p :: ps => decide (p.t = t) && parsOk r ps
  | _, _ => false

/-- Running what is left of a function: each call and each round of a loop takes one of 'k'. -/
def runL (T : Tab) (X : Ext T) : Nat → (g : Nat) → List Item → St → Option (T.R g)
  | 0, _, _, _ => none
  | k + 1, g, todo, s => match T.fn g with
    | none => none
    | some f => exec T (fun h ps => match X h with
        | some x => x ps
        | none => match T.fn h with
          | none => none
          | some fh => if parsOk fh.pars ps then runL T X k h [.code fh.code] (initSt fh ps) else none)
      g f (fun id t s => match canon f id s with
        | some s' => runL T X k g t s'
        | none => none) 4000 todo s
def runF (T : Tab) (X : Ext T) (k : Nat) (h : Nat) (ps : List PV) : Option (T.R h) := match X h with
  | some x => x ps
  | none => match T.fn h with
    | none => none
    | some fh => if parsOk fh.pars ps then runL T X k h [.code fh.code] (initSt fh ps) else none
end Go.Proofs.YtkgpkalclblhbaaGreatDoor.Eng
