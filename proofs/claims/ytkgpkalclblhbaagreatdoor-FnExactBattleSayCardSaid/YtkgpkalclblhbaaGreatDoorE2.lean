/-
  The interpreter's states at the heads of loops, written out.
-/
import Derived.Test.YtkgpkalclblhbaaGreatDoorE1
namespace Go.Proofs.YtkgpkalclblhbaaGreatDoor.Eng
open Go
def loopAt (id : Nat) : Code → List Item → Option (Code × List Item)
  | .seq a b, k => match loopAt id a (.code b :: k) with
    | some r => some r
    | none => loopAt id b k
  | .cond _ a b, k => match loopAt id a k with
    | some r => some r
    | none => loopAt id b k
  | .block i b, k => loopAt id b (.inBlock i :: k)
  | .loop b, k => if firstId b = id then some (b, k) else loopAt id b (.inLoop b :: k)
  | _, _ => none
def joinAt (id : Nat) : Code → List Item → Option (List Item)
  | .seq a b, k => match joinAt id a (.code b :: k) with
    | some r => some r
    | none => joinAt id b k
  | .cond _ a b, k => match joinAt id a k with
    | some r => some r
    | none => joinAt id b k
  | .block i b, k => joinAt id b (.inBlock i :: k)
  | .loop b, k => joinAt id b (.inLoop b :: k)
  | .region i ops dr, k => if i = id then some (.code (.region i ops dr) :: k) else none
  | _, _ => none
def todoAt (T : Tab) (g id : Nat) : List Item := match T.fn g with
  | some f => if id < 1000000 then match loopAt id f.code [] with
      | some (b, k) => .code b :: .inLoop b :: k
      | none => []
    else match joinAt (id - 1000000) f.code [] with
      | some t => t
      | none => []
  | none => []
def setSl : List Slot → List (Nat × Slot) → List Slot
  | l, [] => l
  | l, (i, z) :: r => setSl (l.set i z) r
def setOb : List Ob → List (Nat × Ob) → List Ob
  | l, [] => l
  | l, (i, z) :: r => setOb (l.set i z) r
def stAt (T : Tab) (g : Nat) (sl : List (Nat × Slot)) (ob : List (Nat × Ob)) : St := match T.fn g with
  | some f => ⟨setSl (List.replicate f.ntmps .dead) sl, setOb (List.replicate f.nk .none) ob⟩
  | none => ⟨[], []⟩
/-! ### Words of the equations -/
@[reducible] def gate {α : Type} (c : Bool) (x : Option α) : Option α := if c = true then x else none
@[reducible] def br {α : Type} (c : Bool) (x y : Option α) : Option α := if c = true then x else y
@[reducible] def wr (x : Int) : Int := IntKind.wrap .i64 x
/-- A copy of a row. -/
def onRow (T : Tab) (g : Nat) (e : Ty) (res : List (Den e) → Option (T.R g)) : List PV → Option (T.R g)
  | [p] => (p.to (.sl e)).bind res
  | _ => none
@[reducible] def cloned {α : Type} (x : List α) : Option (List α) := gate (decide (0 + x.length < lim)) (some x)
/-! ### Rows inside rows written over with numbers that follow each other -/
def mark1 : List Int → Int → Int × List Int
  | [], k => (k, [])
  | _ :: l, k => ((mark1 l (wr (k + 1))).1, k :: (mark1 l (wr (k + 1))).2)
def markL : List (List Int) → Int → Int × List (List Int)
  | [], k => (k, [])
  | x :: l, k => ((markL l (mark1 x k).1).1, (mark1 x k).2 :: (markL l (mark1 x k).1).2)
def markT : List Trade → Int → Int × List Trade
  | [], k => (k, [])
  | x :: l, k => ((markT l (mark1 x.f1 (mark1 x.f0 k).1).1).1, ⟨(mark1 x.f0 k).2, (mark1 x.f1 (mark1 x.f0 k).1).2⟩ :: (markT l (mark1 x.f1 (mark1 x.f0 k).1).1).2)
def okL (x : List (List Int)) : Bool := decide (x.length < lim ∧ ∀ r ∈ x, r.length < lim)
def okT (x : List Trade) : Bool := decide (x.length < lim ∧ ∀ r ∈ x, r.f0.length < lim ∧ r.f1.length < lim)
def onMark (T : Tab) (g : Nat) (e : Ty) (mk : List (Den e) → Int → Int × List (Den e)) (ok : List (Den e) → Bool) (out : Int → List (Den e) → T.R g) : List PV → Option (T.R g)
  | [p, q] => (p.to (.sl e)).bind fun x => (q.to (.int .i64)).bind fun k => gate (ok x) (some (out (mk x k).1 (mk x k).2))
  | _ => none
end Go.Proofs.YtkgpkalclblhbaaGreatDoor.Eng
