/-
  Functions of the library that have contracts.
-/
import Derived.Test.YtkgpkalclblhbaaGreatDoorE2
import Derived.Lib.ItoaNum
import Derived.Lib.AtoiAll
import Derived.Lib.IndexMore
import Derived.Lib.Join
namespace Go.Proofs.YtkgpkalclblhbaaGreatDoor.Eng
open Go
/-! ### Functions of the library that have contracts -/
def itoaOk (n : Int) : Bool := decide (-9223372036854775808 ≤ n ∧ n ≤ 9223372036854775807)
def strOk (s : List UInt8) : Bool := decide (s.length < 4294967281)
def atoiD (s : List UInt8) : Int × Bool := match Lib.atoiAll s with
  | .ok v => (v, true)
  | .range => (Lib.atoiSat s, false)
  | _ => (0, false)
def cutD (s sep : List UInt8) : List UInt8 × List UInt8 × Bool := Lib.cut s sep
def joinD (xs : List (List UInt8)) (sep : List UInt8) : List UInt8 := Lib.join xs sep
def joinOk (xs : List (List UInt8)) (sep : List UInt8) : Bool := decide (0 < xs.length ∧ xs.length < 1048576 ∧ (joinD xs sep).length < 4294967296)
def onInt (T : Tab) (g : Nat) (out : List UInt8 → T.R g) : List PV → Option (T.R g)
  | [p] => (p.is (.int .i64)).bind fun n => gate (itoaOk n) (some (out (Lib.itoa n)))
  | _ => none
def onStr (T : Tab) (g : Nat) (out : Int × Bool → T.R g) : List PV → Option (T.R g)
  | [p] => (p.is .str).bind fun s => gate (strOk s) (some (out (atoiD s)))
  | _ => none
def onStr2 (T : Tab) (g : Nat) (out : List UInt8 × List UInt8 × Bool → T.R g) : List PV → Option (T.R g)
  | [p, q] => (p.is .str).bind fun s => (q.is .str).bind fun sep => gate (strOk s) (some (out (cutD s sep)))
  | _ => none
def onJoin (T : Tab) (g : Nat) (out : List UInt8 → T.R g) : List PV → Option (T.R g)
  | [p, q] => (p.is (.sl .str)).bind fun xs => (q.is .str).bind fun sep => gate (joinOk xs sep) (some (out (joinD xs sep)))
  | _ => none
end Go.Proofs.YtkgpkalclblhbaaGreatDoor.Eng
