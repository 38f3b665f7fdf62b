import Derived.Test.YtpahkabfmabneaaDoorE3
import Derived.Test.YtpahkabfmabneaaDoorProg
import Derived.Lib.LaidTab
import Derived.Lib.Itoa
namespace Go.Proofs.YtpahkabfmabneaaDoor.Eng
open Go
noncomputable def tabName : String := ((Tryd.prog.globals[3]?).map (·.name)).getD default
noncomputable def tabQ (w : World) : Prop := Lib.TabIs Tryd.prog w tabName .u64 Lib.pow10Tab
-- 3 laws.FnExactActText
noncomputable def fn3 : FnT := ⟨(Tryd.f3.body.getD .skip), 14, Tryd.f3.results.toList, [(.ap 3, .ln)], [(.bool, ⟨false, false, false, false, false⟩)], [], [], [], []⟩
-- 4 laws.FnExactJournalText
noncomputable def fn4 : FnT := ⟨(Tryd.f4.body.getD .skip), 27, Tryd.f4.results.toList, [(.sl (.ap 3), .ln)], [(.bool, ⟨false, false, false, false, false⟩)], [], [], [], []⟩
-- 10 spec.ActText
noncomputable def fn10 : FnT := ⟨(Tryd.f10.body.getD .skip), 23, Tryd.f10.results.toList, [(.ap 3, .ln)], [(.str, ⟨false, false, false, false, false⟩)], [], [], [], []⟩
-- 11 laws.toAct
noncomputable def fn11 : FnT := ⟨(Tryd.f11.body.getD .skip), 11, Tryd.f11.results.toList, [(.ap 3, .ln)], [(.ap 3, ⟨false, false, false, false, false⟩)], [], [], [], []⟩
-- 12 impl.ActText
noncomputable def fn12 : FnT := ⟨(Tryd.f12.body.getD .skip), 29, Tryd.f12.results.toList, [(.ap 3, .ln)], [(.str, ⟨false, false, false, false, false⟩)], [(1000009, [(1, .ptr), (3, .val false)])], [], [], []⟩
-- 13 laws.szActS
noncomputable def fn13 : FnT := ⟨(Tryd.f13.body.getD .skip), 12, Tryd.f13.results.toList, [(.sl (.ap 3), .ln), (.int .i64, .ln)], [(.int .i64, ⟨false, false, false, false, false⟩)], [], [], [], []⟩
-- 14 spec.JournalText
noncomputable def fn14 : FnT := ⟨(Tryd.f14.body.getD .skip), 26, Tryd.f14.results.toList, [(.sl (.ap 3), .ln)], [(.str, ⟨false, false, false, false, false⟩)], [(3, [(0, .val true), (3, .val false), (4, .val false)])], [], [], []⟩
-- 15 laws.toActS
noncomputable def fn15 : FnT := ⟨(Tryd.f15.body.getD .skip), 23, Tryd.f15.results.toList, [(.sl (.ap 3), .ln)], [(.sl (.ap 3), ⟨true, false, false, false, false⟩)], [(3, [(0, .val true), (3, .own false), (4, .val false)])], [7], [], []⟩
-- 16 impl.JournalText
noncomputable def fn16 : FnT := ⟨(Tryd.f16.body.getD .skip), 23, Tryd.f16.results.toList, [(.sl (.ap 3), .ln)], [(.str, ⟨false, false, false, false, false⟩)], [(3, [(3, .val false), (7, .val true), (8, .val false), (9, .val false)])], [], [], []⟩
-- 17 laws.eqActS
noncomputable def fn17 : FnT := ⟨(Tryd.f17.body.getD .skip), 27, Tryd.f17.results.toList, [(.sl (.ap 3), .ln), (.sl (.ap 3), .ln)], [(.bool, ⟨false, false, false, false, false⟩)], [(4, [(0, .val true), (1, .val true), (5, .val false)])], [], [], []⟩
-- 20 laws.eqAct
noncomputable def fn20 : FnT := ⟨(Tryd.f20.body.getD .skip), 15, Tryd.f20.results.toList, [(.ap 3, .ln), (.ap 3, .ln)], [(.bool, ⟨false, false, false, false, false⟩)], [], [], [], []⟩
-- 30 spec.l1In
noncomputable def fn30 : FnT := ⟨(Tryd.f30.body.getD .skip), 15, Tryd.f30.results.toList, [(.int .i64, .ln), (.int .i64, .ln), (.int .i64, .ln)], [(.bool, ⟨false, false, false, false, false⟩)], [], [], [], []⟩
-- 31 spec.l1Number
noncomputable def fn31 : FnT := ⟨(Tryd.f31.body.getD .skip), 20, Tryd.f31.results.toList, [(.int .i64, .ln)], [(.str, ⟨false, false, false, false, false⟩)], [], [], [], []⟩
-- 32 strconv.Itoa
noncomputable def fn32 : FnT := ⟨(Tryd.f32.body.getD .skip), 5, Tryd.f32.results.toList, [(.int .i64, .ln)], [(.str, ⟨false, false, false, false, false⟩)], [], [], [], []⟩
def tyOf : Nat → Option Ty
  | 3 => some (.int .i64)
  | 4 => some (.bool)
  | 5 => some (.int .u8)
  | 9 => some (.str)
  | 23 => some (.ap 3)
  | 25 => some (.ap 3)
  | 28 => some (.sl (.ap 3))
  | 31 => some (.sl (.ap 3))
  | 42 => some (.sl (.int .u8))
  | 49 => some (.sl (.str))
  | _ => none
noncomputable def tab : Tab := ⟨tyOf, (fun
  | 3 => some fn3
  | 4 => some fn4
  | 10 => some fn10
  | 11 => some fn11
  | 12 => some fn12
  | 13 => some fn13
  | 14 => some fn14
  | 15 => some fn15
  | 16 => some fn16
  | 17 => some fn17
  | 20 => some fn20
  | 30 => some fn30
  | 31 => some fn31
  | 32 => some fn32
  | _ => none), tabQ, fun _ => none, fun _ => false⟩
noncomputable def ext : Ext tab := fun
  | 32 => some (onInt tab 32 (fun x => x))
  | _ => none
noncomputable def laws_FnExactActText.f (k : Nat) (a0 : TwoInts) : Option Bool := runF tab ext k 3 [⟨.ap 3, a0⟩]
noncomputable def laws_FnExactJournalText.f (k : Nat) (a0 : List TwoInts) : Option Bool := runF tab ext k 4 [⟨.sl (.ap 3), a0⟩]
noncomputable def spec_ActText.f (k : Nat) (a0 : TwoInts) : Option (List UInt8) := runF tab ext k 10 [⟨.ap 3, a0⟩]
noncomputable def laws_toAct.f (k : Nat) (a0 : TwoInts) : Option TwoInts := runF tab ext k 11 [⟨.ap 3, a0⟩]
noncomputable def impl_ActText.f (k : Nat) (a0 : TwoInts) : Option (List UInt8) := runF tab ext k 12 [⟨.ap 3, a0⟩]
noncomputable def impl_ActText.j0 (k : Nat) (x1 : TwoInts) (x3 : List UInt8) : Option (List UInt8) := runL tab ext k 12 (todoAt tab 12 1000009) (stAt tab 12 [(1, .ptr 4 []), (3, mkVal false (.str) x3)] [(4, .box false (.ap 3) x1)])
noncomputable def laws_szActS.f (k : Nat) (a0 : List TwoInts) (a1 : Int) : Option Int := runF tab ext k 13 [⟨.sl (.ap 3), a0⟩, ⟨.int .i64, a1⟩]
noncomputable def spec_JournalText.f (k : Nat) (a0 : List TwoInts) : Option (List UInt8) := runF tab ext k 14 [⟨.sl (.ap 3), a0⟩]
noncomputable def spec_JournalText.l0 (k : Nat) (x0 : List TwoInts) (x3 : List UInt8) (x4 : Int) : Option (List UInt8) := runL tab ext k 14 (todoAt tab 14 3) (stAt tab 14 [(0, mkVal true (.sl (.ap 3)) x0), (3, mkVal false (.str) x3), (4, mkVal false (.int .i64) x4)] [])
noncomputable def laws_toActS.f (k : Nat) (a0 : List TwoInts) : Option (List TwoInts) := runF tab ext k 15 [⟨.sl (.ap 3), a0⟩]
noncomputable def laws_toActS.l0 (k : Nat) (x0 : List TwoInts) (x3 : List TwoInts) (x4 : Int) : Option (List TwoInts) := runL tab ext k 15 (todoAt tab 15 3) (stAt tab 15 [(0, mkVal true (.sl (.ap 3)) x0), (3, .ref 15), (4, mkVal false (.int .i64) x4)] [(15, .sl false false (.ap 3) x3)])
noncomputable def impl_JournalText.f (k : Nat) (a0 : List TwoInts) : Option (List UInt8) := runF tab ext k 16 [⟨.sl (.ap 3), a0⟩]
noncomputable def impl_JournalText.l0 (k : Nat) (x3 : List UInt8) (x7 : List TwoInts) (x8 : Int) (x9 : Int) : Option (List UInt8) := runL tab ext k 16 (todoAt tab 16 3) (stAt tab 16 [(3, mkVal false (.str) x3), (7, mkVal true (.sl (.ap 3)) x7), (8, mkVal false (.int .i64) x8), (9, mkVal false (.int .i64) x9)] [])
noncomputable def laws_eqActS.f (k : Nat) (a0 : List TwoInts) (a1 : List TwoInts) : Option Bool := runF tab ext k 17 [⟨.sl (.ap 3), a0⟩, ⟨.sl (.ap 3), a1⟩]
noncomputable def laws_eqActS.l0 (k : Nat) (x0 : List TwoInts) (x1 : List TwoInts) (x5 : Int) : Option Bool := runL tab ext k 17 (todoAt tab 17 4) (stAt tab 17 [(0, mkVal true (.sl (.ap 3)) x0), (1, mkVal true (.sl (.ap 3)) x1), (5, mkVal false (.int .i64) x5)] [])
noncomputable def laws_eqAct.f (k : Nat) (a0 : TwoInts) (a1 : TwoInts) : Option Bool := runF tab ext k 20 [⟨.ap 3, a0⟩, ⟨.ap 3, a1⟩]
noncomputable def spec_l1In.f (k : Nat) (a0 : Int) (a1 : Int) (a2 : Int) : Option Bool := runF tab ext k 30 [⟨.int .i64, a0⟩, ⟨.int .i64, a1⟩, ⟨.int .i64, a2⟩]
noncomputable def spec_l1Number.f (k : Nat) (a0 : Int) : Option (List UInt8) := runF tab ext k 31 [⟨.int .i64, a0⟩]
noncomputable def strconv_Itoa.f (k : Nat) (a0 : Int) : Option (List UInt8) := runF tab ext k 32 [⟨.int .i64, a0⟩]
end Go.Proofs.YtpahkabfmabneaaDoor.Eng
