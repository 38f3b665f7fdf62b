import Derived.Test.YtigeaijocajnhaaE2
import Derived.Test.YtigeaijocajnhaaProg
namespace Go.Proofs.Ytigeaijocajnhaa.Eng
open Go
-- 4 laws.FnBattleNew
noncomputable def fn4 : FnT := ⟨(Try.f4.body.getD .skip), 59, Try.f4.results.toList, [(.sl (.int .u8), .ln)], [(.bool, ⟨false, false, false, false⟩)], [(1000008, [(5, .ptr)])], []⟩
-- 15 spec.BattleNew
noncomputable def fn15 : FnT := ⟨(Try.f15.body.getD .skip), 23, Try.f15.results.toList, [(.sl (.int .i64), .ln), (.int .i64, .ln)], [(.ap 4, ⟨false, true, false, false⟩)], [], [14, 19]⟩
-- 17 impl.BattleNew
noncomputable def fn17 : FnT := ⟨(Try.f17.body.getD .skip), 23, Try.f17.results.toList, [(.sl (.int .i64), .ln), (.int .i64, .ln)], [(.ap 4, ⟨false, true, false, false⟩)], [], []⟩
-- 23 spec.DrawBattleNew
noncomputable def fn23 : FnT := ⟨(Try.f23.body.getD .skip), 15, Try.f23.results.toList, [(.sl (.int .u8), .ln)], [(.sl (.int .i64), ⟨true, false, false, false⟩), (.int .i64, ⟨false, false, false, false⟩)], [], [8]⟩
-- 24 laws.sameBattle
noncomputable def fn24 : FnT := ⟨(Try.f24.body.getD .skip), 31, Try.f24.results.toList, [(.ap 4, .ln), (.ap 4, .ln)], [(.bool, ⟨false, false, false, false⟩)], [], []⟩
-- 25 spec.HydraValid
noncomputable def fn25 : FnT := ⟨(Try.f25.body.getD .skip), 13, Try.f25.results.toList, [(.sl (.int .i64), .ln)], [(.bool, ⟨false, false, false, false⟩)], [], []⟩
-- 26 laws.noBattle
noncomputable def fn26 : FnT := ⟨(Try.f26.body.getD .skip), 6, Try.f26.results.toList, [(.ap 4, .ln)], [(.bool, ⟨false, false, false, false⟩)], [], []⟩
-- 27 laws.alive
noncomputable def fn27 : FnT := ⟨(Try.f27.body.getD .skip), 9, Try.f27.results.toList, [], [(.bool, ⟨false, false, false, false⟩)], [], []⟩
-- 28 impl.BattleValid
noncomputable def fn28 : FnT := ⟨(Try.f28.body.getD .skip), 22, Try.f28.results.toList, [(.ap 4, .ln)], [(.bool, ⟨false, false, false, false⟩)], [], []⟩
-- 29 laws.sameInts
noncomputable def fn29 : FnT := ⟨(Try.f29.body.getD .skip), 26, Try.f29.results.toList, [(.sl (.int .i64), .ln), (.sl (.int .i64), .ln)], [(.bool, ⟨false, false, false, false⟩)], [(4, [(0, .val true), (1, .val true), (5, .val true)])], []⟩
-- 57 spec.l1In
noncomputable def fn57 : FnT := ⟨(Try.f57.body.getD .skip), 15, Try.f57.results.toList, [(.int .i64, .ln), (.int .i64, .ln), (.int .i64, .ln)], [(.bool, ⟨false, false, false, false⟩)], [], []⟩
-- 58 impl.HydraValid
noncomputable def fn58 : FnT := ⟨(Try.f58.body.getD .skip), 11, Try.f58.results.toList, [(.sl (.int .i64), .ln)], [(.bool, ⟨false, false, false, false⟩)], [], []⟩
-- 59 slices.Clone[[]int,int]
noncomputable def fn59 : FnT := ⟨(Try.f59.body.getD .skip), 8, Try.f59.results.toList, [(.sl (.int .i64), .ln)], [(.sl (.int .i64), ⟨true, false, false, false⟩)], [], [5, 7]⟩
-- 61 spec.l20Open
noncomputable def fn61 : FnT := ⟨(Try.f61.body.getD .skip), 11, Try.f61.results.toList, [(.sl (.int .u8), .ln)], [(.pair (.sl (.int .u8)) (.pair (.int .i64) (.unit)), ⟨true, true, false, true⟩)], [], []⟩
-- 62 spec.l20Hydra
noncomputable def fn62 : FnT := ⟨(Try.f62.body.getD .skip), 52, Try.f62.results.toList, [(.pair (.sl (.int .u8)) (.pair (.int .i64) (.unit)), .ptr), (.int .i64, .ln)], [(.sl (.int .i64), ⟨true, false, false, false⟩)], [(3, [(0, .ptr), (1, .val true), (5, .own true), (6, .val true)]), (1000008, [(0, .ptr), (1, .val true), (5, .own true)])], [8, 27, 31, 37, 40, 43, 45, 47, 50]⟩
-- 63 (*spec.l20Rd).pick
noncomputable def fn63 : FnT := ⟨(Try.f63.body.getD .skip), 99, Try.f63.results.toList, [(.pair (.sl (.int .u8)) (.pair (.int .i64) (.unit)), .ptr), (.int .i64, .ln)], [(.int .i64, ⟨false, false, false, false⟩)], [], []⟩
-- 64 spec.l5End
noncomputable def fn64 : FnT := ⟨(Try.f64.body.getD .skip), 38, Try.f64.results.toList, [(.sl (.int .i64), .ln), (.int .i64, .ln)], [(.int .i64, ⟨false, false, false, false⟩)], [(6, [(0, .val true), (1, .val true), (5, .val true), (6, .val true)])], []⟩
-- 65 impl.OrdOf
noncomputable def fn65 : FnT := ⟨(Try.f65.body.getD .skip), 12, Try.f65.results.toList, [(.int .i64, .ln)], [(.sl (.int .i64), ⟨true, false, false, false⟩)], [], [11]⟩
-- 66 impl.HydraRun
noncomputable def fn66 : FnT := ⟨(Try.f66.body.getD .skip), 49, Try.f66.results.toList, [(.sl (.int .i64), .ln), (.sl (.int .i64), .ln), (.int .i64, .ln)], [(.sl (.int .i64), ⟨false, true, false, false⟩), (.bool, ⟨false, false, false, false⟩)], [(5, [(2, .val true), (8, .val true), (31, .val true), (32, .val true), (33, .val true)])], []⟩
-- 67 slices.Equal[[]int,int]
noncomputable def fn67 : FnT := ⟨(Try.f67.body.getD .skip), 26, Try.f67.results.toList, [(.sl (.int .i64), .ln), (.sl (.int .i64), .ln)], [(.bool, ⟨false, false, false, false⟩)], [(4, [(0, .val true), (1, .val true), (12, .val true), (13, .val true)])], []⟩
-- 80 impl.hydraOf
noncomputable def fn80 : FnT := ⟨(Try.f80.body.getD .skip), 28, Try.f80.results.toList, [(.sl (.int .i64), .ln)], [(.sl (.ap 1), ⟨false, true, false, false⟩), (.bool, ⟨false, false, false, false⟩)], [], []⟩
-- 86 (*spec.l20Rd).odd
noncomputable def fn86 : FnT := ⟨(Try.f86.body.getD .skip), 15, Try.f86.results.toList, [(.pair (.sl (.int .u8)) (.pair (.int .i64) (.unit)), .ptr), (.int .i64, .ln)], [(.bool, ⟨false, false, false, false⟩)], [], []⟩
-- 89 impl.HydraCut
noncomputable def fn89 : FnT := ⟨(Try.f89.body.getD .skip), 47, Try.f89.results.toList, [(.sl (.int .i64), .ln), (.int .i64, .ln), (.int .i64, .ln)], [(.sl (.int .i64), ⟨true, false, false, false⟩), (.bool, ⟨false, false, false, false⟩)], [], [44]⟩
-- 90 spec.l20Tree
noncomputable def fn90 : FnT := ⟨(Try.f90.body.getD .skip), 27, Try.f90.results.toList, [(.pair (.sl (.int .u8)) (.pair (.int .i64) (.unit)), .ptr), (.int .i64, .ln)], [(.sl (.int .i64), ⟨true, false, false, false⟩)], [(3, [(0, .ptr), (1, .val true), (5, .own true), (6, .val true)])], [7, 24, 26]⟩
-- 91 impl.rowOf
noncomputable def fn91 : FnT := ⟨(Try.f91.body.getD .skip), 27, Try.f91.results.toList, [(.sl (.ap 0), .ln)], [(.sl (.int .i64), ⟨true, false, false, false⟩)], [(3, [(3, .own true), (9, .val true), (10, .val true), (11, .val true)])], [8, 19, 24]⟩
-- 92 impl.number
noncomputable def fn92 : FnT := ⟨(Try.f92.body.getD .skip), 8, Try.f92.results.toList, [(.int .i64, .ln)], [(.sl (.ap 0), ⟨true, true, false, false⟩)], [], [7]⟩
-- 95 impl.takeHydra
noncomputable def fn95 : FnT := ⟨(Try.f95.body.getD .skip), 50, Try.f95.results.toList, [(.sl (.int .i64), .ln)], [(.sl (.ap 1), ⟨true, true, false, false⟩), (.sl (.int .i64), ⟨false, true, false, false⟩), (.bool, ⟨false, false, false, false⟩)], [(7, [(0, .val true), (6, .own true), (31, .val true), (32, .val true)])], [30, 45]⟩
-- 98 slices.Clip[[]int,int]
noncomputable def fn98 : FnT := ⟨(Try.f98.body.getD .skip), 9, Try.f98.results.toList, [(.sl (.int .i64), .mv)], [(.sl (.int .i64), ⟨true, false, false, false⟩)], [], [8]⟩
-- 105 (impl.hydra).heads
noncomputable def fn105 : FnT := ⟨(Try.f105.body.getD .skip), 23, Try.f105.results.toList, [(.sl (.ap 1), .ln)], [(.int .i64, ⟨false, false, false, false⟩)], [(3, [(3, .val true), (6, .val true), (7, .val true), (8, .val true)]), (1000007, [(3, .val true), (5, .val true), (6, .val true), (7, .val true), (8, .val true)])], []⟩
-- 106 (impl.hydra).cut
noncomputable def fn106 : FnT := ⟨(Try.f106.body.getD .skip), 75, Try.f106.results.toList, [(.sl (.ap 1), .ln), (.int .i64, .ptr), (.int .i64, .ln), (.bool, .ln)], [(.sl (.ap 1), ⟨false, true, false, false⟩), (.bool, ⟨false, false, false, false⟩)], [(2, [(0, .val true), (1, .ptr), (2, .val true), (15, .val true), (16, .val true), (17, .val true)]), (15, [(0, .val true), (1, .ptr), (10, .val true), (12, .val true), (14, .own true), (59, .val true), (60, .val true)]), (1000014, [(0, .val true), (1, .ptr), (2, .val true), (10, .val true), (12, .val true), (14, .own true)])], [56, 65]⟩
-- 107 impl.grown
noncomputable def fn107 : FnT := ⟨(Try.f107.body.getD .skip), 12, Try.f107.results.toList, [(.sl (.ap 1), .ln)], [(.sl (.int .i64), ⟨true, false, false, false⟩), (.bool, ⟨false, false, false, false⟩)], [], [6, 11]⟩
-- 108 spec.l5Tree
noncomputable def fn108 : FnT := ⟨(Try.f108.body.getD .skip), 21, Try.f108.results.toList, [(.sl (.sl (.int .i64)), .ln)], [(.sl (.int .i64), ⟨true, false, false, false⟩)], [(3, [(0, .val true), (3, .own true), (4, .val true)])], [7, 19]⟩
-- 115 slices.Clone[impl.hydra,impl.hydra]
noncomputable def fn115 : FnT := ⟨(Try.f115.body.getD .skip), 8, Try.f115.results.toList, [(.sl (.ap 1), .ln)], [(.sl (.ap 1), ⟨true, true, false, false⟩)], [], [5, 7]⟩
-- 116 (impl.hydra).row
noncomputable def fn116 : FnT := ⟨(Try.f116.body.getD .skip), 21, Try.f116.results.toList, [(.sl (.ap 1), .ln)], [(.sl (.int .i64), ⟨true, false, false, false⟩)], [(3, [(3, .own true), (9, .val true), (10, .val true), (11, .val true)])], [8, 18]⟩
def tyOf : Nat → Option Ty
  | 3 => some (.int .i64)
  | 4 => some (.bool)
  | 5 => some (.int .u8)
  | 22 => some (.sl (.int .i64))
  | 24 => some (.ap 4)
  | 32 => some (.sl (.int .u8))
  | 68 => some (.sl (.sl (.int .i64)))
  | 87 => some (.sl (.ap 1))
  | 92 => some (.sl (.ap 0))
  | 101 => some (.pair (.sl (.int .u8)) (.pair (.int .i64) (.unit)))
  | 112 => some (.ap 0)
  | _ => none
noncomputable def tab : Tab := ⟨tyOf, fun
  | 4 => some fn4
  | 15 => some fn15
  | 17 => some fn17
  | 23 => some fn23
  | 24 => some fn24
  | 25 => some fn25
  | 26 => some fn26
  | 27 => some fn27
  | 28 => some fn28
  | 29 => some fn29
  | 57 => some fn57
  | 58 => some fn58
  | 59 => some fn59
  | 61 => some fn61
  | 62 => some fn62
  | 63 => some fn63
  | 64 => some fn64
  | 65 => some fn65
  | 66 => some fn66
  | 67 => some fn67
  | 80 => some fn80
  | 86 => some fn86
  | 89 => some fn89
  | 90 => some fn90
  | 91 => some fn91
  | 92 => some fn92
  | 95 => some fn95
  | 98 => some fn98
  | 105 => some fn105
  | 106 => some fn106
  | 107 => some fn107
  | 108 => some fn108
  | 115 => some fn115
  | 116 => some fn116
  | _ => none⟩
noncomputable def ext : Ext tab := fun
  | 59 => some (onRow tab 59 (.int .i64) cloned)
  | 115 => some (onRow tab 115 (.ap 1) cloned)
  | _ => none
noncomputable def laws_FnBattleNew.f (k : Nat) (a0 : List Int) : Option Bool := runF tab ext k 4 [⟨.sl (.int .u8), a0⟩]
noncomputable def laws_FnBattleNew.j0 (k : Nat) (x5 : Battle) : Option Bool := runL tab ext k 4 (todoAt tab 4 1000008) (stAt tab 4 [(5, .ptr 20 [])] [(20, .box true (.ap 4) x5)])
noncomputable def spec_BattleNew.f (k : Nat) (a0 : List Int) (a1 : Int) : Option Battle := runF tab ext k 15 [⟨.sl (.int .i64), a0⟩, ⟨.int .i64, a1⟩]
noncomputable def impl_BattleNew.f (k : Nat) (a0 : List Int) (a1 : Int) : Option Battle := runF tab ext k 17 [⟨.sl (.int .i64), a0⟩, ⟨.int .i64, a1⟩]
noncomputable def spec_DrawBattleNew.f (k : Nat) (a0 : List Int) : Option (List Int × Int) := runF tab ext k 23 [⟨.sl (.int .u8), a0⟩]
noncomputable def laws_sameBattle.f (k : Nat) (a0 : Battle) (a1 : Battle) : Option Bool := runF tab ext k 24 [⟨.ap 4, a0⟩, ⟨.ap 4, a1⟩]
noncomputable def spec_HydraValid.f (k : Nat) (a0 : List Int) : Option Bool := runF tab ext k 25 [⟨.sl (.int .i64), a0⟩]
noncomputable def laws_noBattle.f (k : Nat) (a0 : Battle) : Option Bool := runF tab ext k 26 [⟨.ap 4, a0⟩]
noncomputable def laws_alive.f (k : Nat) : Option Bool := runF tab ext k 27 []
noncomputable def impl_BattleValid.f (k : Nat) (a0 : Battle) : Option Bool := runF tab ext k 28 [⟨.ap 4, a0⟩]
noncomputable def laws_sameInts.f (k : Nat) (a0 : List Int) (a1 : List Int) : Option Bool := runF tab ext k 29 [⟨.sl (.int .i64), a0⟩, ⟨.sl (.int .i64), a1⟩]
noncomputable def laws_sameInts.l0 (k : Nat) (x0 : List Int) (x1 : List Int) (x5 : Int) : Option Bool := runL tab ext k 29 (todoAt tab 29 4) (stAt tab 29 [(0, mkVal true (.sl (.int .i64)) x0), (1, mkVal true (.sl (.int .i64)) x1), (5, mkVal true (.int .i64) x5)] [])
noncomputable def spec_l1In.f (k : Nat) (a0 : Int) (a1 : Int) (a2 : Int) : Option Bool := runF tab ext k 57 [⟨.int .i64, a0⟩, ⟨.int .i64, a1⟩, ⟨.int .i64, a2⟩]
noncomputable def impl_HydraValid.f (k : Nat) (a0 : List Int) : Option Bool := runF tab ext k 58 [⟨.sl (.int .i64), a0⟩]
noncomputable def slices_Clone_int_int.f (k : Nat) (a0 : List Int) : Option (List Int) := runF tab ext k 59 [⟨.sl (.int .i64), a0⟩]
noncomputable def spec_l20Open.f (k : Nat) (a0 : List Int) : Option (List Int × (Int × Unit)) := runF tab ext k 61 [⟨.sl (.int .u8), a0⟩]
noncomputable def spec_l20Hydra.f (k : Nat) (a0_0 : List Int) (a0_1 : Int) (a1 : Int) : Option (List Int × (List Int × (Int × Unit))) := runF tab ext k 62 [⟨.pair (.sl (.int .u8)) (.pair (.int .i64) (.unit)), (a0_0, a0_1, ())⟩, ⟨.int .i64, a1⟩]
noncomputable def spec_l20Hydra.l0 (k : Nat) (x0_0 : List Int) (x0_1 : Int) (x1 : Int) (x5 : List Int) (x6 : Int) : Option (List Int × (List Int × (Int × Unit))) := runL tab ext k 62 (todoAt tab 62 3) (stAt tab 62 [(0, .ptr 0 []), (1, mkVal true (.int .i64) x1), (5, .ref 23), (6, mkVal true (.int .i64) x6)] [(0, .box true (.pair (.sl (.int .u8)) (.pair (.int .i64) (.unit))) (x0_0, x0_1, ())), (23, .sl false false (.int .i64) x5)])
noncomputable def spec_l20Hydra.j0 (k : Nat) (x0_0 : List Int) (x0_1 : Int) (x1 : Int) (x5 : List Int) : Option (List Int × (List Int × (Int × Unit))) := runL tab ext k 62 (todoAt tab 62 1000008) (stAt tab 62 [(0, .ptr 0 []), (1, mkVal true (.int .i64) x1), (5, .ref 23)] [(0, .box true (.pair (.sl (.int .u8)) (.pair (.int .i64) (.unit))) (x0_0, x0_1, ())), (23, .sl false false (.int .i64) x5)])
noncomputable def spec_l20Rd__pick.f (k : Nat) (a0_0 : List Int) (a0_1 : Int) (a1 : Int) : Option (Int × (List Int × (Int × Unit))) := runF tab ext k 63 [⟨.pair (.sl (.int .u8)) (.pair (.int .i64) (.unit)), (a0_0, a0_1, ())⟩, ⟨.int .i64, a1⟩]
noncomputable def spec_l5End.f (k : Nat) (a0 : List Int) (a1 : Int) : Option Int := runF tab ext k 64 [⟨.sl (.int .i64), a0⟩, ⟨.int .i64, a1⟩]
noncomputable def spec_l5End.l0 (k : Nat) (x0 : List Int) (x1 : Int) (x5 : Int) (x6 : Int) : Option Int := runL tab ext k 64 (todoAt tab 64 6) (stAt tab 64 [(0, mkVal true (.sl (.int .i64)) x0), (1, mkVal true (.int .i64) x1), (5, mkVal true (.int .i64) x5), (6, mkVal true (.int .i64) x6)] [])
noncomputable def impl_OrdOf.f (k : Nat) (a0 : Int) : Option (List Int) := runF tab ext k 65 [⟨.int .i64, a0⟩]
noncomputable def impl_HydraRun.f (k : Nat) (a0 : List Int) (a1 : List Int) (a2 : Int) : Option (List Int × Bool) := runF tab ext k 66 [⟨.sl (.int .i64), a0⟩, ⟨.sl (.int .i64), a1⟩, ⟨.int .i64, a2⟩]
noncomputable def impl_HydraRun.l0 (k : Nat) (x2 : Int) (x8 : List Int) (x31 : List Int) (x32 : Int) (x33 : Int) : Option (List Int × Bool) := runL tab ext k 66 (todoAt tab 66 5) (stAt tab 66 [(2, mkVal true (.int .i64) x2), (8, mkVal true (.sl (.int .i64)) x8), (31, mkVal true (.sl (.int .i64)) x31), (32, mkVal true (.int .i64) x32), (33, mkVal true (.int .i64) x33)] [])
noncomputable def slices_Equal_int_int.f (k : Nat) (a0 : List Int) (a1 : List Int) : Option Bool := runF tab ext k 67 [⟨.sl (.int .i64), a0⟩, ⟨.sl (.int .i64), a1⟩]
noncomputable def slices_Equal_int_int.l0 (k : Nat) (x0 : List Int) (x1 : List Int) (x12 : Int) (x13 : Int) : Option Bool := runL tab ext k 67 (todoAt tab 67 4) (stAt tab 67 [(0, mkVal true (.sl (.int .i64)) x0), (1, mkVal true (.sl (.int .i64)) x1), (12, mkVal true (.int .i64) x12), (13, mkVal true (.int .i64) x13)] [])
noncomputable def impl_hydraOf.f (k : Nat) (a0 : List Int) : Option (List Hydra × Bool) := runF tab ext k 80 [⟨.sl (.int .i64), a0⟩]
noncomputable def spec_l20Rd__odd.f (k : Nat) (a0_0 : List Int) (a0_1 : Int) (a1 : Int) : Option (Bool × (List Int × (Int × Unit))) := runF tab ext k 86 [⟨.pair (.sl (.int .u8)) (.pair (.int .i64) (.unit)), (a0_0, a0_1, ())⟩, ⟨.int .i64, a1⟩]
noncomputable def impl_HydraCut.f (k : Nat) (a0 : List Int) (a1 : Int) (a2 : Int) : Option (List Int × Bool) := runF tab ext k 89 [⟨.sl (.int .i64), a0⟩, ⟨.int .i64, a1⟩, ⟨.int .i64, a2⟩]
noncomputable def spec_l20Tree.f (k : Nat) (a0_0 : List Int) (a0_1 : Int) (a1 : Int) : Option (List Int × (List Int × (Int × Unit))) := runF tab ext k 90 [⟨.pair (.sl (.int .u8)) (.pair (.int .i64) (.unit)), (a0_0, a0_1, ())⟩, ⟨.int .i64, a1⟩]
noncomputable def spec_l20Tree.l0 (k : Nat) (x0_0 : List Int) (x0_1 : Int) (x1 : Int) (x5 : List (List Int)) (x6 : Int) : Option (List Int × (List Int × (Int × Unit))) := runL tab ext k 90 (todoAt tab 90 3) (stAt tab 90 [(0, .ptr 0 []), (1, mkVal true (.int .i64) x1), (5, .ref 23), (6, mkVal true (.int .i64) x6)] [(0, .box true (.pair (.sl (.int .u8)) (.pair (.int .i64) (.unit))) (x0_0, x0_1, ())), (23, .sl true false (.sl (.int .i64)) x5)])
noncomputable def impl_rowOf.f (k : Nat) (a0 : List Term) : Option (List Int) := runF tab ext k 91 [⟨.sl (.ap 0), a0⟩]
noncomputable def impl_rowOf.l0 (k : Nat) (x3 : List Int) (x9 : List Term) (x10 : Int) (x11 : Int) : Option (List Int) := runL tab ext k 91 (todoAt tab 91 3) (stAt tab 91 [(3, .ref 15), (9, mkVal true (.sl (.ap 0)) x9), (10, mkVal true (.int .i64) x10), (11, mkVal true (.int .i64) x11)] [(15, .sl false false (.int .i64) x3)])
noncomputable def impl_number.f (k : Nat) (a0 : Int) : Option (List Term) := runF tab ext k 92 [⟨.int .i64, a0⟩]
noncomputable def impl_takeHydra.f (k : Nat) (a0 : List Int) : Option (List Hydra × List Int × Bool) := runF tab ext k 95 [⟨.sl (.int .i64), a0⟩]
noncomputable def impl_takeHydra.l0 (k : Nat) (x0 : List Int) (x6 : List Hydra) (x31 : Int) (x32 : Int) : Option (List Hydra × List Int × Bool) := runL tab ext k 95 (todoAt tab 95 7) (stAt tab 95 [(0, mkVal true (.sl (.int .i64)) x0), (6, .ref 27), (31, mkVal true (.int .i64) x31), (32, mkVal true (.int .i64) x32)] [(27, .sl true false (.ap 1) x6)])
noncomputable def slices_Clip_int_int.f (k : Nat) (a0 : List Int) : Option (List Int) := runF tab ext k 98 [⟨.sl (.int .i64), a0⟩]
noncomputable def impl_hydra__heads.f (k : Nat) (a0 : List Hydra) : Option Int := runF tab ext k 105 [⟨.sl (.ap 1), a0⟩]
noncomputable def impl_hydra__heads.l0 (k : Nat) (x3 : Int) (x6 : List Hydra) (x7 : Int) (x8 : Int) : Option Int := runL tab ext k 105 (todoAt tab 105 3) (stAt tab 105 [(3, mkVal true (.int .i64) x3), (6, mkVal true (.sl (.ap 1)) x6), (7, mkVal true (.int .i64) x7), (8, mkVal true (.int .i64) x8)] [])
noncomputable def impl_hydra__heads.j0 (k : Nat) (x3 : Int) (x5 : List Hydra) (x6 : List Hydra) (x7 : Int) (x8 : Int) : Option Int := runL tab ext k 105 (todoAt tab 105 1000007) (stAt tab 105 [(3, mkVal true (.int .i64) x3), (5, mkVal true (.sl (.ap 1)) x5), (6, mkVal true (.sl (.ap 1)) x6), (7, mkVal true (.int .i64) x7), (8, mkVal true (.int .i64) x8)] [])
noncomputable def impl_hydra__cut.f (k : Nat) (a0 : List Hydra) (a1 : Int) (a2 : Int) (a3 : Bool) : Option (List Hydra × Bool × Int) := runF tab ext k 106 [⟨.sl (.ap 1), a0⟩, ⟨.int .i64, a1⟩, ⟨.int .i64, a2⟩, ⟨.bool, a3⟩]
noncomputable def impl_hydra__cut.l0 (k : Nat) (x0 : List Hydra) (x1 : Int) (x2 : Int) (x15 : List Hydra) (x16 : Int) (x17 : Int) : Option (List Hydra × Bool × Int) := runL tab ext k 106 (todoAt tab 106 2) (stAt tab 106 [(0, mkVal true (.sl (.ap 1)) x0), (1, .ptr 4 []), (2, mkVal true (.int .i64) x2), (15, mkVal true (.sl (.ap 1)) x15), (16, mkVal true (.int .i64) x16), (17, mkVal true (.int .i64) x17)] [(4, .box false (.int .i64) x1)])
noncomputable def impl_hydra__cut.j0 (k : Nat) (x0 : List Hydra) (x1 : Int) (x2 : Int) (x10 : Int) (x12 : List Hydra) (x14 : List Hydra) : Option (List Hydra × Bool × Int) := runL tab ext k 106 (todoAt tab 106 1000014) (stAt tab 106 [(0, mkVal true (.sl (.ap 1)) x0), (1, .ptr 4 []), (2, mkVal true (.int .i64) x2), (10, mkVal true (.int .i64) x10), (12, mkVal true (.sl (.ap 1)) x12), (14, .ref 59)] [(4, .box false (.int .i64) x1), (59, .sl true false (.ap 1) x14)])
noncomputable def impl_hydra__cut.l1 (k : Nat) (x0 : List Hydra) (x1 : Int) (x10 : Int) (x12 : List Hydra) (x14 : List Hydra) (x59 : Int) (x60 : Int) : Option (List Hydra × Bool × Int) := runL tab ext k 106 (todoAt tab 106 15) (stAt tab 106 [(0, mkVal true (.sl (.ap 1)) x0), (1, .ptr 4 []), (10, mkVal true (.int .i64) x10), (12, mkVal true (.sl (.ap 1)) x12), (14, .ref 59), (59, mkVal true (.int .i64) x59), (60, mkVal true (.int .i64) x60)] [(4, .box false (.int .i64) x1), (59, .sl true false (.ap 1) x14)])
noncomputable def impl_grown.f (k : Nat) (a0 : List Hydra) : Option (List Int × Bool) := runF tab ext k 107 [⟨.sl (.ap 1), a0⟩]
noncomputable def spec_l5Tree.f (k : Nat) (a0 : List (List Int)) : Option (List Int) := runF tab ext k 108 [⟨.sl (.sl (.int .i64)), a0⟩]
noncomputable def spec_l5Tree.l0 (k : Nat) (x0 : List (List Int)) (x3 : List Int) (x4 : Int) : Option (List Int) := runL tab ext k 108 (todoAt tab 108 3) (stAt tab 108 [(0, mkVal true (.sl (.sl (.int .i64))) x0), (3, .ref 15), (4, mkVal true (.int .i64) x4)] [(15, .sl false false (.int .i64) x3)])
noncomputable def slices_Clone_hydra_hydra.f (k : Nat) (a0 : List Hydra) : Option (List Hydra) := runF tab ext k 115 [⟨.sl (.ap 1), a0⟩]
noncomputable def impl_hydra__row.f (k : Nat) (a0 : List Hydra) : Option (List Int) := runF tab ext k 116 [⟨.sl (.ap 1), a0⟩]
noncomputable def impl_hydra__row.l0 (k : Nat) (x3 : List Int) (x9 : List Hydra) (x10 : Int) (x11 : Int) : Option (List Int) := runL tab ext k 116 (todoAt tab 116 3) (stAt tab 116 [(3, .ref 15), (9, mkVal true (.sl (.ap 1)) x9), (10, mkVal true (.int .i64) x10), (11, mkVal true (.int .i64) x11)] [(15, .sl false false (.int .i64) x3)])
end Go.Proofs.Ytigeaijocajnhaa.Eng
