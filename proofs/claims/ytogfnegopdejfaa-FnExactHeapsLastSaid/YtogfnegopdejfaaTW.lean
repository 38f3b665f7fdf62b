import Derived.Test.YtogfnegopdejfaaE2
import Derived.Test.YtogfnegopdejfaaProg
namespace Go.Proofs.Ytogfnegopdejfaa.Eng
open Go
-- 3 laws.FnExactHeapsReached
noncomputable def fn3 : FnT := ⟨(Try.f3.body.getD .skip), 90, Try.f3.results.toList, [(.sl (.int .i64), .ln), (.sl (.ap 2), .ln)], [(.bool, ⟨false, false, false, false, false⟩)], [], [28], [], []⟩
-- 4 laws.FnExactHeapsLast
noncomputable def fn4 : FnT := ⟨(Try.f4.body.getD .skip), 90, Try.f4.results.toList, [(.sl (.int .i64), .ln), (.sl (.ap 2), .ln)], [(.bool, ⟨false, false, false, false, false⟩)], [], [28], [], []⟩
-- 5 laws.szTradeS
noncomputable def fn5 : FnT := ⟨(Try.f5.body.getD .skip), 27, Try.f5.results.toList, [(.sl (.ap 2), .ln), (.int .i64, .ln)], [(.int .i64, ⟨false, false, false, false, false⟩)], [(5, [(0, .val true), (1, .val false), (5, .val false)])], [], [], []⟩
-- 6 spec.HeapsReached
noncomputable def fn6 : FnT := ⟨(Try.f6.body.getD .skip), 78, Try.f6.results.toList, [(.sl (.int .i64), .ln), (.sl (.ap 2), .ln)], [(.sl (.sl (.int .i64)), ⟨true, false, false, false, false⟩)], [(8, [(1, .val true), (5, .own false), (6, .own false), (7, .val false)]), (11, [(1, .val true), (5, .own false), (6, .own false), (7, .val false), (8, .val false)]), (1000015, [(1, .val true), (5, .own false), (6, .own false), (7, .val false), (8, .val false), (9, .val false)])], [11, 21, 23, 27, 72, 76], [], []⟩
-- 7 laws.toIntS
noncomputable def fn7 : FnT := ⟨(Try.f7.body.getD .skip), 22, Try.f7.results.toList, [(.sl (.int .i64), .ln)], [(.sl (.int .i64), ⟨true, false, false, false, false⟩)], [(3, [(0, .val true), (3, .own false), (4, .val false)])], [7], [], []⟩
-- 8 laws.toTradeS
noncomputable def fn8 : FnT := ⟨(Try.f8.body.getD .skip), 23, Try.f8.results.toList, [(.sl (.ap 2), .ln)], [(.sl (.ap 2), ⟨true, false, false, false, true⟩)], [(3, [(0, .val true), (3, .dp), (4, .val false)])], [20, 1000007], [], []⟩
-- 9 impl.HeapsReached
noncomputable def fn9 : FnT := ⟨(Try.f9.body.getD .skip), 71, Try.f9.results.toList, [(.sl (.int .i64), .ln), (.sl (.ap 2), .ln)], [(.sl (.sl (.int .i64)), ⟨true, false, false, false, true⟩)], [(6, [(1, .val true), (5, .sd), (6, .dp), (7, .val false)]), (9, [(1, .val true), (5, .sd), (6, .dp), (7, .val false), (34, .val true), (35, .val false), (36, .val false)])], [1000022, 1000064, 1000065, 2000021, 2000046], [], []⟩
-- 10 laws.eqIntSS
noncomputable def fn10 : FnT := ⟨(Try.f10.body.getD .skip), 27, Try.f10.results.toList, [(.sl (.sl (.int .i64)), .ln), (.sl (.sl (.int .i64)), .ln)], [(.bool, ⟨false, false, false, false, false⟩)], [(4, [(0, .val true), (1, .val true), (5, .val false)])], [], [], []⟩
-- 11 laws.eqIntS
noncomputable def fn11 : FnT := ⟨(Try.f11.body.getD .skip), 26, Try.f11.results.toList, [(.sl (.int .i64), .ln), (.sl (.int .i64), .ln)], [(.bool, ⟨false, false, false, false, false⟩)], [(4, [(0, .val true), (1, .val true), (5, .val false)])], [], [], []⟩
-- 12 laws.eqTradeS
noncomputable def fn12 : FnT := ⟨(Try.f12.body.getD .skip), 27, Try.f12.results.toList, [(.sl (.ap 2), .ln), (.sl (.ap 2), .ln)], [(.bool, ⟨false, false, false, false, false⟩)], [(4, [(0, .val true), (1, .val true), (5, .val false)])], [], [], []⟩
-- 13 laws.markIntS
noncomputable def fn13 : FnT := ⟨(Try.f13.body.getD .skip), 19, Try.f13.results.toList, [(.sl (.int .i64), .io), (.int .i64, .ln)], [(.int .i64, ⟨false, false, false, false, false⟩)], [(2, [(0, .ptr), (1, .val false), (5, .val false)])], [], [], []⟩
-- 14 laws.markTradeS
noncomputable def fn14 : FnT := ⟨(Try.f14.body.getD .skip), 27, Try.f14.results.toList, [(.sl (.ap 2), .dio), (.int .i64, .ln)], [(.int .i64, ⟨false, false, false, false, false⟩)], [(2, [(0, .val false), (1, .val false), (5, .val false)])], [], [], []⟩
-- 15 laws.markIntSS
noncomputable def fn15 : FnT := ⟨(Try.f15.body.getD .skip), 19, Try.f15.results.toList, [(.sl (.sl (.int .i64)), .dio), (.int .i64, .ln)], [(.int .i64, ⟨false, false, false, false, false⟩)], [(2, [(0, .val false), (1, .val false), (5, .val false)])], [], [], []⟩
-- 16 laws.heldIntSS
noncomputable def fn16 : FnT := ⟨(Try.f16.body.getD .skip), 21, Try.f16.results.toList, [(.sl (.sl (.int .i64)), .ln), (.int .i64, .ln)], [(.int .i64, ⟨false, false, false, false, false⟩)], [(2, [(0, .val true), (1, .val false), (5, .val false)])], [], [], []⟩
-- 17 spec.HeapsLast
noncomputable def fn17 : FnT := ⟨(Try.f17.body.getD .skip), 34, Try.f17.results.toList, [(.sl (.int .i64), .ln), (.sl (.ap 2), .ln)], [(.sl (.sl (.int .i64)), ⟨true, false, false, false, false⟩)], [(4, [(1, .val true), (5, .own false), (6, .val false), (7, .val false)])], [8, 32], [], []⟩
-- 18 impl.HeapsLast
noncomputable def fn18 : FnT := ⟨(Try.f18.body.getD .skip), 28, Try.f18.results.toList, [(.sl (.int .i64), .ln), (.sl (.ap 2), .ln)], [(.sl (.sl (.int .i64)), ⟨true, false, false, false, true⟩)], [(3, [(1, .val true), (5, .sd), (11, .sd), (12, .val false), (13, .val false)])], [1000008, 1000024, 1000025], [], []⟩
-- 19 laws.szTrade
noncomputable def fn19 : FnT := ⟨(Try.f19.body.getD .skip), 18, Try.f19.results.toList, [(.ap 2, .ln), (.int .i64, .ln)], [(.int .i64, ⟨false, false, false, false, false⟩)], [], [], [], []⟩
-- 20 spec.HeapsValid
noncomputable def fn20 : FnT := ⟨(Try.f20.body.getD .skip), 5, Try.f20.results.toList, [(.sl (.int .i64), .ln)], [(.bool, ⟨false, false, false, false, false⟩)], [], [], [], []⟩
-- 21 spec.TradesValid
noncomputable def fn21 : FnT := ⟨(Try.f21.body.getD .skip), 19, Try.f21.results.toList, [(.sl (.ap 2), .ln)], [(.bool, ⟨false, false, false, false, false⟩)], [(2, [(0, .val true), (3, .val false)])], [], [], []⟩
-- 22 spec.l8Code
noncomputable def fn22 : FnT := ⟨(Try.f22.body.getD .skip), 16, Try.f22.results.toList, [(.sl (.int .i64), .ln)], [(.int .i64, ⟨false, false, false, false, false⟩)], [], [], [], []⟩
-- 23 spec.TradeDo
noncomputable def fn23 : FnT := ⟨(Try.f23.body.getD .skip), 57, Try.f23.results.toList, [(.sl (.int .i64), .ln), (.ap 2, .ln)], [(.sl (.int .i64), ⟨true, false, false, false, false⟩), (.bool, ⟨false, false, false, false, false⟩)], [(5, [(0, .val true), (3, .ptr), (6, .own false), (7, .val false)])], [16, 17, 32, 51, 55], [], []⟩
-- 24 laws.toTrade
noncomputable def fn24 : FnT := ⟨(Try.f24.body.getD .skip), 13, Try.f24.results.toList, [(.ap 2, .ln)], [(.sl (.int .i64), ⟨true, false, false, false, false⟩), (.sl (.int .i64), ⟨true, false, false, false, false⟩)], [], [2, 3, 6, 10], [some (.ap 2)], []⟩
-- 25 impl.HeapsValid
noncomputable def fn25 : FnT := ⟨(Try.f25.body.getD .skip), 5, Try.f25.results.toList, [(.sl (.int .i64), .ln)], [(.bool, ⟨false, false, false, false, false⟩)], [], [], [], []⟩
-- 26 impl.TradesValid
noncomputable def fn26 : FnT := ⟨(Try.f26.body.getD .skip), 18, Try.f26.results.toList, [(.sl (.ap 2), .ln)], [(.bool, ⟨false, false, false, false, false⟩)], [(2, [(0, .val true), (5, .val true), (6, .val false), (7, .val false)])], [], [], []⟩
-- 27 slices.Clone[[]int,int]
noncomputable def fn27 : FnT := ⟨(Try.f27.body.getD .skip), 8, Try.f27.results.toList, [(.sl (.int .i64), .ln)], [(.sl (.int .i64), ⟨true, false, false, false, false⟩)], [], [5, 7], [], []⟩
-- 28 impl.traded
noncomputable def fn28 : FnT := ⟨(Try.f28.body.getD .skip), 58, Try.f28.results.toList, [(.sl (.int .i64), .ln), (.ap 2, .ln)], [(.sl (.int .i64), ⟨true, false, false, false, false⟩), (.bool, ⟨false, false, false, false, false⟩)], [(3, [(3, .ptr), (6, .own false), (10, .val true), (11, .val false), (12, .val false)])], [9, 55], [], []⟩
-- 29 laws.eqTrade
noncomputable def fn29 : FnT := ⟨(Try.f29.body.getD .skip), 17, Try.f29.results.toList, [(.ap 2, .ln), (.ap 2, .ln)], [(.bool, ⟨false, false, false, false, false⟩)], [], [], [], []⟩
-- 30 laws.heldIntS
noncomputable def fn30 : FnT := ⟨(Try.f30.body.getD .skip), 21, Try.f30.results.toList, [(.sl (.int .i64), .ln), (.int .i64, .ln)], [(.int .i64, ⟨false, false, false, false, false⟩)], [(2, [(0, .val true), (1, .val false), (5, .val false)])], [], [], []⟩
-- 31 spec.TradesMay
noncomputable def fn31 : FnT := ⟨(Try.f31.body.getD .skip), 35, Try.f31.results.toList, [(.sl (.int .i64), .ln), (.sl (.ap 2), .ln)], [(.sl (.int .i64), ⟨true, false, false, false, false⟩)], [(3, [(0, .val true), (1, .val true), (5, .own false), (6, .val false)])], [9, 33], [], []⟩
-- 32 impl.TradesMay
noncomputable def fn32 : FnT := ⟨(Try.f32.body.getD .skip), 39, Try.f32.results.toList, [(.sl (.int .i64), .ln), (.sl (.ap 2), .ln)], [(.sl (.int .i64), ⟨true, false, false, false, false⟩)], [(5, [(0, .val true), (5, .own false), (19, .val true), (20, .val false), (21, .val false)])], [18, 36], [], []⟩
-- 33 laws.szIntS
noncomputable def fn33 : FnT := ⟨(Try.f33.body.getD .skip), 12, Try.f33.results.toList, [(.sl (.int .i64), .ln), (.int .i64, .ln)], [(.int .i64, ⟨false, false, false, false, false⟩)], [], [], [], []⟩
-- 34 spec.l8List
noncomputable def fn34 : FnT := ⟨(Try.f34.body.getD .skip), 22, Try.f34.results.toList, [(.sl (.int .i64), .ln), (.int .i64, .ln)], [(.bool, ⟨false, false, false, false, false⟩)], [(2, [(0, .val true), (1, .val false), (5, .val false)])], [], [], []⟩
-- 35 spec.TradeValid
noncomputable def fn35 : FnT := ⟨(Try.f35.body.getD .skip), 11, Try.f35.results.toList, [(.ap 2, .ln)], [(.bool, ⟨false, false, false, false, false⟩)], [], [], [], []⟩
-- 36 impl.thingsOk
noncomputable def fn36 : FnT := ⟨(Try.f36.body.getD .skip), 24, Try.f36.results.toList, [(.sl (.int .i64), .ln), (.int .i64, .ln)], [(.bool, ⟨false, false, false, false, false⟩)], [(2, [(0, .val true), (1, .val false), (7, .val true), (8, .val false), (9, .val false)])], [], [], []⟩
-- 37 impl.TradeValid
noncomputable def fn37 : FnT := ⟨(Try.f37.body.getD .skip), 11, Try.f37.results.toList, [(.ap 2, .ln)], [(.bool, ⟨false, false, false, false, false⟩)], [], [], [], []⟩
-- 38 spec.l1In
noncomputable def fn38 : FnT := ⟨(Try.f38.body.getD .skip), 15, Try.f38.results.toList, [(.int .i64, .ln), (.int .i64, .ln), (.int .i64, .ln)], [(.bool, ⟨false, false, false, false, false⟩)], [], [], [], []⟩
def tyOf : Nat → Option Ty
  | 3 => some (.int .i64)
  | 4 => some (.bool)
  | 22 => some (.sl (.int .i64))
  | 23 => some (.sl (.ap 2))
  | 25 => some (.sl (.sl (.int .i64)))
  | 28 => some (.sl (.ap 2))
  | 39 => some (.ap 2)
  | 42 => some (.sl (.bool))
  | 46 => some (.ap 2)
  | 48 => some (.ap 5)
  | _ => none
noncomputable def tab : Tab := ⟨tyOf, (fun
  | 3 => some fn3
  | 4 => some fn4
  | 5 => some fn5
  | 6 => some fn6
  | 7 => some fn7
  | 8 => some fn8
  | 9 => some fn9
  | 10 => some fn10
  | 11 => some fn11
  | 12 => some fn12
  | 13 => some fn13
  | 14 => some fn14
  | 15 => some fn15
  | 16 => some fn16
  | 17 => some fn17
  | 18 => some fn18
  | 19 => some fn19
  | 20 => some fn20
  | 21 => some fn21
  | 22 => some fn22
  | 23 => some fn23
  | 24 => some fn24
  | 25 => some fn25
  | 26 => some fn26
  | 27 => some fn27
  | 28 => some fn28
  | 29 => some fn29
  | 30 => some fn30
  | 31 => some fn31
  | 32 => some fn32
  | 33 => some fn33
  | 34 => some fn34
  | 35 => some fn35
  | 36 => some fn36
  | 37 => some fn37
  | 38 => some fn38
  | _ => none), fun _ => True, (fun -- mp
  | 49 => some (.bool)
  | _ => none), fun _ => false⟩
noncomputable def ext : Ext tab := fun
  | 27 => some (onRow tab 27 (.int .i64) cloned)
  | 14 => some (onMark tab 14 (.ap 2) markT okT (fun a b => (a, b)))
  | 15 => some (onMark tab 15 (.sl (.int .i64)) markL okL (fun a b => (a, b)))
  | _ => none
noncomputable def laws_FnExactHeapsReached.f (k : Nat) (a0 : List Int) (a1 : List Trade) : Option Bool := runF tab ext k 3 [⟨.sl (.int .i64), a0⟩, ⟨.sl (.ap 2), a1⟩]
noncomputable def laws_FnExactHeapsLast.f (k : Nat) (a0 : List Int) (a1 : List Trade) : Option Bool := runF tab ext k 4 [⟨.sl (.int .i64), a0⟩, ⟨.sl (.ap 2), a1⟩]
noncomputable def laws_szTradeS.f (k : Nat) (a0 : List Trade) (a1 : Int) : Option Int := runF tab ext k 5 [⟨.sl (.ap 2), a0⟩, ⟨.int .i64, a1⟩]
noncomputable def laws_szTradeS.l0 (k : Nat) (x0 : List Trade) (x1 : Int) (x5 : Int) : Option Int := runL tab ext k 5 (todoAt tab 5 5) (stAt tab 5 [(0, mkVal true (.sl (.ap 2)) x0), (1, mkVal false (.int .i64) x1), (5, mkVal false (.int .i64) x5)] [])
noncomputable def spec_HeapsReached.f (k : Nat) (a0 : List Int) (a1 : List Trade) : Option (List (List Int)) := runF tab ext k 6 [⟨.sl (.int .i64), a0⟩, ⟨.sl (.ap 2), a1⟩]
noncomputable def spec_HeapsReached.l0 (k : Nat) (x1 : List Trade) (x5 : List (List Int)) (x6 : List Bool) (x7 : Int) : Option (List (List Int)) := runL tab ext k 6 (todoAt tab 6 8) (stAt tab 6 [(1, mkVal true (.sl (.ap 2)) x1), (5, .ref 23), (6, .ref 27), (7, mkVal false (.int .i64) x7)] [(23, .sl false false (.sl (.int .i64)) x5), (27, .sl false false (.bool) x6)])
noncomputable def spec_HeapsReached.l1 (k : Nat) (x1 : List Trade) (x5 : List (List Int)) (x6 : List Bool) (x7 : Int) (x8 : Int) : Option (List (List Int)) := runL tab ext k 6 (todoAt tab 6 11) (stAt tab 6 [(1, mkVal true (.sl (.ap 2)) x1), (5, .ref 23), (6, .ref 27), (7, mkVal false (.int .i64) x7), (8, mkVal false (.int .i64) x8)] [(23, .sl false false (.sl (.int .i64)) x5), (27, .sl false false (.bool) x6)])
noncomputable def spec_HeapsReached.j0 (k : Nat) (x1 : List Trade) (x5 : List (List Int)) (x6 : List Bool) (x7 : Int) (x8 : Int) (x9 : List Int) : Option (List (List Int)) := runL tab ext k 6 (todoAt tab 6 1000015) (stAt tab 6 [(1, mkVal true (.sl (.ap 2)) x1), (5, .ref 23), (6, .ref 27), (7, mkVal false (.int .i64) x7), (8, mkVal false (.int .i64) x8), (9, mkVal false (.sl (.int .i64)) x9)] [(23, .sl false false (.sl (.int .i64)) x5), (27, .sl false false (.bool) x6)])
noncomputable def laws_toIntS.f (k : Nat) (a0 : List Int) : Option (List Int) := runF tab ext k 7 [⟨.sl (.int .i64), a0⟩]
noncomputable def laws_toIntS.l0 (k : Nat) (x0 : List Int) (x3 : List Int) (x4 : Int) : Option (List Int) := runL tab ext k 7 (todoAt tab 7 3) (stAt tab 7 [(0, mkVal true (.sl (.int .i64)) x0), (3, .ref 15), (4, mkVal false (.int .i64) x4)] [(15, .sl false false (.int .i64) x3)])
noncomputable def laws_toTradeS.f (k : Nat) (a0 : List Trade) : Option (List Trade) := runF tab ext k 8 [⟨.sl (.ap 2), a0⟩]
noncomputable def laws_toTradeS.l0 (k : Nat) (x0 : List Trade) (x3 : List Trade) (x4 : Int) : Option (List Trade) := runL tab ext k 8 (todoAt tab 8 3) (stAt tab 8 [(0, mkVal true (.sl (.ap 2)) x0), (3, .ref 15), (4, mkVal false (.int .i64) x4)] [(15, .dp (.ap 2) x3)])
noncomputable def impl_HeapsReached.f (k : Nat) (a0 : List Int) (a1 : List Trade) : Option (List (List Int)) := runF tab ext k 9 [⟨.sl (.int .i64), a0⟩, ⟨.sl (.ap 2), a1⟩]
noncomputable def impl_HeapsReached.l0 (k : Nat) (x1 : List Trade) (x5 : List (List Int)) (x6 : List ((Int × Int × Int) × Bool)) (x7 : Int) : Option (List (List Int)) := runL tab ext k 9 (todoAt tab 9 6) (stAt tab 9 [(1, mkVal true (.sl (.ap 2)) x1), (5, .ref 23), (6, .ref 27), (7, mkVal false (.int .i64) x7)] [(23, .sd x5), (27, .mp (.bool) x6)])
noncomputable def impl_HeapsReached.l1 (k : Nat) (x1 : List Trade) (x5 : List (List Int)) (x6 : List ((Int × Int × Int) × Bool)) (x7 : Int) (x34 : List Trade) (x35 : Int) (x36 : Int) : Option (List (List Int)) := runL tab ext k 9 (todoAt tab 9 9) (stAt tab 9 [(1, mkVal true (.sl (.ap 2)) x1), (5, .ref 23), (6, .ref 27), (7, mkVal false (.int .i64) x7), (34, mkVal true (.sl (.ap 2)) x34), (35, mkVal false (.int .i64) x35), (36, mkVal false (.int .i64) x36)] [(23, .sd x5), (27, .mp (.bool) x6)])
noncomputable def laws_eqIntSS.f (k : Nat) (a0 : List (List Int)) (a1 : List (List Int)) : Option Bool := runF tab ext k 10 [⟨.sl (.sl (.int .i64)), a0⟩, ⟨.sl (.sl (.int .i64)), a1⟩]
noncomputable def laws_eqIntSS.l0 (k : Nat) (x0 : List (List Int)) (x1 : List (List Int)) (x5 : Int) : Option Bool := runL tab ext k 10 (todoAt tab 10 4) (stAt tab 10 [(0, mkVal true (.sl (.sl (.int .i64))) x0), (1, mkVal true (.sl (.sl (.int .i64))) x1), (5, mkVal false (.int .i64) x5)] [])
noncomputable def laws_eqIntS.f (k : Nat) (a0 : List Int) (a1 : List Int) : Option Bool := runF tab ext k 11 [⟨.sl (.int .i64), a0⟩, ⟨.sl (.int .i64), a1⟩]
noncomputable def laws_eqIntS.l0 (k : Nat) (x0 : List Int) (x1 : List Int) (x5 : Int) : Option Bool := runL tab ext k 11 (todoAt tab 11 4) (stAt tab 11 [(0, mkVal true (.sl (.int .i64)) x0), (1, mkVal true (.sl (.int .i64)) x1), (5, mkVal false (.int .i64) x5)] [])
noncomputable def laws_eqTradeS.f (k : Nat) (a0 : List Trade) (a1 : List Trade) : Option Bool := runF tab ext k 12 [⟨.sl (.ap 2), a0⟩, ⟨.sl (.ap 2), a1⟩]
noncomputable def laws_eqTradeS.l0 (k : Nat) (x0 : List Trade) (x1 : List Trade) (x5 : Int) : Option Bool := runL tab ext k 12 (todoAt tab 12 4) (stAt tab 12 [(0, mkVal true (.sl (.ap 2)) x0), (1, mkVal true (.sl (.ap 2)) x1), (5, mkVal false (.int .i64) x5)] [])
noncomputable def laws_markIntS.f (k : Nat) (a0 : List Int) (a1 : Int) : Option (Int × List Int) := runF tab ext k 13 [⟨.sl (.int .i64), a0⟩, ⟨.int .i64, a1⟩]
noncomputable def laws_markIntS.l0 (k : Nat) (x0 : List Int) (x1 : Int) (x5 : Int) : Option (Int × List Int) := runL tab ext k 13 (todoAt tab 13 2) (stAt tab 13 [(0, .ref 76), (1, mkVal false (.int .i64) x1), (5, mkVal false (.int .i64) x5)] [(76, .io false (.int .i64) x0)])
noncomputable def laws_markTradeS.f (k : Nat) (a0 : List Trade) (a1 : Int) : Option (Int × List Trade) := runF tab ext k 14 [⟨.sl (.ap 2), a0⟩, ⟨.int .i64, a1⟩]
noncomputable def laws_markIntSS.f (k : Nat) (a0 : List (List Int)) (a1 : Int) : Option (Int × List (List Int)) := runF tab ext k 15 [⟨.sl (.sl (.int .i64)), a0⟩, ⟨.int .i64, a1⟩]
noncomputable def laws_heldIntSS.f (k : Nat) (a0 : List (List Int)) (a1 : Int) : Option Int := runF tab ext k 16 [⟨.sl (.sl (.int .i64)), a0⟩, ⟨.int .i64, a1⟩]
noncomputable def laws_heldIntSS.l0 (k : Nat) (x0 : List (List Int)) (x1 : Int) (x5 : Int) : Option Int := runL tab ext k 16 (todoAt tab 16 2) (stAt tab 16 [(0, mkVal true (.sl (.sl (.int .i64))) x0), (1, mkVal false (.int .i64) x1), (5, mkVal false (.int .i64) x5)] [])
noncomputable def spec_HeapsLast.f (k : Nat) (a0 : List Int) (a1 : List Trade) : Option (List (List Int)) := runF tab ext k 17 [⟨.sl (.int .i64), a0⟩, ⟨.sl (.ap 2), a1⟩]
noncomputable def spec_HeapsLast.l0 (k : Nat) (x1 : List Trade) (x5 : List (List Int)) (x6 : List (List Int)) (x7 : Int) : Option (List (List Int)) := runL tab ext k 17 (todoAt tab 17 4) (stAt tab 17 [(1, mkVal true (.sl (.ap 2)) x1), (5, .ref 23), (6, mkVal false (.sl (.sl (.int .i64))) x6), (7, mkVal false (.int .i64) x7)] [(23, .sl false false (.sl (.int .i64)) x5)])
noncomputable def impl_HeapsLast.f (k : Nat) (a0 : List Int) (a1 : List Trade) : Option (List (List Int)) := runF tab ext k 18 [⟨.sl (.int .i64), a0⟩, ⟨.sl (.ap 2), a1⟩]
noncomputable def impl_HeapsLast.l0 (k : Nat) (x1 : List Trade) (x5 : List (List Int)) (x11 : List (List Int)) (x12 : Int) (x13 : Int) : Option (List (List Int)) := runL tab ext k 18 (todoAt tab 18 3) (stAt tab 18 [(1, mkVal true (.sl (.ap 2)) x1), (5, .ref 23), (11, .ref 47), (12, mkVal false (.int .i64) x12), (13, mkVal false (.int .i64) x13)] [(23, .sd x5), (47, .sd x11)])
noncomputable def laws_szTrade.f (k : Nat) (a0 : Trade) (a1 : Int) : Option Int := runF tab ext k 19 [⟨.ap 2, a0⟩, ⟨.int .i64, a1⟩]
noncomputable def spec_HeapsValid.f (k : Nat) (a0 : List Int) : Option Bool := runF tab ext k 20 [⟨.sl (.int .i64), a0⟩]
noncomputable def spec_TradesValid.f (k : Nat) (a0 : List Trade) : Option Bool := runF tab ext k 21 [⟨.sl (.ap 2), a0⟩]
noncomputable def spec_TradesValid.l0 (k : Nat) (x0 : List Trade) (x3 : Int) : Option Bool := runL tab ext k 21 (todoAt tab 21 2) (stAt tab 21 [(0, mkVal true (.sl (.ap 2)) x0), (3, mkVal false (.int .i64) x3)] [])
noncomputable def spec_l8Code.f (k : Nat) (a0 : List Int) : Option Int := runF tab ext k 22 [⟨.sl (.int .i64), a0⟩]
noncomputable def spec_TradeDo.f (k : Nat) (a0 : List Int) (a1 : Trade) : Option (List Int × Bool) := runF tab ext k 23 [⟨.sl (.int .i64), a0⟩, ⟨.ap 2, a1⟩]
noncomputable def spec_TradeDo.l0 (k : Nat) (x0 : List Int) (x3 : Trade) (x6 : List Int) (x7 : Int) : Option (List Int × Bool) := runL tab ext k 23 (todoAt tab 23 5) (stAt tab 23 [(0, mkVal true (.sl (.int .i64)) x0), (3, .ptr 12 []), (6, .ref 27), (7, mkVal false (.int .i64) x7)] [(12, .box true (.ap 2) x3), (27, .sl false false (.int .i64) x6)])
noncomputable def laws_toTrade.f (k : Nat) (a0 : Trade) : Option (List Int × List Int) := runF tab ext k 24 [⟨.ap 2, a0⟩]
noncomputable def impl_HeapsValid.f (k : Nat) (a0 : List Int) : Option Bool := runF tab ext k 25 [⟨.sl (.int .i64), a0⟩]
noncomputable def impl_TradesValid.f (k : Nat) (a0 : List Trade) : Option Bool := runF tab ext k 26 [⟨.sl (.ap 2), a0⟩]
noncomputable def impl_TradesValid.l0 (k : Nat) (x0 : List Trade) (x5 : List Trade) (x6 : Int) (x7 : Int) : Option Bool := runL tab ext k 26 (todoAt tab 26 2) (stAt tab 26 [(0, mkVal true (.sl (.ap 2)) x0), (5, mkVal true (.sl (.ap 2)) x5), (6, mkVal false (.int .i64) x6), (7, mkVal false (.int .i64) x7)] [])
noncomputable def slices_Clone_int_int.f (k : Nat) (a0 : List Int) : Option (List Int) := runF tab ext k 27 [⟨.sl (.int .i64), a0⟩]
noncomputable def impl_traded.f (k : Nat) (a0 : List Int) (a1 : Trade) : Option (List Int × Bool) := runF tab ext k 28 [⟨.sl (.int .i64), a0⟩, ⟨.ap 2, a1⟩]
noncomputable def impl_traded.l0 (k : Nat) (x3 : Trade) (x6 : List Int) (x10 : List Int) (x11 : Int) (x12 : Int) : Option (List Int × Bool) := runL tab ext k 28 (todoAt tab 28 3) (stAt tab 28 [(3, .ptr 12 []), (6, .ref 27), (10, mkVal true (.sl (.int .i64)) x10), (11, mkVal false (.int .i64) x11), (12, mkVal false (.int .i64) x12)] [(12, .box true (.ap 2) x3), (27, .sl false false (.int .i64) x6)])
noncomputable def laws_eqTrade.f (k : Nat) (a0 : Trade) (a1 : Trade) : Option Bool := runF tab ext k 29 [⟨.ap 2, a0⟩, ⟨.ap 2, a1⟩]
noncomputable def laws_heldIntS.f (k : Nat) (a0 : List Int) (a1 : Int) : Option Int := runF tab ext k 30 [⟨.sl (.int .i64), a0⟩, ⟨.int .i64, a1⟩]
noncomputable def laws_heldIntS.l0 (k : Nat) (x0 : List Int) (x1 : Int) (x5 : Int) : Option Int := runL tab ext k 30 (todoAt tab 30 2) (stAt tab 30 [(0, mkVal true (.sl (.int .i64)) x0), (1, mkVal false (.int .i64) x1), (5, mkVal false (.int .i64) x5)] [])
noncomputable def spec_TradesMay.f (k : Nat) (a0 : List Int) (a1 : List Trade) : Option (List Int) := runF tab ext k 31 [⟨.sl (.int .i64), a0⟩, ⟨.sl (.ap 2), a1⟩]
noncomputable def spec_TradesMay.l0 (k : Nat) (x0 : List Int) (x1 : List Trade) (x5 : List Int) (x6 : Int) : Option (List Int) := runL tab ext k 31 (todoAt tab 31 3) (stAt tab 31 [(0, mkVal true (.sl (.int .i64)) x0), (1, mkVal true (.sl (.ap 2)) x1), (5, .ref 23), (6, mkVal false (.int .i64) x6)] [(23, .sl false false (.int .i64) x5)])
noncomputable def impl_TradesMay.f (k : Nat) (a0 : List Int) (a1 : List Trade) : Option (List Int) := runF tab ext k 32 [⟨.sl (.int .i64), a0⟩, ⟨.sl (.ap 2), a1⟩]
noncomputable def impl_TradesMay.l0 (k : Nat) (x0 : List Int) (x5 : List Int) (x19 : List Trade) (x20 : Int) (x21 : Int) : Option (List Int) := runL tab ext k 32 (todoAt tab 32 5) (stAt tab 32 [(0, mkVal true (.sl (.int .i64)) x0), (5, .ref 23), (19, mkVal true (.sl (.ap 2)) x19), (20, mkVal false (.int .i64) x20), (21, mkVal false (.int .i64) x21)] [(23, .sl false false (.int .i64) x5)])
noncomputable def laws_szIntS.f (k : Nat) (a0 : List Int) (a1 : Int) : Option Int := runF tab ext k 33 [⟨.sl (.int .i64), a0⟩, ⟨.int .i64, a1⟩]
noncomputable def spec_l8List.f (k : Nat) (a0 : List Int) (a1 : Int) : Option Bool := runF tab ext k 34 [⟨.sl (.int .i64), a0⟩, ⟨.int .i64, a1⟩]
noncomputable def spec_l8List.l0 (k : Nat) (x0 : List Int) (x1 : Int) (x5 : Int) : Option Bool := runL tab ext k 34 (todoAt tab 34 2) (stAt tab 34 [(0, mkVal true (.sl (.int .i64)) x0), (1, mkVal false (.int .i64) x1), (5, mkVal false (.int .i64) x5)] [])
noncomputable def spec_TradeValid.f (k : Nat) (a0 : Trade) : Option Bool := runF tab ext k 35 [⟨.ap 2, a0⟩]
noncomputable def impl_thingsOk.f (k : Nat) (a0 : List Int) (a1 : Int) : Option Bool := runF tab ext k 36 [⟨.sl (.int .i64), a0⟩, ⟨.int .i64, a1⟩]
noncomputable def impl_thingsOk.l0 (k : Nat) (x0 : List Int) (x1 : Int) (x7 : List Int) (x8 : Int) (x9 : Int) : Option Bool := runL tab ext k 36 (todoAt tab 36 2) (stAt tab 36 [(0, mkVal true (.sl (.int .i64)) x0), (1, mkVal false (.int .i64) x1), (7, mkVal true (.sl (.int .i64)) x7), (8, mkVal false (.int .i64) x8), (9, mkVal false (.int .i64) x9)] [])
noncomputable def impl_TradeValid.f (k : Nat) (a0 : Trade) : Option Bool := runF tab ext k 37 [⟨.ap 2, a0⟩]
noncomputable def spec_l1In.f (k : Nat) (a0 : Int) (a1 : Int) (a2 : Int) : Option Bool := runF tab ext k 38 [⟨.int .i64, a0⟩, ⟨.int .i64, a1⟩, ⟨.int .i64, a2⟩]
end Go.Proofs.Ytogfnegopdejfaa.Eng
