import Derived.Test.YtgibeillafnieaaE2
import Derived.Test.YtgibeillafnieaaProg
namespace Go.Proofs.Ytgibeillafnieaa.Eng
open Go
-- 5 laws.FnExactLongestTrades
noncomputable def fn5 : FnT := ⟨(Try.f5.body.getD .skip), 43, Try.f5.results.toList, [(.sl (.int .i64), .ln), (.sl (.ap 2), .ln)], [(.bool, ⟨false, false, false, false, false⟩)], [], [], [], []⟩
-- 14 laws.szTradeS
noncomputable def fn14 : FnT := ⟨(Try.f14.body.getD .skip), 27, Try.f14.results.toList, [(.sl (.ap 2), .ln), (.int .i64, .ln)], [(.int .i64, ⟨false, false, false, false, false⟩)], [(5, [(0, .val true), (1, .val false), (5, .val false)])], [], [], []⟩
-- 15 spec.HeapsReached
noncomputable def fn15 : FnT := ⟨(Try.f15.body.getD .skip), 78, Try.f15.results.toList, [(.sl (.int .i64), .ln), (.sl (.ap 2), .ln)], [(.sl (.sl (.int .i64)), ⟨true, false, false, false, false⟩)], [(8, [(1, .val true), (5, .own false), (6, .own false), (7, .val false)]), (11, [(1, .val true), (5, .own false), (6, .own false), (7, .val false), (8, .val false)]), (1000015, [(1, .val true), (5, .own false), (6, .own false), (7, .val false), (8, .val false), (9, .val false)])], [11, 21, 23, 27, 72, 76], [], []⟩
-- 16 laws.toIntS
noncomputable def fn16 : FnT := ⟨(Try.f16.body.getD .skip), 22, Try.f16.results.toList, [(.sl (.int .i64), .ln)], [(.sl (.int .i64), ⟨true, false, false, false, false⟩)], [(3, [(0, .val true), (3, .own false), (4, .val false)])], [7], [], []⟩
-- 17 laws.toTradeS
noncomputable def fn17 : FnT := ⟨(Try.f17.body.getD .skip), 23, Try.f17.results.toList, [(.sl (.ap 2), .ln)], [(.sl (.ap 2), ⟨true, false, false, false, true⟩)], [(3, [(0, .val true), (3, .dp), (4, .val false)])], [20, 1000007], [], []⟩
-- 18 impl.HeapsReached
noncomputable def fn18 : FnT := ⟨(Try.f18.body.getD .skip), 71, Try.f18.results.toList, [(.sl (.int .i64), .ln), (.sl (.ap 2), .ln)], [(.sl (.sl (.int .i64)), ⟨true, false, true, false, false⟩)], [(6, [(1, .val true), (5, .own false), (6, .dp), (7, .val false)]), (9, [(1, .val true), (5, .own false), (6, .dp), (7, .val false), (34, .val true), (35, .val false), (36, .val false)])], [22, 65], [], []⟩
-- 20 laws.eqIntS
noncomputable def fn20 : FnT := ⟨(Try.f20.body.getD .skip), 26, Try.f20.results.toList, [(.sl (.int .i64), .ln), (.sl (.int .i64), .ln)], [(.bool, ⟨false, false, false, false, false⟩)], [(4, [(0, .val true), (1, .val true), (5, .val false)])], [], [], []⟩
-- 21 laws.eqTradeS
noncomputable def fn21 : FnT := ⟨(Try.f21.body.getD .skip), 27, Try.f21.results.toList, [(.sl (.ap 2), .ln), (.sl (.ap 2), .ln)], [(.bool, ⟨false, false, false, false, false⟩)], [(4, [(0, .val true), (1, .val true), (5, .val false)])], [], [], []⟩
-- 32 spec.LongestTrades
noncomputable def fn32 : FnT := ⟨(Try.f32.body.getD .skip), 106, Try.f32.results.toList, [(.sl (.int .i64), .ln), (.sl (.ap 2), .ln)], [(.int .i64, ⟨false, false, false, false, false⟩)], [(6, [(1, .val true), (5, .val false), (6, .own false), (7, .val false)]), (10, [(1, .val true), (5, .val false), (6, .own false), (8, .val false)]), (14, [(1, .val true), (5, .val false), (6, .own false), (8, .val false), (9, .val false), (10, .val false)]), (19, [(1, .val true), (5, .val false), (6, .own false), (8, .val false), (9, .val false), (10, .val false), (11, .val false), (12, .val false)])], [22, 31], [], []⟩
-- 33 impl.LongestTrades
noncomputable def fn33 : FnT := ⟨(Try.f33.body.getD .skip), 74, Try.f33.results.toList, [(.sl (.int .i64), .ln), (.sl (.ap 2), .ln)], [(.int .i64, ⟨false, false, false, false, false⟩)], [(6, [(0, .val true), (1, .val true), (5, .val false), (6, .dp), (22, .val false), (23, .val false)]), (9, [(0, .val true), (1, .val true), (5, .val false), (6, .dp), (7, .val false), (22, .val false), (23, .val false), (25, .val false), (26, .val false), (27, .val false)]), (13, [(0, .val true), (1, .val true), (5, .val false), (6, .dp), (7, .val false), (9, .val false), (10, .val false), (22, .val false), (23, .val false), (25, .val false), (26, .val false), (27, .val false), (31, .val true), (32, .val false), (33, .val false)])], [17], [], []⟩
-- 37 impl.HeapsValid
noncomputable def fn37 : FnT := ⟨(Try.f37.body.getD .skip), 5, Try.f37.results.toList, [(.sl (.int .i64), .ln)], [(.bool, ⟨false, false, false, false, false⟩)], [], [], [], []⟩
-- 55 laws.szTrade
noncomputable def fn55 : FnT := ⟨(Try.f55.body.getD .skip), 18, Try.f55.results.toList, [(.ap 2, .ln), (.int .i64, .ln)], [(.int .i64, ⟨false, false, false, false, false⟩)], [], [], [], []⟩
-- 56 spec.HeapsValid
noncomputable def fn56 : FnT := ⟨(Try.f56.body.getD .skip), 5, Try.f56.results.toList, [(.sl (.int .i64), .ln)], [(.bool, ⟨false, false, false, false, false⟩)], [], [], [], []⟩
-- 57 spec.TradesValid
noncomputable def fn57 : FnT := ⟨(Try.f57.body.getD .skip), 19, Try.f57.results.toList, [(.sl (.ap 2), .ln)], [(.bool, ⟨false, false, false, false, false⟩)], [(2, [(0, .val true), (3, .val false)])], [], [], []⟩
-- 58 spec.l8Code
noncomputable def fn58 : FnT := ⟨(Try.f58.body.getD .skip), 16, Try.f58.results.toList, [(.sl (.int .i64), .ln)], [(.int .i64, ⟨false, false, false, false, false⟩)], [], [], [], []⟩
-- 59 spec.TradeDo
noncomputable def fn59 : FnT := ⟨(Try.f59.body.getD .skip), 57, Try.f59.results.toList, [(.sl (.int .i64), .ln), (.ap 2, .ln)], [(.sl (.int .i64), ⟨true, false, false, false, false⟩), (.bool, ⟨false, false, false, false, false⟩)], [(5, [(0, .val true), (3, .ptr), (6, .own false), (7, .val false)])], [16, 17, 32, 51, 55], [], []⟩
-- 60 laws.toTrade
noncomputable def fn60 : FnT := ⟨(Try.f60.body.getD .skip), 13, Try.f60.results.toList, [(.ap 2, .ln)], [(.sl (.int .i64), ⟨true, false, false, false, false⟩), (.sl (.int .i64), ⟨true, false, false, false, false⟩)], [], [2, 3, 6, 10], [some (.ap 2)], []⟩
-- 61 impl.TradesValid
noncomputable def fn61 : FnT := ⟨(Try.f61.body.getD .skip), 18, Try.f61.results.toList, [(.sl (.ap 2), .ln)], [(.bool, ⟨false, false, false, false, false⟩)], [(2, [(0, .val true), (5, .val true), (6, .val false), (7, .val false)])], [], [], []⟩
-- 62 slices.Clone[[]int,int]
noncomputable def fn62 : FnT := ⟨(Try.f62.body.getD .skip), 8, Try.f62.results.toList, [(.sl (.int .i64), .ln)], [(.sl (.int .i64), ⟨true, false, false, false, false⟩)], [], [5, 7], [], []⟩
-- 63 impl.traded
noncomputable def fn63 : FnT := ⟨(Try.f63.body.getD .skip), 58, Try.f63.results.toList, [(.sl (.int .i64), .ln), (.ap 2, .ln)], [(.sl (.int .i64), ⟨true, false, false, false, false⟩), (.bool, ⟨false, false, false, false, false⟩)], [(3, [(3, .ptr), (6, .own false), (10, .val true), (11, .val false), (12, .val false)])], [9, 55], [], []⟩
-- 64 laws.eqTrade
noncomputable def fn64 : FnT := ⟨(Try.f64.body.getD .skip), 17, Try.f64.results.toList, [(.ap 2, .ln), (.ap 2, .ln)], [(.bool, ⟨false, false, false, false, false⟩)], [], [], [], []⟩
-- 66 impl.TradeValid
noncomputable def fn66 : FnT := ⟨(Try.f66.body.getD .skip), 11, Try.f66.results.toList, [(.ap 2, .ln)], [(.bool, ⟨false, false, false, false, false⟩)], [], [], [], []⟩
-- 67 spec.l8Index
noncomputable def fn67 : FnT := ⟨(Try.f67.body.getD .skip), 16, Try.f67.results.toList, [(.sl (.sl (.int .i64)), .ln), (.sl (.int .i64), .ln)], [(.int .i64, ⟨false, false, false, false, false⟩)], [(2, [(0, .val true), (1, .val true), (5, .val false)])], [], [], []⟩
-- 74 spec.l1In
noncomputable def fn74 : FnT := ⟨(Try.f74.body.getD .skip), 15, Try.f74.results.toList, [(.int .i64, .ln), (.int .i64, .ln), (.int .i64, .ln)], [(.bool, ⟨false, false, false, false, false⟩)], [], [], [], []⟩
-- 75 impl.thingsOk
noncomputable def fn75 : FnT := ⟨(Try.f75.body.getD .skip), 24, Try.f75.results.toList, [(.sl (.int .i64), .ln), (.int .i64, .ln)], [(.bool, ⟨false, false, false, false, false⟩)], [(2, [(0, .val true), (1, .val false), (7, .val true), (8, .val false), (9, .val false)])], [], [], []⟩
-- 82 laws.szIntS
noncomputable def fn82 : FnT := ⟨(Try.f82.body.getD .skip), 12, Try.f82.results.toList, [(.sl (.int .i64), .ln), (.int .i64, .ln)], [(.int .i64, ⟨false, false, false, false, false⟩)], [], [], [], []⟩
-- 85 spec.l8List
noncomputable def fn85 : FnT := ⟨(Try.f85.body.getD .skip), 22, Try.f85.results.toList, [(.sl (.int .i64), .ln), (.int .i64, .ln)], [(.bool, ⟨false, false, false, false, false⟩)], [(2, [(0, .val true), (1, .val false), (5, .val false)])], [], [], []⟩
-- 86 spec.TradeValid
noncomputable def fn86 : FnT := ⟨(Try.f86.body.getD .skip), 11, Try.f86.results.toList, [(.ap 2, .ln)], [(.bool, ⟨false, false, false, false, false⟩)], [], [], [], []⟩
-- 89 spec.l1Same
noncomputable def fn89 : FnT := ⟨(Try.f89.body.getD .skip), 32, Try.f89.results.toList, [(.sl (.int .i64), .ln), (.sl (.int .i64), .ln)], [(.bool, ⟨false, false, false, false, false⟩)], [(2, [(0, .val true), (1, .val true), (5, .val false)])], [], [], []⟩
def tyOf : Nat → Option Ty
  | 3 => some (.int .i64)
  | 4 => some (.bool)
  | 22 => some (.sl (.int .i64))
  | 23 => some (.sl (.ap 2))
  | 25 => some (.sl (.sl (.int .i64)))
  | 28 => some (.sl (.ap 2))
  | 45 => some (.ap 2)
  | 65 => some (.ap 2)
  | 67 => some (.sl (.bool))
  | 70 => some (.ap 5)
  | _ => none
noncomputable def tab : Tab := ⟨tyOf, (fun
  | 5 => some fn5
  | 14 => some fn14
  | 15 => some fn15
  | 16 => some fn16
  | 17 => some fn17
  | 18 => some fn18
  | 20 => some fn20
  | 21 => some fn21
  | 32 => some fn32
  | 33 => some fn33
  | 37 => some fn37
  | 55 => some fn55
  | 56 => some fn56
  | 57 => some fn57
  | 58 => some fn58
  | 59 => some fn59
  | 60 => some fn60
  | 61 => some fn61
  | 62 => some fn62
  | 63 => some fn63
  | 64 => some fn64
  | 66 => some fn66
  | 67 => some fn67
  | 74 => some fn74
  | 75 => some fn75
  | 82 => some fn82
  | 85 => some fn85
  | 86 => some fn86
  | 89 => some fn89
  | _ => none), fun _ => True, (fun -- mp
  | 71 => some (.bool)
  | 76 => some (.int .i64)
  | _ => none), fun _ => false⟩
noncomputable def ext : Ext tab := fun
  | 62 => some (onRow tab 62 (.int .i64) cloned)
  | _ => none
noncomputable def laws_FnExactLongestTrades.f (k : Nat) (a0 : List Int) (a1 : List Trade) : Option Bool := runF tab ext k 5 [⟨.sl (.int .i64), a0⟩, ⟨.sl (.ap 2), a1⟩]
noncomputable def laws_szTradeS.f (k : Nat) (a0 : List Trade) (a1 : Int) : Option Int := runF tab ext k 14 [⟨.sl (.ap 2), a0⟩, ⟨.int .i64, a1⟩]
noncomputable def laws_szTradeS.l0 (k : Nat) (x0 : List Trade) (x1 : Int) (x5 : Int) : Option Int := runL tab ext k 14 (todoAt tab 14 5) (stAt tab 14 [(0, mkVal true (.sl (.ap 2)) x0), (1, mkVal false (.int .i64) x1), (5, mkVal false (.int .i64) x5)] [])
noncomputable def spec_HeapsReached.f (k : Nat) (a0 : List Int) (a1 : List Trade) : Option (List (List Int)) := runF tab ext k 15 [⟨.sl (.int .i64), a0⟩, ⟨.sl (.ap 2), a1⟩]
noncomputable def spec_HeapsReached.l0 (k : Nat) (x1 : List Trade) (x5 : List (List Int)) (x6 : List Bool) (x7 : Int) : Option (List (List Int)) := runL tab ext k 15 (todoAt tab 15 8) (stAt tab 15 [(1, mkVal true (.sl (.ap 2)) x1), (5, .ref 23), (6, .ref 27), (7, mkVal false (.int .i64) x7)] [(23, .sl false false (.sl (.int .i64)) x5), (27, .sl false false (.bool) x6)])
noncomputable def spec_HeapsReached.l1 (k : Nat) (x1 : List Trade) (x5 : List (List Int)) (x6 : List Bool) (x7 : Int) (x8 : Int) : Option (List (List Int)) := runL tab ext k 15 (todoAt tab 15 11) (stAt tab 15 [(1, mkVal true (.sl (.ap 2)) x1), (5, .ref 23), (6, .ref 27), (7, mkVal false (.int .i64) x7), (8, mkVal false (.int .i64) x8)] [(23, .sl false false (.sl (.int .i64)) x5), (27, .sl false false (.bool) x6)])
noncomputable def spec_HeapsReached.j0 (k : Nat) (x1 : List Trade) (x5 : List (List Int)) (x6 : List Bool) (x7 : Int) (x8 : Int) (x9 : List Int) : Option (List (List Int)) := runL tab ext k 15 (todoAt tab 15 1000015) (stAt tab 15 [(1, mkVal true (.sl (.ap 2)) x1), (5, .ref 23), (6, .ref 27), (7, mkVal false (.int .i64) x7), (8, mkVal false (.int .i64) x8), (9, mkVal false (.sl (.int .i64)) x9)] [(23, .sl false false (.sl (.int .i64)) x5), (27, .sl false false (.bool) x6)])
noncomputable def laws_toIntS.f (k : Nat) (a0 : List Int) : Option (List Int) := runF tab ext k 16 [⟨.sl (.int .i64), a0⟩]
noncomputable def laws_toIntS.l0 (k : Nat) (x0 : List Int) (x3 : List Int) (x4 : Int) : Option (List Int) := runL tab ext k 16 (todoAt tab 16 3) (stAt tab 16 [(0, mkVal true (.sl (.int .i64)) x0), (3, .ref 15), (4, mkVal false (.int .i64) x4)] [(15, .sl false false (.int .i64) x3)])
noncomputable def laws_toTradeS.f (k : Nat) (a0 : List Trade) : Option (List Trade) := runF tab ext k 17 [⟨.sl (.ap 2), a0⟩]
noncomputable def laws_toTradeS.l0 (k : Nat) (x0 : List Trade) (x3 : List Trade) (x4 : Int) : Option (List Trade) := runL tab ext k 17 (todoAt tab 17 3) (stAt tab 17 [(0, mkVal true (.sl (.ap 2)) x0), (3, .ref 15), (4, mkVal false (.int .i64) x4)] [(15, .dp (.ap 2) x3)])
noncomputable def impl_HeapsReached.f (k : Nat) (a0 : List Int) (a1 : List Trade) : Option (List (List Int)) := runF tab ext k 18 [⟨.sl (.int .i64), a0⟩, ⟨.sl (.ap 2), a1⟩]
noncomputable def impl_HeapsReached.l0 (k : Nat) (x1 : List Trade) (x5 : List (List Int)) (x6 : List ((Int × Int × Int) × Bool)) (x7 : Int) : Option (List (List Int)) := runL tab ext k 18 (todoAt tab 18 6) (stAt tab 18 [(1, mkVal true (.sl (.ap 2)) x1), (5, .ref 23), (6, .ref 27), (7, mkVal false (.int .i64) x7)] [(23, .sl false false (.sl (.int .i64)) x5), (27, .mp (.bool) x6)])
noncomputable def impl_HeapsReached.l1 (k : Nat) (x1 : List Trade) (x5 : List (List Int)) (x6 : List ((Int × Int × Int) × Bool)) (x7 : Int) (x34 : List Trade) (x35 : Int) (x36 : Int) : Option (List (List Int)) := runL tab ext k 18 (todoAt tab 18 9) (stAt tab 18 [(1, mkVal true (.sl (.ap 2)) x1), (5, .ref 23), (6, .ref 27), (7, mkVal false (.int .i64) x7), (34, mkVal true (.sl (.ap 2)) x34), (35, mkVal false (.int .i64) x35), (36, mkVal false (.int .i64) x36)] [(23, .sl false false (.sl (.int .i64)) x5), (27, .mp (.bool) x6)])
noncomputable def laws_eqIntS.f (k : Nat) (a0 : List Int) (a1 : List Int) : Option Bool := runF tab ext k 20 [⟨.sl (.int .i64), a0⟩, ⟨.sl (.int .i64), a1⟩]
noncomputable def laws_eqIntS.l0 (k : Nat) (x0 : List Int) (x1 : List Int) (x5 : Int) : Option Bool := runL tab ext k 20 (todoAt tab 20 4) (stAt tab 20 [(0, mkVal true (.sl (.int .i64)) x0), (1, mkVal true (.sl (.int .i64)) x1), (5, mkVal false (.int .i64) x5)] [])
noncomputable def laws_eqTradeS.f (k : Nat) (a0 : List Trade) (a1 : List Trade) : Option Bool := runF tab ext k 21 [⟨.sl (.ap 2), a0⟩, ⟨.sl (.ap 2), a1⟩]
noncomputable def laws_eqTradeS.l0 (k : Nat) (x0 : List Trade) (x1 : List Trade) (x5 : Int) : Option Bool := runL tab ext k 21 (todoAt tab 21 4) (stAt tab 21 [(0, mkVal true (.sl (.ap 2)) x0), (1, mkVal true (.sl (.ap 2)) x1), (5, mkVal false (.int .i64) x5)] [])
noncomputable def spec_LongestTrades.f (k : Nat) (a0 : List Int) (a1 : List Trade) : Option Int := runF tab ext k 32 [⟨.sl (.int .i64), a0⟩, ⟨.sl (.ap 2), a1⟩]
noncomputable def spec_LongestTrades.l0 (k : Nat) (x1 : List Trade) (x5 : List (List Int)) (x6 : List Int) (x7 : Int) : Option Int := runL tab ext k 32 (todoAt tab 32 6) (stAt tab 32 [(1, mkVal true (.sl (.ap 2)) x1), (5, mkVal false (.sl (.sl (.int .i64))) x5), (6, .ref 27), (7, mkVal false (.int .i64) x7)] [(27, .sl false false (.int .i64) x6)])
noncomputable def spec_LongestTrades.l1 (k : Nat) (x1 : List Trade) (x5 : List (List Int)) (x6 : List Int) (x8 : Int) : Option Int := runL tab ext k 32 (todoAt tab 32 10) (stAt tab 32 [(1, mkVal true (.sl (.ap 2)) x1), (5, mkVal false (.sl (.sl (.int .i64))) x5), (6, .ref 27), (8, mkVal false (.int .i64) x8)] [(27, .sl false false (.int .i64) x6)])
noncomputable def spec_LongestTrades.l2 (k : Nat) (x1 : List Trade) (x5 : List (List Int)) (x6 : List Int) (x8 : Int) (x9 : Bool) (x10 : Int) : Option Int := runL tab ext k 32 (todoAt tab 32 14) (stAt tab 32 [(1, mkVal true (.sl (.ap 2)) x1), (5, mkVal false (.sl (.sl (.int .i64))) x5), (6, .ref 27), (8, mkVal false (.int .i64) x8), (9, mkVal false (.bool) x9), (10, mkVal false (.int .i64) x10)] [(27, .sl false false (.int .i64) x6)])
noncomputable def spec_LongestTrades.l3 (k : Nat) (x1 : List Trade) (x5 : List (List Int)) (x6 : List Int) (x8 : Int) (x9 : Bool) (x10 : Int) (x11 : Int) (x12 : Int) : Option Int := runL tab ext k 32 (todoAt tab 32 19) (stAt tab 32 [(1, mkVal true (.sl (.ap 2)) x1), (5, mkVal false (.sl (.sl (.int .i64))) x5), (6, .ref 27), (8, mkVal false (.int .i64) x8), (9, mkVal false (.bool) x9), (10, mkVal false (.int .i64) x10), (11, mkVal false (.int .i64) x11), (12, mkVal false (.int .i64) x12)] [(27, .sl false false (.int .i64) x6)])
noncomputable def impl_LongestTrades.f (k : Nat) (a0 : List Int) (a1 : List Trade) : Option Int := runF tab ext k 33 [⟨.sl (.int .i64), a0⟩, ⟨.sl (.ap 2), a1⟩]
noncomputable def impl_LongestTrades.l0 (k : Nat) (x0 : List Int) (x1 : List Trade) (x5 : List (List Int)) (x6 : List ((Int × Int × Int) × Int)) (x22 : Int) (x23 : Int) : Option Int := runL tab ext k 33 (todoAt tab 33 6) (stAt tab 33 [(0, mkVal true (.sl (.int .i64)) x0), (1, mkVal true (.sl (.ap 2)) x1), (5, mkVal false (.sl (.sl (.int .i64))) x5), (6, .ref 27), (22, mkVal false (.int .i64) x22), (23, mkVal false (.int .i64) x23)] [(27, .mp (.int .i64) x6)])
noncomputable def impl_LongestTrades.l1 (k : Nat) (x0 : List Int) (x1 : List Trade) (x5 : List (List Int)) (x6 : List ((Int × Int × Int) × Int)) (x7 : Bool) (x22 : Int) (x23 : Int) (x25 : List (List Int)) (x26 : Int) (x27 : Int) : Option Int := runL tab ext k 33 (todoAt tab 33 9) (stAt tab 33 [(0, mkVal true (.sl (.int .i64)) x0), (1, mkVal true (.sl (.ap 2)) x1), (5, mkVal false (.sl (.sl (.int .i64))) x5), (6, .ref 27), (7, mkVal false (.bool) x7), (22, mkVal false (.int .i64) x22), (23, mkVal false (.int .i64) x23), (25, mkVal false (.sl (.sl (.int .i64))) x25), (26, mkVal false (.int .i64) x26), (27, mkVal false (.int .i64) x27)] [(27, .mp (.int .i64) x6)])
noncomputable def impl_LongestTrades.l2 (k : Nat) (x0 : List Int) (x1 : List Trade) (x5 : List (List Int)) (x6 : List ((Int × Int × Int) × Int)) (x7 : Bool) (x9 : List Int) (x10 : Int) (x22 : Int) (x23 : Int) (x25 : List (List Int)) (x26 : Int) (x27 : Int) (x31 : List Trade) (x32 : Int) (x33 : Int) : Option Int := runL tab ext k 33 (todoAt tab 33 13) (stAt tab 33 [(0, mkVal true (.sl (.int .i64)) x0), (1, mkVal true (.sl (.ap 2)) x1), (5, mkVal false (.sl (.sl (.int .i64))) x5), (6, .ref 27), (7, mkVal false (.bool) x7), (9, mkVal false (.sl (.int .i64)) x9), (10, mkVal false (.int .i64) x10), (22, mkVal false (.int .i64) x22), (23, mkVal false (.int .i64) x23), (25, mkVal false (.sl (.sl (.int .i64))) x25), (26, mkVal false (.int .i64) x26), (27, mkVal false (.int .i64) x27), (31, mkVal true (.sl (.ap 2)) x31), (32, mkVal false (.int .i64) x32), (33, mkVal false (.int .i64) x33)] [(27, .mp (.int .i64) x6)])
noncomputable def impl_HeapsValid.f (k : Nat) (a0 : List Int) : Option Bool := runF tab ext k 37 [⟨.sl (.int .i64), a0⟩]
noncomputable def laws_szTrade.f (k : Nat) (a0 : Trade) (a1 : Int) : Option Int := runF tab ext k 55 [⟨.ap 2, a0⟩, ⟨.int .i64, a1⟩]
noncomputable def spec_HeapsValid.f (k : Nat) (a0 : List Int) : Option Bool := runF tab ext k 56 [⟨.sl (.int .i64), a0⟩]
noncomputable def spec_TradesValid.f (k : Nat) (a0 : List Trade) : Option Bool := runF tab ext k 57 [⟨.sl (.ap 2), a0⟩]
noncomputable def spec_TradesValid.l0 (k : Nat) (x0 : List Trade) (x3 : Int) : Option Bool := runL tab ext k 57 (todoAt tab 57 2) (stAt tab 57 [(0, mkVal true (.sl (.ap 2)) x0), (3, mkVal false (.int .i64) x3)] [])
noncomputable def spec_l8Code.f (k : Nat) (a0 : List Int) : Option Int := runF tab ext k 58 [⟨.sl (.int .i64), a0⟩]
noncomputable def spec_TradeDo.f (k : Nat) (a0 : List Int) (a1 : Trade) : Option (List Int × Bool) := runF tab ext k 59 [⟨.sl (.int .i64), a0⟩, ⟨.ap 2, a1⟩]
noncomputable def spec_TradeDo.l0 (k : Nat) (x0 : List Int) (x3 : Trade) (x6 : List Int) (x7 : Int) : Option (List Int × Bool) := runL tab ext k 59 (todoAt tab 59 5) (stAt tab 59 [(0, mkVal true (.sl (.int .i64)) x0), (3, .ptr 12 []), (6, .ref 27), (7, mkVal false (.int .i64) x7)] [(12, .box true (.ap 2) x3), (27, .sl false false (.int .i64) x6)])
noncomputable def laws_toTrade.f (k : Nat) (a0 : Trade) : Option (List Int × List Int) := runF tab ext k 60 [⟨.ap 2, a0⟩]
noncomputable def impl_TradesValid.f (k : Nat) (a0 : List Trade) : Option Bool := runF tab ext k 61 [⟨.sl (.ap 2), a0⟩]
noncomputable def impl_TradesValid.l0 (k : Nat) (x0 : List Trade) (x5 : List Trade) (x6 : Int) (x7 : Int) : Option Bool := runL tab ext k 61 (todoAt tab 61 2) (stAt tab 61 [(0, mkVal true (.sl (.ap 2)) x0), (5, mkVal true (.sl (.ap 2)) x5), (6, mkVal false (.int .i64) x6), (7, mkVal false (.int .i64) x7)] [])
noncomputable def slices_Clone_int_int.f (k : Nat) (a0 : List Int) : Option (List Int) := runF tab ext k 62 [⟨.sl (.int .i64), a0⟩]
noncomputable def impl_traded.f (k : Nat) (a0 : List Int) (a1 : Trade) : Option (List Int × Bool) := runF tab ext k 63 [⟨.sl (.int .i64), a0⟩, ⟨.ap 2, a1⟩]
noncomputable def impl_traded.l0 (k : Nat) (x3 : Trade) (x6 : List Int) (x10 : List Int) (x11 : Int) (x12 : Int) : Option (List Int × Bool) := runL tab ext k 63 (todoAt tab 63 3) (stAt tab 63 [(3, .ptr 12 []), (6, .ref 27), (10, mkVal true (.sl (.int .i64)) x10), (11, mkVal false (.int .i64) x11), (12, mkVal false (.int .i64) x12)] [(12, .box true (.ap 2) x3), (27, .sl false false (.int .i64) x6)])
noncomputable def laws_eqTrade.f (k : Nat) (a0 : Trade) (a1 : Trade) : Option Bool := runF tab ext k 64 [⟨.ap 2, a0⟩, ⟨.ap 2, a1⟩]
noncomputable def impl_TradeValid.f (k : Nat) (a0 : Trade) : Option Bool := runF tab ext k 66 [⟨.ap 2, a0⟩]
noncomputable def spec_l8Index.f (k : Nat) (a0 : List (List Int)) (a1 : List Int) : Option Int := runF tab ext k 67 [⟨.sl (.sl (.int .i64)), a0⟩, ⟨.sl (.int .i64), a1⟩]
noncomputable def spec_l8Index.l0 (k : Nat) (x0 : List (List Int)) (x1 : List Int) (x5 : Int) : Option Int := runL tab ext k 67 (todoAt tab 67 2) (stAt tab 67 [(0, mkVal true (.sl (.sl (.int .i64))) x0), (1, mkVal true (.sl (.int .i64)) x1), (5, mkVal false (.int .i64) x5)] [])
noncomputable def spec_l1In.f (k : Nat) (a0 : Int) (a1 : Int) (a2 : Int) : Option Bool := runF tab ext k 74 [⟨.int .i64, a0⟩, ⟨.int .i64, a1⟩, ⟨.int .i64, a2⟩]
noncomputable def impl_thingsOk.f (k : Nat) (a0 : List Int) (a1 : Int) : Option Bool := runF tab ext k 75 [⟨.sl (.int .i64), a0⟩, ⟨.int .i64, a1⟩]
noncomputable def impl_thingsOk.l0 (k : Nat) (x0 : List Int) (x1 : Int) (x7 : List Int) (x8 : Int) (x9 : Int) : Option Bool := runL tab ext k 75 (todoAt tab 75 2) (stAt tab 75 [(0, mkVal true (.sl (.int .i64)) x0), (1, mkVal false (.int .i64) x1), (7, mkVal true (.sl (.int .i64)) x7), (8, mkVal false (.int .i64) x8), (9, mkVal false (.int .i64) x9)] [])
noncomputable def laws_szIntS.f (k : Nat) (a0 : List Int) (a1 : Int) : Option Int := runF tab ext k 82 [⟨.sl (.int .i64), a0⟩, ⟨.int .i64, a1⟩]
noncomputable def spec_l8List.f (k : Nat) (a0 : List Int) (a1 : Int) : Option Bool := runF tab ext k 85 [⟨.sl (.int .i64), a0⟩, ⟨.int .i64, a1⟩]
noncomputable def spec_l8List.l0 (k : Nat) (x0 : List Int) (x1 : Int) (x5 : Int) : Option Bool := runL tab ext k 85 (todoAt tab 85 2) (stAt tab 85 [(0, mkVal true (.sl (.int .i64)) x0), (1, mkVal false (.int .i64) x1), (5, mkVal false (.int .i64) x5)] [])
noncomputable def spec_TradeValid.f (k : Nat) (a0 : Trade) : Option Bool := runF tab ext k 86 [⟨.ap 2, a0⟩]
noncomputable def spec_l1Same.f (k : Nat) (a0 : List Int) (a1 : List Int) : Option Bool := runF tab ext k 89 [⟨.sl (.int .i64), a0⟩, ⟨.sl (.int .i64), a1⟩]
noncomputable def spec_l1Same.l0 (k : Nat) (x0 : List Int) (x1 : List Int) (x5 : Int) : Option Bool := runL tab ext k 89 (todoAt tab 89 2) (stAt tab 89 [(0, mkVal true (.sl (.int .i64)) x0), (1, mkVal true (.sl (.int .i64)) x1), (5, mkVal false (.int .i64) x5)] [])
end Go.Proofs.Ytgibeillafnieaa.Eng
