import Derived.Test.YtajecpmdagbojaaE2
import Derived.Test.YtajecpmdagbojaaProg
namespace Go.Proofs.Ytajecpmdagbojaa.Eng
open Go
-- 12 laws.FnExactTradesMay
noncomputable def fn12 : FnT := ⟨(Try.f12.body.getD .skip), 90, Try.f12.results.toList, [(.sl (.int .i64), .ln), (.sl (.ap 2), .ln)], [(.bool, ⟨false, false, false, false, false⟩)], [], [28, 33], [], []⟩
-- 13 laws.FnExactTradesRun
noncomputable def fn13 : FnT := ⟨(Try.f13.body.getD .skip), 138, Try.f13.results.toList, [(.sl (.int .i64), .ln), (.sl (.ap 2), .ln), (.sl (.int .i64), .ln)], [(.bool, ⟨false, false, false, false, false⟩)], [], [42, 46, 51], [], []⟩
-- 17 spec.HeapsValid
noncomputable def fn17 : FnT := ⟨(Try.f17.body.getD .skip), 5, Try.f17.results.toList, [(.sl (.int .i64), .ln)], [(.bool, ⟨false, false, false, false, false⟩)], [], [], [], []⟩
-- 18 laws.toIntS
noncomputable def fn18 : FnT := ⟨(Try.f18.body.getD .skip), 22, Try.f18.results.toList, [(.sl (.int .i64), .ln)], [(.sl (.int .i64), ⟨true, false, false, false, false⟩)], [(3, [(0, .val true), (3, .own false), (4, .val false)])], [7], [], []⟩
-- 19 impl.HeapsValid
noncomputable def fn19 : FnT := ⟨(Try.f19.body.getD .skip), 5, Try.f19.results.toList, [(.sl (.int .i64), .ln)], [(.bool, ⟨false, false, false, false, false⟩)], [], [], [], []⟩
-- 20 laws.eqIntS
noncomputable def fn20 : FnT := ⟨(Try.f20.body.getD .skip), 26, Try.f20.results.toList, [(.sl (.int .i64), .ln), (.sl (.int .i64), .ln)], [(.bool, ⟨false, false, false, false, false⟩)], [(4, [(0, .val true), (1, .val true), (5, .val false)])], [], [], []⟩
-- 21 laws.szTrade
noncomputable def fn21 : FnT := ⟨(Try.f21.body.getD .skip), 18, Try.f21.results.toList, [(.ap 2, .ln), (.int .i64, .ln)], [(.int .i64, ⟨false, false, false, false, false⟩)], [], [], [], []⟩
-- 22 spec.TradeValid
noncomputable def fn22 : FnT := ⟨(Try.f22.body.getD .skip), 11, Try.f22.results.toList, [(.ap 2, .ln)], [(.bool, ⟨false, false, false, false, false⟩)], [], [], [], []⟩
-- 23 laws.toTrade
noncomputable def fn23 : FnT := ⟨(Try.f23.body.getD .skip), 13, Try.f23.results.toList, [(.ap 2, .ln)], [(.sl (.int .i64), ⟨true, false, false, false, false⟩), (.sl (.int .i64), ⟨true, false, false, false, false⟩)], [], [2, 3, 6, 10], [some (.ap 2)], []⟩
-- 24 impl.TradeValid
noncomputable def fn24 : FnT := ⟨(Try.f24.body.getD .skip), 11, Try.f24.results.toList, [(.ap 2, .ln)], [(.bool, ⟨false, false, false, false, false⟩)], [], [], [], []⟩
-- 25 laws.eqTrade
noncomputable def fn25 : FnT := ⟨(Try.f25.body.getD .skip), 17, Try.f25.results.toList, [(.ap 2, .ln), (.ap 2, .ln)], [(.bool, ⟨false, false, false, false, false⟩)], [], [], [], []⟩
-- 29 laws.szTradeS
noncomputable def fn29 : FnT := ⟨(Try.f29.body.getD .skip), 27, Try.f29.results.toList, [(.sl (.ap 2), .ln), (.int .i64, .ln)], [(.int .i64, ⟨false, false, false, false, false⟩)], [(5, [(0, .val true), (1, .val false), (5, .val false)])], [], [], []⟩
-- 30 spec.TradesValid
noncomputable def fn30 : FnT := ⟨(Try.f30.body.getD .skip), 19, Try.f30.results.toList, [(.sl (.ap 2), .ln)], [(.bool, ⟨false, false, false, false, false⟩)], [(2, [(0, .val true), (3, .val false)])], [], [], []⟩
-- 31 laws.toTradeS
noncomputable def fn31 : FnT := ⟨(Try.f31.body.getD .skip), 23, Try.f31.results.toList, [(.sl (.ap 2), .ln)], [(.sl (.ap 2), ⟨true, false, false, false, true⟩)], [(3, [(0, .val true), (3, .dp), (4, .val false)])], [20, 1000007], [], []⟩
-- 32 impl.TradesValid
noncomputable def fn32 : FnT := ⟨(Try.f32.body.getD .skip), 18, Try.f32.results.toList, [(.sl (.ap 2), .ln)], [(.bool, ⟨false, false, false, false, false⟩)], [(2, [(0, .val true), (5, .val true), (6, .val false), (7, .val false)])], [], [], []⟩
-- 33 laws.eqTradeS
noncomputable def fn33 : FnT := ⟨(Try.f33.body.getD .skip), 27, Try.f33.results.toList, [(.sl (.ap 2), .ln), (.sl (.ap 2), .ln)], [(.bool, ⟨false, false, false, false, false⟩)], [(4, [(0, .val true), (1, .val true), (5, .val false)])], [], [], []⟩
-- 35 spec.TradeDo
noncomputable def fn35 : FnT := ⟨(Try.f35.body.getD .skip), 57, Try.f35.results.toList, [(.sl (.int .i64), .ln), (.ap 2, .ln)], [(.sl (.int .i64), ⟨true, false, false, false, false⟩), (.bool, ⟨false, false, false, false, false⟩)], [(5, [(0, .val true), (3, .ptr), (6, .own false), (7, .val false)])], [16, 17, 32, 51, 55], [], []⟩
-- 37 laws.markIntS
noncomputable def fn37 : FnT := ⟨(Try.f37.body.getD .skip), 19, Try.f37.results.toList, [(.sl (.int .i64), .io), (.int .i64, .ln)], [(.int .i64, ⟨false, false, false, false, false⟩)], [(2, [(0, .ptr), (1, .val false), (5, .val false)])], [], [], []⟩
-- 39 laws.heldIntS
noncomputable def fn39 : FnT := ⟨(Try.f39.body.getD .skip), 21, Try.f39.results.toList, [(.sl (.int .i64), .ln), (.int .i64, .ln)], [(.int .i64, ⟨false, false, false, false, false⟩)], [(2, [(0, .val true), (1, .val false), (5, .val false)])], [], [], []⟩
-- 42 spec.TradesMay
noncomputable def fn42 : FnT := ⟨(Try.f42.body.getD .skip), 35, Try.f42.results.toList, [(.sl (.int .i64), .ln), (.sl (.ap 2), .ln)], [(.sl (.int .i64), ⟨true, false, false, false, false⟩)], [(3, [(0, .val true), (1, .val true), (5, .own false), (6, .val false)])], [9, 33], [], []⟩
-- 43 impl.TradesMay
noncomputable def fn43 : FnT := ⟨(Try.f43.body.getD .skip), 39, Try.f43.results.toList, [(.sl (.int .i64), .ln), (.sl (.ap 2), .ln)], [(.sl (.int .i64), ⟨true, false, false, false, false⟩)], [(5, [(0, .val true), (5, .own false), (19, .val true), (20, .val false), (21, .val false)])], [18, 36], [], []⟩
-- 44 laws.markTradeS
noncomputable def fn44 : FnT := ⟨(Try.f44.body.getD .skip), 27, Try.f44.results.toList, [(.sl (.ap 2), .dio), (.int .i64, .ln)], [(.int .i64, ⟨false, false, false, false, false⟩)], [(2, [(0, .val false), (1, .val false), (5, .val false)])], [], [], []⟩
-- 45 spec.TradesRun
noncomputable def fn45 : FnT := ⟨(Try.f45.body.getD .skip), 62, Try.f45.results.toList, [(.sl (.int .i64), .ln), (.sl (.ap 2), .ln), (.sl (.int .i64), .ln)], [(.sl (.int .i64), ⟨true, false, false, false, false⟩), (.bool, ⟨false, false, false, false, false⟩)], [(5, [(1, .val true), (2, .val true), (8, .own false), (9, .val false)])], [25, 26, 28, 44, 54, 59], [], []⟩
-- 46 impl.TradesRun
noncomputable def fn46 : FnT := ⟨(Try.f46.body.getD .skip), 56, Try.f46.results.toList, [(.sl (.int .i64), .ln), (.sl (.ap 2), .ln), (.sl (.int .i64), .ln)], [(.sl (.int .i64), ⟨true, false, false, false, false⟩), (.bool, ⟨false, false, false, false, false⟩)], [(5, [(1, .val true), (8, .own false), (28, .val true), (29, .val false), (30, .val false)])], [27, 48], [], []⟩
-- 50 spec.l1In
noncomputable def fn50 : FnT := ⟨(Try.f50.body.getD .skip), 15, Try.f50.results.toList, [(.int .i64, .ln), (.int .i64, .ln), (.int .i64, .ln)], [(.bool, ⟨false, false, false, false, false⟩)], [], [], [], []⟩
-- 52 spec.l8List
noncomputable def fn52 : FnT := ⟨(Try.f52.body.getD .skip), 22, Try.f52.results.toList, [(.sl (.int .i64), .ln), (.int .i64, .ln)], [(.bool, ⟨false, false, false, false, false⟩)], [(2, [(0, .val true), (1, .val false), (5, .val false)])], [], [], []⟩
-- 53 impl.thingsOk
noncomputable def fn53 : FnT := ⟨(Try.f53.body.getD .skip), 24, Try.f53.results.toList, [(.sl (.int .i64), .ln), (.int .i64, .ln)], [(.bool, ⟨false, false, false, false, false⟩)], [(2, [(0, .val true), (1, .val false), (7, .val true), (8, .val false), (9, .val false)])], [], [], []⟩
-- 54 laws.szIntS
noncomputable def fn54 : FnT := ⟨(Try.f54.body.getD .skip), 12, Try.f54.results.toList, [(.sl (.int .i64), .ln), (.int .i64, .ln)], [(.int .i64, ⟨false, false, false, false, false⟩)], [], [], [], []⟩
-- 59 impl.traded
noncomputable def fn59 : FnT := ⟨(Try.f59.body.getD .skip), 58, Try.f59.results.toList, [(.sl (.int .i64), .ln), (.ap 2, .ln)], [(.sl (.int .i64), ⟨true, false, false, false, false⟩), (.bool, ⟨false, false, false, false, false⟩)], [(3, [(3, .ptr), (6, .own false), (10, .val true), (11, .val false), (12, .val false)])], [9, 55], [], []⟩
-- 60 slices.Clone[[]int,int]
noncomputable def fn60 : FnT := ⟨(Try.f60.body.getD .skip), 8, Try.f60.results.toList, [(.sl (.int .i64), .ln)], [(.sl (.int .i64), ⟨true, false, false, false, false⟩)], [], [5, 7], [], []⟩
def tyOf : Nat → Option Ty
  | 3 => some (.int .i64)
  | 4 => some (.bool)
  | 24 => some (.sl (.int .i64))
  | 29 => some (.ap 2)
  | 32 => some (.ap 2)
  | 41 => some (.sl (.ap 2))
  | 44 => some (.sl (.ap 2))
  | _ => none
noncomputable def tab : Tab := ⟨tyOf, fun
  | 12 => some fn12
  | 13 => some fn13
  | 17 => some fn17
  | 18 => some fn18
  | 19 => some fn19
  | 20 => some fn20
  | 21 => some fn21
  | 22 => some fn22
  | 23 => some fn23
  | 24 => some fn24
  | 25 => some fn25
  | 29 => some fn29
  | 30 => some fn30
  | 31 => some fn31
  | 32 => some fn32
  | 33 => some fn33
  | 35 => some fn35
  | 37 => some fn37
  | 39 => some fn39
  | 42 => some fn42
  | 43 => some fn43
  | 44 => some fn44
  | 45 => some fn45
  | 46 => some fn46
  | 50 => some fn50
  | 52 => some fn52
  | 53 => some fn53
  | 54 => some fn54
  | 59 => some fn59
  | 60 => some fn60
  | _ => none⟩
noncomputable def ext : Ext tab := fun
  | 60 => some (onRow tab 60 (.int .i64) cloned)
  | 44 => some (onMark tab 44 (.ap 2) markT okT (fun a b => (a, b)))
  | _ => none
noncomputable def laws_FnExactTradesMay.f (k : Nat) (a0 : List Int) (a1 : List Trade) : Option Bool := runF tab ext k 12 [⟨.sl (.int .i64), a0⟩, ⟨.sl (.ap 2), a1⟩]
noncomputable def laws_FnExactTradesRun.f (k : Nat) (a0 : List Int) (a1 : List Trade) (a2 : List Int) : Option Bool := runF tab ext k 13 [⟨.sl (.int .i64), a0⟩, ⟨.sl (.ap 2), a1⟩, ⟨.sl (.int .i64), a2⟩]
noncomputable def spec_HeapsValid.f (k : Nat) (a0 : List Int) : Option Bool := runF tab ext k 17 [⟨.sl (.int .i64), a0⟩]
noncomputable def laws_toIntS.f (k : Nat) (a0 : List Int) : Option (List Int) := runF tab ext k 18 [⟨.sl (.int .i64), a0⟩]
noncomputable def laws_toIntS.l0 (k : Nat) (x0 : List Int) (x3 : List Int) (x4 : Int) : Option (List Int) := runL tab ext k 18 (todoAt tab 18 3) (stAt tab 18 [(0, mkVal true (.sl (.int .i64)) x0), (3, .ref 15), (4, mkVal false (.int .i64) x4)] [(15, .sl false false (.int .i64) x3)])
noncomputable def impl_HeapsValid.f (k : Nat) (a0 : List Int) : Option Bool := runF tab ext k 19 [⟨.sl (.int .i64), a0⟩]
noncomputable def laws_eqIntS.f (k : Nat) (a0 : List Int) (a1 : List Int) : Option Bool := runF tab ext k 20 [⟨.sl (.int .i64), a0⟩, ⟨.sl (.int .i64), a1⟩]
noncomputable def laws_eqIntS.l0 (k : Nat) (x0 : List Int) (x1 : List Int) (x5 : Int) : Option Bool := runL tab ext k 20 (todoAt tab 20 4) (stAt tab 20 [(0, mkVal true (.sl (.int .i64)) x0), (1, mkVal true (.sl (.int .i64)) x1), (5, mkVal false (.int .i64) x5)] [])
noncomputable def laws_szTrade.f (k : Nat) (a0 : Trade) (a1 : Int) : Option Int := runF tab ext k 21 [⟨.ap 2, a0⟩, ⟨.int .i64, a1⟩]
noncomputable def spec_TradeValid.f (k : Nat) (a0 : Trade) : Option Bool := runF tab ext k 22 [⟨.ap 2, a0⟩]
noncomputable def laws_toTrade.f (k : Nat) (a0 : Trade) : Option (List Int × List Int) := runF tab ext k 23 [⟨.ap 2, a0⟩]
noncomputable def impl_TradeValid.f (k : Nat) (a0 : Trade) : Option Bool := runF tab ext k 24 [⟨.ap 2, a0⟩]
noncomputable def laws_eqTrade.f (k : Nat) (a0 : Trade) (a1 : Trade) : Option Bool := runF tab ext k 25 [⟨.ap 2, a0⟩, ⟨.ap 2, a1⟩]
noncomputable def laws_szTradeS.f (k : Nat) (a0 : List Trade) (a1 : Int) : Option Int := runF tab ext k 29 [⟨.sl (.ap 2), a0⟩, ⟨.int .i64, a1⟩]
noncomputable def laws_szTradeS.l0 (k : Nat) (x0 : List Trade) (x1 : Int) (x5 : Int) : Option Int := runL tab ext k 29 (todoAt tab 29 5) (stAt tab 29 [(0, mkVal true (.sl (.ap 2)) x0), (1, mkVal false (.int .i64) x1), (5, mkVal false (.int .i64) x5)] [])
noncomputable def spec_TradesValid.f (k : Nat) (a0 : List Trade) : Option Bool := runF tab ext k 30 [⟨.sl (.ap 2), a0⟩]
noncomputable def spec_TradesValid.l0 (k : Nat) (x0 : List Trade) (x3 : Int) : Option Bool := runL tab ext k 30 (todoAt tab 30 2) (stAt tab 30 [(0, mkVal true (.sl (.ap 2)) x0), (3, mkVal false (.int .i64) x3)] [])
noncomputable def laws_toTradeS.f (k : Nat) (a0 : List Trade) : Option (List Trade) := runF tab ext k 31 [⟨.sl (.ap 2), a0⟩]
noncomputable def laws_toTradeS.l0 (k : Nat) (x0 : List Trade) (x3 : List Trade) (x4 : Int) : Option (List Trade) := runL tab ext k 31 (todoAt tab 31 3) (stAt tab 31 [(0, mkVal true (.sl (.ap 2)) x0), (3, .ref 15), (4, mkVal false (.int .i64) x4)] [(15, .dp (.ap 2) x3)])
noncomputable def impl_TradesValid.f (k : Nat) (a0 : List Trade) : Option Bool := runF tab ext k 32 [⟨.sl (.ap 2), a0⟩]
noncomputable def impl_TradesValid.l0 (k : Nat) (x0 : List Trade) (x5 : List Trade) (x6 : Int) (x7 : Int) : Option Bool := runL tab ext k 32 (todoAt tab 32 2) (stAt tab 32 [(0, mkVal true (.sl (.ap 2)) x0), (5, mkVal true (.sl (.ap 2)) x5), (6, mkVal false (.int .i64) x6), (7, mkVal false (.int .i64) x7)] [])
noncomputable def laws_eqTradeS.f (k : Nat) (a0 : List Trade) (a1 : List Trade) : Option Bool := runF tab ext k 33 [⟨.sl (.ap 2), a0⟩, ⟨.sl (.ap 2), a1⟩]
noncomputable def laws_eqTradeS.l0 (k : Nat) (x0 : List Trade) (x1 : List Trade) (x5 : Int) : Option Bool := runL tab ext k 33 (todoAt tab 33 4) (stAt tab 33 [(0, mkVal true (.sl (.ap 2)) x0), (1, mkVal true (.sl (.ap 2)) x1), (5, mkVal false (.int .i64) x5)] [])
noncomputable def spec_TradeDo.f (k : Nat) (a0 : List Int) (a1 : Trade) : Option (List Int × Bool) := runF tab ext k 35 [⟨.sl (.int .i64), a0⟩, ⟨.ap 2, a1⟩]
noncomputable def spec_TradeDo.l0 (k : Nat) (x0 : List Int) (x3 : Trade) (x6 : List Int) (x7 : Int) : Option (List Int × Bool) := runL tab ext k 35 (todoAt tab 35 5) (stAt tab 35 [(0, mkVal true (.sl (.int .i64)) x0), (3, .ptr 12 []), (6, .ref 27), (7, mkVal false (.int .i64) x7)] [(12, .box true (.ap 2) x3), (27, .sl false false (.int .i64) x6)])
noncomputable def laws_markIntS.f (k : Nat) (a0 : List Int) (a1 : Int) : Option (Int × List Int) := runF tab ext k 37 [⟨.sl (.int .i64), a0⟩, ⟨.int .i64, a1⟩]
noncomputable def laws_markIntS.l0 (k : Nat) (x0 : List Int) (x1 : Int) (x5 : Int) : Option (Int × List Int) := runL tab ext k 37 (todoAt tab 37 2) (stAt tab 37 [(0, .ref 76), (1, mkVal false (.int .i64) x1), (5, mkVal false (.int .i64) x5)] [(76, .io false (.int .i64) x0)])
noncomputable def laws_heldIntS.f (k : Nat) (a0 : List Int) (a1 : Int) : Option Int := runF tab ext k 39 [⟨.sl (.int .i64), a0⟩, ⟨.int .i64, a1⟩]
noncomputable def laws_heldIntS.l0 (k : Nat) (x0 : List Int) (x1 : Int) (x5 : Int) : Option Int := runL tab ext k 39 (todoAt tab 39 2) (stAt tab 39 [(0, mkVal true (.sl (.int .i64)) x0), (1, mkVal false (.int .i64) x1), (5, mkVal false (.int .i64) x5)] [])
noncomputable def spec_TradesMay.f (k : Nat) (a0 : List Int) (a1 : List Trade) : Option (List Int) := runF tab ext k 42 [⟨.sl (.int .i64), a0⟩, ⟨.sl (.ap 2), a1⟩]
noncomputable def spec_TradesMay.l0 (k : Nat) (x0 : List Int) (x1 : List Trade) (x5 : List Int) (x6 : Int) : Option (List Int) := runL tab ext k 42 (todoAt tab 42 3) (stAt tab 42 [(0, mkVal true (.sl (.int .i64)) x0), (1, mkVal true (.sl (.ap 2)) x1), (5, .ref 23), (6, mkVal false (.int .i64) x6)] [(23, .sl false false (.int .i64) x5)])
noncomputable def impl_TradesMay.f (k : Nat) (a0 : List Int) (a1 : List Trade) : Option (List Int) := runF tab ext k 43 [⟨.sl (.int .i64), a0⟩, ⟨.sl (.ap 2), a1⟩]
noncomputable def impl_TradesMay.l0 (k : Nat) (x0 : List Int) (x5 : List Int) (x19 : List Trade) (x20 : Int) (x21 : Int) : Option (List Int) := runL tab ext k 43 (todoAt tab 43 5) (stAt tab 43 [(0, mkVal true (.sl (.int .i64)) x0), (5, .ref 23), (19, mkVal true (.sl (.ap 2)) x19), (20, mkVal false (.int .i64) x20), (21, mkVal false (.int .i64) x21)] [(23, .sl false false (.int .i64) x5)])
noncomputable def laws_markTradeS.f (k : Nat) (a0 : List Trade) (a1 : Int) : Option (Int × List Trade) := runF tab ext k 44 [⟨.sl (.ap 2), a0⟩, ⟨.int .i64, a1⟩]
noncomputable def spec_TradesRun.f (k : Nat) (a0 : List Int) (a1 : List Trade) (a2 : List Int) : Option (List Int × Bool) := runF tab ext k 45 [⟨.sl (.int .i64), a0⟩, ⟨.sl (.ap 2), a1⟩, ⟨.sl (.int .i64), a2⟩]
noncomputable def spec_TradesRun.l0 (k : Nat) (x1 : List Trade) (x2 : List Int) (x8 : List Int) (x9 : Int) : Option (List Int × Bool) := runL tab ext k 45 (todoAt tab 45 5) (stAt tab 45 [(1, mkVal true (.sl (.ap 2)) x1), (2, mkVal true (.sl (.int .i64)) x2), (8, .ref 35), (9, mkVal false (.int .i64) x9)] [(35, .sl false false (.int .i64) x8)])
noncomputable def impl_TradesRun.f (k : Nat) (a0 : List Int) (a1 : List Trade) (a2 : List Int) : Option (List Int × Bool) := runF tab ext k 46 [⟨.sl (.int .i64), a0⟩, ⟨.sl (.ap 2), a1⟩, ⟨.sl (.int .i64), a2⟩]
noncomputable def impl_TradesRun.l0 (k : Nat) (x1 : List Trade) (x8 : List Int) (x28 : List Int) (x29 : Int) (x30 : Int) : Option (List Int × Bool) := runL tab ext k 46 (todoAt tab 46 5) (stAt tab 46 [(1, mkVal true (.sl (.ap 2)) x1), (8, .ref 35), (28, mkVal true (.sl (.int .i64)) x28), (29, mkVal false (.int .i64) x29), (30, mkVal false (.int .i64) x30)] [(35, .sl false false (.int .i64) x8)])
noncomputable def spec_l1In.f (k : Nat) (a0 : Int) (a1 : Int) (a2 : Int) : Option Bool := runF tab ext k 50 [⟨.int .i64, a0⟩, ⟨.int .i64, a1⟩, ⟨.int .i64, a2⟩]
noncomputable def spec_l8List.f (k : Nat) (a0 : List Int) (a1 : Int) : Option Bool := runF tab ext k 52 [⟨.sl (.int .i64), a0⟩, ⟨.int .i64, a1⟩]
noncomputable def spec_l8List.l0 (k : Nat) (x0 : List Int) (x1 : Int) (x5 : Int) : Option Bool := runL tab ext k 52 (todoAt tab 52 2) (stAt tab 52 [(0, mkVal true (.sl (.int .i64)) x0), (1, mkVal false (.int .i64) x1), (5, mkVal false (.int .i64) x5)] [])
noncomputable def impl_thingsOk.f (k : Nat) (a0 : List Int) (a1 : Int) : Option Bool := runF tab ext k 53 [⟨.sl (.int .i64), a0⟩, ⟨.int .i64, a1⟩]
noncomputable def impl_thingsOk.l0 (k : Nat) (x0 : List Int) (x1 : Int) (x7 : List Int) (x8 : Int) (x9 : Int) : Option Bool := runL tab ext k 53 (todoAt tab 53 2) (stAt tab 53 [(0, mkVal true (.sl (.int .i64)) x0), (1, mkVal false (.int .i64) x1), (7, mkVal true (.sl (.int .i64)) x7), (8, mkVal false (.int .i64) x8), (9, mkVal false (.int .i64) x9)] [])
noncomputable def laws_szIntS.f (k : Nat) (a0 : List Int) (a1 : Int) : Option Int := runF tab ext k 54 [⟨.sl (.int .i64), a0⟩, ⟨.int .i64, a1⟩]
noncomputable def impl_traded.f (k : Nat) (a0 : List Int) (a1 : Trade) : Option (List Int × Bool) := runF tab ext k 59 [⟨.sl (.int .i64), a0⟩, ⟨.ap 2, a1⟩]
noncomputable def impl_traded.l0 (k : Nat) (x3 : Trade) (x6 : List Int) (x10 : List Int) (x11 : Int) (x12 : Int) : Option (List Int × Bool) := runL tab ext k 59 (todoAt tab 59 3) (stAt tab 59 [(3, .ptr 12 []), (6, .ref 27), (10, mkVal true (.sl (.int .i64)) x10), (11, mkVal false (.int .i64) x11), (12, mkVal false (.int .i64) x12)] [(12, .box true (.ap 2) x3), (27, .sl false false (.int .i64) x6)])
noncomputable def slices_Clone_int_int.f (k : Nat) (a0 : List Int) : Option (List Int) := runF tab ext k 60 [⟨.sl (.int .i64), a0⟩]
end Go.Proofs.Ytajecpmdagbojaa.Eng
