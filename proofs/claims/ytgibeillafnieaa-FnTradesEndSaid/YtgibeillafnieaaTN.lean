import Derived.Test.YtgibeillafnieaaE2
import Derived.Test.YtgibeillafnieaaProg
namespace Go.Proofs.Ytgibeillafnieaa.Eng
open Go
-- 4 laws.FnHeapsReached
noncomputable def fn4 : FnT := ⟨(Try.f4.body.getD .skip), 80, Try.f4.results.toList, [(.sl (.int .u8), .ln)], [(.bool, ⟨false, false, false, false, false⟩)], [(10, [(3, .val false), (4, .val true), (5, .val false), (6, .val false)]), (15, [(3, .val false), (4, .val true), (5, .val false), (6, .val false), (7, .val false)])], [], [], []⟩
-- 6 laws.FnTradesRun
noncomputable def fn6 : FnT := ⟨(Try.f6.body.getD .skip), 97, Try.f6.results.toList, [(.sl (.int .u8), .ln)], [(.bool, ⟨false, false, false, false, false⟩)], [], [], [], []⟩
-- 8 laws.FnLongestTrades
noncomputable def fn8 : FnT := ⟨(Try.f8.body.getD .skip), 63, Try.f8.results.toList, [(.sl (.int .u8), .ln)], [(.bool, ⟨false, false, false, false, false⟩)], [(11, [(3, .val false), (4, .val true), (5, .val false), (6, .val false), (7, .val false)])], [], [], []⟩
-- 9 laws.FnHeapsLast
noncomputable def fn9 : FnT := ⟨(Try.f9.body.getD .skip), 63, Try.f9.results.toList, [(.sl (.int .u8), .ln)], [(.bool, ⟨false, false, false, false, false⟩)], [(9, [(3, .val false), (4, .val true), (5, .val false), (6, .val false), (7, .val false)])], [], [], []⟩
-- 10 laws.FnTradesEnd
noncomputable def fn10 : FnT := ⟨(Try.f10.body.getD .skip), 97, Try.f10.results.toList, [(.sl (.int .u8), .ln), (.sl (.int .u8), .ln)], [(.bool, ⟨false, false, false, false, false⟩)], [(12, [(5, .val true), (6, .val true), (8, .val false), (10, .val false), (11, .val false), (12, .val false)])], [], [], []⟩
-- 15 spec.HeapsReached
noncomputable def fn15 : FnT := ⟨(Try.f15.body.getD .skip), 78, Try.f15.results.toList, [(.sl (.int .i64), .ln), (.sl (.ap 2), .ln)], [(.sl (.sl (.int .i64)), ⟨true, false, false, false, false⟩)], [(8, [(1, .val true), (5, .own false), (6, .own false), (7, .val false)]), (11, [(1, .val true), (5, .own false), (6, .own false), (7, .val false), (8, .val false)]), (1000015, [(1, .val true), (5, .own false), (6, .own false), (7, .val false), (8, .val false), (9, .val false)])], [11, 21, 23, 27, 72, 76], [], []⟩
-- 18 impl.HeapsReached
noncomputable def fn18 : FnT := ⟨(Try.f18.body.getD .skip), 71, Try.f18.results.toList, [(.sl (.int .i64), .ln), (.sl (.ap 2), .ln)], [(.sl (.sl (.int .i64)), ⟨true, false, true, false, false⟩)], [(6, [(1, .val true), (5, .own false), (6, .dp), (7, .val false)]), (9, [(1, .val true), (5, .own false), (6, .dp), (7, .val false), (34, .val true), (35, .val false), (36, .val false)])], [22, 65], [], []⟩
-- 26 spec.DrawHeapsReached
noncomputable def fn26 : FnT := ⟨(Try.f26.body.getD .skip), 8, Try.f26.results.toList, [(.sl (.int .u8), .ln)], [(.sl (.int .i64), ⟨true, false, false, false, false⟩), (.sl (.ap 2), ⟨true, true, false, false, false⟩)], [], [5], [], []⟩
-- 27 laws.sameLists
noncomputable def fn27 : FnT := ⟨(Try.f27.body.getD .skip), 27, Try.f27.results.toList, [(.sl (.sl (.int .i64)), .ln), (.sl (.sl (.int .i64)), .ln)], [(.bool, ⟨false, false, false, false, false⟩)], [(4, [(0, .val true), (1, .val true), (5, .val false)])], [], [], []⟩
-- 28 laws.alive
noncomputable def fn28 : FnT := ⟨(Try.f28.body.getD .skip), 9, Try.f28.results.toList, [], [(.bool, ⟨false, false, false, false, false⟩)], [], [], [], []⟩
-- 29 laws.hasList
noncomputable def fn29 : FnT := ⟨(Try.f29.body.getD .skip), 18, Try.f29.results.toList, [(.sl (.sl (.int .i64)), .ln), (.sl (.int .i64), .ln)], [(.bool, ⟨false, false, false, false, false⟩)], [(2, [(0, .val true), (1, .val true), (5, .val false)])], [], [], []⟩
-- 30 impl.TradeDo
noncomputable def fn30 : FnT := ⟨(Try.f30.body.getD .skip), 19, Try.f30.results.toList, [(.sl (.int .i64), .ln), (.ap 2, .ln)], [(.sl (.int .i64), ⟨true, false, false, false, false⟩), (.bool, ⟨false, false, false, false, false⟩)], [], [16], [], []⟩
-- 31 laws.sameInts
noncomputable def fn31 : FnT := ⟨(Try.f31.body.getD .skip), 26, Try.f31.results.toList, [(.sl (.int .i64), .ln), (.sl (.int .i64), .ln)], [(.bool, ⟨false, false, false, false, false⟩)], [(4, [(0, .val true), (1, .val true), (5, .val false)])], [], [], []⟩
-- 32 spec.LongestTrades
noncomputable def fn32 : FnT := ⟨(Try.f32.body.getD .skip), 106, Try.f32.results.toList, [(.sl (.int .i64), .ln), (.sl (.ap 2), .ln)], [(.int .i64, ⟨false, false, false, false, false⟩)], [(6, [(1, .val true), (5, .val false), (6, .own false), (7, .val false)]), (10, [(1, .val true), (5, .val false), (6, .own false), (8, .val false)]), (14, [(1, .val true), (5, .val false), (6, .own false), (8, .val false), (9, .val false), (10, .val false)]), (19, [(1, .val true), (5, .val false), (6, .own false), (8, .val false), (9, .val false), (10, .val false), (11, .val false), (12, .val false)])], [22, 31], [], []⟩
-- 33 impl.LongestTrades
noncomputable def fn33 : FnT := ⟨(Try.f33.body.getD .skip), 74, Try.f33.results.toList, [(.sl (.int .i64), .ln), (.sl (.ap 2), .ln)], [(.int .i64, ⟨false, false, false, false, false⟩)], [(6, [(0, .val true), (1, .val true), (5, .val false), (6, .dp), (22, .val false), (23, .val false)]), (9, [(0, .val true), (1, .val true), (5, .val false), (6, .dp), (7, .val false), (22, .val false), (23, .val false), (25, .val false), (26, .val false), (27, .val false)]), (13, [(0, .val true), (1, .val true), (5, .val false), (6, .dp), (7, .val false), (9, .val false), (10, .val false), (22, .val false), (23, .val false), (25, .val false), (26, .val false), (27, .val false), (31, .val true), (32, .val false), (33, .val false)])], [17], [], []⟩
-- 34 spec.DrawTradesRun
noncomputable def fn34 : FnT := ⟨(Try.f34.body.getD .skip), 70, Try.f34.results.toList, [(.sl (.int .u8), .ln)], [(.sl (.int .i64), ⟨false, false, false, false, false⟩), (.sl (.ap 2), ⟨true, true, false, false, false⟩), (.sl (.int .i64), ⟨true, false, false, false, false⟩)], [(7, [(5, .ptr), (6, .val false), (7, .own true), (8, .own false), (9, .val false), (10, .val false)]), (1000014, [(5, .ptr), (6, .val false), (7, .own true), (8, .own false)]), (1000016, [(6, .val false), (7, .own true), (8, .own false)])], [19, 20, 43, 66], [], []⟩
-- 35 impl.TradesRun
noncomputable def fn35 : FnT := ⟨(Try.f35.body.getD .skip), 56, Try.f35.results.toList, [(.sl (.int .i64), .ln), (.sl (.ap 2), .ln), (.sl (.int .i64), .ln)], [(.sl (.int .i64), ⟨true, false, false, false, false⟩), (.bool, ⟨false, false, false, false, false⟩)], [(5, [(1, .val true), (8, .own false), (28, .val true), (29, .val false), (30, .val false)])], [27, 48], [], []⟩
-- 36 spec.TradesRun
noncomputable def fn36 : FnT := ⟨(Try.f36.body.getD .skip), 62, Try.f36.results.toList, [(.sl (.int .i64), .ln), (.sl (.ap 2), .ln), (.sl (.int .i64), .ln)], [(.sl (.int .i64), ⟨true, false, false, false, false⟩), (.bool, ⟨false, false, false, false, false⟩)], [(5, [(1, .val true), (2, .val true), (8, .own false), (9, .val false)])], [25, 26, 28, 44, 54, 59], [], []⟩
-- 37 impl.HeapsValid
noncomputable def fn37 : FnT := ⟨(Try.f37.body.getD .skip), 5, Try.f37.results.toList, [(.sl (.int .i64), .ln)], [(.bool, ⟨false, false, false, false, false⟩)], [], [], [], []⟩
-- 38 spec.HeapsLast
noncomputable def fn38 : FnT := ⟨(Try.f38.body.getD .skip), 34, Try.f38.results.toList, [(.sl (.int .i64), .ln), (.sl (.ap 2), .ln)], [(.sl (.sl (.int .i64)), ⟨true, false, false, false, false⟩)], [(4, [(1, .val true), (5, .own false), (6, .val false), (7, .val false)])], [8, 32], [], []⟩
-- 39 impl.HeapsLast
noncomputable def fn39 : FnT := ⟨(Try.f39.body.getD .skip), 28, Try.f39.results.toList, [(.sl (.int .i64), .ln), (.sl (.ap 2), .ln)], [(.sl (.sl (.int .i64)), ⟨true, false, false, false, false⟩)], [(3, [(1, .val true), (5, .own false), (11, .val false), (12, .val false), (13, .val false)])], [8, 25], [], []⟩
-- 40 spec.DrawLongestTrades
noncomputable def fn40 : FnT := ⟨(Try.f40.body.getD .skip), 8, Try.f40.results.toList, [(.sl (.int .u8), .ln)], [(.sl (.int .i64), ⟨true, false, false, false, false⟩), (.sl (.ap 2), ⟨true, true, false, false, false⟩)], [], [5], [], []⟩
-- 41 spec.DrawHeapsLast
noncomputable def fn41 : FnT := ⟨(Try.f41.body.getD .skip), 8, Try.f41.results.toList, [(.sl (.int .u8), .ln)], [(.sl (.int .i64), ⟨true, false, false, false, false⟩), (.sl (.ap 2), ⟨true, true, false, false, false⟩)], [], [5], [], []⟩
-- 42 impl.TradesMay
noncomputable def fn42 : FnT := ⟨(Try.f42.body.getD .skip), 39, Try.f42.results.toList, [(.sl (.int .i64), .ln), (.sl (.ap 2), .ln)], [(.sl (.int .i64), ⟨true, false, false, false, false⟩)], [(5, [(0, .val true), (5, .own false), (19, .val true), (20, .val false), (21, .val false)])], [18, 36], [], []⟩
-- 43 spec.DrawTradesEnd
noncomputable def fn43 : FnT := ⟨(Try.f43.body.getD .skip), 11, Try.f43.results.toList, [(.sl (.int .u8), .ln)], [(.sl (.ap 2), ⟨true, true, false, false, false⟩), (.sl (.sl (.int .i64)), ⟨true, true, false, false, false⟩)], [], [8, 10], [], []⟩
-- 44 impl.TradesEnd
noncomputable def fn44 : FnT := ⟨(Try.f44.body.getD .skip), 58, Try.f44.results.toList, [(.sl (.ap 2), .ln), (.sl (.sl (.int .i64)), .ln)], [(.bool, ⟨false, false, false, false, false⟩)], [(5, [(5, .val false), (25, .val true), (26, .val false), (27, .val false)])], [], [], []⟩
-- 45 spec.TradesEnd
noncomputable def fn45 : FnT := ⟨(Try.f45.body.getD .skip), 65, Try.f45.results.toList, [(.sl (.ap 2), .ln), (.sl (.sl (.int .i64)), .ln)], [(.bool, ⟨false, false, false, false, false⟩)], [(2, [(0, .val true), (1, .val true), (5, .val false)])], [], [], []⟩
-- 46 spec.DrawTradesMay
noncomputable def fn46 : FnT := ⟨(Try.f46.body.getD .skip), 11, Try.f46.results.toList, [(.sl (.int .u8), .ln)], [(.sl (.int .i64), ⟨true, false, false, false, false⟩), (.sl (.ap 2), ⟨true, true, false, false, false⟩)], [], [8, 10], [], []⟩
-- 47 impl.HeapsOrd
noncomputable def fn47 : FnT := ⟨(Try.f47.body.getD .skip), 23, Try.f47.results.toList, [(.sl (.int .i64), .ln), (.sl (.sl (.int .i64)), .ln)], [(.sl (.int .i64), ⟨true, false, false, false, false⟩), (.bool, ⟨false, false, false, false, false⟩)], [], [20], [], []⟩
-- 48 impl.OrdCompare
noncomputable def fn48 : FnT := ⟨(Try.f48.body.getD .skip), 28, Try.f48.results.toList, [(.sl (.int .i64), .ln), (.sl (.int .i64), .ln)], [(.int .i64, ⟨false, false, false, false, false⟩)], [], [], [], []⟩
-- 50 spec.HeapsOrd
noncomputable def fn50 : FnT := ⟨(Try.f50.body.getD .skip), 35, Try.f50.results.toList, [(.sl (.int .i64), .ln), (.sl (.sl (.int .i64)), .ln)], [(.sl (.int .i64), ⟨false, false, false, false, false⟩), (.bool, ⟨false, false, false, false, false⟩)], [(4, [(0, .val true), (1, .val true), (6, .val false)])], [], [], []⟩
-- 56 spec.HeapsValid
noncomputable def fn56 : FnT := ⟨(Try.f56.body.getD .skip), 5, Try.f56.results.toList, [(.sl (.int .i64), .ln)], [(.bool, ⟨false, false, false, false, false⟩)], [], [], [], []⟩
-- 57 spec.TradesValid
noncomputable def fn57 : FnT := ⟨(Try.f57.body.getD .skip), 19, Try.f57.results.toList, [(.sl (.ap 2), .ln)], [(.bool, ⟨false, false, false, false, false⟩)], [(2, [(0, .val true), (3, .val false)])], [], [], []⟩
-- 58 spec.l8Code
noncomputable def fn58 : FnT := ⟨(Try.f58.body.getD .skip), 16, Try.f58.results.toList, [(.sl (.int .i64), .ln)], [(.int .i64, ⟨false, false, false, false, false⟩)], [], [], [], []⟩
-- 59 spec.TradeDo
noncomputable def fn59 : FnT := ⟨(Try.f59.body.getD .skip), 57, Try.f59.results.toList, [(.sl (.int .i64), .ln), (.ap 2, .ln)], [(.sl (.int .i64), ⟨true, false, false, false, false⟩), (.bool, ⟨false, false, false, false, false⟩)], [(5, [(0, .val true), (3, .ptr), (6, .own false), (7, .val false)])], [16, 17, 32, 51, 55], [], []⟩
-- 61 impl.TradesValid
noncomputable def fn61 : FnT := ⟨(Try.f61.body.getD .skip), 18, Try.f61.results.toList, [(.sl (.ap 2), .ln)], [(.bool, ⟨false, false, false, false, false⟩)], [(2, [(0, .val true), (5, .val true), (6, .val false), (7, .val false)])], [], [], []⟩
-- 62 slices.Clone[[]int,int]
noncomputable def fn62 : FnT := ⟨(Try.f62.body.getD .skip), 8, Try.f62.results.toList, [(.sl (.int .i64), .ln)], [(.sl (.int .i64), ⟨true, false, false, false, false⟩)], [], [5, 7], [], []⟩
-- 63 impl.traded
noncomputable def fn63 : FnT := ⟨(Try.f63.body.getD .skip), 58, Try.f63.results.toList, [(.sl (.int .i64), .ln), (.ap 2, .ln)], [(.sl (.int .i64), ⟨true, false, false, false, false⟩), (.bool, ⟨false, false, false, false, false⟩)], [(3, [(3, .ptr), (6, .own false), (10, .val true), (11, .val false), (12, .val false)])], [9, 55], [], []⟩
-- 65 impl.OrdOf
noncomputable def fn65 : FnT := ⟨(Try.f65.body.getD .skip), 12, Try.f65.results.toList, [(.int .i64, .ln)], [(.sl (.int .i64), ⟨true, false, false, false, false⟩)], [], [11], [], []⟩
-- 66 impl.TradeValid
noncomputable def fn66 : FnT := ⟨(Try.f66.body.getD .skip), 11, Try.f66.results.toList, [(.ap 2, .ln)], [(.bool, ⟨false, false, false, false, false⟩)], [], [], [], []⟩
-- 67 spec.l8Index
noncomputable def fn67 : FnT := ⟨(Try.f67.body.getD .skip), 16, Try.f67.results.toList, [(.sl (.sl (.int .i64)), .ln), (.sl (.int .i64), .ln)], [(.int .i64, ⟨false, false, false, false, false⟩)], [(2, [(0, .val true), (1, .val true), (5, .val false)])], [], [], []⟩
-- 68 spec.l20Open
noncomputable def fn68 : FnT := ⟨(Try.f68.body.getD .skip), 11, Try.f68.results.toList, [(.sl (.int .u8), .ln)], [(.pair (.sl (.int .u8)) (.pair (.int .i64) (.unit)), ⟨true, true, false, true, false⟩)], [], [], [], []⟩
-- 69 spec.l20Heaps
noncomputable def fn69 : FnT := ⟨(Try.f69.body.getD .skip), 29, Try.f69.results.toList, [(.pair (.sl (.int .u8)) (.pair (.int .i64) (.unit)), .ptr), (.int .i64, .ln)], [(.sl (.int .i64), ⟨true, false, false, false, false⟩)], [], [12], [], []⟩
-- 70 spec.l20Trades
noncomputable def fn70 : FnT := ⟨(Try.f70.body.getD .skip), 79, Try.f70.results.toList, [(.pair (.sl (.int .u8)) (.pair (.int .i64) (.unit)), .ptr), (.int .i64, .ln)], [(.sl (.ap 2), ⟨true, false, false, false, false⟩)], [(3, [(0, .ptr), (1, .val false), (5, .own false), (6, .val false)]), (10, [(0, .ptr), (1, .val false), (5, .own false), (6, .val false), (7, .bx (.ap 2) [.own false, .own false]), (8, .val false), (9, .val false)]), (18, [(0, .ptr), (5, .own false)]), (1000013, [(0, .ptr), (1, .val false), (5, .own false), (6, .val false), (7, .bx (.ap 2) [.own false, .own false])]), (1000016, [(0, .ptr), (1, .val false), (5, .own false)])], [7, 10, 18, 20, 21, 46, 65, 69, 75], [], []⟩
-- 71 (*spec.l20Rd).pick
noncomputable def fn71 : FnT := ⟨(Try.f71.body.getD .skip), 99, Try.f71.results.toList, [(.pair (.sl (.int .u8)) (.pair (.int .i64) (.unit)), .ptr), (.int .i64, .ln)], [(.int .i64, ⟨false, false, false, false, false⟩)], [], [], [], []⟩
-- 72 spec.TradesMay
noncomputable def fn72 : FnT := ⟨(Try.f72.body.getD .skip), 35, Try.f72.results.toList, [(.sl (.int .i64), .ln), (.sl (.ap 2), .ln)], [(.sl (.int .i64), ⟨true, false, false, false, false⟩)], [(3, [(0, .val true), (1, .val true), (5, .own false), (6, .val false)])], [9, 33], [], []⟩
-- 73 (*spec.l20Rd).odd
noncomputable def fn73 : FnT := ⟨(Try.f73.body.getD .skip), 15, Try.f73.results.toList, [(.pair (.sl (.int .u8)) (.pair (.int .i64) (.unit)), .ptr), (.int .i64, .ln)], [(.bool, ⟨false, false, false, false, false⟩)], [], [], [], []⟩
-- 74 spec.l1In
noncomputable def fn74 : FnT := ⟨(Try.f74.body.getD .skip), 15, Try.f74.results.toList, [(.int .i64, .ln), (.int .i64, .ln), (.int .i64, .ln)], [(.bool, ⟨false, false, false, false, false⟩)], [], [], [], []⟩
-- 75 impl.thingsOk
noncomputable def fn75 : FnT := ⟨(Try.f75.body.getD .skip), 24, Try.f75.results.toList, [(.sl (.int .i64), .ln), (.int .i64, .ln)], [(.bool, ⟨false, false, false, false, false⟩)], [(2, [(0, .val true), (1, .val false), (7, .val true), (8, .val false), (9, .val false)])], [], [], []⟩
-- 76 spec.l20Worth
noncomputable def fn76 : FnT := ⟨(Try.f76.body.getD .skip), 44, Try.f76.results.toList, [(.pair (.sl (.int .u8)) (.pair (.int .i64) (.unit)), .ptr)], [(.sl (.sl (.int .i64)), ⟨true, false, false, false, false⟩)], [(4, [(0, .ptr), (3, .own false), (4, .val false)]), (11, [(0, .ptr), (7, .own false), (8, .val false)])], [12, 27, 29, 38], [], []⟩
-- 77 impl.ordsOf
noncomputable def fn77 : FnT := ⟨(Try.f77.body.getD .skip), 32, Try.f77.results.toList, [(.sl (.sl (.int .i64)), .ln)], [(.sl (.sl (.ap 0)), ⟨true, false, false, false, false⟩), (.bool, ⟨false, false, false, false, false⟩)], [(3, [(4, .own false), (10, .val true), (11, .val false), (12, .val false)])], [9, 26], [], []⟩
-- 78 impl.heapsOrd
noncomputable def fn78 : FnT := ⟨(Try.f78.body.getD .skip), 32, Try.f78.results.toList, [(.sl (.int .i64), .ln), (.sl (.sl (.ap 0)), .ln)], [(.sl (.int .i64), ⟨true, false, false, false, false⟩), (.bool, ⟨false, false, false, false, false⟩)], [(3, [(1, .val true), (6, .val true), (10, .val true), (11, .val false), (12, .val false)]), (6, [(1, .val true), (6, .val true), (7, .val false), (10, .val true), (11, .val false), (12, .val false), (17, .val false), (18, .val false)])], [29], [], []⟩
-- 79 spec.l1Compare
noncomputable def fn79 : FnT := ⟨(Try.f79.body.getD .skip), 75, Try.f79.results.toList, [(.sl (.int .i64), .ln), (.sl (.int .i64), .ln)], [(.int .i64, ⟨false, false, false, false, false⟩)], [(4, [(5, .val false), (6, .val true), (7, .val false), (8, .val true), (9, .val false)])], [], [], []⟩
-- 80 impl.ordOf
noncomputable def fn80 : FnT := ⟨(Try.f80.body.getD .skip), 28, Try.f80.results.toList, [(.sl (.int .i64), .ln)], [(.sl (.ap 0), ⟨true, false, false, false, false⟩), (.bool, ⟨false, false, false, false, false⟩)], [], [17], [], []⟩
-- 81 impl.compare
noncomputable def fn81 : FnT := ⟨(Try.f81.body.getD .skip), 53, Try.f81.results.toList, [(.sl (.ap 0), .ln), (.sl (.ap 0), .ln)], [(.int .i64, ⟨false, false, false, false, false⟩)], [(2, [(0, .val true), (1, .val true), (5, .val false)])], [], [], []⟩
-- 83 spec.OrdValid
noncomputable def fn83 : FnT := ⟨(Try.f83.body.getD .skip), 13, Try.f83.results.toList, [(.sl (.int .i64), .ln)], [(.bool, ⟨false, false, false, false, false⟩)], [], [], [], []⟩
-- 84 spec.l8Ord
noncomputable def fn84 : FnT := ⟨(Try.f84.body.getD .skip), 39, Try.f84.results.toList, [(.sl (.int .i64), .ln), (.sl (.sl (.int .i64)), .ln)], [(.sl (.int .i64), ⟨false, false, false, false, false⟩)], [(3, [(0, .val true), (1, .val true), (5, .val false), (6, .val false)]), (6, [(0, .val true), (1, .val true), (5, .val false), (6, .val false), (7, .val false)])], [], [], []⟩
-- 85 spec.l8List
noncomputable def fn85 : FnT := ⟨(Try.f85.body.getD .skip), 22, Try.f85.results.toList, [(.sl (.int .i64), .ln), (.int .i64, .ln)], [(.bool, ⟨false, false, false, false, false⟩)], [(2, [(0, .val true), (1, .val false), (5, .val false)])], [], [], []⟩
-- 86 spec.TradeValid
noncomputable def fn86 : FnT := ⟨(Try.f86.body.getD .skip), 11, Try.f86.results.toList, [(.ap 2, .ln)], [(.bool, ⟨false, false, false, false, false⟩)], [], [], [], []⟩
-- 87 impl.rowOf
noncomputable def fn87 : FnT := ⟨(Try.f87.body.getD .skip), 27, Try.f87.results.toList, [(.sl (.ap 0), .ln)], [(.sl (.int .i64), ⟨true, false, false, false, false⟩)], [(3, [(3, .own false), (9, .val true), (10, .val false), (11, .val false)])], [8, 19, 24], [], []⟩
-- 88 impl.number
noncomputable def fn88 : FnT := ⟨(Try.f88.body.getD .skip), 8, Try.f88.results.toList, [(.int .i64, .ln)], [(.sl (.ap 0), ⟨true, false, false, false, false⟩)], [], [7], [], []⟩
-- 89 spec.l1Same
noncomputable def fn89 : FnT := ⟨(Try.f89.body.getD .skip), 32, Try.f89.results.toList, [(.sl (.int .i64), .ln), (.sl (.int .i64), .ln)], [(.bool, ⟨false, false, false, false, false⟩)], [(2, [(0, .val true), (1, .val true), (5, .val false)])], [], [], []⟩
-- 90 spec.l20Things
noncomputable def fn90 : FnT := ⟨(Try.f90.body.getD .skip), 23, Try.f90.results.toList, [(.pair (.sl (.int .u8)) (.pair (.int .i64) (.unit)), .ptr), (.int .i64, .ln)], [(.sl (.int .i64), ⟨true, false, false, false, false⟩)], [(3, [(0, .ptr), (1, .val false), (5, .own false), (6, .val false)])], [7, 21], [], []⟩
-- 91 spec.OrdPower
noncomputable def fn91 : FnT := ⟨(Try.f91.body.getD .skip), 18, Try.f91.results.toList, [(.sl (.int .i64), .ln)], [(.sl (.int .i64), ⟨true, false, false, false, false⟩), (.bool, ⟨false, false, false, false, false⟩)], [], [5, 7, 16], [], []⟩
-- 92 spec.OrdOf
noncomputable def fn92 : FnT := ⟨(Try.f92.body.getD .skip), 12, Try.f92.results.toList, [(.int .i64, .ln)], [(.sl (.int .i64), ⟨true, false, false, false, false⟩)], [], [6, 9, 11], [], []⟩
-- 93 spec.l20Little
noncomputable def fn93 : FnT := ⟨(Try.f93.body.getD .skip), 26, Try.f93.results.toList, [(.pair (.sl (.int .u8)) (.pair (.int .i64) (.unit)), .ptr), (.int .i64, .ln)], [(.sl (.int .i64), ⟨true, false, false, false, false⟩)], [(5, [(0, .ptr), (5, .own false), (6, .val false)])], [11, 13, 24], [], []⟩
-- 94 impl.natural
noncomputable def fn94 : FnT := ⟨(Try.f94.body.getD .skip), 73, Try.f94.results.toList, [(.sl (.ap 0), .ln), (.sl (.ap 0), .ln)], [(.sl (.ap 0), ⟨true, true, false, false, false⟩)], [(2, [(0, .val true), (1, .val true), (5, .own true)])], [7, 41, 54, 65, 70, 72], [], []⟩
-- 95 impl.told
noncomputable def fn95 : FnT := ⟨(Try.f95.body.getD .skip), 15, Try.f95.results.toList, [(.sl (.ap 0), .ln)], [(.sl (.int .i64), ⟨true, false, false, false, false⟩), (.bool, ⟨false, false, false, false, false⟩)], [], [13, 14], [], []⟩
-- 96 spec.l1Terms
noncomputable def fn96 : FnT := ⟨(Try.f96.body.getD .skip), 36, Try.f96.results.toList, [(.sl (.int .i64), .ln)], [(.sl (.int .i64), ⟨true, false, false, false, false⟩), (.sl (.sl (.int .i64)), ⟨true, true, false, false, false⟩)], [(4, [(0, .val true), (4, .own false), (5, .own true), (6, .val false)])], [8, 9, 24, 32], [], []⟩
-- 97 impl.takeOrd
noncomputable def fn97 : FnT := ⟨(Try.f97.body.getD .skip), 81, Try.f97.results.toList, [(.sl (.int .i64), .ln)], [(.sl (.ap 0), ⟨true, false, false, false, false⟩), (.sl (.int .i64), ⟨false, true, false, false, false⟩), (.bool, ⟨false, false, false, false, false⟩)], [(9, [(0, .val true), (6, .own false), (26, .val false), (27, .val false)])], [19, 76], [], []⟩
-- 98 cmp.Compare[int]
noncomputable def fn98 : FnT := ⟨(Try.f98.body.getD .skip), 20, Try.f98.results.toList, [(.int .i64, .ln), (.int .i64, .ln)], [(.int .i64, ⟨false, false, false, false, false⟩)], [], [], [], []⟩
-- 99 spec.l1End
noncomputable def fn99 : FnT := ⟨(Try.f99.body.getD .skip), 72, Try.f99.results.toList, [(.sl (.int .i64), .ln), (.int .i64, .ln)], [(.int .i64, ⟨false, false, false, false, false⟩)], [(7, [(0, .val true), (1, .val false), (5, .val false), (6, .val true), (7, .val false)])], [], [], []⟩
-- 100 spec.OrdNatural
noncomputable def fn100 : FnT := ⟨(Try.f100.body.getD .skip), 131, Try.f100.results.toList, [(.sl (.int .i64), .ln), (.sl (.int .i64), .ln)], [(.sl (.int .i64), ⟨false, false, false, false, false⟩), (.bool, ⟨false, false, false, false, false⟩)], [(9, [(6, .val false), (7, .val true), (8, .val false), (9, .val true), (10, .own false), (11, .own true), (12, .val false), (13, .val false)]), (1000016, [(6, .val false), (7, .val true), (8, .val false), (9, .val true), (10, .own false), (11, .own true), (12, .val false), (13, .val false), (14, .val false)])], [34, 35, 77, 84, 97, 104, 115, 122], [], []⟩
-- 101 spec.l20Ord
noncomputable def fn101 : FnT := ⟨(Try.f101.body.getD .skip), 43, Try.f101.results.toList, [(.pair (.sl (.int .u8)) (.pair (.int .i64) (.unit)), .ptr), (.int .i64, .ln)], [(.sl (.int .i64), ⟨true, false, false, false, false⟩)], [(3, [(0, .ptr), (1, .val false), (5, .own false), (6, .val false)])], [8, 19, 25, 28, 31, 33, 35, 38, 41], [], []⟩
-- 102 spec.l20Raw
noncomputable def fn102 : FnT := ⟨(Try.f102.body.getD .skip), 102, Try.f102.results.toList, [(.pair (.sl (.int .u8)) (.pair (.int .i64) (.unit)), .ptr), (.int .i64, .ln)], [(.sl (.int .i64), ⟨true, false, false, false, false⟩)], [(6, [(0, .ptr), (1, .val false), (5, .own false), (6, .val false), (7, .val false)]), (12, [(0, .ptr), (1, .val false), (5, .own false), (6, .val false), (7, .val false), (8, .val false), (9, .val false)]), (1000011, [(0, .ptr), (1, .val false), (5, .own false), (6, .val false), (7, .val false), (8, .val false)]), (1000015, [(0, .ptr), (1, .val false), (5, .own false), (6, .val false), (7, .val false), (9, .val false)])], [14, 15, 68, 72, 82, 86, 87, 91, 94, 101], [], []⟩
-- 103 impl.sizeOf
noncomputable def fn103 : FnT := ⟨(Try.f103.body.getD .skip), 20, Try.f103.results.toList, [(.sl (.ap 0), .ln)], [(.int .i64, ⟨false, false, false, false, false⟩)], [(3, [(3, .val false), (6, .val true), (7, .val false), (8, .val false)])], [], [], []⟩
-- 104 impl.most
noncomputable def fn104 : FnT := ⟨(Try.f104.body.getD .skip), 21, Try.f104.results.toList, [(.sl (.ap 0), .ln)], [(.int .i64, ⟨false, false, false, false, false⟩)], [(3, [(3, .val false), (6, .val true), (7, .val false), (8, .val false)])], [], [], []⟩
-- 105 slices.Clip[[]int,int]
noncomputable def fn105 : FnT := ⟨(Try.f105.body.getD .skip), 9, Try.f105.results.toList, [(.sl (.int .i64), .mv)], [(.sl (.int .i64), ⟨true, false, false, false, false⟩)], [], [8], [], []⟩
-- 106 spec.l1Span
noncomputable def fn106 : FnT := ⟨(Try.f106.body.getD .skip), 23, Try.f106.results.toList, [(.sl (.int .i64), .ln), (.int .i64, .ln)], [(.int .i64, ⟨false, false, false, false, false⟩)], [(4, [(0, .val true), (1, .val false), (5, .val false), (6, .val false)])], [], [], []⟩
-- 107 cmp.isNaN[int]
noncomputable def fn107 : FnT := ⟨(Try.f107.body.getD .skip), 6, Try.f107.results.toList, [(.int .i64, .ln)], [(.bool, ⟨false, false, false, false, false⟩)], [], [], [], []⟩
-- 108 spec.l2Fit
noncomputable def fn108 : FnT := ⟨(Try.f108.body.getD .skip), 9, Try.f108.results.toList, [(.sl (.int .i64), .ln)], [(.sl (.int .i64), ⟨false, true, false, false, false⟩), (.bool, ⟨false, false, false, false, false⟩)], [], [], [], []⟩
-- 109 spec.l1Make
noncomputable def fn109 : FnT := ⟨(Try.f109.body.getD .skip), 29, Try.f109.results.toList, [(.sl (.int .i64), .ln), (.sl (.sl (.int .i64)), .ln)], [(.sl (.int .i64), ⟨true, false, false, false, false⟩)], [(3, [(0, .val true), (1, .val true), (5, .own false), (6, .val false)])], [9, 22, 27], [], []⟩
def tyOf : Nat → Option Ty
  | 3 => some (.int .i64)
  | 4 => some (.bool)
  | 5 => some (.int .u8)
  | 22 => some (.sl (.int .i64))
  | 25 => some (.sl (.sl (.int .i64)))
  | 28 => some (.sl (.ap 2))
  | 37 => some (.sl (.int .u8))
  | 45 => some (.ap 2)
  | 67 => some (.sl (.bool))
  | 70 => some (.ap 5)
  | 86 => some (.sl (.sl (.ap 0)))
  | 91 => some (.sl (.ap 0))
  | 99 => some (.pair (.sl (.int .u8)) (.pair (.int .i64) (.unit)))
  | 107 => some (.ap 0)
  | _ => none
noncomputable def tab : Tab := ⟨tyOf, (fun
  | 4 => some fn4
  | 6 => some fn6
  | 8 => some fn8
  | 9 => some fn9
  | 10 => some fn10
  | 15 => some fn15
  | 18 => some fn18
  | 26 => some fn26
  | 27 => some fn27
  | 28 => some fn28
  | 29 => some fn29
  | 30 => some fn30
  | 31 => some fn31
  | 32 => some fn32
  | 33 => some fn33
  | 34 => some fn34
  | 35 => some fn35
  | 36 => some fn36
  | 37 => some fn37
  | 38 => some fn38
  | 39 => some fn39
  | 40 => some fn40
  | 41 => some fn41
  | 42 => some fn42
  | 43 => some fn43
  | 44 => some fn44
  | 45 => some fn45
  | 46 => some fn46
  | 47 => some fn47
  | 48 => some fn48
  | 50 => some fn50
  | 56 => some fn56
  | 57 => some fn57
  | 58 => some fn58
  | 59 => some fn59
  | 61 => some fn61
  | 62 => some fn62
  | 63 => some fn63
  | 65 => some fn65
  | 66 => some fn66
  | 67 => some fn67
  | 68 => some fn68
  | 69 => some fn69
  | 70 => some fn70
  | 71 => some fn71
  | 72 => some fn72
  | 73 => some fn73
  | 74 => some fn74
  | 75 => some fn75
  | 76 => some fn76
  | 77 => some fn77
  | 78 => some fn78
  | 79 => some fn79
  | 80 => some fn80
  | 81 => some fn81
  | 83 => some fn83
  | 84 => some fn84
  | 85 => some fn85
  | 86 => some fn86
  | 87 => some fn87
  | 88 => some fn88
  | 89 => some fn89
  | 90 => some fn90
  | 91 => some fn91
  | 92 => some fn92
  | 93 => some fn93
  | 94 => some fn94
  | 95 => some fn95
  | 96 => some fn96
  | 97 => some fn97
  | 98 => some fn98
  | 99 => some fn99
  | 100 => some fn100
  | 101 => some fn101
  | 102 => some fn102
  | 103 => some fn103
  | 104 => some fn104
  | 105 => some fn105
  | 106 => some fn106
  | 107 => some fn107
  | 108 => some fn108
  | 109 => some fn109
  | _ => none), fun _ => True, (fun -- mp
  | 71 => some (.bool)
  | 76 => some (.int .i64)
  | _ => none), fun _ => false⟩
noncomputable def ext : Ext tab := fun
  | 62 => some (onRow tab 62 (.int .i64) cloned)
  | _ => none
noncomputable def laws_FnHeapsReached.f (k : Nat) (a0 : List Int) : Option Bool := runF tab ext k 4 [⟨.sl (.int .u8), a0⟩]
noncomputable def laws_FnHeapsReached.l0 (k : Nat) (x3 : List Int) (x4 : List Trade) (x5 : List (List Int)) (x6 : Int) : Option Bool := runL tab ext k 4 (todoAt tab 4 10) (stAt tab 4 [(3, mkVal false (.sl (.int .i64)) x3), (4, mkVal true (.sl (.ap 2)) x4), (5, mkVal false (.sl (.sl (.int .i64))) x5), (6, mkVal false (.int .i64) x6)] [])
noncomputable def laws_FnHeapsReached.l1 (k : Nat) (x3 : List Int) (x4 : List Trade) (x5 : List (List Int)) (x6 : Int) (x7 : Int) : Option Bool := runL tab ext k 4 (todoAt tab 4 15) (stAt tab 4 [(3, mkVal false (.sl (.int .i64)) x3), (4, mkVal true (.sl (.ap 2)) x4), (5, mkVal false (.sl (.sl (.int .i64))) x5), (6, mkVal false (.int .i64) x6), (7, mkVal false (.int .i64) x7)] [])
noncomputable def laws_FnTradesRun.f (k : Nat) (a0 : List Int) : Option Bool := runF tab ext k 6 [⟨.sl (.int .u8), a0⟩]
noncomputable def laws_FnLongestTrades.f (k : Nat) (a0 : List Int) : Option Bool := runF tab ext k 8 [⟨.sl (.int .u8), a0⟩]
noncomputable def laws_FnLongestTrades.l0 (k : Nat) (x3 : List Int) (x4 : List Trade) (x5 : Int) (x6 : Int) (x7 : Int) : Option Bool := runL tab ext k 8 (todoAt tab 8 11) (stAt tab 8 [(3, mkVal false (.sl (.int .i64)) x3), (4, mkVal true (.sl (.ap 2)) x4), (5, mkVal false (.int .i64) x5), (6, mkVal false (.int .i64) x6), (7, mkVal false (.int .i64) x7)] [])
noncomputable def laws_FnHeapsLast.f (k : Nat) (a0 : List Int) : Option Bool := runF tab ext k 9 [⟨.sl (.int .u8), a0⟩]
noncomputable def laws_FnHeapsLast.l0 (k : Nat) (x3 : List Int) (x4 : List Trade) (x5 : List (List Int)) (x6 : List (List Int)) (x7 : Int) : Option Bool := runL tab ext k 9 (todoAt tab 9 9) (stAt tab 9 [(3, mkVal false (.sl (.int .i64)) x3), (4, mkVal true (.sl (.ap 2)) x4), (5, mkVal false (.sl (.sl (.int .i64))) x5), (6, mkVal false (.sl (.sl (.int .i64))) x6), (7, mkVal false (.int .i64) x7)] [])
noncomputable def laws_FnTradesEnd.f (k : Nat) (a0 : List Int) (a1 : List Int) : Option Bool := runF tab ext k 10 [⟨.sl (.int .u8), a0⟩, ⟨.sl (.int .u8), a1⟩]
noncomputable def laws_FnTradesEnd.l0 (k : Nat) (x5 : List Trade) (x6 : List (List Int)) (x8 : List Int) (x10 : List Int) (x11 : Bool) (x12 : Int) : Option Bool := runL tab ext k 10 (todoAt tab 10 12) (stAt tab 10 [(5, mkVal true (.sl (.ap 2)) x5), (6, mkVal true (.sl (.sl (.int .i64))) x6), (8, mkVal false (.sl (.int .i64)) x8), (10, mkVal false (.sl (.int .i64)) x10), (11, mkVal false (.bool) x11), (12, mkVal false (.int .i64) x12)] [])
noncomputable def spec_HeapsReached.f (k : Nat) (a0 : List Int) (a1 : List Trade) : Option (List (List Int)) := runF tab ext k 15 [⟨.sl (.int .i64), a0⟩, ⟨.sl (.ap 2), a1⟩]
noncomputable def spec_HeapsReached.l0 (k : Nat) (x1 : List Trade) (x5 : List (List Int)) (x6 : List Bool) (x7 : Int) : Option (List (List Int)) := runL tab ext k 15 (todoAt tab 15 8) (stAt tab 15 [(1, mkVal true (.sl (.ap 2)) x1), (5, .ref 23), (6, .ref 27), (7, mkVal false (.int .i64) x7)] [(23, .sl false false (.sl (.int .i64)) x5), (27, .sl false false (.bool) x6)])
noncomputable def spec_HeapsReached.l1 (k : Nat) (x1 : List Trade) (x5 : List (List Int)) (x6 : List Bool) (x7 : Int) (x8 : Int) : Option (List (List Int)) := runL tab ext k 15 (todoAt tab 15 11) (stAt tab 15 [(1, mkVal true (.sl (.ap 2)) x1), (5, .ref 23), (6, .ref 27), (7, mkVal false (.int .i64) x7), (8, mkVal false (.int .i64) x8)] [(23, .sl false false (.sl (.int .i64)) x5), (27, .sl false false (.bool) x6)])
noncomputable def spec_HeapsReached.j0 (k : Nat) (x1 : List Trade) (x5 : List (List Int)) (x6 : List Bool) (x7 : Int) (x8 : Int) (x9 : List Int) : Option (List (List Int)) := runL tab ext k 15 (todoAt tab 15 1000015) (stAt tab 15 [(1, mkVal true (.sl (.ap 2)) x1), (5, .ref 23), (6, .ref 27), (7, mkVal false (.int .i64) x7), (8, mkVal false (.int .i64) x8), (9, mkVal false (.sl (.int .i64)) x9)] [(23, .sl false false (.sl (.int .i64)) x5), (27, .sl false false (.bool) x6)])
noncomputable def impl_HeapsReached.f (k : Nat) (a0 : List Int) (a1 : List Trade) : Option (List (List Int)) := runF tab ext k 18 [⟨.sl (.int .i64), a0⟩, ⟨.sl (.ap 2), a1⟩]
noncomputable def impl_HeapsReached.l0 (k : Nat) (x1 : List Trade) (x5 : List (List Int)) (x6 : List ((Int × Int × Int) × Bool)) (x7 : Int) : Option (List (List Int)) := runL tab ext k 18 (todoAt tab 18 6) (stAt tab 18 [(1, mkVal true (.sl (.ap 2)) x1), (5, .ref 23), (6, .ref 27), (7, mkVal false (.int .i64) x7)] [(23, .sl false false (.sl (.int .i64)) x5), (27, .mp (.bool) x6)])
noncomputable def impl_HeapsReached.l1 (k : Nat) (x1 : List Trade) (x5 : List (List Int)) (x6 : List ((Int × Int × Int) × Bool)) (x7 : Int) (x34 : List Trade) (x35 : Int) (x36 : Int) : Option (List (List Int)) := runL tab ext k 18 (todoAt tab 18 9) (stAt tab 18 [(1, mkVal true (.sl (.ap 2)) x1), (5, .ref 23), (6, .ref 27), (7, mkVal false (.int .i64) x7), (34, mkVal true (.sl (.ap 2)) x34), (35, mkVal false (.int .i64) x35), (36, mkVal false (.int .i64) x36)] [(23, .sl false false (.sl (.int .i64)) x5), (27, .mp (.bool) x6)])
noncomputable def spec_DrawHeapsReached.f (k : Nat) (a0 : List Int) : Option (List Int × List Trade) := runF tab ext k 26 [⟨.sl (.int .u8), a0⟩]
noncomputable def laws_sameLists.f (k : Nat) (a0 : List (List Int)) (a1 : List (List Int)) : Option Bool := runF tab ext k 27 [⟨.sl (.sl (.int .i64)), a0⟩, ⟨.sl (.sl (.int .i64)), a1⟩]
noncomputable def laws_sameLists.l0 (k : Nat) (x0 : List (List Int)) (x1 : List (List Int)) (x5 : Int) : Option Bool := runL tab ext k 27 (todoAt tab 27 4) (stAt tab 27 [(0, mkVal true (.sl (.sl (.int .i64))) x0), (1, mkVal true (.sl (.sl (.int .i64))) x1), (5, mkVal false (.int .i64) x5)] [])
noncomputable def laws_alive.f (k : Nat) : Option Bool := runF tab ext k 28 []
noncomputable def laws_hasList.f (k : Nat) (a0 : List (List Int)) (a1 : List Int) : Option Bool := runF tab ext k 29 [⟨.sl (.sl (.int .i64)), a0⟩, ⟨.sl (.int .i64), a1⟩]
noncomputable def laws_hasList.l0 (k : Nat) (x0 : List (List Int)) (x1 : List Int) (x5 : Int) : Option Bool := runL tab ext k 29 (todoAt tab 29 2) (stAt tab 29 [(0, mkVal true (.sl (.sl (.int .i64))) x0), (1, mkVal true (.sl (.int .i64)) x1), (5, mkVal false (.int .i64) x5)] [])
noncomputable def impl_TradeDo.f (k : Nat) (a0 : List Int) (a1 : Trade) : Option (List Int × Bool) := runF tab ext k 30 [⟨.sl (.int .i64), a0⟩, ⟨.ap 2, a1⟩]
noncomputable def laws_sameInts.f (k : Nat) (a0 : List Int) (a1 : List Int) : Option Bool := runF tab ext k 31 [⟨.sl (.int .i64), a0⟩, ⟨.sl (.int .i64), a1⟩]
noncomputable def laws_sameInts.l0 (k : Nat) (x0 : List Int) (x1 : List Int) (x5 : Int) : Option Bool := runL tab ext k 31 (todoAt tab 31 4) (stAt tab 31 [(0, mkVal true (.sl (.int .i64)) x0), (1, mkVal true (.sl (.int .i64)) x1), (5, mkVal false (.int .i64) x5)] [])
noncomputable def spec_LongestTrades.f (k : Nat) (a0 : List Int) (a1 : List Trade) : Option Int := runF tab ext k 32 [⟨.sl (.int .i64), a0⟩, ⟨.sl (.ap 2), a1⟩]
noncomputable def spec_LongestTrades.l0 (k : Nat) (x1 : List Trade) (x5 : List (List Int)) (x6 : List Int) (x7 : Int) : Option Int := runL tab ext k 32 (todoAt tab 32 6) (stAt tab 32 [(1, mkVal true (.sl (.ap 2)) x1), (5, mkVal false (.sl (.sl (.int .i64))) x5), (6, .ref 27), (7, mkVal false (.int .i64) x7)] [(27, .sl false false (.int .i64) x6)])
noncomputable def spec_LongestTrades.l1 (k : Nat) (x1 : List Trade) (x5 : List (List Int)) (x6 : List Int) (x8 : Int) : Option Int := runL tab ext k 32 (todoAt tab 32 10) (stAt tab 32 [(1, mkVal true (.sl (.ap 2)) x1), (5, mkVal false (.sl (.sl (.int .i64))) x5), (6, .ref 27), (8, mkVal false (.int .i64) x8)] [(27, .sl false false (.int .i64) x6)])
noncomputable def spec_LongestTrades.l2 (k : Nat) (x1 : List Trade) (x5 : List (List Int)) (x6 : List Int) (x8 : Int) (x9 : Bool) (x10 : Int) : Option Int := runL tab ext k 32 (todoAt tab 32 14) (stAt tab 32 [(1, mkVal true (.sl (.ap 2)) x1), (5, mkVal false (.sl (.sl (.int .i64))) x5), (6, .ref 27), (8, mkVal false (.int .i64) x8), (9, mkVal false (.bool) x9), (10, mkVal false (.int .i64) x10)] [(27, .sl false false (.int .i64) x6)])
noncomputable def spec_LongestTrades.l3 (k : Nat) (x1 : List Trade) (x5 : List (List Int)) (x6 : List Int) (x8 : Int) (x9 : Bool) (x10 : Int) (x11 : Int) (x12 : Int) : Option Int := runL tab ext k 32 (todoAt tab 32 19) (stAt tab 32 [(1, mkVal true (.sl (.ap 2)) x1), (5, mkVal false (.sl (.sl (.int .i64))) x5), (6, .ref 27), (8, mkVal false (.int .i64) x8), (9, mkVal false (.bool) x9), (10, mkVal false (.int .i64) x10), (11, mkVal false (.int .i64) x11), (12, mkVal false (.int .i64) x12)] [(27, .sl false false (.int .i64) x6)])
noncomputable def impl_LongestTrades.f (k : Nat) (a0 : List Int) (a1 : List Trade) : Option Int := runF tab ext k 33 [⟨.sl (.int .i64), a0⟩, ⟨.sl (.ap 2), a1⟩]
noncomputable def impl_LongestTrades.l0 (k : Nat) (x0 : List Int) (x1 : List Trade) (x5 : List (List Int)) (x6 : List ((Int × Int × Int) × Int)) (x22 : Int) (x23 : Int) : Option Int := runL tab ext k 33 (todoAt tab 33 6) (stAt tab 33 [(0, mkVal true (.sl (.int .i64)) x0), (1, mkVal true (.sl (.ap 2)) x1), (5, mkVal false (.sl (.sl (.int .i64))) x5), (6, .ref 27), (22, mkVal false (.int .i64) x22), (23, mkVal false (.int .i64) x23)] [(27, .mp (.int .i64) x6)])
noncomputable def impl_LongestTrades.l1 (k : Nat) (x0 : List Int) (x1 : List Trade) (x5 : List (List Int)) (x6 : List ((Int × Int × Int) × Int)) (x7 : Bool) (x22 : Int) (x23 : Int) (x25 : List (List Int)) (x26 : Int) (x27 : Int) : Option Int := runL tab ext k 33 (todoAt tab 33 9) (stAt tab 33 [(0, mkVal true (.sl (.int .i64)) x0), (1, mkVal true (.sl (.ap 2)) x1), (5, mkVal false (.sl (.sl (.int .i64))) x5), (6, .ref 27), (7, mkVal false (.bool) x7), (22, mkVal false (.int .i64) x22), (23, mkVal false (.int .i64) x23), (25, mkVal false (.sl (.sl (.int .i64))) x25), (26, mkVal false (.int .i64) x26), (27, mkVal false (.int .i64) x27)] [(27, .mp (.int .i64) x6)])
noncomputable def impl_LongestTrades.l2 (k : Nat) (x0 : List Int) (x1 : List Trade) (x5 : List (List Int)) (x6 : List ((Int × Int × Int) × Int)) (x7 : Bool) (x9 : List Int) (x10 : Int) (x22 : Int) (x23 : Int) (x25 : List (List Int)) (x26 : Int) (x27 : Int) (x31 : List Trade) (x32 : Int) (x33 : Int) : Option Int := runL tab ext k 33 (todoAt tab 33 13) (stAt tab 33 [(0, mkVal true (.sl (.int .i64)) x0), (1, mkVal true (.sl (.ap 2)) x1), (5, mkVal false (.sl (.sl (.int .i64))) x5), (6, .ref 27), (7, mkVal false (.bool) x7), (9, mkVal false (.sl (.int .i64)) x9), (10, mkVal false (.int .i64) x10), (22, mkVal false (.int .i64) x22), (23, mkVal false (.int .i64) x23), (25, mkVal false (.sl (.sl (.int .i64))) x25), (26, mkVal false (.int .i64) x26), (27, mkVal false (.int .i64) x27), (31, mkVal true (.sl (.ap 2)) x31), (32, mkVal false (.int .i64) x32), (33, mkVal false (.int .i64) x33)] [(27, .mp (.int .i64) x6)])
noncomputable def spec_DrawTradesRun.f (k : Nat) (a0 : List Int) : Option (List Int × List Trade × List Int) := runF tab ext k 34 [⟨.sl (.int .u8), a0⟩]
noncomputable def spec_DrawTradesRun.l0 (k : Nat) (x5_0 : List Int) (x5_1 : Int) (x6 : List Int) (x7 : List Trade) (x8 : List Int) (x9 : List Int) (x10 : Int) : Option (List Int × List Trade × List Int) := runL tab ext k 34 (todoAt tab 34 7) (stAt tab 34 [(5, .ptr 60 []), (6, mkVal false (.sl (.int .i64)) x6), (7, .ref 31), (8, .ref 35), (9, mkVal false (.sl (.int .i64)) x9), (10, mkVal false (.int .i64) x10)] [(60, .box true (.pair (.sl (.int .u8)) (.pair (.int .i64) (.unit))) (x5_0, x5_1, ())), (31, .sl true false (.ap 2) x7), (35, .sl false false (.int .i64) x8)])
noncomputable def spec_DrawTradesRun.j0 (k : Nat) (x5_0 : List Int) (x5_1 : Int) (x6 : List Int) (x7 : List Trade) (x8 : List Int) : Option (List Int × List Trade × List Int) := runL tab ext k 34 (todoAt tab 34 1000014) (stAt tab 34 [(5, .ptr 60 []), (6, mkVal false (.sl (.int .i64)) x6), (7, .ref 31), (8, .ref 35)] [(60, .box true (.pair (.sl (.int .u8)) (.pair (.int .i64) (.unit))) (x5_0, x5_1, ())), (31, .sl true false (.ap 2) x7), (35, .sl false false (.int .i64) x8)])
noncomputable def spec_DrawTradesRun.j1 (k : Nat) (x6 : List Int) (x7 : List Trade) (x8 : List Int) : Option (List Int × List Trade × List Int) := runL tab ext k 34 (todoAt tab 34 1000016) (stAt tab 34 [(6, mkVal false (.sl (.int .i64)) x6), (7, .ref 31), (8, .ref 35)] [(31, .sl true false (.ap 2) x7), (35, .sl false false (.int .i64) x8)])
noncomputable def impl_TradesRun.f (k : Nat) (a0 : List Int) (a1 : List Trade) (a2 : List Int) : Option (List Int × Bool) := runF tab ext k 35 [⟨.sl (.int .i64), a0⟩, ⟨.sl (.ap 2), a1⟩, ⟨.sl (.int .i64), a2⟩]
noncomputable def impl_TradesRun.l0 (k : Nat) (x1 : List Trade) (x8 : List Int) (x28 : List Int) (x29 : Int) (x30 : Int) : Option (List Int × Bool) := runL tab ext k 35 (todoAt tab 35 5) (stAt tab 35 [(1, mkVal true (.sl (.ap 2)) x1), (8, .ref 35), (28, mkVal true (.sl (.int .i64)) x28), (29, mkVal false (.int .i64) x29), (30, mkVal false (.int .i64) x30)] [(35, .sl false false (.int .i64) x8)])
noncomputable def spec_TradesRun.f (k : Nat) (a0 : List Int) (a1 : List Trade) (a2 : List Int) : Option (List Int × Bool) := runF tab ext k 36 [⟨.sl (.int .i64), a0⟩, ⟨.sl (.ap 2), a1⟩, ⟨.sl (.int .i64), a2⟩]
noncomputable def spec_TradesRun.l0 (k : Nat) (x1 : List Trade) (x2 : List Int) (x8 : List Int) (x9 : Int) : Option (List Int × Bool) := runL tab ext k 36 (todoAt tab 36 5) (stAt tab 36 [(1, mkVal true (.sl (.ap 2)) x1), (2, mkVal true (.sl (.int .i64)) x2), (8, .ref 35), (9, mkVal false (.int .i64) x9)] [(35, .sl false false (.int .i64) x8)])
noncomputable def impl_HeapsValid.f (k : Nat) (a0 : List Int) : Option Bool := runF tab ext k 37 [⟨.sl (.int .i64), a0⟩]
noncomputable def spec_HeapsLast.f (k : Nat) (a0 : List Int) (a1 : List Trade) : Option (List (List Int)) := runF tab ext k 38 [⟨.sl (.int .i64), a0⟩, ⟨.sl (.ap 2), a1⟩]
noncomputable def spec_HeapsLast.l0 (k : Nat) (x1 : List Trade) (x5 : List (List Int)) (x6 : List (List Int)) (x7 : Int) : Option (List (List Int)) := runL tab ext k 38 (todoAt tab 38 4) (stAt tab 38 [(1, mkVal true (.sl (.ap 2)) x1), (5, .ref 23), (6, mkVal false (.sl (.sl (.int .i64))) x6), (7, mkVal false (.int .i64) x7)] [(23, .sl false false (.sl (.int .i64)) x5)])
noncomputable def impl_HeapsLast.f (k : Nat) (a0 : List Int) (a1 : List Trade) : Option (List (List Int)) := runF tab ext k 39 [⟨.sl (.int .i64), a0⟩, ⟨.sl (.ap 2), a1⟩]
noncomputable def impl_HeapsLast.l0 (k : Nat) (x1 : List Trade) (x5 : List (List Int)) (x11 : List (List Int)) (x12 : Int) (x13 : Int) : Option (List (List Int)) := runL tab ext k 39 (todoAt tab 39 3) (stAt tab 39 [(1, mkVal true (.sl (.ap 2)) x1), (5, .ref 23), (11, mkVal false (.sl (.sl (.int .i64))) x11), (12, mkVal false (.int .i64) x12), (13, mkVal false (.int .i64) x13)] [(23, .sl false false (.sl (.int .i64)) x5)])
noncomputable def spec_DrawLongestTrades.f (k : Nat) (a0 : List Int) : Option (List Int × List Trade) := runF tab ext k 40 [⟨.sl (.int .u8), a0⟩]
noncomputable def spec_DrawHeapsLast.f (k : Nat) (a0 : List Int) : Option (List Int × List Trade) := runF tab ext k 41 [⟨.sl (.int .u8), a0⟩]
noncomputable def impl_TradesMay.f (k : Nat) (a0 : List Int) (a1 : List Trade) : Option (List Int) := runF tab ext k 42 [⟨.sl (.int .i64), a0⟩, ⟨.sl (.ap 2), a1⟩]
noncomputable def impl_TradesMay.l0 (k : Nat) (x0 : List Int) (x5 : List Int) (x19 : List Trade) (x20 : Int) (x21 : Int) : Option (List Int) := runL tab ext k 42 (todoAt tab 42 5) (stAt tab 42 [(0, mkVal true (.sl (.int .i64)) x0), (5, .ref 23), (19, mkVal true (.sl (.ap 2)) x19), (20, mkVal false (.int .i64) x20), (21, mkVal false (.int .i64) x21)] [(23, .sl false false (.int .i64) x5)])
noncomputable def spec_DrawTradesEnd.f (k : Nat) (a0 : List Int) : Option (List Trade × List (List Int)) := runF tab ext k 43 [⟨.sl (.int .u8), a0⟩]
noncomputable def impl_TradesEnd.f (k : Nat) (a0 : List Trade) (a1 : List (List Int)) : Option Bool := runF tab ext k 44 [⟨.sl (.ap 2), a0⟩, ⟨.sl (.sl (.int .i64)), a1⟩]
noncomputable def impl_TradesEnd.l0 (k : Nat) (x5 : List (List Term)) (x25 : List Trade) (x26 : Int) (x27 : Int) : Option Bool := runL tab ext k 44 (todoAt tab 44 5) (stAt tab 44 [(5, mkVal false (.sl (.sl (.ap 0))) x5), (25, mkVal true (.sl (.ap 2)) x25), (26, mkVal false (.int .i64) x26), (27, mkVal false (.int .i64) x27)] [])
noncomputable def spec_TradesEnd.f (k : Nat) (a0 : List Trade) (a1 : List (List Int)) : Option Bool := runF tab ext k 45 [⟨.sl (.ap 2), a0⟩, ⟨.sl (.sl (.int .i64)), a1⟩]
noncomputable def spec_TradesEnd.l0 (k : Nat) (x0 : List Trade) (x1 : List (List Int)) (x5 : Int) : Option Bool := runL tab ext k 45 (todoAt tab 45 2) (stAt tab 45 [(0, mkVal true (.sl (.ap 2)) x0), (1, mkVal true (.sl (.sl (.int .i64))) x1), (5, mkVal false (.int .i64) x5)] [])
noncomputable def spec_DrawTradesMay.f (k : Nat) (a0 : List Int) : Option (List Int × List Trade) := runF tab ext k 46 [⟨.sl (.int .u8), a0⟩]
noncomputable def impl_HeapsOrd.f (k : Nat) (a0 : List Int) (a1 : List (List Int)) : Option (List Int × Bool) := runF tab ext k 47 [⟨.sl (.int .i64), a0⟩, ⟨.sl (.sl (.int .i64)), a1⟩]
noncomputable def impl_OrdCompare.f (k : Nat) (a0 : List Int) (a1 : List Int) : Option Int := runF tab ext k 48 [⟨.sl (.int .i64), a0⟩, ⟨.sl (.int .i64), a1⟩]
noncomputable def spec_HeapsOrd.f (k : Nat) (a0 : List Int) (a1 : List (List Int)) : Option (List Int × Bool) := runF tab ext k 50 [⟨.sl (.int .i64), a0⟩, ⟨.sl (.sl (.int .i64)), a1⟩]
noncomputable def spec_HeapsOrd.l0 (k : Nat) (x0 : List Int) (x1 : List (List Int)) (x6 : Int) : Option (List Int × Bool) := runL tab ext k 50 (todoAt tab 50 4) (stAt tab 50 [(0, mkVal true (.sl (.int .i64)) x0), (1, mkVal true (.sl (.sl (.int .i64))) x1), (6, mkVal false (.int .i64) x6)] [])
noncomputable def spec_HeapsValid.f (k : Nat) (a0 : List Int) : Option Bool := runF tab ext k 56 [⟨.sl (.int .i64), a0⟩]
noncomputable def spec_TradesValid.f (k : Nat) (a0 : List Trade) : Option Bool := runF tab ext k 57 [⟨.sl (.ap 2), a0⟩]
noncomputable def spec_TradesValid.l0 (k : Nat) (x0 : List Trade) (x3 : Int) : Option Bool := runL tab ext k 57 (todoAt tab 57 2) (stAt tab 57 [(0, mkVal true (.sl (.ap 2)) x0), (3, mkVal false (.int .i64) x3)] [])
noncomputable def spec_l8Code.f (k : Nat) (a0 : List Int) : Option Int := runF tab ext k 58 [⟨.sl (.int .i64), a0⟩]
noncomputable def spec_TradeDo.f (k : Nat) (a0 : List Int) (a1 : Trade) : Option (List Int × Bool) := runF tab ext k 59 [⟨.sl (.int .i64), a0⟩, ⟨.ap 2, a1⟩]
noncomputable def spec_TradeDo.l0 (k : Nat) (x0 : List Int) (x3 : Trade) (x6 : List Int) (x7 : Int) : Option (List Int × Bool) := runL tab ext k 59 (todoAt tab 59 5) (stAt tab 59 [(0, mkVal true (.sl (.int .i64)) x0), (3, .ptr 12 []), (6, .ref 27), (7, mkVal false (.int .i64) x7)] [(12, .box true (.ap 2) x3), (27, .sl false false (.int .i64) x6)])
noncomputable def impl_TradesValid.f (k : Nat) (a0 : List Trade) : Option Bool := runF tab ext k 61 [⟨.sl (.ap 2), a0⟩]
noncomputable def impl_TradesValid.l0 (k : Nat) (x0 : List Trade) (x5 : List Trade) (x6 : Int) (x7 : Int) : Option Bool := runL tab ext k 61 (todoAt tab 61 2) (stAt tab 61 [(0, mkVal true (.sl (.ap 2)) x0), (5, mkVal true (.sl (.ap 2)) x5), (6, mkVal false (.int .i64) x6), (7, mkVal false (.int .i64) x7)] [])
noncomputable def slices_Clone_int_int.f (k : Nat) (a0 : List Int) : Option (List Int) := runF tab ext k 62 [⟨.sl (.int .i64), a0⟩]
noncomputable def impl_traded.f (k : Nat) (a0 : List Int) (a1 : Trade) : Option (List Int × Bool) := runF tab ext k 63 [⟨.sl (.int .i64), a0⟩, ⟨.ap 2, a1⟩]
noncomputable def impl_traded.l0 (k : Nat) (x3 : Trade) (x6 : List Int) (x10 : List Int) (x11 : Int) (x12 : Int) : Option (List Int × Bool) := runL tab ext k 63 (todoAt tab 63 3) (stAt tab 63 [(3, .ptr 12 []), (6, .ref 27), (10, mkVal true (.sl (.int .i64)) x10), (11, mkVal false (.int .i64) x11), (12, mkVal false (.int .i64) x12)] [(12, .box true (.ap 2) x3), (27, .sl false false (.int .i64) x6)])
noncomputable def impl_OrdOf.f (k : Nat) (a0 : Int) : Option (List Int) := runF tab ext k 65 [⟨.int .i64, a0⟩]
noncomputable def impl_TradeValid.f (k : Nat) (a0 : Trade) : Option Bool := runF tab ext k 66 [⟨.ap 2, a0⟩]
noncomputable def spec_l8Index.f (k : Nat) (a0 : List (List Int)) (a1 : List Int) : Option Int := runF tab ext k 67 [⟨.sl (.sl (.int .i64)), a0⟩, ⟨.sl (.int .i64), a1⟩]
noncomputable def spec_l8Index.l0 (k : Nat) (x0 : List (List Int)) (x1 : List Int) (x5 : Int) : Option Int := runL tab ext k 67 (todoAt tab 67 2) (stAt tab 67 [(0, mkVal true (.sl (.sl (.int .i64))) x0), (1, mkVal true (.sl (.int .i64)) x1), (5, mkVal false (.int .i64) x5)] [])
noncomputable def spec_l20Open.f (k : Nat) (a0 : List Int) : Option (List Int × (Int × Unit)) := runF tab ext k 68 [⟨.sl (.int .u8), a0⟩]
noncomputable def spec_l20Heaps.f (k : Nat) (a0_0 : List Int) (a0_1 : Int) (a1 : Int) : Option (List Int × (List Int × (Int × Unit))) := runF tab ext k 69 [⟨.pair (.sl (.int .u8)) (.pair (.int .i64) (.unit)), (a0_0, a0_1, ())⟩, ⟨.int .i64, a1⟩]
noncomputable def spec_l20Trades.f (k : Nat) (a0_0 : List Int) (a0_1 : Int) (a1 : Int) : Option (List Trade × (List Int × (Int × Unit))) := runF tab ext k 70 [⟨.pair (.sl (.int .u8)) (.pair (.int .i64) (.unit)), (a0_0, a0_1, ())⟩, ⟨.int .i64, a1⟩]
noncomputable def spec_l20Trades.l0 (k : Nat) (x0_0 : List Int) (x0_1 : Int) (x1 : Int) (x5 : List Trade) (x6 : Int) : Option (List Trade × (List Int × (Int × Unit))) := runL tab ext k 70 (todoAt tab 70 3) (stAt tab 70 [(0, .ptr 316 []), (1, mkVal false (.int .i64) x1), (5, .ref 23), (6, mkVal false (.int .i64) x6)] [(316, .box false (.pair (.sl (.int .u8)) (.pair (.int .i64) (.unit))) (x0_0, x0_1, ())), (23, .sl false false (.ap 2) x5)])
noncomputable def spec_l20Trades.l1 (k : Nat) (x0_0 : List Int) (x0_1 : Int) (x1 : Int) (x5 : List Trade) (x6 : Int) (x7_0 : List Int) (x7_1 : List Int) (x8 : Int) (x9 : Int) : Option (List Trade × (List Int × (Int × Unit))) := runL tab ext k 70 (todoAt tab 70 10) (stAt tab 70 [(0, .ptr 316 []), (1, mkVal false (.int .i64) x1), (5, .ref 23), (6, mkVal false (.int .i64) x6), (7, .ptr 28 []), (8, mkVal false (.int .i64) x8), (9, mkVal false (.int .i64) x9)] [(316, .box false (.pair (.sl (.int .u8)) (.pair (.int .i64) (.unit))) (x0_0, x0_1, ())), (23, .sl false false (.ap 2) x5), (29, .sl false false (.int .i64) x7_0), (30, .sl false false (.int .i64) x7_1), (28, .bx (.ap 2) [.ref 29, .ref 30])])
noncomputable def spec_l20Trades.j0 (k : Nat) (x0_0 : List Int) (x0_1 : Int) (x1 : Int) (x5 : List Trade) (x6 : Int) (x7_0 : List Int) (x7_1 : List Int) : Option (List Trade × (List Int × (Int × Unit))) := runL tab ext k 70 (todoAt tab 70 1000013) (stAt tab 70 [(0, .ptr 316 []), (1, mkVal false (.int .i64) x1), (5, .ref 23), (6, mkVal false (.int .i64) x6), (7, .ptr 28 [])] [(316, .box false (.pair (.sl (.int .u8)) (.pair (.int .i64) (.unit))) (x0_0, x0_1, ())), (23, .sl false false (.ap 2) x5), (29, .sl false false (.int .i64) x7_0), (30, .sl false false (.int .i64) x7_1), (28, .bx (.ap 2) [.ref 29, .ref 30])])
noncomputable def spec_l20Trades.j1 (k : Nat) (x0_0 : List Int) (x0_1 : Int) (x1 : Int) (x5 : List Trade) : Option (List Trade × (List Int × (Int × Unit))) := runL tab ext k 70 (todoAt tab 70 1000016) (stAt tab 70 [(0, .ptr 316 []), (1, mkVal false (.int .i64) x1), (5, .ref 23)] [(316, .box false (.pair (.sl (.int .u8)) (.pair (.int .i64) (.unit))) (x0_0, x0_1, ())), (23, .sl false false (.ap 2) x5)])
noncomputable def spec_l20Trades.l2 (k : Nat) (x0_0 : List Int) (x0_1 : Int) (x5 : List Trade) : Option (List Trade × (List Int × (Int × Unit))) := runL tab ext k 70 (todoAt tab 70 18) (stAt tab 70 [(0, .ptr 316 []), (5, .ref 23)] [(316, .box false (.pair (.sl (.int .u8)) (.pair (.int .i64) (.unit))) (x0_0, x0_1, ())), (23, .sl false false (.ap 2) x5)])
noncomputable def spec_l20Rd__pick.f (k : Nat) (a0_0 : List Int) (a0_1 : Int) (a1 : Int) : Option (Int × (List Int × (Int × Unit))) := runF tab ext k 71 [⟨.pair (.sl (.int .u8)) (.pair (.int .i64) (.unit)), (a0_0, a0_1, ())⟩, ⟨.int .i64, a1⟩]
noncomputable def spec_TradesMay.f (k : Nat) (a0 : List Int) (a1 : List Trade) : Option (List Int) := runF tab ext k 72 [⟨.sl (.int .i64), a0⟩, ⟨.sl (.ap 2), a1⟩]
noncomputable def spec_TradesMay.l0 (k : Nat) (x0 : List Int) (x1 : List Trade) (x5 : List Int) (x6 : Int) : Option (List Int) := runL tab ext k 72 (todoAt tab 72 3) (stAt tab 72 [(0, mkVal true (.sl (.int .i64)) x0), (1, mkVal true (.sl (.ap 2)) x1), (5, .ref 23), (6, mkVal false (.int .i64) x6)] [(23, .sl false false (.int .i64) x5)])
noncomputable def spec_l20Rd__odd.f (k : Nat) (a0_0 : List Int) (a0_1 : Int) (a1 : Int) : Option (Bool × (List Int × (Int × Unit))) := runF tab ext k 73 [⟨.pair (.sl (.int .u8)) (.pair (.int .i64) (.unit)), (a0_0, a0_1, ())⟩, ⟨.int .i64, a1⟩]
noncomputable def spec_l1In.f (k : Nat) (a0 : Int) (a1 : Int) (a2 : Int) : Option Bool := runF tab ext k 74 [⟨.int .i64, a0⟩, ⟨.int .i64, a1⟩, ⟨.int .i64, a2⟩]
noncomputable def impl_thingsOk.f (k : Nat) (a0 : List Int) (a1 : Int) : Option Bool := runF tab ext k 75 [⟨.sl (.int .i64), a0⟩, ⟨.int .i64, a1⟩]
noncomputable def impl_thingsOk.l0 (k : Nat) (x0 : List Int) (x1 : Int) (x7 : List Int) (x8 : Int) (x9 : Int) : Option Bool := runL tab ext k 75 (todoAt tab 75 2) (stAt tab 75 [(0, mkVal true (.sl (.int .i64)) x0), (1, mkVal false (.int .i64) x1), (7, mkVal true (.sl (.int .i64)) x7), (8, mkVal false (.int .i64) x8), (9, mkVal false (.int .i64) x9)] [])
noncomputable def spec_l20Worth.f (k : Nat) (a0_0 : List Int) (a0_1 : Int) : Option (List (List Int) × (List Int × (Int × Unit))) := runF tab ext k 76 [⟨.pair (.sl (.int .u8)) (.pair (.int .i64) (.unit)), (a0_0, a0_1, ())⟩]
noncomputable def spec_l20Worth.l0 (k : Nat) (x0_0 : List Int) (x0_1 : Int) (x3 : List (List Int)) (x4 : Int) : Option (List (List Int) × (List Int × (Int × Unit))) := runL tab ext k 76 (todoAt tab 76 4) (stAt tab 76 [(0, .ptr 176 []), (3, .ref 15), (4, mkVal false (.int .i64) x4)] [(176, .box false (.pair (.sl (.int .u8)) (.pair (.int .i64) (.unit))) (x0_0, x0_1, ())), (15, .sl false false (.sl (.int .i64)) x3)])
noncomputable def spec_l20Worth.l1 (k : Nat) (x0_0 : List Int) (x0_1 : Int) (x7 : List (List Int)) (x8 : Int) : Option (List (List Int) × (List Int × (Int × Unit))) := runL tab ext k 76 (todoAt tab 76 11) (stAt tab 76 [(0, .ptr 176 []), (7, .ref 31), (8, mkVal false (.int .i64) x8)] [(176, .box false (.pair (.sl (.int .u8)) (.pair (.int .i64) (.unit))) (x0_0, x0_1, ())), (31, .sl false false (.sl (.int .i64)) x7)])
noncomputable def impl_ordsOf.f (k : Nat) (a0 : List (List Int)) : Option (List (List Term) × Bool) := runF tab ext k 77 [⟨.sl (.sl (.int .i64)), a0⟩]
noncomputable def impl_ordsOf.l0 (k : Nat) (x4 : List (List Term)) (x10 : List (List Int)) (x11 : Int) (x12 : Int) : Option (List (List Term) × Bool) := runL tab ext k 77 (todoAt tab 77 3) (stAt tab 77 [(4, .ref 19), (10, mkVal true (.sl (.sl (.int .i64))) x10), (11, mkVal false (.int .i64) x11), (12, mkVal false (.int .i64) x12)] [(19, .sl false false (.sl (.ap 0)) x4)])
noncomputable def impl_heapsOrd.f (k : Nat) (a0 : List Int) (a1 : List (List Term)) : Option (List Int × Bool) := runF tab ext k 78 [⟨.sl (.int .i64), a0⟩, ⟨.sl (.sl (.ap 0)), a1⟩]
noncomputable def impl_heapsOrd.l0 (k : Nat) (x1 : List (List Term)) (x6 : List Term) (x10 : List Int) (x11 : Int) (x12 : Int) : Option (List Int × Bool) := runL tab ext k 78 (todoAt tab 78 3) (stAt tab 78 [(1, mkVal true (.sl (.sl (.ap 0))) x1), (6, mkVal true (.sl (.ap 0)) x6), (10, mkVal true (.sl (.int .i64)) x10), (11, mkVal false (.int .i64) x11), (12, mkVal false (.int .i64) x12)] [])
noncomputable def impl_heapsOrd.l1 (k : Nat) (x1 : List (List Term)) (x6 : List Term) (x7 : Int) (x10 : List Int) (x11 : Int) (x12 : Int) (x17 : Int) (x18 : Int) : Option (List Int × Bool) := runL tab ext k 78 (todoAt tab 78 6) (stAt tab 78 [(1, mkVal true (.sl (.sl (.ap 0))) x1), (6, mkVal true (.sl (.ap 0)) x6), (7, mkVal false (.int .i64) x7), (10, mkVal true (.sl (.int .i64)) x10), (11, mkVal false (.int .i64) x11), (12, mkVal false (.int .i64) x12), (17, mkVal false (.int .i64) x17), (18, mkVal false (.int .i64) x18)] [])
noncomputable def spec_l1Compare.f (k : Nat) (a0 : List Int) (a1 : List Int) : Option Int := runF tab ext k 79 [⟨.sl (.int .i64), a0⟩, ⟨.sl (.int .i64), a1⟩]
noncomputable def spec_l1Compare.l0 (k : Nat) (x5 : List Int) (x6 : List (List Int)) (x7 : List Int) (x8 : List (List Int)) (x9 : Int) : Option Int := runL tab ext k 79 (todoAt tab 79 4) (stAt tab 79 [(5, mkVal false (.sl (.int .i64)) x5), (6, mkVal true (.sl (.sl (.int .i64))) x6), (7, mkVal false (.sl (.int .i64)) x7), (8, mkVal true (.sl (.sl (.int .i64))) x8), (9, mkVal false (.int .i64) x9)] [])
noncomputable def impl_ordOf.f (k : Nat) (a0 : List Int) : Option (List Term × Bool) := runF tab ext k 80 [⟨.sl (.int .i64), a0⟩]
noncomputable def impl_compare.f (k : Nat) (a0 : List Term) (a1 : List Term) : Option Int := runF tab ext k 81 [⟨.sl (.ap 0), a0⟩, ⟨.sl (.ap 0), a1⟩]
noncomputable def impl_compare.l0 (k : Nat) (x0 : List Term) (x1 : List Term) (x5 : Int) : Option Int := runL tab ext k 81 (todoAt tab 81 2) (stAt tab 81 [(0, mkVal true (.sl (.ap 0)) x0), (1, mkVal true (.sl (.ap 0)) x1), (5, mkVal false (.int .i64) x5)] [])
noncomputable def spec_OrdValid.f (k : Nat) (a0 : List Int) : Option Bool := runF tab ext k 83 [⟨.sl (.int .i64), a0⟩]
noncomputable def spec_l8Ord.f (k : Nat) (a0 : List Int) (a1 : List (List Int)) : Option (List Int) := runF tab ext k 84 [⟨.sl (.int .i64), a0⟩, ⟨.sl (.sl (.int .i64)), a1⟩]
noncomputable def spec_l8Ord.l0 (k : Nat) (x0 : List Int) (x1 : List (List Int)) (x5 : List Int) (x6 : Int) : Option (List Int) := runL tab ext k 84 (todoAt tab 84 3) (stAt tab 84 [(0, mkVal true (.sl (.int .i64)) x0), (1, mkVal true (.sl (.sl (.int .i64))) x1), (5, mkVal false (.sl (.int .i64)) x5), (6, mkVal false (.int .i64) x6)] [])
noncomputable def spec_l8Ord.l1 (k : Nat) (x0 : List Int) (x1 : List (List Int)) (x5 : List Int) (x6 : Int) (x7 : Int) : Option (List Int) := runL tab ext k 84 (todoAt tab 84 6) (stAt tab 84 [(0, mkVal true (.sl (.int .i64)) x0), (1, mkVal true (.sl (.sl (.int .i64))) x1), (5, mkVal false (.sl (.int .i64)) x5), (6, mkVal false (.int .i64) x6), (7, mkVal false (.int .i64) x7)] [])
noncomputable def spec_l8List.f (k : Nat) (a0 : List Int) (a1 : Int) : Option Bool := runF tab ext k 85 [⟨.sl (.int .i64), a0⟩, ⟨.int .i64, a1⟩]
noncomputable def spec_l8List.l0 (k : Nat) (x0 : List Int) (x1 : Int) (x5 : Int) : Option Bool := runL tab ext k 85 (todoAt tab 85 2) (stAt tab 85 [(0, mkVal true (.sl (.int .i64)) x0), (1, mkVal false (.int .i64) x1), (5, mkVal false (.int .i64) x5)] [])
noncomputable def spec_TradeValid.f (k : Nat) (a0 : Trade) : Option Bool := runF tab ext k 86 [⟨.ap 2, a0⟩]
noncomputable def impl_rowOf.f (k : Nat) (a0 : List Term) : Option (List Int) := runF tab ext k 87 [⟨.sl (.ap 0), a0⟩]
noncomputable def impl_rowOf.l0 (k : Nat) (x3 : List Int) (x9 : List Term) (x10 : Int) (x11 : Int) : Option (List Int) := runL tab ext k 87 (todoAt tab 87 3) (stAt tab 87 [(3, .ref 15), (9, mkVal true (.sl (.ap 0)) x9), (10, mkVal false (.int .i64) x10), (11, mkVal false (.int .i64) x11)] [(15, .sl false false (.int .i64) x3)])
noncomputable def impl_number.f (k : Nat) (a0 : Int) : Option (List Term) := runF tab ext k 88 [⟨.int .i64, a0⟩]
noncomputable def spec_l1Same.f (k : Nat) (a0 : List Int) (a1 : List Int) : Option Bool := runF tab ext k 89 [⟨.sl (.int .i64), a0⟩, ⟨.sl (.int .i64), a1⟩]
noncomputable def spec_l1Same.l0 (k : Nat) (x0 : List Int) (x1 : List Int) (x5 : Int) : Option Bool := runL tab ext k 89 (todoAt tab 89 2) (stAt tab 89 [(0, mkVal true (.sl (.int .i64)) x0), (1, mkVal true (.sl (.int .i64)) x1), (5, mkVal false (.int .i64) x5)] [])
noncomputable def spec_l20Things.f (k : Nat) (a0_0 : List Int) (a0_1 : Int) (a1 : Int) : Option (List Int × (List Int × (Int × Unit))) := runF tab ext k 90 [⟨.pair (.sl (.int .u8)) (.pair (.int .i64) (.unit)), (a0_0, a0_1, ())⟩, ⟨.int .i64, a1⟩]
noncomputable def spec_l20Things.l0 (k : Nat) (x0_0 : List Int) (x0_1 : Int) (x1 : Int) (x5 : List Int) (x6 : Int) : Option (List Int × (List Int × (Int × Unit))) := runL tab ext k 90 (todoAt tab 90 3) (stAt tab 90 [(0, .ptr 92 []), (1, mkVal false (.int .i64) x1), (5, .ref 23), (6, mkVal false (.int .i64) x6)] [(92, .box false (.pair (.sl (.int .u8)) (.pair (.int .i64) (.unit))) (x0_0, x0_1, ())), (23, .sl false false (.int .i64) x5)])
noncomputable def spec_OrdPower.f (k : Nat) (a0 : List Int) : Option (List Int × Bool) := runF tab ext k 91 [⟨.sl (.int .i64), a0⟩]
noncomputable def spec_OrdOf.f (k : Nat) (a0 : Int) : Option (List Int) := runF tab ext k 92 [⟨.int .i64, a0⟩]
noncomputable def spec_l20Little.f (k : Nat) (a0_0 : List Int) (a0_1 : Int) (a1 : Int) : Option (List Int × (List Int × (Int × Unit))) := runF tab ext k 93 [⟨.pair (.sl (.int .u8)) (.pair (.int .i64) (.unit)), (a0_0, a0_1, ())⟩, ⟨.int .i64, a1⟩]
noncomputable def spec_l20Little.l0 (k : Nat) (x0_0 : List Int) (x0_1 : Int) (x5 : List Int) (x6 : Int) : Option (List Int × (List Int × (Int × Unit))) := runL tab ext k 93 (todoAt tab 93 5) (stAt tab 93 [(0, .ptr 104 []), (5, .ref 23), (6, mkVal false (.int .i64) x6)] [(104, .box false (.pair (.sl (.int .u8)) (.pair (.int .i64) (.unit))) (x0_0, x0_1, ())), (23, .sl false false (.int .i64) x5)])
noncomputable def impl_natural.f (k : Nat) (a0 : List Term) (a1 : List Term) : Option (List Term) := runF tab ext k 94 [⟨.sl (.ap 0), a0⟩, ⟨.sl (.ap 0), a1⟩]
noncomputable def impl_natural.l0 (k : Nat) (x0 : List Term) (x1 : List Term) (x5 : List Term) : Option (List Term) := runL tab ext k 94 (todoAt tab 94 2) (stAt tab 94 [(0, mkVal true (.sl (.ap 0)) x0), (1, mkVal true (.sl (.ap 0)) x1), (5, .ref 23)] [(23, .sl true false (.ap 0) x5)])
noncomputable def impl_told.f (k : Nat) (a0 : List Term) : Option (List Int × Bool) := runF tab ext k 95 [⟨.sl (.ap 0), a0⟩]
noncomputable def spec_l1Terms.f (k : Nat) (a0 : List Int) : Option (List Int × List (List Int)) := runF tab ext k 96 [⟨.sl (.int .i64), a0⟩]
noncomputable def spec_l1Terms.l0 (k : Nat) (x0 : List Int) (x4 : List Int) (x5 : List (List Int)) (x6 : Int) : Option (List Int × List (List Int)) := runL tab ext k 96 (todoAt tab 96 4) (stAt tab 96 [(0, mkVal true (.sl (.int .i64)) x0), (4, .ref 19), (5, .ref 23), (6, mkVal false (.int .i64) x6)] [(19, .sl false false (.int .i64) x4), (23, .sl true false (.sl (.int .i64)) x5)])
noncomputable def impl_takeOrd.f (k : Nat) (a0 : List Int) : Option (List Term × List Int × Bool) := runF tab ext k 97 [⟨.sl (.int .i64), a0⟩]
noncomputable def impl_takeOrd.l0 (k : Nat) (x0 : List Int) (x6 : List Term) (x26 : Int) (x27 : Int) : Option (List Term × List Int × Bool) := runL tab ext k 97 (todoAt tab 97 9) (stAt tab 97 [(0, mkVal true (.sl (.int .i64)) x0), (6, .ref 27), (26, mkVal false (.int .i64) x26), (27, mkVal false (.int .i64) x27)] [(27, .sl false false (.ap 0) x6)])
noncomputable def cmp_Compare_int.f (k : Nat) (a0 : Int) (a1 : Int) : Option Int := runF tab ext k 98 [⟨.int .i64, a0⟩, ⟨.int .i64, a1⟩]
noncomputable def spec_l1End.f (k : Nat) (a0 : List Int) (a1 : Int) : Option Int := runF tab ext k 99 [⟨.sl (.int .i64), a0⟩, ⟨.int .i64, a1⟩]
noncomputable def spec_l1End.l0 (k : Nat) (x0 : List Int) (x1 : Int) (x5 : Int) (x6 : List Int) (x7 : Int) : Option Int := runL tab ext k 99 (todoAt tab 99 7) (stAt tab 99 [(0, mkVal true (.sl (.int .i64)) x0), (1, mkVal false (.int .i64) x1), (5, mkVal false (.int .i64) x5), (6, mkVal true (.sl (.int .i64)) x6), (7, mkVal false (.int .i64) x7)] [])
noncomputable def spec_OrdNatural.f (k : Nat) (a0 : List Int) (a1 : List Int) : Option (List Int × Bool) := runF tab ext k 100 [⟨.sl (.int .i64), a0⟩, ⟨.sl (.int .i64), a1⟩]
noncomputable def spec_OrdNatural.l0 (k : Nat) (x6 : List Int) (x7 : List (List Int)) (x8 : List Int) (x9 : List (List Int)) (x10 : List Int) (x11 : List (List Int)) (x12 : Int) (x13 : Int) : Option (List Int × Bool) := runL tab ext k 100 (todoAt tab 100 9) (stAt tab 100 [(6, mkVal false (.sl (.int .i64)) x6), (7, mkVal true (.sl (.sl (.int .i64))) x7), (8, mkVal false (.sl (.int .i64)) x8), (9, mkVal true (.sl (.sl (.int .i64))) x9), (10, .ref 43), (11, .ref 47), (12, mkVal false (.int .i64) x12), (13, mkVal false (.int .i64) x13)] [(43, .sl false false (.int .i64) x10), (47, .sl true false (.sl (.int .i64)) x11)])
noncomputable def spec_OrdNatural.j0 (k : Nat) (x6 : List Int) (x7 : List (List Int)) (x8 : List Int) (x9 : List (List Int)) (x10 : List Int) (x11 : List (List Int)) (x12 : Int) (x13 : Int) (x14 : Int) : Option (List Int × Bool) := runL tab ext k 100 (todoAt tab 100 1000016) (stAt tab 100 [(6, mkVal false (.sl (.int .i64)) x6), (7, mkVal true (.sl (.sl (.int .i64))) x7), (8, mkVal false (.sl (.int .i64)) x8), (9, mkVal true (.sl (.sl (.int .i64))) x9), (10, .ref 43), (11, .ref 47), (12, mkVal false (.int .i64) x12), (13, mkVal false (.int .i64) x13), (14, mkVal false (.int .i64) x14)] [(43, .sl false false (.int .i64) x10), (47, .sl true false (.sl (.int .i64)) x11)])
noncomputable def spec_l20Ord.f (k : Nat) (a0_0 : List Int) (a0_1 : Int) (a1 : Int) : Option (List Int × (List Int × (Int × Unit))) := runF tab ext k 101 [⟨.pair (.sl (.int .u8)) (.pair (.int .i64) (.unit)), (a0_0, a0_1, ())⟩, ⟨.int .i64, a1⟩]
noncomputable def spec_l20Ord.l0 (k : Nat) (x0_0 : List Int) (x0_1 : Int) (x1 : Int) (x5 : List Int) (x6 : Int) : Option (List Int × (List Int × (Int × Unit))) := runL tab ext k 101 (todoAt tab 101 3) (stAt tab 101 [(0, .ptr 172 []), (1, mkVal false (.int .i64) x1), (5, .ref 23), (6, mkVal false (.int .i64) x6)] [(172, .box false (.pair (.sl (.int .u8)) (.pair (.int .i64) (.unit))) (x0_0, x0_1, ())), (23, .sl false false (.int .i64) x5)])
noncomputable def spec_l20Raw.f (k : Nat) (a0_0 : List Int) (a0_1 : Int) (a1 : Int) : Option (List Int × (List Int × (Int × Unit))) := runF tab ext k 102 [⟨.pair (.sl (.int .u8)) (.pair (.int .i64) (.unit)), (a0_0, a0_1, ())⟩, ⟨.int .i64, a1⟩]
noncomputable def spec_l20Raw.l0 (k : Nat) (x0_0 : List Int) (x0_1 : Int) (x1 : Int) (x5 : List Int) (x6 : List (List Int)) (x7 : Int) : Option (List Int × (List Int × (Int × Unit))) := runL tab ext k 102 (todoAt tab 102 6) (stAt tab 102 [(0, .ptr 408 []), (1, mkVal false (.int .i64) x1), (5, .ref 23), (6, mkVal false (.sl (.sl (.int .i64))) x6), (7, mkVal false (.int .i64) x7)] [(408, .box false (.pair (.sl (.int .u8)) (.pair (.int .i64) (.unit))) (x0_0, x0_1, ())), (23, .sl false false (.int .i64) x5)])
noncomputable def spec_l20Raw.j0 (k : Nat) (x0_0 : List Int) (x0_1 : Int) (x1 : Int) (x5 : List Int) (x6 : List (List Int)) (x7 : Int) (x8 : List Int) : Option (List Int × (List Int × (Int × Unit))) := runL tab ext k 102 (todoAt tab 102 1000011) (stAt tab 102 [(0, .ptr 408 []), (1, mkVal false (.int .i64) x1), (5, .ref 23), (6, mkVal false (.sl (.sl (.int .i64))) x6), (7, mkVal false (.int .i64) x7), (8, mkVal false (.sl (.int .i64)) x8)] [(408, .box false (.pair (.sl (.int .u8)) (.pair (.int .i64) (.unit))) (x0_0, x0_1, ())), (23, .sl false false (.int .i64) x5)])
noncomputable def spec_l20Raw.l1 (k : Nat) (x0_0 : List Int) (x0_1 : Int) (x1 : Int) (x5 : List Int) (x6 : List (List Int)) (x7 : Int) (x8 : List Int) (x9 : Int) : Option (List Int × (List Int × (Int × Unit))) := runL tab ext k 102 (todoAt tab 102 12) (stAt tab 102 [(0, .ptr 408 []), (1, mkVal false (.int .i64) x1), (5, .ref 23), (6, mkVal false (.sl (.sl (.int .i64))) x6), (7, mkVal false (.int .i64) x7), (8, mkVal false (.sl (.int .i64)) x8), (9, mkVal false (.int .i64) x9)] [(408, .box false (.pair (.sl (.int .u8)) (.pair (.int .i64) (.unit))) (x0_0, x0_1, ())), (23, .sl false false (.int .i64) x5)])
noncomputable def spec_l20Raw.j1 (k : Nat) (x0_0 : List Int) (x0_1 : Int) (x1 : Int) (x5 : List Int) (x6 : List (List Int)) (x7 : Int) (x9 : Int) : Option (List Int × (List Int × (Int × Unit))) := runL tab ext k 102 (todoAt tab 102 1000015) (stAt tab 102 [(0, .ptr 408 []), (1, mkVal false (.int .i64) x1), (5, .ref 23), (6, mkVal false (.sl (.sl (.int .i64))) x6), (7, mkVal false (.int .i64) x7), (9, mkVal false (.int .i64) x9)] [(408, .box false (.pair (.sl (.int .u8)) (.pair (.int .i64) (.unit))) (x0_0, x0_1, ())), (23, .sl false false (.int .i64) x5)])
noncomputable def impl_sizeOf.f (k : Nat) (a0 : List Term) : Option Int := runF tab ext k 103 [⟨.sl (.ap 0), a0⟩]
noncomputable def impl_sizeOf.l0 (k : Nat) (x3 : Int) (x6 : List Term) (x7 : Int) (x8 : Int) : Option Int := runL tab ext k 103 (todoAt tab 103 3) (stAt tab 103 [(3, mkVal false (.int .i64) x3), (6, mkVal true (.sl (.ap 0)) x6), (7, mkVal false (.int .i64) x7), (8, mkVal false (.int .i64) x8)] [])
noncomputable def impl_most.f (k : Nat) (a0 : List Term) : Option Int := runF tab ext k 104 [⟨.sl (.ap 0), a0⟩]
noncomputable def impl_most.l0 (k : Nat) (x3 : Int) (x6 : List Term) (x7 : Int) (x8 : Int) : Option Int := runL tab ext k 104 (todoAt tab 104 3) (stAt tab 104 [(3, mkVal false (.int .i64) x3), (6, mkVal true (.sl (.ap 0)) x6), (7, mkVal false (.int .i64) x7), (8, mkVal false (.int .i64) x8)] [])
noncomputable def slices_Clip_int_int.f (k : Nat) (a0 : List Int) : Option (List Int) := runF tab ext k 105 [⟨.sl (.int .i64), a0⟩]
noncomputable def spec_l1Span.f (k : Nat) (a0 : List Int) (a1 : Int) : Option Int := runF tab ext k 106 [⟨.sl (.int .i64), a0⟩, ⟨.int .i64, a1⟩]
noncomputable def spec_l1Span.l0 (k : Nat) (x0 : List Int) (x1 : Int) (x5 : Int) (x6 : Int) : Option Int := runL tab ext k 106 (todoAt tab 106 4) (stAt tab 106 [(0, mkVal true (.sl (.int .i64)) x0), (1, mkVal false (.int .i64) x1), (5, mkVal false (.int .i64) x5), (6, mkVal false (.int .i64) x6)] [])
noncomputable def cmp_isNaN_int.f (k : Nat) (a0 : Int) : Option Bool := runF tab ext k 107 [⟨.int .i64, a0⟩]
noncomputable def spec_l2Fit.f (k : Nat) (a0 : List Int) : Option (List Int × Bool) := runF tab ext k 108 [⟨.sl (.int .i64), a0⟩]
noncomputable def spec_l1Make.f (k : Nat) (a0 : List Int) (a1 : List (List Int)) : Option (List Int) := runF tab ext k 109 [⟨.sl (.int .i64), a0⟩, ⟨.sl (.sl (.int .i64)), a1⟩]
noncomputable def spec_l1Make.l0 (k : Nat) (x0 : List Int) (x1 : List (List Int)) (x5 : List Int) (x6 : Int) : Option (List Int) := runL tab ext k 109 (todoAt tab 109 3) (stAt tab 109 [(0, mkVal true (.sl (.int .i64)) x0), (1, mkVal true (.sl (.sl (.int .i64))) x1), (5, .ref 23), (6, mkVal false (.int .i64) x6)] [(23, .sl false false (.int .i64) x5)])
end Go.Proofs.Ytgibeillafnieaa.Eng
