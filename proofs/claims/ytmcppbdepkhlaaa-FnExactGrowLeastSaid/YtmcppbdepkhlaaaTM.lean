import Derived.Test.YtmcppbdepkhlaaaE2
import Derived.Test.YtmcppbdepkhlaaaProg
namespace Go.Proofs.Ytmcppbdepkhlaaa.Eng
open Go
-- 3 laws.FnIterate
noncomputable def fn3 : FnT := ⟨(Try.f3.body.getD .skip), 91, Try.f3.results.toList, [(.sl (.int .u8), .ln)], [(.bool, ⟨false, false, false, false⟩)], [], []⟩
-- 4 laws.FnExactGrow
noncomputable def fn4 : FnT := ⟨(Try.f4.body.getD .skip), 41, Try.f4.results.toList, [(.sl (.int .i64), .ln), (.int .i64, .ln)], [(.bool, ⟨false, false, false, false⟩)], [], []⟩
-- 5 laws.FnExactGrowPath
noncomputable def fn5 : FnT := ⟨(Try.f5.body.getD .skip), 71, Try.f5.results.toList, [(.sl (.int .i64), .ln), (.int .i64, .ln)], [(.bool, ⟨false, false, false, false⟩)], [], [20, 23]⟩
-- 6 laws.FnExactGrowLeast
noncomputable def fn6 : FnT := ⟨(Try.f6.body.getD .skip), 68, Try.f6.results.toList, [(.int .i64, .ln), (.int .i64, .ln)], [(.bool, ⟨false, false, false, false⟩)], [], [22]⟩
-- 7 laws.FnGrowLeast
noncomputable def fn7 : FnT := ⟨(Try.f7.body.getD .skip), 83, Try.f7.results.toList, [(.sl (.int .u8), .ln)], [(.bool, ⟨false, false, false, false⟩)], [], []⟩
-- 8 laws.FnGrowPath
noncomputable def fn8 : FnT := ⟨(Try.f8.body.getD .skip), 61, Try.f8.results.toList, [(.sl (.int .u8), .ln)], [(.bool, ⟨false, false, false, false⟩)], [(11, [(4, .val false), (5, .val false), (6, .val false), (8, .val false)])], []⟩
-- 9 laws.FnGrow
noncomputable def fn9 : FnT := ⟨(Try.f9.body.getD .skip), 157, Try.f9.results.toList, [(.sl (.int .u8), .ln), (.sl (.int .u8), .ln)], [(.bool, ⟨false, false, false, false⟩)], [], []⟩
-- 10 spec.DrawIterate
noncomputable def fn10 : FnT := ⟨(Try.f10.body.getD .skip), 32, Try.f10.results.toList, [(.sl (.int .u8), .ln)], [(.int .i64, ⟨false, false, false, false⟩), (.int .i64, ⟨false, false, false, false⟩)], [], []⟩
-- 11 impl.Iterate
noncomputable def fn11 : FnT := ⟨(Try.f11.body.getD .skip), 22, Try.f11.results.toList, [(.int .i64, .ln), (.int .i64, .ln)], [(.int .i64, ⟨false, false, false, false⟩)], [], []⟩
-- 12 spec.Iterate
noncomputable def fn12 : FnT := ⟨(Try.f12.body.getD .skip), 34, Try.f12.results.toList, [(.int .i64, .ln), (.int .i64, .ln)], [(.int .i64, ⟨false, false, false, false⟩)], [(9, [(0, .val false), (1, .val false), (5, .val false), (6, .val false)])], []⟩
-- 13 laws.alive
noncomputable def fn13 : FnT := ⟨(Try.f13.body.getD .skip), 9, Try.f13.results.toList, [], [(.bool, ⟨false, false, false, false⟩)], [], []⟩
-- 14 impl.OrdPower
noncomputable def fn14 : FnT := ⟨(Try.f14.body.getD .skip), 18, Try.f14.results.toList, [(.sl (.int .i64), .ln)], [(.sl (.int .i64), ⟨true, false, false, false⟩), (.bool, ⟨false, false, false, false⟩)], [], [15]⟩
-- 15 impl.OrdOf
noncomputable def fn15 : FnT := ⟨(Try.f15.body.getD .skip), 12, Try.f15.results.toList, [(.int .i64, .ln)], [(.sl (.int .i64), ⟨true, false, false, false⟩)], [], [11]⟩
-- 16 impl.Grow
noncomputable def fn16 : FnT := ⟨(Try.f16.body.getD .skip), 40, Try.f16.results.toList, [(.sl (.int .i64), .ln), (.int .i64, .ln)], [(.int .i64, ⟨false, false, false, false⟩), (.int .i64, ⟨false, false, false, false⟩)], [], [28]⟩
-- 17 spec.Grow
noncomputable def fn17 : FnT := ⟨(Try.f17.body.getD .skip), 44, Try.f17.results.toList, [(.sl (.int .i64), .ln), (.int .i64, .ln)], [(.int .i64, ⟨false, false, false, false⟩), (.int .i64, ⟨false, false, false, false⟩)], [(4, [(0, .val true), (1, .val false), (6, .val false)]), (1000015, [(0, .val false), (1, .val false), (6, .val false)])], []⟩
-- 18 laws.toIntS
noncomputable def fn18 : FnT := ⟨(Try.f18.body.getD .skip), 22, Try.f18.results.toList, [(.sl (.int .i64), .ln)], [(.sl (.int .i64), ⟨true, false, false, false⟩)], [(3, [(0, .val true), (3, .own false), (4, .val false)])], [7]⟩
-- 19 laws.eqIntS
noncomputable def fn19 : FnT := ⟨(Try.f19.body.getD .skip), 26, Try.f19.results.toList, [(.sl (.int .i64), .ln), (.sl (.int .i64), .ln)], [(.bool, ⟨false, false, false, false⟩)], [(4, [(0, .val true), (1, .val true), (5, .val false)])], []⟩
-- 20 spec.GrowPath
noncomputable def fn20 : FnT := ⟨(Try.f20.body.getD .skip), 46, Try.f20.results.toList, [(.sl (.int .i64), .ln), (.int .i64, .ln)], [(.sl (.int .i64), ⟨true, false, false, false⟩)], [(6, [(0, .val true), (1, .val false), (5, .own false)])], [11, 24, 44]⟩
-- 21 impl.GrowPath
noncomputable def fn21 : FnT := ⟨(Try.f21.body.getD .skip), 31, Try.f21.results.toList, [(.sl (.int .i64), .ln), (.int .i64, .ln)], [(.sl (.int .i64), ⟨true, false, false, false⟩)], [], [27]⟩
-- 22 laws.markIntS
noncomputable def fn22 : FnT := ⟨(Try.f22.body.getD .skip), 19, Try.f22.results.toList, [(.sl (.int .i64), .io), (.int .i64, .ln)], [(.int .i64, ⟨false, false, false, false⟩)], [(2, [(0, .ptr), (1, .val false), (5, .val false)])], []⟩
-- 23 laws.heldIntS
noncomputable def fn23 : FnT := ⟨(Try.f23.body.getD .skip), 21, Try.f23.results.toList, [(.sl (.int .i64), .ln), (.int .i64, .ln)], [(.int .i64, ⟨false, false, false, false⟩)], [(2, [(0, .val true), (1, .val false), (5, .val false)])], []⟩
-- 24 spec.GrowLeast
noncomputable def fn24 : FnT := ⟨(Try.f24.body.getD .skip), 73, Try.f24.results.toList, [(.int .i64, .ln), (.int .i64, .ln)], [(.sl (.int .i64), ⟨true, false, false, false⟩), (.bool, ⟨false, false, false, false⟩)], [(5, [(0, .val false), (1, .val false), (6, .own false), (7, .val false)]), (8, [(0, .val false), (1, .val false), (6, .own false), (7, .val false), (8, .val false)]), (11, [(0, .val false), (1, .val false), (6, .own false), (7, .val false), (8, .val false), (9, .val false)]), (1000016, [(0, .val false), (1, .val false), (6, .own false), (7, .val false), (8, .val false), (9, .val false), (10, .val false)])], [14, 40, 47]⟩
-- 25 impl.GrowLeast
noncomputable def fn25 : FnT := ⟨(Try.f25.body.getD .skip), 79, Try.f25.results.toList, [(.int .i64, .ln), (.int .i64, .ln)], [(.sl (.int .i64), ⟨true, false, false, false⟩), (.bool, ⟨false, false, false, false⟩)], [(5, [(0, .val false), (1, .val false), (6, .val false), (7, .val false), (28, .val false)]), (8, [(0, .val false), (1, .val false), (6, .val false), (7, .val false), (8, .val false), (28, .val false), (31, .val false)]), (11, [(0, .val false), (1, .val false), (6, .val false), (7, .val false), (8, .val false), (9, .val false), (28, .val false), (31, .val false), (34, .val false)])], [56, 78]⟩
-- 26 spec.DrawGrowLeast
noncomputable def fn26 : FnT := ⟨(Try.f26.body.getD .skip), 18, Try.f26.results.toList, [(.sl (.int .u8), .ln)], [(.int .i64, ⟨false, false, false, false⟩), (.int .i64, ⟨false, false, false, false⟩)], [], []⟩
-- 27 laws.sameInts
noncomputable def fn27 : FnT := ⟨(Try.f27.body.getD .skip), 26, Try.f27.results.toList, [(.sl (.int .i64), .ln), (.sl (.int .i64), .ln)], [(.bool, ⟨false, false, false, false⟩)], [(4, [(0, .val true), (1, .val true), (5, .val false)])], []⟩
-- 28 impl.OrdCompare
noncomputable def fn28 : FnT := ⟨(Try.f28.body.getD .skip), 28, Try.f28.results.toList, [(.sl (.int .i64), .ln), (.sl (.int .i64), .ln)], [(.int .i64, ⟨false, false, false, false⟩)], [], []⟩
-- 29 spec.DrawGrowPath
noncomputable def fn29 : FnT := ⟨(Try.f29.body.getD .skip), 9, Try.f29.results.toList, [(.sl (.int .u8), .ln)], [(.sl (.int .i64), ⟨true, false, false, false⟩), (.int .i64, ⟨false, false, false, false⟩)], [], [6]⟩
-- 30 spec.DrawGrow
noncomputable def fn30 : FnT := ⟨(Try.f30.body.getD .skip), 9, Try.f30.results.toList, [(.sl (.int .u8), .ln)], [(.sl (.int .i64), ⟨true, false, false, false⟩), (.int .i64, ⟨false, false, false, false⟩)], [], [6]⟩
-- 31 impl.OrdNumber
noncomputable def fn31 : FnT := ⟨(Try.f31.body.getD .skip), 33, Try.f31.results.toList, [(.sl (.int .i64), .ln)], [(.int .i64, ⟨false, false, false, false⟩)], [], []⟩
-- 32 impl.OrdAdd
noncomputable def fn32 : FnT := ⟨(Try.f32.body.getD .skip), 24, Try.f32.results.toList, [(.sl (.int .i64), .ln), (.sl (.int .i64), .ln)], [(.sl (.int .i64), ⟨true, false, false, false⟩), (.bool, ⟨false, false, false, false⟩)], [], [21]⟩
-- 33 impl.OrdNatural
noncomputable def fn33 : FnT := ⟨(Try.f33.body.getD .skip), 24, Try.f33.results.toList, [(.sl (.int .i64), .ln), (.sl (.int .i64), .ln)], [(.sl (.int .i64), ⟨true, false, false, false⟩), (.bool, ⟨false, false, false, false⟩)], [], [21]⟩
-- 34 spec.l20Open
noncomputable def fn34 : FnT := ⟨(Try.f34.body.getD .skip), 11, Try.f34.results.toList, [(.sl (.int .u8), .ln)], [(.pair (.sl (.int .u8)) (.pair (.int .i64) (.unit)), ⟨true, true, false, true⟩)], [], []⟩
-- 35 (*spec.l20Rd).pick
noncomputable def fn35 : FnT := ⟨(Try.f35.body.getD .skip), 99, Try.f35.results.toList, [(.pair (.sl (.int .u8)) (.pair (.int .i64) (.unit)), .ptr), (.int .i64, .ln)], [(.int .i64, ⟨false, false, false, false⟩)], [], []⟩
-- 36 impl.iterate
noncomputable def fn36 : FnT := ⟨(Try.f36.body.getD .skip), 22, Try.f36.results.toList, [(.int .i64, .ln), (.int .i64, .ln)], [(.int .i64, ⟨false, false, false, false⟩)], [(6, [(0, .val false), (1, .val false), (11, .val false), (12, .val false)])], []⟩
-- 37 spec.l1In
noncomputable def fn37 : FnT := ⟨(Try.f37.body.getD .skip), 15, Try.f37.results.toList, [(.int .i64, .ln), (.int .i64, .ln), (.int .i64, .ln)], [(.bool, ⟨false, false, false, false⟩)], [], []⟩
-- 38 impl.ordOf
noncomputable def fn38 : FnT := ⟨(Try.f38.body.getD .skip), 28, Try.f38.results.toList, [(.sl (.int .i64), .ln)], [(.sl (.ap 0), ⟨true, false, false, false⟩), (.bool, ⟨false, false, false, false⟩)], [], [17]⟩
-- 39 impl.told
noncomputable def fn39 : FnT := ⟨(Try.f39.body.getD .skip), 15, Try.f39.results.toList, [(.sl (.ap 0), .ln)], [(.sl (.int .i64), ⟨true, false, false, false⟩), (.bool, ⟨false, false, false, false⟩)], [], [13, 14]⟩
-- 40 impl.power
noncomputable def fn40 : FnT := ⟨(Try.f40.body.getD .skip), 6, Try.f40.results.toList, [(.sl (.ap 0), .ln)], [(.sl (.ap 0), ⟨true, true, false, false⟩)], [], [5]⟩
-- 41 impl.rowOf
noncomputable def fn41 : FnT := ⟨(Try.f41.body.getD .skip), 27, Try.f41.results.toList, [(.sl (.ap 0), .ln)], [(.sl (.int .i64), ⟨true, false, false, false⟩)], [(3, [(3, .own false), (9, .val true), (10, .val false), (11, .val false)])], [8, 19, 24]⟩
-- 42 impl.number
noncomputable def fn42 : FnT := ⟨(Try.f42.body.getD .skip), 8, Try.f42.results.toList, [(.int .i64, .ln)], [(.sl (.ap 0), ⟨true, false, false, false⟩)], [], [7]⟩
-- 43 impl.grow
noncomputable def fn43 : FnT := ⟨(Try.f43.body.getD .skip), 46, Try.f43.results.toList, [(.sl (.ap 0), .ln), (.int .i64, .ln)], [(.sl (.int .i64), ⟨true, false, true, false⟩), (.int .i64, ⟨false, false, false, false⟩)], [(3, [(0, .val true), (1, .val false), (6, .own false), (7, .val false)]), (1000007, [(0, .val true), (1, .val false), (6, .own false), (7, .val false)])], [11, 23]⟩
-- 44 spec.OrdValid
noncomputable def fn44 : FnT := ⟨(Try.f44.body.getD .skip), 13, Try.f44.results.toList, [(.sl (.int .i64), .ln)], [(.bool, ⟨false, false, false, false⟩)], [], []⟩
-- 45 spec.OrdKind
noncomputable def fn45 : FnT := ⟨(Try.f45.body.getD .skip), 26, Try.f45.results.toList, [(.sl (.int .i64), .ln)], [(.int .i64, ⟨false, false, false, false⟩)], [], []⟩
-- 46 spec.OrdStep
noncomputable def fn46 : FnT := ⟨(Try.f46.body.getD .skip), 21, Try.f46.results.toList, [(.sl (.int .i64), .ln), (.int .i64, .ln)], [(.sl (.int .i64), ⟨false, false, false, false⟩), (.bool, ⟨false, false, false, false⟩)], [], []⟩
-- 47 spec.OrdOf
noncomputable def fn47 : FnT := ⟨(Try.f47.body.getD .skip), 12, Try.f47.results.toList, [(.int .i64, .ln)], [(.sl (.int .i64), ⟨true, false, false, false⟩)], [], [6, 9, 11]⟩
-- 48 spec.l2Add
noncomputable def fn48 : FnT := ⟨(Try.f48.body.getD .skip), 101, Try.f48.results.toList, [(.sl (.int .i64), .ln), (.sl (.int .i64), .ln)], [(.sl (.int .i64), ⟨true, false, false, false⟩)], [(8, [(5, .val false), (6, .val true), (7, .val false), (8, .val true), (9, .own false), (10, .own true), (11, .val false)]), (1000015, [(5, .val false), (6, .val true), (9, .own false), (10, .own true), (12, .val false)]), (1000017, [(5, .val false), (6, .val true), (9, .own false), (10, .own true), (13, .val false)])], [22, 24, 30, 31, 55, 62, 100]⟩
-- 49 spec.l1Compare
noncomputable def fn49 : FnT := ⟨(Try.f49.body.getD .skip), 75, Try.f49.results.toList, [(.sl (.int .i64), .ln), (.sl (.int .i64), .ln)], [(.int .i64, ⟨false, false, false, false⟩)], [(4, [(5, .val false), (6, .val true), (7, .val false), (8, .val true), (9, .val false)])], []⟩
-- 50 impl.add
noncomputable def fn50 : FnT := ⟨(Try.f50.body.getD .skip), 51, Try.f50.results.toList, [(.sl (.ap 0), .ln), (.sl (.ap 0), .ln)], [(.sl (.ap 0), ⟨false, true, false, false⟩)], [(6, [(1, .val true), (5, .own true), (6, .ptr), (18, .val true), (19, .val false), (20, .val false)]), (1000011, [(1, .val true), (5, .own true), (6, .ptr), (8, .ptr), (9, .val false), (18, .val true), (19, .val false), (20, .val false)])], [14, 34, 47]⟩
-- 51 impl.times
noncomputable def fn51 : FnT := ⟨(Try.f51.body.getD .skip), 57, Try.f51.results.toList, [(.sl (.ap 0), .ln), (.sl (.ap 0), .ln)], [(.sl (.ap 0), ⟨true, true, false, false⟩)], [(5, [(0, .val true), (5, .own true), (13, .val true), (14, .val false), (15, .val false)])], [8, 35, 50, 54]⟩
-- 52 impl.compare
noncomputable def fn52 : FnT := ⟨(Try.f52.body.getD .skip), 53, Try.f52.results.toList, [(.sl (.ap 0), .ln), (.sl (.ap 0), .ln)], [(.int .i64, ⟨false, false, false, false⟩)], [(2, [(0, .val true), (1, .val true), (5, .val false)])], []⟩
-- 53 spec.l20Grown
noncomputable def fn53 : FnT := ⟨(Try.f53.body.getD .skip), 50, Try.f53.results.toList, [(.pair (.sl (.int .u8)) (.pair (.int .i64) (.unit)), .ptr)], [(.sl (.int .i64), ⟨true, false, false, false⟩), (.int .i64, ⟨false, false, false, false⟩)], [], [23, 34, 44, 48]⟩
-- 54 impl.both
noncomputable def fn54 : FnT := ⟨(Try.f54.body.getD .skip), 27, Try.f54.results.toList, [(.sl (.int .i64), .ln), (.sl (.int .i64), .ln)], [(.sl (.ap 0), ⟨true, false, false, false⟩), (.sl (.ap 0), ⟨true, false, false, false⟩), (.bool, ⟨false, false, false, false⟩)], [], [13, 18]⟩
-- 55 impl.natural
noncomputable def fn55 : FnT := ⟨(Try.f55.body.getD .skip), 73, Try.f55.results.toList, [(.sl (.ap 0), .ln), (.sl (.ap 0), .ln)], [(.sl (.ap 0), ⟨true, true, false, false⟩)], [(2, [(0, .val true), (1, .val true), (5, .own true)])], [7, 41, 54, 65, 70, 72]⟩
-- 56 impl.takeOrd
noncomputable def fn56 : FnT := ⟨(Try.f56.body.getD .skip), 81, Try.f56.results.toList, [(.sl (.int .i64), .ln)], [(.sl (.ap 0), ⟨true, false, false, false⟩), (.sl (.int .i64), ⟨false, true, false, false⟩), (.bool, ⟨false, false, false, false⟩)], [(9, [(0, .val true), (6, .own false), (26, .val false), (27, .val false)])], [19, 76]⟩
-- 57 impl.sizeOf
noncomputable def fn57 : FnT := ⟨(Try.f57.body.getD .skip), 20, Try.f57.results.toList, [(.sl (.ap 0), .ln)], [(.int .i64, ⟨false, false, false, false⟩)], [(3, [(3, .val false), (6, .val true), (7, .val false), (8, .val false)])], []⟩
-- 58 impl.most
noncomputable def fn58 : FnT := ⟨(Try.f58.body.getD .skip), 21, Try.f58.results.toList, [(.sl (.ap 0), .ln)], [(.int .i64, ⟨false, false, false, false⟩)], [(3, [(3, .val false), (6, .val true), (7, .val false), (8, .val false)])], []⟩
-- 59 slices.Clip[[]int,int]
noncomputable def fn59 : FnT := ⟨(Try.f59.body.getD .skip), 9, Try.f59.results.toList, [(.sl (.int .i64), .mv)], [(.sl (.int .i64), ⟨true, false, false, false⟩)], [], [8]⟩
-- 60 impl.kind
noncomputable def fn60 : FnT := ⟨(Try.f60.body.getD .skip), 17, Try.f60.results.toList, [(.sl (.ap 0), .ln)], [(.int .i64, ⟨false, false, false, false⟩)], [], []⟩
-- 61 impl.step
noncomputable def fn61 : FnT := ⟨(Try.f61.body.getD .skip), 48, Try.f61.results.toList, [(.sl (.ap 0), .ln), (.int .i64, .ln)], [(.sl (.ap 0), ⟨true, true, false, false⟩)], [], [14, 23, 29, 35, 40, 46]⟩
-- 62 spec.l1End
noncomputable def fn62 : FnT := ⟨(Try.f62.body.getD .skip), 72, Try.f62.results.toList, [(.sl (.int .i64), .ln), (.int .i64, .ln)], [(.int .i64, ⟨false, false, false, false⟩)], [(7, [(0, .val true), (1, .val false), (5, .val false), (6, .val true), (7, .val false)])], []⟩
-- 63 spec.l1Terms
noncomputable def fn63 : FnT := ⟨(Try.f63.body.getD .skip), 36, Try.f63.results.toList, [(.sl (.int .i64), .ln)], [(.sl (.int .i64), ⟨true, false, false, false⟩), (.sl (.sl (.int .i64)), ⟨true, true, false, false⟩)], [(4, [(0, .val true), (4, .own false), (5, .own true), (6, .val false)])], [8, 9, 24, 32]⟩
-- 64 spec.l2Fit
noncomputable def fn64 : FnT := ⟨(Try.f64.body.getD .skip), 9, Try.f64.results.toList, [(.sl (.int .i64), .ln)], [(.sl (.int .i64), ⟨false, true, false, false⟩), (.bool, ⟨false, false, false, false⟩)], [], []⟩
-- 65 spec.l3Step
noncomputable def fn65 : FnT := ⟨(Try.f65.body.getD .skip), 102, Try.f65.results.toList, [(.sl (.int .i64), .ln), (.int .i64, .ln)], [(.sl (.int .i64), ⟨true, false, false, false⟩)], [(1000010, [(1, .val false), (6, .val true), (7, .val false), (8, .own false), (9, .own true)]), (1000018, [(8, .own false), (9, .own true)])], [23, 24, 28, 29, 33, 46, 53, 63, 82, 88, 91, 101]⟩
-- 66 spec.l1Make
noncomputable def fn66 : FnT := ⟨(Try.f66.body.getD .skip), 29, Try.f66.results.toList, [(.sl (.int .i64), .ln), (.sl (.sl (.int .i64)), .ln)], [(.sl (.int .i64), ⟨true, false, false, false⟩)], [(3, [(0, .val true), (1, .val true), (5, .own false), (6, .val false)])], [9, 22, 27]⟩
-- 67 cmp.Compare[int]
noncomputable def fn67 : FnT := ⟨(Try.f67.body.getD .skip), 20, Try.f67.results.toList, [(.int .i64, .ln), (.int .i64, .ln)], [(.int .i64, ⟨false, false, false, false⟩)], [], []⟩
-- 68 spec.l20Little
noncomputable def fn68 : FnT := ⟨(Try.f68.body.getD .skip), 26, Try.f68.results.toList, [(.pair (.sl (.int .u8)) (.pair (.int .i64) (.unit)), .ptr), (.int .i64, .ln)], [(.sl (.int .i64), ⟨true, false, false, false⟩)], [(5, [(0, .ptr), (5, .own false), (6, .val false)])], [11, 13, 24]⟩
-- 69 impl.before
noncomputable def fn69 : FnT := ⟨(Try.f69.body.getD .skip), 28, Try.f69.results.toList, [(.sl (.ap 0), .ln)], [(.sl (.ap 0), ⟨true, true, false, false⟩)], [], [6]⟩
-- 70 slices.Clip[impl.ord,impl.term]
noncomputable def fn70 : FnT := ⟨(Try.f70.body.getD .skip), 9, Try.f70.results.toList, [(.sl (.ap 0), .mv)], [(.sl (.ap 0), ⟨true, true, false, false⟩)], [], [8]⟩
-- 71 spec.l1Span
noncomputable def fn71 : FnT := ⟨(Try.f71.body.getD .skip), 23, Try.f71.results.toList, [(.sl (.int .i64), .ln), (.int .i64, .ln)], [(.int .i64, ⟨false, false, false, false⟩)], [(4, [(0, .val true), (1, .val false), (5, .val false), (6, .val false)])], []⟩
-- 72 cmp.isNaN[int]
noncomputable def fn72 : FnT := ⟨(Try.f72.body.getD .skip), 6, Try.f72.results.toList, [(.int .i64, .ln)], [(.bool, ⟨false, false, false, false⟩)], [], []⟩
-- 73 (*spec.l20Rd).odd
noncomputable def fn73 : FnT := ⟨(Try.f73.body.getD .skip), 15, Try.f73.results.toList, [(.pair (.sl (.int .u8)) (.pair (.int .i64) (.unit)), .ptr), (.int .i64, .ln)], [(.bool, ⟨false, false, false, false⟩)], [], []⟩
-- 74 spec.l20Ord
noncomputable def fn74 : FnT := ⟨(Try.f74.body.getD .skip), 43, Try.f74.results.toList, [(.pair (.sl (.int .u8)) (.pair (.int .i64) (.unit)), .ptr), (.int .i64, .ln)], [(.sl (.int .i64), ⟨true, false, false, false⟩)], [(3, [(0, .ptr), (1, .val false), (5, .own false), (6, .val false)])], [8, 19, 25, 28, 31, 33, 35, 38, 41]⟩
-- 75 spec.l20Raw
noncomputable def fn75 : FnT := ⟨(Try.f75.body.getD .skip), 102, Try.f75.results.toList, [(.pair (.sl (.int .u8)) (.pair (.int .i64) (.unit)), .ptr), (.int .i64, .ln)], [(.sl (.int .i64), ⟨true, false, false, false⟩)], [(6, [(0, .ptr), (1, .val false), (5, .own false), (6, .val false), (7, .val false)]), (12, [(0, .ptr), (1, .val false), (5, .own false), (6, .val false), (7, .val false), (8, .val false), (9, .val false)]), (1000011, [(0, .ptr), (1, .val false), (5, .own false), (6, .val false), (7, .val false), (8, .val false)]), (1000015, [(0, .ptr), (1, .val false), (5, .own false), (6, .val false), (7, .val false), (9, .val false)])], [14, 15, 68, 72, 82, 86, 87, 91, 94, 101]⟩
-- 76 slices.Clone[impl.ord,impl.term]
noncomputable def fn76 : FnT := ⟨(Try.f76.body.getD .skip), 8, Try.f76.results.toList, [(.sl (.ap 0), .ln)], [(.sl (.ap 0), ⟨true, true, false, false⟩)], [], [5, 7]⟩
def tyOf : Nat → Option Ty
  | 3 => some (.int .i64)
  | 4 => some (.bool)
  | 5 => some (.int .u8)
  | 22 => some (.sl (.int .u8))
  | 27 => some (.sl (.int .i64))
  | 51 => some (.sl (.ap 0))
  | 66 => some (.ap 0)
  | 70 => some (.pair (.sl (.int .u8)) (.pair (.int .i64) (.unit)))
  | 75 => some (.sl (.sl (.int .i64)))
  | _ => none
noncomputable def tab : Tab := ⟨tyOf, fun
  | 3 => some fn3
  | 4 => some fn4
  | 5 => some fn5
  | 6 => some fn6
  | 7 => some fn7
  | 8 => some fn8
  | 9 => some fn9
  | 10 => some fn10
  | 11 => some fn11
  | 12 => some fn12
  | 13 => some fn13
  | 14 => some fn14
  | 15 => some fn15
  | 16 => some fn16
  | 17 => some fn17
  | 18 => some fn18
  | 19 => some fn19
  | 20 => some fn20
  | 21 => some fn21
  | 22 => some fn22
  | 23 => some fn23
  | 24 => some fn24
  | 25 => some fn25
  | 26 => some fn26
  | 27 => some fn27
  | 28 => some fn28
  | 29 => some fn29
  | 30 => some fn30
  | 31 => some fn31
  | 32 => some fn32
  | 33 => some fn33
  | 34 => some fn34
  | 35 => some fn35
  | 36 => some fn36
  | 37 => some fn37
  | 38 => some fn38
  | 39 => some fn39
  | 40 => some fn40
  | 41 => some fn41
  | 42 => some fn42
  | 43 => some fn43
  | 44 => some fn44
  | 45 => some fn45
  | 46 => some fn46
  | 47 => some fn47
  | 48 => some fn48
  | 49 => some fn49
  | 50 => some fn50
  | 51 => some fn51
  | 52 => some fn52
  | 53 => some fn53
  | 54 => some fn54
  | 55 => some fn55
  | 56 => some fn56
  | 57 => some fn57
  | 58 => some fn58
  | 59 => some fn59
  | 60 => some fn60
  | 61 => some fn61
  | 62 => some fn62
  | 63 => some fn63
  | 64 => some fn64
  | 65 => some fn65
  | 66 => some fn66
  | 67 => some fn67
  | 68 => some fn68
  | 69 => some fn69
  | 70 => some fn70
  | 71 => some fn71
  | 72 => some fn72
  | 73 => some fn73
  | 74 => some fn74
  | 75 => some fn75
  | 76 => some fn76
  | _ => none⟩
noncomputable def ext : Ext tab := fun
  | 76 => some (onRow tab 76 (.ap 0) cloned)
  | _ => none
noncomputable def laws_FnIterate.f (k : Nat) (a0 : List Int) : Option Bool := runF tab ext k 3 [⟨.sl (.int .u8), a0⟩]
noncomputable def laws_FnExactGrow.f (k : Nat) (a0 : List Int) (a1 : Int) : Option Bool := runF tab ext k 4 [⟨.sl (.int .i64), a0⟩, ⟨.int .i64, a1⟩]
noncomputable def laws_FnExactGrowPath.f (k : Nat) (a0 : List Int) (a1 : Int) : Option Bool := runF tab ext k 5 [⟨.sl (.int .i64), a0⟩, ⟨.int .i64, a1⟩]
noncomputable def laws_FnExactGrowLeast.f (k : Nat) (a0 : Int) (a1 : Int) : Option Bool := runF tab ext k 6 [⟨.int .i64, a0⟩, ⟨.int .i64, a1⟩]
noncomputable def laws_FnGrowLeast.f (k : Nat) (a0 : List Int) : Option Bool := runF tab ext k 7 [⟨.sl (.int .u8), a0⟩]
noncomputable def laws_FnGrowPath.f (k : Nat) (a0 : List Int) : Option Bool := runF tab ext k 8 [⟨.sl (.int .u8), a0⟩]
noncomputable def laws_FnGrowPath.l0 (k : Nat) (x4 : Int) (x5 : List Int) (x6 : Int) (x8 : Int) : Option Bool := runL tab ext k 8 (todoAt tab 8 11) (stAt tab 8 [(4, mkVal false (.int .i64) x4), (5, mkVal false (.sl (.int .i64)) x5), (6, mkVal false (.int .i64) x6), (8, mkVal false (.int .i64) x8)] [])
noncomputable def laws_FnGrow.f (k : Nat) (a0 : List Int) (a1 : List Int) : Option Bool := runF tab ext k 9 [⟨.sl (.int .u8), a0⟩, ⟨.sl (.int .u8), a1⟩]
noncomputable def spec_DrawIterate.f (k : Nat) (a0 : List Int) : Option (Int × Int) := runF tab ext k 10 [⟨.sl (.int .u8), a0⟩]
noncomputable def impl_Iterate.f (k : Nat) (a0 : Int) (a1 : Int) : Option Int := runF tab ext k 11 [⟨.int .i64, a0⟩, ⟨.int .i64, a1⟩]
noncomputable def spec_Iterate.f (k : Nat) (a0 : Int) (a1 : Int) : Option Int := runF tab ext k 12 [⟨.int .i64, a0⟩, ⟨.int .i64, a1⟩]
noncomputable def spec_Iterate.l0 (k : Nat) (x0 : Int) (x1 : Int) (x5 : Int) (x6 : Int) : Option Int := runL tab ext k 12 (todoAt tab 12 9) (stAt tab 12 [(0, mkVal false (.int .i64) x0), (1, mkVal false (.int .i64) x1), (5, mkVal false (.int .i64) x5), (6, mkVal false (.int .i64) x6)] [])
noncomputable def laws_alive.f (k : Nat) : Option Bool := runF tab ext k 13 []
noncomputable def impl_OrdPower.f (k : Nat) (a0 : List Int) : Option (List Int × Bool) := runF tab ext k 14 [⟨.sl (.int .i64), a0⟩]
noncomputable def impl_OrdOf.f (k : Nat) (a0 : Int) : Option (List Int) := runF tab ext k 15 [⟨.int .i64, a0⟩]
noncomputable def impl_Grow.f (k : Nat) (a0 : List Int) (a1 : Int) : Option (Int × Int) := runF tab ext k 16 [⟨.sl (.int .i64), a0⟩, ⟨.int .i64, a1⟩]
noncomputable def spec_Grow.f (k : Nat) (a0 : List Int) (a1 : Int) : Option (Int × Int) := runF tab ext k 17 [⟨.sl (.int .i64), a0⟩, ⟨.int .i64, a1⟩]
noncomputable def spec_Grow.l0 (k : Nat) (x0 : List Int) (x1 : Int) (x6 : Int) : Option (Int × Int) := runL tab ext k 17 (todoAt tab 17 4) (stAt tab 17 [(0, mkVal true (.sl (.int .i64)) x0), (1, mkVal false (.int .i64) x1), (6, mkVal false (.int .i64) x6)] [])
noncomputable def spec_Grow.j0 (k : Nat) (x0 : List Int) (x1 : Int) (x6 : Int) : Option (Int × Int) := runL tab ext k 17 (todoAt tab 17 1000015) (stAt tab 17 [(0, mkVal false (.sl (.int .i64)) x0), (1, mkVal false (.int .i64) x1), (6, mkVal false (.int .i64) x6)] [])
noncomputable def laws_toIntS.f (k : Nat) (a0 : List Int) : Option (List Int) := runF tab ext k 18 [⟨.sl (.int .i64), a0⟩]
noncomputable def laws_toIntS.l0 (k : Nat) (x0 : List Int) (x3 : List Int) (x4 : Int) : Option (List Int) := runL tab ext k 18 (todoAt tab 18 3) (stAt tab 18 [(0, mkVal true (.sl (.int .i64)) x0), (3, .ref 15), (4, mkVal false (.int .i64) x4)] [(15, .sl false false (.int .i64) x3)])
noncomputable def laws_eqIntS.f (k : Nat) (a0 : List Int) (a1 : List Int) : Option Bool := runF tab ext k 19 [⟨.sl (.int .i64), a0⟩, ⟨.sl (.int .i64), a1⟩]
noncomputable def laws_eqIntS.l0 (k : Nat) (x0 : List Int) (x1 : List Int) (x5 : Int) : Option Bool := runL tab ext k 19 (todoAt tab 19 4) (stAt tab 19 [(0, mkVal true (.sl (.int .i64)) x0), (1, mkVal true (.sl (.int .i64)) x1), (5, mkVal false (.int .i64) x5)] [])
noncomputable def spec_GrowPath.f (k : Nat) (a0 : List Int) (a1 : Int) : Option (List Int) := runF tab ext k 20 [⟨.sl (.int .i64), a0⟩, ⟨.int .i64, a1⟩]
noncomputable def spec_GrowPath.l0 (k : Nat) (x0 : List Int) (x1 : Int) (x5 : List Int) : Option (List Int) := runL tab ext k 20 (todoAt tab 20 6) (stAt tab 20 [(0, mkVal true (.sl (.int .i64)) x0), (1, mkVal false (.int .i64) x1), (5, .ref 23)] [(23, .sl false false (.int .i64) x5)])
noncomputable def impl_GrowPath.f (k : Nat) (a0 : List Int) (a1 : Int) : Option (List Int) := runF tab ext k 21 [⟨.sl (.int .i64), a0⟩, ⟨.int .i64, a1⟩]
noncomputable def laws_markIntS.f (k : Nat) (a0 : List Int) (a1 : Int) : Option (Int × List Int) := runF tab ext k 22 [⟨.sl (.int .i64), a0⟩, ⟨.int .i64, a1⟩]
noncomputable def laws_markIntS.l0 (k : Nat) (x0 : List Int) (x1 : Int) (x5 : Int) : Option (Int × List Int) := runL tab ext k 22 (todoAt tab 22 2) (stAt tab 22 [(0, .ref 0), (1, mkVal false (.int .i64) x1), (5, mkVal false (.int .i64) x5)] [(0, .io false (.int .i64) x0)])
noncomputable def laws_heldIntS.f (k : Nat) (a0 : List Int) (a1 : Int) : Option Int := runF tab ext k 23 [⟨.sl (.int .i64), a0⟩, ⟨.int .i64, a1⟩]
noncomputable def laws_heldIntS.l0 (k : Nat) (x0 : List Int) (x1 : Int) (x5 : Int) : Option Int := runL tab ext k 23 (todoAt tab 23 2) (stAt tab 23 [(0, mkVal true (.sl (.int .i64)) x0), (1, mkVal false (.int .i64) x1), (5, mkVal false (.int .i64) x5)] [])
noncomputable def spec_GrowLeast.f (k : Nat) (a0 : Int) (a1 : Int) : Option (List Int × Bool) := runF tab ext k 24 [⟨.int .i64, a0⟩, ⟨.int .i64, a1⟩]
noncomputable def spec_GrowLeast.l0 (k : Nat) (x0 : Int) (x1 : Int) (x6 : List Int) (x7 : Int) : Option (List Int × Bool) := runL tab ext k 24 (todoAt tab 24 5) (stAt tab 24 [(0, mkVal false (.int .i64) x0), (1, mkVal false (.int .i64) x1), (6, .ref 27), (7, mkVal false (.int .i64) x7)] [(27, .sl false false (.int .i64) x6)])
noncomputable def spec_GrowLeast.l1 (k : Nat) (x0 : Int) (x1 : Int) (x6 : List Int) (x7 : Int) (x8 : Int) : Option (List Int × Bool) := runL tab ext k 24 (todoAt tab 24 8) (stAt tab 24 [(0, mkVal false (.int .i64) x0), (1, mkVal false (.int .i64) x1), (6, .ref 27), (7, mkVal false (.int .i64) x7), (8, mkVal false (.int .i64) x8)] [(27, .sl false false (.int .i64) x6)])
noncomputable def spec_GrowLeast.l2 (k : Nat) (x0 : Int) (x1 : Int) (x6 : List Int) (x7 : Int) (x8 : Int) (x9 : Int) : Option (List Int × Bool) := runL tab ext k 24 (todoAt tab 24 11) (stAt tab 24 [(0, mkVal false (.int .i64) x0), (1, mkVal false (.int .i64) x1), (6, .ref 27), (7, mkVal false (.int .i64) x7), (8, mkVal false (.int .i64) x8), (9, mkVal false (.int .i64) x9)] [(27, .sl false false (.int .i64) x6)])
noncomputable def spec_GrowLeast.j0 (k : Nat) (x0 : Int) (x1 : Int) (x6 : List Int) (x7 : Int) (x8 : Int) (x9 : Int) (x10 : List Int) : Option (List Int × Bool) := runL tab ext k 24 (todoAt tab 24 1000016) (stAt tab 24 [(0, mkVal false (.int .i64) x0), (1, mkVal false (.int .i64) x1), (6, .ref 27), (7, mkVal false (.int .i64) x7), (8, mkVal false (.int .i64) x8), (9, mkVal false (.int .i64) x9), (10, mkVal false (.sl (.int .i64)) x10)] [(27, .sl false false (.int .i64) x6)])
noncomputable def impl_GrowLeast.f (k : Nat) (a0 : Int) (a1 : Int) : Option (List Int × Bool) := runF tab ext k 25 [⟨.int .i64, a0⟩, ⟨.int .i64, a1⟩]
noncomputable def impl_GrowLeast.l0 (k : Nat) (x0 : Int) (x1 : Int) (x6 : List Term) (x7 : Bool) (x28 : Int) : Option (List Int × Bool) := runL tab ext k 25 (todoAt tab 25 5) (stAt tab 25 [(0, mkVal false (.int .i64) x0), (1, mkVal false (.int .i64) x1), (6, mkVal false (.sl (.ap 0)) x6), (7, mkVal false (.bool) x7), (28, mkVal false (.int .i64) x28)] [])
noncomputable def impl_GrowLeast.l1 (k : Nat) (x0 : Int) (x1 : Int) (x6 : List Term) (x7 : Bool) (x8 : Int) (x28 : Int) (x31 : Int) : Option (List Int × Bool) := runL tab ext k 25 (todoAt tab 25 8) (stAt tab 25 [(0, mkVal false (.int .i64) x0), (1, mkVal false (.int .i64) x1), (6, mkVal false (.sl (.ap 0)) x6), (7, mkVal false (.bool) x7), (8, mkVal false (.int .i64) x8), (28, mkVal false (.int .i64) x28), (31, mkVal false (.int .i64) x31)] [])
noncomputable def impl_GrowLeast.l2 (k : Nat) (x0 : Int) (x1 : Int) (x6 : List Term) (x7 : Bool) (x8 : Int) (x9 : Int) (x28 : Int) (x31 : Int) (x34 : Int) : Option (List Int × Bool) := runL tab ext k 25 (todoAt tab 25 11) (stAt tab 25 [(0, mkVal false (.int .i64) x0), (1, mkVal false (.int .i64) x1), (6, mkVal false (.sl (.ap 0)) x6), (7, mkVal false (.bool) x7), (8, mkVal false (.int .i64) x8), (9, mkVal false (.int .i64) x9), (28, mkVal false (.int .i64) x28), (31, mkVal false (.int .i64) x31), (34, mkVal false (.int .i64) x34)] [])
noncomputable def spec_DrawGrowLeast.f (k : Nat) (a0 : List Int) : Option (Int × Int) := runF tab ext k 26 [⟨.sl (.int .u8), a0⟩]
noncomputable def laws_sameInts.f (k : Nat) (a0 : List Int) (a1 : List Int) : Option Bool := runF tab ext k 27 [⟨.sl (.int .i64), a0⟩, ⟨.sl (.int .i64), a1⟩]
noncomputable def laws_sameInts.l0 (k : Nat) (x0 : List Int) (x1 : List Int) (x5 : Int) : Option Bool := runL tab ext k 27 (todoAt tab 27 4) (stAt tab 27 [(0, mkVal true (.sl (.int .i64)) x0), (1, mkVal true (.sl (.int .i64)) x1), (5, mkVal false (.int .i64) x5)] [])
noncomputable def impl_OrdCompare.f (k : Nat) (a0 : List Int) (a1 : List Int) : Option Int := runF tab ext k 28 [⟨.sl (.int .i64), a0⟩, ⟨.sl (.int .i64), a1⟩]
noncomputable def spec_DrawGrowPath.f (k : Nat) (a0 : List Int) : Option (List Int × Int) := runF tab ext k 29 [⟨.sl (.int .u8), a0⟩]
noncomputable def spec_DrawGrow.f (k : Nat) (a0 : List Int) : Option (List Int × Int) := runF tab ext k 30 [⟨.sl (.int .u8), a0⟩]
noncomputable def impl_OrdNumber.f (k : Nat) (a0 : List Int) : Option Int := runF tab ext k 31 [⟨.sl (.int .i64), a0⟩]
noncomputable def impl_OrdAdd.f (k : Nat) (a0 : List Int) (a1 : List Int) : Option (List Int × Bool) := runF tab ext k 32 [⟨.sl (.int .i64), a0⟩, ⟨.sl (.int .i64), a1⟩]
noncomputable def impl_OrdNatural.f (k : Nat) (a0 : List Int) (a1 : List Int) : Option (List Int × Bool) := runF tab ext k 33 [⟨.sl (.int .i64), a0⟩, ⟨.sl (.int .i64), a1⟩]
noncomputable def spec_l20Open.f (k : Nat) (a0 : List Int) : Option (List Int × (Int × Unit)) := runF tab ext k 34 [⟨.sl (.int .u8), a0⟩]
noncomputable def spec_l20Rd__pick.f (k : Nat) (a0_0 : List Int) (a0_1 : Int) (a1 : Int) : Option (Int × (List Int × (Int × Unit))) := runF tab ext k 35 [⟨.pair (.sl (.int .u8)) (.pair (.int .i64) (.unit)), (a0_0, a0_1, ())⟩, ⟨.int .i64, a1⟩]
noncomputable def impl_iterate.f (k : Nat) (a0 : Int) (a1 : Int) : Option Int := runF tab ext k 36 [⟨.int .i64, a0⟩, ⟨.int .i64, a1⟩]
noncomputable def impl_iterate.l0 (k : Nat) (x0 : Int) (x1 : Int) (x11 : Int) (x12 : Int) : Option Int := runL tab ext k 36 (todoAt tab 36 6) (stAt tab 36 [(0, mkVal false (.int .i64) x0), (1, mkVal false (.int .i64) x1), (11, mkVal false (.int .i64) x11), (12, mkVal false (.int .i64) x12)] [])
noncomputable def spec_l1In.f (k : Nat) (a0 : Int) (a1 : Int) (a2 : Int) : Option Bool := runF tab ext k 37 [⟨.int .i64, a0⟩, ⟨.int .i64, a1⟩, ⟨.int .i64, a2⟩]
noncomputable def impl_ordOf.f (k : Nat) (a0 : List Int) : Option (List Term × Bool) := runF tab ext k 38 [⟨.sl (.int .i64), a0⟩]
noncomputable def impl_told.f (k : Nat) (a0 : List Term) : Option (List Int × Bool) := runF tab ext k 39 [⟨.sl (.ap 0), a0⟩]
noncomputable def impl_power.f (k : Nat) (a0 : List Term) : Option (List Term) := runF tab ext k 40 [⟨.sl (.ap 0), a0⟩]
noncomputable def impl_rowOf.f (k : Nat) (a0 : List Term) : Option (List Int) := runF tab ext k 41 [⟨.sl (.ap 0), a0⟩]
noncomputable def impl_rowOf.l0 (k : Nat) (x3 : List Int) (x9 : List Term) (x10 : Int) (x11 : Int) : Option (List Int) := runL tab ext k 41 (todoAt tab 41 3) (stAt tab 41 [(3, .ref 15), (9, mkVal true (.sl (.ap 0)) x9), (10, mkVal false (.int .i64) x10), (11, mkVal false (.int .i64) x11)] [(15, .sl false false (.int .i64) x3)])
noncomputable def impl_number.f (k : Nat) (a0 : Int) : Option (List Term) := runF tab ext k 42 [⟨.int .i64, a0⟩]
noncomputable def impl_grow.f (k : Nat) (a0 : List Term) (a1 : Int) : Option (List Int × Int) := runF tab ext k 43 [⟨.sl (.ap 0), a0⟩, ⟨.int .i64, a1⟩]
noncomputable def impl_grow.l0 (k : Nat) (x0 : List Term) (x1 : Int) (x6 : List Int) (x7 : Int) : Option (List Int × Int) := runL tab ext k 43 (todoAt tab 43 3) (stAt tab 43 [(0, mkVal true (.sl (.ap 0)) x0), (1, mkVal false (.int .i64) x1), (6, .ref 27), (7, mkVal false (.int .i64) x7)] [(27, .sl false false (.int .i64) x6)])
noncomputable def impl_grow.j0 (k : Nat) (x0 : List Term) (x1 : Int) (x6 : List Int) (x7 : Int) : Option (List Int × Int) := runL tab ext k 43 (todoAt tab 43 1000007) (stAt tab 43 [(0, mkVal true (.sl (.ap 0)) x0), (1, mkVal false (.int .i64) x1), (6, .ref 27), (7, mkVal false (.int .i64) x7)] [(27, .sl false false (.int .i64) x6)])
noncomputable def spec_OrdValid.f (k : Nat) (a0 : List Int) : Option Bool := runF tab ext k 44 [⟨.sl (.int .i64), a0⟩]
noncomputable def spec_OrdKind.f (k : Nat) (a0 : List Int) : Option Int := runF tab ext k 45 [⟨.sl (.int .i64), a0⟩]
noncomputable def spec_OrdStep.f (k : Nat) (a0 : List Int) (a1 : Int) : Option (List Int × Bool) := runF tab ext k 46 [⟨.sl (.int .i64), a0⟩, ⟨.int .i64, a1⟩]
noncomputable def spec_OrdOf.f (k : Nat) (a0 : Int) : Option (List Int) := runF tab ext k 47 [⟨.int .i64, a0⟩]
noncomputable def spec_l2Add.f (k : Nat) (a0 : List Int) (a1 : List Int) : Option (List Int) := runF tab ext k 48 [⟨.sl (.int .i64), a0⟩, ⟨.sl (.int .i64), a1⟩]
noncomputable def spec_l2Add.l0 (k : Nat) (x5 : List Int) (x6 : List (List Int)) (x7 : List Int) (x8 : List (List Int)) (x9 : List Int) (x10 : List (List Int)) (x11 : Int) : Option (List Int) := runL tab ext k 48 (todoAt tab 48 8) (stAt tab 48 [(5, mkVal false (.sl (.int .i64)) x5), (6, mkVal true (.sl (.sl (.int .i64))) x6), (7, mkVal false (.sl (.int .i64)) x7), (8, mkVal true (.sl (.sl (.int .i64))) x8), (9, .ref 39), (10, .ref 43), (11, mkVal false (.int .i64) x11)] [(39, .sl false false (.int .i64) x9), (43, .sl true false (.sl (.int .i64)) x10)])
noncomputable def spec_l2Add.j0 (k : Nat) (x5 : List Int) (x6 : List (List Int)) (x9 : List Int) (x10 : List (List Int)) (x12 : Int) : Option (List Int) := runL tab ext k 48 (todoAt tab 48 1000015) (stAt tab 48 [(5, mkVal false (.sl (.int .i64)) x5), (6, mkVal true (.sl (.sl (.int .i64))) x6), (9, .ref 39), (10, .ref 43), (12, mkVal false (.int .i64) x12)] [(39, .sl false false (.int .i64) x9), (43, .sl true false (.sl (.int .i64)) x10)])
noncomputable def spec_l2Add.j1 (k : Nat) (x5 : List Int) (x6 : List (List Int)) (x9 : List Int) (x10 : List (List Int)) (x13 : Int) : Option (List Int) := runL tab ext k 48 (todoAt tab 48 1000017) (stAt tab 48 [(5, mkVal false (.sl (.int .i64)) x5), (6, mkVal true (.sl (.sl (.int .i64))) x6), (9, .ref 39), (10, .ref 43), (13, mkVal false (.int .i64) x13)] [(39, .sl false false (.int .i64) x9), (43, .sl true false (.sl (.int .i64)) x10)])
noncomputable def spec_l1Compare.f (k : Nat) (a0 : List Int) (a1 : List Int) : Option Int := runF tab ext k 49 [⟨.sl (.int .i64), a0⟩, ⟨.sl (.int .i64), a1⟩]
noncomputable def spec_l1Compare.l0 (k : Nat) (x5 : List Int) (x6 : List (List Int)) (x7 : List Int) (x8 : List (List Int)) (x9 : Int) : Option Int := runL tab ext k 49 (todoAt tab 49 4) (stAt tab 49 [(5, mkVal false (.sl (.int .i64)) x5), (6, mkVal true (.sl (.sl (.int .i64))) x6), (7, mkVal false (.sl (.int .i64)) x7), (8, mkVal true (.sl (.sl (.int .i64))) x8), (9, mkVal false (.int .i64) x9)] [])
noncomputable def impl_add.f (k : Nat) (a0 : List Term) (a1 : List Term) : Option (List Term) := runF tab ext k 50 [⟨.sl (.ap 0), a0⟩, ⟨.sl (.ap 0), a1⟩]
noncomputable def impl_add.l0 (k : Nat) (x1 : List Term) (x5 : List Term) (x6 : Term) (x18 : List Term) (x19 : Int) (x20 : Int) : Option (List Term) := runL tab ext k 50 (todoAt tab 50 6) (stAt tab 50 [(1, mkVal true (.sl (.ap 0)) x1), (5, .ref 23), (6, .ptr 24 []), (18, mkVal true (.sl (.ap 0)) x18), (19, mkVal false (.int .i64) x19), (20, mkVal false (.int .i64) x20)] [(23, .sl true false (.ap 0) x5), (24, .box true (.ap 0) x6)])
noncomputable def impl_add.j0 (k : Nat) (x1 : List Term) (x5 : List Term) (x6 : Term) (x8 : Term) (x9 : Int) (x18 : List Term) (x19 : Int) (x20 : Int) : Option (List Term) := runL tab ext k 50 (todoAt tab 50 1000011) (stAt tab 50 [(1, mkVal true (.sl (.ap 0)) x1), (5, .ref 23), (6, .ptr 24 []), (8, .ptr 32 []), (9, mkVal false (.int .i64) x9), (18, mkVal true (.sl (.ap 0)) x18), (19, mkVal false (.int .i64) x19), (20, mkVal false (.int .i64) x20)] [(23, .sl true false (.ap 0) x5), (24, .box true (.ap 0) x6), (32, .box true (.ap 0) x8)])
noncomputable def impl_times.f (k : Nat) (a0 : List Term) (a1 : List Term) : Option (List Term) := runF tab ext k 51 [⟨.sl (.ap 0), a0⟩, ⟨.sl (.ap 0), a1⟩]
noncomputable def impl_times.l0 (k : Nat) (x0 : List Term) (x5 : List Term) (x13 : List Term) (x14 : Int) (x15 : Int) : Option (List Term) := runL tab ext k 51 (todoAt tab 51 5) (stAt tab 51 [(0, mkVal true (.sl (.ap 0)) x0), (5, .ref 23), (13, mkVal true (.sl (.ap 0)) x13), (14, mkVal false (.int .i64) x14), (15, mkVal false (.int .i64) x15)] [(23, .sl true false (.ap 0) x5)])
noncomputable def impl_compare.f (k : Nat) (a0 : List Term) (a1 : List Term) : Option Int := runF tab ext k 52 [⟨.sl (.ap 0), a0⟩, ⟨.sl (.ap 0), a1⟩]
noncomputable def impl_compare.l0 (k : Nat) (x0 : List Term) (x1 : List Term) (x5 : Int) : Option Int := runL tab ext k 52 (todoAt tab 52 2) (stAt tab 52 [(0, mkVal true (.sl (.ap 0)) x0), (1, mkVal true (.sl (.ap 0)) x1), (5, mkVal false (.int .i64) x5)] [])
noncomputable def spec_l20Grown.f (k : Nat) (a0_0 : List Int) (a0_1 : Int) : Option (List Int × Int × (List Int × (Int × Unit))) := runF tab ext k 53 [⟨.pair (.sl (.int .u8)) (.pair (.int .i64) (.unit)), (a0_0, a0_1, ())⟩]
noncomputable def impl_both.f (k : Nat) (a0 : List Int) (a1 : List Int) : Option (List Term × List Term × Bool) := runF tab ext k 54 [⟨.sl (.int .i64), a0⟩, ⟨.sl (.int .i64), a1⟩]
noncomputable def impl_natural.f (k : Nat) (a0 : List Term) (a1 : List Term) : Option (List Term) := runF tab ext k 55 [⟨.sl (.ap 0), a0⟩, ⟨.sl (.ap 0), a1⟩]
noncomputable def impl_natural.l0 (k : Nat) (x0 : List Term) (x1 : List Term) (x5 : List Term) : Option (List Term) := runL tab ext k 55 (todoAt tab 55 2) (stAt tab 55 [(0, mkVal true (.sl (.ap 0)) x0), (1, mkVal true (.sl (.ap 0)) x1), (5, .ref 23)] [(23, .sl true false (.ap 0) x5)])
noncomputable def impl_takeOrd.f (k : Nat) (a0 : List Int) : Option (List Term × List Int × Bool) := runF tab ext k 56 [⟨.sl (.int .i64), a0⟩]
noncomputable def impl_takeOrd.l0 (k : Nat) (x0 : List Int) (x6 : List Term) (x26 : Int) (x27 : Int) : Option (List Term × List Int × Bool) := runL tab ext k 56 (todoAt tab 56 9) (stAt tab 56 [(0, mkVal true (.sl (.int .i64)) x0), (6, .ref 27), (26, mkVal false (.int .i64) x26), (27, mkVal false (.int .i64) x27)] [(27, .sl false false (.ap 0) x6)])
noncomputable def impl_sizeOf.f (k : Nat) (a0 : List Term) : Option Int := runF tab ext k 57 [⟨.sl (.ap 0), a0⟩]
noncomputable def impl_sizeOf.l0 (k : Nat) (x3 : Int) (x6 : List Term) (x7 : Int) (x8 : Int) : Option Int := runL tab ext k 57 (todoAt tab 57 3) (stAt tab 57 [(3, mkVal false (.int .i64) x3), (6, mkVal true (.sl (.ap 0)) x6), (7, mkVal false (.int .i64) x7), (8, mkVal false (.int .i64) x8)] [])
noncomputable def impl_most.f (k : Nat) (a0 : List Term) : Option Int := runF tab ext k 58 [⟨.sl (.ap 0), a0⟩]
noncomputable def impl_most.l0 (k : Nat) (x3 : Int) (x6 : List Term) (x7 : Int) (x8 : Int) : Option Int := runL tab ext k 58 (todoAt tab 58 3) (stAt tab 58 [(3, mkVal false (.int .i64) x3), (6, mkVal true (.sl (.ap 0)) x6), (7, mkVal false (.int .i64) x7), (8, mkVal false (.int .i64) x8)] [])
noncomputable def slices_Clip_int_int.f (k : Nat) (a0 : List Int) : Option (List Int) := runF tab ext k 59 [⟨.sl (.int .i64), a0⟩]
noncomputable def impl_kind.f (k : Nat) (a0 : List Term) : Option Int := runF tab ext k 60 [⟨.sl (.ap 0), a0⟩]
noncomputable def impl_step.f (k : Nat) (a0 : List Term) (a1 : Int) : Option (List Term) := runF tab ext k 61 [⟨.sl (.ap 0), a0⟩, ⟨.int .i64, a1⟩]
noncomputable def spec_l1End.f (k : Nat) (a0 : List Int) (a1 : Int) : Option Int := runF tab ext k 62 [⟨.sl (.int .i64), a0⟩, ⟨.int .i64, a1⟩]
noncomputable def spec_l1End.l0 (k : Nat) (x0 : List Int) (x1 : Int) (x5 : Int) (x6 : List Int) (x7 : Int) : Option Int := runL tab ext k 62 (todoAt tab 62 7) (stAt tab 62 [(0, mkVal true (.sl (.int .i64)) x0), (1, mkVal false (.int .i64) x1), (5, mkVal false (.int .i64) x5), (6, mkVal true (.sl (.int .i64)) x6), (7, mkVal false (.int .i64) x7)] [])
noncomputable def spec_l1Terms.f (k : Nat) (a0 : List Int) : Option (List Int × List (List Int)) := runF tab ext k 63 [⟨.sl (.int .i64), a0⟩]
noncomputable def spec_l1Terms.l0 (k : Nat) (x0 : List Int) (x4 : List Int) (x5 : List (List Int)) (x6 : Int) : Option (List Int × List (List Int)) := runL tab ext k 63 (todoAt tab 63 4) (stAt tab 63 [(0, mkVal true (.sl (.int .i64)) x0), (4, .ref 19), (5, .ref 23), (6, mkVal false (.int .i64) x6)] [(19, .sl false false (.int .i64) x4), (23, .sl true false (.sl (.int .i64)) x5)])
noncomputable def spec_l2Fit.f (k : Nat) (a0 : List Int) : Option (List Int × Bool) := runF tab ext k 64 [⟨.sl (.int .i64), a0⟩]
noncomputable def spec_l3Step.f (k : Nat) (a0 : List Int) (a1 : Int) : Option (List Int) := runF tab ext k 65 [⟨.sl (.int .i64), a0⟩, ⟨.int .i64, a1⟩]
noncomputable def spec_l3Step.j0 (k : Nat) (x1 : Int) (x6 : List (List Int)) (x7 : Int) (x8 : List Int) (x9 : List (List Int)) : Option (List Int) := runL tab ext k 65 (todoAt tab 65 1000010) (stAt tab 65 [(1, mkVal false (.int .i64) x1), (6, mkVal true (.sl (.sl (.int .i64))) x6), (7, mkVal false (.int .i64) x7), (8, .ref 35), (9, .ref 39)] [(35, .sl false false (.int .i64) x8), (39, .sl true false (.sl (.int .i64)) x9)])
noncomputable def spec_l3Step.j1 (k : Nat) (x8 : List Int) (x9 : List (List Int)) : Option (List Int) := runL tab ext k 65 (todoAt tab 65 1000018) (stAt tab 65 [(8, .ref 35), (9, .ref 39)] [(35, .sl false false (.int .i64) x8), (39, .sl true false (.sl (.int .i64)) x9)])
noncomputable def spec_l1Make.f (k : Nat) (a0 : List Int) (a1 : List (List Int)) : Option (List Int) := runF tab ext k 66 [⟨.sl (.int .i64), a0⟩, ⟨.sl (.sl (.int .i64)), a1⟩]
noncomputable def spec_l1Make.l0 (k : Nat) (x0 : List Int) (x1 : List (List Int)) (x5 : List Int) (x6 : Int) : Option (List Int) := runL tab ext k 66 (todoAt tab 66 3) (stAt tab 66 [(0, mkVal true (.sl (.int .i64)) x0), (1, mkVal true (.sl (.sl (.int .i64))) x1), (5, .ref 23), (6, mkVal false (.int .i64) x6)] [(23, .sl false false (.int .i64) x5)])
noncomputable def cmp_Compare_int.f (k : Nat) (a0 : Int) (a1 : Int) : Option Int := runF tab ext k 67 [⟨.int .i64, a0⟩, ⟨.int .i64, a1⟩]
noncomputable def spec_l20Little.f (k : Nat) (a0_0 : List Int) (a0_1 : Int) (a1 : Int) : Option (List Int × (List Int × (Int × Unit))) := runF tab ext k 68 [⟨.pair (.sl (.int .u8)) (.pair (.int .i64) (.unit)), (a0_0, a0_1, ())⟩, ⟨.int .i64, a1⟩]
noncomputable def spec_l20Little.l0 (k : Nat) (x0_0 : List Int) (x0_1 : Int) (x5 : List Int) (x6 : Int) : Option (List Int × (List Int × (Int × Unit))) := runL tab ext k 68 (todoAt tab 68 5) (stAt tab 68 [(0, .ptr 0 []), (5, .ref 23), (6, mkVal false (.int .i64) x6)] [(0, .box true (.pair (.sl (.int .u8)) (.pair (.int .i64) (.unit))) (x0_0, x0_1, ())), (23, .sl false false (.int .i64) x5)])
noncomputable def impl_before.f (k : Nat) (a0 : List Term) : Option (List Term) := runF tab ext k 69 [⟨.sl (.ap 0), a0⟩]
noncomputable def slices_Clip_ord_term.f (k : Nat) (a0 : List Term) : Option (List Term) := runF tab ext k 70 [⟨.sl (.ap 0), a0⟩]
noncomputable def spec_l1Span.f (k : Nat) (a0 : List Int) (a1 : Int) : Option Int := runF tab ext k 71 [⟨.sl (.int .i64), a0⟩, ⟨.int .i64, a1⟩]
noncomputable def spec_l1Span.l0 (k : Nat) (x0 : List Int) (x1 : Int) (x5 : Int) (x6 : Int) : Option Int := runL tab ext k 71 (todoAt tab 71 4) (stAt tab 71 [(0, mkVal true (.sl (.int .i64)) x0), (1, mkVal false (.int .i64) x1), (5, mkVal false (.int .i64) x5), (6, mkVal false (.int .i64) x6)] [])
noncomputable def cmp_isNaN_int.f (k : Nat) (a0 : Int) : Option Bool := runF tab ext k 72 [⟨.int .i64, a0⟩]
noncomputable def spec_l20Rd__odd.f (k : Nat) (a0_0 : List Int) (a0_1 : Int) (a1 : Int) : Option (Bool × (List Int × (Int × Unit))) := runF tab ext k 73 [⟨.pair (.sl (.int .u8)) (.pair (.int .i64) (.unit)), (a0_0, a0_1, ())⟩, ⟨.int .i64, a1⟩]
noncomputable def spec_l20Ord.f (k : Nat) (a0_0 : List Int) (a0_1 : Int) (a1 : Int) : Option (List Int × (List Int × (Int × Unit))) := runF tab ext k 74 [⟨.pair (.sl (.int .u8)) (.pair (.int .i64) (.unit)), (a0_0, a0_1, ())⟩, ⟨.int .i64, a1⟩]
noncomputable def spec_l20Ord.l0 (k : Nat) (x0_0 : List Int) (x0_1 : Int) (x1 : Int) (x5 : List Int) (x6 : Int) : Option (List Int × (List Int × (Int × Unit))) := runL tab ext k 74 (todoAt tab 74 3) (stAt tab 74 [(0, .ptr 0 []), (1, mkVal false (.int .i64) x1), (5, .ref 23), (6, mkVal false (.int .i64) x6)] [(0, .box true (.pair (.sl (.int .u8)) (.pair (.int .i64) (.unit))) (x0_0, x0_1, ())), (23, .sl false false (.int .i64) x5)])
noncomputable def spec_l20Raw.f (k : Nat) (a0_0 : List Int) (a0_1 : Int) (a1 : Int) : Option (List Int × (List Int × (Int × Unit))) := runF tab ext k 75 [⟨.pair (.sl (.int .u8)) (.pair (.int .i64) (.unit)), (a0_0, a0_1, ())⟩, ⟨.int .i64, a1⟩]
noncomputable def spec_l20Raw.l0 (k : Nat) (x0_0 : List Int) (x0_1 : Int) (x1 : Int) (x5 : List Int) (x6 : List (List Int)) (x7 : Int) : Option (List Int × (List Int × (Int × Unit))) := runL tab ext k 75 (todoAt tab 75 6) (stAt tab 75 [(0, .ptr 0 []), (1, mkVal false (.int .i64) x1), (5, .ref 23), (6, mkVal false (.sl (.sl (.int .i64))) x6), (7, mkVal false (.int .i64) x7)] [(0, .box true (.pair (.sl (.int .u8)) (.pair (.int .i64) (.unit))) (x0_0, x0_1, ())), (23, .sl false false (.int .i64) x5)])
noncomputable def spec_l20Raw.j0 (k : Nat) (x0_0 : List Int) (x0_1 : Int) (x1 : Int) (x5 : List Int) (x6 : List (List Int)) (x7 : Int) (x8 : List Int) : Option (List Int × (List Int × (Int × Unit))) := runL tab ext k 75 (todoAt tab 75 1000011) (stAt tab 75 [(0, .ptr 0 []), (1, mkVal false (.int .i64) x1), (5, .ref 23), (6, mkVal false (.sl (.sl (.int .i64))) x6), (7, mkVal false (.int .i64) x7), (8, mkVal false (.sl (.int .i64)) x8)] [(0, .box true (.pair (.sl (.int .u8)) (.pair (.int .i64) (.unit))) (x0_0, x0_1, ())), (23, .sl false false (.int .i64) x5)])
noncomputable def spec_l20Raw.l1 (k : Nat) (x0_0 : List Int) (x0_1 : Int) (x1 : Int) (x5 : List Int) (x6 : List (List Int)) (x7 : Int) (x8 : List Int) (x9 : Int) : Option (List Int × (List Int × (Int × Unit))) := runL tab ext k 75 (todoAt tab 75 12) (stAt tab 75 [(0, .ptr 0 []), (1, mkVal false (.int .i64) x1), (5, .ref 23), (6, mkVal false (.sl (.sl (.int .i64))) x6), (7, mkVal false (.int .i64) x7), (8, mkVal false (.sl (.int .i64)) x8), (9, mkVal false (.int .i64) x9)] [(0, .box true (.pair (.sl (.int .u8)) (.pair (.int .i64) (.unit))) (x0_0, x0_1, ())), (23, .sl false false (.int .i64) x5)])
noncomputable def spec_l20Raw.j1 (k : Nat) (x0_0 : List Int) (x0_1 : Int) (x1 : Int) (x5 : List Int) (x6 : List (List Int)) (x7 : Int) (x9 : Int) : Option (List Int × (List Int × (Int × Unit))) := runL tab ext k 75 (todoAt tab 75 1000015) (stAt tab 75 [(0, .ptr 0 []), (1, mkVal false (.int .i64) x1), (5, .ref 23), (6, mkVal false (.sl (.sl (.int .i64))) x6), (7, mkVal false (.int .i64) x7), (9, mkVal false (.int .i64) x9)] [(0, .box true (.pair (.sl (.int .u8)) (.pair (.int .i64) (.unit))) (x0_0, x0_1, ())), (23, .sl false false (.int .i64) x5)])
noncomputable def slices_Clone_ord_term.f (k : Nat) (a0 : List Term) : Option (List Term) := runF tab ext k 76 [⟨.sl (.ap 0), a0⟩]
end Go.Proofs.Ytmcppbdepkhlaaa.Eng
