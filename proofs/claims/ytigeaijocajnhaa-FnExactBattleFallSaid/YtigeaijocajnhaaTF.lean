import Derived.Test.YtigeaijocajnhaaE2
import Derived.Test.YtigeaijocajnhaaProg
namespace Go.Proofs.Ytigeaijocajnhaa.Eng
open Go
-- 7 laws.FnExactBattleLeft
noncomputable def fn7 : FnT := ⟨(Try.f7.body.getD .skip), 27, Try.f7.results.toList, [(.ap 4, .ln)], [(.bool, ⟨false, false, false, false, false⟩)], [], [], [], []⟩
-- 13 laws.FnExactBattleFall
noncomputable def fn13 : FnT := ⟨(Try.f13.body.getD .skip), 96, Try.f13.results.toList, [(.ap 4, .ln)], [(.bool, ⟨false, false, false, false, false⟩)], [], [6, 21, 26, 43, 75], [], []⟩
-- 16 laws.toIntS
noncomputable def fn16 : FnT := ⟨(Try.f16.body.getD .skip), 22, Try.f16.results.toList, [(.sl (.int .i64), .ln)], [(.sl (.int .i64), ⟨true, false, false, false, false⟩)], [(3, [(0, .val true), (3, .own false), (4, .val false)])], [7], [], []⟩
-- 18 laws.eqBattle
noncomputable def fn18 : FnT := ⟨(Try.f18.body.getD .skip), 28, Try.f18.results.toList, [(.ap 4, .ln), (.ap 4, .ln)], [(.bool, ⟨false, false, false, false, false⟩)], [], [], [], []⟩
-- 19 laws.eqIntS
noncomputable def fn19 : FnT := ⟨(Try.f19.body.getD .skip), 26, Try.f19.results.toList, [(.sl (.int .i64), .ln), (.sl (.int .i64), .ln)], [(.bool, ⟨false, false, false, false, false⟩)], [(4, [(0, .val true), (1, .val true), (5, .val false)])], [], [], []⟩
-- 20 laws.markIntS
noncomputable def fn20 : FnT := ⟨(Try.f20.body.getD .skip), 19, Try.f20.results.toList, [(.sl (.int .i64), .io), (.int .i64, .ln)], [(.int .i64, ⟨false, false, false, false, false⟩)], [(2, [(0, .ptr), (1, .val false), (5, .val false)])], [], [], []⟩
-- 21 laws.markBattle
noncomputable def fn21 : FnT := ⟨(Try.f21.body.getD .skip), 18, Try.f21.results.toList, [(.sl (.int .i64), .io), (.int .i64, .ln), (.sl (.int .i64), .io), (.sl (.int .i64), .io), (.int .i64, .ln)], [(.int .i64, ⟨false, false, false, false, false⟩)], [], [2], [], [some (.ap 4), none]⟩
-- 25 spec.HydraValid
noncomputable def fn25 : FnT := ⟨(Try.f25.body.getD .skip), 13, Try.f25.results.toList, [(.sl (.int .i64), .ln)], [(.bool, ⟨false, false, false, false, false⟩)], [], [], [], []⟩
-- 28 impl.BattleValid
noncomputable def fn28 : FnT := ⟨(Try.f28.body.getD .skip), 22, Try.f28.results.toList, [(.ap 4, .ln)], [(.bool, ⟨false, false, false, false, false⟩)], [], [], [], []⟩
-- 30 laws.szBattle
noncomputable def fn30 : FnT := ⟨(Try.f30.body.getD .skip), 24, Try.f30.results.toList, [(.ap 4, .ln), (.int .i64, .ln)], [(.int .i64, ⟨false, false, false, false, false⟩)], [], [], [], []⟩
-- 31 spec.BattleValid
noncomputable def fn31 : FnT := ⟨(Try.f31.body.getD .skip), 22, Try.f31.results.toList, [(.ap 4, .ln)], [(.bool, ⟨false, false, false, false, false⟩)], [], [], [], []⟩
-- 32 laws.toBattle
noncomputable def fn32 : FnT := ⟨(Try.f32.body.getD .skip), 20, Try.f32.results.toList, [(.ap 4, .ln)], [(.sl (.int .i64), ⟨true, false, false, false, false⟩), (.int .i64, ⟨false, false, false, false, false⟩), (.sl (.int .i64), ⟨true, false, false, false, false⟩), (.sl (.int .i64), ⟨true, false, false, false, false⟩)], [], [2, 3, 6, 13, 17], [some (.ap 4)], []⟩
-- 34 spec.BattleLeft
noncomputable def fn34 : FnT := ⟨(Try.f34.body.getD .skip), 11, Try.f34.results.toList, [(.ap 4, .ln)], [(.int .i64, ⟨false, false, false, false, false⟩)], [], [], [], []⟩
-- 35 impl.BattleLeft
noncomputable def fn35 : FnT := ⟨(Try.f35.body.getD .skip), 11, Try.f35.results.toList, [(.ap 4, .ln)], [(.int .i64, ⟨false, false, false, false, false⟩)], [], [], [], []⟩
-- 41 impl.HydraOrd
noncomputable def fn41 : FnT := ⟨(Try.f41.body.getD .skip), 18, Try.f41.results.toList, [(.sl (.int .i64), .ln)], [(.sl (.int .i64), ⟨true, false, false, false, false⟩), (.bool, ⟨false, false, false, false, false⟩)], [], [15], [], []⟩
-- 50 spec.BattleFall
noncomputable def fn50 : FnT := ⟨(Try.f50.body.getD .skip), 47, Try.f50.results.toList, [(.ap 4, .ln)], [(.sl (.sl (.int .i64)), ⟨true, false, false, false, false⟩), (.bool, ⟨false, false, false, false, false⟩)], [(5, [(1, .ptr), (4, .own false), (5, .val false)])], [10, 41, 45], [], []⟩
-- 51 impl.BattleFall
noncomputable def fn51 : FnT := ⟨(Try.f51.body.getD .skip), 46, Try.f51.results.toList, [(.ap 4, .ln)], [(.sl (.sl (.int .i64)), ⟨true, false, false, false, true⟩), (.bool, ⟨false, false, false, false, false⟩)], [(7, [(1, .ptr), (4, .dp), (5, .val true), (6, .val false)])], [19, 1000012, 1000026, 1000027], [], []⟩
-- 52 laws.eqIntSS
noncomputable def fn52 : FnT := ⟨(Try.f52.body.getD .skip), 27, Try.f52.results.toList, [(.sl (.sl (.int .i64)), .ln), (.sl (.sl (.int .i64)), .ln)], [(.bool, ⟨false, false, false, false, false⟩)], [(4, [(0, .val true), (1, .val true), (5, .val false)])], [], [], []⟩
-- 53 laws.markIntSS
noncomputable def fn53 : FnT := ⟨(Try.f53.body.getD .skip), 19, Try.f53.results.toList, [(.sl (.sl (.int .i64)), .dio), (.int .i64, .ln)], [(.int .i64, ⟨false, false, false, false, false⟩)], [(2, [(0, .val false), (1, .val false), (5, .val false)])], [], [], []⟩
-- 54 laws.heldIntSS
noncomputable def fn54 : FnT := ⟨(Try.f54.body.getD .skip), 21, Try.f54.results.toList, [(.sl (.sl (.int .i64)), .ln), (.int .i64, .ln)], [(.int .i64, ⟨false, false, false, false, false⟩)], [(2, [(0, .val true), (1, .val false), (5, .val false)])], [], [], []⟩
-- 57 spec.l1In
noncomputable def fn57 : FnT := ⟨(Try.f57.body.getD .skip), 15, Try.f57.results.toList, [(.int .i64, .ln), (.int .i64, .ln), (.int .i64, .ln)], [(.bool, ⟨false, false, false, false, false⟩)], [], [], [], []⟩
-- 58 impl.HydraValid
noncomputable def fn58 : FnT := ⟨(Try.f58.body.getD .skip), 11, Try.f58.results.toList, [(.sl (.int .i64), .ln)], [(.bool, ⟨false, false, false, false, false⟩)], [], [], [], []⟩
-- 59 slices.Clone[[]int,int]
noncomputable def fn59 : FnT := ⟨(Try.f59.body.getD .skip), 8, Try.f59.results.toList, [(.sl (.int .i64), .ln)], [(.sl (.int .i64), ⟨true, false, false, false, false⟩)], [], [5, 7], [], []⟩
-- 60 laws.heldIntS
noncomputable def fn60 : FnT := ⟨(Try.f60.body.getD .skip), 21, Try.f60.results.toList, [(.sl (.int .i64), .ln), (.int .i64, .ln)], [(.int .i64, ⟨false, false, false, false, false⟩)], [(2, [(0, .val true), (1, .val false), (5, .val false)])], [], [], []⟩
-- 64 spec.l5End
noncomputable def fn64 : FnT := ⟨(Try.f64.body.getD .skip), 38, Try.f64.results.toList, [(.sl (.int .i64), .ln), (.int .i64, .ln)], [(.int .i64, ⟨false, false, false, false, false⟩)], [(6, [(0, .val true), (1, .val false), (5, .val false), (6, .val false)])], [], [], []⟩
-- 66 impl.HydraRun
noncomputable def fn66 : FnT := ⟨(Try.f66.body.getD .skip), 49, Try.f66.results.toList, [(.sl (.int .i64), .ln), (.sl (.int .i64), .ln), (.int .i64, .ln)], [(.sl (.int .i64), ⟨true, false, false, false, false⟩), (.bool, ⟨false, false, false, false, false⟩)], [(5, [(2, .val false), (8, .own false), (31, .val true), (32, .val false), (33, .val false)])], [30, 41], [], []⟩
-- 67 slices.Equal[[]int,int]
noncomputable def fn67 : FnT := ⟨(Try.f67.body.getD .skip), 26, Try.f67.results.toList, [(.sl (.int .i64), .ln), (.sl (.int .i64), .ln)], [(.bool, ⟨false, false, false, false, false⟩)], [(4, [(0, .val true), (1, .val true), (12, .val false), (13, .val false)])], [], [], []⟩
-- 68 laws.szIntS
noncomputable def fn68 : FnT := ⟨(Try.f68.body.getD .skip), 12, Try.f68.results.toList, [(.sl (.int .i64), .ln), (.int .i64, .ln)], [(.int .i64, ⟨false, false, false, false, false⟩)], [], [], [], []⟩
-- 69 spec.HydraRun
noncomputable def fn69 : FnT := ⟨(Try.f69.body.getD .skip), 50, Try.f69.results.toList, [(.sl (.int .i64), .ln), (.sl (.int .i64), .ln), (.int .i64, .ln)], [(.sl (.int .i64), ⟨true, false, false, false, false⟩), (.bool, ⟨false, false, false, false, false⟩)], [(5, [(1, .val true), (2, .val false), (8, .own false), (9, .val false)])], [25, 26, 28, 42, 47], [], []⟩
-- 70 spec.l1Same
noncomputable def fn70 : FnT := ⟨(Try.f70.body.getD .skip), 32, Try.f70.results.toList, [(.sl (.int .i64), .ln), (.sl (.int .i64), .ln)], [(.bool, ⟨false, false, false, false, false⟩)], [(2, [(0, .val true), (1, .val true), (5, .val false)])], [], [], []⟩
-- 72 spec.HydraFight
noncomputable def fn72 : FnT := ⟨(Try.f72.body.getD .skip), 36, Try.f72.results.toList, [(.sl (.int .i64), .ln), (.int .i64, .ln)], [(.int .i64, ⟨false, false, false, false, false⟩)], [(4, [(0, .val true), (1, .val false), (5, .val false)])], [], [], []⟩
-- 73 impl.HydraFight
noncomputable def fn73 : FnT := ⟨(Try.f73.body.getD .skip), 40, Try.f73.results.toList, [(.sl (.int .i64), .ln), (.int .i64, .ln)], [(.int .i64, ⟨false, false, false, false, false⟩)], [(4, [(0, .val true), (1, .val false), (5, .val false)])], [], [], []⟩
-- 77 spec.HydraHeads
noncomputable def fn77 : FnT := ⟨(Try.f77.body.getD .skip), 22, Try.f77.results.toList, [(.sl (.int .i64), .ln)], [(.int .i64, ⟨false, false, false, false, false⟩)], [(5, [(0, .val true), (3, .val false), (4, .val false)])], [], [], []⟩
-- 78 spec.HydraCut
noncomputable def fn78 : FnT := ⟨(Try.f78.body.getD .skip), 39, Try.f78.results.toList, [(.sl (.int .i64), .ln), (.int .i64, .ln), (.int .i64, .ln)], [(.sl (.int .i64), ⟨true, false, false, false, false⟩), (.bool, ⟨false, false, false, false, false⟩)], [], [26, 31, 37], [], []⟩
-- 80 impl.hydraOf
noncomputable def fn80 : FnT := ⟨(Try.f80.body.getD .skip), 28, Try.f80.results.toList, [(.sl (.int .i64), .ln)], [(.sl (.ap 1), ⟨true, false, false, false, false⟩), (.bool, ⟨false, false, false, false, false⟩)], [], [17], [], []⟩
-- 81 impl.told
noncomputable def fn81 : FnT := ⟨(Try.f81.body.getD .skip), 15, Try.f81.results.toList, [(.sl (.ap 0), .ln)], [(.sl (.int .i64), ⟨true, false, false, false, false⟩), (.bool, ⟨false, false, false, false, false⟩)], [], [13, 14], [], []⟩
-- 82 (impl.hydra).ord
noncomputable def fn82 : FnT := ⟨(Try.f82.body.getD .skip), 20, Try.f82.results.toList, [(.sl (.ap 1), .ln)], [(.sl (.ap 0), ⟨false, false, false, false, false⟩)], [(3, [(3, .val false), (7, .val true), (8, .val false), (9, .val false)])], [], [], []⟩
-- 84 impl.compare
noncomputable def fn84 : FnT := ⟨(Try.f84.body.getD .skip), 53, Try.f84.results.toList, [(.sl (.ap 0), .ln), (.sl (.ap 0), .ln)], [(.int .i64, ⟨false, false, false, false, false⟩)], [(2, [(0, .val true), (1, .val true), (5, .val false)])], [], [], []⟩
-- 88 spec.HydraOrd
noncomputable def fn88 : FnT := ⟨(Try.f88.body.getD .skip), 13, Try.f88.results.toList, [(.sl (.int .i64), .ln)], [(.sl (.int .i64), ⟨false, false, false, false, false⟩), (.bool, ⟨false, false, false, false, false⟩)], [], [], [], []⟩
-- 89 impl.HydraCut
noncomputable def fn89 : FnT := ⟨(Try.f89.body.getD .skip), 47, Try.f89.results.toList, [(.sl (.int .i64), .ln), (.int .i64, .ln), (.int .i64, .ln)], [(.sl (.int .i64), ⟨true, false, false, false, false⟩), (.bool, ⟨false, false, false, false, false⟩)], [], [44], [], []⟩
-- 91 impl.rowOf
noncomputable def fn91 : FnT := ⟨(Try.f91.body.getD .skip), 27, Try.f91.results.toList, [(.sl (.ap 0), .ln)], [(.sl (.int .i64), ⟨true, false, false, false, false⟩)], [(3, [(3, .own false), (9, .val true), (10, .val false), (11, .val false)])], [8, 19, 24], [], []⟩
-- 93 impl.HydraHeads
noncomputable def fn93 : FnT := ⟨(Try.f93.body.getD .skip), 14, Try.f93.results.toList, [(.sl (.int .i64), .ln)], [(.int .i64, ⟨false, false, false, false, false⟩)], [], [], [], []⟩
-- 94 spec.l5Cut
noncomputable def fn94 : FnT := ⟨(Try.f94.body.getD .skip), 82, Try.f94.results.toList, [(.sl (.int .i64), .ln), (.int .i64, .ln), (.int .i64, .ln)], [(.sl (.int .i64), ⟨true, false, false, false, false⟩), (.bool, ⟨false, false, false, false, false⟩)], [(5, [(1, .val false), (2, .val false), (8, .val true), (9, .own true), (10, .val false), (11, .val false)]), (17, [(2, .val false), (8, .val true), (9, .own true), (10, .val false), (11, .val false), (13, .val false), (14, .val false), (15, .val false)]), (1000009, [(1, .val false), (2, .val false), (8, .val true), (9, .own true), (10, .val false), (11, .val false), (12, .val false)])], [18, 43, 66, 78, 80], [], []⟩
-- 95 impl.takeHydra
noncomputable def fn95 : FnT := ⟨(Try.f95.body.getD .skip), 50, Try.f95.results.toList, [(.sl (.int .i64), .ln)], [(.sl (.ap 1), ⟨true, false, false, false, false⟩), (.sl (.int .i64), ⟨false, true, false, false, false⟩), (.bool, ⟨false, false, false, false, false⟩)], [(7, [(0, .val true), (6, .own false), (31, .val false), (32, .val false)])], [30, 45], [], []⟩
-- 96 impl.sizeOf
noncomputable def fn96 : FnT := ⟨(Try.f96.body.getD .skip), 20, Try.f96.results.toList, [(.sl (.ap 0), .ln)], [(.int .i64, ⟨false, false, false, false, false⟩)], [(3, [(3, .val false), (6, .val true), (7, .val false), (8, .val false)])], [], [], []⟩
-- 97 impl.most
noncomputable def fn97 : FnT := ⟨(Try.f97.body.getD .skip), 21, Try.f97.results.toList, [(.sl (.ap 0), .ln)], [(.int .i64, ⟨false, false, false, false, false⟩)], [(3, [(3, .val false), (6, .val true), (7, .val false), (8, .val false)])], [], [], []⟩
-- 98 slices.Clip[[]int,int]
noncomputable def fn98 : FnT := ⟨(Try.f98.body.getD .skip), 9, Try.f98.results.toList, [(.sl (.int .i64), .mv)], [(.sl (.int .i64), ⟨true, false, false, false, false⟩)], [], [8], [], []⟩
-- 99 impl.natural
noncomputable def fn99 : FnT := ⟨(Try.f99.body.getD .skip), 73, Try.f99.results.toList, [(.sl (.ap 0), .ln), (.sl (.ap 0), .ln)], [(.sl (.ap 0), ⟨true, true, false, false, false⟩)], [(2, [(0, .val true), (1, .val true), (5, .own true)])], [7, 41, 54, 65, 70, 72], [], []⟩
-- 100 impl.power
noncomputable def fn100 : FnT := ⟨(Try.f100.body.getD .skip), 6, Try.f100.results.toList, [(.sl (.ap 0), .ln)], [(.sl (.ap 0), ⟨true, true, false, false, false⟩)], [], [5], [], []⟩
-- 102 cmp.Compare[int]
noncomputable def fn102 : FnT := ⟨(Try.f102.body.getD .skip), 20, Try.f102.results.toList, [(.int .i64, .ln), (.int .i64, .ln)], [(.int .i64, ⟨false, false, false, false, false⟩)], [], [], [], []⟩
-- 103 spec.l2Fit
noncomputable def fn103 : FnT := ⟨(Try.f103.body.getD .skip), 9, Try.f103.results.toList, [(.sl (.int .i64), .ln)], [(.sl (.int .i64), ⟨false, true, false, false, false⟩), (.bool, ⟨false, false, false, false, false⟩)], [], [], [], []⟩
-- 104 spec.l5Ord
noncomputable def fn104 : FnT := ⟨(Try.f104.body.getD .skip), 27, Try.f104.results.toList, [(.sl (.int .i64), .ln)], [(.sl (.int .i64), ⟨true, false, false, false, false⟩)], [(4, [(3, .val true), (4, .own false), (5, .val false)])], [9, 16, 25], [], []⟩
-- 105 (impl.hydra).heads
noncomputable def fn105 : FnT := ⟨(Try.f105.body.getD .skip), 23, Try.f105.results.toList, [(.sl (.ap 1), .ln)], [(.int .i64, ⟨false, false, false, false, false⟩)], [(3, [(3, .val false), (6, .val true), (7, .val false), (8, .val false)]), (1000007, [(3, .val false), (5, .val true), (6, .val true), (7, .val false), (8, .val false)])], [], [], []⟩
-- 106 (impl.hydra).cut
noncomputable def fn106 : FnT := ⟨(Try.f106.body.getD .skip), 75, Try.f106.results.toList, [(.sl (.ap 1), .ln), (.int .i64, .ptr), (.int .i64, .ln), (.bool, .ln)], [(.sl (.ap 1), ⟨false, true, false, false, false⟩), (.bool, ⟨false, false, false, false, false⟩)], [(2, [(0, .val true), (1, .ptr), (2, .val false), (15, .val true), (16, .val false), (17, .val false)]), (15, [(0, .val true), (1, .ptr), (10, .val false), (12, .val true), (14, .own true), (59, .val false), (60, .val false)]), (1000014, [(0, .val true), (1, .ptr), (2, .val false), (10, .val false), (12, .val true), (14, .own true)])], [32, 56, 65], [], []⟩
-- 107 impl.grown
noncomputable def fn107 : FnT := ⟨(Try.f107.body.getD .skip), 12, Try.f107.results.toList, [(.sl (.ap 1), .ln)], [(.sl (.int .i64), ⟨true, false, false, false, false⟩), (.bool, ⟨false, false, false, false, false⟩)], [], [6, 11], [], []⟩
-- 108 spec.l5Tree
noncomputable def fn108 : FnT := ⟨(Try.f108.body.getD .skip), 21, Try.f108.results.toList, [(.sl (.sl (.int .i64)), .ln)], [(.sl (.int .i64), ⟨true, false, false, false, false⟩)], [(3, [(0, .val true), (3, .own false), (4, .val false)])], [7, 19], [], []⟩
-- 109 spec.l5Branches
noncomputable def fn109 : FnT := ⟨(Try.f109.body.getD .skip), 23, Try.f109.results.toList, [(.sl (.int .i64), .ln)], [(.sl (.sl (.int .i64)), ⟨true, true, false, false, false⟩)], [(3, [(0, .val true), (3, .own true), (4, .val false)])], [6, 20], [], []⟩
-- 110 spec.l5Heads
noncomputable def fn110 : FnT := ⟨(Try.f110.body.getD .skip), 19, Try.f110.results.toList, [(.sl (.int .i64), .ln)], [(.int .i64, ⟨false, false, false, false, false⟩)], [(3, [(0, .val true), (3, .val false), (4, .val false)])], [], [], []⟩
-- 111 cmp.isNaN[int]
noncomputable def fn111 : FnT := ⟨(Try.f111.body.getD .skip), 6, Try.f111.results.toList, [(.int .i64, .ln)], [(.bool, ⟨false, false, false, false, false⟩)], [], [], [], []⟩
-- 112 spec.OrdValid
noncomputable def fn112 : FnT := ⟨(Try.f112.body.getD .skip), 13, Try.f112.results.toList, [(.sl (.int .i64), .ln)], [(.bool, ⟨false, false, false, false, false⟩)], [], [], [], []⟩
-- 113 spec.l5Add
noncomputable def fn113 : FnT := ⟨(Try.f113.body.getD .skip), 95, Try.f113.results.toList, [(.sl (.int .i64), .ln), (.sl (.int .i64), .ln)], [(.sl (.int .i64), ⟨true, false, false, false, false⟩)], [(7, [(5, .val false), (6, .val true), (8, .val true), (9, .own false), (10, .own true), (11, .val false), (12, .val false)]), (1000011, [(5, .val false), (6, .val true), (8, .val true), (9, .own false), (10, .own true), (12, .val false), (13, .val false)]), (1000014, [(5, .val false), (6, .val true), (8, .val true), (9, .own false), (10, .own true), (11, .val false), (12, .val false), (13, .val false)])], [24, 25, 48, 54, 61, 68, 85, 91, 94], [], []⟩
-- 114 slices.Delete[impl.hydra,impl.hydra]
noncomputable def fn114 : FnT := ⟨(Try.f114.body.getD .skip), 33, Try.f114.results.toList, [(.sl (.ap 1), .mv), (.int .i64, .ln), (.int .i64, .ln)], [(.sl (.ap 1), ⟨true, true, false, false, false⟩)], [], [26], [], []⟩
-- 115 slices.Clone[impl.hydra,impl.hydra]
noncomputable def fn115 : FnT := ⟨(Try.f115.body.getD .skip), 8, Try.f115.results.toList, [(.sl (.ap 1), .ln)], [(.sl (.ap 1), ⟨true, true, false, false, false⟩)], [], [5, 7], [], []⟩
-- 116 (impl.hydra).row
noncomputable def fn116 : FnT := ⟨(Try.f116.body.getD .skip), 21, Try.f116.results.toList, [(.sl (.ap 1), .ln)], [(.sl (.int .i64), ⟨true, false, false, false, false⟩)], [(3, [(3, .own false), (9, .val true), (10, .val false), (11, .val false)])], [8, 18], [], []⟩
-- 117 spec.l1End
noncomputable def fn117 : FnT := ⟨(Try.f117.body.getD .skip), 72, Try.f117.results.toList, [(.sl (.int .i64), .ln), (.int .i64, .ln)], [(.int .i64, ⟨false, false, false, false, false⟩)], [(7, [(0, .val true), (1, .val false), (5, .val false), (6, .val true), (7, .val false)])], [], [], []⟩
-- 118 spec.l1Terms
noncomputable def fn118 : FnT := ⟨(Try.f118.body.getD .skip), 36, Try.f118.results.toList, [(.sl (.int .i64), .ln)], [(.sl (.int .i64), ⟨true, false, false, false, false⟩), (.sl (.sl (.int .i64)), ⟨true, true, false, false, false⟩)], [(4, [(0, .val true), (4, .own false), (5, .own true), (6, .val false)])], [8, 9, 24, 32], [], []⟩
-- 119 spec.l1Compare
noncomputable def fn119 : FnT := ⟨(Try.f119.body.getD .skip), 75, Try.f119.results.toList, [(.sl (.int .i64), .ln), (.sl (.int .i64), .ln)], [(.int .i64, ⟨false, false, false, false, false⟩)], [(4, [(5, .val false), (6, .val true), (7, .val false), (8, .val true), (9, .val false)])], [], [], []⟩
-- 120 spec.l1Make
noncomputable def fn120 : FnT := ⟨(Try.f120.body.getD .skip), 29, Try.f120.results.toList, [(.sl (.int .i64), .ln), (.sl (.sl (.int .i64)), .ln)], [(.sl (.int .i64), ⟨true, false, false, false, false⟩)], [(3, [(0, .val true), (1, .val true), (5, .own false), (6, .val false)])], [9, 22, 27], [], []⟩
-- 121 spec.l1Span
noncomputable def fn121 : FnT := ⟨(Try.f121.body.getD .skip), 23, Try.f121.results.toList, [(.sl (.int .i64), .ln), (.int .i64, .ln)], [(.int .i64, ⟨false, false, false, false, false⟩)], [(4, [(0, .val true), (1, .val false), (5, .val false), (6, .val false)])], [], [], []⟩
def tyOf : Nat → Option Ty
  | 3 => some (.int .i64)
  | 4 => some (.bool)
  | 22 => some (.sl (.int .i64))
  | 24 => some (.ap 4)
  | 39 => some (.ap 4)
  | 68 => some (.sl (.sl (.int .i64)))
  | 87 => some (.sl (.ap 1))
  | 92 => some (.sl (.ap 0))
  | 112 => some (.ap 0)
  | _ => none
noncomputable def tab : Tab := ⟨tyOf, fun
  | 7 => some fn7
  | 13 => some fn13
  | 16 => some fn16
  | 18 => some fn18
  | 19 => some fn19
  | 20 => some fn20
  | 21 => some fn21
  | 25 => some fn25
  | 28 => some fn28
  | 30 => some fn30
  | 31 => some fn31
  | 32 => some fn32
  | 34 => some fn34
  | 35 => some fn35
  | 41 => some fn41
  | 50 => some fn50
  | 51 => some fn51
  | 52 => some fn52
  | 53 => some fn53
  | 54 => some fn54
  | 57 => some fn57
  | 58 => some fn58
  | 59 => some fn59
  | 60 => some fn60
  | 64 => some fn64
  | 66 => some fn66
  | 67 => some fn67
  | 68 => some fn68
  | 69 => some fn69
  | 70 => some fn70
  | 72 => some fn72
  | 73 => some fn73
  | 77 => some fn77
  | 78 => some fn78
  | 80 => some fn80
  | 81 => some fn81
  | 82 => some fn82
  | 84 => some fn84
  | 88 => some fn88
  | 89 => some fn89
  | 91 => some fn91
  | 93 => some fn93
  | 94 => some fn94
  | 95 => some fn95
  | 96 => some fn96
  | 97 => some fn97
  | 98 => some fn98
  | 99 => some fn99
  | 100 => some fn100
  | 102 => some fn102
  | 103 => some fn103
  | 104 => some fn104
  | 105 => some fn105
  | 106 => some fn106
  | 107 => some fn107
  | 108 => some fn108
  | 109 => some fn109
  | 110 => some fn110
  | 111 => some fn111
  | 112 => some fn112
  | 113 => some fn113
  | 114 => some fn114
  | 115 => some fn115
  | 116 => some fn116
  | 117 => some fn117
  | 118 => some fn118
  | 119 => some fn119
  | 120 => some fn120
  | 121 => some fn121
  | _ => none⟩
noncomputable def ext : Ext tab := fun
  | 59 => some (onRow tab 59 (.int .i64) cloned)
  | 115 => some (onRow tab 115 (.ap 1) cloned)
  | 53 => some (onMark tab 53 (.sl (.int .i64)) markL okL (fun a b => (a, b)))
  | _ => none
noncomputable def laws_FnExactBattleLeft.f (k : Nat) (a0 : Battle) : Option Bool := runF tab ext k 7 [⟨.ap 4, a0⟩]
noncomputable def laws_FnExactBattleFall.f (k : Nat) (a0 : Battle) : Option Bool := runF tab ext k 13 [⟨.ap 4, a0⟩]
noncomputable def laws_toIntS.f (k : Nat) (a0 : List Int) : Option (List Int) := runF tab ext k 16 [⟨.sl (.int .i64), a0⟩]
noncomputable def laws_toIntS.l0 (k : Nat) (x0 : List Int) (x3 : List Int) (x4 : Int) : Option (List Int) := runL tab ext k 16 (todoAt tab 16 3) (stAt tab 16 [(0, mkVal true (.sl (.int .i64)) x0), (3, .ref 15), (4, mkVal false (.int .i64) x4)] [(15, .sl false false (.int .i64) x3)])
noncomputable def laws_eqBattle.f (k : Nat) (a0 : Battle) (a1 : Battle) : Option Bool := runF tab ext k 18 [⟨.ap 4, a0⟩, ⟨.ap 4, a1⟩]
noncomputable def laws_eqIntS.f (k : Nat) (a0 : List Int) (a1 : List Int) : Option Bool := runF tab ext k 19 [⟨.sl (.int .i64), a0⟩, ⟨.sl (.int .i64), a1⟩]
noncomputable def laws_eqIntS.l0 (k : Nat) (x0 : List Int) (x1 : List Int) (x5 : Int) : Option Bool := runL tab ext k 19 (todoAt tab 19 4) (stAt tab 19 [(0, mkVal true (.sl (.int .i64)) x0), (1, mkVal true (.sl (.int .i64)) x1), (5, mkVal false (.int .i64) x5)] [])
noncomputable def laws_markIntS.f (k : Nat) (a0 : List Int) (a1 : Int) : Option (Int × List Int) := runF tab ext k 20 [⟨.sl (.int .i64), a0⟩, ⟨.int .i64, a1⟩]
noncomputable def laws_markIntS.l0 (k : Nat) (x0 : List Int) (x1 : Int) (x5 : Int) : Option (Int × List Int) := runL tab ext k 20 (todoAt tab 20 2) (stAt tab 20 [(0, .ref 76), (1, mkVal false (.int .i64) x1), (5, mkVal false (.int .i64) x5)] [(76, .io false (.int .i64) x0)])
noncomputable def laws_markBattle.f (k : Nat) (a0 : List Int) (a1 : Int) (a2 : List Int) (a3 : List Int) (a4 : Int) : Option (Int × List Int × List Int × List Int) := runF tab ext k 21 [⟨.sl (.int .i64), a0⟩, ⟨.int .i64, a1⟩, ⟨.sl (.int .i64), a2⟩, ⟨.sl (.int .i64), a3⟩, ⟨.int .i64, a4⟩]
noncomputable def spec_HydraValid.f (k : Nat) (a0 : List Int) : Option Bool := runF tab ext k 25 [⟨.sl (.int .i64), a0⟩]
noncomputable def impl_BattleValid.f (k : Nat) (a0 : Battle) : Option Bool := runF tab ext k 28 [⟨.ap 4, a0⟩]
noncomputable def laws_szBattle.f (k : Nat) (a0 : Battle) (a1 : Int) : Option Int := runF tab ext k 30 [⟨.ap 4, a0⟩, ⟨.int .i64, a1⟩]
noncomputable def spec_BattleValid.f (k : Nat) (a0 : Battle) : Option Bool := runF tab ext k 31 [⟨.ap 4, a0⟩]
noncomputable def laws_toBattle.f (k : Nat) (a0 : Battle) : Option (List Int × Int × List Int × List Int) := runF tab ext k 32 [⟨.ap 4, a0⟩]
noncomputable def spec_BattleLeft.f (k : Nat) (a0 : Battle) : Option Int := runF tab ext k 34 [⟨.ap 4, a0⟩]
noncomputable def impl_BattleLeft.f (k : Nat) (a0 : Battle) : Option Int := runF tab ext k 35 [⟨.ap 4, a0⟩]
noncomputable def impl_HydraOrd.f (k : Nat) (a0 : List Int) : Option (List Int × Bool) := runF tab ext k 41 [⟨.sl (.int .i64), a0⟩]
noncomputable def spec_BattleFall.f (k : Nat) (a0 : Battle) : Option (List (List Int) × Bool) := runF tab ext k 50 [⟨.ap 4, a0⟩]
noncomputable def spec_BattleFall.l0 (k : Nat) (x1 : Battle) (x4 : List (List Int)) (x5 : Int) : Option (List (List Int) × Bool) := runL tab ext k 50 (todoAt tab 50 5) (stAt tab 50 [(1, .ptr 4 []), (4, .ref 19), (5, mkVal false (.int .i64) x5)] [(4, .box true (.ap 4) x1), (19, .sl false false (.sl (.int .i64)) x4)])
noncomputable def impl_BattleFall.f (k : Nat) (a0 : Battle) : Option (List (List Int) × Bool) := runF tab ext k 51 [⟨.ap 4, a0⟩]
noncomputable def impl_BattleFall.l0 (k : Nat) (x1 : Battle) (x4 : List (List Int)) (x5 : List Int) (x6 : Int) : Option (List (List Int) × Bool) := runL tab ext k 51 (todoAt tab 51 7) (stAt tab 51 [(1, .ptr 4 []), (4, .ref 19), (5, mkVal true (.sl (.int .i64)) x5), (6, mkVal false (.int .i64) x6)] [(4, .box true (.ap 4) x1), (19, .dp (.sl (.int .i64)) x4)])
noncomputable def laws_eqIntSS.f (k : Nat) (a0 : List (List Int)) (a1 : List (List Int)) : Option Bool := runF tab ext k 52 [⟨.sl (.sl (.int .i64)), a0⟩, ⟨.sl (.sl (.int .i64)), a1⟩]
noncomputable def laws_eqIntSS.l0 (k : Nat) (x0 : List (List Int)) (x1 : List (List Int)) (x5 : Int) : Option Bool := runL tab ext k 52 (todoAt tab 52 4) (stAt tab 52 [(0, mkVal true (.sl (.sl (.int .i64))) x0), (1, mkVal true (.sl (.sl (.int .i64))) x1), (5, mkVal false (.int .i64) x5)] [])
noncomputable def laws_markIntSS.f (k : Nat) (a0 : List (List Int)) (a1 : Int) : Option (Int × List (List Int)) := runF tab ext k 53 [⟨.sl (.sl (.int .i64)), a0⟩, ⟨.int .i64, a1⟩]
noncomputable def laws_heldIntSS.f (k : Nat) (a0 : List (List Int)) (a1 : Int) : Option Int := runF tab ext k 54 [⟨.sl (.sl (.int .i64)), a0⟩, ⟨.int .i64, a1⟩]
noncomputable def laws_heldIntSS.l0 (k : Nat) (x0 : List (List Int)) (x1 : Int) (x5 : Int) : Option Int := runL tab ext k 54 (todoAt tab 54 2) (stAt tab 54 [(0, mkVal true (.sl (.sl (.int .i64))) x0), (1, mkVal false (.int .i64) x1), (5, mkVal false (.int .i64) x5)] [])
noncomputable def spec_l1In.f (k : Nat) (a0 : Int) (a1 : Int) (a2 : Int) : Option Bool := runF tab ext k 57 [⟨.int .i64, a0⟩, ⟨.int .i64, a1⟩, ⟨.int .i64, a2⟩]
noncomputable def impl_HydraValid.f (k : Nat) (a0 : List Int) : Option Bool := runF tab ext k 58 [⟨.sl (.int .i64), a0⟩]
noncomputable def slices_Clone_int_int.f (k : Nat) (a0 : List Int) : Option (List Int) := runF tab ext k 59 [⟨.sl (.int .i64), a0⟩]
noncomputable def laws_heldIntS.f (k : Nat) (a0 : List Int) (a1 : Int) : Option Int := runF tab ext k 60 [⟨.sl (.int .i64), a0⟩, ⟨.int .i64, a1⟩]
noncomputable def laws_heldIntS.l0 (k : Nat) (x0 : List Int) (x1 : Int) (x5 : Int) : Option Int := runL tab ext k 60 (todoAt tab 60 2) (stAt tab 60 [(0, mkVal true (.sl (.int .i64)) x0), (1, mkVal false (.int .i64) x1), (5, mkVal false (.int .i64) x5)] [])
noncomputable def spec_l5End.f (k : Nat) (a0 : List Int) (a1 : Int) : Option Int := runF tab ext k 64 [⟨.sl (.int .i64), a0⟩, ⟨.int .i64, a1⟩]
noncomputable def spec_l5End.l0 (k : Nat) (x0 : List Int) (x1 : Int) (x5 : Int) (x6 : Int) : Option Int := runL tab ext k 64 (todoAt tab 64 6) (stAt tab 64 [(0, mkVal true (.sl (.int .i64)) x0), (1, mkVal false (.int .i64) x1), (5, mkVal false (.int .i64) x5), (6, mkVal false (.int .i64) x6)] [])
noncomputable def impl_HydraRun.f (k : Nat) (a0 : List Int) (a1 : List Int) (a2 : Int) : Option (List Int × Bool) := runF tab ext k 66 [⟨.sl (.int .i64), a0⟩, ⟨.sl (.int .i64), a1⟩, ⟨.int .i64, a2⟩]
noncomputable def impl_HydraRun.l0 (k : Nat) (x2 : Int) (x8 : List Int) (x31 : List Int) (x32 : Int) (x33 : Int) : Option (List Int × Bool) := runL tab ext k 66 (todoAt tab 66 5) (stAt tab 66 [(2, mkVal false (.int .i64) x2), (8, .ref 35), (31, mkVal true (.sl (.int .i64)) x31), (32, mkVal false (.int .i64) x32), (33, mkVal false (.int .i64) x33)] [(35, .sl false false (.int .i64) x8)])
noncomputable def slices_Equal_int_int.f (k : Nat) (a0 : List Int) (a1 : List Int) : Option Bool := runF tab ext k 67 [⟨.sl (.int .i64), a0⟩, ⟨.sl (.int .i64), a1⟩]
noncomputable def slices_Equal_int_int.l0 (k : Nat) (x0 : List Int) (x1 : List Int) (x12 : Int) (x13 : Int) : Option Bool := runL tab ext k 67 (todoAt tab 67 4) (stAt tab 67 [(0, mkVal true (.sl (.int .i64)) x0), (1, mkVal true (.sl (.int .i64)) x1), (12, mkVal false (.int .i64) x12), (13, mkVal false (.int .i64) x13)] [])
noncomputable def laws_szIntS.f (k : Nat) (a0 : List Int) (a1 : Int) : Option Int := runF tab ext k 68 [⟨.sl (.int .i64), a0⟩, ⟨.int .i64, a1⟩]
noncomputable def spec_HydraRun.f (k : Nat) (a0 : List Int) (a1 : List Int) (a2 : Int) : Option (List Int × Bool) := runF tab ext k 69 [⟨.sl (.int .i64), a0⟩, ⟨.sl (.int .i64), a1⟩, ⟨.int .i64, a2⟩]
noncomputable def spec_HydraRun.l0 (k : Nat) (x1 : List Int) (x2 : Int) (x8 : List Int) (x9 : Int) : Option (List Int × Bool) := runL tab ext k 69 (todoAt tab 69 5) (stAt tab 69 [(1, mkVal true (.sl (.int .i64)) x1), (2, mkVal false (.int .i64) x2), (8, .ref 35), (9, mkVal false (.int .i64) x9)] [(35, .sl false false (.int .i64) x8)])
noncomputable def spec_l1Same.f (k : Nat) (a0 : List Int) (a1 : List Int) : Option Bool := runF tab ext k 70 [⟨.sl (.int .i64), a0⟩, ⟨.sl (.int .i64), a1⟩]
noncomputable def spec_l1Same.l0 (k : Nat) (x0 : List Int) (x1 : List Int) (x5 : Int) : Option Bool := runL tab ext k 70 (todoAt tab 70 2) (stAt tab 70 [(0, mkVal true (.sl (.int .i64)) x0), (1, mkVal true (.sl (.int .i64)) x1), (5, mkVal false (.int .i64) x5)] [])
noncomputable def spec_HydraFight.f (k : Nat) (a0 : List Int) (a1 : Int) : Option Int := runF tab ext k 72 [⟨.sl (.int .i64), a0⟩, ⟨.int .i64, a1⟩]
noncomputable def spec_HydraFight.l0 (k : Nat) (x0 : List Int) (x1 : Int) (x5 : Int) : Option Int := runL tab ext k 72 (todoAt tab 72 4) (stAt tab 72 [(0, mkVal true (.sl (.int .i64)) x0), (1, mkVal false (.int .i64) x1), (5, mkVal false (.int .i64) x5)] [])
noncomputable def impl_HydraFight.f (k : Nat) (a0 : List Int) (a1 : Int) : Option Int := runF tab ext k 73 [⟨.sl (.int .i64), a0⟩, ⟨.int .i64, a1⟩]
noncomputable def impl_HydraFight.l0 (k : Nat) (x0 : List Int) (x1 : Int) (x5 : Int) : Option Int := runL tab ext k 73 (todoAt tab 73 4) (stAt tab 73 [(0, mkVal true (.sl (.int .i64)) x0), (1, mkVal false (.int .i64) x1), (5, mkVal false (.int .i64) x5)] [])
noncomputable def spec_HydraHeads.f (k : Nat) (a0 : List Int) : Option Int := runF tab ext k 77 [⟨.sl (.int .i64), a0⟩]
noncomputable def spec_HydraHeads.l0 (k : Nat) (x0 : List Int) (x3 : Int) (x4 : Int) : Option Int := runL tab ext k 77 (todoAt tab 77 5) (stAt tab 77 [(0, mkVal true (.sl (.int .i64)) x0), (3, mkVal false (.int .i64) x3), (4, mkVal false (.int .i64) x4)] [])
noncomputable def spec_HydraCut.f (k : Nat) (a0 : List Int) (a1 : Int) (a2 : Int) : Option (List Int × Bool) := runF tab ext k 78 [⟨.sl (.int .i64), a0⟩, ⟨.int .i64, a1⟩, ⟨.int .i64, a2⟩]
noncomputable def impl_hydraOf.f (k : Nat) (a0 : List Int) : Option (List Hydra × Bool) := runF tab ext k 80 [⟨.sl (.int .i64), a0⟩]
noncomputable def impl_told.f (k : Nat) (a0 : List Term) : Option (List Int × Bool) := runF tab ext k 81 [⟨.sl (.ap 0), a0⟩]
noncomputable def impl_hydra__ord.f (k : Nat) (a0 : List Hydra) : Option (List Term) := runF tab ext k 82 [⟨.sl (.ap 1), a0⟩]
noncomputable def impl_hydra__ord.l0 (k : Nat) (x3 : List Term) (x7 : List Hydra) (x8 : Int) (x9 : Int) : Option (List Term) := runL tab ext k 82 (todoAt tab 82 3) (stAt tab 82 [(3, mkVal false (.sl (.ap 0)) x3), (7, mkVal true (.sl (.ap 1)) x7), (8, mkVal false (.int .i64) x8), (9, mkVal false (.int .i64) x9)] [])
noncomputable def impl_compare.f (k : Nat) (a0 : List Term) (a1 : List Term) : Option Int := runF tab ext k 84 [⟨.sl (.ap 0), a0⟩, ⟨.sl (.ap 0), a1⟩]
noncomputable def impl_compare.l0 (k : Nat) (x0 : List Term) (x1 : List Term) (x5 : Int) : Option Int := runL tab ext k 84 (todoAt tab 84 2) (stAt tab 84 [(0, mkVal true (.sl (.ap 0)) x0), (1, mkVal true (.sl (.ap 0)) x1), (5, mkVal false (.int .i64) x5)] [])
noncomputable def spec_HydraOrd.f (k : Nat) (a0 : List Int) : Option (List Int × Bool) := runF tab ext k 88 [⟨.sl (.int .i64), a0⟩]
noncomputable def impl_HydraCut.f (k : Nat) (a0 : List Int) (a1 : Int) (a2 : Int) : Option (List Int × Bool) := runF tab ext k 89 [⟨.sl (.int .i64), a0⟩, ⟨.int .i64, a1⟩, ⟨.int .i64, a2⟩]
noncomputable def impl_rowOf.f (k : Nat) (a0 : List Term) : Option (List Int) := runF tab ext k 91 [⟨.sl (.ap 0), a0⟩]
noncomputable def impl_rowOf.l0 (k : Nat) (x3 : List Int) (x9 : List Term) (x10 : Int) (x11 : Int) : Option (List Int) := runL tab ext k 91 (todoAt tab 91 3) (stAt tab 91 [(3, .ref 15), (9, mkVal true (.sl (.ap 0)) x9), (10, mkVal false (.int .i64) x10), (11, mkVal false (.int .i64) x11)] [(15, .sl false false (.int .i64) x3)])
noncomputable def impl_HydraHeads.f (k : Nat) (a0 : List Int) : Option Int := runF tab ext k 93 [⟨.sl (.int .i64), a0⟩]
noncomputable def spec_l5Cut.f (k : Nat) (a0 : List Int) (a1 : Int) (a2 : Int) : Option (List Int × Bool) := runF tab ext k 94 [⟨.sl (.int .i64), a0⟩, ⟨.int .i64, a1⟩, ⟨.int .i64, a2⟩]
noncomputable def spec_l5Cut.l0 (k : Nat) (x1 : Int) (x2 : Int) (x8 : List (List Int)) (x9 : List (List Int)) (x10 : Bool) (x11 : Int) : Option (List Int × Bool) := runL tab ext k 94 (todoAt tab 94 5) (stAt tab 94 [(1, mkVal false (.int .i64) x1), (2, mkVal false (.int .i64) x2), (8, mkVal true (.sl (.sl (.int .i64))) x8), (9, .ref 39), (10, mkVal false (.bool) x10), (11, mkVal false (.int .i64) x11)] [(39, .sl true false (.sl (.int .i64)) x9)])
noncomputable def spec_l5Cut.j0 (k : Nat) (x1 : Int) (x2 : Int) (x8 : List (List Int)) (x9 : List (List Int)) (x10 : Bool) (x11 : Int) (x12 : Int) : Option (List Int × Bool) := runL tab ext k 94 (todoAt tab 94 1000009) (stAt tab 94 [(1, mkVal false (.int .i64) x1), (2, mkVal false (.int .i64) x2), (8, mkVal true (.sl (.sl (.int .i64))) x8), (9, .ref 39), (10, mkVal false (.bool) x10), (11, mkVal false (.int .i64) x11), (12, mkVal false (.int .i64) x12)] [(39, .sl true false (.sl (.int .i64)) x9)])
noncomputable def spec_l5Cut.l1 (k : Nat) (x2 : Int) (x8 : List (List Int)) (x9 : List (List Int)) (x10 : Bool) (x11 : Int) (x13 : List Int) (x14 : Bool) (x15 : Int) : Option (List Int × Bool) := runL tab ext k 94 (todoAt tab 94 17) (stAt tab 94 [(2, mkVal false (.int .i64) x2), (8, mkVal true (.sl (.sl (.int .i64))) x8), (9, .ref 39), (10, mkVal false (.bool) x10), (11, mkVal false (.int .i64) x11), (13, mkVal false (.sl (.int .i64)) x13), (14, mkVal false (.bool) x14), (15, mkVal false (.int .i64) x15)] [(39, .sl true false (.sl (.int .i64)) x9)])
noncomputable def impl_takeHydra.f (k : Nat) (a0 : List Int) : Option (List Hydra × List Int × Bool) := runF tab ext k 95 [⟨.sl (.int .i64), a0⟩]
noncomputable def impl_takeHydra.l0 (k : Nat) (x0 : List Int) (x6 : List Hydra) (x31 : Int) (x32 : Int) : Option (List Hydra × List Int × Bool) := runL tab ext k 95 (todoAt tab 95 7) (stAt tab 95 [(0, mkVal true (.sl (.int .i64)) x0), (6, .ref 27), (31, mkVal false (.int .i64) x31), (32, mkVal false (.int .i64) x32)] [(27, .sl false false (.ap 1) x6)])
noncomputable def impl_sizeOf.f (k : Nat) (a0 : List Term) : Option Int := runF tab ext k 96 [⟨.sl (.ap 0), a0⟩]
noncomputable def impl_sizeOf.l0 (k : Nat) (x3 : Int) (x6 : List Term) (x7 : Int) (x8 : Int) : Option Int := runL tab ext k 96 (todoAt tab 96 3) (stAt tab 96 [(3, mkVal false (.int .i64) x3), (6, mkVal true (.sl (.ap 0)) x6), (7, mkVal false (.int .i64) x7), (8, mkVal false (.int .i64) x8)] [])
noncomputable def impl_most.f (k : Nat) (a0 : List Term) : Option Int := runF tab ext k 97 [⟨.sl (.ap 0), a0⟩]
noncomputable def impl_most.l0 (k : Nat) (x3 : Int) (x6 : List Term) (x7 : Int) (x8 : Int) : Option Int := runL tab ext k 97 (todoAt tab 97 3) (stAt tab 97 [(3, mkVal false (.int .i64) x3), (6, mkVal true (.sl (.ap 0)) x6), (7, mkVal false (.int .i64) x7), (8, mkVal false (.int .i64) x8)] [])
noncomputable def slices_Clip_int_int.f (k : Nat) (a0 : List Int) : Option (List Int) := runF tab ext k 98 [⟨.sl (.int .i64), a0⟩]
noncomputable def impl_natural.f (k : Nat) (a0 : List Term) (a1 : List Term) : Option (List Term) := runF tab ext k 99 [⟨.sl (.ap 0), a0⟩, ⟨.sl (.ap 0), a1⟩]
noncomputable def impl_natural.l0 (k : Nat) (x0 : List Term) (x1 : List Term) (x5 : List Term) : Option (List Term) := runL tab ext k 99 (todoAt tab 99 2) (stAt tab 99 [(0, mkVal true (.sl (.ap 0)) x0), (1, mkVal true (.sl (.ap 0)) x1), (5, .ref 23)] [(23, .sl true false (.ap 0) x5)])
noncomputable def impl_power.f (k : Nat) (a0 : List Term) : Option (List Term) := runF tab ext k 100 [⟨.sl (.ap 0), a0⟩]
noncomputable def cmp_Compare_int.f (k : Nat) (a0 : Int) (a1 : Int) : Option Int := runF tab ext k 102 [⟨.int .i64, a0⟩, ⟨.int .i64, a1⟩]
noncomputable def spec_l2Fit.f (k : Nat) (a0 : List Int) : Option (List Int × Bool) := runF tab ext k 103 [⟨.sl (.int .i64), a0⟩]
noncomputable def spec_l5Ord.f (k : Nat) (a0 : List Int) : Option (List Int) := runF tab ext k 104 [⟨.sl (.int .i64), a0⟩]
noncomputable def spec_l5Ord.l0 (k : Nat) (x3 : List (List Int)) (x4 : List Int) (x5 : Int) : Option (List Int) := runL tab ext k 104 (todoAt tab 104 4) (stAt tab 104 [(3, mkVal true (.sl (.sl (.int .i64))) x3), (4, .ref 19), (5, mkVal false (.int .i64) x5)] [(19, .sl false false (.int .i64) x4)])
noncomputable def impl_hydra__heads.f (k : Nat) (a0 : List Hydra) : Option Int := runF tab ext k 105 [⟨.sl (.ap 1), a0⟩]
noncomputable def impl_hydra__heads.l0 (k : Nat) (x3 : Int) (x6 : List Hydra) (x7 : Int) (x8 : Int) : Option Int := runL tab ext k 105 (todoAt tab 105 3) (stAt tab 105 [(3, mkVal false (.int .i64) x3), (6, mkVal true (.sl (.ap 1)) x6), (7, mkVal false (.int .i64) x7), (8, mkVal false (.int .i64) x8)] [])
noncomputable def impl_hydra__heads.j0 (k : Nat) (x3 : Int) (x5 : List Hydra) (x6 : List Hydra) (x7 : Int) (x8 : Int) : Option Int := runL tab ext k 105 (todoAt tab 105 1000007) (stAt tab 105 [(3, mkVal false (.int .i64) x3), (5, mkVal true (.sl (.ap 1)) x5), (6, mkVal true (.sl (.ap 1)) x6), (7, mkVal false (.int .i64) x7), (8, mkVal false (.int .i64) x8)] [])
noncomputable def impl_hydra__cut.f (k : Nat) (a0 : List Hydra) (a1 : Int) (a2 : Int) (a3 : Bool) : Option (List Hydra × Bool × Int) := runF tab ext k 106 [⟨.sl (.ap 1), a0⟩, ⟨.int .i64, a1⟩, ⟨.int .i64, a2⟩, ⟨.bool, a3⟩]
noncomputable def impl_hydra__cut.l0 (k : Nat) (x0 : List Hydra) (x1 : Int) (x2 : Int) (x15 : List Hydra) (x16 : Int) (x17 : Int) : Option (List Hydra × Bool × Int) := runL tab ext k 106 (todoAt tab 106 2) (stAt tab 106 [(0, mkVal true (.sl (.ap 1)) x0), (1, .ptr 301 []), (2, mkVal false (.int .i64) x2), (15, mkVal true (.sl (.ap 1)) x15), (16, mkVal false (.int .i64) x16), (17, mkVal false (.int .i64) x17)] [(301, .box false (.int .i64) x1)])
noncomputable def impl_hydra__cut.j0 (k : Nat) (x0 : List Hydra) (x1 : Int) (x2 : Int) (x10 : Int) (x12 : List Hydra) (x14 : List Hydra) : Option (List Hydra × Bool × Int) := runL tab ext k 106 (todoAt tab 106 1000014) (stAt tab 106 [(0, mkVal true (.sl (.ap 1)) x0), (1, .ptr 301 []), (2, mkVal false (.int .i64) x2), (10, mkVal false (.int .i64) x10), (12, mkVal true (.sl (.ap 1)) x12), (14, .ref 59)] [(301, .box false (.int .i64) x1), (59, .sl true false (.ap 1) x14)])
noncomputable def impl_hydra__cut.l1 (k : Nat) (x0 : List Hydra) (x1 : Int) (x10 : Int) (x12 : List Hydra) (x14 : List Hydra) (x59 : Int) (x60 : Int) : Option (List Hydra × Bool × Int) := runL tab ext k 106 (todoAt tab 106 15) (stAt tab 106 [(0, mkVal true (.sl (.ap 1)) x0), (1, .ptr 301 []), (10, mkVal false (.int .i64) x10), (12, mkVal true (.sl (.ap 1)) x12), (14, .ref 59), (59, mkVal false (.int .i64) x59), (60, mkVal false (.int .i64) x60)] [(301, .box false (.int .i64) x1), (59, .sl true false (.ap 1) x14)])
noncomputable def impl_grown.f (k : Nat) (a0 : List Hydra) : Option (List Int × Bool) := runF tab ext k 107 [⟨.sl (.ap 1), a0⟩]
noncomputable def spec_l5Tree.f (k : Nat) (a0 : List (List Int)) : Option (List Int) := runF tab ext k 108 [⟨.sl (.sl (.int .i64)), a0⟩]
noncomputable def spec_l5Tree.l0 (k : Nat) (x0 : List (List Int)) (x3 : List Int) (x4 : Int) : Option (List Int) := runL tab ext k 108 (todoAt tab 108 3) (stAt tab 108 [(0, mkVal true (.sl (.sl (.int .i64))) x0), (3, .ref 15), (4, mkVal false (.int .i64) x4)] [(15, .sl false false (.int .i64) x3)])
noncomputable def spec_l5Branches.f (k : Nat) (a0 : List Int) : Option (List (List Int)) := runF tab ext k 109 [⟨.sl (.int .i64), a0⟩]
noncomputable def spec_l5Branches.l0 (k : Nat) (x0 : List Int) (x3 : List (List Int)) (x4 : Int) : Option (List (List Int)) := runL tab ext k 109 (todoAt tab 109 3) (stAt tab 109 [(0, mkVal true (.sl (.int .i64)) x0), (3, .ref 15), (4, mkVal false (.int .i64) x4)] [(15, .sl true false (.sl (.int .i64)) x3)])
noncomputable def spec_l5Heads.f (k : Nat) (a0 : List Int) : Option Int := runF tab ext k 110 [⟨.sl (.int .i64), a0⟩]
noncomputable def spec_l5Heads.l0 (k : Nat) (x0 : List Int) (x3 : Int) (x4 : Int) : Option Int := runL tab ext k 110 (todoAt tab 110 3) (stAt tab 110 [(0, mkVal true (.sl (.int .i64)) x0), (3, mkVal false (.int .i64) x3), (4, mkVal false (.int .i64) x4)] [])
noncomputable def cmp_isNaN_int.f (k : Nat) (a0 : Int) : Option Bool := runF tab ext k 111 [⟨.int .i64, a0⟩]
noncomputable def spec_OrdValid.f (k : Nat) (a0 : List Int) : Option Bool := runF tab ext k 112 [⟨.sl (.int .i64), a0⟩]
noncomputable def spec_l5Add.f (k : Nat) (a0 : List Int) (a1 : List Int) : Option (List Int) := runF tab ext k 113 [⟨.sl (.int .i64), a0⟩, ⟨.sl (.int .i64), a1⟩]
noncomputable def spec_l5Add.l0 (k : Nat) (x5 : List Int) (x6 : List (List Int)) (x8 : List (List Int)) (x9 : List Int) (x10 : List (List Int)) (x11 : Bool) (x12 : Int) : Option (List Int) := runL tab ext k 113 (todoAt tab 113 7) (stAt tab 113 [(5, mkVal false (.sl (.int .i64)) x5), (6, mkVal true (.sl (.sl (.int .i64))) x6), (8, mkVal true (.sl (.sl (.int .i64))) x8), (9, .ref 39), (10, .ref 43), (11, mkVal false (.bool) x11), (12, mkVal false (.int .i64) x12)] [(39, .sl false false (.int .i64) x9), (43, .sl true false (.sl (.int .i64)) x10)])
noncomputable def spec_l5Add.j0 (k : Nat) (x5 : List Int) (x6 : List (List Int)) (x8 : List (List Int)) (x9 : List Int) (x10 : List (List Int)) (x12 : Int) (x13 : Int) : Option (List Int) := runL tab ext k 113 (todoAt tab 113 1000011) (stAt tab 113 [(5, mkVal false (.sl (.int .i64)) x5), (6, mkVal true (.sl (.sl (.int .i64))) x6), (8, mkVal true (.sl (.sl (.int .i64))) x8), (9, .ref 39), (10, .ref 43), (12, mkVal false (.int .i64) x12), (13, mkVal false (.int .i64) x13)] [(39, .sl false false (.int .i64) x9), (43, .sl true false (.sl (.int .i64)) x10)])
noncomputable def spec_l5Add.j1 (k : Nat) (x5 : List Int) (x6 : List (List Int)) (x8 : List (List Int)) (x9 : List Int) (x10 : List (List Int)) (x11 : Bool) (x12 : Int) (x13 : Int) : Option (List Int) := runL tab ext k 113 (todoAt tab 113 1000014) (stAt tab 113 [(5, mkVal false (.sl (.int .i64)) x5), (6, mkVal true (.sl (.sl (.int .i64))) x6), (8, mkVal true (.sl (.sl (.int .i64))) x8), (9, .ref 39), (10, .ref 43), (11, mkVal false (.bool) x11), (12, mkVal false (.int .i64) x12), (13, mkVal false (.int .i64) x13)] [(39, .sl false false (.int .i64) x9), (43, .sl true false (.sl (.int .i64)) x10)])
noncomputable def slices_Delete_hydra_hydra.f (k : Nat) (a0 : List Hydra) (a1 : Int) (a2 : Int) : Option (List Hydra) := runF tab ext k 114 [⟨.sl (.ap 1), a0⟩, ⟨.int .i64, a1⟩, ⟨.int .i64, a2⟩]
noncomputable def slices_Clone_hydra_hydra.f (k : Nat) (a0 : List Hydra) : Option (List Hydra) := runF tab ext k 115 [⟨.sl (.ap 1), a0⟩]
noncomputable def impl_hydra__row.f (k : Nat) (a0 : List Hydra) : Option (List Int) := runF tab ext k 116 [⟨.sl (.ap 1), a0⟩]
noncomputable def impl_hydra__row.l0 (k : Nat) (x3 : List Int) (x9 : List Hydra) (x10 : Int) (x11 : Int) : Option (List Int) := runL tab ext k 116 (todoAt tab 116 3) (stAt tab 116 [(3, .ref 15), (9, mkVal true (.sl (.ap 1)) x9), (10, mkVal false (.int .i64) x10), (11, mkVal false (.int .i64) x11)] [(15, .sl false false (.int .i64) x3)])
noncomputable def spec_l1End.f (k : Nat) (a0 : List Int) (a1 : Int) : Option Int := runF tab ext k 117 [⟨.sl (.int .i64), a0⟩, ⟨.int .i64, a1⟩]
noncomputable def spec_l1End.l0 (k : Nat) (x0 : List Int) (x1 : Int) (x5 : Int) (x6 : List Int) (x7 : Int) : Option Int := runL tab ext k 117 (todoAt tab 117 7) (stAt tab 117 [(0, mkVal true (.sl (.int .i64)) x0), (1, mkVal false (.int .i64) x1), (5, mkVal false (.int .i64) x5), (6, mkVal true (.sl (.int .i64)) x6), (7, mkVal false (.int .i64) x7)] [])
noncomputable def spec_l1Terms.f (k : Nat) (a0 : List Int) : Option (List Int × List (List Int)) := runF tab ext k 118 [⟨.sl (.int .i64), a0⟩]
noncomputable def spec_l1Terms.l0 (k : Nat) (x0 : List Int) (x4 : List Int) (x5 : List (List Int)) (x6 : Int) : Option (List Int × List (List Int)) := runL tab ext k 118 (todoAt tab 118 4) (stAt tab 118 [(0, mkVal true (.sl (.int .i64)) x0), (4, .ref 19), (5, .ref 23), (6, mkVal false (.int .i64) x6)] [(19, .sl false false (.int .i64) x4), (23, .sl true false (.sl (.int .i64)) x5)])
noncomputable def spec_l1Compare.f (k : Nat) (a0 : List Int) (a1 : List Int) : Option Int := runF tab ext k 119 [⟨.sl (.int .i64), a0⟩, ⟨.sl (.int .i64), a1⟩]
noncomputable def spec_l1Compare.l0 (k : Nat) (x5 : List Int) (x6 : List (List Int)) (x7 : List Int) (x8 : List (List Int)) (x9 : Int) : Option Int := runL tab ext k 119 (todoAt tab 119 4) (stAt tab 119 [(5, mkVal false (.sl (.int .i64)) x5), (6, mkVal true (.sl (.sl (.int .i64))) x6), (7, mkVal false (.sl (.int .i64)) x7), (8, mkVal true (.sl (.sl (.int .i64))) x8), (9, mkVal false (.int .i64) x9)] [])
noncomputable def spec_l1Make.f (k : Nat) (a0 : List Int) (a1 : List (List Int)) : Option (List Int) := runF tab ext k 120 [⟨.sl (.int .i64), a0⟩, ⟨.sl (.sl (.int .i64)), a1⟩]
noncomputable def spec_l1Make.l0 (k : Nat) (x0 : List Int) (x1 : List (List Int)) (x5 : List Int) (x6 : Int) : Option (List Int) := runL tab ext k 120 (todoAt tab 120 3) (stAt tab 120 [(0, mkVal true (.sl (.int .i64)) x0), (1, mkVal true (.sl (.sl (.int .i64))) x1), (5, .ref 23), (6, mkVal false (.int .i64) x6)] [(23, .sl false false (.int .i64) x5)])
noncomputable def spec_l1Span.f (k : Nat) (a0 : List Int) (a1 : Int) : Option Int := runF tab ext k 121 [⟨.sl (.int .i64), a0⟩, ⟨.int .i64, a1⟩]
noncomputable def spec_l1Span.l0 (k : Nat) (x0 : List Int) (x1 : Int) (x5 : Int) (x6 : Int) : Option Int := runL tab ext k 121 (todoAt tab 121 4) (stAt tab 121 [(0, mkVal true (.sl (.int .i64)) x0), (1, mkVal false (.int .i64) x1), (5, mkVal false (.int .i64) x5), (6, mkVal false (.int .i64) x6)] [])
end Go.Proofs.Ytigeaijocajnhaa.Eng
