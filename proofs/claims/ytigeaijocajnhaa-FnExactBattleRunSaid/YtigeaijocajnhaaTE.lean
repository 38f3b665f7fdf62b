import Derived.Test.YtigeaijocajnhaaE2
import Derived.Test.YtigeaijocajnhaaProg
namespace Go.Proofs.Ytigeaijocajnhaa.Eng
open Go
-- 3 laws.FnExactBattleNew
noncomputable def fn3 : FnT := ⟨(Try.f3.body.getD .skip), 71, Try.f3.results.toList, [(.sl (.int .i64), .ln), (.int .i64, .ln)], [(.bool, ⟨false, false, false, false⟩)], [], [5, 7, 11, 20, 23, 58], [], []⟩
-- 7 laws.FnExactBattleLeft
noncomputable def fn7 : FnT := ⟨(Try.f7.body.getD .skip), 27, Try.f7.results.toList, [(.ap 4, .ln)], [(.bool, ⟨false, false, false, false⟩)], [], [], [], []⟩
-- 9 laws.FnExactBattleDo
noncomputable def fn9 : FnT := ⟨(Try.f9.body.getD .skip), 104, Try.f9.results.toList, [(.ap 4, .ln), (.ap 3, .ln)], [(.bool, ⟨false, false, false, false⟩)], [], [6, 8, 9, 14, 23, 30, 35, 49, 81, 84], [], []⟩
-- 11 laws.FnExactBattleRun
noncomputable def fn11 : FnT := ⟨(Try.f11.body.getD .skip), 119, Try.f11.results.toList, [(.ap 4, .ln), (.sl (.ap 3), .ln)], [(.bool, ⟨false, false, false, false⟩)], [], [6, 8, 10, 15, 29, 36, 38, 42, 56, 96, 99], [], []⟩
-- 15 spec.BattleNew
noncomputable def fn15 : FnT := ⟨(Try.f15.body.getD .skip), 23, Try.f15.results.toList, [(.sl (.int .i64), .ln), (.int .i64, .ln)], [(.ap 4, ⟨false, false, false, false⟩)], [], [14, 19], [], []⟩
-- 16 laws.toIntS
noncomputable def fn16 : FnT := ⟨(Try.f16.body.getD .skip), 22, Try.f16.results.toList, [(.sl (.int .i64), .ln)], [(.sl (.int .i64), ⟨true, false, false, false⟩)], [(3, [(0, .val true), (3, .own false), (4, .val false)])], [7], [], []⟩
-- 17 impl.BattleNew
noncomputable def fn17 : FnT := ⟨(Try.f17.body.getD .skip), 23, Try.f17.results.toList, [(.sl (.int .i64), .ln), (.int .i64, .ln)], [(.sl (.int .i64), ⟨true, false, false, false⟩), (.int .i64, ⟨false, false, false, false⟩), (.sl (.int .i64), ⟨true, false, false, false⟩), (.sl (.int .i64), ⟨true, false, false, false⟩)], [], [4, 16, 18, 21, 22], [some (.ap 4)], []⟩
-- 18 laws.eqBattle
noncomputable def fn18 : FnT := ⟨(Try.f18.body.getD .skip), 28, Try.f18.results.toList, [(.ap 4, .ln), (.ap 4, .ln)], [(.bool, ⟨false, false, false, false⟩)], [], [], [], []⟩
-- 19 laws.eqIntS
noncomputable def fn19 : FnT := ⟨(Try.f19.body.getD .skip), 26, Try.f19.results.toList, [(.sl (.int .i64), .ln), (.sl (.int .i64), .ln)], [(.bool, ⟨false, false, false, false⟩)], [(4, [(0, .val true), (1, .val true), (5, .val false)])], [], [], []⟩
-- 20 laws.markIntS
noncomputable def fn20 : FnT := ⟨(Try.f20.body.getD .skip), 19, Try.f20.results.toList, [(.sl (.int .i64), .io), (.int .i64, .ln)], [(.int .i64, ⟨false, false, false, false⟩)], [(2, [(0, .ptr), (1, .val false), (5, .val false)])], [], [], []⟩
-- 21 laws.markBattle
noncomputable def fn21 : FnT := ⟨(Try.f21.body.getD .skip), 18, Try.f21.results.toList, [(.sl (.int .i64), .io), (.int .i64, .ln), (.sl (.int .i64), .io), (.sl (.int .i64), .io), (.int .i64, .ln)], [(.int .i64, ⟨false, false, false, false⟩)], [], [2], [], [some (.ap 4), none]⟩
-- 22 laws.heldBattle
noncomputable def fn22 : FnT := ⟨(Try.f22.body.getD .skip), 24, Try.f22.results.toList, [(.ap 4, .ln), (.int .i64, .ln)], [(.int .i64, ⟨false, false, false, false⟩)], [], [], [], []⟩
-- 25 spec.HydraValid
noncomputable def fn25 : FnT := ⟨(Try.f25.body.getD .skip), 13, Try.f25.results.toList, [(.sl (.int .i64), .ln)], [(.bool, ⟨false, false, false, false⟩)], [], [], [], []⟩
-- 28 impl.BattleValid
noncomputable def fn28 : FnT := ⟨(Try.f28.body.getD .skip), 22, Try.f28.results.toList, [(.ap 4, .ln)], [(.bool, ⟨false, false, false, false⟩)], [], [], [], []⟩
-- 30 laws.szBattle
noncomputable def fn30 : FnT := ⟨(Try.f30.body.getD .skip), 24, Try.f30.results.toList, [(.ap 4, .ln), (.int .i64, .ln)], [(.int .i64, ⟨false, false, false, false⟩)], [], [], [], []⟩
-- 31 spec.BattleValid
noncomputable def fn31 : FnT := ⟨(Try.f31.body.getD .skip), 22, Try.f31.results.toList, [(.ap 4, .ln)], [(.bool, ⟨false, false, false, false⟩)], [], [], [], []⟩
-- 32 laws.toBattle
noncomputable def fn32 : FnT := ⟨(Try.f32.body.getD .skip), 20, Try.f32.results.toList, [(.ap 4, .ln)], [(.sl (.int .i64), ⟨true, false, false, false⟩), (.int .i64, ⟨false, false, false, false⟩), (.sl (.int .i64), ⟨true, false, false, false⟩), (.sl (.int .i64), ⟨true, false, false, false⟩)], [], [2, 3, 6, 13, 17], [some (.ap 4)], []⟩
-- 34 spec.BattleLeft
noncomputable def fn34 : FnT := ⟨(Try.f34.body.getD .skip), 11, Try.f34.results.toList, [(.ap 4, .ln)], [(.int .i64, ⟨false, false, false, false⟩)], [], [], [], []⟩
-- 35 impl.BattleLeft
noncomputable def fn35 : FnT := ⟨(Try.f35.body.getD .skip), 11, Try.f35.results.toList, [(.ap 4, .ln)], [(.int .i64, ⟨false, false, false, false⟩)], [], [], [], []⟩
-- 37 impl.BattleDo
noncomputable def fn37 : FnT := ⟨(Try.f37.body.getD .skip), 22, Try.f37.results.toList, [(.ap 4, .ln), (.ap 3, .ln)], [(.sl (.int .i64), ⟨true, false, false, false⟩), (.int .i64, ⟨false, false, false, false⟩), (.sl (.int .i64), ⟨true, false, false, false⟩), (.sl (.int .i64), ⟨true, false, false, false⟩), (.bool, ⟨false, false, false, false⟩)], [], [4, 11, 20], [some (.ap 4), none], []⟩
-- 38 spec.BattleDo
noncomputable def fn38 : FnT := ⟨(Try.f38.body.getD .skip), 108, Try.f38.results.toList, [(.ap 4, .ln), (.ap 3, .ln)], [(.ap 4, ⟨false, false, false, false⟩), (.bool, ⟨false, false, false, false⟩)], [(13, [(2, .ptr), (3, .ptr), (4, .ptr), (6, .ptr), (7, .own false), (8, .val true), (9, .val false)]), (1000009, [(2, .ptr), (3, .ptr), (4, .ptr), (7, .own false)]), (1000010, [(2, .ptr), (3, .ptr), (4, .ptr), (6, .ptr), (7, .own false)]), (1000021, [(2, .ptr), (4, .ptr), (6, .ptr), (7, .own false)])], [23, 26, 36, 91], [], []⟩
-- 39 laws.toAct
noncomputable def fn39 : FnT := ⟨(Try.f39.body.getD .skip), 11, Try.f39.results.toList, [(.ap 3, .ln)], [(.ap 3, ⟨false, false, false, false⟩)], [], [], [], []⟩
-- 43 laws.szActS
noncomputable def fn43 : FnT := ⟨(Try.f43.body.getD .skip), 12, Try.f43.results.toList, [(.sl (.ap 3), .ln), (.int .i64, .ln)], [(.int .i64, ⟨false, false, false, false⟩)], [], [], [], []⟩
-- 44 spec.BattleRun
noncomputable def fn44 : FnT := ⟨(Try.f44.body.getD .skip), 45, Try.f44.results.toList, [(.ap 4, .ln), (.sl (.ap 3), .ln)], [(.ap 4, ⟨false, false, false, false⟩), (.int .i64, ⟨false, false, false, false⟩)], [(6, [(1, .val true), (4, .ptr), (6, .ptr), (7, .val false), (8, .val false)])], [], [], []⟩
-- 45 laws.toActS
noncomputable def fn45 : FnT := ⟨(Try.f45.body.getD .skip), 23, Try.f45.results.toList, [(.sl (.ap 3), .ln)], [(.sl (.ap 3), ⟨true, false, false, false⟩)], [(3, [(0, .val true), (3, .own false), (4, .val false)])], [7], [], []⟩
-- 46 impl.BattleRun
noncomputable def fn46 : FnT := ⟨(Try.f46.body.getD .skip), 43, Try.f46.results.toList, [(.ap 4, .ln), (.sl (.ap 3), .ln)], [(.sl (.int .i64), ⟨true, false, false, false⟩), (.int .i64, ⟨false, false, false, false⟩), (.sl (.int .i64), ⟨true, false, false, false⟩), (.sl (.int .i64), ⟨true, false, false, false⟩), (.int .i64, ⟨false, false, false, false⟩)], [(6, [(2, .bx (.ap 4) [.own false, .val false, .own false, .own false]), (4, .bx (.ap 4) [.own false, .val false, .own false, .own false]), (6, .val false), (24, .val true), (25, .val false), (26, .val false)])], [2, 4, 9, 19, 23, 33], [some (.ap 4), none], []⟩
-- 47 laws.eqActS
noncomputable def fn47 : FnT := ⟨(Try.f47.body.getD .skip), 27, Try.f47.results.toList, [(.sl (.ap 3), .ln), (.sl (.ap 3), .ln)], [(.bool, ⟨false, false, false, false⟩)], [(4, [(0, .val true), (1, .val true), (5, .val false)])], [], [], []⟩
-- 48 laws.markActS
noncomputable def fn48 : FnT := ⟨(Try.f48.body.getD .skip), 27, Try.f48.results.toList, [(.sl (.ap 3), .io), (.int .i64, .ln)], [(.int .i64, ⟨false, false, false, false⟩)], [(2, [(0, .ptr), (1, .val false), (5, .val false)])], [], [], []⟩
-- 57 spec.l1In
noncomputable def fn57 : FnT := ⟨(Try.f57.body.getD .skip), 15, Try.f57.results.toList, [(.int .i64, .ln), (.int .i64, .ln), (.int .i64, .ln)], [(.bool, ⟨false, false, false, false⟩)], [], [], [], []⟩
-- 58 impl.HydraValid
noncomputable def fn58 : FnT := ⟨(Try.f58.body.getD .skip), 11, Try.f58.results.toList, [(.sl (.int .i64), .ln)], [(.bool, ⟨false, false, false, false⟩)], [], [], [], []⟩
-- 59 slices.Clone[[]int,int]
noncomputable def fn59 : FnT := ⟨(Try.f59.body.getD .skip), 8, Try.f59.results.toList, [(.sl (.int .i64), .ln)], [(.sl (.int .i64), ⟨true, false, false, false⟩)], [], [5, 7], [], []⟩
-- 60 laws.heldIntS
noncomputable def fn60 : FnT := ⟨(Try.f60.body.getD .skip), 21, Try.f60.results.toList, [(.sl (.int .i64), .ln), (.int .i64, .ln)], [(.int .i64, ⟨false, false, false, false⟩)], [(2, [(0, .val true), (1, .val false), (5, .val false)])], [], [], []⟩
-- 64 spec.l5End
noncomputable def fn64 : FnT := ⟨(Try.f64.body.getD .skip), 38, Try.f64.results.toList, [(.sl (.int .i64), .ln), (.int .i64, .ln)], [(.int .i64, ⟨false, false, false, false⟩)], [(6, [(0, .val true), (1, .val false), (5, .val false), (6, .val false)])], [], [], []⟩
-- 66 impl.HydraRun
noncomputable def fn66 : FnT := ⟨(Try.f66.body.getD .skip), 49, Try.f66.results.toList, [(.sl (.int .i64), .ln), (.sl (.int .i64), .ln), (.int .i64, .ln)], [(.sl (.int .i64), ⟨true, false, false, false⟩), (.bool, ⟨false, false, false, false⟩)], [(5, [(2, .val false), (8, .own false), (31, .val true), (32, .val false), (33, .val false)])], [30, 41], [], []⟩
-- 67 slices.Equal[[]int,int]
noncomputable def fn67 : FnT := ⟨(Try.f67.body.getD .skip), 26, Try.f67.results.toList, [(.sl (.int .i64), .ln), (.sl (.int .i64), .ln)], [(.bool, ⟨false, false, false, false⟩)], [(4, [(0, .val true), (1, .val true), (12, .val false), (13, .val false)])], [], [], []⟩
-- 68 laws.szIntS
noncomputable def fn68 : FnT := ⟨(Try.f68.body.getD .skip), 12, Try.f68.results.toList, [(.sl (.int .i64), .ln), (.int .i64, .ln)], [(.int .i64, ⟨false, false, false, false⟩)], [], [], [], []⟩
-- 69 spec.HydraRun
noncomputable def fn69 : FnT := ⟨(Try.f69.body.getD .skip), 50, Try.f69.results.toList, [(.sl (.int .i64), .ln), (.sl (.int .i64), .ln), (.int .i64, .ln)], [(.sl (.int .i64), ⟨true, false, false, false⟩), (.bool, ⟨false, false, false, false⟩)], [(5, [(1, .val true), (2, .val false), (8, .own false), (9, .val false)])], [25, 26, 28, 42, 47], [], []⟩
-- 70 spec.l1Same
noncomputable def fn70 : FnT := ⟨(Try.f70.body.getD .skip), 32, Try.f70.results.toList, [(.sl (.int .i64), .ln), (.sl (.int .i64), .ln)], [(.bool, ⟨false, false, false, false⟩)], [(2, [(0, .val true), (1, .val true), (5, .val false)])], [], [], []⟩
-- 72 spec.HydraFight
noncomputable def fn72 : FnT := ⟨(Try.f72.body.getD .skip), 36, Try.f72.results.toList, [(.sl (.int .i64), .ln), (.int .i64, .ln)], [(.int .i64, ⟨false, false, false, false⟩)], [(4, [(0, .val true), (1, .val false), (5, .val false)])], [], [], []⟩
-- 73 impl.HydraFight
noncomputable def fn73 : FnT := ⟨(Try.f73.body.getD .skip), 40, Try.f73.results.toList, [(.sl (.int .i64), .ln), (.int .i64, .ln)], [(.int .i64, ⟨false, false, false, false⟩)], [(4, [(0, .val true), (1, .val false), (5, .val false)])], [], [], []⟩
-- 74 impl.did
noncomputable def fn74 : FnT := ⟨(Try.f74.body.getD .skip), 111, Try.f74.results.toList, [(.ap 4, .ln), (.ap 3, .ln)], [(.sl (.int .i64), ⟨false, true, false, false⟩), (.bool, ⟨false, false, false, false⟩)], [(14, [(2, .ptr), (8, .own false), (9, .val true), (84, .val false), (85, .val false)]), (1000005, [(2, .ptr), (3, .ptr)]), (1000008, [(2, .ptr), (3, .ptr)])], [36, 67, 105], [], []⟩
-- 75 impl.withCuts
noncomputable def fn75 : FnT := ⟨(Try.f75.body.getD .skip), 25, Try.f75.results.toList, [(.ap 4, .ln), (.sl (.int .i64), .ln)], [(.sl (.int .i64), ⟨true, false, false, false⟩), (.int .i64, ⟨false, false, false, false⟩), (.sl (.int .i64), ⟨true, false, false, false⟩), (.sl (.int .i64), ⟨true, false, false, false⟩)], [], [4, 13, 18, 22, 24], [some (.ap 4)], []⟩
-- 76 spec.l10With
noncomputable def fn76 : FnT := ⟨(Try.f76.body.getD .skip), 29, Try.f76.results.toList, [(.ap 4, .ln), (.sl (.int .i64), .ln)], [(.ap 4, ⟨false, false, false, false⟩)], [], [13], [], []⟩
-- 77 spec.HydraHeads
noncomputable def fn77 : FnT := ⟨(Try.f77.body.getD .skip), 22, Try.f77.results.toList, [(.sl (.int .i64), .ln)], [(.int .i64, ⟨false, false, false, false⟩)], [(5, [(0, .val true), (3, .val false), (4, .val false)])], [], [], []⟩
-- 78 spec.HydraCut
noncomputable def fn78 : FnT := ⟨(Try.f78.body.getD .skip), 39, Try.f78.results.toList, [(.sl (.int .i64), .ln), (.int .i64, .ln), (.int .i64, .ln)], [(.sl (.int .i64), ⟨true, false, false, false⟩), (.bool, ⟨false, false, false, false⟩)], [], [26, 31, 37], [], []⟩
-- 80 impl.hydraOf
noncomputable def fn80 : FnT := ⟨(Try.f80.body.getD .skip), 28, Try.f80.results.toList, [(.sl (.int .i64), .ln)], [(.sl (.ap 1), ⟨true, false, false, false⟩), (.bool, ⟨false, false, false, false⟩)], [], [17], [], []⟩
-- 85 laws.eqAct
noncomputable def fn85 : FnT := ⟨(Try.f85.body.getD .skip), 15, Try.f85.results.toList, [(.ap 3, .ln), (.ap 3, .ln)], [(.bool, ⟨false, false, false, false⟩)], [], [], [], []⟩
-- 89 impl.HydraCut
noncomputable def fn89 : FnT := ⟨(Try.f89.body.getD .skip), 47, Try.f89.results.toList, [(.sl (.int .i64), .ln), (.int .i64, .ln), (.int .i64, .ln)], [(.sl (.int .i64), ⟨true, false, false, false⟩), (.bool, ⟨false, false, false, false⟩)], [], [44], [], []⟩
-- 93 impl.HydraHeads
noncomputable def fn93 : FnT := ⟨(Try.f93.body.getD .skip), 14, Try.f93.results.toList, [(.sl (.int .i64), .ln)], [(.int .i64, ⟨false, false, false, false⟩)], [], [], [], []⟩
-- 94 spec.l5Cut
noncomputable def fn94 : FnT := ⟨(Try.f94.body.getD .skip), 82, Try.f94.results.toList, [(.sl (.int .i64), .ln), (.int .i64, .ln), (.int .i64, .ln)], [(.sl (.int .i64), ⟨true, false, false, false⟩), (.bool, ⟨false, false, false, false⟩)], [(5, [(1, .val false), (2, .val false), (8, .val true), (9, .own true), (10, .val false), (11, .val false)]), (17, [(2, .val false), (8, .val true), (9, .own true), (10, .val false), (11, .val false), (13, .val false), (14, .val false), (15, .val false)]), (1000009, [(1, .val false), (2, .val false), (8, .val true), (9, .own true), (10, .val false), (11, .val false), (12, .val false)])], [18, 43, 66, 78, 80], [], []⟩
-- 95 impl.takeHydra
noncomputable def fn95 : FnT := ⟨(Try.f95.body.getD .skip), 50, Try.f95.results.toList, [(.sl (.int .i64), .ln)], [(.sl (.ap 1), ⟨true, false, false, false⟩), (.sl (.int .i64), ⟨false, true, false, false⟩), (.bool, ⟨false, false, false, false⟩)], [(7, [(0, .val true), (6, .own false), (31, .val false), (32, .val false)])], [30, 45], [], []⟩
-- 98 slices.Clip[[]int,int]
noncomputable def fn98 : FnT := ⟨(Try.f98.body.getD .skip), 9, Try.f98.results.toList, [(.sl (.int .i64), .mv)], [(.sl (.int .i64), ⟨true, false, false, false⟩)], [], [8], [], []⟩
-- 105 (impl.hydra).heads
noncomputable def fn105 : FnT := ⟨(Try.f105.body.getD .skip), 23, Try.f105.results.toList, [(.sl (.ap 1), .ln)], [(.int .i64, ⟨false, false, false, false⟩)], [(3, [(3, .val false), (6, .val true), (7, .val false), (8, .val false)]), (1000007, [(3, .val false), (5, .val true), (6, .val true), (7, .val false), (8, .val false)])], [], [], []⟩
-- 106 (impl.hydra).cut
noncomputable def fn106 : FnT := ⟨(Try.f106.body.getD .skip), 75, Try.f106.results.toList, [(.sl (.ap 1), .ln), (.int .i64, .ptr), (.int .i64, .ln), (.bool, .ln)], [(.sl (.ap 1), ⟨false, true, false, false⟩), (.bool, ⟨false, false, false, false⟩)], [(2, [(0, .val true), (1, .ptr), (2, .val false), (15, .val true), (16, .val false), (17, .val false)]), (15, [(0, .val true), (1, .ptr), (10, .val false), (12, .val true), (14, .own true), (59, .val false), (60, .val false)]), (1000014, [(0, .val true), (1, .ptr), (2, .val false), (10, .val false), (12, .val true), (14, .own true)])], [32, 56, 65], [], []⟩
-- 107 impl.grown
noncomputable def fn107 : FnT := ⟨(Try.f107.body.getD .skip), 12, Try.f107.results.toList, [(.sl (.ap 1), .ln)], [(.sl (.int .i64), ⟨true, false, false, false⟩), (.bool, ⟨false, false, false, false⟩)], [], [6, 11], [], []⟩
-- 108 spec.l5Tree
noncomputable def fn108 : FnT := ⟨(Try.f108.body.getD .skip), 21, Try.f108.results.toList, [(.sl (.sl (.int .i64)), .ln)], [(.sl (.int .i64), ⟨true, false, false, false⟩)], [(3, [(0, .val true), (3, .own false), (4, .val false)])], [7, 19], [], []⟩
-- 109 spec.l5Branches
noncomputable def fn109 : FnT := ⟨(Try.f109.body.getD .skip), 23, Try.f109.results.toList, [(.sl (.int .i64), .ln)], [(.sl (.sl (.int .i64)), ⟨true, true, false, false⟩)], [(3, [(0, .val true), (3, .own true), (4, .val false)])], [6, 20], [], []⟩
-- 110 spec.l5Heads
noncomputable def fn110 : FnT := ⟨(Try.f110.body.getD .skip), 19, Try.f110.results.toList, [(.sl (.int .i64), .ln)], [(.int .i64, ⟨false, false, false, false⟩)], [(3, [(0, .val true), (3, .val false), (4, .val false)])], [], [], []⟩
-- 114 slices.Delete[impl.hydra,impl.hydra]
noncomputable def fn114 : FnT := ⟨(Try.f114.body.getD .skip), 33, Try.f114.results.toList, [(.sl (.ap 1), .mv), (.int .i64, .ln), (.int .i64, .ln)], [(.sl (.ap 1), ⟨true, true, false, false⟩)], [], [26], [], []⟩
-- 115 slices.Clone[impl.hydra,impl.hydra]
noncomputable def fn115 : FnT := ⟨(Try.f115.body.getD .skip), 8, Try.f115.results.toList, [(.sl (.ap 1), .ln)], [(.sl (.ap 1), ⟨true, true, false, false⟩)], [], [5, 7], [], []⟩
-- 116 (impl.hydra).row
noncomputable def fn116 : FnT := ⟨(Try.f116.body.getD .skip), 21, Try.f116.results.toList, [(.sl (.ap 1), .ln)], [(.sl (.int .i64), ⟨true, false, false, false⟩)], [(3, [(3, .own false), (9, .val true), (10, .val false), (11, .val false)])], [8, 18], [], []⟩
def tyOf : Nat → Option Ty
  | 3 => some (.int .i64)
  | 4 => some (.bool)
  | 22 => some (.sl (.int .i64))
  | 24 => some (.ap 4)
  | 39 => some (.ap 4)
  | 48 => some (.ap 3)
  | 49 => some (.ap 3)
  | 57 => some (.sl (.ap 3))
  | 61 => some (.sl (.ap 3))
  | 68 => some (.sl (.sl (.int .i64)))
  | 87 => some (.sl (.ap 1))
  | _ => none
noncomputable def tab : Tab := ⟨tyOf, fun
  | 3 => some fn3
  | 7 => some fn7
  | 9 => some fn9
  | 11 => some fn11
  | 15 => some fn15
  | 16 => some fn16
  | 17 => some fn17
  | 18 => some fn18
  | 19 => some fn19
  | 20 => some fn20
  | 21 => some fn21
  | 22 => some fn22
  | 25 => some fn25
  | 28 => some fn28
  | 30 => some fn30
  | 31 => some fn31
  | 32 => some fn32
  | 34 => some fn34
  | 35 => some fn35
  | 37 => some fn37
  | 38 => some fn38
  | 39 => some fn39
  | 43 => some fn43
  | 44 => some fn44
  | 45 => some fn45
  | 46 => some fn46
  | 47 => some fn47
  | 48 => some fn48
  | 57 => some fn57
  | 58 => some fn58
  | 59 => some fn59
  | 60 => some fn60
  | 64 => some fn64
  | 66 => some fn66
  | 67 => some fn67
  | 68 => some fn68
  | 69 => some fn69
  | 70 => some fn70
  | 72 => some fn72
  | 73 => some fn73
  | 74 => some fn74
  | 75 => some fn75
  | 76 => some fn76
  | 77 => some fn77
  | 78 => some fn78
  | 80 => some fn80
  | 85 => some fn85
  | 89 => some fn89
  | 93 => some fn93
  | 94 => some fn94
  | 95 => some fn95
  | 98 => some fn98
  | 105 => some fn105
  | 106 => some fn106
  | 107 => some fn107
  | 108 => some fn108
  | 109 => some fn109
  | 110 => some fn110
  | 114 => some fn114
  | 115 => some fn115
  | 116 => some fn116
  | _ => none⟩
noncomputable def ext : Ext tab := fun
  | 59 => some (onRow tab 59 (.int .i64) cloned)
  | 115 => some (onRow tab 115 (.ap 1) cloned)
  | _ => none
noncomputable def laws_FnExactBattleNew.f (k : Nat) (a0 : List Int) (a1 : Int) : Option Bool := runF tab ext k 3 [⟨.sl (.int .i64), a0⟩, ⟨.int .i64, a1⟩]
noncomputable def laws_FnExactBattleLeft.f (k : Nat) (a0 : Battle) : Option Bool := runF tab ext k 7 [⟨.ap 4, a0⟩]
noncomputable def laws_FnExactBattleDo.f (k : Nat) (a0 : Battle) (a1 : TwoInts) : Option Bool := runF tab ext k 9 [⟨.ap 4, a0⟩, ⟨.ap 3, a1⟩]
noncomputable def laws_FnExactBattleRun.f (k : Nat) (a0 : Battle) (a1 : List TwoInts) : Option Bool := runF tab ext k 11 [⟨.ap 4, a0⟩, ⟨.sl (.ap 3), a1⟩]
noncomputable def spec_BattleNew.f (k : Nat) (a0 : List Int) (a1 : Int) : Option Battle := runF tab ext k 15 [⟨.sl (.int .i64), a0⟩, ⟨.int .i64, a1⟩]
noncomputable def laws_toIntS.f (k : Nat) (a0 : List Int) : Option (List Int) := runF tab ext k 16 [⟨.sl (.int .i64), a0⟩]
noncomputable def laws_toIntS.l0 (k : Nat) (x0 : List Int) (x3 : List Int) (x4 : Int) : Option (List Int) := runL tab ext k 16 (todoAt tab 16 3) (stAt tab 16 [(0, mkVal true (.sl (.int .i64)) x0), (3, .ref 15), (4, mkVal false (.int .i64) x4)] [(15, .sl false false (.int .i64) x3)])
noncomputable def impl_BattleNew.f (k : Nat) (a0 : List Int) (a1 : Int) : Option (List Int × Int × List Int × List Int) := runF tab ext k 17 [⟨.sl (.int .i64), a0⟩, ⟨.int .i64, a1⟩]
noncomputable def laws_eqBattle.f (k : Nat) (a0 : Battle) (a1 : Battle) : Option Bool := runF tab ext k 18 [⟨.ap 4, a0⟩, ⟨.ap 4, a1⟩]
noncomputable def laws_eqIntS.f (k : Nat) (a0 : List Int) (a1 : List Int) : Option Bool := runF tab ext k 19 [⟨.sl (.int .i64), a0⟩, ⟨.sl (.int .i64), a1⟩]
noncomputable def laws_eqIntS.l0 (k : Nat) (x0 : List Int) (x1 : List Int) (x5 : Int) : Option Bool := runL tab ext k 19 (todoAt tab 19 4) (stAt tab 19 [(0, mkVal true (.sl (.int .i64)) x0), (1, mkVal true (.sl (.int .i64)) x1), (5, mkVal false (.int .i64) x5)] [])
noncomputable def laws_markIntS.f (k : Nat) (a0 : List Int) (a1 : Int) : Option (Int × List Int) := runF tab ext k 20 [⟨.sl (.int .i64), a0⟩, ⟨.int .i64, a1⟩]
noncomputable def laws_markIntS.l0 (k : Nat) (x0 : List Int) (x1 : Int) (x5 : Int) : Option (Int × List Int) := runL tab ext k 20 (todoAt tab 20 2) (stAt tab 20 [(0, .ref 76), (1, mkVal false (.int .i64) x1), (5, mkVal false (.int .i64) x5)] [(76, .io false (.int .i64) x0)])
noncomputable def laws_markBattle.f (k : Nat) (a0 : List Int) (a1 : Int) (a2 : List Int) (a3 : List Int) (a4 : Int) : Option (Int × List Int × List Int × List Int) := runF tab ext k 21 [⟨.sl (.int .i64), a0⟩, ⟨.int .i64, a1⟩, ⟨.sl (.int .i64), a2⟩, ⟨.sl (.int .i64), a3⟩, ⟨.int .i64, a4⟩]
noncomputable def laws_heldBattle.f (k : Nat) (a0 : Battle) (a1 : Int) : Option Int := runF tab ext k 22 [⟨.ap 4, a0⟩, ⟨.int .i64, a1⟩]
noncomputable def spec_HydraValid.f (k : Nat) (a0 : List Int) : Option Bool := runF tab ext k 25 [⟨.sl (.int .i64), a0⟩]
noncomputable def impl_BattleValid.f (k : Nat) (a0 : Battle) : Option Bool := runF tab ext k 28 [⟨.ap 4, a0⟩]
noncomputable def laws_szBattle.f (k : Nat) (a0 : Battle) (a1 : Int) : Option Int := runF tab ext k 30 [⟨.ap 4, a0⟩, ⟨.int .i64, a1⟩]
noncomputable def spec_BattleValid.f (k : Nat) (a0 : Battle) : Option Bool := runF tab ext k 31 [⟨.ap 4, a0⟩]
noncomputable def laws_toBattle.f (k : Nat) (a0 : Battle) : Option (List Int × Int × List Int × List Int) := runF tab ext k 32 [⟨.ap 4, a0⟩]
noncomputable def spec_BattleLeft.f (k : Nat) (a0 : Battle) : Option Int := runF tab ext k 34 [⟨.ap 4, a0⟩]
noncomputable def impl_BattleLeft.f (k : Nat) (a0 : Battle) : Option Int := runF tab ext k 35 [⟨.ap 4, a0⟩]
noncomputable def impl_BattleDo.f (k : Nat) (a0 : Battle) (a1 : TwoInts) : Option (List Int × Int × List Int × List Int × Bool) := runF tab ext k 37 [⟨.ap 4, a0⟩, ⟨.ap 3, a1⟩]
noncomputable def spec_BattleDo.f (k : Nat) (a0 : Battle) (a1 : TwoInts) : Option (Battle × Bool) := runF tab ext k 38 [⟨.ap 4, a0⟩, ⟨.ap 3, a1⟩]
noncomputable def spec_BattleDo.j0 (k : Nat) (x2 : Battle) (x4 : Battle) (x6 : Battle) (x7 : List Int) : Option (Battle × Bool) := runL tab ext k 38 (todoAt tab 38 1000021) (stAt tab 38 [(2, .ptr 8 []), (4, .ptr 16 []), (6, .ptr 24 []), (7, .ref 31)] [(8, .box true (.ap 4) x2), (16, .box false (.ap 4) x4), (24, .box false (.ap 4) x6), (31, .sl false false (.int .i64) x7)])
noncomputable def spec_BattleDo.j1 (k : Nat) (x2 : Battle) (x3 : TwoInts) (x4 : Battle) (x7 : List Int) : Option (Battle × Bool) := runL tab ext k 38 (todoAt tab 38 1000009) (stAt tab 38 [(2, .ptr 8 []), (3, .ptr 12 []), (4, .ptr 16 []), (7, .ref 31)] [(8, .box true (.ap 4) x2), (12, .box false (.ap 3) x3), (16, .box false (.ap 4) x4), (31, .sl false false (.int .i64) x7)])
noncomputable def spec_BattleDo.j2 (k : Nat) (x2 : Battle) (x3 : TwoInts) (x4 : Battle) (x6 : Battle) (x7 : List Int) : Option (Battle × Bool) := runL tab ext k 38 (todoAt tab 38 1000010) (stAt tab 38 [(2, .ptr 8 []), (3, .ptr 12 []), (4, .ptr 16 []), (6, .ptr 24 []), (7, .ref 31)] [(8, .box true (.ap 4) x2), (12, .box false (.ap 3) x3), (16, .box false (.ap 4) x4), (24, .box false (.ap 4) x6), (31, .sl false false (.int .i64) x7)])
noncomputable def spec_BattleDo.l0 (k : Nat) (x2 : Battle) (x3 : TwoInts) (x4 : Battle) (x6 : Battle) (x7 : List Int) (x8 : List Int) (x9 : Int) : Option (Battle × Bool) := runL tab ext k 38 (todoAt tab 38 13) (stAt tab 38 [(2, .ptr 8 []), (3, .ptr 12 []), (4, .ptr 16 []), (6, .ptr 24 []), (7, .ref 31), (8, mkVal true (.sl (.int .i64)) x8), (9, mkVal false (.int .i64) x9)] [(8, .box true (.ap 4) x2), (12, .box false (.ap 3) x3), (16, .box false (.ap 4) x4), (24, .box false (.ap 4) x6), (31, .sl false false (.int .i64) x7)])
noncomputable def laws_toAct.f (k : Nat) (a0 : TwoInts) : Option TwoInts := runF tab ext k 39 [⟨.ap 3, a0⟩]
noncomputable def laws_szActS.f (k : Nat) (a0 : List TwoInts) (a1 : Int) : Option Int := runF tab ext k 43 [⟨.sl (.ap 3), a0⟩, ⟨.int .i64, a1⟩]
noncomputable def spec_BattleRun.f (k : Nat) (a0 : Battle) (a1 : List TwoInts) : Option (Battle × Int) := runF tab ext k 44 [⟨.ap 4, a0⟩, ⟨.sl (.ap 3), a1⟩]
noncomputable def spec_BattleRun.l0 (k : Nat) (x1 : List TwoInts) (x4 : Battle) (x6 : Battle) (x7 : Int) (x8 : Int) : Option (Battle × Int) := runL tab ext k 44 (todoAt tab 44 6) (stAt tab 44 [(1, mkVal true (.sl (.ap 3)) x1), (4, .ptr 16 []), (6, .ptr 24 []), (7, mkVal false (.int .i64) x7), (8, mkVal false (.int .i64) x8)] [(16, .box false (.ap 4) x4), (24, .box false (.ap 4) x6)])
noncomputable def laws_toActS.f (k : Nat) (a0 : List TwoInts) : Option (List TwoInts) := runF tab ext k 45 [⟨.sl (.ap 3), a0⟩]
noncomputable def laws_toActS.l0 (k : Nat) (x0 : List TwoInts) (x3 : List TwoInts) (x4 : Int) : Option (List TwoInts) := runL tab ext k 45 (todoAt tab 45 3) (stAt tab 45 [(0, mkVal true (.sl (.ap 3)) x0), (3, .ref 15), (4, mkVal false (.int .i64) x4)] [(15, .sl false false (.ap 3) x3)])
noncomputable def impl_BattleRun.f (k : Nat) (a0 : Battle) (a1 : List TwoInts) : Option (List Int × Int × List Int × List Int × Int) := runF tab ext k 46 [⟨.ap 4, a0⟩, ⟨.sl (.ap 3), a1⟩]
noncomputable def impl_BattleRun.l0 (k : Nat) (x2_0 : List Int) (x2_1 : Int) (x2_2 : List Int) (x2_3 : List Int) (x4_0 : List Int) (x4_1 : Int) (x4_2 : List Int) (x4_3 : List Int) (x6 : Int) (x24 : List TwoInts) (x25 : Int) (x26 : Int) : Option (List Int × Int × List Int × List Int × Int) := runL tab ext k 46 (todoAt tab 46 6) (stAt tab 46 [(2, .ptr 8 []), (4, .ptr 16 []), (6, mkVal false (.int .i64) x6), (24, mkVal true (.sl (.ap 3)) x24), (25, mkVal false (.int .i64) x25), (26, mkVal false (.int .i64) x26)] [(9, .sl false false (.int .i64) x2_0), (10, .sl false false (.int .i64) x2_2), (11, .sl false false (.int .i64) x2_3), (8, .bx (.ap 4) [.ref 9, mkVal false (.int .i64) x2_1, .ref 10, .ref 11]), (17, .sl false false (.int .i64) x4_0), (18, .sl false false (.int .i64) x4_2), (19, .sl false false (.int .i64) x4_3), (16, .bx (.ap 4) [.ref 17, mkVal false (.int .i64) x4_1, .ref 18, .ref 19])])
noncomputable def laws_eqActS.f (k : Nat) (a0 : List TwoInts) (a1 : List TwoInts) : Option Bool := runF tab ext k 47 [⟨.sl (.ap 3), a0⟩, ⟨.sl (.ap 3), a1⟩]
noncomputable def laws_eqActS.l0 (k : Nat) (x0 : List TwoInts) (x1 : List TwoInts) (x5 : Int) : Option Bool := runL tab ext k 47 (todoAt tab 47 4) (stAt tab 47 [(0, mkVal true (.sl (.ap 3)) x0), (1, mkVal true (.sl (.ap 3)) x1), (5, mkVal false (.int .i64) x5)] [])
noncomputable def laws_markActS.f (k : Nat) (a0 : List TwoInts) (a1 : Int) : Option (Int × List TwoInts) := runF tab ext k 48 [⟨.sl (.ap 3), a0⟩, ⟨.int .i64, a1⟩]
noncomputable def laws_markActS.l0 (k : Nat) (x0 : List TwoInts) (x1 : Int) (x5 : Int) : Option (Int × List TwoInts) := runL tab ext k 48 (todoAt tab 48 2) (stAt tab 48 [(0, .ref 108), (1, mkVal false (.int .i64) x1), (5, mkVal false (.int .i64) x5)] [(108, .io false (.ap 3) x0)])
noncomputable def spec_l1In.f (k : Nat) (a0 : Int) (a1 : Int) (a2 : Int) : Option Bool := runF tab ext k 57 [⟨.int .i64, a0⟩, ⟨.int .i64, a1⟩, ⟨.int .i64, a2⟩]
noncomputable def impl_HydraValid.f (k : Nat) (a0 : List Int) : Option Bool := runF tab ext k 58 [⟨.sl (.int .i64), a0⟩]
noncomputable def slices_Clone_int_int.f (k : Nat) (a0 : List Int) : Option (List Int) := runF tab ext k 59 [⟨.sl (.int .i64), a0⟩]
noncomputable def laws_heldIntS.f (k : Nat) (a0 : List Int) (a1 : Int) : Option Int := runF tab ext k 60 [⟨.sl (.int .i64), a0⟩, ⟨.int .i64, a1⟩]
noncomputable def laws_heldIntS.l0 (k : Nat) (x0 : List Int) (x1 : Int) (x5 : Int) : Option Int := runL tab ext k 60 (todoAt tab 60 2) (stAt tab 60 [(0, mkVal true (.sl (.int .i64)) x0), (1, mkVal false (.int .i64) x1), (5, mkVal false (.int .i64) x5)] [])
noncomputable def spec_l5End.f (k : Nat) (a0 : List Int) (a1 : Int) : Option Int := runF tab ext k 64 [⟨.sl (.int .i64), a0⟩, ⟨.int .i64, a1⟩]
noncomputable def spec_l5End.l0 (k : Nat) (x0 : List Int) (x1 : Int) (x5 : Int) (x6 : Int) : Option Int := runL tab ext k 64 (todoAt tab 64 6) (stAt tab 64 [(0, mkVal true (.sl (.int .i64)) x0), (1, mkVal false (.int .i64) x1), (5, mkVal false (.int .i64) x5), (6, mkVal false (.int .i64) x6)] [])
noncomputable def impl_HydraRun.f (k : Nat) (a0 : List Int) (a1 : List Int) (a2 : Int) : Option (List Int × Bool) := runF tab ext k 66 [⟨.sl (.int .i64), a0⟩, ⟨.sl (.int .i64), a1⟩, ⟨.int .i64, a2⟩]
noncomputable def impl_HydraRun.l0 (k : Nat) (x2 : Int) (x8 : List Int) (x31 : List Int) (x32 : Int) (x33 : Int) : Option (List Int × Bool) := runL tab ext k 66 (todoAt tab 66 5) (stAt tab 66 [(2, mkVal false (.int .i64) x2), (8, .ref 35), (31, mkVal true (.sl (.int .i64)) x31), (32, mkVal false (.int .i64) x32), (33, mkVal false (.int .i64) x33)] [(35, .sl false false (.int .i64) x8)])
noncomputable def slices_Equal_int_int.f (k : Nat) (a0 : List Int) (a1 : List Int) : Option Bool := runF tab ext k 67 [⟨.sl (.int .i64), a0⟩, ⟨.sl (.int .i64), a1⟩]
noncomputable def slices_Equal_int_int.l0 (k : Nat) (x0 : List Int) (x1 : List Int) (x12 : Int) (x13 : Int) : Option Bool := runL tab ext k 67 (todoAt tab 67 4) (stAt tab 67 [(0, mkVal true (.sl (.int .i64)) x0), (1, mkVal true (.sl (.int .i64)) x1), (12, mkVal false (.int .i64) x12), (13, mkVal false (.int .i64) x13)] [])
noncomputable def laws_szIntS.f (k : Nat) (a0 : List Int) (a1 : Int) : Option Int := runF tab ext k 68 [⟨.sl (.int .i64), a0⟩, ⟨.int .i64, a1⟩]
noncomputable def spec_HydraRun.f (k : Nat) (a0 : List Int) (a1 : List Int) (a2 : Int) : Option (List Int × Bool) := runF tab ext k 69 [⟨.sl (.int .i64), a0⟩, ⟨.sl (.int .i64), a1⟩, ⟨.int .i64, a2⟩]
noncomputable def spec_HydraRun.l0 (k : Nat) (x1 : List Int) (x2 : Int) (x8 : List Int) (x9 : Int) : Option (List Int × Bool) := runL tab ext k 69 (todoAt tab 69 5) (stAt tab 69 [(1, mkVal true (.sl (.int .i64)) x1), (2, mkVal false (.int .i64) x2), (8, .ref 35), (9, mkVal false (.int .i64) x9)] [(35, .sl false false (.int .i64) x8)])
noncomputable def spec_l1Same.f (k : Nat) (a0 : List Int) (a1 : List Int) : Option Bool := runF tab ext k 70 [⟨.sl (.int .i64), a0⟩, ⟨.sl (.int .i64), a1⟩]
noncomputable def spec_l1Same.l0 (k : Nat) (x0 : List Int) (x1 : List Int) (x5 : Int) : Option Bool := runL tab ext k 70 (todoAt tab 70 2) (stAt tab 70 [(0, mkVal true (.sl (.int .i64)) x0), (1, mkVal true (.sl (.int .i64)) x1), (5, mkVal false (.int .i64) x5)] [])
noncomputable def spec_HydraFight.f (k : Nat) (a0 : List Int) (a1 : Int) : Option Int := runF tab ext k 72 [⟨.sl (.int .i64), a0⟩, ⟨.int .i64, a1⟩]
noncomputable def spec_HydraFight.l0 (k : Nat) (x0 : List Int) (x1 : Int) (x5 : Int) : Option Int := runL tab ext k 72 (todoAt tab 72 4) (stAt tab 72 [(0, mkVal true (.sl (.int .i64)) x0), (1, mkVal false (.int .i64) x1), (5, mkVal false (.int .i64) x5)] [])
noncomputable def impl_HydraFight.f (k : Nat) (a0 : List Int) (a1 : Int) : Option Int := runF tab ext k 73 [⟨.sl (.int .i64), a0⟩, ⟨.int .i64, a1⟩]
noncomputable def impl_HydraFight.l0 (k : Nat) (x0 : List Int) (x1 : Int) (x5 : Int) : Option Int := runL tab ext k 73 (todoAt tab 73 4) (stAt tab 73 [(0, mkVal true (.sl (.int .i64)) x0), (1, mkVal false (.int .i64) x1), (5, mkVal false (.int .i64) x5)] [])
noncomputable def impl_did.f (k : Nat) (a0 : Battle) (a1 : TwoInts) : Option (List Int × Bool) := runF tab ext k 74 [⟨.ap 4, a0⟩, ⟨.ap 3, a1⟩]
noncomputable def impl_did.j0 (k : Nat) (x2 : Battle) (x3 : TwoInts) : Option (List Int × Bool) := runL tab ext k 74 (todoAt tab 74 1000005) (stAt tab 74 [(2, .ptr 8 []), (3, .ptr 12 [])] [(8, .box true (.ap 4) x2), (12, .box false (.ap 3) x3)])
noncomputable def impl_did.j1 (k : Nat) (x2 : Battle) (x3 : TwoInts) : Option (List Int × Bool) := runL tab ext k 74 (todoAt tab 74 1000008) (stAt tab 74 [(2, .ptr 8 []), (3, .ptr 12 [])] [(8, .box true (.ap 4) x2), (12, .box false (.ap 3) x3)])
noncomputable def impl_did.l0 (k : Nat) (x2 : Battle) (x8 : List Int) (x9 : List Int) (x84 : Int) (x85 : Int) : Option (List Int × Bool) := runL tab ext k 74 (todoAt tab 74 14) (stAt tab 74 [(2, .ptr 8 []), (8, .ref 35), (9, mkVal true (.sl (.int .i64)) x9), (84, mkVal false (.int .i64) x84), (85, mkVal false (.int .i64) x85)] [(8, .box true (.ap 4) x2), (35, .sl false false (.int .i64) x8)])
noncomputable def impl_withCuts.f (k : Nat) (a0 : Battle) (a1 : List Int) : Option (List Int × Int × List Int × List Int) := runF tab ext k 75 [⟨.ap 4, a0⟩, ⟨.sl (.int .i64), a1⟩]
noncomputable def spec_l10With.f (k : Nat) (a0 : Battle) (a1 : List Int) : Option Battle := runF tab ext k 76 [⟨.ap 4, a0⟩, ⟨.sl (.int .i64), a1⟩]
noncomputable def spec_HydraHeads.f (k : Nat) (a0 : List Int) : Option Int := runF tab ext k 77 [⟨.sl (.int .i64), a0⟩]
noncomputable def spec_HydraHeads.l0 (k : Nat) (x0 : List Int) (x3 : Int) (x4 : Int) : Option Int := runL tab ext k 77 (todoAt tab 77 5) (stAt tab 77 [(0, mkVal true (.sl (.int .i64)) x0), (3, mkVal false (.int .i64) x3), (4, mkVal false (.int .i64) x4)] [])
noncomputable def spec_HydraCut.f (k : Nat) (a0 : List Int) (a1 : Int) (a2 : Int) : Option (List Int × Bool) := runF tab ext k 78 [⟨.sl (.int .i64), a0⟩, ⟨.int .i64, a1⟩, ⟨.int .i64, a2⟩]
noncomputable def impl_hydraOf.f (k : Nat) (a0 : List Int) : Option (List Hydra × Bool) := runF tab ext k 80 [⟨.sl (.int .i64), a0⟩]
noncomputable def laws_eqAct.f (k : Nat) (a0 : TwoInts) (a1 : TwoInts) : Option Bool := runF tab ext k 85 [⟨.ap 3, a0⟩, ⟨.ap 3, a1⟩]
noncomputable def impl_HydraCut.f (k : Nat) (a0 : List Int) (a1 : Int) (a2 : Int) : Option (List Int × Bool) := runF tab ext k 89 [⟨.sl (.int .i64), a0⟩, ⟨.int .i64, a1⟩, ⟨.int .i64, a2⟩]
noncomputable def impl_HydraHeads.f (k : Nat) (a0 : List Int) : Option Int := runF tab ext k 93 [⟨.sl (.int .i64), a0⟩]
noncomputable def spec_l5Cut.f (k : Nat) (a0 : List Int) (a1 : Int) (a2 : Int) : Option (List Int × Bool) := runF tab ext k 94 [⟨.sl (.int .i64), a0⟩, ⟨.int .i64, a1⟩, ⟨.int .i64, a2⟩]
noncomputable def spec_l5Cut.l0 (k : Nat) (x1 : Int) (x2 : Int) (x8 : List (List Int)) (x9 : List (List Int)) (x10 : Bool) (x11 : Int) : Option (List Int × Bool) := runL tab ext k 94 (todoAt tab 94 5) (stAt tab 94 [(1, mkVal false (.int .i64) x1), (2, mkVal false (.int .i64) x2), (8, mkVal true (.sl (.sl (.int .i64))) x8), (9, .ref 39), (10, mkVal false (.bool) x10), (11, mkVal false (.int .i64) x11)] [(39, .sl true false (.sl (.int .i64)) x9)])
noncomputable def spec_l5Cut.j0 (k : Nat) (x1 : Int) (x2 : Int) (x8 : List (List Int)) (x9 : List (List Int)) (x10 : Bool) (x11 : Int) (x12 : Int) : Option (List Int × Bool) := runL tab ext k 94 (todoAt tab 94 1000009) (stAt tab 94 [(1, mkVal false (.int .i64) x1), (2, mkVal false (.int .i64) x2), (8, mkVal true (.sl (.sl (.int .i64))) x8), (9, .ref 39), (10, mkVal false (.bool) x10), (11, mkVal false (.int .i64) x11), (12, mkVal false (.int .i64) x12)] [(39, .sl true false (.sl (.int .i64)) x9)])
noncomputable def spec_l5Cut.l1 (k : Nat) (x2 : Int) (x8 : List (List Int)) (x9 : List (List Int)) (x10 : Bool) (x11 : Int) (x13 : List Int) (x14 : Bool) (x15 : Int) : Option (List Int × Bool) := runL tab ext k 94 (todoAt tab 94 17) (stAt tab 94 [(2, mkVal false (.int .i64) x2), (8, mkVal true (.sl (.sl (.int .i64))) x8), (9, .ref 39), (10, mkVal false (.bool) x10), (11, mkVal false (.int .i64) x11), (13, mkVal false (.sl (.int .i64)) x13), (14, mkVal false (.bool) x14), (15, mkVal false (.int .i64) x15)] [(39, .sl true false (.sl (.int .i64)) x9)])
noncomputable def impl_takeHydra.f (k : Nat) (a0 : List Int) : Option (List Hydra × List Int × Bool) := runF tab ext k 95 [⟨.sl (.int .i64), a0⟩]
noncomputable def impl_takeHydra.l0 (k : Nat) (x0 : List Int) (x6 : List Hydra) (x31 : Int) (x32 : Int) : Option (List Hydra × List Int × Bool) := runL tab ext k 95 (todoAt tab 95 7) (stAt tab 95 [(0, mkVal true (.sl (.int .i64)) x0), (6, .ref 27), (31, mkVal false (.int .i64) x31), (32, mkVal false (.int .i64) x32)] [(27, .sl false false (.ap 1) x6)])
noncomputable def slices_Clip_int_int.f (k : Nat) (a0 : List Int) : Option (List Int) := runF tab ext k 98 [⟨.sl (.int .i64), a0⟩]
noncomputable def impl_hydra__heads.f (k : Nat) (a0 : List Hydra) : Option Int := runF tab ext k 105 [⟨.sl (.ap 1), a0⟩]
noncomputable def impl_hydra__heads.l0 (k : Nat) (x3 : Int) (x6 : List Hydra) (x7 : Int) (x8 : Int) : Option Int := runL tab ext k 105 (todoAt tab 105 3) (stAt tab 105 [(3, mkVal false (.int .i64) x3), (6, mkVal true (.sl (.ap 1)) x6), (7, mkVal false (.int .i64) x7), (8, mkVal false (.int .i64) x8)] [])
noncomputable def impl_hydra__heads.j0 (k : Nat) (x3 : Int) (x5 : List Hydra) (x6 : List Hydra) (x7 : Int) (x8 : Int) : Option Int := runL tab ext k 105 (todoAt tab 105 1000007) (stAt tab 105 [(3, mkVal false (.int .i64) x3), (5, mkVal true (.sl (.ap 1)) x5), (6, mkVal true (.sl (.ap 1)) x6), (7, mkVal false (.int .i64) x7), (8, mkVal false (.int .i64) x8)] [])
noncomputable def impl_hydra__cut.f (k : Nat) (a0 : List Hydra) (a1 : Int) (a2 : Int) (a3 : Bool) : Option (List Hydra × Bool × Int) := runF tab ext k 106 [⟨.sl (.ap 1), a0⟩, ⟨.int .i64, a1⟩, ⟨.int .i64, a2⟩, ⟨.bool, a3⟩]
noncomputable def impl_hydra__cut.l0 (k : Nat) (x0 : List Hydra) (x1 : Int) (x2 : Int) (x15 : List Hydra) (x16 : Int) (x17 : Int) : Option (List Hydra × Bool × Int) := runL tab ext k 106 (todoAt tab 106 2) (stAt tab 106 [(0, mkVal true (.sl (.ap 1)) x0), (1, .ptr 301 []), (2, mkVal false (.int .i64) x2), (15, mkVal true (.sl (.ap 1)) x15), (16, mkVal false (.int .i64) x16), (17, mkVal false (.int .i64) x17)] [(301, .box false (.int .i64) x1)])
noncomputable def impl_hydra__cut.j0 (k : Nat) (x0 : List Hydra) (x1 : Int) (x2 : Int) (x10 : Int) (x12 : List Hydra) (x14 : List Hydra) : Option (List Hydra × Bool × Int) := runL tab ext k 106 (todoAt tab 106 1000014) (stAt tab 106 [(0, mkVal true (.sl (.ap 1)) x0), (1, .ptr 301 []), (2, mkVal false (.int .i64) x2), (10, mkVal false (.int .i64) x10), (12, mkVal true (.sl (.ap 1)) x12), (14, .ref 59)] [(301, .box false (.int .i64) x1), (59, .sl true false (.ap 1) x14)])
noncomputable def impl_hydra__cut.l1 (k : Nat) (x0 : List Hydra) (x1 : Int) (x10 : Int) (x12 : List Hydra) (x14 : List Hydra) (x59 : Int) (x60 : Int) : Option (List Hydra × Bool × Int) := runL tab ext k 106 (todoAt tab 106 15) (stAt tab 106 [(0, mkVal true (.sl (.ap 1)) x0), (1, .ptr 301 []), (10, mkVal false (.int .i64) x10), (12, mkVal true (.sl (.ap 1)) x12), (14, .ref 59), (59, mkVal false (.int .i64) x59), (60, mkVal false (.int .i64) x60)] [(301, .box false (.int .i64) x1), (59, .sl true false (.ap 1) x14)])
noncomputable def impl_grown.f (k : Nat) (a0 : List Hydra) : Option (List Int × Bool) := runF tab ext k 107 [⟨.sl (.ap 1), a0⟩]
noncomputable def spec_l5Tree.f (k : Nat) (a0 : List (List Int)) : Option (List Int) := runF tab ext k 108 [⟨.sl (.sl (.int .i64)), a0⟩]
noncomputable def spec_l5Tree.l0 (k : Nat) (x0 : List (List Int)) (x3 : List Int) (x4 : Int) : Option (List Int) := runL tab ext k 108 (todoAt tab 108 3) (stAt tab 108 [(0, mkVal true (.sl (.sl (.int .i64))) x0), (3, .ref 15), (4, mkVal false (.int .i64) x4)] [(15, .sl false false (.int .i64) x3)])
noncomputable def spec_l5Branches.f (k : Nat) (a0 : List Int) : Option (List (List Int)) := runF tab ext k 109 [⟨.sl (.int .i64), a0⟩]
noncomputable def spec_l5Branches.l0 (k : Nat) (x0 : List Int) (x3 : List (List Int)) (x4 : Int) : Option (List (List Int)) := runL tab ext k 109 (todoAt tab 109 3) (stAt tab 109 [(0, mkVal true (.sl (.int .i64)) x0), (3, .ref 15), (4, mkVal false (.int .i64) x4)] [(15, .sl true false (.sl (.int .i64)) x3)])
noncomputable def spec_l5Heads.f (k : Nat) (a0 : List Int) : Option Int := runF tab ext k 110 [⟨.sl (.int .i64), a0⟩]
noncomputable def spec_l5Heads.l0 (k : Nat) (x0 : List Int) (x3 : Int) (x4 : Int) : Option Int := runL tab ext k 110 (todoAt tab 110 3) (stAt tab 110 [(0, mkVal true (.sl (.int .i64)) x0), (3, mkVal false (.int .i64) x3), (4, mkVal false (.int .i64) x4)] [])
noncomputable def slices_Delete_hydra_hydra.f (k : Nat) (a0 : List Hydra) (a1 : Int) (a2 : Int) : Option (List Hydra) := runF tab ext k 114 [⟨.sl (.ap 1), a0⟩, ⟨.int .i64, a1⟩, ⟨.int .i64, a2⟩]
noncomputable def slices_Clone_hydra_hydra.f (k : Nat) (a0 : List Hydra) : Option (List Hydra) := runF tab ext k 115 [⟨.sl (.ap 1), a0⟩]
noncomputable def impl_hydra__row.f (k : Nat) (a0 : List Hydra) : Option (List Int) := runF tab ext k 116 [⟨.sl (.ap 1), a0⟩]
noncomputable def impl_hydra__row.l0 (k : Nat) (x3 : List Int) (x9 : List Hydra) (x10 : Int) (x11 : Int) : Option (List Int) := runL tab ext k 116 (todoAt tab 116 3) (stAt tab 116 [(3, .ref 15), (9, mkVal true (.sl (.ap 1)) x9), (10, mkVal false (.int .i64) x10), (11, mkVal false (.int .i64) x11)] [(15, .sl false false (.int .i64) x3)])
end Go.Proofs.Ytigeaijocajnhaa.Eng
