import Derived.Test.YtkgpkalclblhbaaGreatDoorE3
import Derived.Test.YtkgpkalclblhbaaGreatDoorProg
import Derived.Lib.LaidTab
import Derived.Lib.Itoa
namespace Go.Proofs.YtkgpkalclblhbaaGreatDoor.Eng
open Go
noncomputable def tabName : String := ((Tryz.prog.globals[3]?).map (·.name)).getD default
noncomputable def tabQ (w : World) : Prop := Lib.TabIs Tryz.prog w tabName .u64 Lib.pow10Tab ∧ (∃ m, w.cell? ⟨0, 0, none⟩ = some (.int .i64 m)) ∧ (∃ a b, w.cell? ⟨1, 0, none⟩ = some (.iface a b)) ∧ (∃ a b, w.cell? ⟨2, 0, none⟩ = some (.iface a b))
-- 5 laws.FnExactBattleSay
noncomputable def fn5 : FnT := ⟨(Tryz.f5.body.getD .skip), 135, Tryz.f5.results.toList, [(.ap 4, .ln), (.sl (.str), .ln)], [(.bool, ⟨false, false, false, false, false⟩)], [], [6, 8, 10, 15, 29, 32, 36, 38, 42, 57, 106, 109], [], []⟩
-- 9 impl.BattleLine
noncomputable def fn9 : FnT := ⟨(Tryz.f9.body.getD .skip), 37, Tryz.f9.results.toList, [(.ap 4, .ln), (.str, .ln)], [(.sl (.int .i64), ⟨true, false, false, false, false⟩), (.int .i64, ⟨false, false, false, false, false⟩), (.sl (.int .i64), ⟨true, false, false, false, false⟩), (.sl (.int .i64), ⟨true, false, false, false, false⟩), (.str, ⟨false, false, false, false, false⟩)], [], [4, 8, 13, 23, 33], [some (.ap 4), none], []⟩
-- 10 spec.BattleLine
noncomputable def fn10 : FnT := ⟨(Tryz.f10.body.getD .skip), 113, Tryz.f10.results.toList, [(.ap 4, .ln), (.str, .ln)], [(.ap 4, ⟨false, false, false, false, false⟩), (.str, ⟨false, false, false, false, false⟩)], [(1000016, [(1, .val false), (2, .ptr), (4, .ptr), (6, .ptr), (9, .val false), (11, .val false)]), (1000024, [(1, .val false), (2, .ptr), (4, .ptr), (6, .ptr), (11, .val false)]), (1000028, [(1, .val false), (4, .ptr), (6, .ptr)])], [], [], []⟩
-- 12 spec.BattleValid
noncomputable def fn12 : FnT := ⟨(Tryz.f12.body.getD .skip), 22, Tryz.f12.results.toList, [(.ap 4, .ln)], [(.bool, ⟨false, false, false, false, false⟩)], [], [], [], []⟩
-- 16 impl.BattleValid
noncomputable def fn16 : FnT := ⟨(Tryz.f16.body.getD .skip), 22, Tryz.f16.results.toList, [(.ap 4, .ln)], [(.bool, ⟨false, false, false, false, false⟩)], [], [], [], []⟩
-- 18 laws.szBattle
noncomputable def fn18 : FnT := ⟨(Tryz.f18.body.getD .skip), 24, Tryz.f18.results.toList, [(.ap 4, .ln), (.int .i64, .ln)], [(.int .i64, ⟨false, false, false, false, false⟩)], [], [], [], []⟩
-- 19 laws.toBattle
noncomputable def fn19 : FnT := ⟨(Tryz.f19.body.getD .skip), 20, Tryz.f19.results.toList, [(.ap 4, .ln)], [(.sl (.int .i64), ⟨true, false, false, false, false⟩), (.int .i64, ⟨false, false, false, false, false⟩), (.sl (.int .i64), ⟨true, false, false, false, false⟩), (.sl (.int .i64), ⟨true, false, false, false, false⟩)], [], [2, 3, 6, 13, 17], [some (.ap 4)], []⟩
-- 20 laws.eqBattle
noncomputable def fn20 : FnT := ⟨(Tryz.f20.body.getD .skip), 28, Tryz.f20.results.toList, [(.ap 4, .ln), (.ap 4, .ln)], [(.bool, ⟨false, false, false, false, false⟩)], [], [], [], []⟩
-- 21 laws.markBattle
noncomputable def fn21 : FnT := ⟨(Tryz.f21.body.getD .skip), 18, Tryz.f21.results.toList, [(.sl (.int .i64), .io), (.int .i64, .ln), (.sl (.int .i64), .io), (.sl (.int .i64), .io), (.int .i64, .ln)], [(.int .i64, ⟨false, false, false, false, false⟩)], [], [2], [], [some (.ap 4), none]⟩
-- 22 laws.heldBattle
noncomputable def fn22 : FnT := ⟨(Tryz.f22.body.getD .skip), 24, Tryz.f22.results.toList, [(.ap 4, .ln), (.int .i64, .ln)], [(.int .i64, ⟨false, false, false, false, false⟩)], [], [], [], []⟩
-- 23 laws.szStringS
noncomputable def fn23 : FnT := ⟨(Tryz.f23.body.getD .skip), 28, Tryz.f23.results.toList, [(.sl (.str), .ln), (.int .i64, .ln)], [(.int .i64, ⟨false, false, false, false, false⟩)], [(5, [(0, .val true), (1, .val false), (5, .val false)])], [], [], []⟩
-- 24 spec.BattleSay
noncomputable def fn24 : FnT := ⟨(Tryz.f24.body.getD .skip), 48, Tryz.f24.results.toList, [(.ap 4, .ln), (.sl (.str), .ln)], [(.ap 4, ⟨false, false, false, false, false⟩), (.sl (.str), ⟨true, false, false, false, false⟩)], [(6, [(1, .val true), (4, .ptr), (6, .own false), (7, .ptr), (8, .val false)])], [11, 45], [], []⟩
-- 25 laws.toStringS
noncomputable def fn25 : FnT := ⟨(Tryz.f25.body.getD .skip), 22, Tryz.f25.results.toList, [(.sl (.str), .ln)], [(.sl (.str), ⟨true, false, false, false, false⟩)], [(3, [(0, .val true), (3, .own false), (4, .val false)])], [7], [], []⟩
-- 26 impl.BattleSay
noncomputable def fn26 : FnT := ⟨(Tryz.f26.body.getD .skip), 45, Tryz.f26.results.toList, [(.ap 4, .ln), (.sl (.str), .ln)], [(.sl (.int .i64), ⟨true, false, false, false, false⟩), (.int .i64, ⟨false, false, false, false, false⟩), (.sl (.int .i64), ⟨true, false, false, false, false⟩), (.sl (.int .i64), ⟨true, false, false, false, false⟩), (.sl (.str), ⟨true, false, false, false, false⟩)], [(6, [(2, .bx (.ap 4) [.own false, .val false, .own false, .own false]), (4, .bx (.ap 4) [.own false, .val false, .own false, .own false]), (6, .own false), (25, .val true), (26, .val false), (27, .val false)])], [2, 4, 9, 19, 20, 24, 34, 41], [some (.ap 4), none], []⟩
-- 27 laws.eqStringS
noncomputable def fn27 : FnT := ⟨(Tryz.f27.body.getD .skip), 26, Tryz.f27.results.toList, [(.sl (.str), .ln), (.sl (.str), .ln)], [(.bool, ⟨false, false, false, false, false⟩)], [(4, [(0, .val true), (1, .val true), (5, .val false)])], [], [], []⟩
-- 28 laws.markStringS
noncomputable def fn28 : FnT := ⟨(Tryz.f28.body.getD .skip), 20, Tryz.f28.results.toList, [(.sl (.str), .io), (.int .i64, .ln)], [(.int .i64, ⟨false, false, false, false, false⟩)], [(2, [(0, .ptr), (1, .val false), (5, .val false)])], [], [], []⟩
-- 29 laws.heldStringS
noncomputable def fn29 : FnT := ⟨(Tryz.f29.body.getD .skip), 22, Tryz.f29.results.toList, [(.sl (.str), .ln), (.int .i64, .ln)], [(.int .i64, ⟨false, false, false, false, false⟩)], [(2, [(0, .val true), (1, .val false), (5, .val false)])], [], [], []⟩
-- 39 impl.ActText
noncomputable def fn39 : FnT := ⟨(Tryz.f39.body.getD .skip), 29, Tryz.f39.results.toList, [(.ap 3, .ln)], [(.str, ⟨false, false, false, false, false⟩)], [(1000009, [(1, .ptr), (3, .val false)])], [], [], []⟩
-- 45 impl.ReadAct
noncomputable def fn45 : FnT := ⟨(Tryz.f45.body.getD .skip), 47, Tryz.f45.results.toList, [(.str, .ln)], [(.ap 3, ⟨false, false, false, false, false⟩), (.bool, ⟨false, false, false, false, false⟩)], [(4, [(0, .val false), (2, .ptr), (4, .val false), (7, .val false), (8, .val false), (23, .val false), (24, .val false), (25, .val false)])], [], [], []⟩
-- 46 impl.BattleDo
noncomputable def fn46 : FnT := ⟨(Tryz.f46.body.getD .skip), 22, Tryz.f46.results.toList, [(.ap 4, .ln), (.ap 3, .ln)], [(.sl (.int .i64), ⟨true, false, false, false, false⟩), (.int .i64, ⟨false, false, false, false, false⟩), (.sl (.int .i64), ⟨true, false, false, false, false⟩), (.sl (.int .i64), ⟨true, false, false, false, false⟩), (.bool, ⟨false, false, false, false, false⟩)], [], [4, 11, 20], [some (.ap 4), none], []⟩
-- 47 impl.withCuts
noncomputable def fn47 : FnT := ⟨(Tryz.f47.body.getD .skip), 25, Tryz.f47.results.toList, [(.ap 4, .ln), (.sl (.int .i64), .ln)], [(.sl (.int .i64), ⟨true, false, false, false, false⟩), (.int .i64, ⟨false, false, false, false, false⟩), (.sl (.int .i64), ⟨true, false, false, false, false⟩), (.sl (.int .i64), ⟨true, false, false, false, false⟩)], [], [4, 13, 18, 22, 24], [some (.ap 4)], []⟩
-- 48 impl.answer
noncomputable def fn48 : FnT := ⟨(Tryz.f48.body.getD .skip), 53, Tryz.f48.results.toList, [(.ap 4, .ln), (.str, .ln)], [(.str, ⟨false, false, false, false, false⟩)], [], [], [], []⟩
-- 49 spec.l10With
noncomputable def fn49 : FnT := ⟨(Tryz.f49.body.getD .skip), 29, Tryz.f49.results.toList, [(.ap 4, .ln), (.sl (.int .i64), .ln)], [(.ap 4, ⟨false, false, false, false, false⟩)], [], [13], [], []⟩
-- 50 spec.ReadAct
noncomputable def fn50 : FnT := ⟨(Tryz.f50.body.getD .skip), 32, Tryz.f50.results.toList, [(.str, .ln)], [(.ap 3, ⟨false, false, false, false, false⟩), (.bool, ⟨false, false, false, false, false⟩)], [(2, [(0, .val false), (2, .ptr), (4, .val false)])], [], [], []⟩
-- 51 spec.HydraOrd
noncomputable def fn51 : FnT := ⟨(Tryz.f51.body.getD .skip), 13, Tryz.f51.results.toList, [(.sl (.int .i64), .ln)], [(.sl (.int .i64), ⟨false, false, false, false, false⟩), (.bool, ⟨false, false, false, false, false⟩)], [], [], [], []⟩
-- 52 spec.BattleLeft
noncomputable def fn52 : FnT := ⟨(Tryz.f52.body.getD .skip), 11, Tryz.f52.results.toList, [(.ap 4, .ln)], [(.int .i64, ⟨false, false, false, false, false⟩)], [], [], [], []⟩
-- 53 spec.BattleDo
noncomputable def fn53 : FnT := ⟨(Tryz.f53.body.getD .skip), 108, Tryz.f53.results.toList, [(.ap 4, .ln), (.ap 3, .ln)], [(.ap 4, ⟨false, false, false, false, false⟩), (.bool, ⟨false, false, false, false, false⟩)], [(13, [(2, .ptr), (3, .ptr), (4, .ptr), (6, .ptr), (7, .own false), (8, .val true), (9, .val false)]), (1000009, [(2, .ptr), (3, .ptr), (4, .ptr), (7, .own false)]), (1000010, [(2, .ptr), (3, .ptr), (4, .ptr), (6, .ptr), (7, .own false)]), (1000021, [(2, .ptr), (4, .ptr), (6, .ptr), (7, .own false)])], [23, 26, 36, 91], [], []⟩
-- 54 spec.HydraText
noncomputable def fn54 : FnT := ⟨(Tryz.f54.body.getD .skip), 8, Tryz.f54.results.toList, [(.sl (.int .i64), .ln)], [(.str, ⟨false, false, false, false, false⟩)], [], [], [], []⟩
-- 55 spec.OrdText
noncomputable def fn55 : FnT := ⟨(Tryz.f55.body.getD .skip), 8, Tryz.f55.results.toList, [(.sl (.int .i64), .ln)], [(.str, ⟨false, false, false, false, false⟩)], [], [], [], []⟩
-- 56 spec.l1Number
noncomputable def fn56 : FnT := ⟨(Tryz.f56.body.getD .skip), 20, Tryz.f56.results.toList, [(.int .i64, .ln)], [(.str, ⟨false, false, false, false, false⟩)], [], [], [], []⟩
-- 57 spec.HydraHeads
noncomputable def fn57 : FnT := ⟨(Tryz.f57.body.getD .skip), 22, Tryz.f57.results.toList, [(.sl (.int .i64), .ln)], [(.int .i64, ⟨false, false, false, false, false⟩)], [(5, [(0, .val true), (3, .val false), (4, .val false)])], [], [], []⟩
-- 58 spec.HydraRun
noncomputable def fn58 : FnT := ⟨(Tryz.f58.body.getD .skip), 50, Tryz.f58.results.toList, [(.sl (.int .i64), .ln), (.sl (.int .i64), .ln), (.int .i64, .ln)], [(.sl (.int .i64), ⟨true, false, false, false, false⟩), (.bool, ⟨false, false, false, false, false⟩)], [(5, [(1, .val true), (2, .val false), (8, .own false), (9, .val false)])], [25, 26, 28, 42, 47], [], []⟩
-- 59 spec.l1Same
noncomputable def fn59 : FnT := ⟨(Tryz.f59.body.getD .skip), 32, Tryz.f59.results.toList, [(.sl (.int .i64), .ln), (.sl (.int .i64), .ln)], [(.bool, ⟨false, false, false, false, false⟩)], [(2, [(0, .val true), (1, .val true), (5, .val false)])], [], [], []⟩
-- 62 impl.grown
noncomputable def fn62 : FnT := ⟨(Tryz.f62.body.getD .skip), 12, Tryz.f62.results.toList, [(.sl (.ap 1), .ln)], [(.sl (.int .i64), ⟨true, false, false, false, false⟩), (.bool, ⟨false, false, false, false, false⟩)], [], [6, 11], [], []⟩
-- 63 impl.HydraRun
noncomputable def fn63 : FnT := ⟨(Tryz.f63.body.getD .skip), 49, Tryz.f63.results.toList, [(.sl (.int .i64), .ln), (.sl (.int .i64), .ln), (.int .i64, .ln)], [(.sl (.int .i64), ⟨true, false, false, false, false⟩), (.bool, ⟨false, false, false, false, false⟩)], [(5, [(2, .val false), (8, .own false), (31, .val true), (32, .val false), (33, .val false)])], [30, 41], [], []⟩
-- 64 slices.Equal[[]int,int]
noncomputable def fn64 : FnT := ⟨(Tryz.f64.body.getD .skip), 26, Tryz.f64.results.toList, [(.sl (.int .i64), .ln), (.sl (.int .i64), .ln)], [(.bool, ⟨false, false, false, false, false⟩)], [(4, [(0, .val true), (1, .val true), (12, .val false), (13, .val false)])], [], [], []⟩
-- 65 laws.szIntS
noncomputable def fn65 : FnT := ⟨(Tryz.f65.body.getD .skip), 12, Tryz.f65.results.toList, [(.sl (.int .i64), .ln), (.int .i64, .ln)], [(.int .i64, ⟨false, false, false, false, false⟩)], [], [], [], []⟩
-- 66 laws.toIntS
noncomputable def fn66 : FnT := ⟨(Tryz.f66.body.getD .skip), 22, Tryz.f66.results.toList, [(.sl (.int .i64), .ln)], [(.sl (.int .i64), ⟨true, false, false, false, false⟩)], [(3, [(0, .val true), (3, .own false), (4, .val false)])], [7], [], []⟩
-- 67 laws.eqIntS
noncomputable def fn67 : FnT := ⟨(Tryz.f67.body.getD .skip), 26, Tryz.f67.results.toList, [(.sl (.int .i64), .ln), (.sl (.int .i64), .ln)], [(.bool, ⟨false, false, false, false, false⟩)], [(4, [(0, .val true), (1, .val true), (5, .val false)])], [], [], []⟩
-- 68 laws.markIntS
noncomputable def fn68 : FnT := ⟨(Tryz.f68.body.getD .skip), 19, Tryz.f68.results.toList, [(.sl (.int .i64), .io), (.int .i64, .ln)], [(.int .i64, ⟨false, false, false, false, false⟩)], [(2, [(0, .ptr), (1, .val false), (5, .val false)])], [], [], []⟩
-- 69 laws.heldIntS
noncomputable def fn69 : FnT := ⟨(Tryz.f69.body.getD .skip), 21, Tryz.f69.results.toList, [(.sl (.int .i64), .ln), (.int .i64, .ln)], [(.int .i64, ⟨false, false, false, false, false⟩)], [(2, [(0, .val true), (1, .val false), (5, .val false)])], [], [], []⟩
-- 70 laws.markText
noncomputable def fn70 : FnT := ⟨(Tryz.f70.body.getD .skip), 20, Tryz.f70.results.toList, [(.int .i64, .ln)], [(.str, ⟨false, false, false, false, false⟩)], [(4, [(0, .val false), (3, .val false)])], [], [], []⟩
-- 73 impl.HydraOrd
noncomputable def fn73 : FnT := ⟨(Tryz.f73.body.getD .skip), 18, Tryz.f73.results.toList, [(.sl (.int .i64), .ln)], [(.sl (.int .i64), ⟨true, false, false, false, false⟩), (.bool, ⟨false, false, false, false, false⟩)], [], [15], [], []⟩
-- 74 impl.HydraCut
noncomputable def fn74 : FnT := ⟨(Tryz.f74.body.getD .skip), 47, Tryz.f74.results.toList, [(.sl (.int .i64), .ln), (.int .i64, .ln), (.int .i64, .ln)], [(.sl (.int .i64), ⟨true, false, false, false, false⟩), (.bool, ⟨false, false, false, false, false⟩)], [], [44], [], []⟩
-- 75 impl.ordOf
noncomputable def fn75 : FnT := ⟨(Tryz.f75.body.getD .skip), 28, Tryz.f75.results.toList, [(.sl (.int .i64), .ln)], [(.sl (.ap 0), ⟨true, false, false, false, false⟩), (.bool, ⟨false, false, false, false, false⟩)], [], [17], [], []⟩
-- 76 impl.compare
noncomputable def fn76 : FnT := ⟨(Tryz.f76.body.getD .skip), 53, Tryz.f76.results.toList, [(.sl (.ap 0), .ln), (.sl (.ap 0), .ln)], [(.int .i64, ⟨false, false, false, false, false⟩)], [(2, [(0, .val true), (1, .val true), (5, .val false)])], [], [], []⟩
-- 80 strings.Cut
noncomputable def fn80 : FnT := ⟨(Tryz.f80.body.getD .skip), 13, Tryz.f80.results.toList, [(.str, .ln), (.str, .ln)], [(.str, ⟨false, false, false, false, false⟩), (.str, ⟨false, false, false, false, false⟩), (.bool, ⟨false, false, false, false, false⟩)], [], [], [], []⟩
-- 82 strconv.Itoa
noncomputable def fn82 : FnT := ⟨(Tryz.f82.body.getD .skip), 5, Tryz.f82.results.toList, [(.int .i64, .ln)], [(.str, ⟨false, false, false, false, false⟩)], [], [], [], []⟩
-- 84 spec.BattleNew
noncomputable def fn84 : FnT := ⟨(Tryz.f84.body.getD .skip), 23, Tryz.f84.results.toList, [(.sl (.int .i64), .ln), (.int .i64, .ln)], [(.ap 4, ⟨false, false, false, false, false⟩)], [], [14, 19], [], []⟩
-- 86 spec.ActText
noncomputable def fn86 : FnT := ⟨(Tryz.f86.body.getD .skip), 23, Tryz.f86.results.toList, [(.ap 3, .ln)], [(.str, ⟨false, false, false, false, false⟩)], [], [], [], []⟩
-- 87 strconv.Atoi
noncomputable def fn87 : FnT := ⟨(Tryz.f87.body.getD .skip), 18, Tryz.f87.results.toList, [(.str, .ln)], [(.int .i64, ⟨false, false, false, false, false⟩), (.err, ⟨false, false, false, false, false⟩)], [], [], [], []⟩
-- 88 impl.did
noncomputable def fn88 : FnT := ⟨(Tryz.f88.body.getD .skip), 111, Tryz.f88.results.toList, [(.ap 4, .ln), (.ap 3, .ln)], [(.sl (.int .i64), ⟨false, true, false, false, false⟩), (.bool, ⟨false, false, false, false, false⟩)], [(14, [(2, .ptr), (8, .own false), (9, .val true), (84, .val false), (85, .val false)]), (1000005, [(2, .ptr), (3, .ptr)]), (1000008, [(2, .ptr), (3, .ptr)])], [36, 67, 105], [], []⟩
-- 89 slices.Clone[[]int,int]
noncomputable def fn89 : FnT := ⟨(Tryz.f89.body.getD .skip), 8, Tryz.f89.results.toList, [(.sl (.int .i64), .ln)], [(.sl (.int .i64), ⟨true, false, false, false, false⟩)], [], [5, 7], [], []⟩
-- 90 impl.HydraText
noncomputable def fn90 : FnT := ⟨(Tryz.f90.body.getD .skip), 14, Tryz.f90.results.toList, [(.sl (.int .i64), .ln)], [(.str, ⟨false, false, false, false, false⟩)], [], [], [], []⟩
-- 91 impl.OrdText
noncomputable def fn91 : FnT := ⟨(Tryz.f91.body.getD .skip), 14, Tryz.f91.results.toList, [(.sl (.int .i64), .ln)], [(.str, ⟨false, false, false, false, false⟩)], [], [], [], []⟩
-- 92 impl.HydraHeads
noncomputable def fn92 : FnT := ⟨(Tryz.f92.body.getD .skip), 14, Tryz.f92.results.toList, [(.sl (.int .i64), .ln)], [(.int .i64, ⟨false, false, false, false, false⟩)], [], [], [], []⟩
-- 93 impl.BattleLeft
noncomputable def fn93 : FnT := ⟨(Tryz.f93.body.getD .skip), 11, Tryz.f93.results.toList, [(.ap 4, .ln)], [(.int .i64, ⟨false, false, false, false, false⟩)], [], [], [], []⟩
-- 94 spec.l10Small
noncomputable def fn94 : FnT := ⟨(Tryz.f94.body.getD .skip), 44, Tryz.f94.results.toList, [(.str, .ln)], [(.int .i64, ⟨false, false, false, false, false⟩)], [(5, [(0, .val false), (3, .val false), (4, .val false)])], [], [], []⟩
-- 95 spec.HydraValid
noncomputable def fn95 : FnT := ⟨(Tryz.f95.body.getD .skip), 13, Tryz.f95.results.toList, [(.sl (.int .i64), .ln)], [(.bool, ⟨false, false, false, false, false⟩)], [], [], [], []⟩
-- 96 spec.l2Fit
noncomputable def fn96 : FnT := ⟨(Tryz.f96.body.getD .skip), 9, Tryz.f96.results.toList, [(.sl (.int .i64), .ln)], [(.sl (.int .i64), ⟨false, true, false, false, false⟩), (.bool, ⟨false, false, false, false, false⟩)], [], [], [], []⟩
-- 97 spec.l5Ord
noncomputable def fn97 : FnT := ⟨(Tryz.f97.body.getD .skip), 27, Tryz.f97.results.toList, [(.sl (.int .i64), .ln)], [(.sl (.int .i64), ⟨true, false, false, false, false⟩)], [(4, [(3, .val true), (4, .own false), (5, .val false)])], [9, 16, 25], [], []⟩
-- 98 spec.HydraFight
noncomputable def fn98 : FnT := ⟨(Tryz.f98.body.getD .skip), 36, Tryz.f98.results.toList, [(.sl (.int .i64), .ln), (.int .i64, .ln)], [(.int .i64, ⟨false, false, false, false, false⟩)], [(4, [(0, .val true), (1, .val false), (5, .val false)])], [], [], []⟩
-- 99 spec.l1In
noncomputable def fn99 : FnT := ⟨(Tryz.f99.body.getD .skip), 15, Tryz.f99.results.toList, [(.int .i64, .ln), (.int .i64, .ln), (.int .i64, .ln)], [(.bool, ⟨false, false, false, false, false⟩)], [], [], [], []⟩
-- 100 spec.HydraCut
noncomputable def fn100 : FnT := ⟨(Tryz.f100.body.getD .skip), 39, Tryz.f100.results.toList, [(.sl (.int .i64), .ln), (.int .i64, .ln), (.int .i64, .ln)], [(.sl (.int .i64), ⟨true, false, false, false, false⟩), (.bool, ⟨false, false, false, false, false⟩)], [], [26, 31, 37], [], []⟩
-- 101 spec.l5Text
noncomputable def fn101 : FnT := ⟨(Tryz.f101.body.getD .skip), 23, Tryz.f101.results.toList, [(.sl (.int .i64), .ln)], [(.str, ⟨false, false, false, false, false⟩)], [(4, [(3, .val false), (4, .val true), (5, .val false)])], [], [], []⟩
-- 102 spec.OrdValid
noncomputable def fn102 : FnT := ⟨(Tryz.f102.body.getD .skip), 13, Tryz.f102.results.toList, [(.sl (.int .i64), .ln)], [(.bool, ⟨false, false, false, false, false⟩)], [], [], [], []⟩
-- 103 spec.l1Text
noncomputable def fn103 : FnT := ⟨(Tryz.f103.body.getD .skip), 104, Tryz.f103.results.toList, [(.sl (.int .i64), .ln)], [(.str, ⟨false, false, false, false, false⟩)], [(6, [(3, .val false), (4, .val true), (5, .val false), (6, .val false)]), (1000010, [(3, .val false), (4, .val true), (5, .val false), (6, .val false)]), (1000011, [(3, .val false), (4, .val true), (5, .val false), (6, .val false)]), (1000017, [(3, .val false), (4, .val true), (5, .val false), (6, .val false)]), (1000018, [(3, .val false), (4, .val true), (5, .val false), (6, .val false)]), (1000019, [(3, .val false), (4, .val true), (5, .val false), (6, .val false)])], [], [], []⟩
-- 104 impl.rowOf
noncomputable def fn104 : FnT := ⟨(Tryz.f104.body.getD .skip), 27, Tryz.f104.results.toList, [(.sl (.ap 0), .ln)], [(.sl (.int .i64), ⟨true, false, false, false, false⟩)], [(3, [(3, .own false), (9, .val true), (10, .val false), (11, .val false)])], [8, 19, 24], [], []⟩
-- 106 (impl.hydra).row
noncomputable def fn106 : FnT := ⟨(Tryz.f106.body.getD .skip), 21, Tryz.f106.results.toList, [(.sl (.ap 1), .ln)], [(.sl (.int .i64), ⟨true, false, false, false, false⟩)], [(3, [(3, .own false), (9, .val true), (10, .val false), (11, .val false)])], [8, 18], [], []⟩
-- 107 slices.Clip[[]int,int]
noncomputable def fn107 : FnT := ⟨(Tryz.f107.body.getD .skip), 9, Tryz.f107.results.toList, [(.sl (.int .i64), .mv)], [(.sl (.int .i64), ⟨true, false, false, false, false⟩)], [], [8], [], []⟩
-- 108 impl.HydraValid
noncomputable def fn108 : FnT := ⟨(Tryz.f108.body.getD .skip), 11, Tryz.f108.results.toList, [(.sl (.int .i64), .ln)], [(.bool, ⟨false, false, false, false, false⟩)], [], [], [], []⟩
-- 109 impl.hydraOf
noncomputable def fn109 : FnT := ⟨(Tryz.f109.body.getD .skip), 28, Tryz.f109.results.toList, [(.sl (.int .i64), .ln)], [(.sl (.ap 1), ⟨true, false, false, false, false⟩), (.bool, ⟨false, false, false, false, false⟩)], [], [17], [], []⟩
-- 110 impl.told
noncomputable def fn110 : FnT := ⟨(Tryz.f110.body.getD .skip), 15, Tryz.f110.results.toList, [(.sl (.ap 0), .ln)], [(.sl (.int .i64), ⟨true, false, false, false, false⟩), (.bool, ⟨false, false, false, false, false⟩)], [], [13, 14], [], []⟩
-- 111 (impl.hydra).ord
noncomputable def fn111 : FnT := ⟨(Tryz.f111.body.getD .skip), 20, Tryz.f111.results.toList, [(.sl (.ap 1), .ln)], [(.sl (.ap 0), ⟨false, false, false, false, false⟩)], [(3, [(3, .val false), (7, .val true), (8, .val false), (9, .val false)])], [], [], []⟩
-- 112 (impl.hydra).heads
noncomputable def fn112 : FnT := ⟨(Tryz.f112.body.getD .skip), 23, Tryz.f112.results.toList, [(.sl (.ap 1), .ln)], [(.int .i64, ⟨false, false, false, false, false⟩)], [(3, [(3, .val false), (6, .val true), (7, .val false), (8, .val false)]), (1000007, [(3, .val false), (5, .val true), (6, .val true), (7, .val false), (8, .val false)])], [], [], []⟩
-- 113 (impl.hydra).cut
noncomputable def fn113 : FnT := ⟨(Tryz.f113.body.getD .skip), 75, Tryz.f113.results.toList, [(.sl (.ap 1), .ln), (.int .i64, .ptr), (.int .i64, .ln), (.bool, .ln)], [(.sl (.ap 1), ⟨false, true, false, false, false⟩), (.bool, ⟨false, false, false, false, false⟩)], [(2, [(0, .val true), (1, .ptr), (2, .val false), (15, .val true), (16, .val false), (17, .val false)]), (15, [(0, .val true), (1, .ptr), (10, .val false), (12, .val true), (14, .own true), (59, .val false), (60, .val false)]), (1000014, [(0, .val true), (1, .ptr), (2, .val false), (10, .val false), (12, .val true), (14, .own true)])], [32, 56, 65], [], []⟩
-- 114 impl.takeOrd
noncomputable def fn114 : FnT := ⟨(Tryz.f114.body.getD .skip), 81, Tryz.f114.results.toList, [(.sl (.int .i64), .ln)], [(.sl (.ap 0), ⟨true, false, false, false, false⟩), (.sl (.int .i64), ⟨false, true, false, false, false⟩), (.bool, ⟨false, false, false, false, false⟩)], [(9, [(0, .val true), (6, .own false), (26, .val false), (27, .val false)])], [19, 76], [], []⟩
-- 115 cmp.Compare[int]
noncomputable def fn115 : FnT := ⟨(Tryz.f115.body.getD .skip), 20, Tryz.f115.results.toList, [(.int .i64, .ln), (.int .i64, .ln)], [(.int .i64, ⟨false, false, false, false, false⟩)], [], [], [], []⟩
-- 121 (impl.hydra).text
noncomputable def fn121 : FnT := ⟨(Tryz.f121.body.getD .skip), 19, Tryz.f121.results.toList, [(.sl (.ap 1), .ln)], [(.str, ⟨false, false, false, false, false⟩)], [(3, [(3, .val false), (6, .val true), (7, .val false), (8, .val false)])], [], [], []⟩
-- 122 impl.textOf
noncomputable def fn122 : FnT := ⟨(Tryz.f122.body.getD .skip), 74, Tryz.f122.results.toList, [(.sl (.ap 0), .ln)], [(.str, ⟨false, false, false, false, false⟩)], [(5, [(3, .own false), (12, .val true), (13, .val false), (14, .val false)]), (1000016, [(3, .own false), (5, .ptr), (6, .val false), (12, .val true), (13, .val false), (14, .val false)]), (1000018, [(3, .own false), (6, .val false), (12, .val true), (13, .val false), (14, .val false)])], [11, 34, 70], [], []⟩
-- 123 impl.HydraFight
noncomputable def fn123 : FnT := ⟨(Tryz.f123.body.getD .skip), 40, Tryz.f123.results.toList, [(.sl (.int .i64), .ln), (.int .i64, .ln)], [(.int .i64, ⟨false, false, false, false, false⟩)], [(4, [(0, .val true), (1, .val false), (5, .val false)])], [], [], []⟩
-- 124 spec.l5End
noncomputable def fn124 : FnT := ⟨(Tryz.f124.body.getD .skip), 38, Tryz.f124.results.toList, [(.sl (.int .i64), .ln), (.int .i64, .ln)], [(.int .i64, ⟨false, false, false, false, false⟩)], [(6, [(0, .val true), (1, .val false), (5, .val false), (6, .val false)])], [], [], []⟩
-- 125 spec.l5Branches
noncomputable def fn125 : FnT := ⟨(Tryz.f125.body.getD .skip), 23, Tryz.f125.results.toList, [(.sl (.int .i64), .ln)], [(.sl (.sl (.int .i64)), ⟨true, true, false, false, false⟩)], [(3, [(0, .val true), (3, .own true), (4, .val false)])], [6, 20], [], []⟩
-- 126 spec.l5Add
noncomputable def fn126 : FnT := ⟨(Tryz.f126.body.getD .skip), 95, Tryz.f126.results.toList, [(.sl (.int .i64), .ln), (.sl (.int .i64), .ln)], [(.sl (.int .i64), ⟨true, false, false, false, false⟩)], [(7, [(5, .val false), (6, .val true), (8, .val true), (9, .own false), (10, .own true), (11, .val false), (12, .val false)]), (1000011, [(5, .val false), (6, .val true), (8, .val true), (9, .own false), (10, .own true), (12, .val false), (13, .val false)]), (1000014, [(5, .val false), (6, .val true), (8, .val true), (9, .own false), (10, .own true), (11, .val false), (12, .val false), (13, .val false)])], [24, 25, 48, 54, 61, 68, 85, 91, 94], [], []⟩
-- 127 spec.l5Cut
noncomputable def fn127 : FnT := ⟨(Tryz.f127.body.getD .skip), 82, Tryz.f127.results.toList, [(.sl (.int .i64), .ln), (.int .i64, .ln), (.int .i64, .ln)], [(.sl (.int .i64), ⟨true, false, false, false, false⟩), (.bool, ⟨false, false, false, false, false⟩)], [(5, [(1, .val false), (2, .val false), (8, .val true), (9, .own true), (10, .val false), (11, .val false)]), (17, [(2, .val false), (8, .val true), (9, .own true), (10, .val false), (11, .val false), (13, .val false), (14, .val false), (15, .val false)]), (1000009, [(1, .val false), (2, .val false), (8, .val true), (9, .own true), (10, .val false), (11, .val false), (12, .val false)])], [18, 43, 66, 78, 80], [], []⟩
-- 128 spec.l1End
noncomputable def fn128 : FnT := ⟨(Tryz.f128.body.getD .skip), 72, Tryz.f128.results.toList, [(.sl (.int .i64), .ln), (.int .i64, .ln)], [(.int .i64, ⟨false, false, false, false, false⟩)], [(7, [(0, .val true), (1, .val false), (5, .val false), (6, .val true), (7, .val false)])], [], [], []⟩
-- 129 spec.l1Terms
noncomputable def fn129 : FnT := ⟨(Tryz.f129.body.getD .skip), 36, Tryz.f129.results.toList, [(.sl (.int .i64), .ln)], [(.sl (.int .i64), ⟨true, false, false, false, false⟩), (.sl (.sl (.int .i64)), ⟨true, true, false, false, false⟩)], [(4, [(0, .val true), (4, .own false), (5, .own true), (6, .val false)])], [8, 9, 24, 32], [], []⟩
-- 130 spec.OrdNumber
noncomputable def fn130 : FnT := ⟨(Tryz.f130.body.getD .skip), 31, Tryz.f130.results.toList, [(.sl (.int .i64), .ln)], [(.int .i64, ⟨false, false, false, false, false⟩)], [], [], [], []⟩
-- 131 impl.takeHydra
noncomputable def fn131 : FnT := ⟨(Tryz.f131.body.getD .skip), 50, Tryz.f131.results.toList, [(.sl (.int .i64), .ln)], [(.sl (.ap 1), ⟨true, false, false, false, false⟩), (.sl (.int .i64), ⟨false, true, false, false, false⟩), (.bool, ⟨false, false, false, false, false⟩)], [(7, [(0, .val true), (6, .own false), (31, .val false), (32, .val false)])], [30, 45], [], []⟩
-- 132 impl.sizeOf
noncomputable def fn132 : FnT := ⟨(Tryz.f132.body.getD .skip), 20, Tryz.f132.results.toList, [(.sl (.ap 0), .ln)], [(.int .i64, ⟨false, false, false, false, false⟩)], [(3, [(3, .val false), (6, .val true), (7, .val false), (8, .val false)])], [], [], []⟩
-- 133 impl.most
noncomputable def fn133 : FnT := ⟨(Tryz.f133.body.getD .skip), 21, Tryz.f133.results.toList, [(.sl (.ap 0), .ln)], [(.int .i64, ⟨false, false, false, false, false⟩)], [(3, [(3, .val false), (6, .val true), (7, .val false), (8, .val false)])], [], [], []⟩
-- 134 impl.natural
noncomputable def fn134 : FnT := ⟨(Tryz.f134.body.getD .skip), 73, Tryz.f134.results.toList, [(.sl (.ap 0), .ln), (.sl (.ap 0), .ln)], [(.sl (.ap 0), ⟨true, true, false, false, false⟩)], [(2, [(0, .val true), (1, .val true), (5, .own true)])], [7, 41, 54, 65, 70, 72], [], []⟩
-- 135 impl.power
noncomputable def fn135 : FnT := ⟨(Tryz.f135.body.getD .skip), 6, Tryz.f135.results.toList, [(.sl (.ap 0), .ln)], [(.sl (.ap 0), ⟨true, true, false, false, false⟩)], [], [5], [], []⟩
-- 136 slices.Delete[impl.hydra,impl.hydra]
noncomputable def fn136 : FnT := ⟨(Tryz.f136.body.getD .skip), 33, Tryz.f136.results.toList, [(.sl (.ap 1), .mv), (.int .i64, .ln), (.int .i64, .ln)], [(.sl (.ap 1), ⟨true, true, false, false, false⟩)], [], [26], [], []⟩
-- 137 slices.Clone[impl.hydra,impl.hydra]
noncomputable def fn137 : FnT := ⟨(Tryz.f137.body.getD .skip), 8, Tryz.f137.results.toList, [(.sl (.ap 1), .ln)], [(.sl (.ap 1), ⟨true, true, false, false, false⟩)], [], [5, 7], [], []⟩
-- 138 cmp.isNaN[int]
noncomputable def fn138 : FnT := ⟨(Tryz.f138.body.getD .skip), 6, Tryz.f138.results.toList, [(.int .i64, .ln)], [(.bool, ⟨false, false, false, false, false⟩)], [], [], [], []⟩
-- 141 spec.l5Tree
noncomputable def fn141 : FnT := ⟨(Tryz.f141.body.getD .skip), 21, Tryz.f141.results.toList, [(.sl (.sl (.int .i64)), .ln)], [(.sl (.int .i64), ⟨true, false, false, false, false⟩)], [(3, [(0, .val true), (3, .own false), (4, .val false)])], [7, 19], [], []⟩
-- 147 strings.Join
noncomputable def fn147 : FnT := ⟨(Tryz.f147.body.getD .skip), 75, Tryz.f147.results.toList, [(.sl (.str), .ln), (.str, .ln)], [(.str, ⟨false, false, false, false, false⟩)], [(12, [(0, .val false), (1, .val false), (5, .val false), (39, .val false), (40, .val false), (41, .val false)]), (22, [(1, .val false), (8, .val false), (63, .val false), (64, .val false), (65, .val false)]), (1000010, [(0, .val false), (1, .val false), (5, .val false)]), (1000011, [(0, .val false), (1, .val false), (5, .val false)]), (1000016, [(0, .val false), (1, .val false), (5, .val false), (7, .val false), (39, .val false), (40, .val false), (41, .val false)])], [], [], []⟩
-- 148 spec.l1Compare
noncomputable def fn148 : FnT := ⟨(Tryz.f148.body.getD .skip), 75, Tryz.f148.results.toList, [(.sl (.int .i64), .ln), (.sl (.int .i64), .ln)], [(.int .i64, ⟨false, false, false, false, false⟩)], [(4, [(5, .val false), (6, .val true), (7, .val false), (8, .val true), (9, .val false)])], [], [], []⟩
-- 149 spec.l1Make
noncomputable def fn149 : FnT := ⟨(Tryz.f149.body.getD .skip), 29, Tryz.f149.results.toList, [(.sl (.int .i64), .ln), (.sl (.sl (.int .i64)), .ln)], [(.sl (.int .i64), ⟨true, false, false, false, false⟩)], [(3, [(0, .val true), (1, .val true), (5, .own false), (6, .val false)])], [9, 22, 27], [], []⟩
-- 150 spec.l5Heads
noncomputable def fn150 : FnT := ⟨(Tryz.f150.body.getD .skip), 19, Tryz.f150.results.toList, [(.sl (.int .i64), .ln)], [(.int .i64, ⟨false, false, false, false, false⟩)], [(3, [(0, .val true), (3, .val false), (4, .val false)])], [], [], []⟩
-- 151 spec.l1Span
noncomputable def fn151 : FnT := ⟨(Tryz.f151.body.getD .skip), 23, Tryz.f151.results.toList, [(.sl (.int .i64), .ln), (.int .i64, .ln)], [(.int .i64, ⟨false, false, false, false, false⟩)], [(4, [(0, .val true), (1, .val false), (5, .val false), (6, .val false)])], [], [], []⟩
def tyOf : Nat → Option Ty
  | 3 => some (.int .i64)
  | 4 => some (.bool)
  | 5 => some (.int .u8)
  | 9 => some (.str)
  | 22 => some (.sl (.int .u8))
  | 23 => some (.sl (.int .i64))
  | 25 => some (.ap 4)
  | 36 => some (.ap 4)
  | 41 => some (.sl (.str))
  | 49 => some (.sl (.sl (.int .i64)))
  | 62 => some (.ap 3)
  | 85 => some (.sl (.ap 1))
  | 95 => some (.sl (.ap 0))
  | 110 => some (.err)
  | 130 => some (.ap 0)
  | _ => none
noncomputable def tab : Tab := ⟨tyOf, (fun
  | 5 => some fn5
  | 9 => some fn9
  | 10 => some fn10
  | 12 => some fn12
  | 16 => some fn16
  | 18 => some fn18
  | 19 => some fn19
  | 20 => some fn20
  | 21 => some fn21
  | 22 => some fn22
  | 23 => some fn23
  | 24 => some fn24
  | 25 => some fn25
  | 26 => some fn26
  | 27 => some fn27
  | 28 => some fn28
  | 29 => some fn29
  | 39 => some fn39
  | 45 => some fn45
  | 46 => some fn46
  | 47 => some fn47
  | 48 => some fn48
  | 49 => some fn49
  | 50 => some fn50
  | 51 => some fn51
  | 52 => some fn52
  | 53 => some fn53
  | 54 => some fn54
  | 55 => some fn55
  | 56 => some fn56
  | 57 => some fn57
  | 58 => some fn58
  | 59 => some fn59
  | 62 => some fn62
  | 63 => some fn63
  | 64 => some fn64
  | 65 => some fn65
  | 66 => some fn66
  | 67 => some fn67
  | 68 => some fn68
  | 69 => some fn69
  | 70 => some fn70
  | 73 => some fn73
  | 74 => some fn74
  | 75 => some fn75
  | 76 => some fn76
  | 80 => some fn80
  | 82 => some fn82
  | 84 => some fn84
  | 86 => some fn86
  | 87 => some fn87
  | 88 => some fn88
  | 89 => some fn89
  | 90 => some fn90
  | 91 => some fn91
  | 92 => some fn92
  | 93 => some fn93
  | 94 => some fn94
  | 95 => some fn95
  | 96 => some fn96
  | 97 => some fn97
  | 98 => some fn98
  | 99 => some fn99
  | 100 => some fn100
  | 101 => some fn101
  | 102 => some fn102
  | 103 => some fn103
  | 104 => some fn104
  | 106 => some fn106
  | 107 => some fn107
  | 108 => some fn108
  | 109 => some fn109
  | 110 => some fn110
  | 111 => some fn111
  | 112 => some fn112
  | 113 => some fn113
  | 114 => some fn114
  | 115 => some fn115
  | 121 => some fn121
  | 122 => some fn122
  | 123 => some fn123
  | 124 => some fn124
  | 125 => some fn125
  | 126 => some fn126
  | 127 => some fn127
  | 128 => some fn128
  | 129 => some fn129
  | 130 => some fn130
  | 131 => some fn131
  | 132 => some fn132
  | 133 => some fn133
  | 134 => some fn134
  | 135 => some fn135
  | 136 => some fn136
  | 137 => some fn137
  | 138 => some fn138
  | 141 => some fn141
  | 147 => some fn147
  | 148 => some fn148
  | 149 => some fn149
  | 150 => some fn150
  | 151 => some fn151
  | _ => none), tabQ, fun _ => none, fun _ => false⟩
noncomputable def ext : Ext tab := fun
  | 89 => some (onRow tab 89 (.int .i64) cloned)
  | 137 => some (onRow tab 137 (.ap 1) cloned)
  | 80 => some (onStr2 tab 80 (fun x => x))
  | 82 => some (onInt tab 82 (fun x => x))
  | 87 => some (onStr tab 87 (fun x => x))
  | 147 => some (onJoin tab 147 (fun x => x))
  | _ => none
noncomputable def laws_FnExactBattleSay.f (k : Nat) (a0 : Battle) (a1 : List (List UInt8)) : Option Bool := runF tab ext k 5 [⟨.ap 4, a0⟩, ⟨.sl (.str), a1⟩]
noncomputable def impl_BattleLine.f (k : Nat) (a0 : Battle) (a1 : List UInt8) : Option (List Int × Int × List Int × List Int × List UInt8) := runF tab ext k 9 [⟨.ap 4, a0⟩, ⟨.str, a1⟩]
noncomputable def spec_BattleLine.f (k : Nat) (a0 : Battle) (a1 : List UInt8) : Option (Battle × List UInt8) := runF tab ext k 10 [⟨.ap 4, a0⟩, ⟨.str, a1⟩]
noncomputable def spec_BattleLine.j0 (k : Nat) (x1 : List UInt8) (x2 : Battle) (x4 : Battle) (x6 : Battle) (x9 : List Int) (x11 : Int) : Option (Battle × List UInt8) := runL tab ext k 10 (todoAt tab 10 1000016) (stAt tab 10 [(1, mkVal false (.str) x1), (2, .ptr 8 []), (4, .ptr 16 []), (6, .ptr 24 []), (9, mkVal false (.sl (.int .i64)) x9), (11, mkVal false (.int .i64) x11)] [(8, .box true (.ap 4) x2), (16, .box false (.ap 4) x4), (24, .box false (.ap 4) x6)])
noncomputable def spec_BattleLine.j1 (k : Nat) (x1 : List UInt8) (x2 : Battle) (x4 : Battle) (x6 : Battle) (x11 : Int) : Option (Battle × List UInt8) := runL tab ext k 10 (todoAt tab 10 1000024) (stAt tab 10 [(1, mkVal false (.str) x1), (2, .ptr 8 []), (4, .ptr 16 []), (6, .ptr 24 []), (11, mkVal false (.int .i64) x11)] [(8, .box true (.ap 4) x2), (16, .box false (.ap 4) x4), (24, .box false (.ap 4) x6)])
noncomputable def spec_BattleLine.j2 (k : Nat) (x1 : List UInt8) (x4 : Battle) (x6 : Battle) : Option (Battle × List UInt8) := runL tab ext k 10 (todoAt tab 10 1000028) (stAt tab 10 [(1, mkVal false (.str) x1), (4, .ptr 16 []), (6, .ptr 24 [])] [(16, .box false (.ap 4) x4), (24, .box false (.ap 4) x6)])
noncomputable def spec_BattleValid.f (k : Nat) (a0 : Battle) : Option Bool := runF tab ext k 12 [⟨.ap 4, a0⟩]
noncomputable def impl_BattleValid.f (k : Nat) (a0 : Battle) : Option Bool := runF tab ext k 16 [⟨.ap 4, a0⟩]
noncomputable def laws_szBattle.f (k : Nat) (a0 : Battle) (a1 : Int) : Option Int := runF tab ext k 18 [⟨.ap 4, a0⟩, ⟨.int .i64, a1⟩]
noncomputable def laws_toBattle.f (k : Nat) (a0 : Battle) : Option (List Int × Int × List Int × List Int) := runF tab ext k 19 [⟨.ap 4, a0⟩]
noncomputable def laws_eqBattle.f (k : Nat) (a0 : Battle) (a1 : Battle) : Option Bool := runF tab ext k 20 [⟨.ap 4, a0⟩, ⟨.ap 4, a1⟩]
noncomputable def laws_markBattle.f (k : Nat) (a0 : List Int) (a1 : Int) (a2 : List Int) (a3 : List Int) (a4 : Int) : Option (Int × List Int × List Int × List Int) := runF tab ext k 21 [⟨.sl (.int .i64), a0⟩, ⟨.int .i64, a1⟩, ⟨.sl (.int .i64), a2⟩, ⟨.sl (.int .i64), a3⟩, ⟨.int .i64, a4⟩]
noncomputable def laws_heldBattle.f (k : Nat) (a0 : Battle) (a1 : Int) : Option Int := runF tab ext k 22 [⟨.ap 4, a0⟩, ⟨.int .i64, a1⟩]
noncomputable def laws_szStringS.f (k : Nat) (a0 : List (List UInt8)) (a1 : Int) : Option Int := runF tab ext k 23 [⟨.sl (.str), a0⟩, ⟨.int .i64, a1⟩]
noncomputable def laws_szStringS.l0 (k : Nat) (x0 : List (List UInt8)) (x1 : Int) (x5 : Int) : Option Int := runL tab ext k 23 (todoAt tab 23 5) (stAt tab 23 [(0, mkVal true (.sl (.str)) x0), (1, mkVal false (.int .i64) x1), (5, mkVal false (.int .i64) x5)] [])
noncomputable def spec_BattleSay.f (k : Nat) (a0 : Battle) (a1 : List (List UInt8)) : Option (Battle × List (List UInt8)) := runF tab ext k 24 [⟨.ap 4, a0⟩, ⟨.sl (.str), a1⟩]
noncomputable def spec_BattleSay.l0 (k : Nat) (x1 : List (List UInt8)) (x4 : Battle) (x6 : List (List UInt8)) (x7 : Battle) (x8 : Int) : Option (Battle × List (List UInt8)) := runL tab ext k 24 (todoAt tab 24 6) (stAt tab 24 [(1, mkVal true (.sl (.str)) x1), (4, .ptr 16 []), (6, .ref 27), (7, .ptr 28 []), (8, mkVal false (.int .i64) x8)] [(16, .box false (.ap 4) x4), (27, .sl false false (.str) x6), (28, .box false (.ap 4) x7)])
noncomputable def laws_toStringS.f (k : Nat) (a0 : List (List UInt8)) : Option (List (List UInt8)) := runF tab ext k 25 [⟨.sl (.str), a0⟩]
noncomputable def laws_toStringS.l0 (k : Nat) (x0 : List (List UInt8)) (x3 : List (List UInt8)) (x4 : Int) : Option (List (List UInt8)) := runL tab ext k 25 (todoAt tab 25 3) (stAt tab 25 [(0, mkVal true (.sl (.str)) x0), (3, .ref 15), (4, mkVal false (.int .i64) x4)] [(15, .sl false false (.str) x3)])
noncomputable def impl_BattleSay.f (k : Nat) (a0 : Battle) (a1 : List (List UInt8)) : Option (List Int × Int × List Int × List Int × List (List UInt8)) := runF tab ext k 26 [⟨.ap 4, a0⟩, ⟨.sl (.str), a1⟩]
noncomputable def impl_BattleSay.l0 (k : Nat) (x2_0 : List Int) (x2_1 : Int) (x2_2 : List Int) (x2_3 : List Int) (x4_0 : List Int) (x4_1 : Int) (x4_2 : List Int) (x4_3 : List Int) (x6 : List (List UInt8)) (x25 : List (List UInt8)) (x26 : Int) (x27 : Int) : Option (List Int × Int × List Int × List Int × List (List UInt8)) := runL tab ext k 26 (todoAt tab 26 6) (stAt tab 26 [(2, .ptr 8 []), (4, .ptr 16 []), (6, .ref 27), (25, mkVal true (.sl (.str)) x25), (26, mkVal false (.int .i64) x26), (27, mkVal false (.int .i64) x27)] [(9, .sl false false (.int .i64) x2_0), (10, .sl false false (.int .i64) x2_2), (11, .sl false false (.int .i64) x2_3), (8, .bx (.ap 4) [.ref 9, mkVal false (.int .i64) x2_1, .ref 10, .ref 11]), (17, .sl false false (.int .i64) x4_0), (18, .sl false false (.int .i64) x4_2), (19, .sl false false (.int .i64) x4_3), (16, .bx (.ap 4) [.ref 17, mkVal false (.int .i64) x4_1, .ref 18, .ref 19]), (27, .sl false false (.str) x6)])
noncomputable def laws_eqStringS.f (k : Nat) (a0 : List (List UInt8)) (a1 : List (List UInt8)) : Option Bool := runF tab ext k 27 [⟨.sl (.str), a0⟩, ⟨.sl (.str), a1⟩]
noncomputable def laws_eqStringS.l0 (k : Nat) (x0 : List (List UInt8)) (x1 : List (List UInt8)) (x5 : Int) : Option Bool := runL tab ext k 27 (todoAt tab 27 4) (stAt tab 27 [(0, mkVal true (.sl (.str)) x0), (1, mkVal true (.sl (.str)) x1), (5, mkVal false (.int .i64) x5)] [])
noncomputable def laws_markStringS.f (k : Nat) (a0 : List (List UInt8)) (a1 : Int) : Option (Int × List (List UInt8)) := runF tab ext k 28 [⟨.sl (.str), a0⟩, ⟨.int .i64, a1⟩]
noncomputable def laws_markStringS.l0 (k : Nat) (x0 : List (List UInt8)) (x1 : Int) (x5 : Int) : Option (Int × List (List UInt8)) := runL tab ext k 28 (todoAt tab 28 2) (stAt tab 28 [(0, .ref 80), (1, mkVal false (.int .i64) x1), (5, mkVal false (.int .i64) x5)] [(80, .io false (.str) x0)])
noncomputable def laws_heldStringS.f (k : Nat) (a0 : List (List UInt8)) (a1 : Int) : Option Int := runF tab ext k 29 [⟨.sl (.str), a0⟩, ⟨.int .i64, a1⟩]
noncomputable def laws_heldStringS.l0 (k : Nat) (x0 : List (List UInt8)) (x1 : Int) (x5 : Int) : Option Int := runL tab ext k 29 (todoAt tab 29 2) (stAt tab 29 [(0, mkVal true (.sl (.str)) x0), (1, mkVal false (.int .i64) x1), (5, mkVal false (.int .i64) x5)] [])
noncomputable def impl_ActText.f (k : Nat) (a0 : TwoInts) : Option (List UInt8) := runF tab ext k 39 [⟨.ap 3, a0⟩]
noncomputable def impl_ActText.j0 (k : Nat) (x1 : TwoInts) (x3 : List UInt8) : Option (List UInt8) := runL tab ext k 39 (todoAt tab 39 1000009) (stAt tab 39 [(1, .ptr 4 []), (3, mkVal false (.str) x3)] [(4, .box false (.ap 3) x1)])
noncomputable def impl_ReadAct.f (k : Nat) (a0 : List UInt8) : Option (TwoInts × Bool) := runF tab ext k 45 [⟨.str, a0⟩]
noncomputable def impl_ReadAct.l0 (k : Nat) (x0 : List UInt8) (x2 : TwoInts) (x4 : List UInt8) (x7 : Int) (x8 : Bool) (x23 : List Int) (x24 : Int) (x25 : Int) : Option (TwoInts × Bool) := runL tab ext k 45 (todoAt tab 45 4) (stAt tab 45 [(0, mkVal false (.str) x0), (2, .ptr 8 []), (4, mkVal false (.str) x4), (7, mkVal false (.int .i64) x7), (8, mkVal false (.err) x8), (23, mkVal false (.sl (.int .i64)) x23), (24, mkVal false (.int .i64) x24), (25, mkVal false (.int .i64) x25)] [(8, .box false (.ap 3) x2)])
noncomputable def impl_BattleDo.f (k : Nat) (a0 : Battle) (a1 : TwoInts) : Option (List Int × Int × List Int × List Int × Bool) := runF tab ext k 46 [⟨.ap 4, a0⟩, ⟨.ap 3, a1⟩]
noncomputable def impl_withCuts.f (k : Nat) (a0 : Battle) (a1 : List Int) : Option (List Int × Int × List Int × List Int) := runF tab ext k 47 [⟨.ap 4, a0⟩, ⟨.sl (.int .i64), a1⟩]
noncomputable def impl_answer.f (k : Nat) (a0 : Battle) (a1 : List UInt8) : Option (List UInt8) := runF tab ext k 48 [⟨.ap 4, a0⟩, ⟨.str, a1⟩]
noncomputable def spec_l10With.f (k : Nat) (a0 : Battle) (a1 : List Int) : Option Battle := runF tab ext k 49 [⟨.ap 4, a0⟩, ⟨.sl (.int .i64), a1⟩]
noncomputable def spec_ReadAct.f (k : Nat) (a0 : List UInt8) : Option (TwoInts × Bool) := runF tab ext k 50 [⟨.str, a0⟩]
noncomputable def spec_ReadAct.l0 (k : Nat) (x0 : List UInt8) (x2 : TwoInts) (x4 : Int) : Option (TwoInts × Bool) := runL tab ext k 50 (todoAt tab 50 2) (stAt tab 50 [(0, mkVal false (.str) x0), (2, .ptr 8 []), (4, mkVal false (.int .i64) x4)] [(8, .box false (.ap 3) x2)])
noncomputable def spec_HydraOrd.f (k : Nat) (a0 : List Int) : Option (List Int × Bool) := runF tab ext k 51 [⟨.sl (.int .i64), a0⟩]
noncomputable def spec_BattleLeft.f (k : Nat) (a0 : Battle) : Option Int := runF tab ext k 52 [⟨.ap 4, a0⟩]
noncomputable def spec_BattleDo.f (k : Nat) (a0 : Battle) (a1 : TwoInts) : Option (Battle × Bool) := runF tab ext k 53 [⟨.ap 4, a0⟩, ⟨.ap 3, a1⟩]
noncomputable def spec_BattleDo.j0 (k : Nat) (x2 : Battle) (x4 : Battle) (x6 : Battle) (x7 : List Int) : Option (Battle × Bool) := runL tab ext k 53 (todoAt tab 53 1000021) (stAt tab 53 [(2, .ptr 8 []), (4, .ptr 16 []), (6, .ptr 24 []), (7, .ref 31)] [(8, .box true (.ap 4) x2), (16, .box false (.ap 4) x4), (24, .box false (.ap 4) x6), (31, .sl false false (.int .i64) x7)])
noncomputable def spec_BattleDo.j1 (k : Nat) (x2 : Battle) (x3 : TwoInts) (x4 : Battle) (x7 : List Int) : Option (Battle × Bool) := runL tab ext k 53 (todoAt tab 53 1000009) (stAt tab 53 [(2, .ptr 8 []), (3, .ptr 12 []), (4, .ptr 16 []), (7, .ref 31)] [(8, .box true (.ap 4) x2), (12, .box false (.ap 3) x3), (16, .box false (.ap 4) x4), (31, .sl false false (.int .i64) x7)])
noncomputable def spec_BattleDo.j2 (k : Nat) (x2 : Battle) (x3 : TwoInts) (x4 : Battle) (x6 : Battle) (x7 : List Int) : Option (Battle × Bool) := runL tab ext k 53 (todoAt tab 53 1000010) (stAt tab 53 [(2, .ptr 8 []), (3, .ptr 12 []), (4, .ptr 16 []), (6, .ptr 24 []), (7, .ref 31)] [(8, .box true (.ap 4) x2), (12, .box false (.ap 3) x3), (16, .box false (.ap 4) x4), (24, .box false (.ap 4) x6), (31, .sl false false (.int .i64) x7)])
noncomputable def spec_BattleDo.l0 (k : Nat) (x2 : Battle) (x3 : TwoInts) (x4 : Battle) (x6 : Battle) (x7 : List Int) (x8 : List Int) (x9 : Int) : Option (Battle × Bool) := runL tab ext k 53 (todoAt tab 53 13) (stAt tab 53 [(2, .ptr 8 []), (3, .ptr 12 []), (4, .ptr 16 []), (6, .ptr 24 []), (7, .ref 31), (8, mkVal true (.sl (.int .i64)) x8), (9, mkVal false (.int .i64) x9)] [(8, .box true (.ap 4) x2), (12, .box false (.ap 3) x3), (16, .box false (.ap 4) x4), (24, .box false (.ap 4) x6), (31, .sl false false (.int .i64) x7)])
noncomputable def spec_HydraText.f (k : Nat) (a0 : List Int) : Option (List UInt8) := runF tab ext k 54 [⟨.sl (.int .i64), a0⟩]
noncomputable def spec_OrdText.f (k : Nat) (a0 : List Int) : Option (List UInt8) := runF tab ext k 55 [⟨.sl (.int .i64), a0⟩]
noncomputable def spec_l1Number.f (k : Nat) (a0 : Int) : Option (List UInt8) := runF tab ext k 56 [⟨.int .i64, a0⟩]
noncomputable def spec_HydraHeads.f (k : Nat) (a0 : List Int) : Option Int := runF tab ext k 57 [⟨.sl (.int .i64), a0⟩]
noncomputable def spec_HydraHeads.l0 (k : Nat) (x0 : List Int) (x3 : Int) (x4 : Int) : Option Int := runL tab ext k 57 (todoAt tab 57 5) (stAt tab 57 [(0, mkVal true (.sl (.int .i64)) x0), (3, mkVal false (.int .i64) x3), (4, mkVal false (.int .i64) x4)] [])
noncomputable def spec_HydraRun.f (k : Nat) (a0 : List Int) (a1 : List Int) (a2 : Int) : Option (List Int × Bool) := runF tab ext k 58 [⟨.sl (.int .i64), a0⟩, ⟨.sl (.int .i64), a1⟩, ⟨.int .i64, a2⟩]
noncomputable def spec_HydraRun.l0 (k : Nat) (x1 : List Int) (x2 : Int) (x8 : List Int) (x9 : Int) : Option (List Int × Bool) := runL tab ext k 58 (todoAt tab 58 5) (stAt tab 58 [(1, mkVal true (.sl (.int .i64)) x1), (2, mkVal false (.int .i64) x2), (8, .ref 35), (9, mkVal false (.int .i64) x9)] [(35, .sl false false (.int .i64) x8)])
noncomputable def spec_l1Same.f (k : Nat) (a0 : List Int) (a1 : List Int) : Option Bool := runF tab ext k 59 [⟨.sl (.int .i64), a0⟩, ⟨.sl (.int .i64), a1⟩]
noncomputable def spec_l1Same.l0 (k : Nat) (x0 : List Int) (x1 : List Int) (x5 : Int) : Option Bool := runL tab ext k 59 (todoAt tab 59 2) (stAt tab 59 [(0, mkVal true (.sl (.int .i64)) x0), (1, mkVal true (.sl (.int .i64)) x1), (5, mkVal false (.int .i64) x5)] [])
noncomputable def impl_grown.f (k : Nat) (a0 : List Hydra) : Option (List Int × Bool) := runF tab ext k 62 [⟨.sl (.ap 1), a0⟩]
noncomputable def impl_HydraRun.f (k : Nat) (a0 : List Int) (a1 : List Int) (a2 : Int) : Option (List Int × Bool) := runF tab ext k 63 [⟨.sl (.int .i64), a0⟩, ⟨.sl (.int .i64), a1⟩, ⟨.int .i64, a2⟩]
noncomputable def impl_HydraRun.l0 (k : Nat) (x2 : Int) (x8 : List Int) (x31 : List Int) (x32 : Int) (x33 : Int) : Option (List Int × Bool) := runL tab ext k 63 (todoAt tab 63 5) (stAt tab 63 [(2, mkVal false (.int .i64) x2), (8, .ref 35), (31, mkVal true (.sl (.int .i64)) x31), (32, mkVal false (.int .i64) x32), (33, mkVal false (.int .i64) x33)] [(35, .sl false false (.int .i64) x8)])
noncomputable def slices_Equal_int_int.f (k : Nat) (a0 : List Int) (a1 : List Int) : Option Bool := runF tab ext k 64 [⟨.sl (.int .i64), a0⟩, ⟨.sl (.int .i64), a1⟩]
noncomputable def slices_Equal_int_int.l0 (k : Nat) (x0 : List Int) (x1 : List Int) (x12 : Int) (x13 : Int) : Option Bool := runL tab ext k 64 (todoAt tab 64 4) (stAt tab 64 [(0, mkVal true (.sl (.int .i64)) x0), (1, mkVal true (.sl (.int .i64)) x1), (12, mkVal false (.int .i64) x12), (13, mkVal false (.int .i64) x13)] [])
noncomputable def laws_szIntS.f (k : Nat) (a0 : List Int) (a1 : Int) : Option Int := runF tab ext k 65 [⟨.sl (.int .i64), a0⟩, ⟨.int .i64, a1⟩]
noncomputable def laws_toIntS.f (k : Nat) (a0 : List Int) : Option (List Int) := runF tab ext k 66 [⟨.sl (.int .i64), a0⟩]
noncomputable def laws_toIntS.l0 (k : Nat) (x0 : List Int) (x3 : List Int) (x4 : Int) : Option (List Int) := runL tab ext k 66 (todoAt tab 66 3) (stAt tab 66 [(0, mkVal true (.sl (.int .i64)) x0), (3, .ref 15), (4, mkVal false (.int .i64) x4)] [(15, .sl false false (.int .i64) x3)])
noncomputable def laws_eqIntS.f (k : Nat) (a0 : List Int) (a1 : List Int) : Option Bool := runF tab ext k 67 [⟨.sl (.int .i64), a0⟩, ⟨.sl (.int .i64), a1⟩]
noncomputable def laws_eqIntS.l0 (k : Nat) (x0 : List Int) (x1 : List Int) (x5 : Int) : Option Bool := runL tab ext k 67 (todoAt tab 67 4) (stAt tab 67 [(0, mkVal true (.sl (.int .i64)) x0), (1, mkVal true (.sl (.int .i64)) x1), (5, mkVal false (.int .i64) x5)] [])
noncomputable def laws_markIntS.f (k : Nat) (a0 : List Int) (a1 : Int) : Option (Int × List Int) := runF tab ext k 68 [⟨.sl (.int .i64), a0⟩, ⟨.int .i64, a1⟩]
noncomputable def laws_markIntS.l0 (k : Nat) (x0 : List Int) (x1 : Int) (x5 : Int) : Option (Int × List Int) := runL tab ext k 68 (todoAt tab 68 2) (stAt tab 68 [(0, .ref 76), (1, mkVal false (.int .i64) x1), (5, mkVal false (.int .i64) x5)] [(76, .io false (.int .i64) x0)])
noncomputable def laws_heldIntS.f (k : Nat) (a0 : List Int) (a1 : Int) : Option Int := runF tab ext k 69 [⟨.sl (.int .i64), a0⟩, ⟨.int .i64, a1⟩]
noncomputable def laws_heldIntS.l0 (k : Nat) (x0 : List Int) (x1 : Int) (x5 : Int) : Option Int := runL tab ext k 69 (todoAt tab 69 2) (stAt tab 69 [(0, mkVal true (.sl (.int .i64)) x0), (1, mkVal false (.int .i64) x1), (5, mkVal false (.int .i64) x5)] [])
noncomputable def laws_markText.f (k : Nat) (a0 : Int) : Option (List UInt8) := runF tab ext k 70 [⟨.int .i64, a0⟩]
noncomputable def laws_markText.l0 (k : Nat) (x0 : Int) (x3 : List UInt8) : Option (List UInt8) := runL tab ext k 70 (todoAt tab 70 4) (stAt tab 70 [(0, mkVal false (.int .i64) x0), (3, mkVal false (.str) x3)] [])
noncomputable def impl_HydraOrd.f (k : Nat) (a0 : List Int) : Option (List Int × Bool) := runF tab ext k 73 [⟨.sl (.int .i64), a0⟩]
noncomputable def impl_HydraCut.f (k : Nat) (a0 : List Int) (a1 : Int) (a2 : Int) : Option (List Int × Bool) := runF tab ext k 74 [⟨.sl (.int .i64), a0⟩, ⟨.int .i64, a1⟩, ⟨.int .i64, a2⟩]
noncomputable def impl_ordOf.f (k : Nat) (a0 : List Int) : Option (List Term × Bool) := runF tab ext k 75 [⟨.sl (.int .i64), a0⟩]
noncomputable def impl_compare.f (k : Nat) (a0 : List Term) (a1 : List Term) : Option Int := runF tab ext k 76 [⟨.sl (.ap 0), a0⟩, ⟨.sl (.ap 0), a1⟩]
noncomputable def impl_compare.l0 (k : Nat) (x0 : List Term) (x1 : List Term) (x5 : Int) : Option Int := runL tab ext k 76 (todoAt tab 76 2) (stAt tab 76 [(0, mkVal true (.sl (.ap 0)) x0), (1, mkVal true (.sl (.ap 0)) x1), (5, mkVal false (.int .i64) x5)] [])
noncomputable def strings_Cut.f (k : Nat) (a0 : List UInt8) (a1 : List UInt8) : Option (List UInt8 × List UInt8 × Bool) := runF tab ext k 80 [⟨.str, a0⟩, ⟨.str, a1⟩]
noncomputable def strconv_Itoa.f (k : Nat) (a0 : Int) : Option (List UInt8) := runF tab ext k 82 [⟨.int .i64, a0⟩]
noncomputable def spec_BattleNew.f (k : Nat) (a0 : List Int) (a1 : Int) : Option Battle := runF tab ext k 84 [⟨.sl (.int .i64), a0⟩, ⟨.int .i64, a1⟩]
noncomputable def spec_ActText.f (k : Nat) (a0 : TwoInts) : Option (List UInt8) := runF tab ext k 86 [⟨.ap 3, a0⟩]
noncomputable def strconv_Atoi.f (k : Nat) (a0 : List UInt8) : Option (Int × Bool) := runF tab ext k 87 [⟨.str, a0⟩]
noncomputable def impl_did.f (k : Nat) (a0 : Battle) (a1 : TwoInts) : Option (List Int × Bool) := runF tab ext k 88 [⟨.ap 4, a0⟩, ⟨.ap 3, a1⟩]
noncomputable def impl_did.j0 (k : Nat) (x2 : Battle) (x3 : TwoInts) : Option (List Int × Bool) := runL tab ext k 88 (todoAt tab 88 1000005) (stAt tab 88 [(2, .ptr 8 []), (3, .ptr 12 [])] [(8, .box true (.ap 4) x2), (12, .box false (.ap 3) x3)])
noncomputable def impl_did.j1 (k : Nat) (x2 : Battle) (x3 : TwoInts) : Option (List Int × Bool) := runL tab ext k 88 (todoAt tab 88 1000008) (stAt tab 88 [(2, .ptr 8 []), (3, .ptr 12 [])] [(8, .box true (.ap 4) x2), (12, .box false (.ap 3) x3)])
noncomputable def impl_did.l0 (k : Nat) (x2 : Battle) (x8 : List Int) (x9 : List Int) (x84 : Int) (x85 : Int) : Option (List Int × Bool) := runL tab ext k 88 (todoAt tab 88 14) (stAt tab 88 [(2, .ptr 8 []), (8, .ref 35), (9, mkVal true (.sl (.int .i64)) x9), (84, mkVal false (.int .i64) x84), (85, mkVal false (.int .i64) x85)] [(8, .box true (.ap 4) x2), (35, .sl false false (.int .i64) x8)])
noncomputable def slices_Clone_int_int.f (k : Nat) (a0 : List Int) : Option (List Int) := runF tab ext k 89 [⟨.sl (.int .i64), a0⟩]
noncomputable def impl_HydraText.f (k : Nat) (a0 : List Int) : Option (List UInt8) := runF tab ext k 90 [⟨.sl (.int .i64), a0⟩]
noncomputable def impl_OrdText.f (k : Nat) (a0 : List Int) : Option (List UInt8) := runF tab ext k 91 [⟨.sl (.int .i64), a0⟩]
noncomputable def impl_HydraHeads.f (k : Nat) (a0 : List Int) : Option Int := runF tab ext k 92 [⟨.sl (.int .i64), a0⟩]
noncomputable def impl_BattleLeft.f (k : Nat) (a0 : Battle) : Option Int := runF tab ext k 93 [⟨.ap 4, a0⟩]
noncomputable def spec_l10Small.f (k : Nat) (a0 : List UInt8) : Option Int := runF tab ext k 94 [⟨.str, a0⟩]
noncomputable def spec_l10Small.l0 (k : Nat) (x0 : List UInt8) (x3 : Int) (x4 : Int) : Option Int := runL tab ext k 94 (todoAt tab 94 5) (stAt tab 94 [(0, mkVal false (.str) x0), (3, mkVal false (.int .i64) x3), (4, mkVal false (.int .i64) x4)] [])
noncomputable def spec_HydraValid.f (k : Nat) (a0 : List Int) : Option Bool := runF tab ext k 95 [⟨.sl (.int .i64), a0⟩]
noncomputable def spec_l2Fit.f (k : Nat) (a0 : List Int) : Option (List Int × Bool) := runF tab ext k 96 [⟨.sl (.int .i64), a0⟩]
noncomputable def spec_l5Ord.f (k : Nat) (a0 : List Int) : Option (List Int) := runF tab ext k 97 [⟨.sl (.int .i64), a0⟩]
noncomputable def spec_l5Ord.l0 (k : Nat) (x3 : List (List Int)) (x4 : List Int) (x5 : Int) : Option (List Int) := runL tab ext k 97 (todoAt tab 97 4) (stAt tab 97 [(3, mkVal true (.sl (.sl (.int .i64))) x3), (4, .ref 19), (5, mkVal false (.int .i64) x5)] [(19, .sl false false (.int .i64) x4)])
noncomputable def spec_HydraFight.f (k : Nat) (a0 : List Int) (a1 : Int) : Option Int := runF tab ext k 98 [⟨.sl (.int .i64), a0⟩, ⟨.int .i64, a1⟩]
noncomputable def spec_HydraFight.l0 (k : Nat) (x0 : List Int) (x1 : Int) (x5 : Int) : Option Int := runL tab ext k 98 (todoAt tab 98 4) (stAt tab 98 [(0, mkVal true (.sl (.int .i64)) x0), (1, mkVal false (.int .i64) x1), (5, mkVal false (.int .i64) x5)] [])
noncomputable def spec_l1In.f (k : Nat) (a0 : Int) (a1 : Int) (a2 : Int) : Option Bool := runF tab ext k 99 [⟨.int .i64, a0⟩, ⟨.int .i64, a1⟩, ⟨.int .i64, a2⟩]
noncomputable def spec_HydraCut.f (k : Nat) (a0 : List Int) (a1 : Int) (a2 : Int) : Option (List Int × Bool) := runF tab ext k 100 [⟨.sl (.int .i64), a0⟩, ⟨.int .i64, a1⟩, ⟨.int .i64, a2⟩]
noncomputable def spec_l5Text.f (k : Nat) (a0 : List Int) : Option (List UInt8) := runF tab ext k 101 [⟨.sl (.int .i64), a0⟩]
noncomputable def spec_l5Text.l0 (k : Nat) (x3 : List UInt8) (x4 : List (List Int)) (x5 : Int) : Option (List UInt8) := runL tab ext k 101 (todoAt tab 101 4) (stAt tab 101 [(3, mkVal false (.str) x3), (4, mkVal true (.sl (.sl (.int .i64))) x4), (5, mkVal false (.int .i64) x5)] [])
noncomputable def spec_OrdValid.f (k : Nat) (a0 : List Int) : Option Bool := runF tab ext k 102 [⟨.sl (.int .i64), a0⟩]
noncomputable def spec_l1Text.f (k : Nat) (a0 : List Int) : Option (List UInt8) := runF tab ext k 103 [⟨.sl (.int .i64), a0⟩]
noncomputable def spec_l1Text.l0 (k : Nat) (x3 : List Int) (x4 : List (List Int)) (x5 : List UInt8) (x6 : Int) : Option (List UInt8) := runL tab ext k 103 (todoAt tab 103 6) (stAt tab 103 [(3, mkVal false (.sl (.int .i64)) x3), (4, mkVal true (.sl (.sl (.int .i64))) x4), (5, mkVal false (.str) x5), (6, mkVal false (.int .i64) x6)] [])
noncomputable def spec_l1Text.j0 (k : Nat) (x3 : List Int) (x4 : List (List Int)) (x5 : List UInt8) (x6 : Int) : Option (List UInt8) := runL tab ext k 103 (todoAt tab 103 1000010) (stAt tab 103 [(3, mkVal false (.sl (.int .i64)) x3), (4, mkVal true (.sl (.sl (.int .i64))) x4), (5, mkVal false (.str) x5), (6, mkVal false (.int .i64) x6)] [])
noncomputable def spec_l1Text.j1 (k : Nat) (x3 : List Int) (x4 : List (List Int)) (x5 : List UInt8) (x6 : Int) : Option (List UInt8) := runL tab ext k 103 (todoAt tab 103 1000018) (stAt tab 103 [(3, mkVal false (.sl (.int .i64)) x3), (4, mkVal true (.sl (.sl (.int .i64))) x4), (5, mkVal false (.str) x5), (6, mkVal false (.int .i64) x6)] [])
noncomputable def spec_l1Text.j2 (k : Nat) (x3 : List Int) (x4 : List (List Int)) (x5 : List UInt8) (x6 : Int) : Option (List UInt8) := runL tab ext k 103 (todoAt tab 103 1000017) (stAt tab 103 [(3, mkVal false (.sl (.int .i64)) x3), (4, mkVal true (.sl (.sl (.int .i64))) x4), (5, mkVal false (.str) x5), (6, mkVal false (.int .i64) x6)] [])
noncomputable def spec_l1Text.j3 (k : Nat) (x3 : List Int) (x4 : List (List Int)) (x5 : List UInt8) (x6 : Int) : Option (List UInt8) := runL tab ext k 103 (todoAt tab 103 1000011) (stAt tab 103 [(3, mkVal false (.sl (.int .i64)) x3), (4, mkVal true (.sl (.sl (.int .i64))) x4), (5, mkVal false (.str) x5), (6, mkVal false (.int .i64) x6)] [])
noncomputable def spec_l1Text.j4 (k : Nat) (x3 : List Int) (x4 : List (List Int)) (x5 : List UInt8) (x6 : Int) : Option (List UInt8) := runL tab ext k 103 (todoAt tab 103 1000019) (stAt tab 103 [(3, mkVal false (.sl (.int .i64)) x3), (4, mkVal true (.sl (.sl (.int .i64))) x4), (5, mkVal false (.str) x5), (6, mkVal false (.int .i64) x6)] [])
noncomputable def impl_rowOf.f (k : Nat) (a0 : List Term) : Option (List Int) := runF tab ext k 104 [⟨.sl (.ap 0), a0⟩]
noncomputable def impl_rowOf.l0 (k : Nat) (x3 : List Int) (x9 : List Term) (x10 : Int) (x11 : Int) : Option (List Int) := runL tab ext k 104 (todoAt tab 104 3) (stAt tab 104 [(3, .ref 15), (9, mkVal true (.sl (.ap 0)) x9), (10, mkVal false (.int .i64) x10), (11, mkVal false (.int .i64) x11)] [(15, .sl false false (.int .i64) x3)])
noncomputable def impl_hydra__row.f (k : Nat) (a0 : List Hydra) : Option (List Int) := runF tab ext k 106 [⟨.sl (.ap 1), a0⟩]
noncomputable def impl_hydra__row.l0 (k : Nat) (x3 : List Int) (x9 : List Hydra) (x10 : Int) (x11 : Int) : Option (List Int) := runL tab ext k 106 (todoAt tab 106 3) (stAt tab 106 [(3, .ref 15), (9, mkVal true (.sl (.ap 1)) x9), (10, mkVal false (.int .i64) x10), (11, mkVal false (.int .i64) x11)] [(15, .sl false false (.int .i64) x3)])
noncomputable def slices_Clip_int_int.f (k : Nat) (a0 : List Int) : Option (List Int) := runF tab ext k 107 [⟨.sl (.int .i64), a0⟩]
noncomputable def impl_HydraValid.f (k : Nat) (a0 : List Int) : Option Bool := runF tab ext k 108 [⟨.sl (.int .i64), a0⟩]
noncomputable def impl_hydraOf.f (k : Nat) (a0 : List Int) : Option (List Hydra × Bool) := runF tab ext k 109 [⟨.sl (.int .i64), a0⟩]
noncomputable def impl_told.f (k : Nat) (a0 : List Term) : Option (List Int × Bool) := runF tab ext k 110 [⟨.sl (.ap 0), a0⟩]
noncomputable def impl_hydra__ord.f (k : Nat) (a0 : List Hydra) : Option (List Term) := runF tab ext k 111 [⟨.sl (.ap 1), a0⟩]
noncomputable def impl_hydra__ord.l0 (k : Nat) (x3 : List Term) (x7 : List Hydra) (x8 : Int) (x9 : Int) : Option (List Term) := runL tab ext k 111 (todoAt tab 111 3) (stAt tab 111 [(3, mkVal false (.sl (.ap 0)) x3), (7, mkVal true (.sl (.ap 1)) x7), (8, mkVal false (.int .i64) x8), (9, mkVal false (.int .i64) x9)] [])
noncomputable def impl_hydra__heads.f (k : Nat) (a0 : List Hydra) : Option Int := runF tab ext k 112 [⟨.sl (.ap 1), a0⟩]
noncomputable def impl_hydra__heads.l0 (k : Nat) (x3 : Int) (x6 : List Hydra) (x7 : Int) (x8 : Int) : Option Int := runL tab ext k 112 (todoAt tab 112 3) (stAt tab 112 [(3, mkVal false (.int .i64) x3), (6, mkVal true (.sl (.ap 1)) x6), (7, mkVal false (.int .i64) x7), (8, mkVal false (.int .i64) x8)] [])
noncomputable def impl_hydra__heads.j0 (k : Nat) (x3 : Int) (x5 : List Hydra) (x6 : List Hydra) (x7 : Int) (x8 : Int) : Option Int := runL tab ext k 112 (todoAt tab 112 1000007) (stAt tab 112 [(3, mkVal false (.int .i64) x3), (5, mkVal true (.sl (.ap 1)) x5), (6, mkVal true (.sl (.ap 1)) x6), (7, mkVal false (.int .i64) x7), (8, mkVal false (.int .i64) x8)] [])
noncomputable def impl_hydra__cut.f (k : Nat) (a0 : List Hydra) (a1 : Int) (a2 : Int) (a3 : Bool) : Option (List Hydra × Bool × Int) := runF tab ext k 113 [⟨.sl (.ap 1), a0⟩, ⟨.int .i64, a1⟩, ⟨.int .i64, a2⟩, ⟨.bool, a3⟩]
noncomputable def impl_hydra__cut.l0 (k : Nat) (x0 : List Hydra) (x1 : Int) (x2 : Int) (x15 : List Hydra) (x16 : Int) (x17 : Int) : Option (List Hydra × Bool × Int) := runL tab ext k 113 (todoAt tab 113 2) (stAt tab 113 [(0, mkVal true (.sl (.ap 1)) x0), (1, .ptr 301 []), (2, mkVal false (.int .i64) x2), (15, mkVal true (.sl (.ap 1)) x15), (16, mkVal false (.int .i64) x16), (17, mkVal false (.int .i64) x17)] [(301, .box false (.int .i64) x1)])
noncomputable def impl_hydra__cut.j0 (k : Nat) (x0 : List Hydra) (x1 : Int) (x2 : Int) (x10 : Int) (x12 : List Hydra) (x14 : List Hydra) : Option (List Hydra × Bool × Int) := runL tab ext k 113 (todoAt tab 113 1000014) (stAt tab 113 [(0, mkVal true (.sl (.ap 1)) x0), (1, .ptr 301 []), (2, mkVal false (.int .i64) x2), (10, mkVal false (.int .i64) x10), (12, mkVal true (.sl (.ap 1)) x12), (14, .ref 59)] [(301, .box false (.int .i64) x1), (59, .sl true false (.ap 1) x14)])
noncomputable def impl_hydra__cut.l1 (k : Nat) (x0 : List Hydra) (x1 : Int) (x10 : Int) (x12 : List Hydra) (x14 : List Hydra) (x59 : Int) (x60 : Int) : Option (List Hydra × Bool × Int) := runL tab ext k 113 (todoAt tab 113 15) (stAt tab 113 [(0, mkVal true (.sl (.ap 1)) x0), (1, .ptr 301 []), (10, mkVal false (.int .i64) x10), (12, mkVal true (.sl (.ap 1)) x12), (14, .ref 59), (59, mkVal false (.int .i64) x59), (60, mkVal false (.int .i64) x60)] [(301, .box false (.int .i64) x1), (59, .sl true false (.ap 1) x14)])
noncomputable def impl_takeOrd.f (k : Nat) (a0 : List Int) : Option (List Term × List Int × Bool) := runF tab ext k 114 [⟨.sl (.int .i64), a0⟩]
noncomputable def impl_takeOrd.l0 (k : Nat) (x0 : List Int) (x6 : List Term) (x26 : Int) (x27 : Int) : Option (List Term × List Int × Bool) := runL tab ext k 114 (todoAt tab 114 9) (stAt tab 114 [(0, mkVal true (.sl (.int .i64)) x0), (6, .ref 27), (26, mkVal false (.int .i64) x26), (27, mkVal false (.int .i64) x27)] [(27, .sl false false (.ap 0) x6)])
noncomputable def cmp_Compare_int.f (k : Nat) (a0 : Int) (a1 : Int) : Option Int := runF tab ext k 115 [⟨.int .i64, a0⟩, ⟨.int .i64, a1⟩]
noncomputable def impl_hydra__text.f (k : Nat) (a0 : List Hydra) : Option (List UInt8) := runF tab ext k 121 [⟨.sl (.ap 1), a0⟩]
noncomputable def impl_hydra__text.l0 (k : Nat) (x3 : List UInt8) (x6 : List Hydra) (x7 : Int) (x8 : Int) : Option (List UInt8) := runL tab ext k 121 (todoAt tab 121 3) (stAt tab 121 [(3, mkVal false (.str) x3), (6, mkVal true (.sl (.ap 1)) x6), (7, mkVal false (.int .i64) x7), (8, mkVal false (.int .i64) x8)] [])
noncomputable def impl_textOf.f (k : Nat) (a0 : List Term) : Option (List UInt8) := runF tab ext k 122 [⟨.sl (.ap 0), a0⟩]
noncomputable def impl_textOf.l0 (k : Nat) (x3 : List (List UInt8)) (x12 : List Term) (x13 : Int) (x14 : Int) : Option (List UInt8) := runL tab ext k 122 (todoAt tab 122 5) (stAt tab 122 [(3, .ref 15), (12, mkVal true (.sl (.ap 0)) x12), (13, mkVal false (.int .i64) x13), (14, mkVal false (.int .i64) x14)] [(15, .sl false false (.str) x3)])
noncomputable def impl_textOf.j0 (k : Nat) (x3 : List (List UInt8)) (x5 : Term) (x6 : List UInt8) (x12 : List Term) (x13 : Int) (x14 : Int) : Option (List UInt8) := runL tab ext k 122 (todoAt tab 122 1000016) (stAt tab 122 [(3, .ref 15), (5, .ptr 20 []), (6, mkVal false (.str) x6), (12, mkVal true (.sl (.ap 0)) x12), (13, mkVal false (.int .i64) x13), (14, mkVal false (.int .i64) x14)] [(15, .sl false false (.str) x3), (20, .box true (.ap 0) x5)])
noncomputable def impl_textOf.j1 (k : Nat) (x3 : List (List UInt8)) (x6 : List UInt8) (x12 : List Term) (x13 : Int) (x14 : Int) : Option (List UInt8) := runL tab ext k 122 (todoAt tab 122 1000018) (stAt tab 122 [(3, .ref 15), (6, mkVal false (.str) x6), (12, mkVal true (.sl (.ap 0)) x12), (13, mkVal false (.int .i64) x13), (14, mkVal false (.int .i64) x14)] [(15, .sl false false (.str) x3)])
noncomputable def impl_HydraFight.f (k : Nat) (a0 : List Int) (a1 : Int) : Option Int := runF tab ext k 123 [⟨.sl (.int .i64), a0⟩, ⟨.int .i64, a1⟩]
noncomputable def impl_HydraFight.l0 (k : Nat) (x0 : List Int) (x1 : Int) (x5 : Int) : Option Int := runL tab ext k 123 (todoAt tab 123 4) (stAt tab 123 [(0, mkVal true (.sl (.int .i64)) x0), (1, mkVal false (.int .i64) x1), (5, mkVal false (.int .i64) x5)] [])
noncomputable def spec_l5End.f (k : Nat) (a0 : List Int) (a1 : Int) : Option Int := runF tab ext k 124 [⟨.sl (.int .i64), a0⟩, ⟨.int .i64, a1⟩]
noncomputable def spec_l5End.l0 (k : Nat) (x0 : List Int) (x1 : Int) (x5 : Int) (x6 : Int) : Option Int := runL tab ext k 124 (todoAt tab 124 6) (stAt tab 124 [(0, mkVal true (.sl (.int .i64)) x0), (1, mkVal false (.int .i64) x1), (5, mkVal false (.int .i64) x5), (6, mkVal false (.int .i64) x6)] [])
noncomputable def spec_l5Branches.f (k : Nat) (a0 : List Int) : Option (List (List Int)) := runF tab ext k 125 [⟨.sl (.int .i64), a0⟩]
noncomputable def spec_l5Branches.l0 (k : Nat) (x0 : List Int) (x3 : List (List Int)) (x4 : Int) : Option (List (List Int)) := runL tab ext k 125 (todoAt tab 125 3) (stAt tab 125 [(0, mkVal true (.sl (.int .i64)) x0), (3, .ref 15), (4, mkVal false (.int .i64) x4)] [(15, .sl true false (.sl (.int .i64)) x3)])
noncomputable def spec_l5Add.f (k : Nat) (a0 : List Int) (a1 : List Int) : Option (List Int) := runF tab ext k 126 [⟨.sl (.int .i64), a0⟩, ⟨.sl (.int .i64), a1⟩]
noncomputable def spec_l5Add.l0 (k : Nat) (x5 : List Int) (x6 : List (List Int)) (x8 : List (List Int)) (x9 : List Int) (x10 : List (List Int)) (x11 : Bool) (x12 : Int) : Option (List Int) := runL tab ext k 126 (todoAt tab 126 7) (stAt tab 126 [(5, mkVal false (.sl (.int .i64)) x5), (6, mkVal true (.sl (.sl (.int .i64))) x6), (8, mkVal true (.sl (.sl (.int .i64))) x8), (9, .ref 39), (10, .ref 43), (11, mkVal false (.bool) x11), (12, mkVal false (.int .i64) x12)] [(39, .sl false false (.int .i64) x9), (43, .sl true false (.sl (.int .i64)) x10)])
noncomputable def spec_l5Add.j0 (k : Nat) (x5 : List Int) (x6 : List (List Int)) (x8 : List (List Int)) (x9 : List Int) (x10 : List (List Int)) (x12 : Int) (x13 : Int) : Option (List Int) := runL tab ext k 126 (todoAt tab 126 1000011) (stAt tab 126 [(5, mkVal false (.sl (.int .i64)) x5), (6, mkVal true (.sl (.sl (.int .i64))) x6), (8, mkVal true (.sl (.sl (.int .i64))) x8), (9, .ref 39), (10, .ref 43), (12, mkVal false (.int .i64) x12), (13, mkVal false (.int .i64) x13)] [(39, .sl false false (.int .i64) x9), (43, .sl true false (.sl (.int .i64)) x10)])
noncomputable def spec_l5Add.j1 (k : Nat) (x5 : List Int) (x6 : List (List Int)) (x8 : List (List Int)) (x9 : List Int) (x10 : List (List Int)) (x11 : Bool) (x12 : Int) (x13 : Int) : Option (List Int) := runL tab ext k 126 (todoAt tab 126 1000014) (stAt tab 126 [(5, mkVal false (.sl (.int .i64)) x5), (6, mkVal true (.sl (.sl (.int .i64))) x6), (8, mkVal true (.sl (.sl (.int .i64))) x8), (9, .ref 39), (10, .ref 43), (11, mkVal false (.bool) x11), (12, mkVal false (.int .i64) x12), (13, mkVal false (.int .i64) x13)] [(39, .sl false false (.int .i64) x9), (43, .sl true false (.sl (.int .i64)) x10)])
noncomputable def spec_l5Cut.f (k : Nat) (a0 : List Int) (a1 : Int) (a2 : Int) : Option (List Int × Bool) := runF tab ext k 127 [⟨.sl (.int .i64), a0⟩, ⟨.int .i64, a1⟩, ⟨.int .i64, a2⟩]
noncomputable def spec_l5Cut.l0 (k : Nat) (x1 : Int) (x2 : Int) (x8 : List (List Int)) (x9 : List (List Int)) (x10 : Bool) (x11 : Int) : Option (List Int × Bool) := runL tab ext k 127 (todoAt tab 127 5) (stAt tab 127 [(1, mkVal false (.int .i64) x1), (2, mkVal false (.int .i64) x2), (8, mkVal true (.sl (.sl (.int .i64))) x8), (9, .ref 39), (10, mkVal false (.bool) x10), (11, mkVal false (.int .i64) x11)] [(39, .sl true false (.sl (.int .i64)) x9)])
noncomputable def spec_l5Cut.j0 (k : Nat) (x1 : Int) (x2 : Int) (x8 : List (List Int)) (x9 : List (List Int)) (x10 : Bool) (x11 : Int) (x12 : Int) : Option (List Int × Bool) := runL tab ext k 127 (todoAt tab 127 1000009) (stAt tab 127 [(1, mkVal false (.int .i64) x1), (2, mkVal false (.int .i64) x2), (8, mkVal true (.sl (.sl (.int .i64))) x8), (9, .ref 39), (10, mkVal false (.bool) x10), (11, mkVal false (.int .i64) x11), (12, mkVal false (.int .i64) x12)] [(39, .sl true false (.sl (.int .i64)) x9)])
noncomputable def spec_l5Cut.l1 (k : Nat) (x2 : Int) (x8 : List (List Int)) (x9 : List (List Int)) (x10 : Bool) (x11 : Int) (x13 : List Int) (x14 : Bool) (x15 : Int) : Option (List Int × Bool) := runL tab ext k 127 (todoAt tab 127 17) (stAt tab 127 [(2, mkVal false (.int .i64) x2), (8, mkVal true (.sl (.sl (.int .i64))) x8), (9, .ref 39), (10, mkVal false (.bool) x10), (11, mkVal false (.int .i64) x11), (13, mkVal false (.sl (.int .i64)) x13), (14, mkVal false (.bool) x14), (15, mkVal false (.int .i64) x15)] [(39, .sl true false (.sl (.int .i64)) x9)])
noncomputable def spec_l1End.f (k : Nat) (a0 : List Int) (a1 : Int) : Option Int := runF tab ext k 128 [⟨.sl (.int .i64), a0⟩, ⟨.int .i64, a1⟩]
noncomputable def spec_l1End.l0 (k : Nat) (x0 : List Int) (x1 : Int) (x5 : Int) (x6 : List Int) (x7 : Int) : Option Int := runL tab ext k 128 (todoAt tab 128 7) (stAt tab 128 [(0, mkVal true (.sl (.int .i64)) x0), (1, mkVal false (.int .i64) x1), (5, mkVal false (.int .i64) x5), (6, mkVal true (.sl (.int .i64)) x6), (7, mkVal false (.int .i64) x7)] [])
noncomputable def spec_l1Terms.f (k : Nat) (a0 : List Int) : Option (List Int × List (List Int)) := runF tab ext k 129 [⟨.sl (.int .i64), a0⟩]
noncomputable def spec_l1Terms.l0 (k : Nat) (x0 : List Int) (x4 : List Int) (x5 : List (List Int)) (x6 : Int) : Option (List Int × List (List Int)) := runL tab ext k 129 (todoAt tab 129 4) (stAt tab 129 [(0, mkVal true (.sl (.int .i64)) x0), (4, .ref 19), (5, .ref 23), (6, mkVal false (.int .i64) x6)] [(19, .sl false false (.int .i64) x4), (23, .sl true false (.sl (.int .i64)) x5)])
noncomputable def spec_OrdNumber.f (k : Nat) (a0 : List Int) : Option Int := runF tab ext k 130 [⟨.sl (.int .i64), a0⟩]
noncomputable def impl_takeHydra.f (k : Nat) (a0 : List Int) : Option (List Hydra × List Int × Bool) := runF tab ext k 131 [⟨.sl (.int .i64), a0⟩]
noncomputable def impl_takeHydra.l0 (k : Nat) (x0 : List Int) (x6 : List Hydra) (x31 : Int) (x32 : Int) : Option (List Hydra × List Int × Bool) := runL tab ext k 131 (todoAt tab 131 7) (stAt tab 131 [(0, mkVal true (.sl (.int .i64)) x0), (6, .ref 27), (31, mkVal false (.int .i64) x31), (32, mkVal false (.int .i64) x32)] [(27, .sl false false (.ap 1) x6)])
noncomputable def impl_sizeOf.f (k : Nat) (a0 : List Term) : Option Int := runF tab ext k 132 [⟨.sl (.ap 0), a0⟩]
noncomputable def impl_sizeOf.l0 (k : Nat) (x3 : Int) (x6 : List Term) (x7 : Int) (x8 : Int) : Option Int := runL tab ext k 132 (todoAt tab 132 3) (stAt tab 132 [(3, mkVal false (.int .i64) x3), (6, mkVal true (.sl (.ap 0)) x6), (7, mkVal false (.int .i64) x7), (8, mkVal false (.int .i64) x8)] [])
noncomputable def impl_most.f (k : Nat) (a0 : List Term) : Option Int := runF tab ext k 133 [⟨.sl (.ap 0), a0⟩]
noncomputable def impl_most.l0 (k : Nat) (x3 : Int) (x6 : List Term) (x7 : Int) (x8 : Int) : Option Int := runL tab ext k 133 (todoAt tab 133 3) (stAt tab 133 [(3, mkVal false (.int .i64) x3), (6, mkVal true (.sl (.ap 0)) x6), (7, mkVal false (.int .i64) x7), (8, mkVal false (.int .i64) x8)] [])
noncomputable def impl_natural.f (k : Nat) (a0 : List Term) (a1 : List Term) : Option (List Term) := runF tab ext k 134 [⟨.sl (.ap 0), a0⟩, ⟨.sl (.ap 0), a1⟩]
noncomputable def impl_natural.l0 (k : Nat) (x0 : List Term) (x1 : List Term) (x5 : List Term) : Option (List Term) := runL tab ext k 134 (todoAt tab 134 2) (stAt tab 134 [(0, mkVal true (.sl (.ap 0)) x0), (1, mkVal true (.sl (.ap 0)) x1), (5, .ref 23)] [(23, .sl true false (.ap 0) x5)])
noncomputable def impl_power.f (k : Nat) (a0 : List Term) : Option (List Term) := runF tab ext k 135 [⟨.sl (.ap 0), a0⟩]
noncomputable def slices_Delete_hydra_hydra.f (k : Nat) (a0 : List Hydra) (a1 : Int) (a2 : Int) : Option (List Hydra) := runF tab ext k 136 [⟨.sl (.ap 1), a0⟩, ⟨.int .i64, a1⟩, ⟨.int .i64, a2⟩]
noncomputable def slices_Clone_hydra_hydra.f (k : Nat) (a0 : List Hydra) : Option (List Hydra) := runF tab ext k 137 [⟨.sl (.ap 1), a0⟩]
noncomputable def cmp_isNaN_int.f (k : Nat) (a0 : Int) : Option Bool := runF tab ext k 138 [⟨.int .i64, a0⟩]
noncomputable def spec_l5Tree.f (k : Nat) (a0 : List (List Int)) : Option (List Int) := runF tab ext k 141 [⟨.sl (.sl (.int .i64)), a0⟩]
noncomputable def spec_l5Tree.l0 (k : Nat) (x0 : List (List Int)) (x3 : List Int) (x4 : Int) : Option (List Int) := runL tab ext k 141 (todoAt tab 141 3) (stAt tab 141 [(0, mkVal true (.sl (.sl (.int .i64))) x0), (3, .ref 15), (4, mkVal false (.int .i64) x4)] [(15, .sl false false (.int .i64) x3)])
noncomputable def strings_Join.f (k : Nat) (a0 : List (List UInt8)) (a1 : List UInt8) : Option (List UInt8) := runF tab ext k 147 [⟨.sl (.str), a0⟩, ⟨.str, a1⟩]
noncomputable def spec_l1Compare.f (k : Nat) (a0 : List Int) (a1 : List Int) : Option Int := runF tab ext k 148 [⟨.sl (.int .i64), a0⟩, ⟨.sl (.int .i64), a1⟩]
noncomputable def spec_l1Compare.l0 (k : Nat) (x5 : List Int) (x6 : List (List Int)) (x7 : List Int) (x8 : List (List Int)) (x9 : Int) : Option Int := runL tab ext k 148 (todoAt tab 148 4) (stAt tab 148 [(5, mkVal false (.sl (.int .i64)) x5), (6, mkVal true (.sl (.sl (.int .i64))) x6), (7, mkVal false (.sl (.int .i64)) x7), (8, mkVal true (.sl (.sl (.int .i64))) x8), (9, mkVal false (.int .i64) x9)] [])
noncomputable def spec_l1Make.f (k : Nat) (a0 : List Int) (a1 : List (List Int)) : Option (List Int) := runF tab ext k 149 [⟨.sl (.int .i64), a0⟩, ⟨.sl (.sl (.int .i64)), a1⟩]
noncomputable def spec_l1Make.l0 (k : Nat) (x0 : List Int) (x1 : List (List Int)) (x5 : List Int) (x6 : Int) : Option (List Int) := runL tab ext k 149 (todoAt tab 149 3) (stAt tab 149 [(0, mkVal true (.sl (.int .i64)) x0), (1, mkVal true (.sl (.sl (.int .i64))) x1), (5, .ref 23), (6, mkVal false (.int .i64) x6)] [(23, .sl false false (.int .i64) x5)])
noncomputable def spec_l5Heads.f (k : Nat) (a0 : List Int) : Option Int := runF tab ext k 150 [⟨.sl (.int .i64), a0⟩]
noncomputable def spec_l5Heads.l0 (k : Nat) (x0 : List Int) (x3 : Int) (x4 : Int) : Option Int := runL tab ext k 150 (todoAt tab 150 3) (stAt tab 150 [(0, mkVal true (.sl (.int .i64)) x0), (3, mkVal false (.int .i64) x3), (4, mkVal false (.int .i64) x4)] [])
noncomputable def spec_l1Span.f (k : Nat) (a0 : List Int) (a1 : Int) : Option Int := runF tab ext k 151 [⟨.sl (.int .i64), a0⟩, ⟨.int .i64, a1⟩]
noncomputable def spec_l1Span.l0 (k : Nat) (x0 : List Int) (x1 : Int) (x5 : Int) (x6 : Int) : Option Int := runL tab ext k 151 (todoAt tab 151 4) (stAt tab 151 [(0, mkVal true (.sl (.int .i64)) x0), (1, mkVal false (.int .i64) x1), (5, mkVal false (.int .i64) x5), (6, mkVal false (.int .i64) x6)] [])
end Go.Proofs.YtkgpkalclblhbaaGreatDoor.Eng
