import Derived.Test.YtpahkabfmabneaaDoorE3
import Derived.Test.YtpahkabfmabneaaDoorProg
import Derived.Lib.LaidTab
import Derived.Lib.Itoa
namespace Go.Proofs.YtpahkabfmabneaaDoor.Eng
open Go
noncomputable def tabName : String := ((Tryd.prog.globals[3]?).map (·.name)).getD default
noncomputable def tabQ (w : World) : Prop := Lib.TabIs Tryd.prog w tabName .u64 Lib.pow10Tab ∧ (∃ m, w.cell? ⟨0, 0, none⟩ = some (.int .i64 m)) ∧ (∃ a b, w.cell? ⟨1, 0, none⟩ = some (.iface a b)) ∧ (∃ a b, w.cell? ⟨2, 0, none⟩ = some (.iface a b))
-- 5 laws.FnExactReadAct
noncomputable def fn5 : FnT := ⟨(Tryd.f5.body.getD .skip), 29, Tryd.f5.results.toList, [(.str, .ln)], [(.bool, ⟨false, false, false, false, false⟩)], [], [], [], []⟩
-- 6 laws.FnExactReadJournal
noncomputable def fn6 : FnT := ⟨(Tryd.f6.body.getD .skip), 66, Tryd.f6.results.toList, [(.str, .ln)], [(.bool, ⟨false, false, false, false, false⟩)], [], [21], [], []⟩
-- 7 laws.FnActText
noncomputable def fn7 : FnT := ⟨(Tryd.f7.body.getD .skip), 32, Tryd.f7.results.toList, [(.sl (.int .u8), .ln)], [(.bool, ⟨false, false, false, false, false⟩)], [], [], [], []⟩
-- 8 laws.FnReadAct
noncomputable def fn8 : FnT := ⟨(Tryd.f8.body.getD .skip), 55, Tryd.f8.results.toList, [(.sl (.int .u8), .ln)], [(.bool, ⟨false, false, false, false, false⟩)], [], [], [], []⟩
-- 9 laws.FnJournalText
noncomputable def fn9 : FnT := ⟨(Tryd.f9.body.getD .skip), 35, Tryd.f9.results.toList, [(.sl (.int .u8), .ln)], [(.bool, ⟨false, false, false, false, false⟩)], [], [], [], []⟩
-- 10 spec.ActText
noncomputable def fn10 : FnT := ⟨(Tryd.f10.body.getD .skip), 23, Tryd.f10.results.toList, [(.ap 3, .ln)], [(.str, ⟨false, false, false, false, false⟩)], [], [], [], []⟩
-- 12 impl.ActText
noncomputable def fn12 : FnT := ⟨(Tryd.f12.body.getD .skip), 29, Tryd.f12.results.toList, [(.ap 3, .ln)], [(.str, ⟨false, false, false, false, false⟩)], [(1000009, [(1, .ptr), (3, .val false)])], [], [], []⟩
-- 14 spec.JournalText
noncomputable def fn14 : FnT := ⟨(Tryd.f14.body.getD .skip), 26, Tryd.f14.results.toList, [(.sl (.ap 3), .ln)], [(.str, ⟨false, false, false, false, false⟩)], [(3, [(0, .val true), (3, .val false), (4, .val false)])], [], [], []⟩
-- 16 impl.JournalText
noncomputable def fn16 : FnT := ⟨(Tryd.f16.body.getD .skip), 23, Tryd.f16.results.toList, [(.sl (.ap 3), .ln)], [(.str, ⟨false, false, false, false, false⟩)], [(3, [(3, .val false), (7, .val true), (8, .val false), (9, .val false)])], [], [], []⟩
-- 17 laws.eqActS
noncomputable def fn17 : FnT := ⟨(Tryd.f17.body.getD .skip), 27, Tryd.f17.results.toList, [(.sl (.ap 3), .ln), (.sl (.ap 3), .ln)], [(.bool, ⟨false, false, false, false, false⟩)], [(4, [(0, .val true), (1, .val true), (5, .val false)])], [], [], []⟩
-- 18 spec.ReadAct
noncomputable def fn18 : FnT := ⟨(Tryd.f18.body.getD .skip), 32, Tryd.f18.results.toList, [(.str, .ln)], [(.ap 3, ⟨false, false, false, false, false⟩), (.bool, ⟨false, false, false, false, false⟩)], [(2, [(0, .val false), (2, .ptr), (4, .val false)])], [], [], []⟩
-- 19 impl.ReadAct
noncomputable def fn19 : FnT := ⟨(Tryd.f19.body.getD .skip), 47, Tryd.f19.results.toList, [(.str, .ln)], [(.ap 3, ⟨false, false, false, false, false⟩), (.bool, ⟨false, false, false, false, false⟩)], [(4, [(0, .val false), (2, .ptr), (4, .val false), (7, .val false), (8, .val false), (23, .val false), (24, .val false), (25, .val false)])], [], [], []⟩
-- 20 laws.eqAct
noncomputable def fn20 : FnT := ⟨(Tryd.f20.body.getD .skip), 15, Tryd.f20.results.toList, [(.ap 3, .ln), (.ap 3, .ln)], [(.bool, ⟨false, false, false, false, false⟩)], [], [], [], []⟩
-- 21 spec.ReadJournal
noncomputable def fn21 : FnT := ⟨(Tryd.f21.body.getD .skip), 40, Tryd.f21.results.toList, [(.str, .ln)], [(.sl (.ap 3), ⟨true, false, false, false, false⟩), (.int .i64, ⟨false, false, false, false, false⟩)], [(4, [(0, .val false), (4, .own false), (5, .val false), (6, .val false)])], [9, 35], [], []⟩
-- 22 impl.ReadJournal
noncomputable def fn22 : FnT := ⟨(Tryd.f22.body.getD .skip), 42, Tryd.f22.results.toList, [(.str, .ln)], [(.sl (.ap 3), ⟨true, false, false, false, false⟩), (.int .i64, ⟨false, false, false, false, false⟩)], [(3, [(0, .val false), (4, .own false), (5, .val false)])], [11, 36], [], []⟩
-- 23 laws.markActS
noncomputable def fn23 : FnT := ⟨(Tryd.f23.body.getD .skip), 27, Tryd.f23.results.toList, [(.sl (.ap 3), .io), (.int .i64, .ln)], [(.int .i64, ⟨false, false, false, false, false⟩)], [(2, [(0, .ptr), (1, .val false), (5, .val false)])], [], [], []⟩
-- 24 laws.heldActS
noncomputable def fn24 : FnT := ⟨(Tryd.f24.body.getD .skip), 31, Tryd.f24.results.toList, [(.sl (.ap 3), .ln), (.int .i64, .ln)], [(.int .i64, ⟨false, false, false, false, false⟩)], [(2, [(0, .val true), (1, .val false), (5, .val false)])], [], [], []⟩
-- 25 spec.DrawActText
noncomputable def fn25 : FnT := ⟨(Tryd.f25.body.getD .skip), 10, Tryd.f25.results.toList, [(.sl (.int .u8), .ln)], [(.ap 3, ⟨false, false, false, false, false⟩)], [], [], [], []⟩
-- 26 laws.alive
noncomputable def fn26 : FnT := ⟨(Tryd.f26.body.getD .skip), 9, Tryd.f26.results.toList, [], [(.bool, ⟨false, false, false, false, false⟩)], [], [], [], []⟩
-- 27 spec.DrawReadAct
noncomputable def fn27 : FnT := ⟨(Tryd.f27.body.getD .skip), 19, Tryd.f27.results.toList, [(.sl (.int .u8), .ln)], [(.str, ⟨false, false, false, false, false⟩)], [], [], [], []⟩
-- 28 spec.DrawJournalText
noncomputable def fn28 : FnT := ⟨(Tryd.f28.body.getD .skip), 16, Tryd.f28.results.toList, [(.sl (.int .u8), .ln)], [(.sl (.ap 3), ⟨true, false, false, false, false⟩)], [], [8, 14], [], []⟩
-- 29 laws.sameActs
noncomputable def fn29 : FnT := ⟨(Tryd.f29.body.getD .skip), 26, Tryd.f29.results.toList, [(.sl (.ap 3), .ln), (.sl (.ap 3), .ln)], [(.bool, ⟨false, false, false, false, false⟩)], [(4, [(0, .val true), (1, .val true), (5, .val false)])], [], [], []⟩
-- 30 spec.l1In
noncomputable def fn30 : FnT := ⟨(Tryd.f30.body.getD .skip), 15, Tryd.f30.results.toList, [(.int .i64, .ln), (.int .i64, .ln), (.int .i64, .ln)], [(.bool, ⟨false, false, false, false, false⟩)], [], [], [], []⟩
-- 31 spec.l1Number
noncomputable def fn31 : FnT := ⟨(Tryd.f31.body.getD .skip), 20, Tryd.f31.results.toList, [(.int .i64, .ln)], [(.str, ⟨false, false, false, false, false⟩)], [], [], [], []⟩
-- 32 strconv.Itoa
noncomputable def fn32 : FnT := ⟨(Tryd.f32.body.getD .skip), 5, Tryd.f32.results.toList, [(.int .i64, .ln)], [(.str, ⟨false, false, false, false, false⟩)], [], [], [], []⟩
-- 33 spec.l10Small
noncomputable def fn33 : FnT := ⟨(Tryd.f33.body.getD .skip), 44, Tryd.f33.results.toList, [(.str, .ln)], [(.int .i64, ⟨false, false, false, false, false⟩)], [(5, [(0, .val false), (3, .val false), (4, .val false)])], [], [], []⟩
-- 34 strings.Cut
noncomputable def fn34 : FnT := ⟨(Tryd.f34.body.getD .skip), 13, Tryd.f34.results.toList, [(.str, .ln), (.str, .ln)], [(.str, ⟨false, false, false, false, false⟩), (.str, ⟨false, false, false, false, false⟩), (.bool, ⟨false, false, false, false, false⟩)], [], [], [], []⟩
-- 35 strconv.Atoi
noncomputable def fn35 : FnT := ⟨(Tryd.f35.body.getD .skip), 18, Tryd.f35.results.toList, [(.str, .ln)], [(.int .i64, ⟨false, false, false, false, false⟩), (.err, ⟨false, false, false, false, false⟩)], [], [], [], []⟩
-- 36 spec.l20Open
noncomputable def fn36 : FnT := ⟨(Tryd.f36.body.getD .skip), 11, Tryd.f36.results.toList, [(.sl (.int .u8), .ln)], [(.pair (.sl (.int .u8)) (.pair (.int .i64) (.unit)), ⟨true, true, false, true, false⟩)], [], [], [], []⟩
-- 37 spec.l20Act
noncomputable def fn37 : FnT := ⟨(Tryd.f37.body.getD .skip), 42, Tryd.f37.results.toList, [(.pair (.sl (.int .u8)) (.pair (.int .i64) (.unit)), .ptr), (.ap 4, .ln)], [(.ap 3, ⟨false, false, false, false, false⟩)], [(1000006, [(0, .ptr), (4, .ptr), (5, .ptr)])], [], [], []⟩
-- 38 spec.l20Battle
noncomputable def fn38 : FnT := ⟨(Tryd.f38.body.getD .skip), 64, Tryd.f38.results.toList, [(.pair (.sl (.int .u8)) (.pair (.int .i64) (.unit)), .ptr), (.int .i64, .ln)], [(.ap 4, ⟨false, false, false, false, false⟩)], [(4, [(0, .ptr), (1, .val false), (4, .ptr), (6, .bx (.ap 4) [.own false, .val false, .own false, .own false]), (7, .val false)])], [6, 8, 16, 28, 41, 45, 48, 50, 62], [], []⟩
-- 39 impl.OrdOf
noncomputable def fn39 : FnT := ⟨(Tryd.f39.body.getD .skip), 12, Tryd.f39.results.toList, [(.int .i64, .ln)], [(.sl (.int .i64), ⟨true, false, false, false, false⟩)], [], [11], [], []⟩
-- 40 (*spec.l20Rd).pick
noncomputable def fn40 : FnT := ⟨(Tryd.f40.body.getD .skip), 99, Tryd.f40.results.toList, [(.pair (.sl (.int .u8)) (.pair (.int .i64) (.unit)), .ptr), (.int .i64, .ln)], [(.int .i64, ⟨false, false, false, false, false⟩)], [], [], [], []⟩
-- 41 spec.l20Spoil
noncomputable def fn41 : FnT := ⟨(Tryd.f41.body.getD .skip), 27, Tryd.f41.results.toList, [(.pair (.sl (.int .u8)) (.pair (.int .i64) (.unit)), .ptr), (.str, .ln)], [(.str, ⟨false, false, false, false, false⟩)], [], [], [], []⟩
-- 42 spec.l20Written
noncomputable def fn42 : FnT := ⟨(Tryd.f42.body.getD .skip), 31, Tryd.f42.results.toList, [(.pair (.sl (.int .u8)) (.pair (.int .i64) (.unit)), .ptr)], [(.sl (.ap 3), ⟨true, false, false, false, false⟩)], [(4, [(0, .ptr), (3, .own false), (4, .val false), (5, .val false)])], [6, 29], [], []⟩
-- 43 (*spec.l20Rd).odd
noncomputable def fn43 : FnT := ⟨(Tryd.f43.body.getD .skip), 15, Tryd.f43.results.toList, [(.pair (.sl (.int .u8)) (.pair (.int .i64) (.unit)), .ptr), (.int .i64, .ln)], [(.bool, ⟨false, false, false, false, false⟩)], [], [], [], []⟩
-- 48 spec.HydraHeads
noncomputable def fn48 : FnT := ⟨(Tryd.f48.body.getD .skip), 22, Tryd.f48.results.toList, [(.sl (.int .i64), .ln)], [(.int .i64, ⟨false, false, false, false, false⟩)], [(5, [(0, .val true), (3, .val false), (4, .val false)])], [], [], []⟩
-- 49 spec.l20Hydra
noncomputable def fn49 : FnT := ⟨(Tryd.f49.body.getD .skip), 52, Tryd.f49.results.toList, [(.pair (.sl (.int .u8)) (.pair (.int .i64) (.unit)), .ptr), (.int .i64, .ln)], [(.sl (.int .i64), ⟨true, false, false, false, false⟩)], [(3, [(0, .ptr), (1, .val false), (5, .own false), (6, .val false)]), (1000008, [(0, .ptr), (1, .val false), (5, .own false)])], [8, 27, 31, 37, 40, 43, 45, 47, 50], [], []⟩
-- 50 spec.BattleNew
noncomputable def fn50 : FnT := ⟨(Tryd.f50.body.getD .skip), 23, Tryd.f50.results.toList, [(.sl (.int .i64), .ln), (.int .i64, .ln)], [(.sl (.int .i64), ⟨true, false, false, false, false⟩), (.int .i64, ⟨false, false, false, false, false⟩), (.sl (.int .i64), ⟨true, false, false, false, false⟩), (.sl (.int .i64), ⟨true, false, false, false, false⟩)], [], [4, 13, 14, 16, 18, 19, 21, 22], [some (.ap 4)], []⟩
-- 51 spec.BattleDo
noncomputable def fn51 : FnT := ⟨(Tryd.f51.body.getD .skip), 108, Tryd.f51.results.toList, [(.ap 4, .ln), (.ap 3, .ln)], [(.sl (.int .i64), ⟨true, false, false, false, false⟩), (.int .i64, ⟨false, false, false, false, false⟩), (.sl (.int .i64), ⟨true, false, false, false, false⟩), (.sl (.int .i64), ⟨true, false, false, false, false⟩), (.bool, ⟨false, false, false, false, false⟩)], [(13, [(2, .ptr), (3, .ptr), (4, .bx (.ap 4) [.own false, .val false, .own false, .own false]), (6, .bx (.ap 4) [.own false, .val false, .own false, .own false]), (7, .own false), (8, .val true), (9, .val false)]), (1000009, [(2, .ptr), (3, .ptr), (4, .bx (.ap 4) [.own false, .val false, .own false, .own false]), (7, .own false)]), (1000010, [(2, .ptr), (3, .ptr), (4, .bx (.ap 4) [.own false, .val false, .own false, .own false]), (6, .bx (.ap 4) [.own false, .val false, .own false, .own false]), (7, .own false)]), (1000021, [(2, .ptr), (4, .bx (.ap 4) [.own false, .val false, .own false, .own false]), (6, .bx (.ap 4) [.own false, .val false, .own false, .own false]), (7, .own false)])], [4, 6, 18, 22, 23, 26, 36, 56, 91, 107], [some (.ap 4), none], []⟩
-- 52 impl.rowOf
noncomputable def fn52 : FnT := ⟨(Tryd.f52.body.getD .skip), 27, Tryd.f52.results.toList, [(.sl (.ap 0), .ln)], [(.sl (.int .i64), ⟨true, false, false, false, false⟩)], [(3, [(3, .own false), (9, .val true), (10, .val false), (11, .val false)])], [8, 19, 24], [], []⟩
-- 53 impl.number
noncomputable def fn53 : FnT := ⟨(Tryd.f53.body.getD .skip), 8, Tryd.f53.results.toList, [(.int .i64, .ln)], [(.sl (.ap 0), ⟨true, false, false, false, false⟩)], [], [7], [], []⟩
-- 54 spec.l20Acts
noncomputable def fn54 : FnT := ⟨(Tryd.f54.body.getD .skip), 35, Tryd.f54.results.toList, [(.pair (.sl (.int .u8)) (.pair (.int .i64) (.unit)), .ptr), (.ap 4, .ln)], [(.sl (.ap 3), ⟨true, false, false, false, false⟩)], [(4, [(0, .ptr), (5, .own false), (6, .ptr), (7, .val false)]), (1000010, [(0, .ptr), (5, .own false), (6, .ptr), (7, .val false), (8, .ptr)])], [11, 33], [], []⟩
-- 62 spec.HydraValid
noncomputable def fn62 : FnT := ⟨(Tryd.f62.body.getD .skip), 13, Tryd.f62.results.toList, [(.sl (.int .i64), .ln)], [(.bool, ⟨false, false, false, false, false⟩)], [], [], [], []⟩
-- 63 spec.l20Tree
noncomputable def fn63 : FnT := ⟨(Tryd.f63.body.getD .skip), 27, Tryd.f63.results.toList, [(.pair (.sl (.int .u8)) (.pair (.int .i64) (.unit)), .ptr), (.int .i64, .ln)], [(.sl (.int .i64), ⟨true, false, false, false, false⟩)], [(3, [(0, .ptr), (1, .val false), (5, .own false), (6, .val false)])], [7, 24, 26], [], []⟩
-- 64 spec.BattleValid
noncomputable def fn64 : FnT := ⟨(Tryd.f64.body.getD .skip), 22, Tryd.f64.results.toList, [(.ap 4, .ln)], [(.bool, ⟨false, false, false, false, false⟩)], [], [], [], []⟩
-- 65 spec.l10With
noncomputable def fn65 : FnT := ⟨(Tryd.f65.body.getD .skip), 29, Tryd.f65.results.toList, [(.ap 4, .ln), (.sl (.int .i64), .ln)], [(.sl (.int .i64), ⟨true, false, false, false, false⟩), (.int .i64, ⟨false, false, false, false, false⟩), (.sl (.int .i64), ⟨true, false, false, false, false⟩), (.sl (.int .i64), ⟨true, false, false, false, false⟩)], [], [4, 5, 12, 13, 15, 23], [some (.ap 4)], []⟩
-- 66 spec.HydraCut
noncomputable def fn66 : FnT := ⟨(Tryd.f66.body.getD .skip), 39, Tryd.f66.results.toList, [(.sl (.int .i64), .ln), (.int .i64, .ln), (.int .i64, .ln)], [(.sl (.int .i64), ⟨true, false, false, false, false⟩), (.bool, ⟨false, false, false, false, false⟩)], [], [26, 31, 37], [], []⟩
-- 67 spec.HydraRun
noncomputable def fn67 : FnT := ⟨(Tryd.f67.body.getD .skip), 50, Tryd.f67.results.toList, [(.sl (.int .i64), .ln), (.sl (.int .i64), .ln), (.int .i64, .ln)], [(.sl (.int .i64), ⟨true, false, false, false, false⟩), (.bool, ⟨false, false, false, false, false⟩)], [(5, [(1, .val true), (2, .val false), (8, .own false), (9, .val false)])], [25, 26, 28, 42, 47], [], []⟩
-- 79 spec.l5End
noncomputable def fn79 : FnT := ⟨(Tryd.f79.body.getD .skip), 38, Tryd.f79.results.toList, [(.sl (.int .i64), .ln), (.int .i64, .ln)], [(.int .i64, ⟨false, false, false, false, false⟩)], [(6, [(0, .val true), (1, .val false), (5, .val false), (6, .val false)])], [], [], []⟩
-- 80 spec.l5Tree
noncomputable def fn80 : FnT := ⟨(Tryd.f80.body.getD .skip), 21, Tryd.f80.results.toList, [(.sl (.sl (.int .i64)), .ln)], [(.sl (.int .i64), ⟨true, false, false, false, false⟩)], [(3, [(0, .val true), (3, .own false), (4, .val false)])], [7, 19], [], []⟩
-- 81 spec.l1Same
noncomputable def fn81 : FnT := ⟨(Tryd.f81.body.getD .skip), 32, Tryd.f81.results.toList, [(.sl (.int .i64), .ln), (.sl (.int .i64), .ln)], [(.bool, ⟨false, false, false, false, false⟩)], [(2, [(0, .val true), (1, .val true), (5, .val false)])], [], [], []⟩
-- 82 spec.l5Cut
noncomputable def fn82 : FnT := ⟨(Tryd.f82.body.getD .skip), 82, Tryd.f82.results.toList, [(.sl (.int .i64), .ln), (.int .i64, .ln), (.int .i64, .ln)], [(.sl (.int .i64), ⟨true, false, false, false, false⟩), (.bool, ⟨false, false, false, false, false⟩)], [(5, [(1, .val false), (2, .val false), (8, .val true), (9, .own true), (10, .val false), (11, .val false)]), (17, [(2, .val false), (8, .val true), (9, .own true), (10, .val false), (11, .val false), (13, .val false), (14, .val false), (15, .val false)]), (1000009, [(1, .val false), (2, .val false), (8, .val true), (9, .own true), (10, .val false), (11, .val false), (12, .val false)])], [18, 43, 66, 78, 80], [], []⟩
-- 92 spec.l5Branches
noncomputable def fn92 : FnT := ⟨(Tryd.f92.body.getD .skip), 23, Tryd.f92.results.toList, [(.sl (.int .i64), .ln)], [(.sl (.sl (.int .i64)), ⟨true, true, false, false, false⟩)], [(3, [(0, .val true), (3, .own true), (4, .val false)])], [6, 20], [], []⟩
-- 93 spec.l5Heads
noncomputable def fn93 : FnT := ⟨(Tryd.f93.body.getD .skip), 19, Tryd.f93.results.toList, [(.sl (.int .i64), .ln)], [(.int .i64, ⟨false, false, false, false, false⟩)], [(3, [(0, .val true), (3, .val false), (4, .val false)])], [], [], []⟩
def tyOf : Nat → Option Ty
  | 3 => some (.int .i64)
  | 4 => some (.bool)
  | 5 => some (.int .u8)
  | 9 => some (.str)
  | 25 => some (.ap 3)
  | 31 => some (.sl (.ap 3))
  | 42 => some (.sl (.int .u8))
  | 49 => some (.sl (.str))
  | 55 => some (.err)
  | 58 => some (.sl (.int .i64))
  | 63 => some (.ap 4)
  | 72 => some (.pair (.sl (.int .u8)) (.pair (.int .i64) (.unit)))
  | 80 => some (.sl (.ap 0))
  | 98 => some (.ap 0)
  | 114 => some (.sl (.sl (.int .i64)))
  | _ => none
noncomputable def tab : Tab := ⟨tyOf, (fun
  | 5 => some fn5
  | 6 => some fn6
  | 7 => some fn7
  | 8 => some fn8
  | 9 => some fn9
  | 10 => some fn10
  | 12 => some fn12
  | 14 => some fn14
  | 16 => some fn16
  | 17 => some fn17
  | 18 => some fn18
  | 19 => some fn19
  | 20 => some fn20
  | 21 => some fn21
  | 22 => some fn22
  | 23 => some fn23
  | 24 => some fn24
  | 25 => some fn25
  | 26 => some fn26
  | 27 => some fn27
  | 28 => some fn28
  | 29 => some fn29
  | 30 => some fn30
  | 31 => some fn31
  | 32 => some fn32
  | 33 => some fn33
  | 34 => some fn34
  | 35 => some fn35
  | 36 => some fn36
  | 37 => some fn37
  | 38 => some fn38
  | 39 => some fn39
  | 40 => some fn40
  | 41 => some fn41
  | 42 => some fn42
  | 43 => some fn43
  | 48 => some fn48
  | 49 => some fn49
  | 50 => some fn50
  | 51 => some fn51
  | 52 => some fn52
  | 53 => some fn53
  | 54 => some fn54
  | 62 => some fn62
  | 63 => some fn63
  | 64 => some fn64
  | 65 => some fn65
  | 66 => some fn66
  | 67 => some fn67
  | 79 => some fn79
  | 80 => some fn80
  | 81 => some fn81
  | 82 => some fn82
  | 92 => some fn92
  | 93 => some fn93
  | _ => none), tabQ, fun _ => none, (fun -- eq
  | 25 => true
  | _ => false)⟩
noncomputable def ext : Ext tab := fun
  | 32 => some (onInt tab 32 (fun x => x))
  | 34 => some (onStr2 tab 34 (fun x => x))
  | 35 => some (onStr tab 35 (fun x => x))
  | _ => none
noncomputable def laws_FnExactReadAct.f (k : Nat) (a0 : List UInt8) : Option Bool := runF tab ext k 5 [⟨.str, a0⟩]
noncomputable def laws_FnExactReadJournal.f (k : Nat) (a0 : List UInt8) : Option Bool := runF tab ext k 6 [⟨.str, a0⟩]
noncomputable def laws_FnActText.f (k : Nat) (a0 : List Int) : Option Bool := runF tab ext k 7 [⟨.sl (.int .u8), a0⟩]
noncomputable def laws_FnReadAct.f (k : Nat) (a0 : List Int) : Option Bool := runF tab ext k 8 [⟨.sl (.int .u8), a0⟩]
noncomputable def laws_FnJournalText.f (k : Nat) (a0 : List Int) : Option Bool := runF tab ext k 9 [⟨.sl (.int .u8), a0⟩]
noncomputable def spec_ActText.f (k : Nat) (a0 : TwoInts) : Option (List UInt8) := runF tab ext k 10 [⟨.ap 3, a0⟩]
noncomputable def impl_ActText.f (k : Nat) (a0 : TwoInts) : Option (List UInt8) := runF tab ext k 12 [⟨.ap 3, a0⟩]
noncomputable def impl_ActText.j0 (k : Nat) (x1 : TwoInts) (x3 : List UInt8) : Option (List UInt8) := runL tab ext k 12 (todoAt tab 12 1000009) (stAt tab 12 [(1, .ptr 4 []), (3, mkVal false (.str) x3)] [(4, .box false (.ap 3) x1)])
noncomputable def spec_JournalText.f (k : Nat) (a0 : List TwoInts) : Option (List UInt8) := runF tab ext k 14 [⟨.sl (.ap 3), a0⟩]
noncomputable def spec_JournalText.l0 (k : Nat) (x0 : List TwoInts) (x3 : List UInt8) (x4 : Int) : Option (List UInt8) := runL tab ext k 14 (todoAt tab 14 3) (stAt tab 14 [(0, mkVal true (.sl (.ap 3)) x0), (3, mkVal false (.str) x3), (4, mkVal false (.int .i64) x4)] [])
noncomputable def impl_JournalText.f (k : Nat) (a0 : List TwoInts) : Option (List UInt8) := runF tab ext k 16 [⟨.sl (.ap 3), a0⟩]
noncomputable def impl_JournalText.l0 (k : Nat) (x3 : List UInt8) (x7 : List TwoInts) (x8 : Int) (x9 : Int) : Option (List UInt8) := runL tab ext k 16 (todoAt tab 16 3) (stAt tab 16 [(3, mkVal false (.str) x3), (7, mkVal true (.sl (.ap 3)) x7), (8, mkVal false (.int .i64) x8), (9, mkVal false (.int .i64) x9)] [])
noncomputable def laws_eqActS.f (k : Nat) (a0 : List TwoInts) (a1 : List TwoInts) : Option Bool := runF tab ext k 17 [⟨.sl (.ap 3), a0⟩, ⟨.sl (.ap 3), a1⟩]
noncomputable def laws_eqActS.l0 (k : Nat) (x0 : List TwoInts) (x1 : List TwoInts) (x5 : Int) : Option Bool := runL tab ext k 17 (todoAt tab 17 4) (stAt tab 17 [(0, mkVal true (.sl (.ap 3)) x0), (1, mkVal true (.sl (.ap 3)) x1), (5, mkVal false (.int .i64) x5)] [])
noncomputable def spec_ReadAct.f (k : Nat) (a0 : List UInt8) : Option (TwoInts × Bool) := runF tab ext k 18 [⟨.str, a0⟩]
noncomputable def spec_ReadAct.l0 (k : Nat) (x0 : List UInt8) (x2 : TwoInts) (x4 : Int) : Option (TwoInts × Bool) := runL tab ext k 18 (todoAt tab 18 2) (stAt tab 18 [(0, mkVal false (.str) x0), (2, .ptr 8 []), (4, mkVal false (.int .i64) x4)] [(8, .box false (.ap 3) x2)])
noncomputable def impl_ReadAct.f (k : Nat) (a0 : List UInt8) : Option (TwoInts × Bool) := runF tab ext k 19 [⟨.str, a0⟩]
noncomputable def impl_ReadAct.l0 (k : Nat) (x0 : List UInt8) (x2 : TwoInts) (x4 : List UInt8) (x7 : Int) (x8 : Bool) (x23 : List Int) (x24 : Int) (x25 : Int) : Option (TwoInts × Bool) := runL tab ext k 19 (todoAt tab 19 4) (stAt tab 19 [(0, mkVal false (.str) x0), (2, .ptr 8 []), (4, mkVal false (.str) x4), (7, mkVal false (.int .i64) x7), (8, mkVal false (.err) x8), (23, mkVal false (.sl (.int .i64)) x23), (24, mkVal false (.int .i64) x24), (25, mkVal false (.int .i64) x25)] [(8, .box false (.ap 3) x2)])
noncomputable def laws_eqAct.f (k : Nat) (a0 : TwoInts) (a1 : TwoInts) : Option Bool := runF tab ext k 20 [⟨.ap 3, a0⟩, ⟨.ap 3, a1⟩]
noncomputable def spec_ReadJournal.f (k : Nat) (a0 : List UInt8) : Option (List TwoInts × Int) := runF tab ext k 21 [⟨.str, a0⟩]
noncomputable def spec_ReadJournal.l0 (k : Nat) (x0 : List UInt8) (x4 : List TwoInts) (x5 : Int) (x6 : Int) : Option (List TwoInts × Int) := runL tab ext k 21 (todoAt tab 21 4) (stAt tab 21 [(0, mkVal false (.str) x0), (4, .ref 19), (5, mkVal false (.int .i64) x5), (6, mkVal false (.int .i64) x6)] [(19, .sl false false (.ap 3) x4)])
noncomputable def impl_ReadJournal.f (k : Nat) (a0 : List UInt8) : Option (List TwoInts × Int) := runF tab ext k 22 [⟨.str, a0⟩]
noncomputable def impl_ReadJournal.l0 (k : Nat) (x0 : List UInt8) (x4 : List TwoInts) (x5 : Int) : Option (List TwoInts × Int) := runL tab ext k 22 (todoAt tab 22 3) (stAt tab 22 [(0, mkVal false (.str) x0), (4, .ref 19), (5, mkVal false (.int .i64) x5)] [(19, .sl false false (.ap 3) x4)])
noncomputable def laws_markActS.f (k : Nat) (a0 : List TwoInts) (a1 : Int) : Option (Int × List TwoInts) := runF tab ext k 23 [⟨.sl (.ap 3), a0⟩, ⟨.int .i64, a1⟩]
noncomputable def laws_markActS.l0 (k : Nat) (x0 : List TwoInts) (x1 : Int) (x5 : Int) : Option (Int × List TwoInts) := runL tab ext k 23 (todoAt tab 23 2) (stAt tab 23 [(0, .ref 108), (1, mkVal false (.int .i64) x1), (5, mkVal false (.int .i64) x5)] [(108, .io false (.ap 3) x0)])
noncomputable def laws_heldActS.f (k : Nat) (a0 : List TwoInts) (a1 : Int) : Option Int := runF tab ext k 24 [⟨.sl (.ap 3), a0⟩, ⟨.int .i64, a1⟩]
noncomputable def laws_heldActS.l0 (k : Nat) (x0 : List TwoInts) (x1 : Int) (x5 : Int) : Option Int := runL tab ext k 24 (todoAt tab 24 2) (stAt tab 24 [(0, mkVal true (.sl (.ap 3)) x0), (1, mkVal false (.int .i64) x1), (5, mkVal false (.int .i64) x5)] [])
noncomputable def spec_DrawActText.f (k : Nat) (a0 : List Int) : Option TwoInts := runF tab ext k 25 [⟨.sl (.int .u8), a0⟩]
noncomputable def laws_alive.f (k : Nat) : Option Bool := runF tab ext k 26 []
noncomputable def spec_DrawReadAct.f (k : Nat) (a0 : List Int) : Option (List UInt8) := runF tab ext k 27 [⟨.sl (.int .u8), a0⟩]
noncomputable def spec_DrawJournalText.f (k : Nat) (a0 : List Int) : Option (List TwoInts) := runF tab ext k 28 [⟨.sl (.int .u8), a0⟩]
noncomputable def laws_sameActs.f (k : Nat) (a0 : List TwoInts) (a1 : List TwoInts) : Option Bool := runF tab ext k 29 [⟨.sl (.ap 3), a0⟩, ⟨.sl (.ap 3), a1⟩]
noncomputable def laws_sameActs.l0 (k : Nat) (x0 : List TwoInts) (x1 : List TwoInts) (x5 : Int) : Option Bool := runL tab ext k 29 (todoAt tab 29 4) (stAt tab 29 [(0, mkVal true (.sl (.ap 3)) x0), (1, mkVal true (.sl (.ap 3)) x1), (5, mkVal false (.int .i64) x5)] [])
noncomputable def spec_l1In.f (k : Nat) (a0 : Int) (a1 : Int) (a2 : Int) : Option Bool := runF tab ext k 30 [⟨.int .i64, a0⟩, ⟨.int .i64, a1⟩, ⟨.int .i64, a2⟩]
noncomputable def spec_l1Number.f (k : Nat) (a0 : Int) : Option (List UInt8) := runF tab ext k 31 [⟨.int .i64, a0⟩]
noncomputable def strconv_Itoa.f (k : Nat) (a0 : Int) : Option (List UInt8) := runF tab ext k 32 [⟨.int .i64, a0⟩]
noncomputable def spec_l10Small.f (k : Nat) (a0 : List UInt8) : Option Int := runF tab ext k 33 [⟨.str, a0⟩]
noncomputable def spec_l10Small.l0 (k : Nat) (x0 : List UInt8) (x3 : Int) (x4 : Int) : Option Int := runL tab ext k 33 (todoAt tab 33 5) (stAt tab 33 [(0, mkVal false (.str) x0), (3, mkVal false (.int .i64) x3), (4, mkVal false (.int .i64) x4)] [])
noncomputable def strings_Cut.f (k : Nat) (a0 : List UInt8) (a1 : List UInt8) : Option (List UInt8 × List UInt8 × Bool) := runF tab ext k 34 [⟨.str, a0⟩, ⟨.str, a1⟩]
noncomputable def strconv_Atoi.f (k : Nat) (a0 : List UInt8) : Option (Int × Bool) := runF tab ext k 35 [⟨.str, a0⟩]
noncomputable def spec_l20Open.f (k : Nat) (a0 : List Int) : Option (List Int × (Int × Unit)) := runF tab ext k 36 [⟨.sl (.int .u8), a0⟩]
noncomputable def spec_l20Act.f (k : Nat) (a0_0 : List Int) (a0_1 : Int) (a1 : Battle) : Option (TwoInts × (List Int × (Int × Unit))) := runF tab ext k 37 [⟨.pair (.sl (.int .u8)) (.pair (.int .i64) (.unit)), (a0_0, a0_1, ())⟩, ⟨.ap 4, a1⟩]
noncomputable def spec_l20Act.j0 (k : Nat) (x0_0 : List Int) (x0_1 : Int) (x4 : TwoInts) (x5 : TwoInts) : Option (TwoInts × (List Int × (Int × Unit))) := runL tab ext k 37 (todoAt tab 37 1000006) (stAt tab 37 [(0, .ptr 168 []), (4, .ptr 16 []), (5, .ptr 20 [])] [(168, .box false (.pair (.sl (.int .u8)) (.pair (.int .i64) (.unit))) (x0_0, x0_1, ())), (16, .box false (.ap 3) x4), (20, .box false (.ap 3) x5)])
noncomputable def spec_l20Battle.f (k : Nat) (a0_0 : List Int) (a0_1 : Int) (a1 : Int) : Option (Battle × (List Int × (Int × Unit))) := runF tab ext k 38 [⟨.pair (.sl (.int .u8)) (.pair (.int .i64) (.unit)), (a0_0, a0_1, ())⟩, ⟨.int .i64, a1⟩]
noncomputable def spec_l20Battle.l0 (k : Nat) (x0_0 : List Int) (x0_1 : Int) (x1 : Int) (x4 : Battle) (x6_0 : List Int) (x6_1 : Int) (x6_2 : List Int) (x6_3 : List Int) (x7 : Int) : Option (Battle × (List Int × (Int × Unit))) := runL tab ext k 38 (todoAt tab 38 4) (stAt tab 38 [(0, .ptr 256 []), (1, mkVal false (.int .i64) x1), (4, .ptr 16 []), (6, .ptr 24 []), (7, mkVal false (.int .i64) x7)] [(256, .box false (.pair (.sl (.int .u8)) (.pair (.int .i64) (.unit))) (x0_0, x0_1, ())), (16, .box false (.ap 4) x4), (25, .sl false false (.int .i64) x6_0), (26, .sl false false (.int .i64) x6_2), (27, .sl false false (.int .i64) x6_3), (24, .bx (.ap 4) [.ref 25, mkVal false (.int .i64) x6_1, .ref 26, .ref 27])])
noncomputable def impl_OrdOf.f (k : Nat) (a0 : Int) : Option (List Int) := runF tab ext k 39 [⟨.int .i64, a0⟩]
noncomputable def spec_l20Rd__pick.f (k : Nat) (a0_0 : List Int) (a0_1 : Int) (a1 : Int) : Option (Int × (List Int × (Int × Unit))) := runF tab ext k 40 [⟨.pair (.sl (.int .u8)) (.pair (.int .i64) (.unit)), (a0_0, a0_1, ())⟩, ⟨.int .i64, a1⟩]
noncomputable def spec_l20Spoil.f (k : Nat) (a0_0 : List Int) (a0_1 : Int) (a1 : List UInt8) : Option (List UInt8 × (List Int × (Int × Unit))) := runF tab ext k 41 [⟨.pair (.sl (.int .u8)) (.pair (.int .i64) (.unit)), (a0_0, a0_1, ())⟩, ⟨.str, a1⟩]
noncomputable def spec_l20Written.f (k : Nat) (a0_0 : List Int) (a0_1 : Int) : Option (List TwoInts × (List Int × (Int × Unit))) := runF tab ext k 42 [⟨.pair (.sl (.int .u8)) (.pair (.int .i64) (.unit)), (a0_0, a0_1, ())⟩]
noncomputable def spec_l20Written.l0 (k : Nat) (x0_0 : List Int) (x0_1 : Int) (x3 : List TwoInts) (x4 : List TwoInts) (x5 : Int) : Option (List TwoInts × (List Int × (Int × Unit))) := runL tab ext k 42 (todoAt tab 42 4) (stAt tab 42 [(0, .ptr 124 []), (3, .ref 15), (4, mkVal false (.sl (.ap 3)) x4), (5, mkVal false (.int .i64) x5)] [(124, .box false (.pair (.sl (.int .u8)) (.pair (.int .i64) (.unit))) (x0_0, x0_1, ())), (15, .sl false false (.ap 3) x3)])
noncomputable def spec_l20Rd__odd.f (k : Nat) (a0_0 : List Int) (a0_1 : Int) (a1 : Int) : Option (Bool × (List Int × (Int × Unit))) := runF tab ext k 43 [⟨.pair (.sl (.int .u8)) (.pair (.int .i64) (.unit)), (a0_0, a0_1, ())⟩, ⟨.int .i64, a1⟩]
noncomputable def spec_HydraHeads.f (k : Nat) (a0 : List Int) : Option Int := runF tab ext k 48 [⟨.sl (.int .i64), a0⟩]
noncomputable def spec_HydraHeads.l0 (k : Nat) (x0 : List Int) (x3 : Int) (x4 : Int) : Option Int := runL tab ext k 48 (todoAt tab 48 5) (stAt tab 48 [(0, mkVal true (.sl (.int .i64)) x0), (3, mkVal false (.int .i64) x3), (4, mkVal false (.int .i64) x4)] [])
noncomputable def spec_l20Hydra.f (k : Nat) (a0_0 : List Int) (a0_1 : Int) (a1 : Int) : Option (List Int × (List Int × (Int × Unit))) := runF tab ext k 49 [⟨.pair (.sl (.int .u8)) (.pair (.int .i64) (.unit)), (a0_0, a0_1, ())⟩, ⟨.int .i64, a1⟩]
noncomputable def spec_l20Hydra.l0 (k : Nat) (x0_0 : List Int) (x0_1 : Int) (x1 : Int) (x5 : List Int) (x6 : Int) : Option (List Int × (List Int × (Int × Unit))) := runL tab ext k 49 (todoAt tab 49 3) (stAt tab 49 [(0, .ptr 208 []), (1, mkVal false (.int .i64) x1), (5, .ref 23), (6, mkVal false (.int .i64) x6)] [(208, .box false (.pair (.sl (.int .u8)) (.pair (.int .i64) (.unit))) (x0_0, x0_1, ())), (23, .sl false false (.int .i64) x5)])
noncomputable def spec_l20Hydra.j0 (k : Nat) (x0_0 : List Int) (x0_1 : Int) (x1 : Int) (x5 : List Int) : Option (List Int × (List Int × (Int × Unit))) := runL tab ext k 49 (todoAt tab 49 1000008) (stAt tab 49 [(0, .ptr 208 []), (1, mkVal false (.int .i64) x1), (5, .ref 23)] [(208, .box false (.pair (.sl (.int .u8)) (.pair (.int .i64) (.unit))) (x0_0, x0_1, ())), (23, .sl false false (.int .i64) x5)])
noncomputable def spec_BattleNew.f (k : Nat) (a0 : List Int) (a1 : Int) : Option (List Int × Int × List Int × List Int) := runF tab ext k 50 [⟨.sl (.int .i64), a0⟩, ⟨.int .i64, a1⟩]
noncomputable def spec_BattleDo.f (k : Nat) (a0 : Battle) (a1 : TwoInts) : Option (List Int × Int × List Int × List Int × Bool) := runF tab ext k 51 [⟨.ap 4, a0⟩, ⟨.ap 3, a1⟩]
noncomputable def spec_BattleDo.j0 (k : Nat) (x2 : Battle) (x4_0 : List Int) (x4_1 : Int) (x4_2 : List Int) (x4_3 : List Int) (x6_0 : List Int) (x6_1 : Int) (x6_2 : List Int) (x6_3 : List Int) (x7 : List Int) : Option (List Int × Int × List Int × List Int × Bool) := runL tab ext k 51 (todoAt tab 51 1000021) (stAt tab 51 [(2, .ptr 8 []), (4, .ptr 16 []), (6, .ptr 24 []), (7, .ref 31)] [(8, .box true (.ap 4) x2), (17, .sl false false (.int .i64) x4_0), (18, .sl false false (.int .i64) x4_2), (19, .sl false false (.int .i64) x4_3), (16, .bx (.ap 4) [.ref 17, mkVal false (.int .i64) x4_1, .ref 18, .ref 19]), (25, .sl false false (.int .i64) x6_0), (26, .sl false false (.int .i64) x6_2), (27, .sl false false (.int .i64) x6_3), (24, .bx (.ap 4) [.ref 25, mkVal false (.int .i64) x6_1, .ref 26, .ref 27]), (31, .sl false false (.int .i64) x7)])
noncomputable def spec_BattleDo.j1 (k : Nat) (x2 : Battle) (x3 : TwoInts) (x4_0 : List Int) (x4_1 : Int) (x4_2 : List Int) (x4_3 : List Int) (x7 : List Int) : Option (List Int × Int × List Int × List Int × Bool) := runL tab ext k 51 (todoAt tab 51 1000009) (stAt tab 51 [(2, .ptr 8 []), (3, .ptr 12 []), (4, .ptr 16 []), (7, .ref 31)] [(8, .box true (.ap 4) x2), (12, .box false (.ap 3) x3), (17, .sl false false (.int .i64) x4_0), (18, .sl false false (.int .i64) x4_2), (19, .sl false false (.int .i64) x4_3), (16, .bx (.ap 4) [.ref 17, mkVal false (.int .i64) x4_1, .ref 18, .ref 19]), (31, .sl false false (.int .i64) x7)])
noncomputable def spec_BattleDo.j2 (k : Nat) (x2 : Battle) (x3 : TwoInts) (x4_0 : List Int) (x4_1 : Int) (x4_2 : List Int) (x4_3 : List Int) (x6_0 : List Int) (x6_1 : Int) (x6_2 : List Int) (x6_3 : List Int) (x7 : List Int) : Option (List Int × Int × List Int × List Int × Bool) := runL tab ext k 51 (todoAt tab 51 1000010) (stAt tab 51 [(2, .ptr 8 []), (3, .ptr 12 []), (4, .ptr 16 []), (6, .ptr 24 []), (7, .ref 31)] [(8, .box true (.ap 4) x2), (12, .box false (.ap 3) x3), (17, .sl false false (.int .i64) x4_0), (18, .sl false false (.int .i64) x4_2), (19, .sl false false (.int .i64) x4_3), (16, .bx (.ap 4) [.ref 17, mkVal false (.int .i64) x4_1, .ref 18, .ref 19]), (25, .sl false false (.int .i64) x6_0), (26, .sl false false (.int .i64) x6_2), (27, .sl false false (.int .i64) x6_3), (24, .bx (.ap 4) [.ref 25, mkVal false (.int .i64) x6_1, .ref 26, .ref 27]), (31, .sl false false (.int .i64) x7)])
noncomputable def spec_BattleDo.l0 (k : Nat) (x2 : Battle) (x3 : TwoInts) (x4_0 : List Int) (x4_1 : Int) (x4_2 : List Int) (x4_3 : List Int) (x6_0 : List Int) (x6_1 : Int) (x6_2 : List Int) (x6_3 : List Int) (x7 : List Int) (x8 : List Int) (x9 : Int) : Option (List Int × Int × List Int × List Int × Bool) := runL tab ext k 51 (todoAt tab 51 13) (stAt tab 51 [(2, .ptr 8 []), (3, .ptr 12 []), (4, .ptr 16 []), (6, .ptr 24 []), (7, .ref 31), (8, mkVal true (.sl (.int .i64)) x8), (9, mkVal false (.int .i64) x9)] [(8, .box true (.ap 4) x2), (12, .box false (.ap 3) x3), (17, .sl false false (.int .i64) x4_0), (18, .sl false false (.int .i64) x4_2), (19, .sl false false (.int .i64) x4_3), (16, .bx (.ap 4) [.ref 17, mkVal false (.int .i64) x4_1, .ref 18, .ref 19]), (25, .sl false false (.int .i64) x6_0), (26, .sl false false (.int .i64) x6_2), (27, .sl false false (.int .i64) x6_3), (24, .bx (.ap 4) [.ref 25, mkVal false (.int .i64) x6_1, .ref 26, .ref 27]), (31, .sl false false (.int .i64) x7)])
noncomputable def impl_rowOf.f (k : Nat) (a0 : List Term) : Option (List Int) := runF tab ext k 52 [⟨.sl (.ap 0), a0⟩]
noncomputable def impl_rowOf.l0 (k : Nat) (x3 : List Int) (x9 : List Term) (x10 : Int) (x11 : Int) : Option (List Int) := runL tab ext k 52 (todoAt tab 52 3) (stAt tab 52 [(3, .ref 15), (9, mkVal true (.sl (.ap 0)) x9), (10, mkVal false (.int .i64) x10), (11, mkVal false (.int .i64) x11)] [(15, .sl false false (.int .i64) x3)])
noncomputable def impl_number.f (k : Nat) (a0 : Int) : Option (List Term) := runF tab ext k 53 [⟨.int .i64, a0⟩]
noncomputable def spec_l20Acts.f (k : Nat) (a0_0 : List Int) (a0_1 : Int) (a1 : Battle) : Option (List TwoInts × (List Int × (Int × Unit))) := runF tab ext k 54 [⟨.pair (.sl (.int .u8)) (.pair (.int .i64) (.unit)), (a0_0, a0_1, ())⟩, ⟨.ap 4, a1⟩]
noncomputable def spec_l20Acts.l0 (k : Nat) (x0_0 : List Int) (x0_1 : Int) (x5 : List TwoInts) (x6 : Battle) (x7 : Int) : Option (List TwoInts × (List Int × (Int × Unit))) := runL tab ext k 54 (todoAt tab 54 4) (stAt tab 54 [(0, .ptr 140 []), (5, .ref 23), (6, .ptr 24 []), (7, mkVal false (.int .i64) x7)] [(140, .box false (.pair (.sl (.int .u8)) (.pair (.int .i64) (.unit))) (x0_0, x0_1, ())), (23, .sl false false (.ap 3) x5), (24, .box true (.ap 4) x6)])
noncomputable def spec_l20Acts.j0 (k : Nat) (x0_0 : List Int) (x0_1 : Int) (x5 : List TwoInts) (x6 : Battle) (x7 : Int) (x8 : TwoInts) : Option (List TwoInts × (List Int × (Int × Unit))) := runL tab ext k 54 (todoAt tab 54 1000010) (stAt tab 54 [(0, .ptr 140 []), (5, .ref 23), (6, .ptr 24 []), (7, mkVal false (.int .i64) x7), (8, .ptr 32 [])] [(140, .box false (.pair (.sl (.int .u8)) (.pair (.int .i64) (.unit))) (x0_0, x0_1, ())), (23, .sl false false (.ap 3) x5), (24, .box true (.ap 4) x6), (32, .box false (.ap 3) x8)])
noncomputable def spec_HydraValid.f (k : Nat) (a0 : List Int) : Option Bool := runF tab ext k 62 [⟨.sl (.int .i64), a0⟩]
noncomputable def spec_l20Tree.f (k : Nat) (a0_0 : List Int) (a0_1 : Int) (a1 : Int) : Option (List Int × (List Int × (Int × Unit))) := runF tab ext k 63 [⟨.pair (.sl (.int .u8)) (.pair (.int .i64) (.unit)), (a0_0, a0_1, ())⟩, ⟨.int .i64, a1⟩]
noncomputable def spec_l20Tree.l0 (k : Nat) (x0_0 : List Int) (x0_1 : Int) (x1 : Int) (x5 : List (List Int)) (x6 : Int) : Option (List Int × (List Int × (Int × Unit))) := runL tab ext k 63 (todoAt tab 63 3) (stAt tab 63 [(0, .ptr 108 []), (1, mkVal false (.int .i64) x1), (5, .ref 23), (6, mkVal false (.int .i64) x6)] [(108, .box false (.pair (.sl (.int .u8)) (.pair (.int .i64) (.unit))) (x0_0, x0_1, ())), (23, .sl false false (.sl (.int .i64)) x5)])
noncomputable def spec_BattleValid.f (k : Nat) (a0 : Battle) : Option Bool := runF tab ext k 64 [⟨.ap 4, a0⟩]
noncomputable def spec_l10With.f (k : Nat) (a0 : Battle) (a1 : List Int) : Option (List Int × Int × List Int × List Int) := runF tab ext k 65 [⟨.ap 4, a0⟩, ⟨.sl (.int .i64), a1⟩]
noncomputable def spec_HydraCut.f (k : Nat) (a0 : List Int) (a1 : Int) (a2 : Int) : Option (List Int × Bool) := runF tab ext k 66 [⟨.sl (.int .i64), a0⟩, ⟨.int .i64, a1⟩, ⟨.int .i64, a2⟩]
noncomputable def spec_HydraRun.f (k : Nat) (a0 : List Int) (a1 : List Int) (a2 : Int) : Option (List Int × Bool) := runF tab ext k 67 [⟨.sl (.int .i64), a0⟩, ⟨.sl (.int .i64), a1⟩, ⟨.int .i64, a2⟩]
noncomputable def spec_HydraRun.l0 (k : Nat) (x1 : List Int) (x2 : Int) (x8 : List Int) (x9 : Int) : Option (List Int × Bool) := runL tab ext k 67 (todoAt tab 67 5) (stAt tab 67 [(1, mkVal true (.sl (.int .i64)) x1), (2, mkVal false (.int .i64) x2), (8, .ref 35), (9, mkVal false (.int .i64) x9)] [(35, .sl false false (.int .i64) x8)])
noncomputable def spec_l5End.f (k : Nat) (a0 : List Int) (a1 : Int) : Option Int := runF tab ext k 79 [⟨.sl (.int .i64), a0⟩, ⟨.int .i64, a1⟩]
noncomputable def spec_l5End.l0 (k : Nat) (x0 : List Int) (x1 : Int) (x5 : Int) (x6 : Int) : Option Int := runL tab ext k 79 (todoAt tab 79 6) (stAt tab 79 [(0, mkVal true (.sl (.int .i64)) x0), (1, mkVal false (.int .i64) x1), (5, mkVal false (.int .i64) x5), (6, mkVal false (.int .i64) x6)] [])
noncomputable def spec_l5Tree.f (k : Nat) (a0 : List (List Int)) : Option (List Int) := runF tab ext k 80 [⟨.sl (.sl (.int .i64)), a0⟩]
noncomputable def spec_l5Tree.l0 (k : Nat) (x0 : List (List Int)) (x3 : List Int) (x4 : Int) : Option (List Int) := runL tab ext k 80 (todoAt tab 80 3) (stAt tab 80 [(0, mkVal true (.sl (.sl (.int .i64))) x0), (3, .ref 15), (4, mkVal false (.int .i64) x4)] [(15, .sl false false (.int .i64) x3)])
noncomputable def spec_l1Same.f (k : Nat) (a0 : List Int) (a1 : List Int) : Option Bool := runF tab ext k 81 [⟨.sl (.int .i64), a0⟩, ⟨.sl (.int .i64), a1⟩]
noncomputable def spec_l1Same.l0 (k : Nat) (x0 : List Int) (x1 : List Int) (x5 : Int) : Option Bool := runL tab ext k 81 (todoAt tab 81 2) (stAt tab 81 [(0, mkVal true (.sl (.int .i64)) x0), (1, mkVal true (.sl (.int .i64)) x1), (5, mkVal false (.int .i64) x5)] [])
noncomputable def spec_l5Cut.f (k : Nat) (a0 : List Int) (a1 : Int) (a2 : Int) : Option (List Int × Bool) := runF tab ext k 82 [⟨.sl (.int .i64), a0⟩, ⟨.int .i64, a1⟩, ⟨.int .i64, a2⟩]
noncomputable def spec_l5Cut.l0 (k : Nat) (x1 : Int) (x2 : Int) (x8 : List (List Int)) (x9 : List (List Int)) (x10 : Bool) (x11 : Int) : Option (List Int × Bool) := runL tab ext k 82 (todoAt tab 82 5) (stAt tab 82 [(1, mkVal false (.int .i64) x1), (2, mkVal false (.int .i64) x2), (8, mkVal true (.sl (.sl (.int .i64))) x8), (9, .ref 39), (10, mkVal false (.bool) x10), (11, mkVal false (.int .i64) x11)] [(39, .sl true false (.sl (.int .i64)) x9)])
noncomputable def spec_l5Cut.j0 (k : Nat) (x1 : Int) (x2 : Int) (x8 : List (List Int)) (x9 : List (List Int)) (x10 : Bool) (x11 : Int) (x12 : Int) : Option (List Int × Bool) := runL tab ext k 82 (todoAt tab 82 1000009) (stAt tab 82 [(1, mkVal false (.int .i64) x1), (2, mkVal false (.int .i64) x2), (8, mkVal true (.sl (.sl (.int .i64))) x8), (9, .ref 39), (10, mkVal false (.bool) x10), (11, mkVal false (.int .i64) x11), (12, mkVal false (.int .i64) x12)] [(39, .sl true false (.sl (.int .i64)) x9)])
noncomputable def spec_l5Cut.l1 (k : Nat) (x2 : Int) (x8 : List (List Int)) (x9 : List (List Int)) (x10 : Bool) (x11 : Int) (x13 : List Int) (x14 : Bool) (x15 : Int) : Option (List Int × Bool) := runL tab ext k 82 (todoAt tab 82 17) (stAt tab 82 [(2, mkVal false (.int .i64) x2), (8, mkVal true (.sl (.sl (.int .i64))) x8), (9, .ref 39), (10, mkVal false (.bool) x10), (11, mkVal false (.int .i64) x11), (13, mkVal false (.sl (.int .i64)) x13), (14, mkVal false (.bool) x14), (15, mkVal false (.int .i64) x15)] [(39, .sl true false (.sl (.int .i64)) x9)])
noncomputable def spec_l5Branches.f (k : Nat) (a0 : List Int) : Option (List (List Int)) := runF tab ext k 92 [⟨.sl (.int .i64), a0⟩]
noncomputable def spec_l5Branches.l0 (k : Nat) (x0 : List Int) (x3 : List (List Int)) (x4 : Int) : Option (List (List Int)) := runL tab ext k 92 (todoAt tab 92 3) (stAt tab 92 [(0, mkVal true (.sl (.int .i64)) x0), (3, .ref 15), (4, mkVal false (.int .i64) x4)] [(15, .sl true false (.sl (.int .i64)) x3)])
noncomputable def spec_l5Heads.f (k : Nat) (a0 : List Int) : Option Int := runF tab ext k 93 [⟨.sl (.int .i64), a0⟩]
noncomputable def spec_l5Heads.l0 (k : Nat) (x0 : List Int) (x3 : Int) (x4 : Int) : Option Int := runL tab ext k 93 (todoAt tab 93 3) (stAt tab 93 [(0, mkVal true (.sl (.int .i64)) x0), (3, mkVal false (.int .i64) x3), (4, mkVal false (.int .i64) x4)] [])
end Go.Proofs.YtpahkabfmabneaaDoor.Eng
