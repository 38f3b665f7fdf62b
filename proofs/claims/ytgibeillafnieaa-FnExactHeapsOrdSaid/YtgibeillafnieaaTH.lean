import Derived.Test.YtgibeillafnieaaE2
import Derived.Test.YtgibeillafnieaaProg
namespace Go.Proofs.Ytgibeillafnieaa.Eng
open Go
-- 11 laws.FnExactHeapsOrd
noncomputable def fn11 : FnT := ⟨(Try.f11.body.getD .skip), 117, Try.f11.results.toList, [(.sl (.int .i64), .ln), (.sl (.sl (.int .i64)), .ln)], [(.bool, ⟨false, false, false, false, false⟩)], [], [34, 40], [], []⟩
-- 16 laws.toIntS
noncomputable def fn16 : FnT := ⟨(Try.f16.body.getD .skip), 22, Try.f16.results.toList, [(.sl (.int .i64), .ln)], [(.sl (.int .i64), ⟨true, false, false, false, false⟩)], [(3, [(0, .val true), (3, .own false), (4, .val false)])], [7], [], []⟩
-- 19 laws.eqIntSS
noncomputable def fn19 : FnT := ⟨(Try.f19.body.getD .skip), 27, Try.f19.results.toList, [(.sl (.sl (.int .i64)), .ln), (.sl (.sl (.int .i64)), .ln)], [(.bool, ⟨false, false, false, false, false⟩)], [(4, [(0, .val true), (1, .val true), (5, .val false)])], [], [], []⟩
-- 20 laws.eqIntS
noncomputable def fn20 : FnT := ⟨(Try.f20.body.getD .skip), 26, Try.f20.results.toList, [(.sl (.int .i64), .ln), (.sl (.int .i64), .ln)], [(.bool, ⟨false, false, false, false, false⟩)], [(4, [(0, .val true), (1, .val true), (5, .val false)])], [], [], []⟩
-- 22 laws.markIntS
noncomputable def fn22 : FnT := ⟨(Try.f22.body.getD .skip), 19, Try.f22.results.toList, [(.sl (.int .i64), .io), (.int .i64, .ln)], [(.int .i64, ⟨false, false, false, false, false⟩)], [(2, [(0, .ptr), (1, .val false), (5, .val false)])], [], [], []⟩
-- 24 laws.markIntSS
noncomputable def fn24 : FnT := ⟨(Try.f24.body.getD .skip), 19, Try.f24.results.toList, [(.sl (.sl (.int .i64)), .dio), (.int .i64, .ln)], [(.int .i64, ⟨false, false, false, false, false⟩)], [(2, [(0, .val false), (1, .val false), (5, .val false)])], [], [], []⟩
-- 37 impl.HeapsValid
noncomputable def fn37 : FnT := ⟨(Try.f37.body.getD .skip), 5, Try.f37.results.toList, [(.sl (.int .i64), .ln)], [(.bool, ⟨false, false, false, false, false⟩)], [], [], [], []⟩
-- 47 impl.HeapsOrd
noncomputable def fn47 : FnT := ⟨(Try.f47.body.getD .skip), 23, Try.f47.results.toList, [(.sl (.int .i64), .ln), (.sl (.sl (.int .i64)), .ln)], [(.sl (.int .i64), ⟨true, false, false, false, false⟩), (.bool, ⟨false, false, false, false, false⟩)], [], [20], [], []⟩
-- 49 laws.szIntSS
noncomputable def fn49 : FnT := ⟨(Try.f49.body.getD .skip), 27, Try.f49.results.toList, [(.sl (.sl (.int .i64)), .ln), (.int .i64, .ln)], [(.int .i64, ⟨false, false, false, false, false⟩)], [(5, [(0, .val true), (1, .val false), (5, .val false)])], [], [], []⟩
-- 50 spec.HeapsOrd
noncomputable def fn50 : FnT := ⟨(Try.f50.body.getD .skip), 35, Try.f50.results.toList, [(.sl (.int .i64), .ln), (.sl (.sl (.int .i64)), .ln)], [(.sl (.int .i64), ⟨false, false, false, false, false⟩), (.bool, ⟨false, false, false, false, false⟩)], [(4, [(0, .val true), (1, .val true), (6, .val false)])], [], [], []⟩
-- 51 laws.toIntSS
noncomputable def fn51 : FnT := ⟨(Try.f51.body.getD .skip), 23, Try.f51.results.toList, [(.sl (.sl (.int .i64)), .ln)], [(.sl (.sl (.int .i64)), ⟨true, false, false, false, true⟩)], [(3, [(0, .val true), (3, .dp), (4, .val false)])], [20, 1000007], [], []⟩
-- 52 laws.heldIntS
noncomputable def fn52 : FnT := ⟨(Try.f52.body.getD .skip), 21, Try.f52.results.toList, [(.sl (.int .i64), .ln), (.int .i64, .ln)], [(.int .i64, ⟨false, false, false, false, false⟩)], [(2, [(0, .val true), (1, .val false), (5, .val false)])], [], [], []⟩
-- 56 spec.HeapsValid
noncomputable def fn56 : FnT := ⟨(Try.f56.body.getD .skip), 5, Try.f56.results.toList, [(.sl (.int .i64), .ln)], [(.bool, ⟨false, false, false, false, false⟩)], [], [], [], []⟩
-- 74 spec.l1In
noncomputable def fn74 : FnT := ⟨(Try.f74.body.getD .skip), 15, Try.f74.results.toList, [(.int .i64, .ln), (.int .i64, .ln), (.int .i64, .ln)], [(.bool, ⟨false, false, false, false, false⟩)], [], [], [], []⟩
-- 75 impl.thingsOk
noncomputable def fn75 : FnT := ⟨(Try.f75.body.getD .skip), 24, Try.f75.results.toList, [(.sl (.int .i64), .ln), (.int .i64, .ln)], [(.bool, ⟨false, false, false, false, false⟩)], [(2, [(0, .val true), (1, .val false), (7, .val true), (8, .val false), (9, .val false)])], [], [], []⟩
-- 77 impl.ordsOf
noncomputable def fn77 : FnT := ⟨(Try.f77.body.getD .skip), 32, Try.f77.results.toList, [(.sl (.sl (.int .i64)), .ln)], [(.sl (.sl (.ap 0)), ⟨true, false, false, false, false⟩), (.bool, ⟨false, false, false, false, false⟩)], [(3, [(4, .own false), (10, .val true), (11, .val false), (12, .val false)])], [9, 26], [], []⟩
-- 78 impl.heapsOrd
noncomputable def fn78 : FnT := ⟨(Try.f78.body.getD .skip), 32, Try.f78.results.toList, [(.sl (.int .i64), .ln), (.sl (.sl (.ap 0)), .ln)], [(.sl (.int .i64), ⟨true, false, false, false, false⟩), (.bool, ⟨false, false, false, false, false⟩)], [(3, [(1, .val true), (6, .val true), (10, .val true), (11, .val false), (12, .val false)]), (6, [(1, .val true), (6, .val true), (7, .val false), (10, .val true), (11, .val false), (12, .val false), (17, .val false), (18, .val false)])], [29], [], []⟩
-- 79 spec.l1Compare
noncomputable def fn79 : FnT := ⟨(Try.f79.body.getD .skip), 75, Try.f79.results.toList, [(.sl (.int .i64), .ln), (.sl (.int .i64), .ln)], [(.int .i64, ⟨false, false, false, false, false⟩)], [(4, [(5, .val false), (6, .val true), (7, .val false), (8, .val true), (9, .val false)])], [], [], []⟩
-- 80 impl.ordOf
noncomputable def fn80 : FnT := ⟨(Try.f80.body.getD .skip), 28, Try.f80.results.toList, [(.sl (.int .i64), .ln)], [(.sl (.ap 0), ⟨true, false, false, false, false⟩), (.bool, ⟨false, false, false, false, false⟩)], [], [17], [], []⟩
-- 81 impl.compare
noncomputable def fn81 : FnT := ⟨(Try.f81.body.getD .skip), 53, Try.f81.results.toList, [(.sl (.ap 0), .ln), (.sl (.ap 0), .ln)], [(.int .i64, ⟨false, false, false, false, false⟩)], [(2, [(0, .val true), (1, .val true), (5, .val false)])], [], [], []⟩
-- 82 laws.szIntS
noncomputable def fn82 : FnT := ⟨(Try.f82.body.getD .skip), 12, Try.f82.results.toList, [(.sl (.int .i64), .ln), (.int .i64, .ln)], [(.int .i64, ⟨false, false, false, false, false⟩)], [], [], [], []⟩
-- 83 spec.OrdValid
noncomputable def fn83 : FnT := ⟨(Try.f83.body.getD .skip), 13, Try.f83.results.toList, [(.sl (.int .i64), .ln)], [(.bool, ⟨false, false, false, false, false⟩)], [], [], [], []⟩
-- 84 spec.l8Ord
noncomputable def fn84 : FnT := ⟨(Try.f84.body.getD .skip), 39, Try.f84.results.toList, [(.sl (.int .i64), .ln), (.sl (.sl (.int .i64)), .ln)], [(.sl (.int .i64), ⟨false, false, false, false, false⟩)], [(3, [(0, .val true), (1, .val true), (5, .val false), (6, .val false)]), (6, [(0, .val true), (1, .val true), (5, .val false), (6, .val false), (7, .val false)])], [], [], []⟩
-- 85 spec.l8List
noncomputable def fn85 : FnT := ⟨(Try.f85.body.getD .skip), 22, Try.f85.results.toList, [(.sl (.int .i64), .ln), (.int .i64, .ln)], [(.bool, ⟨false, false, false, false, false⟩)], [(2, [(0, .val true), (1, .val false), (5, .val false)])], [], [], []⟩
-- 87 impl.rowOf
noncomputable def fn87 : FnT := ⟨(Try.f87.body.getD .skip), 27, Try.f87.results.toList, [(.sl (.ap 0), .ln)], [(.sl (.int .i64), ⟨true, false, false, false, false⟩)], [(3, [(3, .own false), (9, .val true), (10, .val false), (11, .val false)])], [8, 19, 24], [], []⟩
-- 94 impl.natural
noncomputable def fn94 : FnT := ⟨(Try.f94.body.getD .skip), 73, Try.f94.results.toList, [(.sl (.ap 0), .ln), (.sl (.ap 0), .ln)], [(.sl (.ap 0), ⟨true, true, false, false, false⟩)], [(2, [(0, .val true), (1, .val true), (5, .own true)])], [7, 41, 54, 65, 70, 72], [], []⟩
-- 95 impl.told
noncomputable def fn95 : FnT := ⟨(Try.f95.body.getD .skip), 15, Try.f95.results.toList, [(.sl (.ap 0), .ln)], [(.sl (.int .i64), ⟨true, false, false, false, false⟩), (.bool, ⟨false, false, false, false, false⟩)], [], [13, 14], [], []⟩
-- 96 spec.l1Terms
noncomputable def fn96 : FnT := ⟨(Try.f96.body.getD .skip), 36, Try.f96.results.toList, [(.sl (.int .i64), .ln)], [(.sl (.int .i64), ⟨true, false, false, false, false⟩), (.sl (.sl (.int .i64)), ⟨true, true, false, false, false⟩)], [(4, [(0, .val true), (4, .own false), (5, .own true), (6, .val false)])], [8, 9, 24, 32], [], []⟩
-- 97 impl.takeOrd
noncomputable def fn97 : FnT := ⟨(Try.f97.body.getD .skip), 81, Try.f97.results.toList, [(.sl (.int .i64), .ln)], [(.sl (.ap 0), ⟨true, false, false, false, false⟩), (.sl (.int .i64), ⟨false, true, false, false, false⟩), (.bool, ⟨false, false, false, false, false⟩)], [(9, [(0, .val true), (6, .own false), (26, .val false), (27, .val false)])], [19, 76], [], []⟩
-- 98 cmp.Compare[int]
noncomputable def fn98 : FnT := ⟨(Try.f98.body.getD .skip), 20, Try.f98.results.toList, [(.int .i64, .ln), (.int .i64, .ln)], [(.int .i64, ⟨false, false, false, false, false⟩)], [], [], [], []⟩
-- 99 spec.l1End
noncomputable def fn99 : FnT := ⟨(Try.f99.body.getD .skip), 72, Try.f99.results.toList, [(.sl (.int .i64), .ln), (.int .i64, .ln)], [(.int .i64, ⟨false, false, false, false, false⟩)], [(7, [(0, .val true), (1, .val false), (5, .val false), (6, .val true), (7, .val false)])], [], [], []⟩
-- 100 spec.OrdNatural
noncomputable def fn100 : FnT := ⟨(Try.f100.body.getD .skip), 131, Try.f100.results.toList, [(.sl (.int .i64), .ln), (.sl (.int .i64), .ln)], [(.sl (.int .i64), ⟨false, false, false, false, false⟩), (.bool, ⟨false, false, false, false, false⟩)], [(9, [(6, .val false), (7, .val true), (8, .val false), (9, .val true), (10, .own false), (11, .own true), (12, .val false), (13, .val false)]), (1000016, [(6, .val false), (7, .val true), (8, .val false), (9, .val true), (10, .own false), (11, .own true), (12, .val false), (13, .val false), (14, .val false)])], [34, 35, 77, 84, 97, 104, 115, 122], [], []⟩
-- 103 impl.sizeOf
noncomputable def fn103 : FnT := ⟨(Try.f103.body.getD .skip), 20, Try.f103.results.toList, [(.sl (.ap 0), .ln)], [(.int .i64, ⟨false, false, false, false, false⟩)], [(3, [(3, .val false), (6, .val true), (7, .val false), (8, .val false)])], [], [], []⟩
-- 104 impl.most
noncomputable def fn104 : FnT := ⟨(Try.f104.body.getD .skip), 21, Try.f104.results.toList, [(.sl (.ap 0), .ln)], [(.int .i64, ⟨false, false, false, false, false⟩)], [(3, [(3, .val false), (6, .val true), (7, .val false), (8, .val false)])], [], [], []⟩
-- 105 slices.Clip[[]int,int]
noncomputable def fn105 : FnT := ⟨(Try.f105.body.getD .skip), 9, Try.f105.results.toList, [(.sl (.int .i64), .mv)], [(.sl (.int .i64), ⟨true, false, false, false, false⟩)], [], [8], [], []⟩
-- 106 spec.l1Span
noncomputable def fn106 : FnT := ⟨(Try.f106.body.getD .skip), 23, Try.f106.results.toList, [(.sl (.int .i64), .ln), (.int .i64, .ln)], [(.int .i64, ⟨false, false, false, false, false⟩)], [(4, [(0, .val true), (1, .val false), (5, .val false), (6, .val false)])], [], [], []⟩
-- 107 cmp.isNaN[int]
noncomputable def fn107 : FnT := ⟨(Try.f107.body.getD .skip), 6, Try.f107.results.toList, [(.int .i64, .ln)], [(.bool, ⟨false, false, false, false, false⟩)], [], [], [], []⟩
-- 108 spec.l2Fit
noncomputable def fn108 : FnT := ⟨(Try.f108.body.getD .skip), 9, Try.f108.results.toList, [(.sl (.int .i64), .ln)], [(.sl (.int .i64), ⟨false, true, false, false, false⟩), (.bool, ⟨false, false, false, false, false⟩)], [], [], [], []⟩
-- 109 spec.l1Make
noncomputable def fn109 : FnT := ⟨(Try.f109.body.getD .skip), 29, Try.f109.results.toList, [(.sl (.int .i64), .ln), (.sl (.sl (.int .i64)), .ln)], [(.sl (.int .i64), ⟨true, false, false, false, false⟩)], [(3, [(0, .val true), (1, .val true), (5, .own false), (6, .val false)])], [9, 22, 27], [], []⟩
def tyOf : Nat → Option Ty
  | 3 => some (.int .i64)
  | 4 => some (.bool)
  | 22 => some (.sl (.int .i64))
  | 25 => some (.sl (.sl (.int .i64)))
  | 86 => some (.sl (.sl (.ap 0)))
  | 91 => some (.sl (.ap 0))
  | 107 => some (.ap 0)
  | _ => none
noncomputable def tab : Tab := ⟨tyOf, fun
  | 11 => some fn11
  | 16 => some fn16
  | 19 => some fn19
  | 20 => some fn20
  | 22 => some fn22
  | 24 => some fn24
  | 37 => some fn37
  | 47 => some fn47
  | 49 => some fn49
  | 50 => some fn50
  | 51 => some fn51
  | 52 => some fn52
  | 56 => some fn56
  | 74 => some fn74
  | 75 => some fn75
  | 77 => some fn77
  | 78 => some fn78
  | 79 => some fn79
  | 80 => some fn80
  | 81 => some fn81
  | 82 => some fn82
  | 83 => some fn83
  | 84 => some fn84
  | 85 => some fn85
  | 87 => some fn87
  | 94 => some fn94
  | 95 => some fn95
  | 96 => some fn96
  | 97 => some fn97
  | 98 => some fn98
  | 99 => some fn99
  | 100 => some fn100
  | 103 => some fn103
  | 104 => some fn104
  | 105 => some fn105
  | 106 => some fn106
  | 107 => some fn107
  | 108 => some fn108
  | 109 => some fn109
  | _ => none⟩
noncomputable def ext : Ext tab := fun
  | 24 => some (onMark tab 24 (.sl (.int .i64)) markL okL (fun a b => (a, b)))
  | _ => none
noncomputable def laws_FnExactHeapsOrd.f (k : Nat) (a0 : List Int) (a1 : List (List Int)) : Option Bool := runF tab ext k 11 [⟨.sl (.int .i64), a0⟩, ⟨.sl (.sl (.int .i64)), a1⟩]
noncomputable def laws_toIntS.f (k : Nat) (a0 : List Int) : Option (List Int) := runF tab ext k 16 [⟨.sl (.int .i64), a0⟩]
noncomputable def laws_toIntS.l0 (k : Nat) (x0 : List Int) (x3 : List Int) (x4 : Int) : Option (List Int) := runL tab ext k 16 (todoAt tab 16 3) (stAt tab 16 [(0, mkVal true (.sl (.int .i64)) x0), (3, .ref 15), (4, mkVal false (.int .i64) x4)] [(15, .sl false false (.int .i64) x3)])
noncomputable def laws_eqIntSS.f (k : Nat) (a0 : List (List Int)) (a1 : List (List Int)) : Option Bool := runF tab ext k 19 [⟨.sl (.sl (.int .i64)), a0⟩, ⟨.sl (.sl (.int .i64)), a1⟩]
noncomputable def laws_eqIntSS.l0 (k : Nat) (x0 : List (List Int)) (x1 : List (List Int)) (x5 : Int) : Option Bool := runL tab ext k 19 (todoAt tab 19 4) (stAt tab 19 [(0, mkVal true (.sl (.sl (.int .i64))) x0), (1, mkVal true (.sl (.sl (.int .i64))) x1), (5, mkVal false (.int .i64) x5)] [])
noncomputable def laws_eqIntS.f (k : Nat) (a0 : List Int) (a1 : List Int) : Option Bool := runF tab ext k 20 [⟨.sl (.int .i64), a0⟩, ⟨.sl (.int .i64), a1⟩]
noncomputable def laws_eqIntS.l0 (k : Nat) (x0 : List Int) (x1 : List Int) (x5 : Int) : Option Bool := runL tab ext k 20 (todoAt tab 20 4) (stAt tab 20 [(0, mkVal true (.sl (.int .i64)) x0), (1, mkVal true (.sl (.int .i64)) x1), (5, mkVal false (.int .i64) x5)] [])
noncomputable def laws_markIntS.f (k : Nat) (a0 : List Int) (a1 : Int) : Option (Int × List Int) := runF tab ext k 22 [⟨.sl (.int .i64), a0⟩, ⟨.int .i64, a1⟩]
noncomputable def laws_markIntS.l0 (k : Nat) (x0 : List Int) (x1 : Int) (x5 : Int) : Option (Int × List Int) := runL tab ext k 22 (todoAt tab 22 2) (stAt tab 22 [(0, .ref 76), (1, mkVal false (.int .i64) x1), (5, mkVal false (.int .i64) x5)] [(76, .io false (.int .i64) x0)])
noncomputable def laws_markIntSS.f (k : Nat) (a0 : List (List Int)) (a1 : Int) : Option (Int × List (List Int)) := runF tab ext k 24 [⟨.sl (.sl (.int .i64)), a0⟩, ⟨.int .i64, a1⟩]
noncomputable def impl_HeapsValid.f (k : Nat) (a0 : List Int) : Option Bool := runF tab ext k 37 [⟨.sl (.int .i64), a0⟩]
noncomputable def impl_HeapsOrd.f (k : Nat) (a0 : List Int) (a1 : List (List Int)) : Option (List Int × Bool) := runF tab ext k 47 [⟨.sl (.int .i64), a0⟩, ⟨.sl (.sl (.int .i64)), a1⟩]
noncomputable def laws_szIntSS.f (k : Nat) (a0 : List (List Int)) (a1 : Int) : Option Int := runF tab ext k 49 [⟨.sl (.sl (.int .i64)), a0⟩, ⟨.int .i64, a1⟩]
noncomputable def laws_szIntSS.l0 (k : Nat) (x0 : List (List Int)) (x1 : Int) (x5 : Int) : Option Int := runL tab ext k 49 (todoAt tab 49 5) (stAt tab 49 [(0, mkVal true (.sl (.sl (.int .i64))) x0), (1, mkVal false (.int .i64) x1), (5, mkVal false (.int .i64) x5)] [])
noncomputable def spec_HeapsOrd.f (k : Nat) (a0 : List Int) (a1 : List (List Int)) : Option (List Int × Bool) := runF tab ext k 50 [⟨.sl (.int .i64), a0⟩, ⟨.sl (.sl (.int .i64)), a1⟩]
noncomputable def spec_HeapsOrd.l0 (k : Nat) (x0 : List Int) (x1 : List (List Int)) (x6 : Int) : Option (List Int × Bool) := runL tab ext k 50 (todoAt tab 50 4) (stAt tab 50 [(0, mkVal true (.sl (.int .i64)) x0), (1, mkVal true (.sl (.sl (.int .i64))) x1), (6, mkVal false (.int .i64) x6)] [])
noncomputable def laws_toIntSS.f (k : Nat) (a0 : List (List Int)) : Option (List (List Int)) := runF tab ext k 51 [⟨.sl (.sl (.int .i64)), a0⟩]
noncomputable def laws_toIntSS.l0 (k : Nat) (x0 : List (List Int)) (x3 : List (List Int)) (x4 : Int) : Option (List (List Int)) := runL tab ext k 51 (todoAt tab 51 3) (stAt tab 51 [(0, mkVal true (.sl (.sl (.int .i64))) x0), (3, .ref 15), (4, mkVal false (.int .i64) x4)] [(15, .dp (.sl (.int .i64)) x3)])
noncomputable def laws_heldIntS.f (k : Nat) (a0 : List Int) (a1 : Int) : Option Int := runF tab ext k 52 [⟨.sl (.int .i64), a0⟩, ⟨.int .i64, a1⟩]
noncomputable def laws_heldIntS.l0 (k : Nat) (x0 : List Int) (x1 : Int) (x5 : Int) : Option Int := runL tab ext k 52 (todoAt tab 52 2) (stAt tab 52 [(0, mkVal true (.sl (.int .i64)) x0), (1, mkVal false (.int .i64) x1), (5, mkVal false (.int .i64) x5)] [])
noncomputable def spec_HeapsValid.f (k : Nat) (a0 : List Int) : Option Bool := runF tab ext k 56 [⟨.sl (.int .i64), a0⟩]
noncomputable def spec_l1In.f (k : Nat) (a0 : Int) (a1 : Int) (a2 : Int) : Option Bool := runF tab ext k 74 [⟨.int .i64, a0⟩, ⟨.int .i64, a1⟩, ⟨.int .i64, a2⟩]
noncomputable def impl_thingsOk.f (k : Nat) (a0 : List Int) (a1 : Int) : Option Bool := runF tab ext k 75 [⟨.sl (.int .i64), a0⟩, ⟨.int .i64, a1⟩]
noncomputable def impl_thingsOk.l0 (k : Nat) (x0 : List Int) (x1 : Int) (x7 : List Int) (x8 : Int) (x9 : Int) : Option Bool := runL tab ext k 75 (todoAt tab 75 2) (stAt tab 75 [(0, mkVal true (.sl (.int .i64)) x0), (1, mkVal false (.int .i64) x1), (7, mkVal true (.sl (.int .i64)) x7), (8, mkVal false (.int .i64) x8), (9, mkVal false (.int .i64) x9)] [])
noncomputable def impl_ordsOf.f (k : Nat) (a0 : List (List Int)) : Option (List (List Term) × Bool) := runF tab ext k 77 [⟨.sl (.sl (.int .i64)), a0⟩]
noncomputable def impl_ordsOf.l0 (k : Nat) (x4 : List (List Term)) (x10 : List (List Int)) (x11 : Int) (x12 : Int) : Option (List (List Term) × Bool) := runL tab ext k 77 (todoAt tab 77 3) (stAt tab 77 [(4, .ref 19), (10, mkVal true (.sl (.sl (.int .i64))) x10), (11, mkVal false (.int .i64) x11), (12, mkVal false (.int .i64) x12)] [(19, .sl false false (.sl (.ap 0)) x4)])
noncomputable def impl_heapsOrd.f (k : Nat) (a0 : List Int) (a1 : List (List Term)) : Option (List Int × Bool) := runF tab ext k 78 [⟨.sl (.int .i64), a0⟩, ⟨.sl (.sl (.ap 0)), a1⟩]
noncomputable def impl_heapsOrd.l0 (k : Nat) (x1 : List (List Term)) (x6 : List Term) (x10 : List Int) (x11 : Int) (x12 : Int) : Option (List Int × Bool) := runL tab ext k 78 (todoAt tab 78 3) (stAt tab 78 [(1, mkVal true (.sl (.sl (.ap 0))) x1), (6, mkVal true (.sl (.ap 0)) x6), (10, mkVal true (.sl (.int .i64)) x10), (11, mkVal false (.int .i64) x11), (12, mkVal false (.int .i64) x12)] [])
noncomputable def impl_heapsOrd.l1 (k : Nat) (x1 : List (List Term)) (x6 : List Term) (x7 : Int) (x10 : List Int) (x11 : Int) (x12 : Int) (x17 : Int) (x18 : Int) : Option (List Int × Bool) := runL tab ext k 78 (todoAt tab 78 6) (stAt tab 78 [(1, mkVal true (.sl (.sl (.ap 0))) x1), (6, mkVal true (.sl (.ap 0)) x6), (7, mkVal false (.int .i64) x7), (10, mkVal true (.sl (.int .i64)) x10), (11, mkVal false (.int .i64) x11), (12, mkVal false (.int .i64) x12), (17, mkVal false (.int .i64) x17), (18, mkVal false (.int .i64) x18)] [])
noncomputable def spec_l1Compare.f (k : Nat) (a0 : List Int) (a1 : List Int) : Option Int := runF tab ext k 79 [⟨.sl (.int .i64), a0⟩, ⟨.sl (.int .i64), a1⟩]
noncomputable def spec_l1Compare.l0 (k : Nat) (x5 : List Int) (x6 : List (List Int)) (x7 : List Int) (x8 : List (List Int)) (x9 : Int) : Option Int := runL tab ext k 79 (todoAt tab 79 4) (stAt tab 79 [(5, mkVal false (.sl (.int .i64)) x5), (6, mkVal true (.sl (.sl (.int .i64))) x6), (7, mkVal false (.sl (.int .i64)) x7), (8, mkVal true (.sl (.sl (.int .i64))) x8), (9, mkVal false (.int .i64) x9)] [])
noncomputable def impl_ordOf.f (k : Nat) (a0 : List Int) : Option (List Term × Bool) := runF tab ext k 80 [⟨.sl (.int .i64), a0⟩]
noncomputable def impl_compare.f (k : Nat) (a0 : List Term) (a1 : List Term) : Option Int := runF tab ext k 81 [⟨.sl (.ap 0), a0⟩, ⟨.sl (.ap 0), a1⟩]
noncomputable def impl_compare.l0 (k : Nat) (x0 : List Term) (x1 : List Term) (x5 : Int) : Option Int := runL tab ext k 81 (todoAt tab 81 2) (stAt tab 81 [(0, mkVal true (.sl (.ap 0)) x0), (1, mkVal true (.sl (.ap 0)) x1), (5, mkVal false (.int .i64) x5)] [])
noncomputable def laws_szIntS.f (k : Nat) (a0 : List Int) (a1 : Int) : Option Int := runF tab ext k 82 [⟨.sl (.int .i64), a0⟩, ⟨.int .i64, a1⟩]
noncomputable def spec_OrdValid.f (k : Nat) (a0 : List Int) : Option Bool := runF tab ext k 83 [⟨.sl (.int .i64), a0⟩]
noncomputable def spec_l8Ord.f (k : Nat) (a0 : List Int) (a1 : List (List Int)) : Option (List Int) := runF tab ext k 84 [⟨.sl (.int .i64), a0⟩, ⟨.sl (.sl (.int .i64)), a1⟩]
noncomputable def spec_l8Ord.l0 (k : Nat) (x0 : List Int) (x1 : List (List Int)) (x5 : List Int) (x6 : Int) : Option (List Int) := runL tab ext k 84 (todoAt tab 84 3) (stAt tab 84 [(0, mkVal true (.sl (.int .i64)) x0), (1, mkVal true (.sl (.sl (.int .i64))) x1), (5, mkVal false (.sl (.int .i64)) x5), (6, mkVal false (.int .i64) x6)] [])
noncomputable def spec_l8Ord.l1 (k : Nat) (x0 : List Int) (x1 : List (List Int)) (x5 : List Int) (x6 : Int) (x7 : Int) : Option (List Int) := runL tab ext k 84 (todoAt tab 84 6) (stAt tab 84 [(0, mkVal true (.sl (.int .i64)) x0), (1, mkVal true (.sl (.sl (.int .i64))) x1), (5, mkVal false (.sl (.int .i64)) x5), (6, mkVal false (.int .i64) x6), (7, mkVal false (.int .i64) x7)] [])
noncomputable def spec_l8List.f (k : Nat) (a0 : List Int) (a1 : Int) : Option Bool := runF tab ext k 85 [⟨.sl (.int .i64), a0⟩, ⟨.int .i64, a1⟩]
noncomputable def spec_l8List.l0 (k : Nat) (x0 : List Int) (x1 : Int) (x5 : Int) : Option Bool := runL tab ext k 85 (todoAt tab 85 2) (stAt tab 85 [(0, mkVal true (.sl (.int .i64)) x0), (1, mkVal false (.int .i64) x1), (5, mkVal false (.int .i64) x5)] [])
noncomputable def impl_rowOf.f (k : Nat) (a0 : List Term) : Option (List Int) := runF tab ext k 87 [⟨.sl (.ap 0), a0⟩]
noncomputable def impl_rowOf.l0 (k : Nat) (x3 : List Int) (x9 : List Term) (x10 : Int) (x11 : Int) : Option (List Int) := runL tab ext k 87 (todoAt tab 87 3) (stAt tab 87 [(3, .ref 15), (9, mkVal true (.sl (.ap 0)) x9), (10, mkVal false (.int .i64) x10), (11, mkVal false (.int .i64) x11)] [(15, .sl false false (.int .i64) x3)])
noncomputable def impl_natural.f (k : Nat) (a0 : List Term) (a1 : List Term) : Option (List Term) := runF tab ext k 94 [⟨.sl (.ap 0), a0⟩, ⟨.sl (.ap 0), a1⟩]
noncomputable def impl_natural.l0 (k : Nat) (x0 : List Term) (x1 : List Term) (x5 : List Term) : Option (List Term) := runL tab ext k 94 (todoAt tab 94 2) (stAt tab 94 [(0, mkVal true (.sl (.ap 0)) x0), (1, mkVal true (.sl (.ap 0)) x1), (5, .ref 23)] [(23, .sl true false (.ap 0) x5)])
noncomputable def impl_told.f (k : Nat) (a0 : List Term) : Option (List Int × Bool) := runF tab ext k 95 [⟨.sl (.ap 0), a0⟩]
noncomputable def spec_l1Terms.f (k : Nat) (a0 : List Int) : Option (List Int × List (List Int)) := runF tab ext k 96 [⟨.sl (.int .i64), a0⟩]
noncomputable def spec_l1Terms.l0 (k : Nat) (x0 : List Int) (x4 : List Int) (x5 : List (List Int)) (x6 : Int) : Option (List Int × List (List Int)) := runL tab ext k 96 (todoAt tab 96 4) (stAt tab 96 [(0, mkVal true (.sl (.int .i64)) x0), (4, .ref 19), (5, .ref 23), (6, mkVal false (.int .i64) x6)] [(19, .sl false false (.int .i64) x4), (23, .sl true false (.sl (.int .i64)) x5)])
noncomputable def impl_takeOrd.f (k : Nat) (a0 : List Int) : Option (List Term × List Int × Bool) := runF tab ext k 97 [⟨.sl (.int .i64), a0⟩]
noncomputable def impl_takeOrd.l0 (k : Nat) (x0 : List Int) (x6 : List Term) (x26 : Int) (x27 : Int) : Option (List Term × List Int × Bool) := runL tab ext k 97 (todoAt tab 97 9) (stAt tab 97 [(0, mkVal true (.sl (.int .i64)) x0), (6, .ref 27), (26, mkVal false (.int .i64) x26), (27, mkVal false (.int .i64) x27)] [(27, .sl false false (.ap 0) x6)])
noncomputable def cmp_Compare_int.f (k : Nat) (a0 : Int) (a1 : Int) : Option Int := runF tab ext k 98 [⟨.int .i64, a0⟩, ⟨.int .i64, a1⟩]
noncomputable def spec_l1End.f (k : Nat) (a0 : List Int) (a1 : Int) : Option Int := runF tab ext k 99 [⟨.sl (.int .i64), a0⟩, ⟨.int .i64, a1⟩]
noncomputable def spec_l1End.l0 (k : Nat) (x0 : List Int) (x1 : Int) (x5 : Int) (x6 : List Int) (x7 : Int) : Option Int := runL tab ext k 99 (todoAt tab 99 7) (stAt tab 99 [(0, mkVal true (.sl (.int .i64)) x0), (1, mkVal false (.int .i64) x1), (5, mkVal false (.int .i64) x5), (6, mkVal true (.sl (.int .i64)) x6), (7, mkVal false (.int .i64) x7)] [])
noncomputable def spec_OrdNatural.f (k : Nat) (a0 : List Int) (a1 : List Int) : Option (List Int × Bool) := runF tab ext k 100 [⟨.sl (.int .i64), a0⟩, ⟨.sl (.int .i64), a1⟩]
noncomputable def spec_OrdNatural.l0 (k : Nat) (x6 : List Int) (x7 : List (List Int)) (x8 : List Int) (x9 : List (List Int)) (x10 : List Int) (x11 : List (List Int)) (x12 : Int) (x13 : Int) : Option (List Int × Bool) := runL tab ext k 100 (todoAt tab 100 9) (stAt tab 100 [(6, mkVal false (.sl (.int .i64)) x6), (7, mkVal true (.sl (.sl (.int .i64))) x7), (8, mkVal false (.sl (.int .i64)) x8), (9, mkVal true (.sl (.sl (.int .i64))) x9), (10, .ref 43), (11, .ref 47), (12, mkVal false (.int .i64) x12), (13, mkVal false (.int .i64) x13)] [(43, .sl false false (.int .i64) x10), (47, .sl true false (.sl (.int .i64)) x11)])
noncomputable def spec_OrdNatural.j0 (k : Nat) (x6 : List Int) (x7 : List (List Int)) (x8 : List Int) (x9 : List (List Int)) (x10 : List Int) (x11 : List (List Int)) (x12 : Int) (x13 : Int) (x14 : Int) : Option (List Int × Bool) := runL tab ext k 100 (todoAt tab 100 1000016) (stAt tab 100 [(6, mkVal false (.sl (.int .i64)) x6), (7, mkVal true (.sl (.sl (.int .i64))) x7), (8, mkVal false (.sl (.int .i64)) x8), (9, mkVal true (.sl (.sl (.int .i64))) x9), (10, .ref 43), (11, .ref 47), (12, mkVal false (.int .i64) x12), (13, mkVal false (.int .i64) x13), (14, mkVal false (.int .i64) x14)] [(43, .sl false false (.int .i64) x10), (47, .sl true false (.sl (.int .i64)) x11)])
noncomputable def impl_sizeOf.f (k : Nat) (a0 : List Term) : Option Int := runF tab ext k 103 [⟨.sl (.ap 0), a0⟩]
noncomputable def impl_sizeOf.l0 (k : Nat) (x3 : Int) (x6 : List Term) (x7 : Int) (x8 : Int) : Option Int := runL tab ext k 103 (todoAt tab 103 3) (stAt tab 103 [(3, mkVal false (.int .i64) x3), (6, mkVal true (.sl (.ap 0)) x6), (7, mkVal false (.int .i64) x7), (8, mkVal false (.int .i64) x8)] [])
noncomputable def impl_most.f (k : Nat) (a0 : List Term) : Option Int := runF tab ext k 104 [⟨.sl (.ap 0), a0⟩]
noncomputable def impl_most.l0 (k : Nat) (x3 : Int) (x6 : List Term) (x7 : Int) (x8 : Int) : Option Int := runL tab ext k 104 (todoAt tab 104 3) (stAt tab 104 [(3, mkVal false (.int .i64) x3), (6, mkVal true (.sl (.ap 0)) x6), (7, mkVal false (.int .i64) x7), (8, mkVal false (.int .i64) x8)] [])
noncomputable def slices_Clip_int_int.f (k : Nat) (a0 : List Int) : Option (List Int) := runF tab ext k 105 [⟨.sl (.int .i64), a0⟩]
noncomputable def spec_l1Span.f (k : Nat) (a0 : List Int) (a1 : Int) : Option Int := runF tab ext k 106 [⟨.sl (.int .i64), a0⟩, ⟨.int .i64, a1⟩]
noncomputable def spec_l1Span.l0 (k : Nat) (x0 : List Int) (x1 : Int) (x5 : Int) (x6 : Int) : Option Int := runL tab ext k 106 (todoAt tab 106 4) (stAt tab 106 [(0, mkVal true (.sl (.int .i64)) x0), (1, mkVal false (.int .i64) x1), (5, mkVal false (.int .i64) x5), (6, mkVal false (.int .i64) x6)] [])
noncomputable def cmp_isNaN_int.f (k : Nat) (a0 : Int) : Option Bool := runF tab ext k 107 [⟨.int .i64, a0⟩]
noncomputable def spec_l2Fit.f (k : Nat) (a0 : List Int) : Option (List Int × Bool) := runF tab ext k 108 [⟨.sl (.int .i64), a0⟩]
noncomputable def spec_l1Make.f (k : Nat) (a0 : List Int) (a1 : List (List Int)) : Option (List Int) := runF tab ext k 109 [⟨.sl (.int .i64), a0⟩, ⟨.sl (.sl (.int .i64)), a1⟩]
noncomputable def spec_l1Make.l0 (k : Nat) (x0 : List Int) (x1 : List (List Int)) (x5 : List Int) (x6 : Int) : Option (List Int) := runL tab ext k 109 (todoAt tab 109 3) (stAt tab 109 [(0, mkVal true (.sl (.int .i64)) x0), (1, mkVal true (.sl (.sl (.int .i64))) x1), (5, .ref 23), (6, mkVal false (.int .i64) x6)] [(23, .sl false false (.int .i64) x5)])
end Go.Proofs.Ytgibeillafnieaa.Eng
