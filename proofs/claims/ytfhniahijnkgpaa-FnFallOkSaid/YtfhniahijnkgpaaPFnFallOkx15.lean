-- Written by this session's own program (xprint.py: the kit's printer with changes): not a printed text
import Derived.Test.YtfhniahijnkgpaaPFnFallOkx0
import Derived.Test.YtfhniahijnkgpaaPFnFallOkx4
import Derived.Test.YtfhniahijnkgpaaPFnFallOkx11
import Derived.Test.YtfhniahijnkgpaaPFnFallOkx13
import Derived.Test.YtfhniahijnkgpaaPFnFallOkx14
namespace Go.Proofs.Ytfhniahijnkgpaa.PFnFallOk
open Go.RowKit Go.Proofs.YtfhniahijnkgpaaW.PrintWords Go.Proofs.YtfhniahijnkgpaaW.PrintLast Go.Proofs.YtfhniahijnkgpaaW.PrintMore
attribute [local go_sem] max2_int min2_int max_two min_two max_three min_three max_four min_four   -- for this text's walks alone
set_option linter.unusedVariables false
set_option linter.unusedSimpArgs false

/-! ### spec_l20Raw: function 70 -/
mutual
def spec_l20Raw.l0 : Nat → Int → List Int → List (List Int) → Int → List Int → Int → Option (List Int × Int)
 | 0, _, _, _, _, _, _ => none
 | k + 1, x1, x5, x6, x7, x1000, x1001 => if x7 > 0 then ((spec_l20Rd_pick.f k x1000 x1001 4).bind fun bt399 => (if bt399.1 > 0 then ((spec_l20Rd_pick.f k x1000 bt399.2 x1).bind fun bt401 => ((spec_l20Raw.f k x1000 bt401.2 bt401.1).bind fun bt403 => (spec_l20Raw.j1 k x1 x5 x6 x7 bt403.1 x1000 bt403.2))) else (spec_l20Raw.j1 k x1 x5 x6 x7 (([0] : List Int)) x1000 bt399.2))) else ((spec_l1Make.f k x5 x6).bind fun t393 => (some (t393, x1001)))
def spec_l20Raw.j1 : Nat → Int → List Int → List (List Int) → Int → List Int → List Int → Int → Option (List Int × Int)
 | 0, _, _, _, _, _, _, _ => none
 | k + 1, x1, x5, x6, x7, x8, x1000, x1001 => spec_l20Raw.l1 k x1 x5 x6 x7 x8 0 x1000 x1001
def spec_l20Raw.j3 : Nat → Int → List Int → List (List Int) → Int → List Int → Int → List Int → Int → Option (List Int × Int)
 | 0, _, _, _, _, _, _, _, _ => none
 | k + 1, x1, x5, x6, x7, x8, x9, x1000, x1001 => if x9 < (x6.length : Int) then (if 0 ≤ x9 then ((spec_l1Compare.f k (rd_L2 x6 x9) x8).bind fun t410 => (spec_l20Raw.j4 k x1 x5 x6 x7 x8 x9 (t410 == 0) x1000 x1001)) else (none)) else (spec_l20Raw.j4 k x1 x5 x6 x7 x8 x9 false x1000 x1001)
def spec_l20Raw.j4 : Nat → Int → List Int → List (List Int) → Int → List Int → Int → Bool → List Int → Int → Option (List Int × Int)
 | 0, _, _, _, _, _, _, _, _, _ => none
 | k + 1, x1, x5, x6, x7, x8, x9, x59, x1000, x1001 => if x59 = true then (if 0 ≤ x9 then (if x9 < (x5.length : Int) then (spec_l20Raw.l0 k x1 (x5.set (x9 : Int).toNat (wrap64 ((rd x5 x9) + 1))) x6 (wrap64 (x7 - 1)) x1000 x1001) else (none)) else (none)) else ((some (([] : List Int) : List Int)).bind fun y413 => (if 0 ≤ x9 then (if x9 ≤ (x5.length : Int) then ((some (x5.take (x9 : Int).toNat : List Int)).bind fun y416 => (if y413.length + y416.length < 17592186044416 then ((some (y413 ++ y416 : List Int)).bind fun y421 => ((spec_l20Rd_pick.f k x1000 x1001 3).bind fun bt424 => ((spec_l20Rd_pick.f k x1000 bt424.2 60).bind fun bt426 => ((some (([wrap64 ((wrap64 (1 + bt424.1)) + (wrap64 ((wrap64 (Int.tdiv bt426.1 59)) * 60)))] : List Int) : List Int)).bind fun y428 => (if y421.length + y428.length < 17592186044416 then ((some (y421 ++ y428 : List Int)).bind fun y431 => ((some (x5.drop (x9 : Int).toNat : List Int)).bind fun y434 => (if y431.length + y434.length < 17592186044416 then ((some (([] : List (List Int)) : List (List Int))).bind fun y442 => (if x9 ≤ (x6.length : Int) then ((some (x6.take (x9 : Int).toNat : List (List Int))).bind fun y445 => (if y442.length + y445.length < 5864062014805 then ((some (y442 ++ y445 : List (List Int))).bind fun y450 => ((some (([x8] : List (List Int)) : List (List Int))).bind fun y453 => (if y450.length + y453.length < 5864062014805 then ((some (y450 ++ y453 : List (List Int))).bind fun y456 => ((some (x6.drop (x9 : Int).toNat : List (List Int))).bind fun y459 => (if y456.length + y459.length < 5864062014805 then (spec_l20Raw.l0 k x1 (y431 ++ y434) (y456 ++ y459) (wrap64 (x7 - 1)) x1000 bt426.2) else (none)))) else (none)))) else (none))) else (none))) else (none)))) else (none)))))) else (none))) else (none)) else (none)))
def spec_l20Raw.l1 : Nat → Int → List Int → List (List Int) → Int → List Int → Int → List Int → Int → Option (List Int × Int)
 | 0, _, _, _, _, _, _, _, _ => none
 | k + 1, x1, x5, x6, x7, x8, x9, x1000, x1001 => if x9 < (x6.length : Int) then (if 0 ≤ x9 then ((spec_l1Compare.f k (rd_L2 x6 x9) x8).bind fun t408 => (if t408 > 0 then (spec_l20Raw.l1 k x1 x5 x6 x7 x8 (wrap64 (x9 + 1)) x1000 x1001) else (spec_l20Raw.j3 k x1 x5 x6 x7 x8 x9 x1000 x1001))) else (none)) else (spec_l20Raw.j3 k x1 x5 x6 x7 x8 x9 x1000 x1001)
def spec_l20Raw.f : Nat → List Int → Int → Int → Option (List Int × Int)
 | 0, _, _, _ => none
 | k + 1, s0_0, s0_1, a1 => if a1 = 0 then ((spec_l20Rd_pick.f k s0_0 s0_1 4).bind fun bt380 => ((spec_OrdOf.f bt380.1).bind fun t382 => (some (t382, bt380.2)))) else ((spec_l20Rd_pick.f k s0_0 s0_1 4).bind fun bt391 => (spec_l20Raw.l0 k a1 (([] : List Int)) (([] : List (List Int))) bt391.1 s0_0 bt391.2))
end
theorem spec_l20Raw.mono_l : ∀ k, (∀ y0 y1 y2, LeO (spec_l20Raw.f k y0 y1 y2) (spec_l20Raw.f (k + 1) y0 y1 y2)) ∧ (∀ y0 y1 y2 y3 y4 y5, LeO (spec_l20Raw.l0 k y0 y1 y2 y3 y4 y5) (spec_l20Raw.l0 (k + 1) y0 y1 y2 y3 y4 y5)) ∧ (∀ y0 y1 y2 y3 y4 y5 y6, LeO (spec_l20Raw.j1 k y0 y1 y2 y3 y4 y5 y6) (spec_l20Raw.j1 (k + 1) y0 y1 y2 y3 y4 y5 y6)) ∧ (∀ y0 y1 y2 y3 y4 y5 y6 y7, LeO (spec_l20Raw.j3 k y0 y1 y2 y3 y4 y5 y6 y7) (spec_l20Raw.j3 (k + 1) y0 y1 y2 y3 y4 y5 y6 y7)) ∧ (∀ y0 y1 y2 y3 y4 y5 y6 y7 y8, LeO (spec_l20Raw.j4 k y0 y1 y2 y3 y4 y5 y6 y7 y8) (spec_l20Raw.j4 (k + 1) y0 y1 y2 y3 y4 y5 y6 y7 y8)) ∧ (∀ y0 y1 y2 y3 y4 y5 y6 y7, LeO (spec_l20Raw.l1 k y0 y1 y2 y3 y4 y5 y6 y7) (spec_l20Raw.l1 (k + 1) y0 y1 y2 y3 y4 y5 y6 y7))
 | 0 => ⟨fun _ _ _ r h => by simp [spec_l20Raw.f] at h, fun _ _ _ _ _ _ r h => by simp [spec_l20Raw.l0] at h, fun _ _ _ _ _ _ _ r h => by simp [spec_l20Raw.j1] at h, fun _ _ _ _ _ _ _ _ r h => by simp [spec_l20Raw.j3] at h, fun _ _ _ _ _ _ _ _ _ r h => by simp [spec_l20Raw.j4] at h, fun _ _ _ _ _ _ _ _ r h => by simp [spec_l20Raw.l1] at h⟩
 | k + 1 => by
  obtain ⟨ih0, ih1, ih2, ih3, ih4, ih5⟩ := spec_l20Raw.mono_l k
  refine ⟨?_, ?_, ?_, ?_, ?_, ?_⟩
  ·intro y0 y1 y2
   unfold spec_l20Raw.f
   repeat' first
   | (with_reducible exact ih0 _ _ _)
   | (with_reducible exact ih1 _ _ _ _ _ _)
   | (with_reducible exact ih2 _ _ _ _ _ _ _)
   | (with_reducible exact ih3 _ _ _ _ _ _ _ _)
   | (with_reducible exact ih4 _ _ _ _ _ _ _ _ _)
   | (with_reducible exact ih5 _ _ _ _ _ _ _ _)
   | (with_reducible exact spec_l1Compare.mono _ _ _)
   | (with_reducible exact spec_l1Make.mono _ _ _)
   | (with_reducible exact spec_l20Rd_pick.mono _ _ _ _)
   | (with_reducible exact LeO.refl _)
   | (with_reducible exact LeO.none _)
   | (with_reducible refine LeO.ite ?_ ?_)
   | (with_reducible refine LeO.bind ?_ (fun _ => ?_))
   | exact ih0 _ _ _
   | exact ih1 _ _ _ _ _ _
   | exact ih2 _ _ _ _ _ _ _
   | exact ih3 _ _ _ _ _ _ _ _
   | exact ih4 _ _ _ _ _ _ _ _ _
   | exact ih5 _ _ _ _ _ _ _ _
   | exact spec_l1Compare.mono _ _ _
   | exact spec_l1Make.mono _ _ _
   | exact spec_l20Rd_pick.mono _ _ _ _
   | exact LeO.none _
   | refine LeO.ite ?_ ?_
   | refine LeO.bind ?_ (fun _ => ?_)
  ·intro y0 y1 y2 y3 y4 y5
   unfold spec_l20Raw.l0
   repeat' first
   | (with_reducible exact ih0 _ _ _)
   | (with_reducible exact ih1 _ _ _ _ _ _)
   | (with_reducible exact ih2 _ _ _ _ _ _ _)
   | (with_reducible exact ih3 _ _ _ _ _ _ _ _)
   | (with_reducible exact ih4 _ _ _ _ _ _ _ _ _)
   | (with_reducible exact ih5 _ _ _ _ _ _ _ _)
   | (with_reducible exact spec_l1Compare.mono _ _ _)
   | (with_reducible exact spec_l1Make.mono _ _ _)
   | (with_reducible exact spec_l20Rd_pick.mono _ _ _ _)
   | (with_reducible exact LeO.refl _)
   | (with_reducible exact LeO.none _)
   | (with_reducible refine LeO.ite ?_ ?_)
   | (with_reducible refine LeO.bind ?_ (fun _ => ?_))
   | exact ih0 _ _ _
   | exact ih1 _ _ _ _ _ _
   | exact ih2 _ _ _ _ _ _ _
   | exact ih3 _ _ _ _ _ _ _ _
   | exact ih4 _ _ _ _ _ _ _ _ _
   | exact ih5 _ _ _ _ _ _ _ _
   | exact spec_l1Compare.mono _ _ _
   | exact spec_l1Make.mono _ _ _
   | exact spec_l20Rd_pick.mono _ _ _ _
   | exact LeO.none _
   | refine LeO.ite ?_ ?_
   | refine LeO.bind ?_ (fun _ => ?_)
  ·intro y0 y1 y2 y3 y4 y5 y6
   unfold spec_l20Raw.j1
   repeat' first
   | (with_reducible exact ih0 _ _ _)
   | (with_reducible exact ih1 _ _ _ _ _ _)
   | (with_reducible exact ih2 _ _ _ _ _ _ _)
   | (with_reducible exact ih3 _ _ _ _ _ _ _ _)
   | (with_reducible exact ih4 _ _ _ _ _ _ _ _ _)
   | (with_reducible exact ih5 _ _ _ _ _ _ _ _)
   | (with_reducible exact spec_l1Compare.mono _ _ _)
   | (with_reducible exact spec_l1Make.mono _ _ _)
   | (with_reducible exact spec_l20Rd_pick.mono _ _ _ _)
   | (with_reducible exact LeO.refl _)
   | (with_reducible exact LeO.none _)
   | (with_reducible refine LeO.ite ?_ ?_)
   | (with_reducible refine LeO.bind ?_ (fun _ => ?_))
   | exact ih0 _ _ _
   | exact ih1 _ _ _ _ _ _
   | exact ih2 _ _ _ _ _ _ _
   | exact ih3 _ _ _ _ _ _ _ _
   | exact ih4 _ _ _ _ _ _ _ _ _
   | exact ih5 _ _ _ _ _ _ _ _
   | exact spec_l1Compare.mono _ _ _
   | exact spec_l1Make.mono _ _ _
   | exact spec_l20Rd_pick.mono _ _ _ _
   | exact LeO.none _
   | refine LeO.ite ?_ ?_
   | refine LeO.bind ?_ (fun _ => ?_)
  ·intro y0 y1 y2 y3 y4 y5 y6 y7
   unfold spec_l20Raw.j3
   repeat' first
   | (with_reducible exact ih0 _ _ _)
   | (with_reducible exact ih1 _ _ _ _ _ _)
   | (with_reducible exact ih2 _ _ _ _ _ _ _)
   | (with_reducible exact ih3 _ _ _ _ _ _ _ _)
   | (with_reducible exact ih4 _ _ _ _ _ _ _ _ _)
   | (with_reducible exact ih5 _ _ _ _ _ _ _ _)
   | (with_reducible exact spec_l1Compare.mono _ _ _)
   | (with_reducible exact spec_l1Make.mono _ _ _)
   | (with_reducible exact spec_l20Rd_pick.mono _ _ _ _)
   | (with_reducible exact LeO.refl _)
   | (with_reducible exact LeO.none _)
   | (with_reducible refine LeO.ite ?_ ?_)
   | (with_reducible refine LeO.bind ?_ (fun _ => ?_))
   | exact ih0 _ _ _
   | exact ih1 _ _ _ _ _ _
   | exact ih2 _ _ _ _ _ _ _
   | exact ih3 _ _ _ _ _ _ _ _
   | exact ih4 _ _ _ _ _ _ _ _ _
   | exact ih5 _ _ _ _ _ _ _ _
   | exact spec_l1Compare.mono _ _ _
   | exact spec_l1Make.mono _ _ _
   | exact spec_l20Rd_pick.mono _ _ _ _
   | exact LeO.none _
   | refine LeO.ite ?_ ?_
   | refine LeO.bind ?_ (fun _ => ?_)
  ·intro y0 y1 y2 y3 y4 y5 y6 y7 y8
   unfold spec_l20Raw.j4
   repeat' first
   | (with_reducible exact ih0 _ _ _)
   | (with_reducible exact ih1 _ _ _ _ _ _)
   | (with_reducible exact ih2 _ _ _ _ _ _ _)
   | (with_reducible exact ih3 _ _ _ _ _ _ _ _)
   | (with_reducible exact ih4 _ _ _ _ _ _ _ _ _)
   | (with_reducible exact ih5 _ _ _ _ _ _ _ _)
   | (with_reducible exact spec_l1Compare.mono _ _ _)
   | (with_reducible exact spec_l1Make.mono _ _ _)
   | (with_reducible exact spec_l20Rd_pick.mono _ _ _ _)
   | (with_reducible exact LeO.refl _)
   | (with_reducible exact LeO.none _)
   | (with_reducible refine LeO.ite ?_ ?_)
   | (with_reducible refine LeO.bind ?_ (fun _ => ?_))
   | exact ih0 _ _ _
   | exact ih1 _ _ _ _ _ _
   | exact ih2 _ _ _ _ _ _ _
   | exact ih3 _ _ _ _ _ _ _ _
   | exact ih4 _ _ _ _ _ _ _ _ _
   | exact ih5 _ _ _ _ _ _ _ _
   | exact spec_l1Compare.mono _ _ _
   | exact spec_l1Make.mono _ _ _
   | exact spec_l20Rd_pick.mono _ _ _ _
   | exact LeO.none _
   | refine LeO.ite ?_ ?_
   | refine LeO.bind ?_ (fun _ => ?_)
  ·intro y0 y1 y2 y3 y4 y5 y6 y7
   unfold spec_l20Raw.l1
   repeat' first
   | (with_reducible exact ih0 _ _ _)
   | (with_reducible exact ih1 _ _ _ _ _ _)
   | (with_reducible exact ih2 _ _ _ _ _ _ _)
   | (with_reducible exact ih3 _ _ _ _ _ _ _ _)
   | (with_reducible exact ih4 _ _ _ _ _ _ _ _ _)
   | (with_reducible exact ih5 _ _ _ _ _ _ _ _)
   | (with_reducible exact spec_l1Compare.mono _ _ _)
   | (with_reducible exact spec_l1Make.mono _ _ _)
   | (with_reducible exact spec_l20Rd_pick.mono _ _ _ _)
   | (with_reducible exact LeO.refl _)
   | (with_reducible exact LeO.none _)
   | (with_reducible refine LeO.ite ?_ ?_)
   | (with_reducible refine LeO.bind ?_ (fun _ => ?_))
   | exact ih0 _ _ _
   | exact ih1 _ _ _ _ _ _
   | exact ih2 _ _ _ _ _ _ _
   | exact ih3 _ _ _ _ _ _ _ _
   | exact ih4 _ _ _ _ _ _ _ _ _
   | exact ih5 _ _ _ _ _ _ _ _
   | exact spec_l1Compare.mono _ _ _
   | exact spec_l1Make.mono _ _ _
   | exact spec_l20Rd_pick.mono _ _ _ _
   | exact LeO.none _
   | refine LeO.ite ?_ ?_
   | refine LeO.bind ?_ (fun _ => ?_)
theorem spec_l20Raw.mono : ∀ a0 a1 a2 k, LeO (spec_l20Raw.f k a0 a1 a2) (spec_l20Raw.f (k + 1) a0 a1 a2) := by
 intro a0 a1 a2 k
 obtain ⟨ih0, ih1, ih2, ih3, ih4, ih5⟩ := spec_l20Raw.mono_l k
 exact ih0 a0 a1 a2
def spec_l20Raw.T16 : Bool × List (List Nat × List Nat) := (true, [([], []), ([], []), ([], []), ([1, 2], [1, 2]), ([0, 3], [0, 3]), ([], []), ([5, 4], [5]), ([6], [6]), ([], []), ([8, 6], [8]), ([9], [9]), ([10], [10]), ([7, 11], [7, 11]), ([12], [12]), ([4, 13, 9], [4, 13]), ([], []), ([], []), ([15, 16], [15, 16]), ([14, 17, 14], [14, 17]), ([18, 18, 0, 1, 2, 3, 4, 5, 6, 7, 8, 9, 10, 11, 12, 13, 14, 15, 16, 17, 18], [1, 15, 18])])
def spec_l20Raw.B16 : List Nat := [0, 0, 0, 6, 15, 0, 63, 127, 0, 383, 895, 1919, 4095, 8191, 16383, 0, 0, 98304, 262143, 524287]
theorem spec_l20Raw.tab16 : rtab .any (opsOf Try.f70 16) = spec_l20Raw.T16 := by kernel_rfl
theorem spec_l20Raw.bits16 : waitsOk spec_l20Raw.T16.2 spec_l20Raw.B16 = true := by kernel_rfl
def spec_l20Raw.T17 : Bool × List (List Nat × List Nat) := (true, [([], []), ([], []), ([], []), ([1, 2], [1, 2]), ([0, 3], [0, 3]), ([], []), ([5], [5]), ([4, 6, 4], [4, 6]), ([], []), ([], []), ([8, 9], [8, 9]), ([7, 10, 7], [7, 10]), ([11, 11, 0, 1, 2, 3, 4, 5, 6, 7, 8, 9, 10, 11], [1, 8, 11])])
def spec_l20Raw.B17 : List Nat := [0, 0, 0, 6, 15, 0, 32, 127, 0, 0, 768, 2047, 4095]
theorem spec_l20Raw.tab17 : rtab .any (opsOf Try.f70 17) = spec_l20Raw.T17 := by kernel_rfl
theorem spec_l20Raw.bits17 : waitsOk spec_l20Raw.T17.2 spec_l20Raw.B17 = true := by kernel_rfl
set_option maxHeartbeats 8000000 in
set_option maxRecDepth 100000 in
theorem spec_l20Raw.calls (k : Nat) : ∀ (g : Nat) (s0_0 : List Int) (s0_1 : Int) (a1 : Int) (r1 : List Int) (r2 : Int) (w0 w : World) (hI : IsS64 w0 w g s0_0 s0_1) (hB : Below w0.heap.size w0 w) (h : spec_l20Raw.f k s0_0 s0_1 a1 = some (r1, r2)),
  Calls Try.prog 70 #[.pointer (some ⟨g, 0, none⟩), .int .i64 a1] w fun e w' => ∃ v0_ : Value, e = .returned (v0_) ∧ Kd.R (Kd.int .i64) 3 w' w.heap.size (fun _ => True) v0_ r1 ∧ IsS64 w0 w' g s0_0 r2 ∧ Below w0.heap.size w0 w' ∧ KeepBut w w' g none := by
 induction k using Nat.strongRecOn with
 | _ k ih =>
 intro g s0_0 s0_1 a1 r1 r2 w0 w hI hB h
 cases k with
 | zero => exact absurd h (by simp [spec_l20Raw.f])
 | succ k =>
 simp only [spec_l20Raw.f] at h
 have HI0 := Aside0.mk hI
 have HK := Aside0.mk (KeepBut.refl w g none)
 have HL := Aside0.mk hB.size
 clear hI
 have HW0 := Aside0.mk hB.size
 have HB := Aside0.mk hB
 clear hB
 have H : (if a1 = 0 then ((spec_l20Rd_pick.f k s0_0 s0_1 4).bind fun bt380 => ((spec_OrdOf.f bt380.1).bind fun t382 => (some (t382, bt380.2)))) else ((spec_l20Rd_pick.f k s0_0 s0_1 4).bind fun bt391 => (spec_l20Raw.l0 k a1 (([] : List Int)) (([] : List (List Int))) bt391.1 s0_0 bt391.2))) = some (r1, r2) := h
 clear h
 by_cases c3 : a1 = 0
 ·rw [if_pos c3] at H
  have c3b0 : (a1 == 0) = true := beq_iff_eq.mpr c3
  have c3b1 : (a1 != 0) = false := bne_eq_false_iff_eq.mpr c3
  clear c3
  replace H := Option.bind_eq_some_iff.mp H
  obtain ⟨⟨t380, t381⟩, A40, H⟩ := H
  replace H : ((spec_OrdOf.f t380).bind fun t382 => (some (t382, t381))) = some (r1, r2) := H
  have A4 := Aside0.mk A40
  clear A40
  replace H := Option.bind_eq_some_iff.mp H
  obtain ⟨t382, A50, H⟩ := H
  replace H : (some (t382, t381)) = some (r1, r2) := H
  have A5 := Aside0.mk A50
  clear A50
  simp only [Option.some.injEq, Prod.mk.injEq] at H
  obtain ⟨rfl, rfl⟩ := H
  go_enter Try.func70, Try.ntmps70
  go_wp2_with (first | ((with_reducible refine gate_callee (f := 49) rfl ?_); refine goesL_ (some 13) rfl rfl Try.func49 (by kernel_rfl) rfl #[.pointer (some ⟨g, 0, none⟩), .int .i64 4] rfl ls ?_; (with_reducible refine (spec_l20Rd_pick.calls k g s0_0 s0_1 4 t380 t381 w0 _ ?side1 ?side2 A4.out).mono ?_); (case side1 => exact is64 HI0.out); (case side2 => exact bi64 HB.out HI0.out); rintro e w6 ⟨rfl, hi, hb, hk⟩; refine ⟨_, rfl, ?_⟩; replace HK := Aside0.mk (KeepBut.trans (kb HK.out) hk (.inl rfl)); replace HB := Aside0.mk (hb); replace HI0 := Aside0.mk (hi); (try clear hb); (try clear hb2); (try clear hk); (try clear hi)) | ((with_reducible refine gate_callee (f := 59) rfl ?_); refine goesL_ (some 14) rfl rfl Try.func59 (by kernel_rfl) rfl #[.int .i64 t380] rfl ls ?_; (with_reducible refine (spec_OrdOf.calls t380 t382 _ A5.out).mono ?_); rintro e w7 ⟨v383, rfl, ho0, hb⟩; refine ⟨_, rfl, ?_⟩; have HO384 := Aside0.mk (Kd.R_lower ho0 (keep_size (w := w) (g := g) (row := none) (kb HK.out))); have n1_ := Aside0.mk (IsS64.below (is64 HI0.out) hb); replace HK := Aside0.mk (KeepBut.trans (kb HK.out) (KeepBut.of_below hb g none) (.inl rfl)); replace HB := Aside0.mk (below_step (bi64 HB.out HI0.out) hb); replace HI0 := n1_; clear n1_; (try clear hb); (try clear hb2); (try clear hk); (try clear hi); (try clear ho0)))
  go_ret
  exact ⟨_, by first | rfl | (simp [errW_none, errW_some] <;> rfl) | (simp [*, errW_none, errW_some] <;> rfl), by (with_reducible repeat (first | apply Kd.R_alloc | apply Kd.R_drewN | apply Kd.R_drew)); exact HO384.out, is64 HI0.out, bi64 HB.out HI0.out, kb HK.out⟩
 ·rw [if_neg c3] at H
  have c3b0 : (a1 == 0) = false := beq_eq_false_iff_ne.mpr c3
  have c3b1 : (a1 != 0) = true := bne_iff_ne.mpr c3
  obtain ⟨y385, hy385⟩ : ∃ y_ : List Int, y_ = (([] : List Int)) := ⟨_, rfl⟩
  replace H : ((spec_l20Rd_pick.f k s0_0 s0_1 4).bind fun bt391 => (spec_l20Raw.l0 k a1 y385 (([] : List (List Int))) bt391.1 s0_0 bt391.2)) = some (r1, r2) := by first | (rw [hy385]; with_reducible exact H) | (have H2_ := (Option.bind_some _ _).symm.trans H; rw [hy385]; with_reducible exact H2_) | (have H2_ := (Option.bind_some _ _).symm.trans H; with_reducible exact H2_) | with_reducible exact H | (rw [hy385]; exact H) | exact H
  have Ny385 := Aside0.mk hy385
  clear hy385
  obtain ⟨y388, hy388⟩ : ∃ y_ : List (List Int), y_ = (([] : List (List Int))) := ⟨_, rfl⟩
  replace H : ((spec_l20Rd_pick.f k s0_0 s0_1 4).bind fun bt391 => (spec_l20Raw.l0 k a1 y385 y388 bt391.1 s0_0 bt391.2)) = some (r1, r2) := by first | (rw [hy388]; with_reducible exact H) | (have H2_ := (Option.bind_some _ _).symm.trans H; rw [hy388]; with_reducible exact H2_) | (have H2_ := (Option.bind_some _ _).symm.trans H; with_reducible exact H2_) | with_reducible exact H | (rw [hy388]; exact H) | exact H
  have Ny388 := Aside0.mk hy388
  clear hy388
  replace H := Option.bind_eq_some_iff.mp H
  obtain ⟨⟨t391, t392⟩, A80, H⟩ := H
  replace H : (spec_l20Raw.l0 k a1 y385 y388 t391 s0_0 t392) = some (r1, r2) := H
  have A8 := Aside0.mk A80
  clear A80
  have H' := Aside0.mk H
  clear H
  go_enter Try.func70, Try.ntmps70
  go_wp2_with (first | ((with_reducible refine gate_dst (N := 15) rfl ?_); refine Kd.R_lit (Kd.int .i64) _ 3 ?hg (N := 15) ?hd (xs := ([] : List Int)) (inner := []) (ok := fun _ => True) (okp := fun _ => True) ?hr ?hp (fun _ hk => hk) trivial (Below.refl _ _) (Nat.le_refl _) (by simp) ?_; (case hd => rfl); (case hg => rfl); (case hr => first | (go_simp; done) | (go_simp; rfl)); (case hp => exact (Reps.none _ _)); intro v386 w9 ho10 hb hg_ hnew_; clear hg_ hnew_; (first | rw [← Ny385.out] at ho10 | (simp only [Int.reduceToNat] at ho10; rw [← Ny385.out] at ho10)); have HO387 := Aside0.mk (Kd.R_lower ho10 (keep_size (w := w) (g := g) (row := none) (kb HK.out))); have n1_ := Aside0.mk (IsS64.below (is64 HI0.out) hb); replace HK := Aside0.mk (KeepBut.trans (kb HK.out) (KeepBut.of_below hb g none) (.inl rfl)); replace HB := Aside0.mk (below_step (bi64 HB.out HI0.out) hb); replace HI0 := n1_; clear n1_; clear hb ho10) | ((with_reducible refine gate_dst (N := 16) rfl ?_); refine Kd.N_lit (Kd.slice 3 (Kd.int .i64)) _ 23 ?hg (N' := 16) ?hd (xs := ([] : List (List Int))) (inner := []) (ok := (fun k_ => some k_ ≠ (v386 : Value).ownBlock ∧ k_ ≠ g)) (okp := (fun k_ => some k_ ≠ (v386 : Value).ownBlock ∧ k_ ≠ g)) ?hr ?hp (fun _ hk => hk) ((show ∀ k_, w9.heap.size ≤ k_ → (fun k_ => some k_ ≠ (v386 : Value).ownBlock ∧ k_ ≠ g) k_ from fun k_ hk => ⟨Kd.fresh' (Kd.R_lt (rR HO387.out)) k_ hk, IsS64.fresh (is64 HI0.out) k_ hk⟩) _ (Nat.le_refl _)) (Below.refl _ _) (Nat.le_refl _) (by simp) ?_; (case hd => rfl); (case hg => rfl); (case hr => first | (go_simp; done) | (go_simp; rfl)); (case hp => exact (Reps.none _ _)); intro v389 w11 ho12 hb hg_ hnew_; clear hg_ hnew_; (first | rw [← Ny388.out] at ho12 | (simp only [Int.reduceToNat] at ho12; rw [← Ny388.out] at ho12)); replace HO387 := Aside0.mk (Kd.R_below (rR HO387.out) hb); have HO390 := Aside0.mk (Kd.N_lower ho12 (keep_size (w := w) (g := g) (row := none) (kb HK.out))); have n2_ := Aside0.mk (IsS64.below (is64 HI0.out) hb); replace HK := Aside0.mk (KeepBut.trans (kb HK.out) (KeepBut.of_below hb g none) (.inl rfl)); replace HB := Aside0.mk (below_step (bi64 HB.out HI0.out) hb); replace HI0 := n2_; clear n2_; clear hb ho12) | ((with_reducible refine gate_callee (f := 49) rfl ?_); refine goesL_ (some 18) rfl rfl Try.func49 (by kernel_rfl) rfl #[.pointer (some ⟨g, 0, none⟩), .int .i64 4] rfl ls ?_; (with_reducible refine (spec_l20Rd_pick.calls k g s0_0 s0_1 4 t391 t392 w0 _ ?side1 ?side2 A8.out).mono ?_); (case side1 => exact is64 HI0.out); (case side2 => exact bi64 HB.out HI0.out); rintro e w13 ⟨rfl, hi, hb, hk⟩; refine ⟨_, rfl, ?_⟩; replace HO387 := Aside0.mk (Kd.R_mono (Kd.R_keep (IsS64.apart (show IsS64 w0 _ g s0_0 s0_1 from is64 HI0.out) (rR HO387.out) (by decide)) hk (fun _ h => h.2)) (fun _ h => h.1)); replace HO390 := Aside0.mk (Kd.N_mono (Kd.N_keep (Kd.N_mono (ok := fun k_ => (some k_ ≠ (v386 : Value).ownBlock ∧ k_ ≠ g)) (rN HO390.out) (fun k_ hk_ => (⟨hk_, hk_.2⟩ : _ ∧ k_ ≠ g))) hk (fun _ h => h.2)) (fun _ h => h.1)); replace HK := Aside0.mk (KeepBut.trans (kb HK.out) hk (.inl rfl)); replace HB := Aside0.mk (hb); replace HI0 := Aside0.mk (hi); (try clear hb); (try clear hb2); (try clear hk); (try clear hi)))
  go_loopg [5, 6, 7] k (fun kq v5 v6 v7 w' => ∃ (x5_1 : List Int) (x6_1 : List (List Int)) (x7_1 : Int) (x1001_1 : Int), v7 = .int .i64 x7_1 ∧ Aside0 (spec_l20Raw.l0 kq a1 x5_1 x6_1 x7_1 s0_0 x1001_1 = some (r1, r2)) ∧ Aside0 (kq ≤ k) ∧ Aside0 (Kd.R (Kd.int .i64) 3 w' w.heap.size (fun _ => True) v5 x5_1) ∧ Aside0 (Kd.N (Kd.slice 3 (Kd.int .i64)) 23 w' w.heap.size (fun k_ => some k_ ≠ (v5 : Value).ownBlock ∧ k_ ≠ g) v6 x6_1) ∧ Aside0 (IsS64 w0 w' g s0_0 x1001_1) ∧ Aside0 (KeepBut w w' g none) ∧ Aside0 (Below w0.heap.size w0 w'))
  case atStart => exact ⟨(y385), (y388), (t391), (t392), (by first | rfl | (simp; done) | (simp [*]; done)), H', ⟨Nat.le_refl _⟩, ⟨rR HO387.out⟩, ⟨rN HO390.out⟩, ⟨is64 HI0.out⟩, ⟨kb HK.out⟩, ⟨bi64 HB.out HI0.out⟩⟩
  case round =>
   clear H'
   try clear p2
   try clear c3
   try clear c3b0
   try clear c3b1
   try clear c4
   try clear c5
   try clear c7
   obtain ⟨x5_1, x6_1, x7_1, x1001_1, rfl, HA, HK1, HO_5, HO_6, HI0, HK, HB⟩ := hrel
   cases gk with
   | zero => exact absurd HA.out (by simp [spec_l20Raw.l0])
   | succ k1 =>
    have H := HA.out
    clear HA
    simp only [spec_l20Raw.l0] at H
    by_cases c14 : x7_1 > 0
    ·rw [if_pos c14] at H
     have c14b0 : decide (0 < x7_1) = true := decide_eq_true c14
     clear c14
     obtain ⟨y396, hy396⟩ : ∃ y_ : List Int, y_ = (([0] : List Int)) := ⟨_, rfl⟩
     replace H : ((spec_l20Rd_pick.f k1 s0_0 x1001_1 4).bind fun bt399 => (if bt399.1 > 0 then ((spec_l20Rd_pick.f k1 s0_0 bt399.2 a1).bind fun bt401 => ((spec_l20Raw.f k1 s0_0 bt401.2 bt401.1).bind fun bt403 => (spec_l20Raw.j1 k1 a1 x5_1 x6_1 x7_1 bt403.1 s0_0 bt403.2))) else (spec_l20Raw.j1 k1 a1 x5_1 x6_1 x7_1 y396 s0_0 bt399.2))) = some (r1, r2) := by first | (rw [hy396]; with_reducible exact H) | (have H2_ := (Option.bind_some _ _).symm.trans H; rw [hy396]; with_reducible exact H2_) | (have H2_ := (Option.bind_some _ _).symm.trans H; with_reducible exact H2_) | with_reducible exact H | (rw [hy396]; exact H) | exact H
     have Ny396 := Aside0.mk hy396
     clear hy396
     replace H := Option.bind_eq_some_iff.mp H
     obtain ⟨⟨t399, t400⟩, A150, H⟩ := H
     replace H : (if t399 > 0 then ((spec_l20Rd_pick.f k1 s0_0 t400 a1).bind fun bt401 => ((spec_l20Raw.f k1 s0_0 bt401.2 bt401.1).bind fun bt403 => (spec_l20Raw.j1 k1 a1 x5_1 x6_1 x7_1 bt403.1 s0_0 bt403.2))) else (spec_l20Raw.j1 k1 a1 x5_1 x6_1 x7_1 y396 s0_0 t400)) = some (r1, r2) := H
     have A15 := Aside0.mk A150
     clear A150
     have HC16 := Aside0.mk H
     clear H
     go_upto_if 26 with (first | ((with_reducible refine gate_dst (N := 23) rfl ?_); refine Kd.R_lit (Kd.int .i64) _ 3 ?hg (N := 23) ?hd (xs := ([0] : List Int)) (inner := [.int .i64 0]) (ok := fun _ => True) (okp := fun _ => True) ?hr ?hp (fun _ hk => hk) trivial (Below.refl _ _) (Nat.le_refl _) (by simp) ?_; (case hd => rfl); (case hg => rfl); (case hr => first | (go_simp; done) | (go_simp; rfl)); (case hp => exact (Reps.one (show Kd.M (Kd.int .i64) _ _ _ 0 [.int .i64 0] from rfl) (Reps.none _ _))); intro v397 w17 ho18 hb hg_ hnew_; clear hg_ hnew_; (first | rw [← Ny396.out] at ho18 | (simp only [Int.reduceToNat] at ho18; rw [← Ny396.out] at ho18)); have n0_ := Aside0.mk (Kd.R_elder' (rR HO_5.out) (Kd.R_base ho18) hb); replace HO_6 := Aside0.mk (Kd.N_elder' (rN HO_6.out) (Kd.R_base ho18) hb); have HO398 := Aside0.mk (Kd.R_lower (Kd.R_new' ho18 (Kd.R_lt (rR HO_5.out))) (keep_size (w := w) (g := g) (row := none) (kb HK.out))); have n3_ := Aside0.mk (IsS64.below (is64 HI0.out) hb); replace HK := Aside0.mk (KeepBut.trans (kb HK.out) (KeepBut.of_below hb g none) (.inl rfl)); replace HB := Aside0.mk (below_step (bi64 HB.out HI0.out) hb); replace HO_5 := n0_; replace HI0 := n3_; clear n0_ n3_; clear hb ho18) | ((with_reducible refine gate_callee (f := 49) rfl ?_); refine goesL_ (some 25) rfl rfl Try.func49 (by kernel_rfl) rfl #[.pointer (some ⟨g, 0, none⟩), .int .i64 4] rfl ls ?_; (with_reducible refine (spec_l20Rd_pick.calls k1 g s0_0 x1001_1 4 t399 t400 w0 _ ?side1 ?side2 A15.out).mono ?_); (case side1 => exact is64 HI0.out); (case side2 => exact bi64 HB.out HI0.out); rintro e w19 ⟨rfl, hi, hb, hk⟩; refine ⟨_, rfl, ?_⟩; replace HO_5 := Aside0.mk (Kd.R_mono (Kd.R_keep (IsS64.apart (show IsS64 w0 _ g s0_0 x1001_1 from is64 HI0.out) (rR HO_5.out) (by decide)) hk (fun _ h => h.2)) (fun _ h => h.1)); replace HO_6 := Aside0.mk (Kd.N_mono (Kd.N_keep (Kd.N_mono (ok := fun k_ => ((some k_ ≠ (u5 : Value).ownBlock ∧ k_ ≠ g) ∧ some k_ ≠ (v397 : Value).ownBlock)) (rN HO_6.out) (fun k_ hk_ => (⟨hk_, hk_.1.2⟩ : _ ∧ k_ ≠ g))) hk (fun _ h => h.2)) (fun _ h => h.1)); replace HO398 := Aside0.mk (Kd.R_mono (Kd.R_keep (IsS64.apart (show IsS64 w0 _ g s0_0 x1001_1 from is64 HI0.out) (rR HO398.out) (by decide)) hk (fun _ h => h.2)) (fun _ h => h.1)); replace HK := Aside0.mk (KeepBut.trans (kb HK.out) hk (.inl rfl)); replace HB := Aside0.mk (hb); replace HI0 := Aside0.mk (hi); (try clear hb); (try clear hb2); (try clear hk); (try clear hi)))
     (try simp only [Act.put, List.setIfInBounds_toArray, List.set_cons_zero, List.set_cons_succ])
     go_cut [8] (fun v8 wc => ∃ (kq : Nat) (x8_15 : List Int) (x1001_15 : Int), Aside0 (spec_l20Raw.j1 kq a1 x5_1 x6_1 x7_1 x8_15 s0_0 x1001_15 = some (r1, r2)) ∧ Aside0 (kq ≤ k1) ∧ Aside0 (Kd.R (Kd.int .i64) 3 wc w.heap.size (fun k_ => some k_ ≠ (v8 : Value).ownBlock) u5 x5_1) ∧ Aside0 (Kd.N (Kd.slice 3 (Kd.int .i64)) 23 wc w.heap.size (fun k_ => some k_ ≠ (u5 : Value).ownBlock ∧ some k_ ≠ (v8 : Value).ownBlock ∧ k_ ≠ g) u6 x6_1) ∧ Aside0 (Kd.R (Kd.int .i64) 3 wc w.heap.size (fun k_ => some k_ ≠ (u5 : Value).ownBlock) v8 x8_15) ∧ Aside0 (IsS64 w0 wc g s0_0 x1001_15) ∧ Aside0 (KeepBut w wc g none) ∧ Aside0 (Below w0.heap.size w0 wc))
     case first =>
      have H := HC16.out
      clear HC16
      by_cases c20 : t399 > 0
      ·rw [if_pos c20] at H
       have c20b0 : decide (0 < t399) = true := decide_eq_true c20
       clear c20
       (first | rw [c20b0] | (simp only [i64_w, i32_w]; rw [c20b0]) | skip)
       replace H := Option.bind_eq_some_iff.mp H
       obtain ⟨⟨t401, t402⟩, A210, H⟩ := H
       replace H : ((spec_l20Raw.f k1 s0_0 t402 t401).bind fun bt403 => (spec_l20Raw.j1 k1 a1 x5_1 x6_1 x7_1 bt403.1 s0_0 bt403.2)) = some (r1, r2) := H
       have A21 := Aside0.mk A210
       clear A210
       replace H := Option.bind_eq_some_iff.mp H
       obtain ⟨⟨t403, t406⟩, A220, H⟩ := H
       replace H : (spec_l20Raw.j1 k1 a1 x5_1 x6_1 x7_1 t403 s0_0 t406) = some (r1, r2) := H
       have A22 := Aside0.mk A220
       clear A220
       have H' := Aside0.mk H
       clear H
       go_wp2_with (first | ((with_reducible refine gate_callee (f := 49) rfl ?_); refine goesL_ (some 30) rfl rfl Try.func49 (by kernel_rfl) rfl #[.pointer (some ⟨g, 0, none⟩), .int .i64 a1] rfl ls ?_; (with_reducible refine (spec_l20Rd_pick.calls k1 g s0_0 t400 a1 t401 t402 w0 _ ?side1 ?side2 A21.out).mono ?_); (case side1 => exact is64 HI0.out); (case side2 => exact bi64 HB.out HI0.out); rintro e w23 ⟨rfl, hi, hb, hk⟩; refine ⟨_, rfl, ?_⟩; replace HO_5 := Aside0.mk (Kd.R_mono (Kd.R_keep (IsS64.apart (show IsS64 w0 _ g s0_0 t400 from is64 HI0.out) (rR HO_5.out) (by decide)) hk (fun _ h => h.2)) (fun _ h => h.1)); replace HO_6 := Aside0.mk (Kd.N_mono (Kd.N_keep (Kd.N_mono (ok := fun k_ => ((some k_ ≠ (u5 : Value).ownBlock ∧ k_ ≠ g) ∧ some k_ ≠ (v397 : Value).ownBlock)) (rN HO_6.out) (fun k_ hk_ => (⟨hk_, hk_.1.2⟩ : _ ∧ k_ ≠ g))) hk (fun _ h => h.2)) (fun _ h => h.1)); replace HO398 := Aside0.mk (Kd.R_mono (Kd.R_keep (IsS64.apart (show IsS64 w0 _ g s0_0 t400 from is64 HI0.out) (rR HO398.out) (by decide)) hk (fun _ h => h.2)) (fun _ h => h.1)); replace HK := Aside0.mk (KeepBut.trans (kb HK.out) hk (.inl rfl)); replace HB := Aside0.mk (hb); replace HI0 := Aside0.mk (hi); (try clear hb); (try clear hb2); (try clear hk); (try clear hi)) | ((with_reducible refine gate_callee (f := 70) rfl ?_); refine goesL_ (some 31) rfl rfl Try.func70 (by kernel_rfl) rfl #[.pointer (some ⟨g, 0, none⟩), .int .i64 t401] rfl ls ?_; (with_reducible refine (ih k1 (by have := HK1.out; omega) g s0_0 t402 t401 t403 t406 w0 _ ?side1 ?side2 A22.out).mono ?_); (case side1 => exact is64 HI0.out); (case side2 => exact bi64 HB.out HI0.out); rintro e w24 ⟨v404, rfl, ho0, hi, hb, hk⟩; refine ⟨_, rfl, ?_⟩; have n0_ := Aside0.mk (Kd.R_mono (Kd.R_told (Kd.R_oldK (IsS64.apart (show IsS64 w0 _ g s0_0 t402 from is64 HI0.out) (rR HO_5.out) (by decide)) hk) (Kd.R_base ho0)) (fun _ h_ => h_.1)); replace HO_6 := Aside0.mk (Kd.N_mono (Kd.N_told (Kd.N_oldK (Kd.N_mono (ok := fun k_ => ((some k_ ≠ (u5 : Value).ownBlock ∧ k_ ≠ g) ∧ some k_ ≠ (v397 : Value).ownBlock)) (rN HO_6.out) (fun k_ hk_ => (⟨hk_, hk_.1.2⟩ : _ ∧ k_ ≠ g))) hk) (Kd.R_base ho0)) (fun _ h_ => h_.1)); have n2_ := Aside0.mk (Kd.R_mono (Kd.R_told (Kd.R_oldK (IsS64.apart (show IsS64 w0 _ g s0_0 t402 from is64 HI0.out) (rR HO398.out) (by decide)) hk) (Kd.R_base ho0)) (fun _ h_ => h_.1)); have HO405 := Aside0.mk (Kd.R_lower (Kd.R_new' (Kd.R_new' ho0 (Kd.R_lt (rR HO_5.out))) (Kd.R_lt (rR HO398.out))) (keep_size (w := w) (g := g) (row := none) (kb HK.out))); replace HK := Aside0.mk (KeepBut.trans (kb HK.out) hk (.inl rfl)); replace HB := Aside0.mk (hb); replace HI0 := Aside0.mk (hi); replace HO_5 := n0_; replace HO398 := n2_; clear n0_ n2_; (try clear hb); (try clear hb2); (try clear hk); (try clear hi); (try clear ho0)))
       go_meet
       case rel => exact ⟨_, (t403), (t406), H', ⟨by have := HK1.out; first | omega | exact Nat.le_refl _⟩, ⟨by (with_reducible repeat (first | apply Kd.R_alloc | apply Kd.R_drewN | apply Kd.R_drew)); exact Kd.R_mono HO_5.out (fun _ hk => hk.2)⟩, ⟨by (with_reducible repeat (first | apply Kd.N_alloc | apply Kd.N_drewN | apply Kd.N_drew)); exact Kd.N_mono HO_6.out (fun _ hk => ⟨hk.1.1.1, ⟨hk.2, hk.1.1.2⟩⟩)⟩, ⟨by (with_reducible repeat (first | apply Kd.R_alloc | apply Kd.R_drewN | apply Kd.R_drew)); exact Kd.R_mono HO405.out (fun _ hk => hk.1.2)⟩, ⟨is64 HI0.out⟩, ⟨kb HK.out⟩, ⟨bi64 HB.out HI0.out⟩⟩
      ·rw [if_neg c20] at H
       have c20b0 : decide (0 < t399) = false := decide_eq_false c20
       clear c20
       (first | rw [c20b0] | (simp only [i64_w, i32_w]; rw [c20b0]) | skip)
       have H' := Aside0.mk H
       clear H
       go_wp2
       go_meet
       case rel => exact ⟨_, (y396), (t400), H', ⟨by have := HK1.out; first | omega | exact Nat.le_refl _⟩, ⟨by (with_reducible repeat (first | apply Kd.R_alloc | apply Kd.R_drewN | apply Kd.R_drew)); exact Kd.R_mono HO_5.out (fun _ hk => hk.2)⟩, ⟨by (with_reducible repeat (first | apply Kd.N_alloc | apply Kd.N_drewN | apply Kd.N_drew)); exact Kd.N_mono HO_6.out (fun _ hk => ⟨hk.1.1, ⟨hk.2, hk.1.2⟩⟩)⟩, ⟨by (with_reducible repeat (first | apply Kd.R_alloc | apply Kd.R_drewN | apply Kd.R_drew)); exact Kd.R_mono HO398.out (fun _ hk => hk.2)⟩, ⟨is64 HI0.out⟩, ⟨kb HK.out⟩, ⟨bi64 HB.out HI0.out⟩⟩
     case rest =>
      clear HC16
      try clear c1
      try clear c2
      try clear p2
      try clear c3
      try clear c3b0
      try clear c3b1
      try clear c4
      try clear c5
      try clear c7
      try clear c14
      try clear c14b0
      try clear c20
      try clear c20b0
      try clear p2
      obtain ⟨kq, x8_15, x1001_15, HA, HJ15, HO_5, HO_6, HO_8, HI0, HK, HB⟩ := hcut
      cases kq with
      | zero => exact absurd HA.out (by simp [spec_l20Raw.j1])
      | succ kj15 =>
       have H := HA.out
       clear HA
       simp only [spec_l20Raw.j1] at H
       have HC25 := Aside0.mk H
       clear H
       go_upto_block 2 with (fail)
       go_cut [9] (fun v9 wc => ∃ (kq : Nat) (x9_24 : Int), v9 = .int .i64 x9_24 ∧ Aside0 (spec_l20Raw.j3 kq a1 x5_1 x6_1 x7_1 x8_15 x9_24 s0_0 x1001_15 = some (r1, r2)) ∧ Aside0 (kq ≤ kj15) ∧ Aside0 (Kd.R (Kd.int .i64) 3 wc w.heap.size (fun k_ => some k_ ≠ (u8 : Value).ownBlock) u5 x5_1) ∧ Aside0 (Kd.N (Kd.slice 3 (Kd.int .i64)) 23 wc w.heap.size (fun k_ => some k_ ≠ (u5 : Value).ownBlock ∧ some k_ ≠ (u8 : Value).ownBlock ∧ k_ ≠ g) u6 x6_1) ∧ Aside0 (Kd.R (Kd.int .i64) 3 wc w.heap.size (fun k_ => some k_ ≠ (u5 : Value).ownBlock) u8 x8_15) ∧ Aside0 (IsS64 w0 wc g s0_0 x1001_15) ∧ Aside0 (KeepBut w wc g none) ∧ Aside0 (Below w0.heap.size w0 wc))
       case first =>
        have H := HC25.out
        clear HC25
        have H' := Aside0.mk H
        clear H
        go_wp2
        go_loopg [9] kj15 (fun kq v9 w' => ∃ (x9_3 : Int), v9 = .int .i64 x9_3 ∧ Aside0 (spec_l20Raw.l1 kq a1 x5_1 x6_1 x7_1 x8_15 x9_3 s0_0 x1001_15 = some (r1, r2)) ∧ Aside0 (kq ≤ kj15) ∧ Aside0 (Kd.R (Kd.int .i64) 3 w' w.heap.size (fun k_ => some k_ ≠ (u8 : Value).ownBlock) u5 x5_1) ∧ Aside0 (Kd.N (Kd.slice 3 (Kd.int .i64)) 23 w' w.heap.size (fun k_ => some k_ ≠ (u5 : Value).ownBlock ∧ some k_ ≠ (u8 : Value).ownBlock ∧ k_ ≠ g) u6 x6_1) ∧ Aside0 (Kd.R (Kd.int .i64) 3 w' w.heap.size (fun k_ => some k_ ≠ (u5 : Value).ownBlock) u8 x8_15) ∧ Aside0 (IsS64 w0 w' g s0_0 x1001_15) ∧ Aside0 (KeepBut w w' g none) ∧ Aside0 (Below w0.heap.size w0 w'))
        case atStart => exact ⟨(0), (by first | rfl | (simp; done) | (simp [*]; done)), H', ⟨Nat.le_refl _⟩, ⟨rR HO_5.out⟩, ⟨rN HO_6.out⟩, ⟨rR HO_8.out⟩, ⟨is64 HI0.out⟩, ⟨kb HK.out⟩, ⟨bi64 HB.out HI0.out⟩⟩
        case round =>
         clear H'
         try clear c1
         try clear c2
         try clear p2
         try clear c3
         try clear c3b0
         try clear c3b1
         try clear c4
         try clear c5
         try clear c7
         try clear c14
         try clear c14b0
         try clear c20
         try clear c20b0
         try clear p2
         obtain ⟨x9_3, rfl, HA, HK3, HO_5, HO_6, HO_8, HI0, HK, HB⟩ := hrel
         cases gk with
         | zero => exact absurd HA.out (by simp [spec_l20Raw.l1])
         | succ k3 =>
          have H := HA.out
          clear HA
          simp only [spec_l20Raw.l1] at H
          by_cases c26 : x9_3 < (x6_1.length : Int)
          ·rw [if_pos c26] at H
           have c26b0 : decide (x9_3 < (x6_1.length : Int)) = true := decide_eq_true c26
           clear c26
           (first | rw [c26b0] | (simp only [i64_w, i32_w]; rw [c26b0]) | skip)
           by_cases c27 : 0 ≤ x9_3
           ·rw [if_pos c27] at H
            have c27b0 : decide (0 ≤ x9_3) = true := decide_eq_true c27
            clear c27
            replace H := Option.bind_eq_some_iff.mp H
            obtain ⟨t408, A280, H⟩ := H
            replace H : (if t408 > 0 then (spec_l20Raw.l1 k3 a1 x5_1 x6_1 x7_1 x8_15 (wrap64 (x9_3 + 1)) s0_0 x1001_15) else (spec_l20Raw.j3 k3 a1 x5_1 x6_1 x7_1 x8_15 x9_3 s0_0 x1001_15)) = some (r1, r2) := H
            have A28 := Aside0.mk A280
            clear A280
            by_cases c29 : t408 > 0
            ·rw [if_pos c29] at H
             have c29b0 : decide (0 < t408) = true := decide_eq_true c29
             clear c29
             have H' := Aside0.mk H
             clear H
             obtain ⟨Ao30, co30, eo30⟩ := Kd.N_slice HO_6.out
             subst eo30
             have p407 : 0 ≤ (x9_3 : Int) := of_decide_eq_true (by first | (with_reducible assumption) | assumption)
             have q407 : x9_3 < (x6_1.length : Int) := of_decide_eq_true (by first | (with_reducible assumption) | assumption)
             obtain ⟨ad407, A407_0, c407_0, e407, hx407_0, hl407_0, hi407_0⟩ := at_L2 (Kd.N_reads' HO_6.out).2.2 x9_3 p407 q407
             cases e407
             obtain ⟨ce407, hce407, hMe407, hcc407⟩ := Kd.N_get HO_6.out [] x9_3 p407 (by first | exact q407 | exact of_decide_eq_true (by first | (with_reducible assumption) | assumption) | (have e_ := (Kd.N_reads' HO_6.out).1; omega))
             obtain ⟨ua407_0, uc407_0, rfl, ul407_0, ge407_0⟩ := Kd.FK_slice_open hMe407
             have hv407_0 := hcc407 0 _ rfl
             rw [Nat.add_zero, show ((Kd.slice 3 (Kd.int .i64))).sz = 1 from rfl, Nat.mul_one] at hv407_0
             replace hv407_0 := Option.some.inj (hv407_0.symm.trans hx407_0)
             injection hv407_0 with hva_ hvn_ hvc_
             rw [hva_] at ge407_0
             rw [hvc_] at ul407_0
             have HL407_0 := Aside0.mk (show Kd.V (Kd.int .i64) 3 _ w.heap.size _ _ (rd_L2 x6_1 x9_3) from Kd.V_mk ul407_0 ge407_0)
             clear hva_ hvn_ hvc_ ge407_0 ul407_0
             clear hcc407 hce407
             have HR407_0 := Aside0.mk hi407_0
             have HC407_0 := Aside0.mk hl407_0
             clear hi407_0 hl407_0
             replace p407 := eq_true p407
             replace q407 := eq_true q407
             obtain ⟨Ao31, co31, eo31⟩ := Kd.R_slice HO_8.out
             subst eo31
             go_wp2_with (first | (go_at_call 56; (with_reducible refine (spec_l1Compare.calls k3 _ _ (rd_L2 x6_1 x9_3) _ _ x8_15 t408 _ ?side1 ?side2 ?side3 ?side4 A28.out).mono ?_); (case side1 => repeat (first | exact (cr HR407_0.out) | (with_reducible refine Kd.C_alloc ?_ _) | (with_reducible refine Kd.C_drewN ?_ _) | (with_reducible refine Kd.C_drew ?_))); (case side2 => exact HC407_0.out); (case side3 => repeat (first | exact (Kd.R_reads' HO_8.out).2.2 | (with_reducible refine Kd.C_alloc ?_ _) | (with_reducible refine Kd.C_drewN ?_ _) | (with_reducible refine Kd.C_drew ?_))); (case side4 => exact (Kd.R_reads' HO_8.out).2.1); rintro e w32 ⟨rfl, hb⟩; replace HO_5 := Aside0.mk (Kd.R_below (rR HO_5.out) hb); replace HO_6 := Aside0.mk (Kd.N_below (rN HO_6.out) hb); replace HO_8 := Aside0.mk (Kd.R_below (rR HO_8.out) hb); replace HL407_0 := Aside0.mk (Kd.V_below (rV HL407_0.out) hb); have n4_ := Aside0.mk (IsS64.below (is64 HI0.out) hb); replace HR407_0 := Aside0.mk (Kd.C_below (cr HR407_0.out) hb); replace HK := Aside0.mk (KeepBut.trans (kb HK.out) (KeepBut.of_below hb g none) (.inl rfl)); replace HB := Aside0.mk (below_step (bi64 HB.out HI0.out) hb); replace HI0 := n4_; clear n4_; (try clear hb); (try clear hb2); (try clear hk); (try clear hi)))
             go_roundg k3
             case measure => have := HK1.out; have := HJ15.out; have := HK3.out; omega
             case rel => exact ⟨(wrap64 (x9_3 + 1)), (by first | rfl | (simp; done) | (simp [*]; done)), H', ⟨by have := HK1.out; have := HJ15.out; have := HK3.out; omega⟩, ⟨rR HO_5.out⟩, ⟨rN HO_6.out⟩, ⟨rR HO_8.out⟩, ⟨is64 HI0.out⟩, ⟨kb HK.out⟩, ⟨bi64 HB.out HI0.out⟩⟩
            ·rw [if_neg c29] at H
             have c29b0 : decide (0 < t408) = false := decide_eq_false c29
             clear c29
             have H' := Aside0.mk H
             clear H
             obtain ⟨Ao33, co33, eo33⟩ := Kd.N_slice HO_6.out
             subst eo33
             have p407 : 0 ≤ (x9_3 : Int) := of_decide_eq_true (by first | (with_reducible assumption) | assumption)
             have q407 : x9_3 < (x6_1.length : Int) := of_decide_eq_true (by first | (with_reducible assumption) | assumption)
             obtain ⟨ad407, A407_0, c407_0, e407, hx407_0, hl407_0, hi407_0⟩ := at_L2 (Kd.N_reads' HO_6.out).2.2 x9_3 p407 q407
             cases e407
             obtain ⟨ce407, hce407, hMe407, hcc407⟩ := Kd.N_get HO_6.out [] x9_3 p407 (by first | exact q407 | exact of_decide_eq_true (by first | (with_reducible assumption) | assumption) | (have e_ := (Kd.N_reads' HO_6.out).1; omega))
             obtain ⟨ua407_0, uc407_0, rfl, ul407_0, ge407_0⟩ := Kd.FK_slice_open hMe407
             have hv407_0 := hcc407 0 _ rfl
             rw [Nat.add_zero, show ((Kd.slice 3 (Kd.int .i64))).sz = 1 from rfl, Nat.mul_one] at hv407_0
             replace hv407_0 := Option.some.inj (hv407_0.symm.trans hx407_0)
             injection hv407_0 with hva_ hvn_ hvc_
             rw [hva_] at ge407_0
             rw [hvc_] at ul407_0
             have HL407_0 := Aside0.mk (show Kd.V (Kd.int .i64) 3 _ w.heap.size _ _ (rd_L2 x6_1 x9_3) from Kd.V_mk ul407_0 ge407_0)
             clear hva_ hvn_ hvc_ ge407_0 ul407_0
             clear hcc407 hce407
             have HR407_0 := Aside0.mk hi407_0
             have HC407_0 := Aside0.mk hl407_0
             clear hi407_0 hl407_0
             replace p407 := eq_true p407
             replace q407 := eq_true q407
             obtain ⟨Ao34, co34, eo34⟩ := Kd.R_slice HO_8.out
             subst eo34
             go_wp2_with (first | (go_at_call 56; (with_reducible refine (spec_l1Compare.calls k3 _ _ (rd_L2 x6_1 x9_3) _ _ x8_15 t408 _ ?side1 ?side2 ?side3 ?side4 A28.out).mono ?_); (case side1 => repeat (first | exact (cr HR407_0.out) | (with_reducible refine Kd.C_alloc ?_ _) | (with_reducible refine Kd.C_drewN ?_ _) | (with_reducible refine Kd.C_drew ?_))); (case side2 => exact HC407_0.out); (case side3 => repeat (first | exact (Kd.R_reads' HO_8.out).2.2 | (with_reducible refine Kd.C_alloc ?_ _) | (with_reducible refine Kd.C_drewN ?_ _) | (with_reducible refine Kd.C_drew ?_))); (case side4 => exact (Kd.R_reads' HO_8.out).2.1); rintro e w35 ⟨rfl, hb⟩; replace HO_5 := Aside0.mk (Kd.R_below (rR HO_5.out) hb); replace HO_6 := Aside0.mk (Kd.N_below (rN HO_6.out) hb); replace HO_8 := Aside0.mk (Kd.R_below (rR HO_8.out) hb); replace HL407_0 := Aside0.mk (Kd.V_below (rV HL407_0.out) hb); have n4_ := Aside0.mk (IsS64.below (is64 HI0.out) hb); replace HR407_0 := Aside0.mk (Kd.C_below (cr HR407_0.out) hb); replace HK := Aside0.mk (KeepBut.trans (kb HK.out) (KeepBut.of_below hb g none) (.inl rfl)); replace HB := Aside0.mk (below_step (bi64 HB.out HI0.out) hb); replace HI0 := n4_; clear n4_; (try clear hb); (try clear hb2); (try clear hk); (try clear hi)))
             go_meet
             case rel => exact ⟨_, (x9_3), (by first | rfl | (simp; done) | (simp [*]; done)), H', ⟨by have := HK1.out; have := HJ15.out; have := HK3.out; first | omega | exact Nat.le_refl _⟩, ⟨rR HO_5.out⟩, ⟨rN HO_6.out⟩, ⟨rR HO_8.out⟩, ⟨is64 HI0.out⟩, ⟨kb HK.out⟩, ⟨bi64 HB.out HI0.out⟩⟩
           ·rw [if_neg c27] at H
            exact absurd H (by simp)
          ·rw [if_neg c26] at H
           have c26b0 : decide (x9_3 < (x6_1.length : Int)) = false := decide_eq_false c26
           clear c26
           (first | rw [c26b0] | (simp only [i64_w, i32_w]; rw [c26b0]) | skip)
           have H' := Aside0.mk H
           clear H
           obtain ⟨Ao36, co36, eo36⟩ := Kd.N_slice HO_6.out
           subst eo36
           go_wp2
           go_meet
           case rel => exact ⟨_, (x9_3), (by first | rfl | (simp; done) | (simp [*]; done)), H', ⟨by have := HK1.out; have := HJ15.out; have := HK3.out; first | omega | exact Nat.le_refl _⟩, ⟨rR HO_5.out⟩, ⟨rN HO_6.out⟩, ⟨rR HO_8.out⟩, ⟨is64 HI0.out⟩, ⟨kb HK.out⟩, ⟨bi64 HB.out HI0.out⟩⟩
       case rest =>
        clear HC25
        try clear c1
        try clear c2
        try clear p2
        try clear c3
        try clear c3b0
        try clear c3b1
        try clear c4
        try clear p4
        try clear q4
        try clear hx4
        try clear c5
        try clear p6
        try clear c7
        try clear c14
        try clear c14b0
        try clear c20
        try clear c20b0
        try clear c26
        try clear c26b0
        try clear c27
        try clear c27b0
        try clear c29
        try clear c29b0
        try clear hx407_0
        try clear p2
        try clear p407
        try clear q407
        obtain ⟨kq, x9_24, rfl, HA, HJ24, HO_5, HO_6, HO_8, HI0, HK, HB⟩ := hcut
        cases kq with
        | zero => exact absurd HA.out (by simp [spec_l20Raw.j3])
        | succ kj24 =>
         have H := HA.out
         clear HA
         simp only [spec_l20Raw.j3] at H
         have HC37 := Aside0.mk H
         clear H
         go_upto_region 14 with (fail)
         go_cut [59] (fun v59 wc => ∃ (kq : Nat) (x59_36 : Bool), v59 = .bool x59_36 ∧ Aside0 (spec_l20Raw.j4 kq a1 x5_1 x6_1 x7_1 x8_15 x9_24 x59_36 s0_0 x1001_15 = some (r1, r2)) ∧ Aside0 (kq ≤ kj24) ∧ Aside0 (Kd.R (Kd.int .i64) 3 wc w.heap.size (fun k_ => some k_ ≠ (u8 : Value).ownBlock) u5 x5_1) ∧ Aside0 (Kd.N (Kd.slice 3 (Kd.int .i64)) 23 wc w.heap.size (fun k_ => some k_ ≠ (u5 : Value).ownBlock ∧ some k_ ≠ (u8 : Value).ownBlock ∧ k_ ≠ g) u6 x6_1) ∧ Aside0 (Kd.R (Kd.int .i64) 3 wc w.heap.size (fun k_ => some k_ ≠ (u5 : Value).ownBlock) u8 x8_15) ∧ Aside0 (IsS64 w0 wc g s0_0 x1001_15) ∧ Aside0 (KeepBut w wc g none) ∧ Aside0 (Below w0.heap.size w0 wc))
         case first =>
          have H := HC37.out
          clear HC37
          by_cases c38 : x9_24 < (x6_1.length : Int)
          ·rw [if_pos c38] at H
           have c38b0 : decide (x9_24 < (x6_1.length : Int)) = true := decide_eq_true c38
           clear c38
           (first | rw [c38b0] | (simp only [i64_w, i32_w]; rw [c38b0]) | skip)
           by_cases c39 : 0 ≤ x9_24
           ·rw [if_pos c39] at H
            have c39b0 : decide (0 ≤ x9_24) = true := decide_eq_true c39
            clear c39
            replace H := Option.bind_eq_some_iff.mp H
            obtain ⟨t410, A400, H⟩ := H
            replace H : (spec_l20Raw.j4 kj24 a1 x5_1 x6_1 x7_1 x8_15 x9_24 (t410 == 0) s0_0 x1001_15) = some (r1, r2) := H
            have A40 := Aside0.mk A400
            clear A400
            have H' := Aside0.mk H
            clear H
            obtain ⟨Ao41, co41, eo41⟩ := Kd.N_slice HO_6.out
            subst eo41
            have p409 : 0 ≤ (x9_24 : Int) := of_decide_eq_true (by first | (with_reducible assumption) | assumption)
            have q409 : x9_24 < (x6_1.length : Int) := of_decide_eq_true (by first | (with_reducible assumption) | assumption)
            obtain ⟨ad409, A409_0, c409_0, e409, hx409_0, hl409_0, hi409_0⟩ := at_L2 (Kd.N_reads' HO_6.out).2.2 x9_24 p409 q409
            cases e409
            obtain ⟨ce409, hce409, hMe409, hcc409⟩ := Kd.N_get HO_6.out [] x9_24 p409 (by first | exact q409 | exact of_decide_eq_true (by first | (with_reducible assumption) | assumption) | (have e_ := (Kd.N_reads' HO_6.out).1; omega))
            obtain ⟨ua409_0, uc409_0, rfl, ul409_0, ge409_0⟩ := Kd.FK_slice_open hMe409
            have hv409_0 := hcc409 0 _ rfl
            rw [Nat.add_zero, show ((Kd.slice 3 (Kd.int .i64))).sz = 1 from rfl, Nat.mul_one] at hv409_0
            replace hv409_0 := Option.some.inj (hv409_0.symm.trans hx409_0)
            injection hv409_0 with hva_ hvn_ hvc_
            rw [hva_] at ge409_0
            rw [hvc_] at ul409_0
            have HL409_0 := Aside0.mk (show Kd.V (Kd.int .i64) 3 _ w.heap.size _ _ (rd_L2 x6_1 x9_24) from Kd.V_mk ul409_0 ge409_0)
            clear hva_ hvn_ hvc_ ge409_0 ul409_0
            clear hcc409 hce409
            have HR409_0 := Aside0.mk hi409_0
            have HC409_0 := Aside0.mk hl409_0
            clear hi409_0 hl409_0
            replace p409 := eq_true p409
            replace q409 := eq_true q409
            obtain ⟨Ao42, co42, eo42⟩ := Kd.R_slice HO_8.out
            subst eo42
            go_wp2_with (first | (go_at_call 56; (with_reducible refine (spec_l1Compare.calls kj24 _ _ (rd_L2 x6_1 x9_24) _ _ x8_15 t410 _ ?side1 ?side2 ?side3 ?side4 A40.out).mono ?_); (case side1 => repeat (first | exact (cr HR409_0.out) | (with_reducible refine Kd.C_alloc ?_ _) | (with_reducible refine Kd.C_drewN ?_ _) | (with_reducible refine Kd.C_drew ?_))); (case side2 => exact HC409_0.out); (case side3 => repeat (first | exact (Kd.R_reads' HO_8.out).2.2 | (with_reducible refine Kd.C_alloc ?_ _) | (with_reducible refine Kd.C_drewN ?_ _) | (with_reducible refine Kd.C_drew ?_))); (case side4 => exact (Kd.R_reads' HO_8.out).2.1); rintro e w43 ⟨rfl, hb⟩; replace HO_5 := Aside0.mk (Kd.R_below (rR HO_5.out) hb); replace HO_6 := Aside0.mk (Kd.N_below (rN HO_6.out) hb); replace HO_8 := Aside0.mk (Kd.R_below (rR HO_8.out) hb); replace HL409_0 := Aside0.mk (Kd.V_below (rV HL409_0.out) hb); have n4_ := Aside0.mk (IsS64.below (is64 HI0.out) hb); replace HR409_0 := Aside0.mk (Kd.C_below (cr HR409_0.out) hb); replace HK := Aside0.mk (KeepBut.trans (kb HK.out) (KeepBut.of_below hb g none) (.inl rfl)); replace HB := Aside0.mk (below_step (bi64 HB.out HI0.out) hb); replace HI0 := n4_; clear n4_; (try clear hb); (try clear hb2); (try clear hk); (try clear hi)))
            go_meet
            case rel => exact ⟨_, ((t410 == 0)), (by first | rfl | (simp; done) | (simp [*]; done)), H', ⟨by have := HK1.out; have := HJ15.out; have := HJ24.out; first | omega | exact Nat.le_refl _⟩, ⟨rR HO_5.out⟩, ⟨rN HO_6.out⟩, ⟨rR HO_8.out⟩, ⟨is64 HI0.out⟩, ⟨kb HK.out⟩, ⟨bi64 HB.out HI0.out⟩⟩
           ·rw [if_neg c39] at H
            exact absurd H (by simp)
          ·rw [if_neg c38] at H
           have c38b0 : decide (x9_24 < (x6_1.length : Int)) = false := decide_eq_false c38
           clear c38
           (first | rw [c38b0] | (simp only [i64_w, i32_w]; rw [c38b0]) | skip)
           have H' := Aside0.mk H
           clear H
           obtain ⟨Ao44, co44, eo44⟩ := Kd.N_slice HO_6.out
           subst eo44
           go_wp2
           go_meet
           case rel => exact ⟨_, (false), (by first | rfl | (simp; done) | (simp [*]; done)), H', ⟨by have := HK1.out; have := HJ15.out; have := HJ24.out; first | omega | exact Nat.le_refl _⟩, ⟨rR HO_5.out⟩, ⟨rN HO_6.out⟩, ⟨rR HO_8.out⟩, ⟨is64 HI0.out⟩, ⟨kb HK.out⟩, ⟨bi64 HB.out HI0.out⟩⟩
         case rest =>
          clear HC37
          try clear c1
          try clear c2
          try clear p2
          try clear c3
          try clear c3b0
          try clear c3b1
          try clear c4
          try clear p4
          try clear q4
          try clear hx4
          try clear c5
          try clear p6
          try clear c7
          try clear c14
          try clear c14b0
          try clear c20
          try clear c20b0
          try clear c26
          try clear c26b0
          try clear c27
          try clear c27b0
          try clear c29
          try clear c29b0
          try clear c38
          try clear c38b0
          try clear c39
          try clear c39b0
          try clear c40
          try clear p40
          try clear q40
          try clear hx40
          try clear hx407_0
          try clear hx409_0
          try clear p2
          try clear p4
          try clear p407
          try clear p409
          try clear p6
          try clear q4
          try clear q407
          try clear q409
          obtain ⟨kq, x59_36, rfl, HA, HJ36, HO_5, HO_6, HO_8, HI0, HK, HB⟩ := hcut
          cases kq with
          | zero => exact absurd HA.out (by simp [spec_l20Raw.j4])
          | succ kj36 =>
           have H := HA.out
           clear HA
           simp only [spec_l20Raw.j4] at H
           by_cases c45 : x59_36 = true
           ·subst c45
            have H1 : (if 0 ≤ x9_24 then (if x9_24 < (x5_1.length : Int) then (spec_l20Raw.l0 kj36 a1 (x5_1.set (x9_24 : Int).toNat (wrap64 ((rd x5_1 x9_24) + 1))) x6_1 (wrap64 (x7_1 - 1)) s0_0 x1001_15) else (none)) else (none)) = some (r1, r2) := by rw [if_pos rfl] at H; exact H
            clear H
            have H := H1
            clear H1
            by_cases c46 : 0 ≤ x9_24
            ·rw [if_pos c46] at H
             have c46b0 : decide (0 ≤ x9_24) = true := decide_eq_true c46
             clear c46
             by_cases c47 : x9_24 < (x5_1.length : Int)
             ·rw [if_pos c47] at H
              have c47b0 : decide (x9_24 < (x5_1.length : Int)) = true := decide_eq_true c47
              clear c47
              obtain ⟨y412, hy412⟩ : ∃ y_ : List Int, y_ = (x5_1.set (x9_24 : Int).toNat (wrap64 ((rd x5_1 x9_24) + 1))) := ⟨_, rfl⟩
              replace H : (spec_l20Raw.l0 kj36 a1 y412 x6_1 (wrap64 (x7_1 - 1)) s0_0 x1001_15) = some (r1, r2) := by first | (rw [hy412]; with_reducible exact H) | (have H2_ := (Option.bind_some _ _).symm.trans H; rw [hy412]; with_reducible exact H2_) | (have H2_ := (Option.bind_some _ _).symm.trans H; with_reducible exact H2_) | with_reducible exact H | (rw [hy412]; exact H) | exact H
              have Ny412 := Aside0.mk hy412
              clear hy412
              have H' := Aside0.mk H
              clear H
              obtain ⟨Ao49, co49, eo49⟩ := Kd.R_slice HO_5.out
              subst eo49
              have p411 : 0 ≤ (x9_24 : Int) := of_decide_eq_true (by first | (with_reducible assumption) | assumption)
              have q411 : x9_24 < (x5_1.length : Int) := of_decide_eq_true (by first | (with_reducible assumption) | assumption)
              obtain ⟨ad411, e411, hx411_0⟩ := Kd.at_int (Kd.R_reads' HO_5.out).2.2 x9_24 p411 q411
              cases e411
              replace p411 := eq_true p411
              replace q411 := eq_true q411
              have p48 : 0 ≤ (x9_24 : Int) := of_decide_eq_true (by first | (with_reducible assumption) | assumption)
              have q48 : (x9_24 : Int) < ((x5_1.length : Int) : Int) := of_decide_eq_true (by first | (with_reducible assumption) | assumption)
              obtain ⟨go48, co48, eo48, gb48, gl48, cl48, HG48⟩ := Kd.R_form HO_5.out (by omega)
              (first | cases eo48 | (injection eo48 with ea_ en_ ec_; (first | subst ea_ | (injection ea_ with ea_; subst ea_)); subst ec_; clear en_))
              have GB48 := Aside0.mk gb48
              have GG48 := Aside0.mk HG48
              clear gb48 gl48 HG48
              (first | simp only [add_plain] at hx411_0 | skip)
              obtain ⟨hx48_0, hf48_0⟩ := Kd.R_celln 0 HO_5.out (x9_24 : Int) p48 q48
              replace p48 := eq_true p48
              replace q48 := eq_true q48
              have HP50 := Kd.R_putg HO_5.out (x9_24 : Int) (wrap64 ((rd x5_1 x9_24) + 1))
              go_wp2_with (first | ((with_reducible refine gate_store (t := 3) (p := 67) rfl ?_); refine store_event (t := 3) (p := 67) (v := ?vo_w51) (w1 := (wc.setCell ⟨go48, (x9_24 : Int).toNat, none⟩ (.int .i64 (wrap64 ((rd x5_1 x9_24) + 1))))) ?hg ?ho ?hn ?hr ?_; (case ho => rfl); (case hg => rfl); (case hn => rfl); (case hr => first | (go_simp; done) | (go_simp; rfl)); intro w51 hw; have hg : wc.grownBy w51 (some go48) := (by rw [hw]; exact HP50.2); have hp_ : Kd.R (Kd.int .i64) 3 w51 w.heap.size (fun k_ => some k_ ≠ (u8 : Value).ownBlock) (.slice (some ⟨go48, 0, none⟩) x5_1.length co49) y412 := (by rw [hw, Ny412.out]; exact HP50.1); clear HP50; have n0_ := Aside0.mk (hp_); replace HO_6 := Aside0.mk (Kd.N_afterv (v := (.slice (some ⟨go48, 0, none⟩) x5_1.length co49)) (v1 := (.slice (some ⟨go48, 0, none⟩) x5_1.length co49)) (ok := (fun k_ => some k_ ≠ (u8 : Value).ownBlock ∧ k_ ≠ g)) (by (with_reducible repeat (first | apply Kd.N_alloc | apply Kd.N_drewN | apply Kd.N_drew)); exact Kd.N_mono HO_6.out (fun _ hk => ⟨⟨hk.2.1, hk.2.2⟩, hk.1⟩)) hg (.inl rfl)); replace HO_8 := Aside0.mk (Kd.R_after (v := (.slice (some ⟨go48, 0, none⟩) x5_1.length co49)) (v1 := (.slice (some ⟨go48, 0, none⟩) x5_1.length co49)) (ok := (fun _ => True)) (by (with_reducible repeat (first | apply Kd.R_alloc | apply Kd.R_drewN | apply Kd.R_drew)); exact Kd.R_mono HO_8.out (fun _ hk => ⟨trivial, hk⟩)) hg (.inl rfl)); replace HI0 := Aside0.mk (IsS64.grown (is64 HI0.out) hg (IsS64.own_ne HI0.out HO_5.out (by decide))); replace HB := Aside0.mk ((by rw [hw]; exact below_set (HB.out) (Nat.le_trans HL.out GB48.out) : Below w0.heap.size w0 w51)); replace HK := Aside0.mk (KeepBut.trans (kb HK.out) (KeepBut.of_grown hg g) (Kd.R_base2 HO_5.out)); replace HO_5 := n0_; clear n0_; clear hg hw hp_))
              go_roundg kj36
              case measure => have := HK1.out; have := HJ15.out; have := HJ24.out; have := HJ36.out; omega
              case rel => exact ⟨(y412), (x6_1), (wrap64 (x7_1 - 1)), (x1001_15), (by first | rfl | (simp; done) | (simp [*]; done)), H', ⟨by have := HK1.out; have := HJ15.out; have := HJ24.out; have := HJ36.out; omega⟩, ⟨by (with_reducible repeat (first | apply Kd.R_alloc | apply Kd.R_drewN | apply Kd.R_drew)); exact Kd.R_mono HO_5.out (fun _ hk => trivial)⟩, ⟨by (with_reducible repeat (first | apply Kd.N_alloc | apply Kd.N_drewN | apply Kd.N_drew)); exact Kd.N_mono HO_6.out (fun _ hk => ⟨hk.2, hk.1.2⟩)⟩, ⟨is64 HI0.out⟩, ⟨kb HK.out⟩, ⟨bi64 HB.out HI0.out⟩⟩
             ·rw [if_neg c47] at H
              exact absurd H (by simp)
            ·rw [if_neg c46] at H
             exact absurd H (by simp)
           ·replace c45 := Bool.eq_false_iff.mpr c45
            subst c45
            have H1 : ((some (([] : List Int) : List Int)).bind fun y413 => (if 0 ≤ x9_24 then (if x9_24 ≤ (x5_1.length : Int) then ((some (x5_1.take (x9_24 : Int).toNat : List Int)).bind fun y416 => (if y413.length + y416.length < 17592186044416 then ((some (y413 ++ y416 : List Int)).bind fun y421 => ((spec_l20Rd_pick.f kj36 s0_0 x1001_15 3).bind fun bt424 => ((spec_l20Rd_pick.f kj36 s0_0 bt424.2 60).bind fun bt426 => ((some (([wrap64 ((wrap64 (1 + bt424.1)) + (wrap64 ((wrap64 (Int.tdiv bt426.1 59)) * 60)))] : List Int) : List Int)).bind fun y428 => (if y421.length + y428.length < 17592186044416 then ((some (y421 ++ y428 : List Int)).bind fun y431 => ((some (x5_1.drop (x9_24 : Int).toNat : List Int)).bind fun y434 => (if y431.length + y434.length < 17592186044416 then ((some (([] : List (List Int)) : List (List Int))).bind fun y442 => (if x9_24 ≤ (x6_1.length : Int) then ((some (x6_1.take (x9_24 : Int).toNat : List (List Int))).bind fun y445 => (if y442.length + y445.length < 5864062014805 then ((some (y442 ++ y445 : List (List Int))).bind fun y450 => ((some (([x8_15] : List (List Int)) : List (List Int))).bind fun y453 => (if y450.length + y453.length < 5864062014805 then ((some (y450 ++ y453 : List (List Int))).bind fun y456 => ((some (x6_1.drop (x9_24 : Int).toNat : List (List Int))).bind fun y459 => (if y456.length + y459.length < 5864062014805 then (spec_l20Raw.l0 kj36 a1 (y431 ++ y434) (y456 ++ y459) (wrap64 (x7_1 - 1)) s0_0 bt426.2) else (none)))) else (none)))) else (none))) else (none))) else (none)))) else (none)))))) else (none))) else (none)) else (none))) = some (r1, r2) := by rw [if_neg (show ¬ (false = true) by decide)] at H; exact H
            clear H
            have H := H1
            clear H1
            obtain ⟨y413, hy413⟩ : ∃ y_ : List Int, y_ = (([] : List Int)) := ⟨_, rfl⟩
            replace H : (if 0 ≤ x9_24 then (if x9_24 ≤ (x5_1.length : Int) then ((some (x5_1.take (x9_24 : Int).toNat : List Int)).bind fun y416 => (if y413.length + y416.length < 17592186044416 then ((some (y413 ++ y416 : List Int)).bind fun y421 => ((spec_l20Rd_pick.f kj36 s0_0 x1001_15 3).bind fun bt424 => ((spec_l20Rd_pick.f kj36 s0_0 bt424.2 60).bind fun bt426 => ((some (([wrap64 ((wrap64 (1 + bt424.1)) + (wrap64 ((wrap64 (Int.tdiv bt426.1 59)) * 60)))] : List Int) : List Int)).bind fun y428 => (if y421.length + y428.length < 17592186044416 then ((some (y421 ++ y428 : List Int)).bind fun y431 => ((some (x5_1.drop (x9_24 : Int).toNat : List Int)).bind fun y434 => (if y431.length + y434.length < 17592186044416 then ((some (([] : List (List Int)) : List (List Int))).bind fun y442 => (if x9_24 ≤ (x6_1.length : Int) then ((some (x6_1.take (x9_24 : Int).toNat : List (List Int))).bind fun y445 => (if y442.length + y445.length < 5864062014805 then ((some (y442 ++ y445 : List (List Int))).bind fun y450 => ((some (([x8_15] : List (List Int)) : List (List Int))).bind fun y453 => (if y450.length + y453.length < 5864062014805 then ((some (y450 ++ y453 : List (List Int))).bind fun y456 => ((some (x6_1.drop (x9_24 : Int).toNat : List (List Int))).bind fun y459 => (if y456.length + y459.length < 5864062014805 then (spec_l20Raw.l0 kj36 a1 (y431 ++ y434) (y456 ++ y459) (wrap64 (x7_1 - 1)) s0_0 bt426.2) else (none)))) else (none)))) else (none))) else (none))) else (none)))) else (none)))))) else (none))) else (none)) else (none)) = some (r1, r2) := by first | (rw [hy413]; with_reducible exact H) | (have H2_ := (Option.bind_some _ _).symm.trans H; rw [hy413]; with_reducible exact H2_) | (have H2_ := (Option.bind_some _ _).symm.trans H; with_reducible exact H2_) | with_reducible exact H | (rw [hy413]; exact H) | exact H
            have Ny413 := Aside0.mk hy413
            clear hy413
            by_cases c52 : 0 ≤ x9_24
            ·rw [if_pos c52] at H
             have c52b0 := eq_true c52
             have c52b1 : decide (0 ≤ x9_24) = true := decide_eq_true c52
             clear c52
             by_cases c53 : x9_24 ≤ (x5_1.length : Int)
             ·rw [if_pos c53] at H
              have c53b0 := eq_true c53
              have c53b1 : decide (x9_24 ≤ (x5_1.length : Int)) = true := decide_eq_true c53
              clear c53
              obtain ⟨y416, hy416⟩ : ∃ y_ : List Int, y_ = (x5_1.take (x9_24 : Int).toNat) := ⟨_, rfl⟩
              replace H : (if y413.length + y416.length < 17592186044416 then ((some (y413 ++ y416 : List Int)).bind fun y421 => ((spec_l20Rd_pick.f kj36 s0_0 x1001_15 3).bind fun bt424 => ((spec_l20Rd_pick.f kj36 s0_0 bt424.2 60).bind fun bt426 => ((some (([wrap64 ((wrap64 (1 + bt424.1)) + (wrap64 ((wrap64 (Int.tdiv bt426.1 59)) * 60)))] : List Int) : List Int)).bind fun y428 => (if y421.length + y428.length < 17592186044416 then ((some (y421 ++ y428 : List Int)).bind fun y431 => ((some (x5_1.drop (x9_24 : Int).toNat : List Int)).bind fun y434 => (if y431.length + y434.length < 17592186044416 then ((some (([] : List (List Int)) : List (List Int))).bind fun y442 => (if x9_24 ≤ (x6_1.length : Int) then ((some (x6_1.take (x9_24 : Int).toNat : List (List Int))).bind fun y445 => (if y442.length + y445.length < 5864062014805 then ((some (y442 ++ y445 : List (List Int))).bind fun y450 => ((some (([x8_15] : List (List Int)) : List (List Int))).bind fun y453 => (if y450.length + y453.length < 5864062014805 then ((some (y450 ++ y453 : List (List Int))).bind fun y456 => ((some (x6_1.drop (x9_24 : Int).toNat : List (List Int))).bind fun y459 => (if y456.length + y459.length < 5864062014805 then (spec_l20Raw.l0 kj36 a1 (y431 ++ y434) (y456 ++ y459) (wrap64 (x7_1 - 1)) s0_0 bt426.2) else (none)))) else (none)))) else (none))) else (none))) else (none)))) else (none)))))) else (none)) = some (r1, r2) := by first | (rw [hy416]; with_reducible exact H) | (have H2_ := (Option.bind_some _ _).symm.trans H; rw [hy416]; with_reducible exact H2_) | (have H2_ := (Option.bind_some _ _).symm.trans H; with_reducible exact H2_) | with_reducible exact H | (rw [hy416]; exact H) | exact H
              have Ny416 := Aside0.mk hy416
              clear hy416
              by_cases c54 : y413.length + y416.length < 17592186044416
              ·rw [if_pos c54] at H
               have LMc54 := Aside0.mk c54
               clear c54
               obtain ⟨y421, hy421⟩ : ∃ y_ : List Int, y_ = (y413 ++ y416) := ⟨_, rfl⟩
               replace H : ((spec_l20Rd_pick.f kj36 s0_0 x1001_15 3).bind fun bt424 => ((spec_l20Rd_pick.f kj36 s0_0 bt424.2 60).bind fun bt426 => ((some (([wrap64 ((wrap64 (1 + bt424.1)) + (wrap64 ((wrap64 (Int.tdiv bt426.1 59)) * 60)))] : List Int) : List Int)).bind fun y428 => (if y421.length + y428.length < 17592186044416 then ((some (y421 ++ y428 : List Int)).bind fun y431 => ((some (x5_1.drop (x9_24 : Int).toNat : List Int)).bind fun y434 => (if y431.length + y434.length < 17592186044416 then ((some (([] : List (List Int)) : List (List Int))).bind fun y442 => (if x9_24 ≤ (x6_1.length : Int) then ((some (x6_1.take (x9_24 : Int).toNat : List (List Int))).bind fun y445 => (if y442.length + y445.length < 5864062014805 then ((some (y442 ++ y445 : List (List Int))).bind fun y450 => ((some (([x8_15] : List (List Int)) : List (List Int))).bind fun y453 => (if y450.length + y453.length < 5864062014805 then ((some (y450 ++ y453 : List (List Int))).bind fun y456 => ((some (x6_1.drop (x9_24 : Int).toNat : List (List Int))).bind fun y459 => (if y456.length + y459.length < 5864062014805 then (spec_l20Raw.l0 kj36 a1 (y431 ++ y434) (y456 ++ y459) (wrap64 (x7_1 - 1)) s0_0 bt426.2) else (none)))) else (none)))) else (none))) else (none))) else (none)))) else (none))))) = some (r1, r2) := by first | (rw [hy421]; with_reducible exact H) | (have H2_ := (Option.bind_some _ _).symm.trans H; rw [hy421]; with_reducible exact H2_) | (have H2_ := (Option.bind_some _ _).symm.trans H; with_reducible exact H2_) | with_reducible exact H | (rw [hy421]; exact H) | exact H
               have Ny421 := Aside0.mk hy421
               clear hy421
               replace H := Option.bind_eq_some_iff.mp H
               obtain ⟨⟨t424, t425⟩, A550, H⟩ := H
               replace H : ((spec_l20Rd_pick.f kj36 s0_0 t425 60).bind fun bt426 => ((some (([wrap64 ((wrap64 (1 + t424)) + (wrap64 ((wrap64 (Int.tdiv bt426.1 59)) * 60)))] : List Int) : List Int)).bind fun y428 => (if y421.length + y428.length < 17592186044416 then ((some (y421 ++ y428 : List Int)).bind fun y431 => ((some (x5_1.drop (x9_24 : Int).toNat : List Int)).bind fun y434 => (if y431.length + y434.length < 17592186044416 then ((some (([] : List (List Int)) : List (List Int))).bind fun y442 => (if x9_24 ≤ (x6_1.length : Int) then ((some (x6_1.take (x9_24 : Int).toNat : List (List Int))).bind fun y445 => (if y442.length + y445.length < 5864062014805 then ((some (y442 ++ y445 : List (List Int))).bind fun y450 => ((some (([x8_15] : List (List Int)) : List (List Int))).bind fun y453 => (if y450.length + y453.length < 5864062014805 then ((some (y450 ++ y453 : List (List Int))).bind fun y456 => ((some (x6_1.drop (x9_24 : Int).toNat : List (List Int))).bind fun y459 => (if y456.length + y459.length < 5864062014805 then (spec_l20Raw.l0 kj36 a1 (y431 ++ y434) (y456 ++ y459) (wrap64 (x7_1 - 1)) s0_0 bt426.2) else (none)))) else (none)))) else (none))) else (none))) else (none)))) else (none)))) = some (r1, r2) := H
               have A55 := Aside0.mk A550
               clear A550
               replace H := Option.bind_eq_some_iff.mp H
               obtain ⟨⟨t426, t427⟩, A560, H⟩ := H
               replace H : ((some (([wrap64 ((wrap64 (1 + t424)) + (wrap64 ((wrap64 (Int.tdiv t426 59)) * 60)))] : List Int) : List Int)).bind fun y428 => (if y421.length + y428.length < 17592186044416 then ((some (y421 ++ y428 : List Int)).bind fun y431 => ((some (x5_1.drop (x9_24 : Int).toNat : List Int)).bind fun y434 => (if y431.length + y434.length < 17592186044416 then ((some (([] : List (List Int)) : List (List Int))).bind fun y442 => (if x9_24 ≤ (x6_1.length : Int) then ((some (x6_1.take (x9_24 : Int).toNat : List (List Int))).bind fun y445 => (if y442.length + y445.length < 5864062014805 then ((some (y442 ++ y445 : List (List Int))).bind fun y450 => ((some (([x8_15] : List (List Int)) : List (List Int))).bind fun y453 => (if y450.length + y453.length < 5864062014805 then ((some (y450 ++ y453 : List (List Int))).bind fun y456 => ((some (x6_1.drop (x9_24 : Int).toNat : List (List Int))).bind fun y459 => (if y456.length + y459.length < 5864062014805 then (spec_l20Raw.l0 kj36 a1 (y431 ++ y434) (y456 ++ y459) (wrap64 (x7_1 - 1)) s0_0 t427) else (none)))) else (none)))) else (none))) else (none))) else (none)))) else (none))) = some (r1, r2) := H
               have A56 := Aside0.mk A560
               clear A560
               obtain ⟨y428, hy428⟩ : ∃ y_ : List Int, y_ = (([wrap64 ((wrap64 (1 + t424)) + (wrap64 ((wrap64 (Int.tdiv t426 59)) * 60)))] : List Int)) := ⟨_, rfl⟩
               replace H : (if y421.length + y428.length < 17592186044416 then ((some (y421 ++ y428 : List Int)).bind fun y431 => ((some (x5_1.drop (x9_24 : Int).toNat : List Int)).bind fun y434 => (if y431.length + y434.length < 17592186044416 then ((some (([] : List (List Int)) : List (List Int))).bind fun y442 => (if x9_24 ≤ (x6_1.length : Int) then ((some (x6_1.take (x9_24 : Int).toNat : List (List Int))).bind fun y445 => (if y442.length + y445.length < 5864062014805 then ((some (y442 ++ y445 : List (List Int))).bind fun y450 => ((some (([x8_15] : List (List Int)) : List (List Int))).bind fun y453 => (if y450.length + y453.length < 5864062014805 then ((some (y450 ++ y453 : List (List Int))).bind fun y456 => ((some (x6_1.drop (x9_24 : Int).toNat : List (List Int))).bind fun y459 => (if y456.length + y459.length < 5864062014805 then (spec_l20Raw.l0 kj36 a1 (y431 ++ y434) (y456 ++ y459) (wrap64 (x7_1 - 1)) s0_0 t427) else (none)))) else (none)))) else (none))) else (none))) else (none)))) else (none)) = some (r1, r2) := by first | (rw [hy428]; with_reducible exact H) | (have H2_ := (Option.bind_some _ _).symm.trans H; rw [hy428]; with_reducible exact H2_) | (have H2_ := (Option.bind_some _ _).symm.trans H; with_reducible exact H2_) | with_reducible exact H | (rw [hy428]; exact H) | exact H
               have Ny428 := Aside0.mk hy428
               clear hy428
               by_cases c57 : y421.length + y428.length < 17592186044416
               ·rw [if_pos c57] at H
                have LMc57 := Aside0.mk c57
                clear c57
                obtain ⟨y431, hy431⟩ : ∃ y_ : List Int, y_ = (y421 ++ y428) := ⟨_, rfl⟩
                replace H : ((some (x5_1.drop (x9_24 : Int).toNat : List Int)).bind fun y434 => (if y431.length + y434.length < 17592186044416 then ((some (([] : List (List Int)) : List (List Int))).bind fun y442 => (if x9_24 ≤ (x6_1.length : Int) then ((some (x6_1.take (x9_24 : Int).toNat : List (List Int))).bind fun y445 => (if y442.length + y445.length < 5864062014805 then ((some (y442 ++ y445 : List (List Int))).bind fun y450 => ((some (([x8_15] : List (List Int)) : List (List Int))).bind fun y453 => (if y450.length + y453.length < 5864062014805 then ((some (y450 ++ y453 : List (List Int))).bind fun y456 => ((some (x6_1.drop (x9_24 : Int).toNat : List (List Int))).bind fun y459 => (if y456.length + y459.length < 5864062014805 then (spec_l20Raw.l0 kj36 a1 (y431 ++ y434) (y456 ++ y459) (wrap64 (x7_1 - 1)) s0_0 t427) else (none)))) else (none)))) else (none))) else (none))) else (none))) = some (r1, r2) := by first | (rw [hy431]; with_reducible exact H) | (have H2_ := (Option.bind_some _ _).symm.trans H; rw [hy431]; with_reducible exact H2_) | (have H2_ := (Option.bind_some _ _).symm.trans H; with_reducible exact H2_) | with_reducible exact H | (rw [hy431]; exact H) | exact H
                have Ny431 := Aside0.mk hy431
                clear hy431
                have c58b0 := eq_true (of_decide_eq_true (by first | (with_reducible assumption) | assumption) : 0 ≤ x9_24)
                have c59b0 := eq_true (of_decide_eq_true (by first | (with_reducible assumption) | assumption) : x9_24 ≤ (x5_1.length : Int))
                obtain ⟨y434, hy434⟩ : ∃ y_ : List Int, y_ = (x5_1.drop (x9_24 : Int).toNat) := ⟨_, rfl⟩
                replace H : (if y431.length + y434.length < 17592186044416 then ((some (([] : List (List Int)) : List (List Int))).bind fun y442 => (if x9_24 ≤ (x6_1.length : Int) then ((some (x6_1.take (x9_24 : Int).toNat : List (List Int))).bind fun y445 => (if y442.length + y445.length < 5864062014805 then ((some (y442 ++ y445 : List (List Int))).bind fun y450 => ((some (([x8_15] : List (List Int)) : List (List Int))).bind fun y453 => (if y450.length + y453.length < 5864062014805 then ((some (y450 ++ y453 : List (List Int))).bind fun y456 => ((some (x6_1.drop (x9_24 : Int).toNat : List (List Int))).bind fun y459 => (if y456.length + y459.length < 5864062014805 then (spec_l20Raw.l0 kj36 a1 (y431 ++ y434) (y456 ++ y459) (wrap64 (x7_1 - 1)) s0_0 t427) else (none)))) else (none)))) else (none))) else (none))) else (none)) = some (r1, r2) := by first | (rw [hy434]; with_reducible exact H) | (have H2_ := (Option.bind_some _ _).symm.trans H; rw [hy434]; with_reducible exact H2_) | (have H2_ := (Option.bind_some _ _).symm.trans H; with_reducible exact H2_) | with_reducible exact H | (rw [hy434]; exact H) | exact H
                have Ny434 := Aside0.mk hy434
                clear hy434
                by_cases c60 : y431.length + y434.length < 17592186044416
                ·rw [if_pos c60] at H
                 have LMc60 := Aside0.mk c60
                 clear c60
                 obtain ⟨y439, hy439⟩ : ∃ y_ : List Int, y_ = (y431 ++ y434) := ⟨_, rfl⟩
                 replace H : ((some (([] : List (List Int)) : List (List Int))).bind fun y442 => (if x9_24 ≤ (x6_1.length : Int) then ((some (x6_1.take (x9_24 : Int).toNat : List (List Int))).bind fun y445 => (if y442.length + y445.length < 5864062014805 then ((some (y442 ++ y445 : List (List Int))).bind fun y450 => ((some (([x8_15] : List (List Int)) : List (List Int))).bind fun y453 => (if y450.length + y453.length < 5864062014805 then ((some (y450 ++ y453 : List (List Int))).bind fun y456 => ((some (x6_1.drop (x9_24 : Int).toNat : List (List Int))).bind fun y459 => (if y456.length + y459.length < 5864062014805 then (spec_l20Raw.l0 kj36 a1 y439 (y456 ++ y459) (wrap64 (x7_1 - 1)) s0_0 t427) else (none)))) else (none)))) else (none))) else (none))) = some (r1, r2) := by first | (rw [hy439]; with_reducible exact H) | (have H2_ := (Option.bind_some _ _).symm.trans H; rw [hy439]; with_reducible exact H2_) | (have H2_ := (Option.bind_some _ _).symm.trans H; with_reducible exact H2_) | with_reducible exact H | (rw [hy439]; exact H) | exact H
                 have Ny439 := Aside0.mk hy439
                 clear hy439
                 obtain ⟨y442, hy442⟩ : ∃ y_ : List (List Int), y_ = (([] : List (List Int))) := ⟨_, rfl⟩
                 replace H : (if x9_24 ≤ (x6_1.length : Int) then ((some (x6_1.take (x9_24 : Int).toNat : List (List Int))).bind fun y445 => (if y442.length + y445.length < 5864062014805 then ((some (y442 ++ y445 : List (List Int))).bind fun y450 => ((some (([x8_15] : List (List Int)) : List (List Int))).bind fun y453 => (if y450.length + y453.length < 5864062014805 then ((some (y450 ++ y453 : List (List Int))).bind fun y456 => ((some (x6_1.drop (x9_24 : Int).toNat : List (List Int))).bind fun y459 => (if y456.length + y459.length < 5864062014805 then (spec_l20Raw.l0 kj36 a1 y439 (y456 ++ y459) (wrap64 (x7_1 - 1)) s0_0 t427) else (none)))) else (none)))) else (none))) else (none)) = some (r1, r2) := by first | (rw [hy442]; with_reducible exact H) | (have H2_ := (Option.bind_some _ _).symm.trans H; rw [hy442]; with_reducible exact H2_) | (have H2_ := (Option.bind_some _ _).symm.trans H; with_reducible exact H2_) | with_reducible exact H | (rw [hy442]; exact H) | exact H
                 have Ny442 := Aside0.mk hy442
                 clear hy442
                 have c61b0 := eq_true (of_decide_eq_true (by first | (with_reducible assumption) | assumption) : 0 ≤ x9_24)
                 by_cases c62 : x9_24 ≤ (x6_1.length : Int)
                 ·rw [if_pos c62] at H
                  have c62b0 := eq_true c62
                  have c62b1 : decide (x9_24 ≤ (x6_1.length : Int)) = true := decide_eq_true c62
                  clear c62
                  obtain ⟨y445, hy445⟩ : ∃ y_ : List (List Int), y_ = (x6_1.take (x9_24 : Int).toNat) := ⟨_, rfl⟩
                  replace H : (if y442.length + y445.length < 5864062014805 then ((some (y442 ++ y445 : List (List Int))).bind fun y450 => ((some (([x8_15] : List (List Int)) : List (List Int))).bind fun y453 => (if y450.length + y453.length < 5864062014805 then ((some (y450 ++ y453 : List (List Int))).bind fun y456 => ((some (x6_1.drop (x9_24 : Int).toNat : List (List Int))).bind fun y459 => (if y456.length + y459.length < 5864062014805 then (spec_l20Raw.l0 kj36 a1 y439 (y456 ++ y459) (wrap64 (x7_1 - 1)) s0_0 t427) else (none)))) else (none)))) else (none)) = some (r1, r2) := by first | (rw [hy445]; with_reducible exact H) | (have H2_ := (Option.bind_some _ _).symm.trans H; rw [hy445]; with_reducible exact H2_) | (have H2_ := (Option.bind_some _ _).symm.trans H; with_reducible exact H2_) | with_reducible exact H | (rw [hy445]; exact H) | exact H
                  have Ny445 := Aside0.mk hy445
                  clear hy445
                  by_cases c63 : y442.length + y445.length < 5864062014805
                  ·rw [if_pos c63] at H
                   have LMc63 := Aside0.mk c63
                   clear c63
                   obtain ⟨y450, hy450⟩ : ∃ y_ : List (List Int), y_ = (y442 ++ y445) := ⟨_, rfl⟩
                   replace H : ((some (([x8_15] : List (List Int)) : List (List Int))).bind fun y453 => (if y450.length + y453.length < 5864062014805 then ((some (y450 ++ y453 : List (List Int))).bind fun y456 => ((some (x6_1.drop (x9_24 : Int).toNat : List (List Int))).bind fun y459 => (if y456.length + y459.length < 5864062014805 then (spec_l20Raw.l0 kj36 a1 y439 (y456 ++ y459) (wrap64 (x7_1 - 1)) s0_0 t427) else (none)))) else (none))) = some (r1, r2) := by first | (rw [hy450]; with_reducible exact H) | (have H2_ := (Option.bind_some _ _).symm.trans H; rw [hy450]; with_reducible exact H2_) | (have H2_ := (Option.bind_some _ _).symm.trans H; with_reducible exact H2_) | with_reducible exact H | (rw [hy450]; exact H) | exact H
                   have Ny450 := Aside0.mk hy450
                   clear hy450
                   obtain ⟨y453, hy453⟩ : ∃ y_ : List (List Int), y_ = (([x8_15] : List (List Int))) := ⟨_, rfl⟩
                   replace H : (if y450.length + y453.length < 5864062014805 then ((some (y450 ++ y453 : List (List Int))).bind fun y456 => ((some (x6_1.drop (x9_24 : Int).toNat : List (List Int))).bind fun y459 => (if y456.length + y459.length < 5864062014805 then (spec_l20Raw.l0 kj36 a1 y439 (y456 ++ y459) (wrap64 (x7_1 - 1)) s0_0 t427) else (none)))) else (none)) = some (r1, r2) := by first | (rw [hy453]; with_reducible exact H) | (have H2_ := (Option.bind_some _ _).symm.trans H; rw [hy453]; with_reducible exact H2_) | (have H2_ := (Option.bind_some _ _).symm.trans H; with_reducible exact H2_) | with_reducible exact H | (rw [hy453]; exact H) | exact H
                   have Ny453 := Aside0.mk hy453
                   clear hy453
                   by_cases c64 : y450.length + y453.length < 5864062014805
                   ·rw [if_pos c64] at H
                    have LMc64 := Aside0.mk c64
                    clear c64
                    obtain ⟨y456, hy456⟩ : ∃ y_ : List (List Int), y_ = (y450 ++ y453) := ⟨_, rfl⟩
                    replace H : ((some (x6_1.drop (x9_24 : Int).toNat : List (List Int))).bind fun y459 => (if y456.length + y459.length < 5864062014805 then (spec_l20Raw.l0 kj36 a1 y439 (y456 ++ y459) (wrap64 (x7_1 - 1)) s0_0 t427) else (none))) = some (r1, r2) := by first | (rw [hy456]; with_reducible exact H) | (have H2_ := (Option.bind_some _ _).symm.trans H; rw [hy456]; with_reducible exact H2_) | (have H2_ := (Option.bind_some _ _).symm.trans H; with_reducible exact H2_) | with_reducible exact H | (rw [hy456]; exact H) | exact H
                    have Ny456 := Aside0.mk hy456
                    clear hy456
                    have c65b0 := eq_true (of_decide_eq_true (by first | (with_reducible assumption) | assumption) : 0 ≤ x9_24)
                    have c66b0 := eq_true (of_decide_eq_true (by first | (with_reducible assumption) | assumption) : x9_24 ≤ (x6_1.length : Int))
                    obtain ⟨y459, hy459⟩ : ∃ y_ : List (List Int), y_ = (x6_1.drop (x9_24 : Int).toNat) := ⟨_, rfl⟩
                    replace H : (if y456.length + y459.length < 5864062014805 then (spec_l20Raw.l0 kj36 a1 y439 (y456 ++ y459) (wrap64 (x7_1 - 1)) s0_0 t427) else (none)) = some (r1, r2) := by first | (rw [hy459]; with_reducible exact H) | (have H2_ := (Option.bind_some _ _).symm.trans H; rw [hy459]; with_reducible exact H2_) | (have H2_ := (Option.bind_some _ _).symm.trans H; with_reducible exact H2_) | with_reducible exact H | (rw [hy459]; exact H) | exact H
                    have Ny459 := Aside0.mk hy459
                    clear hy459
                    by_cases c67 : y456.length + y459.length < 5864062014805
                    ·rw [if_pos c67] at H
                     have LMc67 := Aside0.mk c67
                     clear c67
                     obtain ⟨y464, hy464⟩ : ∃ y_ : List (List Int), y_ = (y456 ++ y459) := ⟨_, rfl⟩
                     replace H : (spec_l20Raw.l0 kj36 a1 y439 y464 (wrap64 (x7_1 - 1)) s0_0 t427) = some (r1, r2) := by first | (rw [hy464]; with_reducible exact H) | (have H2_ := (Option.bind_some _ _).symm.trans H; rw [hy464]; with_reducible exact H2_) | (have H2_ := (Option.bind_some _ _).symm.trans H; with_reducible exact H2_) | with_reducible exact H | (rw [hy464]; exact H) | exact H
                     have Ny464 := Aside0.mk hy464
                     clear hy464
                     have H' := Aside0.mk H
                     clear H
                     try go_wp2
                     replace HO_5 := Aside0.mk (Kd.R_drew HO_5.out)
                     replace HO_6 := Aside0.mk (Kd.N_drew HO_6.out)
                     replace HO_8 := Aside0.mk (Kd.R_drew HO_8.out)
                     replace HI0 := Aside0.mk (IsS64.drew HI0.out)
                     replace HK := Aside0.mk (keep_drew HK.out)
                     replace HB := Aside0.mk (below_drew1 HB.out)
                     obtain ⟨Ao70, co70, eo70⟩ := Kd.R_slice HO_5.out
                     (first | subst eo70 | (injection eo70 with f1_ f2_ f3_; have f4_ := f1_.symm; have f5_ := f3_.symm; clear f1_ f2_ f3_; subst f4_; subst f5_))
                     have q69 : (x9_24 : Int) ≤ ((x5_1.length : Int) : Int) := of_decide_eq_true (by first | (with_reducible assumption) | assumption)
                     obtain ⟨i069, hi069, _, hsz69, _⟩ := info_parts info3
                     have hroom69 : x5_1.length ≤ co70 := (Kd.R_reads' HO_5.out).2.1
                     have hC69 : Kd.F (Kd.int .i64) _ _ Ao70 x5_1.length x5_1 := (Kd.V_at (base := w.heap.size) (Kd.R_V (IsS64.apart HI0.out (Kd.R_apart' (HO_5.out) (Kd.N_typed HO_6.out) (by decide)) (by decide)))).2.2
                     have hcut69 := cut_to (P := Try.prog) 23 3 .i64 Try.underlying23 hi069 Ao70 x5_1.length co70 x9_24 (of_decide_eq_true (by first | (with_reducible assumption) | assumption)) q69 hroom69
                     have hr69 := Kd.F_take (m := (x9_24 : Int).toNat) hC69 (by omega)
                     have hy69 : y416.length = (x9_24 : Int).toNat := (by rw [Ny416.out, List.length_take]; omega)
                     rw [← Ny416.out] at hr69
                     rw [← hy69] at hcut69
                     have HO420 := Aside0.mk (show Kd.V (Kd.int .i64) 3 _ w.heap.size _ (.slice Ao70 y416.length co70) y416 from Kd.V_mk (by omega) hr69)
                     have HC420 := Aside0.mk (show y416.length ≤ co70 from by omega)
                     clear hr69 hC69 hroom69 hi069 hsz69
                     have KY69 := Aside0.mk hy69
                     clear hy69
                     replace q69 := eq_true q69
                     have q71 : (x9_24 : Int) ≤ ((x5_1.length : Int) : Int) := of_decide_eq_true (by first | (with_reducible assumption) | assumption)
                     obtain ⟨i071, hi071, _, hsz71, _⟩ := info_parts info3
                     have hroom71 : x5_1.length ≤ co70 := (Kd.R_reads' HO_5.out).2.1
                     have hC71 : Kd.F (Kd.int .i64) _ _ Ao70 x5_1.length x5_1 := (Kd.V_at (base := w.heap.size) (Kd.R_V (IsS64.apart HI0.out (Kd.R_apart' (HO_5.out) (Kd.N_typed HO_6.out) (by decide)) (by decide)))).2.2
                     have q071 : (0 : Int) ≤ (x9_24 : Int) := of_decide_eq_true (by first | (with_reducible assumption) | assumption)
                     have hcut71 := cut_from (P := Try.prog) 23 3 .i64 Try.underlying23 hi071 1 hsz71 Ao70 x5_1.length co70 x9_24 q071 q71
                     have hr71 := Kd.F_cut (m := (x9_24 : Int).toNat) (c := co70) hC71 (by omega) hroom71
                     obtain ⟨A71, hA71⟩ : ∃ A1, A1 = (if co70 = (x9_24 : Int).toNat then Ao70 else (Ao70 : Option Addr).map (·.add ((x9_24 : Int).toNat * 1))) := ⟨_, rfl⟩
                     obtain ⟨c71, hc71⟩ : ∃ c1, c1 = co70 - (x9_24 : Int).toNat := ⟨_, rfl⟩
                     have hy71 : y434.length = x5_1.length - (x9_24 : Int).toNat := (by rw [Ny434.out, List.length_drop] <;> omega)
                     rw [show (x5_1).drop (x9_24 : Int).toNat = y434 from Ny434.out.symm] at hr71
                     replace hr71 : Kd.F (Kd.int .i64) _ _ A71 y434.length y434 := (by rw [hA71]; exact hr71)
                     rw [← hy71, ← hA71, ← hc71] at hcut71
                     have HO438 := Aside0.mk (show Kd.V (Kd.int .i64) 3 _ w.heap.size _ (.slice A71 y434.length c71) y434 from Kd.V_mk (by rw [hy71, hc71]; exact Nat.sub_le_sub_right hroom71 _) hr71)
                     have HC438 := Aside0.mk (show y434.length ≤ c71 from by rw [hy71, hc71]; exact Nat.sub_le_sub_right hroom71 _)
                     clear hr71 hC71 hroom71 hi071 hsz71 hc71
                     have KY71 := Aside0.mk hy71
                     have KA71 := Aside0.mk hA71
                     clear hy71 hA71
                     replace q71 := eq_true q71
                     refine start_ (n := 20) (S := fun w' => True) (ds := []) #[false, false, false, false, false, false, false, false, false, false, false, false, false, false, false, false, false, false, false, false] (by kernel_rfl) rfl rfl trivial (fun hHeld => ?_); refine with_tabW spec_l20Raw.tab16 spec_l20Raw.bits16 (fun HT_ HW_ => ?_)
                     generalize wc.drew = w68 at HO_5 HO_6 HO_8 HI0 HK HB HO420 HO438 hHeld ⊢
                     refine pu 1 69 ?_
                     refine pu 2 70 ?_
                     refine pu 3 71 ?_
                     refine pu 5 73 ?_
                     refine pu 8 76 ?_
                     refine pu 15 83 ?_
                     refine pu 16 84 ?_
                     refine pu 17 85 ?_
                     refine one_ (i := 0) (N := some 68) #[true, true, true, true, false, true, false, false, true, false, false, false, false, false, false, true, true, true, false, false] rfl rfl (one_of HT_.out (by kernel_rfl)) (by decide) (fun K hK => ?_)
                     refine Kd.R_lit_step (Kd.int .i64) _ 3 ?hg (N := 68) ?hd (xs := ([] : List Int)) (inner := []) (ok := fun _ => True) (okp := fun _ => True) ?hr ?hp (fun _ hk => hk) trivial (Below.refl _ _) (Nat.le_refl _) (by simp) ?_; (case hd => rfl); (case hg => rfl); (case hr => first | (go_simp; done) | (go_simp; rfl)); (case hp => exact (Reps.none _ _))
                     intro v414 w72 ho73 hb hg_ hnew_
                     clear hg_ hnew_
                     (first | rw [← Ny413.out] at ho73 | (simp only [Int.reduceToNat] at ho73; rw [← Ny413.out] at ho73))
                     have n0_ := Aside0.mk (Kd.R_elder' (rR HO_5.out) (Kd.R_base ho73) hb)
                     replace HO_6 := Aside0.mk (Kd.N_elder' (rN HO_6.out) (Kd.R_base ho73) hb)
                     have n2_ := Aside0.mk (Kd.R_elder' (rR HO_8.out) (Kd.R_base ho73) hb)
                     replace HO420 := Aside0.mk (Kd.V_elder' (rV HO420.out) (Kd.R_base ho73) hb)
                     replace HO438 := Aside0.mk (Kd.V_elder' (rV HO438.out) (Kd.R_base ho73) hb)
                     have HO415 := Aside0.mk (Kd.R_lower (Kd.R_new' (Kd.R_new' ho73 (Kd.R_lt (rR HO_5.out))) (Kd.R_lt (rR HO_8.out))) (keep_size (w := w) (g := g) (row := none) (kb HK.out)))
                     have n6_ := Aside0.mk (IsS64.below (is64 HI0.out) hb)
                     replace HK := Aside0.mk (KeepBut.trans (kb HK.out) (KeepBut.of_below hb g none) (.inl rfl))
                     replace HB := Aside0.mk (below_step (bi64 HB.out HI0.out) hb)
                     replace HO_5 := n0_
                     replace HO_8 := n2_
                     replace HI0 := n6_
                     clear n0_ n2_ n6_
                     clear hb ho73
                     refine hK.out _ _ trivial (fun hHeld => ?_)
                     clear hK K
                     refine nm 68 ?_
                     refine one_ (i := 4) (N := some 72) #[true, true, true, true, true, true, false, false, true, false, false, false, false, false, false, true, true, true, false, false] rfl rfl (one_of HT_.out (by kernel_rfl)) (by decide) (fun K hK => ?_)
                     refine Kd.R_append_rows_step (Kd.int .i64) w.heap.size (by rfl) (.tmp 68) (.tmp 71) 23 3 (.int .i64 0) 8 rfl Try.underlying23 info3 rfl (by decide) (by omega) v414 y413 y416 _ _ _ (fun k_ => some k_ ≠ (.slice Ao70 x5_1.length co70 : Value).ownBlock ∧ some k_ ≠ (u8 : Value).ownBlock) (fun _ => False) rfl rfl ?aO ?aR (fun _ _ h => h) (fun _ h => h.elim) ?aF (Below.refl _ _) ?aS ?aL ?_
                     (case aR => repeat (first | exact (Kd.V_reads' HO420.out).2.2 | (with_reducible refine Kd.C_alloc ?_ _) | (with_reducible refine Kd.C_drewN ?_ _) | (with_reducible refine Kd.C_drew ?_)))
                     (case aF => exact (fun k_ hk => ⟨Kd.fresh' (Kd.R_lt (rR HO_5.out)) k_ hk, Kd.fresh' (Kd.R_lt (rR HO_8.out)) k_ hk⟩))
                     (case aO => exact (by (with_reducible repeat (first | apply Kd.R_alloc | apply Kd.R_drewN | apply Kd.R_drew)); exact Kd.R_mono HO415.out (fun _ hk => ⟨hk.1.2, hk.2⟩)))
                     (case aS => exact (keep_size (w := w) (g := g) (row := none) (kb HK.out)))
                     (case aL => have := LMc54.out; omega)
                     intro v422 w74 ho hb hg hat
                     rw [← Ny421.out] at ho
                     replace HO_5 := Aside0.mk (Kd.R_after (ok := (fun k_ => some k_ ≠ (u8 : Value).ownBlock)) (rR HO_5.out) hg hat)
                     replace HO_6 := Aside0.mk (Kd.N_afterv (ok := (fun k_ => some k_ ≠ (.slice Ao70 x5_1.length co70 : Value).ownBlock ∧ some k_ ≠ (u8 : Value).ownBlock ∧ k_ ≠ g)) (rN HO_6.out) hg hat)
                     replace HO_8 := Aside0.mk (Kd.R_after (ok := (fun k_ => some k_ ≠ (.slice Ao70 x5_1.length co70 : Value).ownBlock)) (rR HO_8.out) hg hat)
                     have n3_ := Aside0.mk (IsS64.grown (is64 HI0.out) hg (IsS64.own_ne HI0.out HO415.out (by decide)))
                     replace HO420 := Aside0.mk (Kd.V_afterv (ok := (fun k_ => some k_ ≠ (u6 : Value).ownBlock ∧ some k_ ≠ (u8 : Value).ownBlock ∧ k_ ≠ g)) (by (with_reducible repeat (first | apply Kd.V_alloc | apply Kd.V_drewN | apply Kd.V_drew)); exact Kd.V_mono HO420.out (fun _ hk => ⟨⟨hk.1.1.2, ⟨hk.1.1.1, hk.1.2⟩⟩, hk.2⟩)) hg hat)
                     replace HO438 := Aside0.mk (Kd.V_afterv (ok := (fun k_ => some k_ ≠ (u6 : Value).ownBlock ∧ some k_ ≠ (u8 : Value).ownBlock ∧ k_ ≠ g)) (by (with_reducible repeat (first | apply Kd.V_alloc | apply Kd.V_drewN | apply Kd.V_drew)); exact Kd.V_mono HO438.out (fun _ hk => ⟨⟨hk.1.1.2, ⟨hk.1.1.1, hk.1.2⟩⟩, hk.2⟩)) hg hat)
                     replace HB := Aside0.mk (below_weaken (bi64 HB.out HI0.out) HL.out hb)
                     replace HK := Aside0.mk (KeepBut.trans (kb HK.out) (KeepBut.of_grown hg g) (Kd.R_base2 HO415.out))
                     have HO423 := Aside0.mk (ho)
                     clear HO415
                     replace HI0 := n3_
                     clear n3_
                     clear ho hb hg hat
                     refine hK.out _ _ trivial (fun hHeld => ?_)
                     clear hK K
                     refine nm 72 ?_
                     refine one_ (i := 6) (N := some 74) #[true, true, true, true, true, true, true, false, true, false, false, false, false, false, false, true, true, true, false, false] rfl rfl (one_of HT_.out (by kernel_rfl)) (by decide) (fun K hK => ?_)
                     refine goes_ Try.func49 (by kernel_rfl) rfl #[.pointer (some ⟨g, 0, none⟩), .int .i64 3] (by rfl) rfl rfl ls ?_
                     with_reducible refine (spec_l20Rd_pick.calls kj36 g s0_0 x1001_15 3 t424 t425 w0 _ ?side1 ?side2 A55.out).mono ?_
                     (case side1 => exact is64 HI0.out)
                     (case side2 => exact bi64 HB.out HI0.out)
                     rintro e w75 ⟨rfl, hi, hb, hk⟩
                     refine ⟨_, rfl, ?_⟩
                     replace HO_5 := Aside0.mk (Kd.R_mono (Kd.R_keep (IsS64.apart (show IsS64 w0 _ g s0_0 x1001_15 from is64 HI0.out) (rR HO_5.out) (by decide)) hk (fun _ h => h.2)) (fun _ h => h.1))
                     replace HO_6 := Aside0.mk (Kd.N_mono (Kd.N_keep (Kd.N_mono (ok := fun k_ => ((some k_ ≠ (.slice Ao70 x5_1.length co70 : Value).ownBlock ∧ (some k_ ≠ (u8 : Value).ownBlock ∧ k_ ≠ g)) ∧ some k_ ≠ (v422 : Value).ownBlock)) (rN HO_6.out) (fun k_ hk_ => (⟨hk_, hk_.1.2.2⟩ : _ ∧ k_ ≠ g))) hk (fun _ h => h.2)) (fun _ h => h.1))
                     replace HO_8 := Aside0.mk (Kd.R_mono (Kd.R_keep (IsS64.apart (show IsS64 w0 _ g s0_0 x1001_15 from is64 HI0.out) (rR HO_8.out) (by decide)) hk (fun _ h => h.2)) (fun _ h => h.1))
                     replace HO420 := Aside0.mk (Kd.V_mono (Kd.V_keep (Kd.V_mono (ok := fun k_ => ((some k_ ≠ (u6 : Value).ownBlock ∧ (some k_ ≠ (u8 : Value).ownBlock ∧ k_ ≠ g)) ∧ some k_ ≠ (v422 : Value).ownBlock)) (rV HO420.out) (fun k_ hk_ => (⟨hk_, hk_.1.2.2⟩ : _ ∧ k_ ≠ g))) hk (fun _ h => h.2)) (fun _ h => h.1))
                     replace HO438 := Aside0.mk (Kd.V_mono (Kd.V_keep (Kd.V_mono (ok := fun k_ => ((some k_ ≠ (u6 : Value).ownBlock ∧ (some k_ ≠ (u8 : Value).ownBlock ∧ k_ ≠ g)) ∧ some k_ ≠ (v422 : Value).ownBlock)) (rV HO438.out) (fun k_ hk_ => (⟨hk_, hk_.1.2.2⟩ : _ ∧ k_ ≠ g))) hk (fun _ h => h.2)) (fun _ h => h.1))
                     replace HO423 := Aside0.mk (Kd.R_mono (Kd.R_keep (IsS64.apart (show IsS64 w0 _ g s0_0 x1001_15 from is64 HI0.out) (rR HO423.out) (by decide)) hk (fun _ h => h.2)) (fun _ h => h.1))
                     replace HK := Aside0.mk (KeepBut.trans (kb HK.out) hk (.inl rfl))
                     replace HB := Aside0.mk (hb)
                     replace HI0 := Aside0.mk (hi)
                     (try clear hb)
                     (try clear hb2)
                     (try clear hk)
                     (try clear hi)
                     refine hK.out _ _ trivial (fun hHeld => ?_)
                     clear hK K
                     refine nm 74 ?_
                     refine pu 7 75 ?_
                     refine one_ (i := 9) (N := some 77) #[true, true, true, true, true, true, true, true, true, true, false, false, false, false, false, true, true, true, false, false] rfl rfl (one_of HT_.out (by kernel_rfl)) (by decide) (fun K hK => ?_)
                     refine goes_ Try.func49 (by kernel_rfl) rfl #[.pointer (some ⟨g, 0, none⟩), .int .i64 60] (by rfl) rfl rfl ls ?_
                     with_reducible refine (spec_l20Rd_pick.calls kj36 g s0_0 t425 60 t426 t427 w0 _ ?side1 ?side2 A56.out).mono ?_
                     (case side1 => exact is64 HI0.out)
                     (case side2 => exact bi64 HB.out HI0.out)
                     rintro e w76 ⟨rfl, hi, hb, hk⟩
                     refine ⟨_, rfl, ?_⟩
                     replace HO_5 := Aside0.mk (Kd.R_mono (Kd.R_keep (IsS64.apart (show IsS64 w0 _ g s0_0 t425 from is64 HI0.out) (rR HO_5.out) (by decide)) hk (fun _ h => h.2)) (fun _ h => h.1))
                     replace HO_6 := Aside0.mk (Kd.N_mono (Kd.N_keep (Kd.N_mono (ok := fun k_ => ((some k_ ≠ (.slice Ao70 x5_1.length co70 : Value).ownBlock ∧ (some k_ ≠ (u8 : Value).ownBlock ∧ k_ ≠ g)) ∧ some k_ ≠ (v422 : Value).ownBlock)) (rN HO_6.out) (fun k_ hk_ => (⟨hk_, hk_.1.2.2⟩ : _ ∧ k_ ≠ g))) hk (fun _ h => h.2)) (fun _ h => h.1))
                     replace HO_8 := Aside0.mk (Kd.R_mono (Kd.R_keep (IsS64.apart (show IsS64 w0 _ g s0_0 t425 from is64 HI0.out) (rR HO_8.out) (by decide)) hk (fun _ h => h.2)) (fun _ h => h.1))
                     replace HO420 := Aside0.mk (Kd.V_mono (Kd.V_keep (Kd.V_mono (ok := fun k_ => ((some k_ ≠ (u6 : Value).ownBlock ∧ (some k_ ≠ (u8 : Value).ownBlock ∧ k_ ≠ g)) ∧ some k_ ≠ (v422 : Value).ownBlock)) (rV HO420.out) (fun k_ hk_ => (⟨hk_, hk_.1.2.2⟩ : _ ∧ k_ ≠ g))) hk (fun _ h => h.2)) (fun _ h => h.1))
                     replace HO438 := Aside0.mk (Kd.V_mono (Kd.V_keep (Kd.V_mono (ok := fun k_ => ((some k_ ≠ (u6 : Value).ownBlock ∧ (some k_ ≠ (u8 : Value).ownBlock ∧ k_ ≠ g)) ∧ some k_ ≠ (v422 : Value).ownBlock)) (rV HO438.out) (fun k_ hk_ => (⟨hk_, hk_.1.2.2⟩ : _ ∧ k_ ≠ g))) hk (fun _ h => h.2)) (fun _ h => h.1))
                     replace HO423 := Aside0.mk (Kd.R_mono (Kd.R_keep (IsS64.apart (show IsS64 w0 _ g s0_0 t425 from is64 HI0.out) (rR HO423.out) (by decide)) hk (fun _ h => h.2)) (fun _ h => h.1))
                     replace HK := Aside0.mk (KeepBut.trans (kb HK.out) hk (.inl rfl))
                     replace HB := Aside0.mk (hb)
                     replace HI0 := Aside0.mk (hi)
                     (try clear hb)
                     (try clear hb2)
                     (try clear hk)
                     (try clear hi)
                     refine hK.out _ _ trivial (fun hHeld => ?_)
                     clear hK K
                     refine nm 77 ?_
                     refine pu 10 78 ?_
                     refine pu 11 79 ?_
                     refine pu 12 80 ?_
                     refine one_ (i := 13) (N := some 81) #[true, true, true, true, true, true, true, true, true, true, true, true, true, true, false, true, true, true, false, false] rfl rfl (one_of HT_.out (by kernel_rfl)) (by decide) (fun K hK => ?_)
                     refine Kd.R_lit_step (Kd.int .i64) _ 3 ?hg (N := 81) ?hd (xs := ([wrap64 ((wrap64 (1 + t424)) + (wrap64 ((wrap64 (Int.tdiv t426 59)) * 60)))] : List Int)) (inner := [.int .i64 (wrap64 ((wrap64 (1 + t424)) + (wrap64 ((wrap64 (Int.tdiv t426 59)) * 60))))]) (ok := fun _ => True) (okp := fun _ => True) ?hr ?hp (fun _ hk => hk) trivial (Below.refl _ _) (Nat.le_refl _) (by simp) ?_; (case hd => rfl); (case hg => rfl); (case hr => first | (go_simp; done) | (go_simp; rfl)); (case hp => exact (Reps.one (show Kd.M (Kd.int .i64) _ _ _ (wrap64 ((wrap64 (1 + t424)) + (wrap64 ((wrap64 (Int.tdiv t426 59)) * 60)))) [.int .i64 (wrap64 ((wrap64 (1 + t424)) + (wrap64 ((wrap64 (Int.tdiv t426 59)) * 60))))] from rfl) (Reps.none _ _)))
                     intro v429 w77 ho78 hb hg_ hnew_
                     clear hg_ hnew_
                     (first | rw [← Ny428.out] at ho78 | (simp only [Int.reduceToNat] at ho78; rw [← Ny428.out] at ho78))
                     have n0_ := Aside0.mk (Kd.R_elder' (rR HO_5.out) (Kd.R_base ho78) hb)
                     replace HO_6 := Aside0.mk (Kd.N_elder' (rN HO_6.out) (Kd.R_base ho78) hb)
                     have n2_ := Aside0.mk (Kd.R_elder' (rR HO_8.out) (Kd.R_base ho78) hb)
                     replace HO420 := Aside0.mk (Kd.V_elder' (rV HO420.out) (Kd.R_base ho78) hb)
                     replace HO438 := Aside0.mk (Kd.V_elder' (rV HO438.out) (Kd.R_base ho78) hb)
                     have n5_ := Aside0.mk (Kd.R_elder' (rR HO423.out) (Kd.R_base ho78) hb)
                     have HO430 := Aside0.mk (Kd.R_lower (Kd.R_new' (Kd.R_new' (Kd.R_new' ho78 (Kd.R_lt (rR HO_5.out))) (Kd.R_lt (rR HO_8.out))) (Kd.R_lt (rR HO423.out))) (keep_size (w := w) (g := g) (row := none) (kb HK.out)))
                     have n7_ := Aside0.mk (IsS64.below (is64 HI0.out) hb)
                     replace HK := Aside0.mk (KeepBut.trans (kb HK.out) (KeepBut.of_below hb g none) (.inl rfl))
                     replace HB := Aside0.mk (below_step (bi64 HB.out HI0.out) hb)
                     replace HO_5 := n0_
                     replace HO_8 := n2_
                     replace HO423 := n5_
                     replace HI0 := n7_
                     clear n0_ n2_ n5_ n7_
                     clear hb ho78
                     obtain ⟨Ao80, co80, eo80⟩ := Kd.R_slice HO430.out
                     (first | subst eo80 | (injection eo80 with f1_ f2_ f3_; have f4_ := f1_.symm; have f5_ := f3_.symm; clear f1_ f2_ f3_; subst f4_; subst f5_))
                     refine hK.out _ _ trivial (fun hHeld => ?_)
                     clear hK K
                     refine nm 81 ?_
                     refine one_ (i := 14) (N := some 82) #[true, true, true, true, true, true, true, true, true, true, true, true, true, true, true, true, true, true, false, false] rfl rfl (one_of HT_.out (by kernel_rfl)) (by decide) (fun K hK => ?_)
                     refine Kd.R_append_rows_step (Kd.int .i64) w.heap.size (by rfl) (.tmp 72) (.tmp 81) 23 3 (.int .i64 0) 8 rfl Try.underlying23 info3 rfl (by decide) (by omega) v422 y421 y428 _ _ _ (fun k_ => some k_ ≠ (.slice Ao70 x5_1.length co70 : Value).ownBlock ∧ some k_ ≠ (u8 : Value).ownBlock ∧ some k_ ≠ (.slice Ao80 y428.length co80 : Value).ownBlock) (fun _ => False) rfl rfl ?aO ?aR (fun _ _ h => h) (fun _ h => h.elim) ?aF (Below.refl _ _) ?aS ?aL ?_
                     (case aR => repeat (first | exact (Kd.R_reads' HO430.out).2.2 | (with_reducible refine Kd.C_alloc ?_ _) | (with_reducible refine Kd.C_drewN ?_ _) | (with_reducible refine Kd.C_drew ?_)))
                     (case aF => exact (fun k_ hk => ⟨Kd.fresh' (Kd.R_lt (rR HO_5.out)) k_ hk, Kd.fresh' (Kd.R_lt (rR HO_8.out)) k_ hk, Kd.fresh' (Kd.R_lt (rR HO430.out)) k_ hk⟩))
                     (case aO => exact (by (with_reducible repeat (first | apply Kd.R_alloc | apply Kd.R_drewN | apply Kd.R_drew)); exact Kd.R_mono HO423.out (fun _ hk => ⟨hk.1.1, ⟨hk.1.2, hk.2⟩⟩)))
                     (case aS => exact (keep_size (w := w) (g := g) (row := none) (kb HK.out)))
                     (case aL => have := LMc57.out; omega)
                     intro v432 w79 ho hb hg hat
                     rw [← Ny431.out] at ho
                     replace HO_5 := Aside0.mk (Kd.R_after (ok := (fun k_ => some k_ ≠ (u8 : Value).ownBlock ∧ some k_ ≠ (.slice Ao80 y428.length co80 : Value).ownBlock)) (by (with_reducible repeat (first | apply Kd.R_alloc | apply Kd.R_drewN | apply Kd.R_drew)); exact Kd.R_mono HO_5.out (fun _ hk => ⟨⟨hk.1.1, hk.2⟩, hk.1.2⟩)) hg hat)
                     replace HO_6 := Aside0.mk (Kd.N_afterv (ok := (fun k_ => some k_ ≠ (.slice Ao70 x5_1.length co70 : Value).ownBlock ∧ some k_ ≠ (u8 : Value).ownBlock ∧ some k_ ≠ (.slice Ao80 y428.length co80 : Value).ownBlock ∧ k_ ≠ g)) (by (with_reducible repeat (first | apply Kd.N_alloc | apply Kd.N_drewN | apply Kd.N_drew)); exact Kd.N_mono HO_6.out (fun _ hk => ⟨⟨hk.1.1.1, ⟨hk.1.1.2.1, ⟨hk.2, hk.1.1.2.2⟩⟩⟩, hk.1.2⟩)) hg hat)
                     replace HO_8 := Aside0.mk (Kd.R_after (ok := (fun k_ => some k_ ≠ (.slice Ao70 x5_1.length co70 : Value).ownBlock ∧ some k_ ≠ (.slice Ao80 y428.length co80 : Value).ownBlock)) (by (with_reducible repeat (first | apply Kd.R_alloc | apply Kd.R_drewN | apply Kd.R_drew)); exact Kd.R_mono HO_8.out (fun _ hk => ⟨⟨hk.1.1, hk.2⟩, hk.1.2⟩)) hg hat)
                     have n3_ := Aside0.mk (IsS64.grown (is64 HI0.out) hg (IsS64.own_ne HI0.out HO423.out (by decide)))
                     replace HO420 := Aside0.mk (Kd.V_afterv (ok := (fun k_ => some k_ ≠ (u6 : Value).ownBlock ∧ some k_ ≠ (u8 : Value).ownBlock ∧ some k_ ≠ (.slice Ao80 y428.length co80 : Value).ownBlock ∧ k_ ≠ g)) (by (with_reducible repeat (first | apply Kd.V_alloc | apply Kd.V_drewN | apply Kd.V_drew)); exact Kd.V_mono HO420.out (fun _ hk => ⟨⟨hk.1.1.1, ⟨hk.1.1.2.1, ⟨hk.2, hk.1.1.2.2⟩⟩⟩, hk.1.2⟩)) hg hat)
                     replace HO438 := Aside0.mk (Kd.V_afterv (ok := (fun k_ => some k_ ≠ (u6 : Value).ownBlock ∧ some k_ ≠ (u8 : Value).ownBlock ∧ some k_ ≠ (.slice Ao80 y428.length co80 : Value).ownBlock ∧ k_ ≠ g)) (by (with_reducible repeat (first | apply Kd.V_alloc | apply Kd.V_drewN | apply Kd.V_drew)); exact Kd.V_mono HO438.out (fun _ hk => ⟨⟨hk.1.1.1, ⟨hk.1.1.2.1, ⟨hk.2, hk.1.1.2.2⟩⟩⟩, hk.1.2⟩)) hg hat)
                     replace HO430 := Aside0.mk (Kd.R_after (ok := (fun k_ => some k_ ≠ (.slice Ao70 x5_1.length co70 : Value).ownBlock ∧ some k_ ≠ (u8 : Value).ownBlock)) (by (with_reducible repeat (first | apply Kd.R_alloc | apply Kd.R_drewN | apply Kd.R_drew)); exact Kd.R_mono HO430.out (fun _ hk => ⟨⟨hk.1.1.2, hk.1.2⟩, hk.2⟩)) hg hat)
                     replace HB := Aside0.mk (below_weaken (bi64 HB.out HI0.out) HL.out hb)
                     replace HK := Aside0.mk (KeepBut.trans (kb HK.out) (KeepBut.of_grown hg g) (Kd.R_base2 HO423.out))
                     have HO433 := Aside0.mk (ho)
                     clear HO423
                     replace HI0 := n3_
                     clear n3_
                     clear ho hb hg hat
                     refine hK.out _ _ trivial (fun hHeld => ?_)
                     clear hK K
                     refine nm 82 ?_
                     refine one_ (i := 18) (N := some 86) #[true, true, true, true, true, true, true, true, true, true, true, true, true, true, true, true, true, true, true, false] rfl rfl (one_of HT_.out (by kernel_rfl)) (by decide) (fun K hK => ?_)
                     refine Kd.R_append_rows_step (Kd.int .i64) w.heap.size (by rfl) (.tmp 82) (.tmp 85) 23 3 (.int .i64 0) 8 rfl Try.underlying23 info3 rfl (by decide) (by omega) v432 y431 y434 _ _ _ (fun k_ => some k_ ≠ (.slice Ao70 x5_1.length co70 : Value).ownBlock ∧ some k_ ≠ (u8 : Value).ownBlock ∧ some k_ ≠ (.slice Ao80 y428.length co80 : Value).ownBlock) (fun _ => False) rfl rfl ?aO ?aR (fun _ _ h => h) (fun _ h => h.elim) ?aF (Below.refl _ _) ?aS ?aL ?_
                     (case aR => repeat (first | exact (Kd.V_reads' HO438.out).2.2 | (with_reducible refine Kd.C_alloc ?_ _) | (with_reducible refine Kd.C_drewN ?_ _) | (with_reducible refine Kd.C_drew ?_)))
                     (case aF => exact (fun k_ hk => ⟨Kd.fresh' (Kd.R_lt (rR HO_5.out)) k_ hk, Kd.fresh' (Kd.R_lt (rR HO_8.out)) k_ hk, Kd.fresh' (Kd.R_lt (rR HO430.out)) k_ hk⟩))
                     (case aO => exact (rR HO433.out))
                     (case aS => exact (keep_size (w := w) (g := g) (row := none) (kb HK.out)))
                     (case aL => have := LMc60.out; omega)
                     intro v440 w81 ho hb hg hat
                     rw [← Ny439.out] at ho
                     replace HO_5 := Aside0.mk (Kd.R_after (ok := (fun k_ => some k_ ≠ (u8 : Value).ownBlock ∧ some k_ ≠ (.slice Ao80 y428.length co80 : Value).ownBlock)) (rR HO_5.out) hg hat)
                     replace HO_6 := Aside0.mk (Kd.N_afterv (ok := (fun k_ => some k_ ≠ (.slice Ao70 x5_1.length co70 : Value).ownBlock ∧ some k_ ≠ (u8 : Value).ownBlock ∧ some k_ ≠ (.slice Ao80 y428.length co80 : Value).ownBlock ∧ k_ ≠ g)) (rN HO_6.out) hg hat)
                     replace HO_8 := Aside0.mk (Kd.R_after (ok := (fun k_ => some k_ ≠ (.slice Ao70 x5_1.length co70 : Value).ownBlock ∧ some k_ ≠ (.slice Ao80 y428.length co80 : Value).ownBlock)) (rR HO_8.out) hg hat)
                     have n3_ := Aside0.mk (IsS64.grown (is64 HI0.out) hg (IsS64.own_ne HI0.out HO433.out (by decide)))
                     replace HO420 := Aside0.mk (Kd.V_afterv (ok := (fun k_ => some k_ ≠ (u6 : Value).ownBlock ∧ some k_ ≠ (u8 : Value).ownBlock ∧ some k_ ≠ (.slice Ao80 y428.length co80 : Value).ownBlock ∧ k_ ≠ g)) (rV HO420.out) hg hat)
                     replace HO438 := Aside0.mk (Kd.V_afterv (ok := (fun k_ => some k_ ≠ (u6 : Value).ownBlock ∧ some k_ ≠ (u8 : Value).ownBlock ∧ some k_ ≠ (.slice Ao80 y428.length co80 : Value).ownBlock ∧ k_ ≠ g)) (rV HO438.out) hg hat)
                     replace HO430 := Aside0.mk (Kd.R_after (ok := (fun k_ => some k_ ≠ (.slice Ao70 x5_1.length co70 : Value).ownBlock ∧ some k_ ≠ (u8 : Value).ownBlock)) (rR HO430.out) hg hat)
                     replace HB := Aside0.mk (below_weaken (bi64 HB.out HI0.out) HL.out hb)
                     replace HK := Aside0.mk (KeepBut.trans (kb HK.out) (KeepBut.of_grown hg g) (Kd.R_base2 HO433.out))
                     have HO441 := Aside0.mk (ho)
                     clear HO433
                     replace HI0 := n3_
                     clear n3_
                     clear ho hb hg hat
                     refine hK.out _ _ trivial (fun hHeld => ?_)
                     clear hK K
                     refine nm 86 ?_
                     refine pu 19 5 ?_
                     refine done_ (done_of HT_.out (by kernel_rfl)) ?_
                     (try clear hHeld)
                     try go_wp2
                     replace HO_5 := Aside0.mk (Kd.R_drew HO_5.out)
                     replace HO_6 := Aside0.mk (Kd.N_drew HO_6.out)
                     replace HO_8 := Aside0.mk (Kd.R_drew HO_8.out)
                     replace HO420 := Aside0.mk (Kd.V_drew HO420.out)
                     replace HO438 := Aside0.mk (Kd.V_drew HO438.out)
                     replace HO430 := Aside0.mk (Kd.R_drew HO430.out)
                     replace HO441 := Aside0.mk (Kd.R_drew HO441.out)
                     replace HI0 := Aside0.mk (IsS64.drew HI0.out)
                     replace HK := Aside0.mk (keep_drew HK.out)
                     replace HB := Aside0.mk (below_drew1 HB.out)
                     obtain ⟨Ao84, co84, eo84⟩ := Kd.N_slice HO_6.out
                     (first | subst eo84 | (injection eo84 with f1_ f2_ f3_; have f4_ := f1_.symm; have f5_ := f3_.symm; clear f1_ f2_ f3_; subst f4_; subst f5_))
                     have q83 : (x9_24 : Int) ≤ ((x6_1.length : Int) : Int) := of_decide_eq_true (by first | (with_reducible assumption) | assumption)
                     obtain ⟨i083, hi083, _, hsz83, _⟩ := info_parts info23
                     have hroom83 : x6_1.length ≤ co84 := (Kd.N_reads' HO_6.out).2.1
                     have hC83 : Kd.F (Kd.slice 3 (Kd.int .i64)) _ _ Ao84 x6_1.length x6_1 := (Kd.V_at (base := w.heap.size) (Kd.N_V HO_6.out)).2.2
                     have hcut83 := cut_to (P := Try.prog) 36 23 .i64 Try.underlying36 hi083 Ao84 x6_1.length co84 x9_24 (of_decide_eq_true (by first | (with_reducible assumption) | assumption)) q83 hroom83
                     have hr83 := Kd.F_take (m := (x9_24 : Int).toNat) hC83 (by omega)
                     have hy83 : y445.length = (x9_24 : Int).toNat := (by rw [Ny445.out, List.length_take]; omega)
                     rw [← Ny445.out] at hr83
                     rw [← hy83] at hcut83
                     have HO449 := Aside0.mk (show Kd.V (Kd.slice 3 (Kd.int .i64)) 23 _ w.heap.size _ (.slice Ao84 y445.length co84) y445 from Kd.V_mk (by omega) hr83)
                     have HC449 := Aside0.mk (show y445.length ≤ co84 from by omega)
                     clear hr83 hC83 hroom83 hi083 hsz83
                     have KY83 := Aside0.mk hy83
                     clear hy83
                     replace q83 := eq_true q83
                     have q85 : (x9_24 : Int) ≤ ((x6_1.length : Int) : Int) := of_decide_eq_true (by first | (with_reducible assumption) | assumption)
                     obtain ⟨i085, hi085, _, hsz85, _⟩ := info_parts info23
                     have hroom85 : x6_1.length ≤ co84 := (Kd.N_reads' HO_6.out).2.1
                     have hC85 : Kd.F (Kd.slice 3 (Kd.int .i64)) _ _ Ao84 x6_1.length x6_1 := (Kd.V_at (base := w.heap.size) (Kd.N_V HO_6.out)).2.2
                     have q085 : (0 : Int) ≤ (x9_24 : Int) := of_decide_eq_true (by first | (with_reducible assumption) | assumption)
                     have hcut85 := cut_from (P := Try.prog) 36 23 .i64 Try.underlying36 hi085 1 hsz85 Ao84 x6_1.length co84 x9_24 q085 q85
                     have hr85 := Kd.F_cut (m := (x9_24 : Int).toNat) (c := co84) hC85 (by omega) hroom85
                     obtain ⟨A85, hA85⟩ : ∃ A1, A1 = (if co84 = (x9_24 : Int).toNat then Ao84 else (Ao84 : Option Addr).map (·.add ((x9_24 : Int).toNat * 1))) := ⟨_, rfl⟩
                     obtain ⟨c85, hc85⟩ : ∃ c1, c1 = co84 - (x9_24 : Int).toNat := ⟨_, rfl⟩
                     have hy85 : y459.length = x6_1.length - (x9_24 : Int).toNat := (by rw [Ny459.out, List.length_drop] <;> omega)
                     rw [show (x6_1).drop (x9_24 : Int).toNat = y459 from Ny459.out.symm] at hr85
                     replace hr85 : Kd.F (Kd.slice 3 (Kd.int .i64)) _ _ A85 y459.length y459 := (by rw [hA85]; exact hr85)
                     rw [← hy85, ← hA85, ← hc85] at hcut85
                     have HO463 := Aside0.mk (show Kd.V (Kd.slice 3 (Kd.int .i64)) 23 _ w.heap.size _ (.slice A85 y459.length c85) y459 from Kd.V_mk (by rw [hy85, hc85]; exact Nat.sub_le_sub_right hroom85 _) hr85)
                     have HC463 := Aside0.mk (show y459.length ≤ c85 from by rw [hy85, hc85]; exact Nat.sub_le_sub_right hroom85 _)
                     clear hr85 hC85 hroom85 hi085 hsz85 hc85
                     have KY85 := Aside0.mk hy85
                     have KA85 := Aside0.mk hA85
                     clear hy85 hA85
                     replace q85 := eq_true q85
                     refine start_ (n := 13) (S := fun w' => True) (ds := []) #[false, false, false, false, false, false, false, false, false, false, false, false, false] (by kernel_rfl) rfl rfl trivial (fun hHeld => ?_); refine with_tabW spec_l20Raw.tab17 spec_l20Raw.bits17 (fun HT_ HW_ => ?_)
                     generalize w81.drew = w82 at HO_5 HO_6 HO_8 HO420 HO438 HO430 HO441 HI0 HK HB HO449 HO463 hHeld ⊢
                     refine pu 1 88 ?_
                     refine pu 2 89 ?_
                     refine pu 3 90 ?_
                     refine pu 5 92 ?_
                     refine pu 8 95 ?_
                     refine pu 9 96 ?_
                     refine pu 10 97 ?_
                     refine join_ (σ := Value × Value × Value) 3 #[true, true, true, true, true, true, true, false, true, true, true, false, false] (fun s_ => [(87, s_.1), (91, s_.2.1), (93, s_.2.2)]) (fun s_ w' => (Kd.V (Kd.int .i64) 3 w' w.heap.size (fun k_ => some k_ ≠ (.slice Ao80 y428.length co80 : Value).ownBlock ∧ some k_ ≠ (v440 : Value).ownBlock ∧ some k_ ≠ (s_.2.1 : Value).ownBlock ∧ some k_ ≠ (s_.2.2 : Value).ownBlock ∧ some k_ ≠ (.slice Ao84 x6_1.length co84 : Value).ownBlock ∧ k_ ≠ g) (.slice Ao70 y416.length co70) y416) ∧ (Kd.R (Kd.int .i64) 3 w' w.heap.size (fun k_ => some k_ ≠ (v440 : Value).ownBlock ∧ some k_ ≠ (.slice Ao70 x5_1.length co70 : Value).ownBlock) (.slice Ao80 y428.length co80) y428) ∧ (Kd.V (Kd.int .i64) 3 w' w.heap.size (fun k_ => some k_ ≠ (.slice Ao80 y428.length co80 : Value).ownBlock ∧ some k_ ≠ (v440 : Value).ownBlock ∧ some k_ ≠ (s_.2.1 : Value).ownBlock ∧ some k_ ≠ (s_.2.2 : Value).ownBlock ∧ some k_ ≠ (.slice Ao84 x6_1.length co84 : Value).ownBlock ∧ k_ ≠ g) (.slice A71 y434.length c71) y434) ∧ (Kd.R (Kd.int .i64) 3 w' w.heap.size (fun k_ => some k_ ≠ (.slice Ao80 y428.length co80 : Value).ownBlock ∧ some k_ ≠ (.slice Ao70 x5_1.length co70 : Value).ownBlock) v440 y439) ∧ (Kd.V (Kd.slice 3 (Kd.int .i64)) 23 w' w.heap.size (fun k_ => some k_ ≠ (.slice Ao80 y428.length co80 : Value).ownBlock ∧ some k_ ≠ (v440 : Value).ownBlock ∧ some k_ ≠ (s_.2.1 : Value).ownBlock ∧ some k_ ≠ (s_.2.2 : Value).ownBlock ∧ some k_ ≠ (.slice Ao70 x5_1.length co70 : Value).ownBlock ∧ k_ ≠ g) (.slice Ao84 y445.length co84) y445) ∧ (Kd.N (Kd.slice 3 (Kd.int .i64)) 23 w' w.heap.size (fun k_ => some k_ ≠ (.slice Ao80 y428.length co80 : Value).ownBlock ∧ some k_ ≠ (v440 : Value).ownBlock ∧ some k_ ≠ (s_.2.2 : Value).ownBlock ∧ some k_ ≠ (.slice Ao70 x5_1.length co70 : Value).ownBlock ∧ k_ ≠ g) s_.2.1 y450) ∧ (Kd.N (Kd.slice 3 (Kd.int .i64)) 23 w' w.heap.size (fun k_ => some k_ ≠ (.slice Ao80 y428.length co80 : Value).ownBlock ∧ some k_ ≠ (v440 : Value).ownBlock ∧ some k_ ≠ (s_.2.1 : Value).ownBlock ∧ some k_ ≠ (.slice Ao70 x5_1.length co70 : Value).ownBlock ∧ some k_ ≠ (.slice Ao84 x6_1.length co84 : Value).ownBlock ∧ k_ ≠ g) s_.2.2 y453) ∧ (Kd.V (Kd.slice 3 (Kd.int .i64)) 23 w' w.heap.size (fun k_ => some k_ ≠ (.slice Ao80 y428.length co80 : Value).ownBlock ∧ some k_ ≠ (v440 : Value).ownBlock ∧ some k_ ≠ (s_.2.1 : Value).ownBlock ∧ some k_ ≠ (s_.2.2 : Value).ownBlock ∧ some k_ ≠ (.slice Ao70 x5_1.length co70 : Value).ownBlock ∧ k_ ≠ g) (.slice A85 y459.length c85) y459) ∧ (Kd.R (Kd.int .i64) 3 w' w.heap.size (fun k_ => some k_ ≠ (.slice Ao80 y428.length co80 : Value).ownBlock ∧ some k_ ≠ (v440 : Value).ownBlock) (.slice Ao70 x5_1.length co70) x5_1) ∧ (Kd.N (Kd.slice 3 (Kd.int .i64)) 23 w' w.heap.size (fun k_ => some k_ ≠ (.slice Ao80 y428.length co80 : Value).ownBlock ∧ some k_ ≠ (v440 : Value).ownBlock ∧ some k_ ≠ (s_.2.1 : Value).ownBlock ∧ some k_ ≠ (s_.2.2 : Value).ownBlock ∧ some k_ ≠ (.slice Ao70 x5_1.length co70 : Value).ownBlock ∧ k_ ≠ g) (.slice Ao84 x6_1.length co84) x6_1) ∧ (IsS64 w0 w' g s0_0 t427) ∧ (KeepBut w w' g none) ∧ (Below w0.heap.size w0 w')) ?_ ?_
                     rotate_left
                     ·intro hCont
                      refine two_ (i := 0) (j := 6) (Ni := some 87) (Nj := some 93) #[true, true, true, true, false, true, false, false, true, true, true, false, false] #[false, true, true, true, false, true, true, false, true, true, true, false, false] rfl rfl rfl rfl (two_of HT_.out (by kernel_rfl)) (by decide) (by decide) (fun K hK => ?_) (fun K hK => ?_)
                      ·skip
                       refine Kd.N_lit_step (Kd.slice 3 (Kd.int .i64)) _ 23 ?hg (N' := 87) ?hd (xs := ([] : List (List Int))) (inner := []) (ok := (fun k_ => some k_ ≠ (.slice Ao70 x5_1.length co70 : Value).ownBlock ∧ some k_ ≠ (.slice Ao84 x6_1.length co84 : Value).ownBlock ∧ some k_ ≠ (u8 : Value).ownBlock ∧ some k_ ≠ (.slice Ao80 y428.length co80 : Value).ownBlock ∧ some k_ ≠ (v440 : Value).ownBlock ∧ k_ ≠ g)) (okp := (fun k_ => some k_ ≠ (.slice Ao70 x5_1.length co70 : Value).ownBlock ∧ some k_ ≠ (.slice Ao84 x6_1.length co84 : Value).ownBlock ∧ some k_ ≠ (u8 : Value).ownBlock ∧ some k_ ≠ (.slice Ao80 y428.length co80 : Value).ownBlock ∧ some k_ ≠ (v440 : Value).ownBlock ∧ k_ ≠ g)) ?hr ?hp (fun _ hk => hk) ((show ∀ k_, w82.heap.size ≤ k_ → (fun k_ => some k_ ≠ (.slice Ao70 x5_1.length co70 : Value).ownBlock ∧ some k_ ≠ (.slice Ao84 x6_1.length co84 : Value).ownBlock ∧ some k_ ≠ (u8 : Value).ownBlock ∧ some k_ ≠ (.slice Ao80 y428.length co80 : Value).ownBlock ∧ some k_ ≠ (v440 : Value).ownBlock ∧ k_ ≠ g) k_ from fun k_ hk => ⟨Kd.fresh' (Kd.R_lt (rR HO_5.out)) k_ hk, Kd.fresh' (Kd.N_lt (rN HO_6.out)) k_ hk, Kd.fresh' (Kd.R_lt (rR HO_8.out)) k_ hk, Kd.fresh' (Kd.R_lt (rR HO430.out)) k_ hk, Kd.fresh' (Kd.R_lt (rR HO441.out)) k_ hk, IsS64.fresh (is64 HI0.out) k_ hk⟩) _ (Nat.le_refl _)) (Below.refl _ _) (Nat.le_refl _) (by simp) ?_; (case hd => rfl); (case hg => rfl); (case hr => first | (go_simp; done) | (go_simp; rfl)); (case hp => exact (Reps.none _ _))
                       intro v443 w86 ho87 hb hg_ hnew_
                       clear hg_ hnew_
                       (first | rw [← Ny442.out] at ho87 | (simp only [Int.reduceToNat] at ho87; rw [← Ny442.out] at ho87))
                       replace HO_5 := Aside0.mk (Kd.R_below (rR HO_5.out) hb)
                       replace HO_6 := Aside0.mk (Kd.N_elder' (rN HO_6.out) (Kd.N_base ho87) hb)
                       replace HO_8 := Aside0.mk (Kd.R_below (rR HO_8.out) hb)
                       replace HO420 := Aside0.mk (Kd.V_elder' (rV HO420.out) (Kd.N_base ho87) hb)
                       replace HO438 := Aside0.mk (Kd.V_elder' (rV HO438.out) (Kd.N_base ho87) hb)
                       replace HO430 := Aside0.mk (Kd.R_below (rR HO430.out) hb)
                       replace HO441 := Aside0.mk (Kd.R_below (rR HO441.out) hb)
                       replace HO449 := Aside0.mk (Kd.V_elder' (rV HO449.out) (Kd.N_base ho87) hb)
                       replace HO463 := Aside0.mk (Kd.V_elder' (rV HO463.out) (Kd.N_base ho87) hb)
                       have HO444 := Aside0.mk (Kd.N_lower ho87 (keep_size (w := w) (g := g) (row := none) (kb HK.out)))
                       have n10_ := Aside0.mk (IsS64.below (is64 HI0.out) hb)
                       replace HK := Aside0.mk (KeepBut.trans (kb HK.out) (KeepBut.of_below hb g none) (.inl rfl))
                       replace HB := Aside0.mk (below_step (bi64 HB.out HI0.out) hb)
                       replace HI0 := n10_
                       clear n10_
                       clear hb ho87
                       refine hK.out _ _ trivial (fun hHeld => ?_)
                       clear hK K
                       refine nm 87 ?_
                       refine two_ (i := 4) (j := 6) (Ni := some 91) (Nj := some 93) #[true, true, true, true, true, true, false, false, true, true, true, false, false] #[true, true, true, true, false, true, true, false, true, true, true, false, false] rfl rfl rfl rfl (two_of HT_.out (by kernel_rfl)) (by decide) (by decide) (fun K hK => ?_) (fun K hK => ?_)
                       ·skip
                        refine Kd.N_append_rows_step (Kd.slice 3 (Kd.int .i64)) w.heap.size (by rfl) (.tmp 87) (.tmp 90) 36 23 (.slice none 0 0) 24 rfl Try.underlying36 info23 rfl (by decide) (by omega) v443 y442 y445 _ _ _ (fun k_ => some k_ ≠ (.slice Ao70 x5_1.length co70 : Value).ownBlock ∧ some k_ ≠ (u8 : Value).ownBlock ∧ some k_ ≠ (.slice Ao80 y428.length co80 : Value).ownBlock ∧ some k_ ≠ (v440 : Value).ownBlock ∧ k_ ≠ g) (fun k_ => ((fun k_ => some k_ ≠ (.slice Ao70 x5_1.length co70 : Value).ownBlock ∧ some k_ ≠ (u8 : Value).ownBlock ∧ some k_ ≠ (.slice Ao80 y428.length co80 : Value).ownBlock ∧ some k_ ≠ (v440 : Value).ownBlock ∧ k_ ≠ g)) k_ ∧ some k_ ≠ (v443 : Value).ownBlock) rfl rfl ?aO ?aR (fun _ hk => hk) ?aF (Below.refl _ _) ?aS ?aL ?_
                        (case aR => exact (by skip; exact Kd.V_F (Kd.V_mono (ok' := (fun k_ => ((fun k_ => some k_ ≠ (.slice Ao70 x5_1.length co70 : Value).ownBlock ∧ some k_ ≠ (u8 : Value).ownBlock ∧ some k_ ≠ (.slice Ao80 y428.length co80 : Value).ownBlock ∧ some k_ ≠ (v440 : Value).ownBlock ∧ k_ ≠ g)) k_ ∧ some k_ ≠ (v443 : Value).ownBlock)) (HO449.out) (fun k_ hk => ⟨⟨hk.1.1.1, ⟨hk.1.1.2.1, ⟨hk.1.1.2.2.1, ⟨hk.1.2, hk.1.1.2.2.2⟩⟩⟩⟩, hk.2⟩))))
                        (case aF => exact (fun k_ hk => ⟨Kd.fresh' (Kd.R_lt (rR HO_5.out)) k_ hk, Kd.fresh' (Kd.R_lt (rR HO_8.out)) k_ hk, Kd.fresh' (Kd.R_lt (rR HO430.out)) k_ hk, Kd.fresh' (Kd.R_lt (rR HO441.out)) k_ hk, IsS64.fresh (is64 HI0.out) k_ hk⟩))
                        (case aO => exact (by (with_reducible repeat (first | apply Kd.N_alloc | apply Kd.N_drewN | apply Kd.N_drew)); exact Kd.N_mono HO444.out (fun _ hk => ⟨hk.1, ⟨hk.2.2.1, ⟨hk.2.2.2.1, ⟨hk.2.2.2.2.1, hk.2.2.2.2.2⟩⟩⟩⟩)))
                        (case aS => exact (keep_size (w := w) (g := g) (row := none) (kb HK.out)))
                        (case aL => have := LMc63.out; omega)
                        intro v451 w88 ho hb hg hat
                        rw [← Ny450.out] at ho
                        replace HO_5 := Aside0.mk (Kd.R_over' (rR HO_5.out) (Kd.N_typed (rN HO444.out)) (by decide) hg)
                        replace HO_6 := Aside0.mk (Kd.N_afterv (ok := (fun k_ => some k_ ≠ (.slice Ao70 x5_1.length co70 : Value).ownBlock ∧ some k_ ≠ (u8 : Value).ownBlock ∧ some k_ ≠ (.slice Ao80 y428.length co80 : Value).ownBlock ∧ some k_ ≠ (v440 : Value).ownBlock ∧ k_ ≠ g)) (by (with_reducible repeat (first | apply Kd.N_alloc | apply Kd.N_drewN | apply Kd.N_drew)); exact Kd.N_mono HO_6.out (fun _ hk => ⟨⟨hk.1.1.1, ⟨hk.1.1.2.1, ⟨hk.1.1.2.2.1, ⟨hk.1.2, hk.1.1.2.2.2⟩⟩⟩⟩, hk.2⟩)) hg hat)
                        replace HO_8 := Aside0.mk (Kd.R_over' (rR HO_8.out) (Kd.N_typed (rN HO444.out)) (by decide) hg)
                        have n3_ := Aside0.mk (IsS64.grown (is64 HI0.out) hg (IsS64.own_neN HI0.out HO444.out (by decide)))
                        replace HO420 := Aside0.mk (Kd.V_afterv (ok := (fun k_ => some k_ ≠ (.slice Ao84 x6_1.length co84 : Value).ownBlock ∧ some k_ ≠ (u8 : Value).ownBlock ∧ some k_ ≠ (.slice Ao80 y428.length co80 : Value).ownBlock ∧ some k_ ≠ (v440 : Value).ownBlock ∧ k_ ≠ g)) (by (with_reducible repeat (first | apply Kd.V_alloc | apply Kd.V_drewN | apply Kd.V_drew)); exact Kd.V_mono HO420.out (fun _ hk => ⟨⟨hk.1.1.1, ⟨hk.1.1.2.1, ⟨hk.1.1.2.2.1, ⟨hk.1.2, hk.1.1.2.2.2⟩⟩⟩⟩, hk.2⟩)) hg hat)
                        replace HO438 := Aside0.mk (Kd.V_afterv (ok := (fun k_ => some k_ ≠ (.slice Ao84 x6_1.length co84 : Value).ownBlock ∧ some k_ ≠ (u8 : Value).ownBlock ∧ some k_ ≠ (.slice Ao80 y428.length co80 : Value).ownBlock ∧ some k_ ≠ (v440 : Value).ownBlock ∧ k_ ≠ g)) (by (with_reducible repeat (first | apply Kd.V_alloc | apply Kd.V_drewN | apply Kd.V_drew)); exact Kd.V_mono HO438.out (fun _ hk => ⟨⟨hk.1.1.1, ⟨hk.1.1.2.1, ⟨hk.1.1.2.2.1, ⟨hk.1.2, hk.1.1.2.2.2⟩⟩⟩⟩, hk.2⟩)) hg hat)
                        replace HO430 := Aside0.mk (Kd.R_over' (rR HO430.out) (Kd.N_typed (rN HO444.out)) (by decide) hg)
                        replace HO441 := Aside0.mk (Kd.R_over' (rR HO441.out) (Kd.N_typed (rN HO444.out)) (by decide) hg)
                        replace HO449 := Aside0.mk (Kd.V_afterv (ok := (fun k_ => some k_ ≠ (.slice Ao70 x5_1.length co70 : Value).ownBlock ∧ some k_ ≠ (u8 : Value).ownBlock ∧ some k_ ≠ (.slice Ao80 y428.length co80 : Value).ownBlock ∧ some k_ ≠ (v440 : Value).ownBlock ∧ k_ ≠ g)) (by (with_reducible repeat (first | apply Kd.V_alloc | apply Kd.V_drewN | apply Kd.V_drew)); exact Kd.V_mono HO449.out (fun _ hk => ⟨⟨hk.1.1.1, ⟨hk.1.1.2.1, ⟨hk.1.1.2.2.1, ⟨hk.1.2, hk.1.1.2.2.2⟩⟩⟩⟩, hk.2⟩)) hg hat)
                        replace HO463 := Aside0.mk (Kd.V_afterv (ok := (fun k_ => some k_ ≠ (.slice Ao70 x5_1.length co70 : Value).ownBlock ∧ some k_ ≠ (u8 : Value).ownBlock ∧ some k_ ≠ (.slice Ao80 y428.length co80 : Value).ownBlock ∧ some k_ ≠ (v440 : Value).ownBlock ∧ k_ ≠ g)) (by (with_reducible repeat (first | apply Kd.V_alloc | apply Kd.V_drewN | apply Kd.V_drew)); exact Kd.V_mono HO463.out (fun _ hk => ⟨⟨hk.1.1.1, ⟨hk.1.1.2.1, ⟨hk.1.1.2.2.1, ⟨hk.1.2, hk.1.1.2.2.2⟩⟩⟩⟩, hk.2⟩)) hg hat)
                        replace HB := Aside0.mk (below_weaken (bi64 HB.out HI0.out) HL.out hb)
                        replace HK := Aside0.mk (KeepBut.trans (kb HK.out) (KeepBut.of_grown hg g) (Kd.N_base2 HO444.out))
                        have HO452 := Aside0.mk (ho)
                        clear HO444
                        replace HI0 := n3_
                        clear n3_
                        clear ho hb hg hat
                        obtain ⟨Ao89, co89, eo89⟩ := Kd.R_slice HO_8.out
                        (first | subst eo89 | (injection eo89 with f1_ f2_ f3_; have f4_ := f1_.symm; have f5_ := f3_.symm; clear f1_ f2_ f3_; subst f4_; subst f5_))
                        refine hK.out _ _ trivial (fun hHeld => ?_)
                        clear hK K
                        refine nm 91 ?_
                        refine one_ (i := 6) (N := some 93) #[true, true, true, true, true, true, true, false, true, true, true, false, false] rfl rfl (one_of HT_.out (by kernel_rfl)) (by decide) (fun K hK => ?_)
                        refine Kd.N_lit_step (Kd.slice 3 (Kd.int .i64)) _ 23 ?hg (N' := 93) ?hd (xs := ([x8_15] : List (List Int))) (inner := [.slice Ao89 x8_15.length co89]) (ok := (fun k_ => some k_ ≠ (.slice Ao70 x5_1.length co70 : Value).ownBlock ∧ some k_ ≠ (.slice Ao84 x6_1.length co84 : Value).ownBlock ∧ some k_ ≠ (.slice Ao80 y428.length co80 : Value).ownBlock ∧ some k_ ≠ (v440 : Value).ownBlock ∧ some k_ ≠ (v451 : Value).ownBlock ∧ k_ ≠ g)) (okp := (fun k_ => some k_ ≠ (.slice Ao70 x5_1.length co70 : Value).ownBlock ∧ some k_ ≠ (.slice Ao84 x6_1.length co84 : Value).ownBlock ∧ some k_ ≠ (.slice Ao80 y428.length co80 : Value).ownBlock ∧ some k_ ≠ (v440 : Value).ownBlock ∧ some k_ ≠ (v451 : Value).ownBlock ∧ k_ ≠ g)) ?hr ?hp (fun _ hk => hk) ((show ∀ k_, w88.heap.size ≤ k_ → (fun k_ => some k_ ≠ (.slice Ao70 x5_1.length co70 : Value).ownBlock ∧ some k_ ≠ (.slice Ao84 x6_1.length co84 : Value).ownBlock ∧ some k_ ≠ (.slice Ao80 y428.length co80 : Value).ownBlock ∧ some k_ ≠ (v440 : Value).ownBlock ∧ some k_ ≠ (v451 : Value).ownBlock ∧ k_ ≠ g) k_ from fun k_ hk => ⟨Kd.fresh' (Kd.R_lt (rR HO_5.out)) k_ hk, Kd.fresh' (Kd.N_lt (rN HO_6.out)) k_ hk, Kd.fresh' (Kd.R_lt (rR HO430.out)) k_ hk, Kd.fresh' (Kd.R_lt (rR HO441.out)) k_ hk, Kd.fresh' (Kd.N_lt (rN HO452.out)) k_ hk, IsS64.fresh (is64 HI0.out) k_ hk⟩) _ (Nat.le_refl _)) (Below.refl _ _) (Nat.le_refl _) (by simp) ?_; (case hd => rfl); (case hg => rfl); (case hr => first | (go_simp; done) | (go_simp; rfl)); (case hp => exact (Reps.one (show Kd.FK (Kd.slice 3 (Kd.int .i64)) _ _ x8_15 [.slice Ao89 x8_15.length co89] from (Kd.FK_slice_mk (Kd.R_reads' (Kd.R_mono (ok' := (fun k_ => some k_ ≠ (.slice Ao70 x5_1.length co70 : Value).ownBlock ∧ some k_ ≠ (.slice Ao84 x6_1.length co84 : Value).ownBlock ∧ some k_ ≠ (.slice Ao80 y428.length co80 : Value).ownBlock ∧ some k_ ≠ (v440 : Value).ownBlock ∧ some k_ ≠ (v451 : Value).ownBlock ∧ k_ ≠ g)) (IsS64.apart HI0.out (Kd.R_apart' (Kd.R_apart' (HO_8.out) (Kd.N_typed HO_6.out) (by decide)) (Kd.N_typed HO452.out) (by decide)) (by decide)) (fun k_ hk => ⟨hk.1.1.1.1.1, ⟨hk.1.1.2, ⟨hk.1.1.1.1.2, ⟨hk.1.1.1.2, ⟨hk.1.2, hk.2⟩⟩⟩⟩⟩))).2.1 (Kd.R_F (Kd.R_mono (ok' := (fun k_ => some k_ ≠ (.slice Ao70 x5_1.length co70 : Value).ownBlock ∧ some k_ ≠ (.slice Ao84 x6_1.length co84 : Value).ownBlock ∧ some k_ ≠ (.slice Ao80 y428.length co80 : Value).ownBlock ∧ some k_ ≠ (v440 : Value).ownBlock ∧ some k_ ≠ (v451 : Value).ownBlock ∧ k_ ≠ g)) (IsS64.apart HI0.out (Kd.R_apart' (Kd.R_apart' (HO_8.out) (Kd.N_typed HO_6.out) (by decide)) (Kd.N_typed HO452.out) (by decide)) (by decide)) (fun k_ hk => ⟨hk.1.1.1.1.1, ⟨hk.1.1.2, ⟨hk.1.1.1.1.2, ⟨hk.1.1.1.2, ⟨hk.1.2, hk.2⟩⟩⟩⟩⟩))))) (Reps.none _ _)))
                        intro v454 w90 ho91 hb hg_ hnew_
                        clear hg_ hnew_
                        (first | rw [← Ny453.out] at ho91 | (simp only [Int.reduceToNat] at ho91; rw [← Ny453.out] at ho91))
                        replace HO_5 := Aside0.mk (Kd.R_below (rR HO_5.out) hb)
                        replace HO_6 := Aside0.mk (Kd.N_elder' (rN HO_6.out) (Kd.N_base ho91) hb)
                        replace HO420 := Aside0.mk (Kd.V_elder' (rV HO420.out) (Kd.N_base ho91) hb)
                        replace HO438 := Aside0.mk (Kd.V_elder' (rV HO438.out) (Kd.N_base ho91) hb)
                        replace HO430 := Aside0.mk (Kd.R_below (rR HO430.out) hb)
                        replace HO441 := Aside0.mk (Kd.R_below (rR HO441.out) hb)
                        replace HO449 := Aside0.mk (Kd.V_elder' (rV HO449.out) (Kd.N_base ho91) hb)
                        replace HO463 := Aside0.mk (Kd.V_elder' (rV HO463.out) (Kd.N_base ho91) hb)
                        replace HO452 := Aside0.mk (Kd.N_elder' (rN HO452.out) (Kd.N_base ho91) hb)
                        have HO455 := Aside0.mk (Kd.N_lower ho91 (keep_size (w := w) (g := g) (row := none) (kb HK.out)))
                        have n10_ := Aside0.mk (IsS64.below (is64 HI0.out) hb)
                        replace HK := Aside0.mk (KeepBut.trans (kb HK.out) (KeepBut.of_below hb g none) (.inl rfl))
                        replace HB := Aside0.mk (below_step (bi64 HB.out HI0.out) hb)
                        clear HO_8
                        replace HI0 := n10_
                        clear n10_
                        clear hb ho91
                        refine hK.out _ _ trivial (fun hHeld => ?_)
                        clear hK K
                        refine nm 93 ?_
                        exact norm_ (by simp only [putAll, Act.put, List.setIfInBounds_toArray, List.set_cons_zero, List.set_cons_succ]) (hCont (v443, v451, v454) _ ⟨(by (with_reducible repeat (first | apply Kd.V_alloc | apply Kd.V_drewN | apply Kd.V_drew)); exact Kd.V_mono HO420.out (fun _ hk => ⟨hk.1.1.2.2.1, ⟨hk.1.1.2.2.2.1, ⟨hk.1.2, ⟨hk.2, ⟨hk.1.1.1, hk.1.1.2.2.2.2⟩⟩⟩⟩⟩)), (by (with_reducible repeat (first | apply Kd.R_alloc | apply Kd.R_drewN | apply Kd.R_drew)); exact Kd.R_mono HO430.out (fun _ hk => ⟨hk.2, hk.1.1⟩)), (by (with_reducible repeat (first | apply Kd.V_alloc | apply Kd.V_drewN | apply Kd.V_drew)); exact Kd.V_mono HO438.out (fun _ hk => ⟨hk.1.1.2.2.1, ⟨hk.1.1.2.2.2.1, ⟨hk.1.2, ⟨hk.2, ⟨hk.1.1.1, hk.1.1.2.2.2.2⟩⟩⟩⟩⟩)), (by (with_reducible repeat (first | apply Kd.R_alloc | apply Kd.R_drewN | apply Kd.R_drew)); exact Kd.R_mono HO441.out (fun _ hk => ⟨hk.2.2, hk.1⟩)), (by (with_reducible repeat (first | apply Kd.V_alloc | apply Kd.V_drewN | apply Kd.V_drew)); exact Kd.V_mono HO449.out (fun _ hk => ⟨hk.1.1.2.2.1, ⟨hk.1.1.2.2.2.1, ⟨hk.1.2, ⟨hk.2, ⟨hk.1.1.1, hk.1.1.2.2.2.2⟩⟩⟩⟩⟩)), (by (with_reducible repeat (first | apply Kd.N_alloc | apply Kd.N_drewN | apply Kd.N_drew)); exact Kd.N_mono HO452.out (fun _ hk => ⟨hk.1.2.2.1, ⟨hk.1.2.2.2.1, ⟨hk.2, ⟨hk.1.1, hk.1.2.2.2.2⟩⟩⟩⟩)), (by (with_reducible repeat (first | apply Kd.N_alloc | apply Kd.N_drewN | apply Kd.N_drew)); exact Kd.N_mono HO455.out (fun _ hk => ⟨hk.2.2.1, ⟨hk.2.2.2.1, ⟨hk.2.2.2.2.1, ⟨hk.1, ⟨hk.2.1, hk.2.2.2.2.2⟩⟩⟩⟩⟩)), (by (with_reducible repeat (first | apply Kd.V_alloc | apply Kd.V_drewN | apply Kd.V_drew)); exact Kd.V_mono HO463.out (fun _ hk => ⟨hk.1.1.2.2.1, ⟨hk.1.1.2.2.2.1, ⟨hk.1.2, ⟨hk.2, ⟨hk.1.1.1, hk.1.1.2.2.2.2⟩⟩⟩⟩⟩)), (by (with_reducible repeat (first | apply Kd.R_alloc | apply Kd.R_drewN | apply Kd.R_drew)); exact Kd.R_mono HO_5.out (fun _ hk => ⟨hk.1.2, hk.2⟩)), (by (with_reducible repeat (first | apply Kd.N_alloc | apply Kd.N_drewN | apply Kd.N_drew)); exact Kd.N_mono HO_6.out (fun _ hk => ⟨hk.1.1.2.2.1, ⟨hk.1.1.2.2.2.1, ⟨hk.1.2, ⟨hk.2, ⟨hk.1.1.1, hk.1.1.2.2.2.2⟩⟩⟩⟩⟩)), (is64 HI0.out), (kb HK.out), (bi64 HB.out HI0.out)⟩)
                       ·skip
                        obtain ⟨Ao88, co88, eo88⟩ := Kd.R_slice HO_8.out
                        subst eo88
                        refine Kd.N_lit_step (Kd.slice 3 (Kd.int .i64)) _ 23 ?hg (N' := 93) ?hd (xs := ([x8_15] : List (List Int))) (inner := [.slice Ao88 x8_15.length co88]) (ok := (fun k_ => some k_ ≠ (.slice Ao70 x5_1.length co70 : Value).ownBlock ∧ some k_ ≠ (.slice Ao84 x6_1.length co84 : Value).ownBlock ∧ some k_ ≠ (.slice Ao80 y428.length co80 : Value).ownBlock ∧ some k_ ≠ (v440 : Value).ownBlock ∧ some k_ ≠ (v443 : Value).ownBlock ∧ k_ ≠ g)) (okp := (fun k_ => some k_ ≠ (.slice Ao70 x5_1.length co70 : Value).ownBlock ∧ some k_ ≠ (.slice Ao84 x6_1.length co84 : Value).ownBlock ∧ some k_ ≠ (.slice Ao80 y428.length co80 : Value).ownBlock ∧ some k_ ≠ (v440 : Value).ownBlock ∧ some k_ ≠ (v443 : Value).ownBlock ∧ k_ ≠ g)) ?hr ?hp (fun _ hk => hk) ((show ∀ k_, w86.heap.size ≤ k_ → (fun k_ => some k_ ≠ (.slice Ao70 x5_1.length co70 : Value).ownBlock ∧ some k_ ≠ (.slice Ao84 x6_1.length co84 : Value).ownBlock ∧ some k_ ≠ (.slice Ao80 y428.length co80 : Value).ownBlock ∧ some k_ ≠ (v440 : Value).ownBlock ∧ some k_ ≠ (v443 : Value).ownBlock ∧ k_ ≠ g) k_ from fun k_ hk => ⟨Kd.fresh' (Kd.R_lt (rR HO_5.out)) k_ hk, Kd.fresh' (Kd.N_lt (rN HO_6.out)) k_ hk, Kd.fresh' (Kd.R_lt (rR HO430.out)) k_ hk, Kd.fresh' (Kd.R_lt (rR HO441.out)) k_ hk, Kd.fresh' (Kd.N_lt (rN HO444.out)) k_ hk, IsS64.fresh (is64 HI0.out) k_ hk⟩) _ (Nat.le_refl _)) (Below.refl _ _) (Nat.le_refl _) (by simp) ?_; (case hd => rfl); (case hg => rfl); (case hr => first | (go_simp; done) | (go_simp; rfl)); (case hp => exact (Reps.one (show Kd.FK (Kd.slice 3 (Kd.int .i64)) _ _ x8_15 [.slice Ao88 x8_15.length co88] from (Kd.FK_slice_mk (Kd.R_reads' (Kd.R_mono (ok' := (fun k_ => some k_ ≠ (.slice Ao70 x5_1.length co70 : Value).ownBlock ∧ some k_ ≠ (.slice Ao84 x6_1.length co84 : Value).ownBlock ∧ some k_ ≠ (.slice Ao80 y428.length co80 : Value).ownBlock ∧ some k_ ≠ (v440 : Value).ownBlock ∧ some k_ ≠ (v443 : Value).ownBlock ∧ k_ ≠ g)) (IsS64.apart HI0.out (Kd.R_apart' (Kd.R_apart' (HO_8.out) (Kd.N_typed HO_6.out) (by decide)) (Kd.N_typed HO444.out) (by decide)) (by decide)) (fun k_ hk => ⟨hk.1.1.1.1.1, ⟨hk.1.1.2, ⟨hk.1.1.1.1.2, ⟨hk.1.1.1.2, ⟨hk.1.2, hk.2⟩⟩⟩⟩⟩))).2.1 (Kd.R_F (Kd.R_mono (ok' := (fun k_ => some k_ ≠ (.slice Ao70 x5_1.length co70 : Value).ownBlock ∧ some k_ ≠ (.slice Ao84 x6_1.length co84 : Value).ownBlock ∧ some k_ ≠ (.slice Ao80 y428.length co80 : Value).ownBlock ∧ some k_ ≠ (v440 : Value).ownBlock ∧ some k_ ≠ (v443 : Value).ownBlock ∧ k_ ≠ g)) (IsS64.apart HI0.out (Kd.R_apart' (Kd.R_apart' (HO_8.out) (Kd.N_typed HO_6.out) (by decide)) (Kd.N_typed HO444.out) (by decide)) (by decide)) (fun k_ hk => ⟨hk.1.1.1.1.1, ⟨hk.1.1.2, ⟨hk.1.1.1.1.2, ⟨hk.1.1.1.2, ⟨hk.1.2, hk.2⟩⟩⟩⟩⟩))))) (Reps.none _ _)))
                        intro v454 w89 ho90 hb hg_ hnew_
                        clear hg_ hnew_
                        (first | rw [← Ny453.out] at ho90 | (simp only [Int.reduceToNat] at ho90; rw [← Ny453.out] at ho90))
                        replace HO_5 := Aside0.mk (Kd.R_below (rR HO_5.out) hb)
                        replace HO_6 := Aside0.mk (Kd.N_elder' (rN HO_6.out) (Kd.N_base ho90) hb)
                        replace HO420 := Aside0.mk (Kd.V_elder' (rV HO420.out) (Kd.N_base ho90) hb)
                        replace HO438 := Aside0.mk (Kd.V_elder' (rV HO438.out) (Kd.N_base ho90) hb)
                        replace HO430 := Aside0.mk (Kd.R_below (rR HO430.out) hb)
                        replace HO441 := Aside0.mk (Kd.R_below (rR HO441.out) hb)
                        replace HO449 := Aside0.mk (Kd.V_elder' (rV HO449.out) (Kd.N_base ho90) hb)
                        replace HO463 := Aside0.mk (Kd.V_elder' (rV HO463.out) (Kd.N_base ho90) hb)
                        replace HO444 := Aside0.mk (Kd.N_elder' (rN HO444.out) (Kd.N_base ho90) hb)
                        have HO455 := Aside0.mk (Kd.N_lower ho90 (keep_size (w := w) (g := g) (row := none) (kb HK.out)))
                        have n10_ := Aside0.mk (IsS64.below (is64 HI0.out) hb)
                        replace HK := Aside0.mk (KeepBut.trans (kb HK.out) (KeepBut.of_below hb g none) (.inl rfl))
                        replace HB := Aside0.mk (below_step (bi64 HB.out HI0.out) hb)
                        clear HO_8
                        replace HI0 := n10_
                        clear n10_
                        clear hb ho90
                        refine hK.out _ _ trivial (fun hHeld => ?_)
                        clear hK K
                        refine nm 93 ?_
                        refine one_ (i := 4) (N := some 91) #[true, true, true, true, true, true, true, false, true, true, true, false, false] rfl rfl (one_of HT_.out (by kernel_rfl)) (by decide) (fun K hK => ?_)
                        refine Kd.N_append_rows_step (Kd.slice 3 (Kd.int .i64)) w.heap.size (by rfl) (.tmp 87) (.tmp 90) 36 23 (.slice none 0 0) 24 rfl Try.underlying36 info23 rfl (by decide) (by omega) v443 y442 y445 _ _ _ (fun k_ => some k_ ≠ (.slice Ao70 x5_1.length co70 : Value).ownBlock ∧ some k_ ≠ (.slice Ao80 y428.length co80 : Value).ownBlock ∧ some k_ ≠ (v440 : Value).ownBlock ∧ some k_ ≠ (v454 : Value).ownBlock ∧ k_ ≠ g) (fun k_ => ((fun k_ => some k_ ≠ (.slice Ao70 x5_1.length co70 : Value).ownBlock ∧ some k_ ≠ (.slice Ao80 y428.length co80 : Value).ownBlock ∧ some k_ ≠ (v440 : Value).ownBlock ∧ some k_ ≠ (v454 : Value).ownBlock ∧ k_ ≠ g)) k_ ∧ some k_ ≠ (v443 : Value).ownBlock) rfl rfl ?aO ?aR (fun _ hk => hk) ?aF (Below.refl _ _) ?aS ?aL ?_
                        (case aR => exact (by skip; exact Kd.V_F (Kd.V_mono (ok' := (fun k_ => ((fun k_ => some k_ ≠ (.slice Ao70 x5_1.length co70 : Value).ownBlock ∧ some k_ ≠ (.slice Ao80 y428.length co80 : Value).ownBlock ∧ some k_ ≠ (v440 : Value).ownBlock ∧ some k_ ≠ (v454 : Value).ownBlock ∧ k_ ≠ g)) k_ ∧ some k_ ≠ (v443 : Value).ownBlock)) (HO449.out) (fun k_ hk => ⟨⟨hk.1.1.1.1, ⟨hk.1.1.1.2.2.1, ⟨hk.1.1.2, ⟨hk.2, hk.1.1.1.2.2.2⟩⟩⟩⟩, hk.1.2⟩))))
                        (case aF => exact (fun k_ hk => ⟨Kd.fresh' (Kd.R_lt (rR HO_5.out)) k_ hk, Kd.fresh' (Kd.R_lt (rR HO430.out)) k_ hk, Kd.fresh' (Kd.R_lt (rR HO441.out)) k_ hk, Kd.fresh' (Kd.N_lt (rN HO455.out)) k_ hk, IsS64.fresh (is64 HI0.out) k_ hk⟩))
                        (case aO => exact (by (with_reducible repeat (first | apply Kd.N_alloc | apply Kd.N_drewN | apply Kd.N_drew)); exact Kd.N_mono HO444.out (fun _ hk => ⟨hk.1.1, ⟨hk.1.2.2.2.1, ⟨hk.1.2.2.2.2.1, ⟨hk.2, hk.1.2.2.2.2.2⟩⟩⟩⟩)))
                        (case aS => exact (keep_size (w := w) (g := g) (row := none) (kb HK.out)))
                        (case aL => have := LMc63.out; omega)
                        intro v451 w91 ho hb hg hat
                        rw [← Ny450.out] at ho
                        replace HO_5 := Aside0.mk (Kd.R_over' (rR HO_5.out) (Kd.N_typed (rN HO444.out)) (by decide) hg)
                        replace HO_6 := Aside0.mk (Kd.N_afterv (ok := (fun k_ => some k_ ≠ (.slice Ao70 x5_1.length co70 : Value).ownBlock ∧ some k_ ≠ (.slice Ao80 y428.length co80 : Value).ownBlock ∧ some k_ ≠ (v440 : Value).ownBlock ∧ some k_ ≠ (v454 : Value).ownBlock ∧ k_ ≠ g)) (by (with_reducible repeat (first | apply Kd.N_alloc | apply Kd.N_drewN | apply Kd.N_drew)); exact Kd.N_mono HO_6.out (fun _ hk => ⟨⟨hk.1.1.1.1, ⟨hk.1.1.1.2.2.1, ⟨hk.1.1.2, ⟨hk.2, hk.1.1.1.2.2.2⟩⟩⟩⟩, hk.1.2⟩)) hg hat)
                        have n2_ := Aside0.mk (IsS64.grown (is64 HI0.out) hg (IsS64.own_neN HI0.out HO444.out (by decide)))
                        replace HO420 := Aside0.mk (Kd.V_afterv (ok := (fun k_ => some k_ ≠ (.slice Ao84 x6_1.length co84 : Value).ownBlock ∧ some k_ ≠ (.slice Ao80 y428.length co80 : Value).ownBlock ∧ some k_ ≠ (v440 : Value).ownBlock ∧ some k_ ≠ (v454 : Value).ownBlock ∧ k_ ≠ g)) (by (with_reducible repeat (first | apply Kd.V_alloc | apply Kd.V_drewN | apply Kd.V_drew)); exact Kd.V_mono HO420.out (fun _ hk => ⟨⟨hk.1.1.1.1, ⟨hk.1.1.1.2.2.1, ⟨hk.1.1.2, ⟨hk.2, hk.1.1.1.2.2.2⟩⟩⟩⟩, hk.1.2⟩)) hg hat)
                        replace HO438 := Aside0.mk (Kd.V_afterv (ok := (fun k_ => some k_ ≠ (.slice Ao84 x6_1.length co84 : Value).ownBlock ∧ some k_ ≠ (.slice Ao80 y428.length co80 : Value).ownBlock ∧ some k_ ≠ (v440 : Value).ownBlock ∧ some k_ ≠ (v454 : Value).ownBlock ∧ k_ ≠ g)) (by (with_reducible repeat (first | apply Kd.V_alloc | apply Kd.V_drewN | apply Kd.V_drew)); exact Kd.V_mono HO438.out (fun _ hk => ⟨⟨hk.1.1.1.1, ⟨hk.1.1.1.2.2.1, ⟨hk.1.1.2, ⟨hk.2, hk.1.1.1.2.2.2⟩⟩⟩⟩, hk.1.2⟩)) hg hat)
                        replace HO430 := Aside0.mk (Kd.R_over' (rR HO430.out) (Kd.N_typed (rN HO444.out)) (by decide) hg)
                        replace HO441 := Aside0.mk (Kd.R_over' (rR HO441.out) (Kd.N_typed (rN HO444.out)) (by decide) hg)
                        replace HO449 := Aside0.mk (Kd.V_afterv (ok := (fun k_ => some k_ ≠ (.slice Ao70 x5_1.length co70 : Value).ownBlock ∧ some k_ ≠ (.slice Ao80 y428.length co80 : Value).ownBlock ∧ some k_ ≠ (v440 : Value).ownBlock ∧ some k_ ≠ (v454 : Value).ownBlock ∧ k_ ≠ g)) (by (with_reducible repeat (first | apply Kd.V_alloc | apply Kd.V_drewN | apply Kd.V_drew)); exact Kd.V_mono HO449.out (fun _ hk => ⟨⟨hk.1.1.1.1, ⟨hk.1.1.1.2.2.1, ⟨hk.1.1.2, ⟨hk.2, hk.1.1.1.2.2.2⟩⟩⟩⟩, hk.1.2⟩)) hg hat)
                        replace HO463 := Aside0.mk (Kd.V_afterv (ok := (fun k_ => some k_ ≠ (.slice Ao70 x5_1.length co70 : Value).ownBlock ∧ some k_ ≠ (.slice Ao80 y428.length co80 : Value).ownBlock ∧ some k_ ≠ (v440 : Value).ownBlock ∧ some k_ ≠ (v454 : Value).ownBlock ∧ k_ ≠ g)) (by (with_reducible repeat (first | apply Kd.V_alloc | apply Kd.V_drewN | apply Kd.V_drew)); exact Kd.V_mono HO463.out (fun _ hk => ⟨⟨hk.1.1.1.1, ⟨hk.1.1.1.2.2.1, ⟨hk.1.1.2, ⟨hk.2, hk.1.1.1.2.2.2⟩⟩⟩⟩, hk.1.2⟩)) hg hat)
                        replace HO455 := Aside0.mk (Kd.N_afterv (ok := (fun k_ => some k_ ≠ (.slice Ao70 x5_1.length co70 : Value).ownBlock ∧ some k_ ≠ (.slice Ao84 x6_1.length co84 : Value).ownBlock ∧ some k_ ≠ (.slice Ao80 y428.length co80 : Value).ownBlock ∧ some k_ ≠ (v440 : Value).ownBlock ∧ k_ ≠ g)) (by (with_reducible repeat (first | apply Kd.N_alloc | apply Kd.N_drewN | apply Kd.N_drew)); exact Kd.N_mono HO455.out (fun _ hk => ⟨⟨hk.1, ⟨hk.2.1, ⟨hk.2.2.1, ⟨hk.2.2.2.1, hk.2.2.2.2.2⟩⟩⟩⟩, hk.2.2.2.2.1⟩)) hg hat)
                        replace HB := Aside0.mk (below_weaken (bi64 HB.out HI0.out) HL.out hb)
                        replace HK := Aside0.mk (KeepBut.trans (kb HK.out) (KeepBut.of_grown hg g) (Kd.N_base2 HO444.out))
                        have HO452 := Aside0.mk (ho)
                        clear HO444
                        replace HI0 := n2_
                        clear n2_
                        clear ho hb hg hat
                        refine hK.out _ _ trivial (fun hHeld => ?_)
                        clear hK K
                        refine nm 91 ?_
                        exact norm_ (by simp only [putAll, Act.put, List.setIfInBounds_toArray, List.set_cons_zero, List.set_cons_succ]) (hCont (v443, v451, v454) _ ⟨(by (with_reducible repeat (first | apply Kd.V_alloc | apply Kd.V_drewN | apply Kd.V_drew)); exact Kd.V_mono HO420.out (fun _ hk => ⟨hk.1.2.1, ⟨hk.1.2.2.1, ⟨hk.2, ⟨hk.1.2.2.2.1, ⟨hk.1.1, hk.1.2.2.2.2⟩⟩⟩⟩⟩)), (by (with_reducible repeat (first | apply Kd.R_alloc | apply Kd.R_drewN | apply Kd.R_drew)); exact Kd.R_mono HO430.out (fun _ hk => ⟨hk.2, hk.1.1⟩)), (by (with_reducible repeat (first | apply Kd.V_alloc | apply Kd.V_drewN | apply Kd.V_drew)); exact Kd.V_mono HO438.out (fun _ hk => ⟨hk.1.2.1, ⟨hk.1.2.2.1, ⟨hk.2, ⟨hk.1.2.2.2.1, ⟨hk.1.1, hk.1.2.2.2.2⟩⟩⟩⟩⟩)), (by (with_reducible repeat (first | apply Kd.R_alloc | apply Kd.R_drewN | apply Kd.R_drew)); exact Kd.R_mono HO441.out (fun _ hk => ⟨hk.2.2, hk.1⟩)), (by (with_reducible repeat (first | apply Kd.V_alloc | apply Kd.V_drewN | apply Kd.V_drew)); exact Kd.V_mono HO449.out (fun _ hk => ⟨hk.1.2.1, ⟨hk.1.2.2.1, ⟨hk.2, ⟨hk.1.2.2.2.1, ⟨hk.1.1, hk.1.2.2.2.2⟩⟩⟩⟩⟩)), (by (with_reducible repeat (first | apply Kd.N_alloc | apply Kd.N_drewN | apply Kd.N_drew)); exact Kd.N_mono HO452.out (fun _ hk => ⟨hk.2.1, ⟨hk.2.2.1, ⟨hk.2.2.2.1, ⟨hk.1, hk.2.2.2.2⟩⟩⟩⟩)), (by (with_reducible repeat (first | apply Kd.N_alloc | apply Kd.N_drewN | apply Kd.N_drew)); exact Kd.N_mono HO455.out (fun _ hk => ⟨hk.1.2.2.1, ⟨hk.1.2.2.2.1, ⟨hk.2, ⟨hk.1.1, ⟨hk.1.2.1, hk.1.2.2.2.2⟩⟩⟩⟩⟩)), (by (with_reducible repeat (first | apply Kd.V_alloc | apply Kd.V_drewN | apply Kd.V_drew)); exact Kd.V_mono HO463.out (fun _ hk => ⟨hk.1.2.1, ⟨hk.1.2.2.1, ⟨hk.2, ⟨hk.1.2.2.2.1, ⟨hk.1.1, hk.1.2.2.2.2⟩⟩⟩⟩⟩)), (by (with_reducible repeat (first | apply Kd.R_alloc | apply Kd.R_drewN | apply Kd.R_drew)); exact Kd.R_mono HO_5.out (fun _ hk => ⟨hk.1.2, hk.2⟩)), (by (with_reducible repeat (first | apply Kd.N_alloc | apply Kd.N_drewN | apply Kd.N_drew)); exact Kd.N_mono HO_6.out (fun _ hk => ⟨hk.1.2.1, ⟨hk.1.2.2.1, ⟨hk.2, ⟨hk.1.2.2.2.1, ⟨hk.1.1, hk.1.2.2.2.2⟩⟩⟩⟩⟩)), (is64 HI0.out), (kb HK.out), (bi64 HB.out HI0.out)⟩)
                      ·skip
                       obtain ⟨Ao86, co86, eo86⟩ := Kd.R_slice HO_8.out
                       subst eo86
                       refine Kd.N_lit_step (Kd.slice 3 (Kd.int .i64)) _ 23 ?hg (N' := 93) ?hd (xs := ([x8_15] : List (List Int))) (inner := [.slice Ao86 x8_15.length co86]) (ok := (fun k_ => some k_ ≠ (.slice Ao70 x5_1.length co70 : Value).ownBlock ∧ some k_ ≠ (.slice Ao84 x6_1.length co84 : Value).ownBlock ∧ some k_ ≠ (.slice Ao80 y428.length co80 : Value).ownBlock ∧ some k_ ≠ (v440 : Value).ownBlock ∧ k_ ≠ g)) (okp := (fun k_ => some k_ ≠ (.slice Ao70 x5_1.length co70 : Value).ownBlock ∧ some k_ ≠ (.slice Ao84 x6_1.length co84 : Value).ownBlock ∧ some k_ ≠ (.slice Ao80 y428.length co80 : Value).ownBlock ∧ some k_ ≠ (v440 : Value).ownBlock ∧ k_ ≠ g)) ?hr ?hp (fun _ hk => hk) ((show ∀ k_, w82.heap.size ≤ k_ → (fun k_ => some k_ ≠ (.slice Ao70 x5_1.length co70 : Value).ownBlock ∧ some k_ ≠ (.slice Ao84 x6_1.length co84 : Value).ownBlock ∧ some k_ ≠ (.slice Ao80 y428.length co80 : Value).ownBlock ∧ some k_ ≠ (v440 : Value).ownBlock ∧ k_ ≠ g) k_ from fun k_ hk => ⟨Kd.fresh' (Kd.R_lt (rR HO_5.out)) k_ hk, Kd.fresh' (Kd.N_lt (rN HO_6.out)) k_ hk, Kd.fresh' (Kd.R_lt (rR HO430.out)) k_ hk, Kd.fresh' (Kd.R_lt (rR HO441.out)) k_ hk, IsS64.fresh (is64 HI0.out) k_ hk⟩) _ (Nat.le_refl _)) (Below.refl _ _) (Nat.le_refl _) (by simp) ?_; (case hd => rfl); (case hg => rfl); (case hr => first | (go_simp; done) | (go_simp; rfl)); (case hp => exact (Reps.one (show Kd.FK (Kd.slice 3 (Kd.int .i64)) _ _ x8_15 [.slice Ao86 x8_15.length co86] from (Kd.FK_slice_mk (Kd.R_reads' (Kd.R_mono (ok' := (fun k_ => some k_ ≠ (.slice Ao70 x5_1.length co70 : Value).ownBlock ∧ some k_ ≠ (.slice Ao84 x6_1.length co84 : Value).ownBlock ∧ some k_ ≠ (.slice Ao80 y428.length co80 : Value).ownBlock ∧ some k_ ≠ (v440 : Value).ownBlock ∧ k_ ≠ g)) (IsS64.apart HI0.out (Kd.R_apart' (HO_8.out) (Kd.N_typed HO_6.out) (by decide)) (by decide)) (fun k_ hk => ⟨hk.1.1.1.1, ⟨hk.1.2, ⟨hk.1.1.1.2, ⟨hk.1.1.2, hk.2⟩⟩⟩⟩))).2.1 (Kd.R_F (Kd.R_mono (ok' := (fun k_ => some k_ ≠ (.slice Ao70 x5_1.length co70 : Value).ownBlock ∧ some k_ ≠ (.slice Ao84 x6_1.length co84 : Value).ownBlock ∧ some k_ ≠ (.slice Ao80 y428.length co80 : Value).ownBlock ∧ some k_ ≠ (v440 : Value).ownBlock ∧ k_ ≠ g)) (IsS64.apart HI0.out (Kd.R_apart' (HO_8.out) (Kd.N_typed HO_6.out) (by decide)) (by decide)) (fun k_ hk => ⟨hk.1.1.1.1, ⟨hk.1.2, ⟨hk.1.1.1.2, ⟨hk.1.1.2, hk.2⟩⟩⟩⟩))))) (Reps.none _ _)))
                       intro v454 w87 ho88 hb hg_ hnew_
                       clear hg_ hnew_
                       (first | rw [← Ny453.out] at ho88 | (simp only [Int.reduceToNat] at ho88; rw [← Ny453.out] at ho88))
                       replace HO_5 := Aside0.mk (Kd.R_below (rR HO_5.out) hb)
                       replace HO_6 := Aside0.mk (Kd.N_elder' (rN HO_6.out) (Kd.N_base ho88) hb)
                       replace HO420 := Aside0.mk (Kd.V_elder' (rV HO420.out) (Kd.N_base ho88) hb)
                       replace HO438 := Aside0.mk (Kd.V_elder' (rV HO438.out) (Kd.N_base ho88) hb)
                       replace HO430 := Aside0.mk (Kd.R_below (rR HO430.out) hb)
                       replace HO441 := Aside0.mk (Kd.R_below (rR HO441.out) hb)
                       replace HO449 := Aside0.mk (Kd.V_elder' (rV HO449.out) (Kd.N_base ho88) hb)
                       replace HO463 := Aside0.mk (Kd.V_elder' (rV HO463.out) (Kd.N_base ho88) hb)
                       have HO455 := Aside0.mk (Kd.N_lower ho88 (keep_size (w := w) (g := g) (row := none) (kb HK.out)))
                       have n9_ := Aside0.mk (IsS64.below (is64 HI0.out) hb)
                       replace HK := Aside0.mk (KeepBut.trans (kb HK.out) (KeepBut.of_below hb g none) (.inl rfl))
                       replace HB := Aside0.mk (below_step (bi64 HB.out HI0.out) hb)
                       clear HO_8
                       replace HI0 := n9_
                       clear n9_
                       clear hb ho88
                       refine hK.out _ _ trivial (fun hHeld => ?_)
                       clear hK K
                       refine nm 93 ?_
                       refine one_ (i := 0) (N := some 87) #[true, true, true, true, false, true, true, false, true, true, true, false, false] rfl rfl (one_of HT_.out (by kernel_rfl)) (by decide) (fun K hK => ?_)
                       refine Kd.N_lit_step (Kd.slice 3 (Kd.int .i64)) _ 23 ?hg (N' := 87) ?hd (xs := ([] : List (List Int))) (inner := []) (ok := (fun k_ => some k_ ≠ (.slice Ao70 x5_1.length co70 : Value).ownBlock ∧ some k_ ≠ (.slice Ao84 x6_1.length co84 : Value).ownBlock ∧ some k_ ≠ (.slice Ao80 y428.length co80 : Value).ownBlock ∧ some k_ ≠ (v440 : Value).ownBlock ∧ some k_ ≠ (v454 : Value).ownBlock ∧ k_ ≠ g)) (okp := (fun k_ => some k_ ≠ (.slice Ao70 x5_1.length co70 : Value).ownBlock ∧ some k_ ≠ (.slice Ao84 x6_1.length co84 : Value).ownBlock ∧ some k_ ≠ (.slice Ao80 y428.length co80 : Value).ownBlock ∧ some k_ ≠ (v440 : Value).ownBlock ∧ some k_ ≠ (v454 : Value).ownBlock ∧ k_ ≠ g)) ?hr ?hp (fun _ hk => hk) ((show ∀ k_, w87.heap.size ≤ k_ → (fun k_ => some k_ ≠ (.slice Ao70 x5_1.length co70 : Value).ownBlock ∧ some k_ ≠ (.slice Ao84 x6_1.length co84 : Value).ownBlock ∧ some k_ ≠ (.slice Ao80 y428.length co80 : Value).ownBlock ∧ some k_ ≠ (v440 : Value).ownBlock ∧ some k_ ≠ (v454 : Value).ownBlock ∧ k_ ≠ g) k_ from fun k_ hk => ⟨Kd.fresh' (Kd.R_lt (rR HO_5.out)) k_ hk, Kd.fresh' (Kd.N_lt (rN HO_6.out)) k_ hk, Kd.fresh' (Kd.R_lt (rR HO430.out)) k_ hk, Kd.fresh' (Kd.R_lt (rR HO441.out)) k_ hk, Kd.fresh' (Kd.N_lt (rN HO455.out)) k_ hk, IsS64.fresh (is64 HI0.out) k_ hk⟩) _ (Nat.le_refl _)) (Below.refl _ _) (Nat.le_refl _) (by simp) ?_; (case hd => rfl); (case hg => rfl); (case hr => first | (go_simp; done) | (go_simp; rfl)); (case hp => exact (Reps.none _ _))
                       intro v443 w89 ho90 hb hg_ hnew_
                       clear hg_ hnew_
                       (first | rw [← Ny442.out] at ho90 | (simp only [Int.reduceToNat] at ho90; rw [← Ny442.out] at ho90))
                       replace HO_5 := Aside0.mk (Kd.R_below (rR HO_5.out) hb)
                       replace HO_6 := Aside0.mk (Kd.N_elder' (rN HO_6.out) (Kd.N_base ho90) hb)
                       replace HO420 := Aside0.mk (Kd.V_elder' (rV HO420.out) (Kd.N_base ho90) hb)
                       replace HO438 := Aside0.mk (Kd.V_elder' (rV HO438.out) (Kd.N_base ho90) hb)
                       replace HO430 := Aside0.mk (Kd.R_below (rR HO430.out) hb)
                       replace HO441 := Aside0.mk (Kd.R_below (rR HO441.out) hb)
                       replace HO449 := Aside0.mk (Kd.V_elder' (rV HO449.out) (Kd.N_base ho90) hb)
                       replace HO463 := Aside0.mk (Kd.V_elder' (rV HO463.out) (Kd.N_base ho90) hb)
                       replace HO455 := Aside0.mk (Kd.N_elder' (rN HO455.out) (Kd.N_base ho90) hb)
                       have HO444 := Aside0.mk (Kd.N_lower ho90 (keep_size (w := w) (g := g) (row := none) (kb HK.out)))
                       have n10_ := Aside0.mk (IsS64.below (is64 HI0.out) hb)
                       replace HK := Aside0.mk (KeepBut.trans (kb HK.out) (KeepBut.of_below hb g none) (.inl rfl))
                       replace HB := Aside0.mk (below_step (bi64 HB.out HI0.out) hb)
                       replace HI0 := n10_
                       clear n10_
                       clear hb ho90
                       refine hK.out _ _ trivial (fun hHeld => ?_)
                       clear hK K
                       refine nm 87 ?_
                       refine one_ (i := 4) (N := some 91) #[true, true, true, true, true, true, true, false, true, true, true, false, false] rfl rfl (one_of HT_.out (by kernel_rfl)) (by decide) (fun K hK => ?_)
                       refine Kd.N_append_rows_step (Kd.slice 3 (Kd.int .i64)) w.heap.size (by rfl) (.tmp 87) (.tmp 90) 36 23 (.slice none 0 0) 24 rfl Try.underlying36 info23 rfl (by decide) (by omega) v443 y442 y445 _ _ _ (fun k_ => some k_ ≠ (.slice Ao70 x5_1.length co70 : Value).ownBlock ∧ some k_ ≠ (.slice Ao80 y428.length co80 : Value).ownBlock ∧ some k_ ≠ (v440 : Value).ownBlock ∧ some k_ ≠ (v454 : Value).ownBlock ∧ k_ ≠ g) (fun k_ => ((fun k_ => some k_ ≠ (.slice Ao70 x5_1.length co70 : Value).ownBlock ∧ some k_ ≠ (.slice Ao80 y428.length co80 : Value).ownBlock ∧ some k_ ≠ (v440 : Value).ownBlock ∧ some k_ ≠ (v454 : Value).ownBlock ∧ k_ ≠ g)) k_ ∧ some k_ ≠ (v443 : Value).ownBlock) rfl rfl ?aO ?aR (fun _ hk => hk) ?aF (Below.refl _ _) ?aS ?aL ?_
                       (case aR => exact (by skip; exact Kd.V_F (Kd.V_mono (ok' := (fun k_ => ((fun k_ => some k_ ≠ (.slice Ao70 x5_1.length co70 : Value).ownBlock ∧ some k_ ≠ (.slice Ao80 y428.length co80 : Value).ownBlock ∧ some k_ ≠ (v440 : Value).ownBlock ∧ some k_ ≠ (v454 : Value).ownBlock ∧ k_ ≠ g)) k_ ∧ some k_ ≠ (v443 : Value).ownBlock)) (HO449.out) (fun k_ hk => ⟨⟨hk.1.1.1.1, ⟨hk.1.1.1.2.2.1, ⟨hk.1.1.2, ⟨hk.1.2, hk.1.1.1.2.2.2⟩⟩⟩⟩, hk.2⟩))))
                       (case aF => exact (fun k_ hk => ⟨Kd.fresh' (Kd.R_lt (rR HO_5.out)) k_ hk, Kd.fresh' (Kd.R_lt (rR HO430.out)) k_ hk, Kd.fresh' (Kd.R_lt (rR HO441.out)) k_ hk, Kd.fresh' (Kd.N_lt (rN HO455.out)) k_ hk, IsS64.fresh (is64 HI0.out) k_ hk⟩))
                       (case aO => exact (by (with_reducible repeat (first | apply Kd.N_alloc | apply Kd.N_drewN | apply Kd.N_drew)); exact Kd.N_mono HO444.out (fun _ hk => ⟨hk.1, ⟨hk.2.2.1, ⟨hk.2.2.2.1, ⟨hk.2.2.2.2.1, hk.2.2.2.2.2⟩⟩⟩⟩)))
                       (case aS => exact (keep_size (w := w) (g := g) (row := none) (kb HK.out)))
                       (case aL => have := LMc63.out; omega)
                       intro v451 w91 ho hb hg hat
                       rw [← Ny450.out] at ho
                       replace HO_5 := Aside0.mk (Kd.R_over' (rR HO_5.out) (Kd.N_typed (rN HO444.out)) (by decide) hg)
                       replace HO_6 := Aside0.mk (Kd.N_afterv (ok := (fun k_ => some k_ ≠ (.slice Ao70 x5_1.length co70 : Value).ownBlock ∧ some k_ ≠ (.slice Ao80 y428.length co80 : Value).ownBlock ∧ some k_ ≠ (v440 : Value).ownBlock ∧ some k_ ≠ (v454 : Value).ownBlock ∧ k_ ≠ g)) (by (with_reducible repeat (first | apply Kd.N_alloc | apply Kd.N_drewN | apply Kd.N_drew)); exact Kd.N_mono HO_6.out (fun _ hk => ⟨⟨hk.1.1.1.1, ⟨hk.1.1.1.2.2.1, ⟨hk.1.1.2, ⟨hk.1.2, hk.1.1.1.2.2.2⟩⟩⟩⟩, hk.2⟩)) hg hat)
                       have n2_ := Aside0.mk (IsS64.grown (is64 HI0.out) hg (IsS64.own_neN HI0.out HO444.out (by decide)))
                       replace HO420 := Aside0.mk (Kd.V_afterv (ok := (fun k_ => some k_ ≠ (.slice Ao84 x6_1.length co84 : Value).ownBlock ∧ some k_ ≠ (.slice Ao80 y428.length co80 : Value).ownBlock ∧ some k_ ≠ (v440 : Value).ownBlock ∧ some k_ ≠ (v454 : Value).ownBlock ∧ k_ ≠ g)) (by (with_reducible repeat (first | apply Kd.V_alloc | apply Kd.V_drewN | apply Kd.V_drew)); exact Kd.V_mono HO420.out (fun _ hk => ⟨⟨hk.1.1.1.1, ⟨hk.1.1.1.2.2.1, ⟨hk.1.1.2, ⟨hk.1.2, hk.1.1.1.2.2.2⟩⟩⟩⟩, hk.2⟩)) hg hat)
                       replace HO438 := Aside0.mk (Kd.V_afterv (ok := (fun k_ => some k_ ≠ (.slice Ao84 x6_1.length co84 : Value).ownBlock ∧ some k_ ≠ (.slice Ao80 y428.length co80 : Value).ownBlock ∧ some k_ ≠ (v440 : Value).ownBlock ∧ some k_ ≠ (v454 : Value).ownBlock ∧ k_ ≠ g)) (by (with_reducible repeat (first | apply Kd.V_alloc | apply Kd.V_drewN | apply Kd.V_drew)); exact Kd.V_mono HO438.out (fun _ hk => ⟨⟨hk.1.1.1.1, ⟨hk.1.1.1.2.2.1, ⟨hk.1.1.2, ⟨hk.1.2, hk.1.1.1.2.2.2⟩⟩⟩⟩, hk.2⟩)) hg hat)
                       replace HO430 := Aside0.mk (Kd.R_over' (rR HO430.out) (Kd.N_typed (rN HO444.out)) (by decide) hg)
                       replace HO441 := Aside0.mk (Kd.R_over' (rR HO441.out) (Kd.N_typed (rN HO444.out)) (by decide) hg)
                       replace HO449 := Aside0.mk (Kd.V_afterv (ok := (fun k_ => some k_ ≠ (.slice Ao70 x5_1.length co70 : Value).ownBlock ∧ some k_ ≠ (.slice Ao80 y428.length co80 : Value).ownBlock ∧ some k_ ≠ (v440 : Value).ownBlock ∧ some k_ ≠ (v454 : Value).ownBlock ∧ k_ ≠ g)) (by (with_reducible repeat (first | apply Kd.V_alloc | apply Kd.V_drewN | apply Kd.V_drew)); exact Kd.V_mono HO449.out (fun _ hk => ⟨⟨hk.1.1.1.1, ⟨hk.1.1.1.2.2.1, ⟨hk.1.1.2, ⟨hk.1.2, hk.1.1.1.2.2.2⟩⟩⟩⟩, hk.2⟩)) hg hat)
                       replace HO463 := Aside0.mk (Kd.V_afterv (ok := (fun k_ => some k_ ≠ (.slice Ao70 x5_1.length co70 : Value).ownBlock ∧ some k_ ≠ (.slice Ao80 y428.length co80 : Value).ownBlock ∧ some k_ ≠ (v440 : Value).ownBlock ∧ some k_ ≠ (v454 : Value).ownBlock ∧ k_ ≠ g)) (by (with_reducible repeat (first | apply Kd.V_alloc | apply Kd.V_drewN | apply Kd.V_drew)); exact Kd.V_mono HO463.out (fun _ hk => ⟨⟨hk.1.1.1.1, ⟨hk.1.1.1.2.2.1, ⟨hk.1.1.2, ⟨hk.1.2, hk.1.1.1.2.2.2⟩⟩⟩⟩, hk.2⟩)) hg hat)
                       replace HO455 := Aside0.mk (Kd.N_afterv (ok := (fun k_ => some k_ ≠ (.slice Ao70 x5_1.length co70 : Value).ownBlock ∧ some k_ ≠ (.slice Ao84 x6_1.length co84 : Value).ownBlock ∧ some k_ ≠ (.slice Ao80 y428.length co80 : Value).ownBlock ∧ some k_ ≠ (v440 : Value).ownBlock ∧ k_ ≠ g)) (rN HO455.out) hg hat)
                       replace HB := Aside0.mk (below_weaken (bi64 HB.out HI0.out) HL.out hb)
                       replace HK := Aside0.mk (KeepBut.trans (kb HK.out) (KeepBut.of_grown hg g) (Kd.N_base2 HO444.out))
                       have HO452 := Aside0.mk (ho)
                       clear HO444
                       replace HI0 := n2_
                       clear n2_
                       clear ho hb hg hat
                       refine hK.out _ _ trivial (fun hHeld => ?_)
                       clear hK K
                       refine nm 91 ?_
                       exact norm_ (by simp only [putAll, Act.put, List.setIfInBounds_toArray, List.set_cons_zero, List.set_cons_succ]) (hCont (v443, v451, v454) _ ⟨(by (with_reducible repeat (first | apply Kd.V_alloc | apply Kd.V_drewN | apply Kd.V_drew)); exact Kd.V_mono HO420.out (fun _ hk => ⟨hk.1.2.1, ⟨hk.1.2.2.1, ⟨hk.2, ⟨hk.1.2.2.2.1, ⟨hk.1.1, hk.1.2.2.2.2⟩⟩⟩⟩⟩)), (by (with_reducible repeat (first | apply Kd.R_alloc | apply Kd.R_drewN | apply Kd.R_drew)); exact Kd.R_mono HO430.out (fun _ hk => ⟨hk.2, hk.1.1⟩)), (by (with_reducible repeat (first | apply Kd.V_alloc | apply Kd.V_drewN | apply Kd.V_drew)); exact Kd.V_mono HO438.out (fun _ hk => ⟨hk.1.2.1, ⟨hk.1.2.2.1, ⟨hk.2, ⟨hk.1.2.2.2.1, ⟨hk.1.1, hk.1.2.2.2.2⟩⟩⟩⟩⟩)), (by (with_reducible repeat (first | apply Kd.R_alloc | apply Kd.R_drewN | apply Kd.R_drew)); exact Kd.R_mono HO441.out (fun _ hk => ⟨hk.2.2, hk.1⟩)), (by (with_reducible repeat (first | apply Kd.V_alloc | apply Kd.V_drewN | apply Kd.V_drew)); exact Kd.V_mono HO449.out (fun _ hk => ⟨hk.1.2.1, ⟨hk.1.2.2.1, ⟨hk.2, ⟨hk.1.2.2.2.1, ⟨hk.1.1, hk.1.2.2.2.2⟩⟩⟩⟩⟩)), (by (with_reducible repeat (first | apply Kd.N_alloc | apply Kd.N_drewN | apply Kd.N_drew)); exact Kd.N_mono HO452.out (fun _ hk => ⟨hk.2.1, ⟨hk.2.2.1, ⟨hk.2.2.2.1, ⟨hk.1, hk.2.2.2.2⟩⟩⟩⟩)), (by (with_reducible repeat (first | apply Kd.N_alloc | apply Kd.N_drewN | apply Kd.N_drew)); exact Kd.N_mono HO455.out (fun _ hk => ⟨hk.1.2.2.1, ⟨hk.1.2.2.2.1, ⟨hk.2, ⟨hk.1.1, ⟨hk.1.2.1, hk.1.2.2.2.2⟩⟩⟩⟩⟩)), (by (with_reducible repeat (first | apply Kd.V_alloc | apply Kd.V_drewN | apply Kd.V_drew)); exact Kd.V_mono HO463.out (fun _ hk => ⟨hk.1.2.1, ⟨hk.1.2.2.1, ⟨hk.2, ⟨hk.1.2.2.2.1, ⟨hk.1.1, hk.1.2.2.2.2⟩⟩⟩⟩⟩)), (by (with_reducible repeat (first | apply Kd.R_alloc | apply Kd.R_drewN | apply Kd.R_drew)); exact Kd.R_mono HO_5.out (fun _ hk => ⟨hk.1.2, hk.2⟩)), (by (with_reducible repeat (first | apply Kd.N_alloc | apply Kd.N_drewN | apply Kd.N_drew)); exact Kd.N_mono HO_6.out (fun _ hk => ⟨hk.1.2.1, ⟨hk.1.2.2.1, ⟨hk.2, ⟨hk.1.2.2.2.1, ⟨hk.1.1, hk.1.2.2.2.2⟩⟩⟩⟩⟩)), (is64 HI0.out), (kb HK.out), (bi64 HB.out HI0.out)⟩)
                     rintro ⟨v443, v451, v454⟩ w92 ⟨h0_, h1_, h2_, h3_, h4_, h5_, h6_, h7_, h8_, h9_, h10_, h11_, h12_⟩
                     have n0_ : Aside0 (Kd.V (Kd.int .i64) 3 w92 w.heap.size (fun k_ => some k_ ≠ (.slice Ao80 y428.length co80 : Value).ownBlock ∧ some k_ ≠ (v440 : Value).ownBlock ∧ some k_ ≠ (v451 : Value).ownBlock ∧ some k_ ≠ (v454 : Value).ownBlock ∧ some k_ ≠ (.slice Ao84 x6_1.length co84 : Value).ownBlock ∧ k_ ≠ g) (.slice Ao70 y416.length co70) y416) := ⟨h0_⟩
                     have n1_ : Aside0 (Kd.R (Kd.int .i64) 3 w92 w.heap.size (fun k_ => some k_ ≠ (v440 : Value).ownBlock ∧ some k_ ≠ (.slice Ao70 x5_1.length co70 : Value).ownBlock) (.slice Ao80 y428.length co80) y428) := ⟨h1_⟩
                     have n2_ : Aside0 (Kd.V (Kd.int .i64) 3 w92 w.heap.size (fun k_ => some k_ ≠ (.slice Ao80 y428.length co80 : Value).ownBlock ∧ some k_ ≠ (v440 : Value).ownBlock ∧ some k_ ≠ (v451 : Value).ownBlock ∧ some k_ ≠ (v454 : Value).ownBlock ∧ some k_ ≠ (.slice Ao84 x6_1.length co84 : Value).ownBlock ∧ k_ ≠ g) (.slice A71 y434.length c71) y434) := ⟨h2_⟩
                     have n3_ : Aside0 (Kd.R (Kd.int .i64) 3 w92 w.heap.size (fun k_ => some k_ ≠ (.slice Ao80 y428.length co80 : Value).ownBlock ∧ some k_ ≠ (.slice Ao70 x5_1.length co70 : Value).ownBlock) v440 y439) := ⟨h3_⟩
                     have n4_ : Aside0 (Kd.V (Kd.slice 3 (Kd.int .i64)) 23 w92 w.heap.size (fun k_ => some k_ ≠ (.slice Ao80 y428.length co80 : Value).ownBlock ∧ some k_ ≠ (v440 : Value).ownBlock ∧ some k_ ≠ (v451 : Value).ownBlock ∧ some k_ ≠ (v454 : Value).ownBlock ∧ some k_ ≠ (.slice Ao70 x5_1.length co70 : Value).ownBlock ∧ k_ ≠ g) (.slice Ao84 y445.length co84) y445) := ⟨h4_⟩
                     have n5_ : Aside0 (Kd.N (Kd.slice 3 (Kd.int .i64)) 23 w92 w.heap.size (fun k_ => some k_ ≠ (.slice Ao80 y428.length co80 : Value).ownBlock ∧ some k_ ≠ (v440 : Value).ownBlock ∧ some k_ ≠ (v454 : Value).ownBlock ∧ some k_ ≠ (.slice Ao70 x5_1.length co70 : Value).ownBlock ∧ k_ ≠ g) v451 y450) := ⟨h5_⟩
                     have n6_ : Aside0 (Kd.N (Kd.slice 3 (Kd.int .i64)) 23 w92 w.heap.size (fun k_ => some k_ ≠ (.slice Ao80 y428.length co80 : Value).ownBlock ∧ some k_ ≠ (v440 : Value).ownBlock ∧ some k_ ≠ (v451 : Value).ownBlock ∧ some k_ ≠ (.slice Ao70 x5_1.length co70 : Value).ownBlock ∧ some k_ ≠ (.slice Ao84 x6_1.length co84 : Value).ownBlock ∧ k_ ≠ g) v454 y453) := ⟨h6_⟩
                     have n7_ : Aside0 (Kd.V (Kd.slice 3 (Kd.int .i64)) 23 w92 w.heap.size (fun k_ => some k_ ≠ (.slice Ao80 y428.length co80 : Value).ownBlock ∧ some k_ ≠ (v440 : Value).ownBlock ∧ some k_ ≠ (v451 : Value).ownBlock ∧ some k_ ≠ (v454 : Value).ownBlock ∧ some k_ ≠ (.slice Ao70 x5_1.length co70 : Value).ownBlock ∧ k_ ≠ g) (.slice A85 y459.length c85) y459) := ⟨h7_⟩
                     have n8_ : Aside0 (Kd.R (Kd.int .i64) 3 w92 w.heap.size (fun k_ => some k_ ≠ (.slice Ao80 y428.length co80 : Value).ownBlock ∧ some k_ ≠ (v440 : Value).ownBlock) (.slice Ao70 x5_1.length co70) x5_1) := ⟨h8_⟩
                     have n9_ : Aside0 (Kd.N (Kd.slice 3 (Kd.int .i64)) 23 w92 w.heap.size (fun k_ => some k_ ≠ (.slice Ao80 y428.length co80 : Value).ownBlock ∧ some k_ ≠ (v440 : Value).ownBlock ∧ some k_ ≠ (v451 : Value).ownBlock ∧ some k_ ≠ (v454 : Value).ownBlock ∧ some k_ ≠ (.slice Ao70 x5_1.length co70 : Value).ownBlock ∧ k_ ≠ g) (.slice Ao84 x6_1.length co84) x6_1) := ⟨h9_⟩
                     have n10_ : Aside0 (IsS64 w0 w92 g s0_0 t427) := ⟨h10_⟩
                     have n11_ : Aside0 (KeepBut w w92 g none) := ⟨h11_⟩
                     have n12_ : Aside0 (Below w0.heap.size w0 w92) := ⟨h12_⟩
                     clear HO_5
                     clear HO_6
                     clear HO_8
                     clear HO420
                     clear HO438
                     clear HO430
                     clear HO441
                     clear HI0
                     clear HK
                     clear HB
                     clear h0_ h1_ h2_ h3_ h4_ h5_ h6_ h7_ h8_ h9_ h10_ h11_ h12_
                     have HO420 := n0_
                     have HO430 := n1_
                     have HO438 := n2_
                     have HO441 := n3_
                     have HO449 := n4_
                     have HO452 := n5_
                     have HO455 := n6_
                     have HO463 := n7_
                     have HO_5 := n8_
                     have HO_6 := n9_
                     have HI0 := n10_
                     have HK := n11_
                     have HB := n12_
                     clear n0_ n1_ n2_ n3_ n4_ n5_ n6_ n7_ n8_ n9_ n10_ n11_ n12_
                     have hHeld := trivial
                     obtain ⟨Ao94, co94, eo94⟩ := Kd.N_slice HO455.out
                     (first | subst eo94 | (injection eo94 with f1_ f2_ f3_; have f4_ := f1_.symm; have f5_ := f3_.symm; clear f1_ f2_ f3_; subst f4_; subst f5_))
                     refine norm_ (a' := ?_) ?_ ?_
                     rotate_left
                     ·simp only [putAll, Act.put, List.setIfInBounds_toArray, List.set_cons_zero, List.set_cons_succ]
                      rfl
                     refine one_ (i := 7) (N := some 94) #[true, true, true, true, true, true, true, true, true, true, true, false, false] rfl rfl (one_of HT_.out (by kernel_rfl)) (by decide) (fun K hK => ?_)
                     refine Kd.N_append_rows_step (Kd.slice 3 (Kd.int .i64)) w.heap.size (by rfl) (.tmp 91) (.tmp 93) 36 23 (.slice none 0 0) 24 rfl Try.underlying36 info23 rfl (by decide) (by omega) v451 y450 y453 _ _ _ (fun k_ => some k_ ≠ (.slice Ao70 x5_1.length co70 : Value).ownBlock ∧ some k_ ≠ (.slice Ao80 y428.length co80 : Value).ownBlock ∧ some k_ ≠ (v440 : Value).ownBlock ∧ k_ ≠ g) (fun k_ => ((fun k_ => some k_ ≠ (.slice Ao70 x5_1.length co70 : Value).ownBlock ∧ some k_ ≠ (.slice Ao80 y428.length co80 : Value).ownBlock ∧ some k_ ≠ (v440 : Value).ownBlock ∧ k_ ≠ g)) k_ ∧ some k_ ≠ (v451 : Value).ownBlock) rfl rfl ?aO ?aR (fun _ hk => hk) ?aF (Below.refl _ _) ?aS ?aL ?_
                     (case aR => exact (by skip; exact Kd.N_F (Kd.N_mono (ok' := (fun k_ => ((fun k_ => some k_ ≠ (.slice Ao70 x5_1.length co70 : Value).ownBlock ∧ some k_ ≠ (.slice Ao80 y428.length co80 : Value).ownBlock ∧ some k_ ≠ (v440 : Value).ownBlock ∧ k_ ≠ g)) k_ ∧ some k_ ≠ (v451 : Value).ownBlock)) (HO455.out) (fun k_ hk => ⟨⟨hk.2.2.2.1, ⟨hk.1, ⟨hk.2.1, hk.2.2.2.2.2⟩⟩⟩, hk.2.2.1⟩))))
                     (case aF => exact (fun k_ hk => ⟨Kd.fresh' (Kd.R_lt (rR HO_5.out)) k_ hk, Kd.fresh' (Kd.R_lt (rR HO430.out)) k_ hk, Kd.fresh' (Kd.R_lt (rR HO441.out)) k_ hk, IsS64.fresh (is64 HI0.out) k_ hk⟩))
                     (case aO => exact (by (with_reducible repeat (first | apply Kd.N_alloc | apply Kd.N_drewN | apply Kd.N_drew)); exact Kd.N_mono HO452.out (fun _ hk => ⟨hk.2.2.2.1, ⟨hk.1, ⟨hk.2.1, hk.2.2.2.2⟩⟩⟩)))
                     (case aS => exact (keep_size (w := w) (g := g) (row := none) (kb HK.out)))
                     (case aL => have := LMc64.out; omega)
                     intro v457 w93 ho hb hg hat
                     rw [← Ny456.out] at ho
                     replace HO_5 := Aside0.mk (Kd.R_over' (rR HO_5.out) (Kd.N_typed (rN HO452.out)) (by decide) hg)
                     replace HO_6 := Aside0.mk (Kd.N_afterv (ok := (fun k_ => some k_ ≠ (.slice Ao70 x5_1.length co70 : Value).ownBlock ∧ some k_ ≠ (.slice Ao80 y428.length co80 : Value).ownBlock ∧ some k_ ≠ (v440 : Value).ownBlock ∧ some k_ ≠ (.slice Ao94 y453.length co94 : Value).ownBlock ∧ k_ ≠ g)) (by (with_reducible repeat (first | apply Kd.N_alloc | apply Kd.N_drewN | apply Kd.N_drew)); exact Kd.N_mono HO_6.out (fun _ hk => ⟨⟨hk.2.2.2.2.1, ⟨hk.1, ⟨hk.2.1, ⟨hk.2.2.2.1, hk.2.2.2.2.2⟩⟩⟩⟩, hk.2.2.1⟩)) hg hat)
                     have n2_ := Aside0.mk (IsS64.grown (is64 HI0.out) hg (IsS64.own_neN HI0.out HO452.out (by decide)))
                     replace HO420 := Aside0.mk (Kd.V_afterv (ok := (fun k_ => some k_ ≠ (.slice Ao84 x6_1.length co84 : Value).ownBlock ∧ some k_ ≠ (.slice Ao80 y428.length co80 : Value).ownBlock ∧ some k_ ≠ (v440 : Value).ownBlock ∧ some k_ ≠ (.slice Ao94 y453.length co94 : Value).ownBlock ∧ k_ ≠ g)) (by (with_reducible repeat (first | apply Kd.V_alloc | apply Kd.V_drewN | apply Kd.V_drew)); exact Kd.V_mono HO420.out (fun _ hk => ⟨⟨hk.2.2.2.2.1, ⟨hk.1, ⟨hk.2.1, ⟨hk.2.2.2.1, hk.2.2.2.2.2⟩⟩⟩⟩, hk.2.2.1⟩)) hg hat)
                     replace HO438 := Aside0.mk (Kd.V_afterv (ok := (fun k_ => some k_ ≠ (.slice Ao84 x6_1.length co84 : Value).ownBlock ∧ some k_ ≠ (.slice Ao80 y428.length co80 : Value).ownBlock ∧ some k_ ≠ (v440 : Value).ownBlock ∧ some k_ ≠ (.slice Ao94 y453.length co94 : Value).ownBlock ∧ k_ ≠ g)) (by (with_reducible repeat (first | apply Kd.V_alloc | apply Kd.V_drewN | apply Kd.V_drew)); exact Kd.V_mono HO438.out (fun _ hk => ⟨⟨hk.2.2.2.2.1, ⟨hk.1, ⟨hk.2.1, ⟨hk.2.2.2.1, hk.2.2.2.2.2⟩⟩⟩⟩, hk.2.2.1⟩)) hg hat)
                     replace HO430 := Aside0.mk (Kd.R_over' (rR HO430.out) (Kd.N_typed (rN HO452.out)) (by decide) hg)
                     replace HO441 := Aside0.mk (Kd.R_over' (rR HO441.out) (Kd.N_typed (rN HO452.out)) (by decide) hg)
                     replace HO449 := Aside0.mk (Kd.V_afterv (ok := (fun k_ => some k_ ≠ (.slice Ao70 x5_1.length co70 : Value).ownBlock ∧ some k_ ≠ (.slice Ao80 y428.length co80 : Value).ownBlock ∧ some k_ ≠ (v440 : Value).ownBlock ∧ some k_ ≠ (.slice Ao94 y453.length co94 : Value).ownBlock ∧ k_ ≠ g)) (by (with_reducible repeat (first | apply Kd.V_alloc | apply Kd.V_drewN | apply Kd.V_drew)); exact Kd.V_mono HO449.out (fun _ hk => ⟨⟨hk.2.2.2.2.1, ⟨hk.1, ⟨hk.2.1, ⟨hk.2.2.2.1, hk.2.2.2.2.2⟩⟩⟩⟩, hk.2.2.1⟩)) hg hat)
                     replace HO463 := Aside0.mk (Kd.V_afterv (ok := (fun k_ => some k_ ≠ (.slice Ao70 x5_1.length co70 : Value).ownBlock ∧ some k_ ≠ (.slice Ao80 y428.length co80 : Value).ownBlock ∧ some k_ ≠ (v440 : Value).ownBlock ∧ some k_ ≠ (.slice Ao94 y453.length co94 : Value).ownBlock ∧ k_ ≠ g)) (by (with_reducible repeat (first | apply Kd.V_alloc | apply Kd.V_drewN | apply Kd.V_drew)); exact Kd.V_mono HO463.out (fun _ hk => ⟨⟨hk.2.2.2.2.1, ⟨hk.1, ⟨hk.2.1, ⟨hk.2.2.2.1, hk.2.2.2.2.2⟩⟩⟩⟩, hk.2.2.1⟩)) hg hat)
                     replace HO455 := Aside0.mk (Kd.N_afterv (ok := (fun k_ => some k_ ≠ (.slice Ao70 x5_1.length co70 : Value).ownBlock ∧ some k_ ≠ (.slice Ao84 x6_1.length co84 : Value).ownBlock ∧ some k_ ≠ (.slice Ao80 y428.length co80 : Value).ownBlock ∧ some k_ ≠ (v440 : Value).ownBlock ∧ k_ ≠ g)) (by (with_reducible repeat (first | apply Kd.N_alloc | apply Kd.N_drewN | apply Kd.N_drew)); exact Kd.N_mono HO455.out (fun _ hk => ⟨⟨hk.2.2.2.1, ⟨hk.2.2.2.2.1, ⟨hk.1, ⟨hk.2.1, hk.2.2.2.2.2⟩⟩⟩⟩, hk.2.2.1⟩)) hg hat)
                     replace HB := Aside0.mk (below_weaken (bi64 HB.out HI0.out) HL.out hb)
                     replace HK := Aside0.mk (KeepBut.trans (kb HK.out) (KeepBut.of_grown hg g) (Kd.N_base2 HO452.out))
                     have HO458 := Aside0.mk (ho)
                     clear HO452
                     replace HI0 := n2_
                     clear n2_
                     clear ho hb hg hat
                     refine hK.out _ _ trivial (fun hHeld => ?_)
                     clear hK K
                     refine nm 94 ?_
                     refine one_ (i := 11) (N := some 98) #[true, true, true, true, true, true, true, true, true, true, true, true, false] rfl rfl (one_of HT_.out (by kernel_rfl)) (by decide) (fun K hK => ?_)
                     refine Kd.N_append_rows_step (Kd.slice 3 (Kd.int .i64)) w.heap.size (by rfl) (.tmp 94) (.tmp 97) 36 23 (.slice none 0 0) 24 rfl Try.underlying36 info23 rfl (by decide) (by omega) v457 y456 y459 _ _ _ (fun k_ => some k_ ≠ (.slice Ao70 x5_1.length co70 : Value).ownBlock ∧ some k_ ≠ (.slice Ao80 y428.length co80 : Value).ownBlock ∧ some k_ ≠ (v440 : Value).ownBlock ∧ k_ ≠ g) (fun k_ => ((fun k_ => some k_ ≠ (.slice Ao70 x5_1.length co70 : Value).ownBlock ∧ some k_ ≠ (.slice Ao80 y428.length co80 : Value).ownBlock ∧ some k_ ≠ (v440 : Value).ownBlock ∧ k_ ≠ g)) k_ ∧ some k_ ≠ (v457 : Value).ownBlock) rfl rfl ?aO ?aR (fun _ hk => hk) ?aF (Below.refl _ _) ?aS ?aL ?_
                     (case aR => exact (by skip; exact Kd.V_F (Kd.V_mono (ok' := (fun k_ => ((fun k_ => some k_ ≠ (.slice Ao70 x5_1.length co70 : Value).ownBlock ∧ some k_ ≠ (.slice Ao80 y428.length co80 : Value).ownBlock ∧ some k_ ≠ (v440 : Value).ownBlock ∧ k_ ≠ g)) k_ ∧ some k_ ≠ (v457 : Value).ownBlock)) (HO463.out) (fun k_ hk => ⟨⟨hk.1.1, ⟨hk.1.2.1, ⟨hk.1.2.2.1, hk.1.2.2.2.2⟩⟩⟩, hk.2⟩))))
                     (case aF => exact (fun k_ hk => ⟨Kd.fresh' (Kd.R_lt (rR HO_5.out)) k_ hk, Kd.fresh' (Kd.R_lt (rR HO430.out)) k_ hk, Kd.fresh' (Kd.R_lt (rR HO441.out)) k_ hk, IsS64.fresh (is64 HI0.out) k_ hk⟩))
                     (case aO => exact (rN HO458.out))
                     (case aS => exact (keep_size (w := w) (g := g) (row := none) (kb HK.out)))
                     (case aL => have := LMc67.out; omega)
                     intro v465 w95 ho hb hg hat
                     rw [← Ny464.out] at ho
                     replace HO_5 := Aside0.mk (Kd.R_over' (rR HO_5.out) (Kd.N_typed (rN HO458.out)) (by decide) hg)
                     replace HO_6 := Aside0.mk (Kd.N_afterv (ok := (fun k_ => some k_ ≠ (.slice Ao70 x5_1.length co70 : Value).ownBlock ∧ some k_ ≠ (.slice Ao80 y428.length co80 : Value).ownBlock ∧ some k_ ≠ (v440 : Value).ownBlock ∧ some k_ ≠ (.slice Ao94 y453.length co94 : Value).ownBlock ∧ k_ ≠ g)) (rN HO_6.out) hg hat)
                     have n2_ := Aside0.mk (IsS64.grown (is64 HI0.out) hg (IsS64.own_neN HI0.out HO458.out (by decide)))
                     replace HO420 := Aside0.mk (Kd.V_afterv (ok := (fun k_ => some k_ ≠ (.slice Ao84 x6_1.length co84 : Value).ownBlock ∧ some k_ ≠ (.slice Ao80 y428.length co80 : Value).ownBlock ∧ some k_ ≠ (v440 : Value).ownBlock ∧ some k_ ≠ (.slice Ao94 y453.length co94 : Value).ownBlock ∧ k_ ≠ g)) (rV HO420.out) hg hat)
                     replace HO438 := Aside0.mk (Kd.V_afterv (ok := (fun k_ => some k_ ≠ (.slice Ao84 x6_1.length co84 : Value).ownBlock ∧ some k_ ≠ (.slice Ao80 y428.length co80 : Value).ownBlock ∧ some k_ ≠ (v440 : Value).ownBlock ∧ some k_ ≠ (.slice Ao94 y453.length co94 : Value).ownBlock ∧ k_ ≠ g)) (rV HO438.out) hg hat)
                     replace HO430 := Aside0.mk (Kd.R_over' (rR HO430.out) (Kd.N_typed (rN HO458.out)) (by decide) hg)
                     replace HO441 := Aside0.mk (Kd.R_over' (rR HO441.out) (Kd.N_typed (rN HO458.out)) (by decide) hg)
                     replace HO449 := Aside0.mk (Kd.V_afterv (ok := (fun k_ => some k_ ≠ (.slice Ao70 x5_1.length co70 : Value).ownBlock ∧ some k_ ≠ (.slice Ao80 y428.length co80 : Value).ownBlock ∧ some k_ ≠ (v440 : Value).ownBlock ∧ some k_ ≠ (.slice Ao94 y453.length co94 : Value).ownBlock ∧ k_ ≠ g)) (rV HO449.out) hg hat)
                     replace HO463 := Aside0.mk (Kd.V_afterv (ok := (fun k_ => some k_ ≠ (.slice Ao70 x5_1.length co70 : Value).ownBlock ∧ some k_ ≠ (.slice Ao80 y428.length co80 : Value).ownBlock ∧ some k_ ≠ (v440 : Value).ownBlock ∧ some k_ ≠ (.slice Ao94 y453.length co94 : Value).ownBlock ∧ k_ ≠ g)) (rV HO463.out) hg hat)
                     replace HO455 := Aside0.mk (Kd.N_afterv (ok := (fun k_ => some k_ ≠ (.slice Ao70 x5_1.length co70 : Value).ownBlock ∧ some k_ ≠ (.slice Ao84 x6_1.length co84 : Value).ownBlock ∧ some k_ ≠ (.slice Ao80 y428.length co80 : Value).ownBlock ∧ some k_ ≠ (v440 : Value).ownBlock ∧ k_ ≠ g)) (rN HO455.out) hg hat)
                     replace HB := Aside0.mk (below_weaken (bi64 HB.out HI0.out) HL.out hb)
                     replace HK := Aside0.mk (KeepBut.trans (kb HK.out) (KeepBut.of_grown hg g) (Kd.N_base2 HO458.out))
                     have HO466 := Aside0.mk (ho)
                     clear HO458
                     replace HI0 := n2_
                     clear n2_
                     clear ho hb hg hat
                     refine hK.out _ _ trivial (fun hHeld => ?_)
                     clear hK K
                     refine nm 98 ?_
                     refine pu 12 6 ?_
                     refine done_ (done_of HT_.out (by kernel_rfl)) ?_
                     (try clear hHeld)
                     try go_wp2
                     go_roundg kj36
                     case measure => have := HK1.out; have := HJ15.out; have := HJ24.out; have := HJ36.out; omega
                     case rel => exact ⟨(y439), (y464), (wrap64 (x7_1 - 1)), (t427), (by first | rfl | (simp; done) | (simp [*]; done)), H', ⟨by have := HK1.out; have := HJ15.out; have := HJ24.out; have := HJ36.out; omega⟩, ⟨by (with_reducible repeat (first | apply Kd.R_alloc | apply Kd.R_drewN | apply Kd.R_drew)); exact Kd.R_mono HO441.out (fun _ hk => trivial)⟩, ⟨by (with_reducible repeat (first | apply Kd.N_alloc | apply Kd.N_drewN | apply Kd.N_drew)); exact Kd.N_mono HO466.out (fun _ hk => ⟨hk.2.2.1, hk.2.2.2⟩)⟩, ⟨is64 HI0.out⟩, ⟨kb HK.out⟩, ⟨bi64 HB.out HI0.out⟩⟩
                    ·rw [if_neg c67] at H
                     exact absurd H (by simp)
                   ·rw [if_neg c64] at H
                    exact absurd H (by simp)
                  ·rw [if_neg c63] at H
                   exact absurd H (by simp)
                 ·rw [if_neg c62] at H
                  exact absurd H (by simp)
                ·rw [if_neg c60] at H
                 exact absurd H (by simp)
               ·rw [if_neg c57] at H
                exact absurd H (by simp)
              ·rw [if_neg c54] at H
               exact absurd H (by simp)
             ·rw [if_neg c53] at H
              exact absurd H (by simp)
            ·rw [if_neg c52] at H
             exact absurd H (by simp)
    ·rw [if_neg c14] at H
     have c14b0 : decide (0 < x7_1) = false := decide_eq_false c14
     clear c14
     replace H := Option.bind_eq_some_iff.mp H
     obtain ⟨t393, A960, H⟩ := H
     replace H : (some (t393, x1001_1)) = some (r1, r2) := H
     have A96 := Aside0.mk A960
     clear A960
     simp only [Option.some.injEq, Prod.mk.injEq] at H
     obtain ⟨rfl, rfl⟩ := H
     obtain ⟨Ao97, co97, eo97⟩ := Kd.R_slice HO_5.out
     subst eo97
     obtain ⟨Ao98, co98, eo98⟩ := Kd.N_slice HO_6.out
     subst eo98
     go_wp2_with (first | ((with_reducible refine gate_callee (f := 73) rfl ?_); refine goesL_ (some 101) rfl rfl Try.func73 (by kernel_rfl) rfl #[.slice Ao97 x5_1.length co97, .slice Ao98 x6_1.length co98] rfl ls ?_; (with_reducible refine (spec_l1Make.calls k1 _ _ x5_1 _ _ x6_1 t393 _ ?side1 ?side2 ?side3 ?side4 A96.out).mono ?_); (case side1 => repeat (first | exact (Kd.R_reads' HO_5.out).2.2 | (with_reducible refine Kd.C_alloc ?_ _) | (with_reducible refine Kd.C_drewN ?_ _) | (with_reducible refine Kd.C_drew ?_))); (case side2 => exact (Kd.R_reads' HO_5.out).2.1); (case side3 => repeat (first | exact (Kd.N_reads' HO_6.out).2.2 | (with_reducible refine Kd.C_alloc ?_ _) | (with_reducible refine Kd.C_drewN ?_ _) | (with_reducible refine Kd.C_drew ?_))); (case side4 => exact (Kd.N_reads' HO_6.out).2.1); rintro e w99 ⟨v394, rfl, ho0, hb⟩; refine ⟨_, rfl, ?_⟩; have n0_ := Aside0.mk (Kd.R_elder' (rR HO_5.out) (Kd.R_base ho0) hb); replace HO_6 := Aside0.mk (Kd.N_elder' (rN HO_6.out) (Kd.R_base ho0) hb); have HO395 := Aside0.mk (Kd.R_lower (Kd.R_new' ho0 (Kd.R_lt (rR HO_5.out))) (keep_size (w := w) (g := g) (row := none) (kb HK.out))); have n3_ := Aside0.mk (IsS64.below (is64 HI0.out) hb); replace HK := Aside0.mk (KeepBut.trans (kb HK.out) (KeepBut.of_below hb g none) (.inl rfl)); replace HB := Aside0.mk (below_step (bi64 HB.out HI0.out) hb); replace HO_5 := n0_; replace HI0 := n3_; clear n0_ n3_; (try clear hb); (try clear hb2); (try clear hk); (try clear hi); (try clear ho0)))
     go_ret
     exact ⟨_, by first | rfl | (simp [errW_none, errW_some] <;> rfl) | (simp [*, errW_none, errW_some] <;> rfl), by (with_reducible repeat (first | apply Kd.R_alloc | apply Kd.R_drewN | apply Kd.R_drew)); exact Kd.R_mono HO395.out (fun _ hk => trivial), is64 HI0.out, bi64 HB.out HI0.out, kb HK.out⟩

end Go.Proofs.Ytfhniahijnkgpaa.PFnFallOk
