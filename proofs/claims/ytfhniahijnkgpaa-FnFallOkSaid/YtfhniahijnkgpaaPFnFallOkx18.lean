-- x
import Derived.Test.YtfhniahijnkgpaaPFnFallOkx0
import Derived.Test.YtfhniahijnkgpaaPFnFallOkx1
import Derived.Test.YtfhniahijnkgpaaPFnFallOkx2
import Derived.Test.YtfhniahijnkgpaaPFnFallOkx6
import Derived.Test.YtfhniahijnkgpaaPFnFallOkx10
import Derived.Test.YtfhniahijnkgpaaPFnFallOkx16
import Derived.Test.YtfhniahijnkgpaaPFnFallOkx17
namespace Go.Proofs.Ytfhniahijnkgpaa.PFnFallOk
open Go.RowKit Go.Proofs.YtfhniahijnkgpaaW.PrintWords Go.Proofs.YtfhniahijnkgpaaW.PrintLast Go.Proofs.YtfhniahijnkgpaaW.PrintMore
attribute [local go_sem] max2_int min2_int max_two min_two max_three min_three max_four min_four   -- for this text's walks alone
set_option linter.unusedVariables false
set_option linter.unusedSimpArgs false

/-! ### laws_FnFallOk: function 9 -/
def laws_FnFallOk.l0 : Nat → List Int → List (List Int) → Bool → List Int → List (List Int) → Int → Option (Bool)
 | 0, _, _, _, _, _, _ => none
 | k + 1, x3, x4, x5, x6, x7, x8 => if x8 < (x6.length : Int) then (if 0 ≤ x8 then ((impl_OrdOf.f k (mx (rd x6 x8) 0)).bind fun t584 => (if x7.length < 5864062014805 then ((some (x7 ++ [t584] : List (List Int))).bind fun y587 => (if x5 = true then (if x8 ≥ (x4.length : Int) then (some false) else (if x8 < (x4.length : Int) then (if x8 < (y587.length : Int) then ((impl_OrdCompare.f k (rd_L2 x4 x8) (rd_L2 y587 x8)).bind fun t592 => (if t592 < 0 then (some false) else (laws_FnFallOk.l0 k x3 x4 x5 x6 y587 (wrap64 (x8 + 1))))) else (none)) else (none))) else (laws_FnFallOk.l0 k x3 x4 x5 x6 y587 (wrap64 (x8 + 1))))) else (none))) else (none)) else (if x5 = true then ((impl_WellFounded.f k x3).bind fun t593 => (if t593 = true then ((impl_FallOk.f k x3 x7).bind fun t594 => ((impl_WellFounded.f k x3).bind fun t595 => (if (t594 == t595) = true then ((laws_alive.f k).bind fun t596 => (some t596)) else (some false)))) else (some false))) else ((impl_FallOk.f k x3 x7).bind fun t597 => ((impl_WellFounded.f k x3).bind fun t598 => (if (t597 == t598) = true then ((laws_alive.f k).bind fun t599 => (some t599)) else (some false)))))
def laws_FnFallOk.f (k : Nat) (l0 : List Int) : Option (Bool) := if (l0.length : Int) > 1048576 then (some true) else ((spec_DrawFallOk.f k l0).bind fun bt569 => ((impl_FallOk.f k bt569.1 bt569.2).bind fun t575 => ((spec_FallOk.f k bt569.1 bt569.2).bind fun t576 => (if (t575 != t576) = true then (some false) else ((impl_RanksOf.f k bt569.1).bind fun t577 => (laws_FnFallOk.l0 k bt569.1 bt569.2 t575 t577 (([] : List (List Int))) 0))))))
theorem laws_FnFallOk.mono_l : ∀ k, (∀ y0 y1 y2 y3 y4 y5, LeO (laws_FnFallOk.l0 k y0 y1 y2 y3 y4 y5) (laws_FnFallOk.l0 (k + 1) y0 y1 y2 y3 y4 y5))
 | 0 => fun _ _ _ _ _ _ r h => by simp [laws_FnFallOk.l0] at h
 | k + 1 => by
  have ih0 := laws_FnFallOk.mono_l k
  ·intro y0 y1 y2 y3 y4 y5
   unfold laws_FnFallOk.l0
   repeat' first
   | (with_reducible exact ih0 _ _ _ _ _ _)
   | (with_reducible exact impl_FallOk.mono _ _ _)
   | (with_reducible exact impl_OrdCompare.mono _ _ _)
   | (with_reducible exact impl_OrdOf.mono _ _)
   | (with_reducible exact impl_RanksOf.mono _ _)
   | (with_reducible exact impl_WellFounded.mono _ _)
   | (with_reducible exact laws_alive.mono _)
   | (with_reducible exact spec_DrawFallOk.mono _ _)
   | (with_reducible exact spec_FallOk.mono _ _ _)
   | (with_reducible exact LeO.refl _)
   | (with_reducible exact LeO.none _)
   | (with_reducible refine LeO.ite ?_ ?_)
   | (with_reducible refine LeO.bind ?_ (fun _ => ?_))
   | exact ih0 _ _ _ _ _ _
   | exact impl_FallOk.mono _ _ _
   | exact impl_OrdCompare.mono _ _ _
   | exact impl_OrdOf.mono _ _
   | exact impl_RanksOf.mono _ _
   | exact impl_WellFounded.mono _ _
   | exact laws_alive.mono _
   | exact spec_DrawFallOk.mono _ _
   | exact spec_FallOk.mono _ _ _
   | exact LeO.none _
   | refine LeO.ite ?_ ?_
   | refine LeO.bind ?_ (fun _ => ?_)
theorem laws_FnFallOk.mono : ∀ a0 k, LeO (laws_FnFallOk.f k a0) (laws_FnFallOk.f (k + 1) a0) := by
 intro a0 k
 have ih0 := laws_FnFallOk.mono_l k
 unfold laws_FnFallOk.f
 repeat' first
   | (with_reducible exact ih0 _ _ _ _ _ _)
   | (with_reducible exact impl_FallOk.mono _ _ _)
   | (with_reducible exact impl_OrdCompare.mono _ _ _)
   | (with_reducible exact impl_OrdOf.mono _ _)
   | (with_reducible exact impl_RanksOf.mono _ _)
   | (with_reducible exact impl_WellFounded.mono _ _)
   | (with_reducible exact laws_alive.mono _)
   | (with_reducible exact spec_DrawFallOk.mono _ _)
   | (with_reducible exact spec_FallOk.mono _ _ _)
   | (with_reducible exact LeO.refl _)
   | (with_reducible exact LeO.none _)
   | (with_reducible refine LeO.ite ?_ ?_)
   | (with_reducible refine LeO.bind ?_ (fun _ => ?_))
   | exact ih0 _ _ _ _ _ _
   | exact impl_FallOk.mono _ _ _
   | exact impl_OrdCompare.mono _ _ _
   | exact impl_OrdOf.mono _ _
   | exact impl_RanksOf.mono _ _
   | exact impl_WellFounded.mono _ _
   | exact laws_alive.mono _
   | exact spec_DrawFallOk.mono _ _
   | exact spec_FallOk.mono _ _ _
   | exact LeO.none _
   | refine LeO.ite ?_ ?_
   | refine LeO.bind ?_ (fun _ => ?_)
def laws_FnFallOk.T13 : Bool × List (List Nat × List Nat) := (true, [([], []), ([0], [0]), ([1], [1]), ([1], [1]), ([3, 1], [1, 3]), ([2, 4, 1], [1, 2, 4]), ([5, 1, 1], [1, 5]), ([6], [6]), ([6], [6]), ([7, 8, 6], [6, 7, 8]), ([9, 6], [6, 9]), ([6], [6]), ([6], [6]), ([11, 12, 6], [6, 11, 12]), ([13, 6], [6, 13]), ([10, 14, 6, 6], [6, 10, 14]), ([15, 6], [6, 15]), ([6, 16, 1], [1, 6, 16]), ([1, 17], [1, 17])])
def laws_FnFallOk.B13 : List Nat := [0, 1, 3, 3, 11, 31, 63, 127, 127, 511, 1023, 127, 127, 6271, 14463, 32767, 65535, 131071, 262143]
theorem laws_FnFallOk.tab13 : rtab .any (opsOf Try.f9 13) = laws_FnFallOk.T13 := by kernel_rfl
theorem laws_FnFallOk.bits13 : waitsOk laws_FnFallOk.T13.2 laws_FnFallOk.B13 = true := by kernel_rfl
set_option maxHeartbeats 8000000 in
set_option maxRecDepth 100000 in
theorem laws_FnFallOk.calls (k : Nat) (A0 : Option Addr) (c0 : Nat) (l0 : List Int) (r : Bool) (w : World) (hr0 : Kd.C (Kd.int .u8) w A0 l0.length l0) (hc0 : l0.length ≤ c0) (h : laws_FnFallOk.f k l0 = some r) :
  Calls Try.prog 9 #[.slice A0 l0.length c0] w fun e w' => e = .returned (.bool r) ∧ Below w.heap.size w w' := by
 have HR0 := Aside0.mk hr0
 have HC0 := Aside0.mk hc0
 clear hr0 hc0
 have HB := Aside0.mk (Below.refl w.heap.size w)
 have H : (if (l0.length : Int) > 1048576 then (some true) else ((spec_DrawFallOk.f k l0).bind fun bt569 => ((impl_FallOk.f k bt569.1 bt569.2).bind fun t575 => ((spec_FallOk.f k bt569.1 bt569.2).bind fun t576 => (if (t575 != t576) = true then (some false) else ((impl_RanksOf.f k bt569.1).bind fun t577 => (laws_FnFallOk.l0 k bt569.1 bt569.2 t575 t577 (([] : List (List Int))) 0))))))) = some r := h
 clear h
 by_cases c2 : (l0.length : Int) > 1048576
 ·rw [if_pos c2] at H
  have c2b0 : decide (1048576 < (l0.length : Int)) = true := decide_eq_true c2
  have c2b1 : decide (1048576 < l0.length) = true := decide_eq_true (by omega)
  clear c2
  obtain rfl := Option.some.inj H
  go_enter Try.func9, Try.ntmps9
  go_wp2
  go_ret
  exact ⟨er, bl HB.out⟩
 ·rw [if_neg c2] at H
  have c2b0 : decide (1048576 < (l0.length : Int)) = false := decide_eq_false c2
  have c2b1 : decide (1048576 < l0.length) = false := decide_eq_false (by omega)
  clear c2
  replace H := Option.bind_eq_some_iff.mp H
  obtain ⟨⟨t569, t570⟩, A30, H⟩ := H
  replace H : ((impl_FallOk.f k t569 t570).bind fun t575 => ((spec_FallOk.f k t569 t570).bind fun t576 => (if (t575 != t576) = true then (some false) else ((impl_RanksOf.f k t569).bind fun t577 => (laws_FnFallOk.l0 k t569 t570 t575 t577 (([] : List (List Int))) 0))))) = some r := H
  have A3 := Aside0.mk A30
  clear A30
  replace H := Option.bind_eq_some_iff.mp H
  obtain ⟨t575, A40, H⟩ := H
  replace H : ((spec_FallOk.f k t569 t570).bind fun t576 => (if (t575 != t576) = true then (some false) else ((impl_RanksOf.f k t569).bind fun t577 => (laws_FnFallOk.l0 k t569 t570 t575 t577 (([] : List (List Int))) 0)))) = some r := H
  have A4 := Aside0.mk A40
  clear A40
  replace H := Option.bind_eq_some_iff.mp H
  obtain ⟨t576, A50, H⟩ := H
  replace H : (if (t575 != t576) = true then (some false) else ((impl_RanksOf.f k t569).bind fun t577 => (laws_FnFallOk.l0 k t569 t570 t575 t577 (([] : List (List Int))) 0))) = some r := H
  have A5 := Aside0.mk A50
  clear A50
  by_cases c6 : (t575 != t576) = true
  ·rw [if_pos c6] at H
   have c6b0 : (t575 != t576) = true := c6
   (try (have c6b1 : decide (t575 = t576) = false := by simpa using c6))
   (try (have c6b2 : (t575 == t576) = false := by simpa using c6))
   (try (have c6b3 : ¬ (t575 = t576) := by simpa using c6))
   clear c6
   obtain rfl := Option.some.inj H
   go_enter Try.func9, Try.ntmps9
   go_wp2_with (first | ((with_reducible refine gate_callee (f := 37) rfl ?_); refine goesL_ (some 14) rfl rfl Try.func37 (by kernel_rfl) rfl #[.slice A0 l0.length c0] rfl ls ?_; (with_reducible refine (spec_DrawFallOk.calls k _ _ l0 t569 t570 _ ?side1 ?side2 A3.out).mono ?_); (case side1 => repeat (first | exact HR0.out | (with_reducible refine Kd.C_alloc ?_ _) | (with_reducible refine Kd.C_drewN ?_ _) | (with_reducible refine Kd.C_drew ?_))); (case side2 => exact HC0.out); rintro e w7 ⟨v571, v573, rfl, ho0, ho1, hb⟩; refine ⟨_, rfl, ?_⟩; have HO572 := Aside0.mk (Kd.R_lower ho0 (below_size (bl HB.out))); have HO574 := Aside0.mk (Kd.S_lower ho1 (below_size (bl HB.out))); replace HB := Aside0.mk (below_step (bl HB.out) hb); (try clear hb); (try clear hb2); (try clear hk); (try clear hi); (try clear ho0); (try clear ho1); obtain ⟨Ao8, co8, eo8⟩ := Kd.R_slice HO572.out; subst eo8; obtain ⟨Ao9, co9, eo9⟩ := Kd.S_slice HO574.out; subst eo9) | ((with_reducible refine gate_callee (f := 34) rfl ?_); refine goesL_ (some 19) rfl rfl Try.func34 (by kernel_rfl) rfl #[.slice Ao8 t569.length co8, .slice Ao9 t570.length co9] rfl ls ?_; (with_reducible refine (impl_FallOk.calls k _ _ t569 _ _ t570 t575 _ ?side1 ?side2 ?side3 ?side4 A4.out).mono ?_); (case side1 => repeat (first | exact (Kd.R_reads' HO572.out).2.2 | (with_reducible refine Kd.C_alloc ?_ _) | (with_reducible refine Kd.C_drewN ?_ _) | (with_reducible refine Kd.C_drew ?_))); (case side2 => exact (Kd.R_reads' HO572.out).2.1); (case side3 => repeat (first | exact (Kd.S_reads' HO574.out).2.2 | (with_reducible refine Kd.C_alloc ?_ _) | (with_reducible refine Kd.C_drewN ?_ _) | (with_reducible refine Kd.C_drew ?_))); (case side4 => exact (Kd.S_reads' HO574.out).2.1); rintro e w10 ⟨rfl, hb⟩; refine ⟨_, rfl, ?_⟩; replace HO572 := Aside0.mk (Kd.R_below (rR HO572.out) hb); replace HO574 := Aside0.mk (Kd.S_below (rS HO574.out) hb); replace HB := Aside0.mk (below_step (bl HB.out) hb); (try clear hb); (try clear hb2); (try clear hk); (try clear hi)) | ((with_reducible refine gate_callee (f := 31) rfl ?_); refine goesL_ (some 23) rfl rfl Try.func31 (by kernel_rfl) rfl #[.slice Ao8 t569.length co8, .slice Ao9 t570.length co9] rfl ls ?_; (with_reducible refine (spec_FallOk.calls k _ _ t569 _ _ t570 t576 _ ?side1 ?side2 ?side3 ?side4 A5.out).mono ?_); (case side1 => repeat (first | exact (Kd.R_reads' HO572.out).2.2 | (with_reducible refine Kd.C_alloc ?_ _) | (with_reducible refine Kd.C_drewN ?_ _) | (with_reducible refine Kd.C_drew ?_))); (case side2 => exact (Kd.R_reads' HO572.out).2.1); (case side3 => repeat (first | exact (Kd.S_reads' HO574.out).2.2 | (with_reducible refine Kd.C_alloc ?_ _) | (with_reducible refine Kd.C_drewN ?_ _) | (with_reducible refine Kd.C_drew ?_))); (case side4 => exact (Kd.S_reads' HO574.out).2.1); rintro e w11 ⟨rfl, hb⟩; refine ⟨_, rfl, ?_⟩; replace HO572 := Aside0.mk (Kd.R_below (rR HO572.out) hb); replace HO574 := Aside0.mk (Kd.S_below (rS HO574.out) hb); replace HB := Aside0.mk (below_step (bl HB.out) hb); (try clear hb); (try clear hb2); (try clear hk); (try clear hi)))
   go_ret
   exact ⟨er, bl HB.out⟩
  ·rw [if_neg c6] at H
   have c6b0 : (t575 != t576) = false := by simpa using c6
   (try (have c6b1 : decide (t575 = t576) = true := by simpa using c6))
   (try (have c6b2 : (t575 == t576) = true := by simpa using c6))
   clear c6
   replace H := Option.bind_eq_some_iff.mp H
   obtain ⟨t577, A120, H⟩ := H
   replace H : (laws_FnFallOk.l0 k t569 t570 t575 t577 (([] : List (List Int))) 0) = some r := H
   have A12 := Aside0.mk A120
   clear A120
   obtain ⟨y580, hy580⟩ : ∃ y_ : List (List Int), y_ = (([] : List (List Int))) := ⟨_, rfl⟩
   replace H : (laws_FnFallOk.l0 k t569 t570 t575 t577 y580 0) = some r := fb hy580 H
   have Ny580 := Aside0.mk hy580
   clear hy580
   have H' := Aside0.mk H
   clear H
   go_enter Try.func9, Try.ntmps9
   go_wp2_with (first | ((with_reducible refine gate_callee (f := 37) rfl ?_); refine goesL_ (some 14) rfl rfl Try.func37 (by kernel_rfl) rfl #[.slice A0 l0.length c0] rfl ls ?_; (with_reducible refine (spec_DrawFallOk.calls k _ _ l0 t569 t570 _ ?side1 ?side2 A3.out).mono ?_); (case side1 => repeat (first | exact HR0.out | (with_reducible refine Kd.C_alloc ?_ _) | (with_reducible refine Kd.C_drewN ?_ _) | (with_reducible refine Kd.C_drew ?_))); (case side2 => exact HC0.out); rintro e w13 ⟨v571, v573, rfl, ho0, ho1, hb⟩; refine ⟨_, rfl, ?_⟩; have HO572 := Aside0.mk (Kd.R_lower ho0 (below_size (bl HB.out))); have HO574 := Aside0.mk (Kd.S_lower ho1 (below_size (bl HB.out))); replace HB := Aside0.mk (below_step (bl HB.out) hb); (try clear hb); (try clear hb2); (try clear hk); (try clear hi); (try clear ho0); (try clear ho1); obtain ⟨Ao14, co14, eo14⟩ := Kd.R_slice HO572.out; subst eo14; obtain ⟨Ao15, co15, eo15⟩ := Kd.S_slice HO574.out; subst eo15) | ((with_reducible refine gate_callee (f := 34) rfl ?_); refine goesL_ (some 19) rfl rfl Try.func34 (by kernel_rfl) rfl #[.slice Ao14 t569.length co14, .slice Ao15 t570.length co15] rfl ls ?_; (with_reducible refine (impl_FallOk.calls k _ _ t569 _ _ t570 t575 _ ?side1 ?side2 ?side3 ?side4 A4.out).mono ?_); (case side1 => repeat (first | exact (Kd.R_reads' HO572.out).2.2 | (with_reducible refine Kd.C_alloc ?_ _) | (with_reducible refine Kd.C_drewN ?_ _) | (with_reducible refine Kd.C_drew ?_))); (case side2 => exact (Kd.R_reads' HO572.out).2.1); (case side3 => repeat (first | exact (Kd.S_reads' HO574.out).2.2 | (with_reducible refine Kd.C_alloc ?_ _) | (with_reducible refine Kd.C_drewN ?_ _) | (with_reducible refine Kd.C_drew ?_))); (case side4 => exact (Kd.S_reads' HO574.out).2.1); rintro e w16 ⟨rfl, hb⟩; refine ⟨_, rfl, ?_⟩; replace HO572 := Aside0.mk (Kd.R_below (rR HO572.out) hb); replace HO574 := Aside0.mk (Kd.S_below (rS HO574.out) hb); replace HB := Aside0.mk (below_step (bl HB.out) hb); (try clear hb); (try clear hb2); (try clear hk); (try clear hi)) | ((with_reducible refine gate_callee (f := 31) rfl ?_); refine goesL_ (some 23) rfl rfl Try.func31 (by kernel_rfl) rfl #[.slice Ao14 t569.length co14, .slice Ao15 t570.length co15] rfl ls ?_; (with_reducible refine (spec_FallOk.calls k _ _ t569 _ _ t570 t576 _ ?side1 ?side2 ?side3 ?side4 A5.out).mono ?_); (case side1 => repeat (first | exact (Kd.R_reads' HO572.out).2.2 | (with_reducible refine Kd.C_alloc ?_ _) | (with_reducible refine Kd.C_drewN ?_ _) | (with_reducible refine Kd.C_drew ?_))); (case side2 => exact (Kd.R_reads' HO572.out).2.1); (case side3 => repeat (first | exact (Kd.S_reads' HO574.out).2.2 | (with_reducible refine Kd.C_alloc ?_ _) | (with_reducible refine Kd.C_drewN ?_ _) | (with_reducible refine Kd.C_drew ?_))); (case side4 => exact (Kd.S_reads' HO574.out).2.1); rintro e w17 ⟨rfl, hb⟩; refine ⟨_, rfl, ?_⟩; replace HO572 := Aside0.mk (Kd.R_below (rR HO572.out) hb); replace HO574 := Aside0.mk (Kd.S_below (rS HO574.out) hb); replace HB := Aside0.mk (below_step (bl HB.out) hb); (try clear hb); (try clear hb2); (try clear hk); (try clear hi)) | ((with_reducible refine gate_callee (f := 16) rfl ?_); refine goesL_ (some 26) rfl rfl Try.func16 (by kernel_rfl) rfl #[.slice Ao14 t569.length co14] rfl ls ?_; (with_reducible refine (impl_RanksOf.calls k _ _ t569 t577 _ ?side1 ?side2 A12.out).mono ?_); (case side1 => repeat (first | exact (Kd.R_reads' HO572.out).2.2 | (with_reducible refine Kd.C_alloc ?_ _) | (with_reducible refine Kd.C_drewN ?_ _) | (with_reducible refine Kd.C_drew ?_))); (case side2 => exact (Kd.R_reads' HO572.out).2.1); rintro e w18 ⟨v578, rfl, ho0, hb⟩; refine ⟨_, rfl, ?_⟩; have n0_ := Aside0.mk (Kd.R_elder' (rR HO572.out) (Kd.R_base ho0) hb); replace HO574 := Aside0.mk (Kd.S_elder' (rS HO574.out) (Kd.R_base ho0) hb); have HO579 := Aside0.mk (Kd.R_lower (Kd.R_new' ho0 (Kd.R_lt (rR HO572.out))) (below_size (bl HB.out))); replace HB := Aside0.mk (below_step (bl HB.out) hb); replace HO572 := n0_; clear n0_; (try clear hb); (try clear hb2); (try clear hk); (try clear hi); (try clear ho0)) | ((with_reducible refine gate_dst (N := 27) rfl ?_); (try (refine gate_guard (by rfl) ?_; dsimp only)); refine Kd.S_lit (Kd.slice 3 (Kd.int .i64)) _ 23 ?hg (N := 27) ?hd (xs := ([] : List (List Int))) (inner := []) (ok := fun _ => True) (okp := fun _ => True) ?hr ?hp (fun _ hk => hk) trivial (Below.refl _ _) (Nat.le_refl _) (by simp) ?_; (case hd => rfl); (case hg => rfl); (case hr => first | (go_simp; done) | (go_simp; rfl)); (case hp => exact (Reps.none _ _)); intro v581 w19 ho20 hb hg_ hnew_; clear hg_ hnew_; (first | rw [← Ny580.out] at ho20 | (simp only [Int.reduceToNat] at ho20; rw [← Ny580.out] at ho20)); have n0_ := Aside0.mk (Kd.R_below (rR HO572.out) hb); have n1_ := Aside0.mk (Kd.S_elder' (rS HO574.out) (Kd.S_base ho20) hb); have n2_ := Aside0.mk (Kd.R_below (rR HO579.out) hb); have HO582 := Aside0.mk (Kd.S_lower (Kd.S_new' (Kd.S_new' (Kd.S_new' ho20 (Kd.R_lt (rR HO572.out))) (Kd.S_lt (rS HO574.out))) (Kd.R_lt (rR HO579.out))) (below_size (bl HB.out))); replace HB := Aside0.mk (below_step (bl HB.out) hb); replace HO572 := n0_; replace HO574 := n1_; replace HO579 := n2_; clear n0_ n1_ n2_; clear hb ho20))
   go_loopg [7, 8] k (fun kq v7 v8 w' => ∃ (x7_1 : List (List Int)) (x8_1 : Int), v8 = .int .i64 x8_1 ∧ Aside0 (laws_FnFallOk.l0 kq t569 t570 t575 t577 x7_1 x8_1 = some r) ∧ Aside0 (kq ≤ k) ∧ Aside0 (Kd.R (Kd.int .i64) 3 w' w.heap.size (fun k_ => some k_ ≠ (v578 : Value).ownBlock) (.slice Ao14 t569.length co14) t569) ∧ Aside0 (Kd.S (Kd.slice 3 (Kd.int .i64)) 23 w' w.heap.size (fun k_ => some k_ ≠ ((.slice Ao14 t569.length co14) : Value).ownBlock ∧ some k_ ≠ (v578 : Value).ownBlock ∧ some k_ ≠ (v7 : Value).ownBlock) (.slice Ao15 t570.length co15) t570) ∧ Aside0 (Kd.R (Kd.int .i64) 3 w' w.heap.size (fun k_ => some k_ ≠ ((.slice Ao14 t569.length co14) : Value).ownBlock) v578 t577) ∧ Aside0 (Kd.S (Kd.slice 3 (Kd.int .i64)) 23 w' w.heap.size (fun k_ => some k_ ≠ ((.slice Ao14 t569.length co14) : Value).ownBlock ∧ some k_ ≠ ((.slice Ao15 t570.length co15) : Value).ownBlock ∧ some k_ ≠ (v578 : Value).ownBlock) v7 x7_1) ∧ Aside0 (Below w.heap.size w w'))
   case atStart => exact ⟨(y580), (0), rr, H', ⟨Nat.le_refl _⟩, ⟨by (with_reducible repeat (first | apply Kd.R_alloc | apply Kd.R_drewN | apply Kd.R_drew)); exact Kd.R_mono HO572.out (fun _ hk => hk.2)⟩, ⟨by (with_reducible repeat (first | apply Kd.S_alloc | apply Kd.S_drewN | apply Kd.S_drew)); exact Kd.S_mono HO574.out (fun _ hk => ⟨hk.1.1, ⟨hk.1.2, hk.2⟩⟩)⟩, ⟨by (with_reducible repeat (first | apply Kd.R_alloc | apply Kd.R_drewN | apply Kd.R_drew)); exact Kd.R_mono HO579.out (fun _ hk => hk.2)⟩, ⟨by (with_reducible repeat (first | apply Kd.S_alloc | apply Kd.S_drewN | apply Kd.S_drew)); exact Kd.S_mono HO582.out (fun _ hk => ⟨hk.1.1.2, ⟨hk.1.2, hk.2⟩⟩)⟩, ⟨bl HB.out⟩⟩
   case round =>
    clear H'
    try clear c1
    try clear c2
    try clear c2b0
    try clear c2b1
    try clear p2
    try clear c3
    try clear c6
    try clear c6b0
    try clear c6b1
    try clear c6b2
    try clear c9
    try clear c16
    obtain ⟨x7_1, x8_1, rfl, HA, HK1, HO_3, HO_4, HO_6, HO_7, HB⟩ := hrel
    cases gk with
    | zero => exact absurd HA.out (by simp [laws_FnFallOk.l0])
    | succ k1 =>
     have H := HA.out
     clear HA
     simp only [laws_FnFallOk.l0] at H
     by_cases c21 : x8_1 < (t577.length : Int)
     ·rw [if_pos c21] at H
      have c21b0 : decide (x8_1 < (t577.length : Int)) = true := decide_eq_true c21
      clear c21
      by_cases c22 : 0 ≤ x8_1
      ·rw [if_pos c22] at H
       have c22b0 : decide (0 ≤ x8_1) = true := decide_eq_true c22
       clear c22
       obtain ⟨ji23, hji23⟩ : ∃ j_ : Int, (mx (rd t577 x8_1) 0) = j_ := ⟨_, rfl⟩
       replace H : ((impl_OrdOf.f k1 (ji23)).bind fun t584 => (if x7_1.length < 5864062014805 then ((some (x7_1 ++ [t584] : List (List Int))).bind fun y587 => (if t575 = true then (if x8_1 ≥ (t570.length : Int) then (some false) else (if x8_1 < (t570.length : Int) then (if x8_1 < (y587.length : Int) then ((impl_OrdCompare.f k1 (rd_L2 t570 x8_1) (rd_L2 y587 x8_1)).bind fun t592 => (if t592 < 0 then (some false) else (laws_FnFallOk.l0 k1 t569 t570 t575 t577 y587 (wrap64 (x8_1 + 1))))) else (none)) else (none))) else (laws_FnFallOk.l0 k1 t569 t570 t575 t577 y587 (wrap64 (x8_1 + 1))))) else (none))) = some r := by first | (rw [hji23] at H; exact H) | (simp only [hji23] at H ⊢; exact H)
       have hji23_ : (if (rd t577 x8_1) < 0 then 0 else (rd t577 x8_1)) = ji23 := hji23
       replace H := Option.bind_eq_some_iff.mp H
       obtain ⟨t584, A240, H⟩ := H
       replace H : (if x7_1.length < 5864062014805 then ((some (x7_1 ++ [t584] : List (List Int))).bind fun y587 => (if t575 = true then (if x8_1 ≥ (t570.length : Int) then (some false) else (if x8_1 < (t570.length : Int) then (if x8_1 < (y587.length : Int) then ((impl_OrdCompare.f k1 (rd_L2 t570 x8_1) (rd_L2 y587 x8_1)).bind fun t592 => (if t592 < 0 then (some false) else (laws_FnFallOk.l0 k1 t569 t570 t575 t577 y587 (wrap64 (x8_1 + 1))))) else (none)) else (none))) else (laws_FnFallOk.l0 k1 t569 t570 t575 t577 y587 (wrap64 (x8_1 + 1))))) else (none)) = some r := H
       have A24 := Aside0.mk A240
       clear A240
       by_cases c25 : x7_1.length < 5864062014805
       ·rw [if_pos c25] at H
        have LMc25 := Aside0.mk c25
        clear c25
        obtain ⟨y587, hy587⟩ : ∃ y_ : List (List Int), y_ = (x7_1 ++ [t584]) := ⟨_, rfl⟩
        replace H : (if t575 = true then (if x8_1 ≥ (t570.length : Int) then (some false) else (if x8_1 < (t570.length : Int) then (if x8_1 < (y587.length : Int) then ((impl_OrdCompare.f k1 (rd_L2 t570 x8_1) (rd_L2 y587 x8_1)).bind fun t592 => (if t592 < 0 then (some false) else (laws_FnFallOk.l0 k1 t569 t570 t575 t577 y587 (wrap64 (x8_1 + 1))))) else (none)) else (none))) else (laws_FnFallOk.l0 k1 t569 t570 t575 t577 y587 (wrap64 (x8_1 + 1)))) = some r := fb hy587 H
        have Ny587 := Aside0.mk hy587
        clear hy587
        by_cases c26 : t575 = true
        ·subst c26
         have H1 : (if x8_1 ≥ (t570.length : Int) then (some false) else (if x8_1 < (t570.length : Int) then (if x8_1 < (y587.length : Int) then ((impl_OrdCompare.f k1 (rd_L2 t570 x8_1) (rd_L2 y587 x8_1)).bind fun t592 => (if t592 < 0 then (some false) else (laws_FnFallOk.l0 k1 t569 t570 true t577 y587 (wrap64 (x8_1 + 1))))) else (none)) else (none))) = some r := by rw [if_pos rfl] at H; exact H
         clear H
         have H := H1
         clear H1
         by_cases c27 : x8_1 ≥ (t570.length : Int)
         ·rw [if_pos c27] at H
          have c27b0 : decide ((t570.length : Int) ≤ x8_1) = true := decide_eq_true c27
          clear c27
          obtain rfl := Option.some.inj H
          obtain ⟨Ao28, co28, eo28⟩ := Kd.R_slice HO_6.out
          subst eo28
          have p583 : 0 ≤ (x8_1 : Int) := da
          have q583 : x8_1 < (t577.length : Int) := da
          obtain ⟨ad583, e583, hx583_0⟩ := Kd.at_int (Kd.R_reads' HO_6.out).2.2 x8_1 p583 q583
          cases e583
          replace p583 := eq_true p583
          replace q583 := eq_true q583
          try go_wp2_with (first | ((with_reducible refine gate_callee (f := 38) rfl ?_); refine goesL_ (some 40) rfl rfl Try.func38 (by kernel_rfl) rfl #[.int .i64 ji23] rfl (by (try simp only [List.map_toArray, List.map_cons, List.map_nil]); first | done | (simp only [hji23]; rfl) | rfl | (simp only [List.length_drop, List.length_take]; rfl)) ?_; (with_reducible refine (impl_OrdOf.calls k1 ji23 t584 _ A24.out).mono ?_); rintro e w29 ⟨v585, rfl, ho0, hb⟩; refine ⟨_, rfl, ?_⟩; have n0_ := Aside0.mk (Kd.R_elder' (rR HO_3.out) (Kd.R_base ho0) hb); replace HO_4 := Aside0.mk (Kd.S_elder' (rS HO_4.out) (Kd.R_base ho0) hb); have n2_ := Aside0.mk (Kd.R_elder' (rR HO_6.out) (Kd.R_base ho0) hb); replace HO_7 := Aside0.mk (Kd.S_elder' (rS HO_7.out) (Kd.R_base ho0) hb); have HO586 := Aside0.mk (Kd.R_lower (Kd.R_new' (Kd.R_new' ho0 (Kd.R_lt (rR HO_3.out))) (Kd.R_lt (rR HO_6.out))) (below_size (bl HB.out))); replace HB := Aside0.mk (below_step (bl HB.out) hb); replace HO_3 := n0_; replace HO_6 := n2_; clear n0_ n2_; (try clear hb); (try clear hb2); (try clear hk); (try clear hi); (try clear ho0); obtain ⟨Ao31, co31, eo31⟩ := Kd.R_slice HO586.out; subst eo31) | ((with_reducible refine gate_builtin (b := .append) (xs := #[.tmp 34, .tmp 41]) rfl ?_); (try (refine gate_guard (by rfl) ?_; dsimp only)); at_builtin; refine Kd.S_append (Kd.slice 3 (Kd.int .i64)) (w0 := w) w.heap.size rfl (.tmp 34) (.tmp 41) 36 23 (.slice none 0 0) 24 rfl Try.underlying36 info23 rfl (by decide) (by omega) u7 x7_1 t584 [.slice Ao31 t584.length co31] (fun k_ => some k_ ≠ (.slice Ao14 t569.length co14 : Value).ownBlock ∧ some k_ ≠ (.slice Ao15 t570.length co15 : Value).ownBlock ∧ some k_ ≠ (.slice (some ad583) t577.length co28 : Value).ownBlock) (fun k_ => some k_ = (.slice Ao31 t584.length co31 : Value).ownBlock) rfl rfl ?aP (fun k_ hk_ => ((Kd.R_mono (ok' := fun k_ => ((fun k_ => some k_ ≠ (.slice Ao14 t569.length co14 : Value).ownBlock ∧ some k_ ≠ (.slice Ao15 t570.length co15 : Value).ownBlock ∧ some k_ ≠ (.slice (some ad583) t577.length co28 : Value).ownBlock)) k_ ∧ some k_ ≠ (u7 : Value).ownBlock) (Kd.R_apart' (Kd.R_apart' (HO586.out) (Kd.S_typed HO_4.out) (by decide)) (Kd.S_typed HO_7.out) (by decide)) (fun k_ hk => ⟨⟨hk.1.1.1.2, ⟨hk.1.2, hk.1.1.2⟩⟩, hk.2⟩))).1 k_ hk_.symm) ?aF ?aO ?aB ?aS ?aL ?_; (case aP => exact Kd.M_row (Kd.R_mono (Kd.R_tight rfl (Kd.R_mono (ok' := fun k_ => ((fun k_ => some k_ ≠ (.slice Ao14 t569.length co14 : Value).ownBlock ∧ some k_ ≠ (.slice Ao15 t570.length co15 : Value).ownBlock ∧ some k_ ≠ (.slice (some ad583) t577.length co28 : Value).ownBlock)) k_ ∧ some k_ ≠ (u7 : Value).ownBlock) (Kd.R_apart' (Kd.R_apart' (HO586.out) (Kd.S_typed HO_4.out) (by decide)) (Kd.S_typed HO_7.out) (by decide)) (fun k_ hk => ⟨⟨hk.1.1.1.2, ⟨hk.1.2, hk.1.1.2⟩⟩, hk.2⟩))) (fun _ h_ => h_))); (case aB => exact (bl HB.out)); (case aF => exact (fun k_ hk => ⟨Kd.fresh' (Kd.R_lt (rR HO_3.out)) k_ hk, Kd.fresh' (Kd.S_lt (rS HO_4.out)) k_ hk, Kd.fresh' (Kd.R_lt (rR HO_6.out)) k_ hk⟩)); (case aO => exact (by (with_reducible repeat (first | apply Kd.S_alloc | apply Kd.S_drewN | apply Kd.S_drew)); exact Kd.S_mono HO_7.out (fun k_ hk => ⟨⟨hk.1.1, ⟨hk.1.2.1, hk.1.2.2⟩⟩, fun e_ => hk.2 e_⟩))); (case aS => exact (below_size (bl HB.out))); (case aL => have := LMc25.out; omega); intro v588 w30 ho hb hg hat; rw [← Ny587.out] at ho; replace HO_3 := Aside0.mk (Kd.R_over' (rR HO_3.out) (Kd.S_typed (rS HO_7.out)) (by decide) hg); replace HO_4 := Aside0.mk (Kd.S_after (ok := (fun k_ => some k_ ≠ (.slice Ao14 t569.length co14 : Value).ownBlock ∧ some k_ ≠ (.slice (some ad583) t577.length co28 : Value).ownBlock ∧ some k_ ≠ (.slice Ao31 t584.length co31 : Value).ownBlock)) (by (with_reducible repeat (first | apply Kd.S_alloc | apply Kd.S_drewN | apply Kd.S_drew)); exact Kd.S_mono HO_4.out (fun _ hk => ⟨⟨hk.1.1, ⟨hk.1.2.1, hk.2⟩⟩, hk.1.2.2⟩)) hg hat); replace HO_6 := Aside0.mk (Kd.R_over' (rR HO_6.out) (Kd.S_typed (rS HO_7.out)) (by decide) hg); replace HB := Aside0.mk (hb); have HO589 := Aside0.mk (ho); clear HO_7; clear HO586; clear ho hb hg hat))
          replace HO_3 := Aside0.mk (Kd.R_drew HO_3.out)
          replace HO_4 := Aside0.mk (Kd.S_drew HO_4.out)
          replace HO_6 := Aside0.mk (Kd.R_drew HO_6.out)
          replace HO589 := Aside0.mk (Kd.S_drew HO589.out)
          replace HB := Aside0.mk (below_drew1 HB.out)
          refine start_ (n := 19) (S := fun w' => True) (ds := []) #[false, false, false, false, false, false, false, false, false, false, false, false, false, false, false, false, false, false, false] (by kernel_rfl) rfl rfl trivial (fun hHeld => ?_); refine with_tabW laws_FnFallOk.tab13 laws_FnFallOk.bits13 (fun HT_ HW_ => ?_)
          generalize w30.drew = w32 at HO_3 HO_4 HO_6 HO589 HB hHeld ⊢
          refine pu 0 43 ?_
          refine pu 1 44 ?_
          refine pu 2 45 ?_
          refine pu 3 46 ?_
          refine pu 4 47 ?_
          refine pu 5 48 ?_
          refine pu 6 49 ?_
          refine pure_ (i := 7) (N := some 50) (v := undef) (a' := ?_) #[true, true, true, true, true, true, true, true, false, false, false, false, false, false, false, false, false, false, false] rfl rfl (any_of HT_.out (by kernel_rfl)) (fun _ _ _ h => h) (Or.inr ⟨by rfl, rfl⟩) ?_ ?_
          rotate_left
          ·simp only [Act.put, List.setIfInBounds_toArray, List.set_cons_zero, List.set_cons_succ, i64_w, i32_w]
           rfl
          refine pure_ (i := 8) (N := some 51) (v := undef) (a' := ?_) #[true, true, true, true, true, true, true, true, true, false, false, false, false, false, false, false, false, false, false] rfl rfl (any_of HT_.out (by kernel_rfl)) (fun _ _ _ h => h) (Or.inr ⟨by rfl, rfl⟩) ?_ ?_
          rotate_left
          ·simp only [Act.put, List.setIfInBounds_toArray, List.set_cons_zero, List.set_cons_succ, i64_w, i32_w]
           rfl
          refine pure_ (i := 9) (N := some 52) (v := undef) (a' := ?_) #[true, true, true, true, true, true, true, true, true, true, false, false, false, false, false, false, false, false, false] rfl rfl (any_of HT_.out (by kernel_rfl)) (fun _ _ _ h => h) (Or.inr ⟨by rfl, rfl⟩) ?_ ?_
          rotate_left
          ·simp only [Act.put, List.setIfInBounds_toArray, List.set_cons_zero, List.set_cons_succ, i64_w, i32_w]
           rfl
          refine pure_ (i := 10) (N := some 53) (v := undef) (a' := ?_) #[true, true, true, true, true, true, true, true, true, true, true, false, false, false, false, false, false, false, false] rfl rfl (any_of HT_.out (by kernel_rfl)) (fun _ _ _ h => h) (Or.inr ⟨by rfl, rfl⟩) ?_ ?_
          rotate_left
          ·simp only [Act.put, List.setIfInBounds_toArray, List.set_cons_zero, List.set_cons_succ, i64_w, i32_w]
           rfl
          refine pure_ (i := 11) (N := some 54) (v := undef) (a' := ?_) #[true, true, true, true, true, true, true, true, true, true, true, true, false, false, false, false, false, false, false] rfl rfl (any_of HT_.out (by kernel_rfl)) (fun _ _ _ h => h) (Or.inr ⟨by rfl, rfl⟩) ?_ ?_
          rotate_left
          ·simp only [Act.put, List.setIfInBounds_toArray, List.set_cons_zero, List.set_cons_succ, i64_w, i32_w]
           rfl
          refine pure_ (i := 12) (N := some 55) (v := undef) (a' := ?_) #[true, true, true, true, true, true, true, true, true, true, true, true, true, false, false, false, false, false, false] rfl rfl (any_of HT_.out (by kernel_rfl)) (fun _ _ _ h => h) (Or.inr ⟨by rfl, rfl⟩) ?_ ?_
          rotate_left
          ·simp only [Act.put, List.setIfInBounds_toArray, List.set_cons_zero, List.set_cons_succ, i64_w, i32_w]
           rfl
          refine pure_ (i := 13) (N := some 56) (v := undef) (a' := ?_) #[true, true, true, true, true, true, true, true, true, true, true, true, true, true, false, false, false, false, false] rfl rfl (any_of HT_.out (by kernel_rfl)) (fun _ _ _ h => h) (Or.inr ⟨by rfl, rfl⟩) ?_ ?_
          rotate_left
          ·simp only [Act.put, List.setIfInBounds_toArray, List.set_cons_zero, List.set_cons_succ, i64_w, i32_w]
           rfl
          refine pure_ (i := 14) (N := some 57) (v := undef) (a' := ?_) #[true, true, true, true, true, true, true, true, true, true, true, true, true, true, true, false, false, false, false] rfl rfl (any_of HT_.out (by kernel_rfl)) (fun _ _ _ h => h) (Or.inr ⟨by rfl, rfl⟩) ?_ ?_
          rotate_left
          ·simp only [Act.put, List.setIfInBounds_toArray, List.set_cons_zero, List.set_cons_succ, i64_w, i32_w]
           rfl
          refine pure_ (i := 15) (N := some 58) (v := undef) (a' := ?_) #[true, true, true, true, true, true, true, true, true, true, true, true, true, true, true, true, false, false, false] rfl rfl (any_of HT_.out (by kernel_rfl)) (fun _ _ _ h => h) (Or.inr ⟨by rfl, rfl⟩) ?_ ?_
          rotate_left
          ·simp only [Act.put, List.setIfInBounds_toArray, List.set_cons_zero, List.set_cons_succ, i64_w, i32_w]
           rfl
          refine pure_ (i := 16) (N := some 59) (v := undef) (a' := ?_) #[true, true, true, true, true, true, true, true, true, true, true, true, true, true, true, true, true, false, false] rfl rfl (any_of HT_.out (by kernel_rfl)) (fun _ _ _ h => h) (Or.inr ⟨by rfl, rfl⟩) ?_ ?_
          rotate_left
          ·simp only [Act.put, List.setIfInBounds_toArray, List.set_cons_zero, List.set_cons_succ, i64_w, i32_w]
           rfl
          refine pu 17 60 ?_
          refine pu 18 61 ?_
          refine done_ (done_of HT_.out (by kernel_rfl)) ?_
          (try clear hHeld)
          (try clear HS0_)
          (try clear HS1_)
          try go_wp2
          go_ret
          exact ⟨by first | rfl | (simp [errW_none, errW_some] <;> rfl) | (simp only [← hji23]; first | rfl | (simp [errW_none, errW_some] <;> rfl)) | (simp [*, errW_none, errW_some] <;> rfl), bl HB.out⟩
         ·rw [if_neg c27] at H
          have c27b0 : decide ((t570.length : Int) ≤ x8_1) = false := decide_eq_false c27
          clear c27
          by_cases c33 : x8_1 < (t570.length : Int)
          ·rw [if_pos c33] at H
           have c33b0 : decide (x8_1 < (t570.length : Int)) = true := decide_eq_true c33
           clear c33
           by_cases c34 : x8_1 < (y587.length : Int)
           ·rw [if_pos c34] at H
            have c34b0 : decide (x8_1 < (y587.length : Int)) = true := decide_eq_true c34
            clear c34
            replace H := Option.bind_eq_some_iff.mp H
            obtain ⟨t592, A350, H⟩ := H
            replace H : (if t592 < 0 then (some false) else (laws_FnFallOk.l0 k1 t569 t570 true t577 y587 (wrap64 (x8_1 + 1)))) = some r := H
            have A35 := Aside0.mk A350
            clear A350
            by_cases c36 : t592 < 0
            ·rw [if_pos c36] at H
             have c36b0 : decide (t592 < 0) = true := decide_eq_true c36
             clear c36
             obtain rfl := Option.some.inj H
             obtain ⟨Ao37, co37, eo37⟩ := Kd.R_slice HO_6.out
             subst eo37
             have p583 : 0 ≤ (x8_1 : Int) := da
             have q583 : x8_1 < (t577.length : Int) := da
             obtain ⟨ad583, e583, hx583_0⟩ := Kd.at_int (Kd.R_reads' HO_6.out).2.2 x8_1 p583 q583
             cases e583
             replace p583 := eq_true p583
             replace q583 := eq_true q583
             try go_wp2_with (first | ((with_reducible refine gate_callee (f := 38) rfl ?_); refine goesL_ (some 40) rfl rfl Try.func38 (by kernel_rfl) rfl #[.int .i64 ji23] rfl (by (try simp only [List.map_toArray, List.map_cons, List.map_nil]); first | done | (simp only [hji23]; rfl) | rfl | (simp only [List.length_drop, List.length_take]; rfl)) ?_; (with_reducible refine (impl_OrdOf.calls k1 ji23 t584 _ A24.out).mono ?_); rintro e w38 ⟨v585, rfl, ho0, hb⟩; refine ⟨_, rfl, ?_⟩; have n0_ := Aside0.mk (Kd.R_elder' (rR HO_3.out) (Kd.R_base ho0) hb); replace HO_4 := Aside0.mk (Kd.S_elder' (rS HO_4.out) (Kd.R_base ho0) hb); have n2_ := Aside0.mk (Kd.R_elder' (rR HO_6.out) (Kd.R_base ho0) hb); replace HO_7 := Aside0.mk (Kd.S_elder' (rS HO_7.out) (Kd.R_base ho0) hb); have HO586 := Aside0.mk (Kd.R_lower (Kd.R_new' (Kd.R_new' ho0 (Kd.R_lt (rR HO_3.out))) (Kd.R_lt (rR HO_6.out))) (below_size (bl HB.out))); replace HB := Aside0.mk (below_step (bl HB.out) hb); replace HO_3 := n0_; replace HO_6 := n2_; clear n0_ n2_; (try clear hb); (try clear hb2); (try clear hk); (try clear hi); (try clear ho0); obtain ⟨Ao40, co40, eo40⟩ := Kd.R_slice HO586.out; subst eo40) | ((with_reducible refine gate_builtin (b := .append) (xs := #[.tmp 34, .tmp 41]) rfl ?_); (try (refine gate_guard (by rfl) ?_; dsimp only)); at_builtin; refine Kd.S_append (Kd.slice 3 (Kd.int .i64)) (w0 := w) w.heap.size rfl (.tmp 34) (.tmp 41) 36 23 (.slice none 0 0) 24 rfl Try.underlying36 info23 rfl (by decide) (by omega) u7 x7_1 t584 [.slice Ao40 t584.length co40] (fun k_ => some k_ ≠ (.slice Ao14 t569.length co14 : Value).ownBlock ∧ some k_ ≠ (.slice Ao15 t570.length co15 : Value).ownBlock ∧ some k_ ≠ (.slice (some ad583) t577.length co37 : Value).ownBlock) (fun k_ => some k_ = (.slice Ao40 t584.length co40 : Value).ownBlock) rfl rfl ?aP (fun k_ hk_ => ((Kd.R_mono (ok' := fun k_ => ((fun k_ => some k_ ≠ (.slice Ao14 t569.length co14 : Value).ownBlock ∧ some k_ ≠ (.slice Ao15 t570.length co15 : Value).ownBlock ∧ some k_ ≠ (.slice (some ad583) t577.length co37 : Value).ownBlock)) k_ ∧ some k_ ≠ (u7 : Value).ownBlock) (Kd.R_apart' (Kd.R_apart' (HO586.out) (Kd.S_typed HO_4.out) (by decide)) (Kd.S_typed HO_7.out) (by decide)) (fun k_ hk => ⟨⟨hk.1.1.1.2, ⟨hk.1.2, hk.1.1.2⟩⟩, hk.2⟩))).1 k_ hk_.symm) ?aF ?aO ?aB ?aS ?aL ?_; (case aP => exact Kd.M_row (Kd.R_mono (Kd.R_tight rfl (Kd.R_mono (ok' := fun k_ => ((fun k_ => some k_ ≠ (.slice Ao14 t569.length co14 : Value).ownBlock ∧ some k_ ≠ (.slice Ao15 t570.length co15 : Value).ownBlock ∧ some k_ ≠ (.slice (some ad583) t577.length co37 : Value).ownBlock)) k_ ∧ some k_ ≠ (u7 : Value).ownBlock) (Kd.R_apart' (Kd.R_apart' (HO586.out) (Kd.S_typed HO_4.out) (by decide)) (Kd.S_typed HO_7.out) (by decide)) (fun k_ hk => ⟨⟨hk.1.1.1.2, ⟨hk.1.2, hk.1.1.2⟩⟩, hk.2⟩))) (fun _ h_ => h_))); (case aB => exact (bl HB.out)); (case aF => exact (fun k_ hk => ⟨Kd.fresh' (Kd.R_lt (rR HO_3.out)) k_ hk, Kd.fresh' (Kd.S_lt (rS HO_4.out)) k_ hk, Kd.fresh' (Kd.R_lt (rR HO_6.out)) k_ hk⟩)); (case aO => exact (by (with_reducible repeat (first | apply Kd.S_alloc | apply Kd.S_drewN | apply Kd.S_drew)); exact Kd.S_mono HO_7.out (fun k_ hk => ⟨⟨hk.1.1, ⟨hk.1.2.1, hk.1.2.2⟩⟩, fun e_ => hk.2 e_⟩))); (case aS => exact (below_size (bl HB.out))); (case aL => have := LMc25.out; omega); intro v588 w39 ho hb hg hat; rw [← Ny587.out] at ho; replace HO_3 := Aside0.mk (Kd.R_over' (rR HO_3.out) (Kd.S_typed (rS HO_7.out)) (by decide) hg); replace HO_4 := Aside0.mk (Kd.S_after (ok := (fun k_ => some k_ ≠ (.slice Ao14 t569.length co14 : Value).ownBlock ∧ some k_ ≠ (.slice (some ad583) t577.length co37 : Value).ownBlock ∧ some k_ ≠ (.slice Ao40 t584.length co40 : Value).ownBlock)) (by (with_reducible repeat (first | apply Kd.S_alloc | apply Kd.S_drewN | apply Kd.S_drew)); exact Kd.S_mono HO_4.out (fun _ hk => ⟨⟨hk.1.1, ⟨hk.1.2.1, hk.2⟩⟩, hk.1.2.2⟩)) hg hat); replace HO_6 := Aside0.mk (Kd.R_over' (rR HO_6.out) (Kd.S_typed (rS HO_7.out)) (by decide) hg); replace HB := Aside0.mk (hb); have HO589 := Aside0.mk (ho); clear HO_7; clear HO586; clear ho hb hg hat))
             replace HO_3 := Aside0.mk (Kd.R_drew HO_3.out)
             replace HO_4 := Aside0.mk (Kd.S_drew HO_4.out)
             replace HO_6 := Aside0.mk (Kd.R_drew HO_6.out)
             replace HO589 := Aside0.mk (Kd.S_drew HO589.out)
             replace HB := Aside0.mk (below_drew1 HB.out)
             have p590 : 0 ≤ (x8_1 : Int) := da
             have q590 : x8_1 < (t570.length : Int) := da
             obtain ⟨ad590, A590_0, c590_0, e590, hx590_0, hl590_0, hi590_0⟩ := at_L2 (Kd.S_reads' HO_4.out).2.2 x8_1 p590 q590
             cases e590
             obtain ⟨ce590, hce590, hMe590, hcc590⟩ := Kd.S_get HO_4.out [] x8_1 p590 (by first | exact q590 | exact da | (have e_ := (Kd.S_reads' HO_4.out).1; omega))
             obtain ⟨ve590_0, rfl, ge590_0⟩ := hMe590
             have hv590_0 := hcc590 0 _ rfl
             rw [Nat.add_zero, show ((Kd.slice 3 (Kd.int .i64))).sz = 1 from rfl, Nat.mul_one] at hv590_0
             replace hv590_0 := Option.some.inj (hv590_0.symm.trans hx590_0)
             rw [hv590_0] at ge590_0
             have HL590_0 := Aside0.mk (show Kd.R (Kd.int .i64) 3 _ _ _ _ (rd_L2 t570 x8_1) from ge590_0)
             clear hv590_0 ge590_0
             clear hcc590 hce590
             have HR590_0 := Aside0.mk hi590_0
             have HC590_0 := Aside0.mk hl590_0
             clear hi590_0 hl590_0
             replace p590 := eq_true p590
             replace q590 := eq_true q590
             obtain ⟨Ao42, co42, eo42⟩ := Kd.S_slice HO589.out
             (first | subst eo42 | (injection eo42 with f1_ f2_ f3_; have f4_ := f1_.symm; have f5_ := f3_.symm; clear f1_ f2_ f3_; subst f4_; subst f5_))
             have p591 : 0 ≤ (x8_1 : Int) := da
             have q591 : x8_1 < (y587.length : Int) := da
             obtain ⟨ad591, A591_0, c591_0, e591, hx591_0, hl591_0, hi591_0⟩ := at_L2 (Kd.S_reads' HO589.out).2.2 x8_1 p591 q591
             cases e591
             obtain ⟨ce591, hce591, hMe591, hcc591⟩ := Kd.S_get HO589.out [] x8_1 p591 (by first | exact q591 | exact da | (have e_ := (Kd.S_reads' HO589.out).1; omega))
             obtain ⟨ve591_0, rfl, ge591_0⟩ := hMe591
             have hv591_0 := hcc591 0 _ rfl
             rw [Nat.add_zero, show ((Kd.slice 3 (Kd.int .i64))).sz = 1 from rfl, Nat.mul_one] at hv591_0
             replace hv591_0 := Option.some.inj (hv591_0.symm.trans hx591_0)
             rw [hv591_0] at ge591_0
             have HL591_0 := Aside0.mk (show Kd.R (Kd.int .i64) 3 _ _ _ _ (rd_L2 y587 x8_1) from ge591_0)
             clear hv591_0 ge591_0
             clear hcc591 hce591
             have HR591_0 := Aside0.mk hi591_0
             have HC591_0 := Aside0.mk hl591_0
             clear hi591_0 hl591_0
             replace p591 := eq_true p591
             replace q591 := eq_true q591
             refine start_ (n := 19) (S := fun w' => w'.cell? (ad590.add (x8_1).toNat) = some (.slice A590_0 (rd_L2 t570 x8_1).length c590_0) ∧ w'.cell? (ad591.add (x8_1).toNat) = some (.slice A591_0 (rd_L2 y587 x8_1).length c591_0)) (ds := []) #[false, false, false, false, false, false, false, false, false, false, false, false, false, false, false, false, false, false, false] (by kernel_rfl) rfl rfl ⟨hx590_0, hx591_0⟩ (fun hHeld => ?_); refine with_tabW laws_FnFallOk.tab13 laws_FnFallOk.bits13 (fun HT_ HW_ => ?_)
             generalize w39.drew = w41 at HO_3 HO_4 HO_6 HO589 HB HL590_0 HL591_0 HR590_0 HR591_0 hx590_0 hx591_0 hHeld ⊢
             refine pu 0 43 ?_
             refine pu 1 44 ?_
             refine pu 2 45 ?_
             refine pu 3 46 ?_
             refine pu 4 47 ?_
             refine pu 5 48 ?_
             refine pu 6 49 ?_
             refine pu 7 50 ?_
             refine pu 8 51 ?_
             refine pu 9 52 ?_
             refine pu 11 54 ?_
             refine pu 12 55 ?_
             refine pu 13 56 ?_
             refine take_ (i := 10) (N := some 53) (v := ?_) (a' := ?_) #[true, true, true, true, true, true, true, true, true, true, true, true, true, true, false, false, false, false, false] rfl rfl (take_ofW HT_.out HW_.out (by kernel_rfl)) (fun _ _ _ h => h) (Or.inl ⟨by rfl, ?_⟩) hHeld ?_ ?_
             rotate_left
             ·rintro w' ⟨s0, s1⟩
              go_simp
              with_reducible rfl
             rotate_left
             ·simp only [Act.put, List.setIfInBounds_toArray, List.set_cons_zero, List.set_cons_succ, i64_w, i32_w]
              rfl
             refine take_ (i := 14) (N := some 57) (v := ?_) (a' := ?_) #[true, true, true, true, true, true, true, true, true, true, true, true, true, true, true, false, false, false, false] rfl rfl (take_ofW HT_.out HW_.out (by kernel_rfl)) (fun _ _ _ h => h) (Or.inl ⟨by rfl, ?_⟩) hHeld ?_ ?_
             rotate_left
             ·rintro w' ⟨s0, s1⟩
              go_simp
              with_reducible rfl
             rotate_left
             ·simp only [Act.put, List.setIfInBounds_toArray, List.set_cons_zero, List.set_cons_succ, i64_w, i32_w]
              rfl
             refine one_ (i := 15) (N := some 58) #[true, true, true, true, true, true, true, true, true, true, true, true, true, true, true, true, false, false, false] rfl rfl (one_of HT_.out (by kernel_rfl)) (by decide) (fun K hK => ?_)
             refine goes_ Try.func39 (by kernel_rfl) rfl #[.slice A590_0 (rd_L2 t570 x8_1).length c590_0, .slice A591_0 (rd_L2 y587 x8_1).length c591_0] (by rfl) rfl rfl ls ?_
             with_reducible refine (impl_OrdCompare.calls k1 _ _ (rd_L2 t570 x8_1) _ _ (rd_L2 y587 x8_1) t592 _ ?side1 ?side2 ?side3 ?side4 A35.out).mono ?_
             (case side1 => repeat (first | exact (cr HR590_0.out) | (with_reducible refine Kd.C_alloc ?_ _) | (with_reducible refine Kd.C_drewN ?_ _) | (with_reducible refine Kd.C_drew ?_)))
             (case side2 => exact HC590_0.out)
             (case side3 => repeat (first | exact (cr HR591_0.out) | (with_reducible refine Kd.C_alloc ?_ _) | (with_reducible refine Kd.C_drewN ?_ _) | (with_reducible refine Kd.C_drew ?_)))
             (case side4 => exact HC591_0.out)
             rintro e w43 ⟨rfl, hb⟩
             have HS0_ := (hb.cell (World.block_lt_of_cell? _ _ (hHeld.1))).trans (hHeld.1)
             have HS1_ := (hb.cell (World.block_lt_of_cell? _ _ (hHeld.2))).trans (hHeld.2)
             refine ⟨_, rfl, ?_⟩
             replace HO_3 := Aside0.mk (Kd.R_below (rR HO_3.out) hb)
             replace HO_4 := Aside0.mk (Kd.S_below (rS HO_4.out) hb)
             replace HO_6 := Aside0.mk (Kd.R_below (rR HO_6.out) hb)
             replace HO589 := Aside0.mk (Kd.S_below (rS HO589.out) hb)
             replace HL590_0 := Aside0.mk (Kd.R_below (rR HL590_0.out) hb)
             replace HL591_0 := Aside0.mk (Kd.R_below (rR HL591_0.out) hb)
             replace HR590_0 := Aside0.mk (Kd.C_below (cr HR590_0.out) hb)
             replace HR591_0 := Aside0.mk (Kd.C_below (cr HR591_0.out) hb)
             replace HB := Aside0.mk (below_step (bl HB.out) hb)
             (try clear hb)
             (try clear hb2)
             (try clear hk)
             (try clear hi)
             refine hK.out _ _ ⟨HS0_, HS1_⟩ (fun hHeld => ?_)
             clear hK K
             refine nm 58 ?_
             refine pu 16 59 ?_
             refine pu 17 60 ?_
             refine pu 18 61 ?_
             refine done_ (done_of HT_.out (by kernel_rfl)) ?_
             (try clear hHeld)
             (try clear HS0_)
             (try clear HS1_)
             try go_wp2
             go_ret
             exact ⟨by first | rfl | (simp [errW_none, errW_some] <;> rfl) | (simp only [← hji23]; first | rfl | (simp [errW_none, errW_some] <;> rfl)) | (simp [*, errW_none, errW_some] <;> rfl), bl HB.out⟩
            ·rw [if_neg c36] at H
             have c36b0 : decide (t592 < 0) = false := decide_eq_false c36
             clear c36
             have H' := Aside0.mk H
             clear H
             obtain ⟨Ao44, co44, eo44⟩ := Kd.R_slice HO_6.out
             subst eo44
             have p583 : 0 ≤ (x8_1 : Int) := da
             have q583 : x8_1 < (t577.length : Int) := da
             obtain ⟨ad583, e583, hx583_0⟩ := Kd.at_int (Kd.R_reads' HO_6.out).2.2 x8_1 p583 q583
             cases e583
             replace p583 := eq_true p583
             replace q583 := eq_true q583
             try go_wp2_with (first | ((with_reducible refine gate_callee (f := 38) rfl ?_); refine goesL_ (some 40) rfl rfl Try.func38 (by kernel_rfl) rfl #[.int .i64 ji23] rfl (by (try simp only [List.map_toArray, List.map_cons, List.map_nil]); first | done | (simp only [hji23]; rfl) | rfl | (simp only [List.length_drop, List.length_take]; rfl)) ?_; (with_reducible refine (impl_OrdOf.calls k1 ji23 t584 _ A24.out).mono ?_); rintro e w45 ⟨v585, rfl, ho0, hb⟩; refine ⟨_, rfl, ?_⟩; have n0_ := Aside0.mk (Kd.R_elder' (rR HO_3.out) (Kd.R_base ho0) hb); replace HO_4 := Aside0.mk (Kd.S_elder' (rS HO_4.out) (Kd.R_base ho0) hb); have n2_ := Aside0.mk (Kd.R_elder' (rR HO_6.out) (Kd.R_base ho0) hb); replace HO_7 := Aside0.mk (Kd.S_elder' (rS HO_7.out) (Kd.R_base ho0) hb); have HO586 := Aside0.mk (Kd.R_lower (Kd.R_new' (Kd.R_new' ho0 (Kd.R_lt (rR HO_3.out))) (Kd.R_lt (rR HO_6.out))) (below_size (bl HB.out))); replace HB := Aside0.mk (below_step (bl HB.out) hb); replace HO_3 := n0_; replace HO_6 := n2_; clear n0_ n2_; (try clear hb); (try clear hb2); (try clear hk); (try clear hi); (try clear ho0); obtain ⟨Ao47, co47, eo47⟩ := Kd.R_slice HO586.out; subst eo47) | ((with_reducible refine gate_builtin (b := .append) (xs := #[.tmp 34, .tmp 41]) rfl ?_); (try (refine gate_guard (by rfl) ?_; dsimp only)); at_builtin; refine Kd.S_append (Kd.slice 3 (Kd.int .i64)) (w0 := w) w.heap.size rfl (.tmp 34) (.tmp 41) 36 23 (.slice none 0 0) 24 rfl Try.underlying36 info23 rfl (by decide) (by omega) u7 x7_1 t584 [.slice Ao47 t584.length co47] (fun k_ => some k_ ≠ (.slice Ao14 t569.length co14 : Value).ownBlock ∧ some k_ ≠ (.slice Ao15 t570.length co15 : Value).ownBlock ∧ some k_ ≠ (.slice (some ad583) t577.length co44 : Value).ownBlock) (fun k_ => some k_ = (.slice Ao47 t584.length co47 : Value).ownBlock) rfl rfl ?aP (fun k_ hk_ => ((Kd.R_mono (ok' := fun k_ => ((fun k_ => some k_ ≠ (.slice Ao14 t569.length co14 : Value).ownBlock ∧ some k_ ≠ (.slice Ao15 t570.length co15 : Value).ownBlock ∧ some k_ ≠ (.slice (some ad583) t577.length co44 : Value).ownBlock)) k_ ∧ some k_ ≠ (u7 : Value).ownBlock) (Kd.R_apart' (Kd.R_apart' (HO586.out) (Kd.S_typed HO_4.out) (by decide)) (Kd.S_typed HO_7.out) (by decide)) (fun k_ hk => ⟨⟨hk.1.1.1.2, ⟨hk.1.2, hk.1.1.2⟩⟩, hk.2⟩))).1 k_ hk_.symm) ?aF ?aO ?aB ?aS ?aL ?_; (case aP => exact Kd.M_row (Kd.R_mono (Kd.R_tight rfl (Kd.R_mono (ok' := fun k_ => ((fun k_ => some k_ ≠ (.slice Ao14 t569.length co14 : Value).ownBlock ∧ some k_ ≠ (.slice Ao15 t570.length co15 : Value).ownBlock ∧ some k_ ≠ (.slice (some ad583) t577.length co44 : Value).ownBlock)) k_ ∧ some k_ ≠ (u7 : Value).ownBlock) (Kd.R_apart' (Kd.R_apart' (HO586.out) (Kd.S_typed HO_4.out) (by decide)) (Kd.S_typed HO_7.out) (by decide)) (fun k_ hk => ⟨⟨hk.1.1.1.2, ⟨hk.1.2, hk.1.1.2⟩⟩, hk.2⟩))) (fun _ h_ => h_))); (case aB => exact (bl HB.out)); (case aF => exact (fun k_ hk => ⟨Kd.fresh' (Kd.R_lt (rR HO_3.out)) k_ hk, Kd.fresh' (Kd.S_lt (rS HO_4.out)) k_ hk, Kd.fresh' (Kd.R_lt (rR HO_6.out)) k_ hk⟩)); (case aO => exact (by (with_reducible repeat (first | apply Kd.S_alloc | apply Kd.S_drewN | apply Kd.S_drew)); exact Kd.S_mono HO_7.out (fun k_ hk => ⟨⟨hk.1.1, ⟨hk.1.2.1, hk.1.2.2⟩⟩, fun e_ => hk.2 e_⟩))); (case aS => exact (below_size (bl HB.out))); (case aL => have := LMc25.out; omega); intro v588 w46 ho hb hg hat; rw [← Ny587.out] at ho; replace HO_3 := Aside0.mk (Kd.R_over' (rR HO_3.out) (Kd.S_typed (rS HO_7.out)) (by decide) hg); replace HO_4 := Aside0.mk (Kd.S_after (ok := (fun k_ => some k_ ≠ (.slice Ao14 t569.length co14 : Value).ownBlock ∧ some k_ ≠ (.slice (some ad583) t577.length co44 : Value).ownBlock ∧ some k_ ≠ (.slice Ao47 t584.length co47 : Value).ownBlock)) (by (with_reducible repeat (first | apply Kd.S_alloc | apply Kd.S_drewN | apply Kd.S_drew)); exact Kd.S_mono HO_4.out (fun _ hk => ⟨⟨hk.1.1, ⟨hk.1.2.1, hk.2⟩⟩, hk.1.2.2⟩)) hg hat); replace HO_6 := Aside0.mk (Kd.R_over' (rR HO_6.out) (Kd.S_typed (rS HO_7.out)) (by decide) hg); replace HB := Aside0.mk (hb); have HO589 := Aside0.mk (ho); clear HO_7; clear HO586; clear ho hb hg hat))
             replace HO_3 := Aside0.mk (Kd.R_drew HO_3.out)
             replace HO_4 := Aside0.mk (Kd.S_drew HO_4.out)
             replace HO_6 := Aside0.mk (Kd.R_drew HO_6.out)
             replace HO589 := Aside0.mk (Kd.S_drew HO589.out)
             replace HB := Aside0.mk (below_drew1 HB.out)
             have p590 : 0 ≤ (x8_1 : Int) := da
             have q590 : x8_1 < (t570.length : Int) := da
             obtain ⟨ad590, A590_0, c590_0, e590, hx590_0, hl590_0, hi590_0⟩ := at_L2 (Kd.S_reads' HO_4.out).2.2 x8_1 p590 q590
             cases e590
             obtain ⟨ce590, hce590, hMe590, hcc590⟩ := Kd.S_get HO_4.out [] x8_1 p590 (by first | exact q590 | exact da | (have e_ := (Kd.S_reads' HO_4.out).1; omega))
             obtain ⟨ve590_0, rfl, ge590_0⟩ := hMe590
             have hv590_0 := hcc590 0 _ rfl
             rw [Nat.add_zero, show ((Kd.slice 3 (Kd.int .i64))).sz = 1 from rfl, Nat.mul_one] at hv590_0
             replace hv590_0 := Option.some.inj (hv590_0.symm.trans hx590_0)
             rw [hv590_0] at ge590_0
             have HL590_0 := Aside0.mk (show Kd.R (Kd.int .i64) 3 _ _ _ _ (rd_L2 t570 x8_1) from ge590_0)
             clear hv590_0 ge590_0
             clear hcc590 hce590
             have HR590_0 := Aside0.mk hi590_0
             have HC590_0 := Aside0.mk hl590_0
             clear hi590_0 hl590_0
             replace p590 := eq_true p590
             replace q590 := eq_true q590
             obtain ⟨Ao49, co49, eo49⟩ := Kd.S_slice HO589.out
             (first | subst eo49 | (injection eo49 with f1_ f2_ f3_; have f4_ := f1_.symm; have f5_ := f3_.symm; clear f1_ f2_ f3_; subst f4_; subst f5_))
             have p591 : 0 ≤ (x8_1 : Int) := da
             have q591 : x8_1 < (y587.length : Int) := da
             obtain ⟨ad591, A591_0, c591_0, e591, hx591_0, hl591_0, hi591_0⟩ := at_L2 (Kd.S_reads' HO589.out).2.2 x8_1 p591 q591
             cases e591
             obtain ⟨ce591, hce591, hMe591, hcc591⟩ := Kd.S_get HO589.out [] x8_1 p591 (by first | exact q591 | exact da | (have e_ := (Kd.S_reads' HO589.out).1; omega))
             obtain ⟨ve591_0, rfl, ge591_0⟩ := hMe591
             have hv591_0 := hcc591 0 _ rfl
             rw [Nat.add_zero, show ((Kd.slice 3 (Kd.int .i64))).sz = 1 from rfl, Nat.mul_one] at hv591_0
             replace hv591_0 := Option.some.inj (hv591_0.symm.trans hx591_0)
             rw [hv591_0] at ge591_0
             have HL591_0 := Aside0.mk (show Kd.R (Kd.int .i64) 3 _ _ _ _ (rd_L2 y587 x8_1) from ge591_0)
             clear hv591_0 ge591_0
             clear hcc591 hce591
             have HR591_0 := Aside0.mk hi591_0
             have HC591_0 := Aside0.mk hl591_0
             clear hi591_0 hl591_0
             replace p591 := eq_true p591
             replace q591 := eq_true q591
             refine start_ (n := 19) (S := fun w' => w'.cell? (ad590.add (x8_1).toNat) = some (.slice A590_0 (rd_L2 t570 x8_1).length c590_0) ∧ w'.cell? (ad591.add (x8_1).toNat) = some (.slice A591_0 (rd_L2 y587 x8_1).length c591_0)) (ds := []) #[false, false, false, false, false, false, false, false, false, false, false, false, false, false, false, false, false, false, false] (by kernel_rfl) rfl rfl ⟨hx590_0, hx591_0⟩ (fun hHeld => ?_); refine with_tabW laws_FnFallOk.tab13 laws_FnFallOk.bits13 (fun HT_ HW_ => ?_)
             generalize w46.drew = w48 at HO_3 HO_4 HO_6 HO589 HB HL590_0 HL591_0 HR590_0 HR591_0 hx590_0 hx591_0 hHeld ⊢
             refine pu 0 43 ?_
             refine pu 1 44 ?_
             refine pu 2 45 ?_
             refine pu 3 46 ?_
             refine pu 4 47 ?_
             refine pu 5 48 ?_
             refine pu 6 49 ?_
             refine pu 7 50 ?_
             refine pu 8 51 ?_
             refine pu 9 52 ?_
             refine pu 11 54 ?_
             refine pu 12 55 ?_
             refine pu 13 56 ?_
             refine take_ (i := 10) (N := some 53) (v := ?_) (a' := ?_) #[true, true, true, true, true, true, true, true, true, true, true, true, true, true, false, false, false, false, false] rfl rfl (take_ofW HT_.out HW_.out (by kernel_rfl)) (fun _ _ _ h => h) (Or.inl ⟨by rfl, ?_⟩) hHeld ?_ ?_
             rotate_left
             ·rintro w' ⟨s0, s1⟩
              go_simp
              with_reducible rfl
             rotate_left
             ·simp only [Act.put, List.setIfInBounds_toArray, List.set_cons_zero, List.set_cons_succ, i64_w, i32_w]
              rfl
             refine take_ (i := 14) (N := some 57) (v := ?_) (a' := ?_) #[true, true, true, true, true, true, true, true, true, true, true, true, true, true, true, false, false, false, false] rfl rfl (take_ofW HT_.out HW_.out (by kernel_rfl)) (fun _ _ _ h => h) (Or.inl ⟨by rfl, ?_⟩) hHeld ?_ ?_
             rotate_left
             ·rintro w' ⟨s0, s1⟩
              go_simp
              with_reducible rfl
             rotate_left
             ·simp only [Act.put, List.setIfInBounds_toArray, List.set_cons_zero, List.set_cons_succ, i64_w, i32_w]
              rfl
             refine one_ (i := 15) (N := some 58) #[true, true, true, true, true, true, true, true, true, true, true, true, true, true, true, true, false, false, false] rfl rfl (one_of HT_.out (by kernel_rfl)) (by decide) (fun K hK => ?_)
             refine goes_ Try.func39 (by kernel_rfl) rfl #[.slice A590_0 (rd_L2 t570 x8_1).length c590_0, .slice A591_0 (rd_L2 y587 x8_1).length c591_0] (by rfl) rfl rfl ls ?_
             with_reducible refine (impl_OrdCompare.calls k1 _ _ (rd_L2 t570 x8_1) _ _ (rd_L2 y587 x8_1) t592 _ ?side1 ?side2 ?side3 ?side4 A35.out).mono ?_
             (case side1 => repeat (first | exact (cr HR590_0.out) | (with_reducible refine Kd.C_alloc ?_ _) | (with_reducible refine Kd.C_drewN ?_ _) | (with_reducible refine Kd.C_drew ?_)))
             (case side2 => exact HC590_0.out)
             (case side3 => repeat (first | exact (cr HR591_0.out) | (with_reducible refine Kd.C_alloc ?_ _) | (with_reducible refine Kd.C_drewN ?_ _) | (with_reducible refine Kd.C_drew ?_)))
             (case side4 => exact HC591_0.out)
             rintro e w50 ⟨rfl, hb⟩
             have HS0_ := (hb.cell (World.block_lt_of_cell? _ _ (hHeld.1))).trans (hHeld.1)
             have HS1_ := (hb.cell (World.block_lt_of_cell? _ _ (hHeld.2))).trans (hHeld.2)
             refine ⟨_, rfl, ?_⟩
             replace HO_3 := Aside0.mk (Kd.R_below (rR HO_3.out) hb)
             replace HO_4 := Aside0.mk (Kd.S_below (rS HO_4.out) hb)
             replace HO_6 := Aside0.mk (Kd.R_below (rR HO_6.out) hb)
             replace HO589 := Aside0.mk (Kd.S_below (rS HO589.out) hb)
             replace HL590_0 := Aside0.mk (Kd.R_below (rR HL590_0.out) hb)
             replace HL591_0 := Aside0.mk (Kd.R_below (rR HL591_0.out) hb)
             replace HR590_0 := Aside0.mk (Kd.C_below (cr HR590_0.out) hb)
             replace HR591_0 := Aside0.mk (Kd.C_below (cr HR591_0.out) hb)
             replace HB := Aside0.mk (below_step (bl HB.out) hb)
             (try clear hb)
             (try clear hb2)
             (try clear hk)
             (try clear hi)
             refine hK.out _ _ ⟨HS0_, HS1_⟩ (fun hHeld => ?_)
             clear hK K
             refine nm 58 ?_
             refine pu 16 59 ?_
             refine pu 17 60 ?_
             refine pu 18 61 ?_
             refine done_ (done_of HT_.out (by kernel_rfl)) ?_
             (try clear hHeld)
             (try clear HS0_)
             (try clear HS1_)
             try go_wp2
             go_roundg k1
             case measure => have := HK1.out; omega
             case rel => exact ⟨(y587), (wrap64 (x8_1 + 1)), rr, H', ⟨by have := HK1.out; omega⟩, ⟨by (with_reducible repeat (first | apply Kd.R_alloc | apply Kd.R_drewN | apply Kd.R_drew)); exact Kd.R_mono HO_3.out (fun _ hk => hk.1)⟩, ⟨by (with_reducible repeat (first | apply Kd.S_alloc | apply Kd.S_drewN | apply Kd.S_drew)); exact Kd.S_mono HO_4.out (fun _ hk => ⟨hk.1.1, ⟨hk.1.2.1, hk.2⟩⟩)⟩, ⟨by (with_reducible repeat (first | apply Kd.R_alloc | apply Kd.R_drewN | apply Kd.R_drew)); exact Kd.R_mono HO_6.out (fun _ hk => hk.1)⟩, ⟨rS HO589.out⟩, ⟨bl HB.out⟩⟩
           ·rw [if_neg c34] at H
            exact absurd H (by simp)
          ·rw [if_neg c33] at H
           exact absurd H (by simp)
        ·replace c26 := Bool.eq_false_iff.mpr c26
         subst c26
         have H1 : (laws_FnFallOk.l0 k1 t569 t570 false t577 y587 (wrap64 (x8_1 + 1))) = some r := by rw [if_neg (show ¬ (false = true) by decide)] at H; exact H
         clear H
         have H := H1
         clear H1
         have H' := Aside0.mk H
         clear H
         obtain ⟨Ao51, co51, eo51⟩ := Kd.R_slice HO_6.out
         subst eo51
         have p583 : 0 ≤ (x8_1 : Int) := da
         have q583 : x8_1 < (t577.length : Int) := da
         obtain ⟨ad583, e583, hx583_0⟩ := Kd.at_int (Kd.R_reads' HO_6.out).2.2 x8_1 p583 q583
         cases e583
         replace p583 := eq_true p583
         replace q583 := eq_true q583
         try go_wp2_with (first | ((with_reducible refine gate_callee (f := 38) rfl ?_); refine goesL_ (some 40) rfl rfl Try.func38 (by kernel_rfl) rfl #[.int .i64 ji23] rfl (by (try simp only [List.map_toArray, List.map_cons, List.map_nil]); first | done | (simp only [hji23]; rfl) | rfl | (simp only [List.length_drop, List.length_take]; rfl)) ?_; (with_reducible refine (impl_OrdOf.calls k1 ji23 t584 _ A24.out).mono ?_); rintro e w52 ⟨v585, rfl, ho0, hb⟩; refine ⟨_, rfl, ?_⟩; have n0_ := Aside0.mk (Kd.R_elder' (rR HO_3.out) (Kd.R_base ho0) hb); replace HO_4 := Aside0.mk (Kd.S_elder' (rS HO_4.out) (Kd.R_base ho0) hb); have n2_ := Aside0.mk (Kd.R_elder' (rR HO_6.out) (Kd.R_base ho0) hb); replace HO_7 := Aside0.mk (Kd.S_elder' (rS HO_7.out) (Kd.R_base ho0) hb); have HO586 := Aside0.mk (Kd.R_lower (Kd.R_new' (Kd.R_new' ho0 (Kd.R_lt (rR HO_3.out))) (Kd.R_lt (rR HO_6.out))) (below_size (bl HB.out))); replace HB := Aside0.mk (below_step (bl HB.out) hb); replace HO_3 := n0_; replace HO_6 := n2_; clear n0_ n2_; (try clear hb); (try clear hb2); (try clear hk); (try clear hi); (try clear ho0); obtain ⟨Ao54, co54, eo54⟩ := Kd.R_slice HO586.out; subst eo54) | ((with_reducible refine gate_builtin (b := .append) (xs := #[.tmp 34, .tmp 41]) rfl ?_); (try (refine gate_guard (by rfl) ?_; dsimp only)); at_builtin; refine Kd.S_append (Kd.slice 3 (Kd.int .i64)) (w0 := w) w.heap.size rfl (.tmp 34) (.tmp 41) 36 23 (.slice none 0 0) 24 rfl Try.underlying36 info23 rfl (by decide) (by omega) u7 x7_1 t584 [.slice Ao54 t584.length co54] (fun k_ => some k_ ≠ (.slice Ao14 t569.length co14 : Value).ownBlock ∧ some k_ ≠ (.slice Ao15 t570.length co15 : Value).ownBlock ∧ some k_ ≠ (.slice (some ad583) t577.length co51 : Value).ownBlock) (fun k_ => some k_ = (.slice Ao54 t584.length co54 : Value).ownBlock) rfl rfl ?aP (fun k_ hk_ => ((Kd.R_mono (ok' := fun k_ => ((fun k_ => some k_ ≠ (.slice Ao14 t569.length co14 : Value).ownBlock ∧ some k_ ≠ (.slice Ao15 t570.length co15 : Value).ownBlock ∧ some k_ ≠ (.slice (some ad583) t577.length co51 : Value).ownBlock)) k_ ∧ some k_ ≠ (u7 : Value).ownBlock) (Kd.R_apart' (Kd.R_apart' (HO586.out) (Kd.S_typed HO_4.out) (by decide)) (Kd.S_typed HO_7.out) (by decide)) (fun k_ hk => ⟨⟨hk.1.1.1.2, ⟨hk.1.2, hk.1.1.2⟩⟩, hk.2⟩))).1 k_ hk_.symm) ?aF ?aO ?aB ?aS ?aL ?_; (case aP => exact Kd.M_row (Kd.R_mono (Kd.R_tight rfl (Kd.R_mono (ok' := fun k_ => ((fun k_ => some k_ ≠ (.slice Ao14 t569.length co14 : Value).ownBlock ∧ some k_ ≠ (.slice Ao15 t570.length co15 : Value).ownBlock ∧ some k_ ≠ (.slice (some ad583) t577.length co51 : Value).ownBlock)) k_ ∧ some k_ ≠ (u7 : Value).ownBlock) (Kd.R_apart' (Kd.R_apart' (HO586.out) (Kd.S_typed HO_4.out) (by decide)) (Kd.S_typed HO_7.out) (by decide)) (fun k_ hk => ⟨⟨hk.1.1.1.2, ⟨hk.1.2, hk.1.1.2⟩⟩, hk.2⟩))) (fun _ h_ => h_))); (case aB => exact (bl HB.out)); (case aF => exact (fun k_ hk => ⟨Kd.fresh' (Kd.R_lt (rR HO_3.out)) k_ hk, Kd.fresh' (Kd.S_lt (rS HO_4.out)) k_ hk, Kd.fresh' (Kd.R_lt (rR HO_6.out)) k_ hk⟩)); (case aO => exact (by (with_reducible repeat (first | apply Kd.S_alloc | apply Kd.S_drewN | apply Kd.S_drew)); exact Kd.S_mono HO_7.out (fun k_ hk => ⟨⟨hk.1.1, ⟨hk.1.2.1, hk.1.2.2⟩⟩, fun e_ => hk.2 e_⟩))); (case aS => exact (below_size (bl HB.out))); (case aL => have := LMc25.out; omega); intro v588 w53 ho hb hg hat; rw [← Ny587.out] at ho; replace HO_3 := Aside0.mk (Kd.R_over' (rR HO_3.out) (Kd.S_typed (rS HO_7.out)) (by decide) hg); replace HO_4 := Aside0.mk (Kd.S_after (ok := (fun k_ => some k_ ≠ (.slice Ao14 t569.length co14 : Value).ownBlock ∧ some k_ ≠ (.slice (some ad583) t577.length co51 : Value).ownBlock ∧ some k_ ≠ (.slice Ao54 t584.length co54 : Value).ownBlock)) (by (with_reducible repeat (first | apply Kd.S_alloc | apply Kd.S_drewN | apply Kd.S_drew)); exact Kd.S_mono HO_4.out (fun _ hk => ⟨⟨hk.1.1, ⟨hk.1.2.1, hk.2⟩⟩, hk.1.2.2⟩)) hg hat); replace HO_6 := Aside0.mk (Kd.R_over' (rR HO_6.out) (Kd.S_typed (rS HO_7.out)) (by decide) hg); replace HB := Aside0.mk (hb); have HO589 := Aside0.mk (ho); clear HO_7; clear HO586; clear ho hb hg hat))
         replace HO_3 := Aside0.mk (Kd.R_drew HO_3.out)
         replace HO_4 := Aside0.mk (Kd.S_drew HO_4.out)
         replace HO_6 := Aside0.mk (Kd.R_drew HO_6.out)
         replace HO589 := Aside0.mk (Kd.S_drew HO589.out)
         replace HB := Aside0.mk (below_drew1 HB.out)
         refine start_ (n := 19) (S := fun w' => True) (ds := []) #[false, false, false, false, false, false, false, false, false, false, false, false, false, false, false, false, false, false, false] (by kernel_rfl) rfl rfl trivial (fun hHeld => ?_); refine with_tabW laws_FnFallOk.tab13 laws_FnFallOk.bits13 (fun HT_ HW_ => ?_)
         generalize w53.drew = w55 at HO_3 HO_4 HO_6 HO589 HB hHeld ⊢
         refine pu 0 43 ?_
         refine pu 1 44 ?_
         refine pure_ (i := 2) (N := some 45) (v := undef) (a' := ?_) #[true, true, true, false, false, false, false, false, false, false, false, false, false, false, false, false, false, false, false] rfl rfl (any_of HT_.out (by kernel_rfl)) (fun _ _ _ h => h) (Or.inr ⟨by rfl, rfl⟩) ?_ ?_
         rotate_left
         ·simp only [Act.put, List.setIfInBounds_toArray, List.set_cons_zero, List.set_cons_succ, i64_w, i32_w]
          rfl
         refine pure_ (i := 3) (N := some 46) (v := undef) (a' := ?_) #[true, true, true, true, false, false, false, false, false, false, false, false, false, false, false, false, false, false, false] rfl rfl (any_of HT_.out (by kernel_rfl)) (fun _ _ _ h => h) (Or.inr ⟨by rfl, rfl⟩) ?_ ?_
         rotate_left
         ·simp only [Act.put, List.setIfInBounds_toArray, List.set_cons_zero, List.set_cons_succ, i64_w, i32_w]
          rfl
         refine pure_ (i := 4) (N := some 47) (v := undef) (a' := ?_) #[true, true, true, true, true, false, false, false, false, false, false, false, false, false, false, false, false, false, false] rfl rfl (any_of HT_.out (by kernel_rfl)) (fun _ _ _ h => h) (Or.inr ⟨by rfl, rfl⟩) ?_ ?_
         rotate_left
         ·simp only [Act.put, List.setIfInBounds_toArray, List.set_cons_zero, List.set_cons_succ, i64_w, i32_w]
          rfl
         refine pure_ (i := 5) (N := some 48) (v := undef) (a' := ?_) #[true, true, true, true, true, true, false, false, false, false, false, false, false, false, false, false, false, false, false] rfl rfl (any_of HT_.out (by kernel_rfl)) (fun _ _ _ h => h) (Or.inr ⟨by rfl, rfl⟩) ?_ ?_
         rotate_left
         ·simp only [Act.put, List.setIfInBounds_toArray, List.set_cons_zero, List.set_cons_succ, i64_w, i32_w]
          rfl
         refine pure_ (i := 6) (N := some 49) (v := undef) (a' := ?_) #[true, true, true, true, true, true, true, false, false, false, false, false, false, false, false, false, false, false, false] rfl rfl (any_of HT_.out (by kernel_rfl)) (fun _ _ _ h => h) (Or.inr ⟨by rfl, rfl⟩) ?_ ?_
         rotate_left
         ·simp only [Act.put, List.setIfInBounds_toArray, List.set_cons_zero, List.set_cons_succ, i64_w, i32_w]
          rfl
         refine pure_ (i := 7) (N := some 50) (v := undef) (a' := ?_) #[true, true, true, true, true, true, true, true, false, false, false, false, false, false, false, false, false, false, false] rfl rfl (any_of HT_.out (by kernel_rfl)) (fun _ _ _ h => h) (Or.inr ⟨by rfl, rfl⟩) ?_ ?_
         rotate_left
         ·simp only [Act.put, List.setIfInBounds_toArray, List.set_cons_zero, List.set_cons_succ, i64_w, i32_w]
          rfl
         refine pure_ (i := 8) (N := some 51) (v := undef) (a' := ?_) #[true, true, true, true, true, true, true, true, true, false, false, false, false, false, false, false, false, false, false] rfl rfl (any_of HT_.out (by kernel_rfl)) (fun _ _ _ h => h) (Or.inr ⟨by rfl, rfl⟩) ?_ ?_
         rotate_left
         ·simp only [Act.put, List.setIfInBounds_toArray, List.set_cons_zero, List.set_cons_succ, i64_w, i32_w]
          rfl
         refine pure_ (i := 9) (N := some 52) (v := undef) (a' := ?_) #[true, true, true, true, true, true, true, true, true, true, false, false, false, false, false, false, false, false, false] rfl rfl (any_of HT_.out (by kernel_rfl)) (fun _ _ _ h => h) (Or.inr ⟨by rfl, rfl⟩) ?_ ?_
         rotate_left
         ·simp only [Act.put, List.setIfInBounds_toArray, List.set_cons_zero, List.set_cons_succ, i64_w, i32_w]
          rfl
         refine pure_ (i := 10) (N := some 53) (v := undef) (a' := ?_) #[true, true, true, true, true, true, true, true, true, true, true, false, false, false, false, false, false, false, false] rfl rfl (any_of HT_.out (by kernel_rfl)) (fun _ _ _ h => h) (Or.inr ⟨by rfl, rfl⟩) ?_ ?_
         rotate_left
         ·simp only [Act.put, List.setIfInBounds_toArray, List.set_cons_zero, List.set_cons_succ, i64_w, i32_w]
          rfl
         refine pure_ (i := 11) (N := some 54) (v := undef) (a' := ?_) #[true, true, true, true, true, true, true, true, true, true, true, true, false, false, false, false, false, false, false] rfl rfl (any_of HT_.out (by kernel_rfl)) (fun _ _ _ h => h) (Or.inr ⟨by rfl, rfl⟩) ?_ ?_
         rotate_left
         ·simp only [Act.put, List.setIfInBounds_toArray, List.set_cons_zero, List.set_cons_succ, i64_w, i32_w]
          rfl
         refine pure_ (i := 12) (N := some 55) (v := undef) (a' := ?_) #[true, true, true, true, true, true, true, true, true, true, true, true, true, false, false, false, false, false, false] rfl rfl (any_of HT_.out (by kernel_rfl)) (fun _ _ _ h => h) (Or.inr ⟨by rfl, rfl⟩) ?_ ?_
         rotate_left
         ·simp only [Act.put, List.setIfInBounds_toArray, List.set_cons_zero, List.set_cons_succ, i64_w, i32_w]
          rfl
         refine pure_ (i := 13) (N := some 56) (v := undef) (a' := ?_) #[true, true, true, true, true, true, true, true, true, true, true, true, true, true, false, false, false, false, false] rfl rfl (any_of HT_.out (by kernel_rfl)) (fun _ _ _ h => h) (Or.inr ⟨by rfl, rfl⟩) ?_ ?_
         rotate_left
         ·simp only [Act.put, List.setIfInBounds_toArray, List.set_cons_zero, List.set_cons_succ, i64_w, i32_w]
          rfl
         refine pure_ (i := 14) (N := some 57) (v := undef) (a' := ?_) #[true, true, true, true, true, true, true, true, true, true, true, true, true, true, true, false, false, false, false] rfl rfl (any_of HT_.out (by kernel_rfl)) (fun _ _ _ h => h) (Or.inr ⟨by rfl, rfl⟩) ?_ ?_
         rotate_left
         ·simp only [Act.put, List.setIfInBounds_toArray, List.set_cons_zero, List.set_cons_succ, i64_w, i32_w]
          rfl
         refine pure_ (i := 15) (N := some 58) (v := undef) (a' := ?_) #[true, true, true, true, true, true, true, true, true, true, true, true, true, true, true, true, false, false, false] rfl rfl (any_of HT_.out (by kernel_rfl)) (fun _ _ _ h => h) (Or.inr ⟨by rfl, rfl⟩) ?_ ?_
         rotate_left
         ·simp only [Act.put, List.setIfInBounds_toArray, List.set_cons_zero, List.set_cons_succ, i64_w, i32_w]
          rfl
         refine pure_ (i := 16) (N := some 59) (v := undef) (a' := ?_) #[true, true, true, true, true, true, true, true, true, true, true, true, true, true, true, true, true, false, false] rfl rfl (any_of HT_.out (by kernel_rfl)) (fun _ _ _ h => h) (Or.inr ⟨by rfl, rfl⟩) ?_ ?_
         rotate_left
         ·simp only [Act.put, List.setIfInBounds_toArray, List.set_cons_zero, List.set_cons_succ, i64_w, i32_w]
          rfl
         refine pure_ (i := 17) (N := some 60) (v := undef) (a' := ?_) #[true, true, true, true, true, true, true, true, true, true, true, true, true, true, true, true, true, true, false] rfl rfl (any_of HT_.out (by kernel_rfl)) (fun _ _ _ h => h) (Or.inr ⟨by rfl, rfl⟩) ?_ ?_
         rotate_left
         ·simp only [Act.put, List.setIfInBounds_toArray, List.set_cons_zero, List.set_cons_succ, i64_w, i32_w]
          rfl
         refine pu 18 61 ?_
         refine done_ (done_of HT_.out (by kernel_rfl)) ?_
         (try clear hHeld)
         (try clear HS0_)
         (try clear HS1_)
         try go_wp2
         go_roundg k1
         case measure => have := HK1.out; omega
         case rel => exact ⟨(y587), (wrap64 (x8_1 + 1)), rr, H', ⟨by have := HK1.out; omega⟩, ⟨by (with_reducible repeat (first | apply Kd.R_alloc | apply Kd.R_drewN | apply Kd.R_drew)); exact Kd.R_mono HO_3.out (fun _ hk => hk.1)⟩, ⟨by (with_reducible repeat (first | apply Kd.S_alloc | apply Kd.S_drewN | apply Kd.S_drew)); exact Kd.S_mono HO_4.out (fun _ hk => ⟨hk.1.1, ⟨hk.1.2.1, hk.2⟩⟩)⟩, ⟨by (with_reducible repeat (first | apply Kd.R_alloc | apply Kd.R_drewN | apply Kd.R_drew)); exact Kd.R_mono HO_6.out (fun _ hk => hk.1)⟩, ⟨rS HO589.out⟩, ⟨bl HB.out⟩⟩
       ·rw [if_neg c25] at H
        exact absurd H (by simp)
      ·rw [if_neg c22] at H
       exact absurd H (by simp)
     ·rw [if_neg c21] at H
      have c21b0 : decide (x8_1 < (t577.length : Int)) = false := decide_eq_false c21
      clear c21
      by_cases c56 : t575 = true
      ·subst c56
       have H1 : ((impl_WellFounded.f k1 t569).bind fun t593 => (if t593 = true then ((impl_FallOk.f k1 t569 x7_1).bind fun t594 => ((impl_WellFounded.f k1 t569).bind fun t595 => (if (t594 == t595) = true then ((laws_alive.f k1).bind fun t596 => (some t596)) else (some false)))) else (some false))) = some r := by rw [if_pos rfl] at H; exact H
       clear H
       have H := H1
       clear H1
       replace H := Option.bind_eq_some_iff.mp H
       obtain ⟨t593, A570, H⟩ := H
       replace H : (if t593 = true then ((impl_FallOk.f k1 t569 x7_1).bind fun t594 => ((impl_WellFounded.f k1 t569).bind fun t595 => (if (t594 == t595) = true then ((laws_alive.f k1).bind fun t596 => (some t596)) else (some false)))) else (some false)) = some r := H
       have A57 := Aside0.mk A570
       clear A570
       by_cases c58 : t593 = true
       ·subst c58
        have H1 : ((impl_FallOk.f k1 t569 x7_1).bind fun t594 => ((impl_WellFounded.f k1 t569).bind fun t595 => (if (t594 == t595) = true then ((laws_alive.f k1).bind fun t596 => (some t596)) else (some false)))) = some r := by rw [if_pos rfl] at H; exact H
        clear H
        have H := H1
        clear H1
        replace H := Option.bind_eq_some_iff.mp H
        obtain ⟨t594, A590, H⟩ := H
        replace H : ((impl_WellFounded.f k1 t569).bind fun t595 => (if (t594 == t595) = true then ((laws_alive.f k1).bind fun t596 => (some t596)) else (some false))) = some r := H
        have A59 := Aside0.mk A590
        clear A590
        replace H := Option.bind_eq_some_iff.mp H
        obtain ⟨t595, A600, H⟩ := H
        replace H : (if (t594 == t595) = true then ((laws_alive.f k1).bind fun t596 => (some t596)) else (some false)) = some r := H
        have A60 := Aside0.mk A600
        clear A600
        by_cases c61 : (t594 == t595) = true
        ·rw [if_pos c61] at H
         have c61b0 : (t594 == t595) = true := c61
         (try (have c61b1 : decide (t594 = t595) = true := by simpa using c61))
         (try (have c61b2 : (t594 == t595) = true := by simpa using c61))
         clear c61
         replace H := Option.bind_eq_some_iff.mp H
         obtain ⟨t596, A620, H⟩ := H
         replace H : (some t596) = some r := H
         have A62 := Aside0.mk A620
         clear A620
         obtain rfl := Option.some.inj H
         obtain ⟨Ao63, co63, eo63⟩ := Kd.R_slice HO_6.out
         subst eo63
         go_wp2_with (first | (go_at_call 15; (with_reducible refine (impl_WellFounded.calls k1 _ _ t569 true _ ?side1 ?side2 A57.out).mono ?_); (case side1 => repeat (first | exact (Kd.R_reads' HO_3.out).2.2 | (with_reducible refine Kd.C_alloc ?_ _) | (with_reducible refine Kd.C_drewN ?_ _) | (with_reducible refine Kd.C_drew ?_))); (case side2 => exact (Kd.R_reads' HO_3.out).2.1); rintro e w64 ⟨rfl, hb⟩; replace HO_3 := Aside0.mk (Kd.R_below (rR HO_3.out) hb); replace HO_4 := Aside0.mk (Kd.S_below (rS HO_4.out) hb); replace HO_6 := Aside0.mk (Kd.R_below (rR HO_6.out) hb); replace HO_7 := Aside0.mk (Kd.S_below (rS HO_7.out) hb); replace HB := Aside0.mk (below_step (bl HB.out) hb); (try clear hb); (try clear hb2); (try clear hk); (try clear hi); obtain ⟨Ao65, co65, eo65⟩ := Kd.S_slice HO_7.out; subst eo65) | (go_at_call 34; (with_reducible refine (impl_FallOk.calls k1 _ _ t569 _ _ x7_1 t594 _ ?side1 ?side2 ?side3 ?side4 A59.out).mono ?_); (case side1 => repeat (first | exact (Kd.R_reads' HO_3.out).2.2 | (with_reducible refine Kd.C_alloc ?_ _) | (with_reducible refine Kd.C_drewN ?_ _) | (with_reducible refine Kd.C_drew ?_))); (case side2 => exact (Kd.R_reads' HO_3.out).2.1); (case side3 => repeat (first | exact (Kd.S_reads' HO_7.out).2.2 | (with_reducible refine Kd.C_alloc ?_ _) | (with_reducible refine Kd.C_drewN ?_ _) | (with_reducible refine Kd.C_drew ?_))); (case side4 => exact (Kd.S_reads' HO_7.out).2.1); rintro e w66 ⟨rfl, hb⟩; replace HO_3 := Aside0.mk (Kd.R_below (rR HO_3.out) hb); replace HO_4 := Aside0.mk (Kd.S_below (rS HO_4.out) hb); replace HO_6 := Aside0.mk (Kd.R_below (rR HO_6.out) hb); replace HO_7 := Aside0.mk (Kd.S_below (rS HO_7.out) hb); replace HB := Aside0.mk (below_step (bl HB.out) hb); (try clear hb); (try clear hb2); (try clear hk); (try clear hi)) | (go_at_call 15; (with_reducible refine (impl_WellFounded.calls k1 _ _ t569 t595 _ ?side1 ?side2 A60.out).mono ?_); (case side1 => repeat (first | exact (Kd.R_reads' HO_3.out).2.2 | (with_reducible refine Kd.C_alloc ?_ _) | (with_reducible refine Kd.C_drewN ?_ _) | (with_reducible refine Kd.C_drew ?_))); (case side2 => exact (Kd.R_reads' HO_3.out).2.1); rintro e w67 ⟨rfl, hb⟩; replace HO_3 := Aside0.mk (Kd.R_below (rR HO_3.out) hb); replace HO_4 := Aside0.mk (Kd.S_below (rS HO_4.out) hb); replace HO_6 := Aside0.mk (Kd.R_below (rR HO_6.out) hb); replace HO_7 := Aside0.mk (Kd.S_below (rS HO_7.out) hb); replace HB := Aside0.mk (below_step (bl HB.out) hb); (try clear hb); (try clear hb2); (try clear hk); (try clear hi)) | (go_at_call 14; (with_reducible refine (laws_alive.calls k1  t596 _ A62.out).mono ?_); rintro e w68 ⟨rfl, hb⟩; replace HO_3 := Aside0.mk (Kd.R_below (rR HO_3.out) hb); replace HO_4 := Aside0.mk (Kd.S_below (rS HO_4.out) hb); replace HO_6 := Aside0.mk (Kd.R_below (rR HO_6.out) hb); replace HO_7 := Aside0.mk (Kd.S_below (rS HO_7.out) hb); replace HB := Aside0.mk (below_step (bl HB.out) hb); (try clear hb); (try clear hb2); (try clear hk); (try clear hi)))
         go_ret
         exact ⟨er, bl HB.out⟩
        ·rw [if_neg c61] at H
         have c61b0 : (t594 == t595) = false := by simpa using c61
         (try (have c61b1 : decide (t594 = t595) = false := by simpa using c61))
         (try (have c61b2 : (t594 == t595) = false := by simpa using c61))
         (try (have c61b3 : ¬ (t594 = t595) := by simpa using c61))
         clear c61
         obtain rfl := Option.some.inj H
         obtain ⟨Ao69, co69, eo69⟩ := Kd.R_slice HO_6.out
         subst eo69
         go_wp2_with (first | (go_at_call 15; (with_reducible refine (impl_WellFounded.calls k1 _ _ t569 true _ ?side1 ?side2 A57.out).mono ?_); (case side1 => repeat (first | exact (Kd.R_reads' HO_3.out).2.2 | (with_reducible refine Kd.C_alloc ?_ _) | (with_reducible refine Kd.C_drewN ?_ _) | (with_reducible refine Kd.C_drew ?_))); (case side2 => exact (Kd.R_reads' HO_3.out).2.1); rintro e w70 ⟨rfl, hb⟩; replace HO_3 := Aside0.mk (Kd.R_below (rR HO_3.out) hb); replace HO_4 := Aside0.mk (Kd.S_below (rS HO_4.out) hb); replace HO_6 := Aside0.mk (Kd.R_below (rR HO_6.out) hb); replace HO_7 := Aside0.mk (Kd.S_below (rS HO_7.out) hb); replace HB := Aside0.mk (below_step (bl HB.out) hb); (try clear hb); (try clear hb2); (try clear hk); (try clear hi); obtain ⟨Ao71, co71, eo71⟩ := Kd.S_slice HO_7.out; subst eo71) | (go_at_call 34; (with_reducible refine (impl_FallOk.calls k1 _ _ t569 _ _ x7_1 t594 _ ?side1 ?side2 ?side3 ?side4 A59.out).mono ?_); (case side1 => repeat (first | exact (Kd.R_reads' HO_3.out).2.2 | (with_reducible refine Kd.C_alloc ?_ _) | (with_reducible refine Kd.C_drewN ?_ _) | (with_reducible refine Kd.C_drew ?_))); (case side2 => exact (Kd.R_reads' HO_3.out).2.1); (case side3 => repeat (first | exact (Kd.S_reads' HO_7.out).2.2 | (with_reducible refine Kd.C_alloc ?_ _) | (with_reducible refine Kd.C_drewN ?_ _) | (with_reducible refine Kd.C_drew ?_))); (case side4 => exact (Kd.S_reads' HO_7.out).2.1); rintro e w72 ⟨rfl, hb⟩; replace HO_3 := Aside0.mk (Kd.R_below (rR HO_3.out) hb); replace HO_4 := Aside0.mk (Kd.S_below (rS HO_4.out) hb); replace HO_6 := Aside0.mk (Kd.R_below (rR HO_6.out) hb); replace HO_7 := Aside0.mk (Kd.S_below (rS HO_7.out) hb); replace HB := Aside0.mk (below_step (bl HB.out) hb); (try clear hb); (try clear hb2); (try clear hk); (try clear hi)) | (go_at_call 15; (with_reducible refine (impl_WellFounded.calls k1 _ _ t569 t595 _ ?side1 ?side2 A60.out).mono ?_); (case side1 => repeat (first | exact (Kd.R_reads' HO_3.out).2.2 | (with_reducible refine Kd.C_alloc ?_ _) | (with_reducible refine Kd.C_drewN ?_ _) | (with_reducible refine Kd.C_drew ?_))); (case side2 => exact (Kd.R_reads' HO_3.out).2.1); rintro e w73 ⟨rfl, hb⟩; replace HO_3 := Aside0.mk (Kd.R_below (rR HO_3.out) hb); replace HO_4 := Aside0.mk (Kd.S_below (rS HO_4.out) hb); replace HO_6 := Aside0.mk (Kd.R_below (rR HO_6.out) hb); replace HO_7 := Aside0.mk (Kd.S_below (rS HO_7.out) hb); replace HB := Aside0.mk (below_step (bl HB.out) hb); (try clear hb); (try clear hb2); (try clear hk); (try clear hi)))
         go_ret
         exact ⟨er, bl HB.out⟩
       ·replace c58 := Bool.eq_false_iff.mpr c58
        subst c58
        have H1 : (some false) = some r := by rw [if_neg (show ¬ (false = true) by decide)] at H; exact H
        clear H
        have H := H1
        clear H1
        obtain rfl := Option.some.inj H
        obtain ⟨Ao74, co74, eo74⟩ := Kd.R_slice HO_6.out
        subst eo74
        go_wp2_with (first | (go_at_call 15; (with_reducible refine (impl_WellFounded.calls k1 _ _ t569 false _ ?side1 ?side2 A57.out).mono ?_); (case side1 => repeat (first | exact (Kd.R_reads' HO_3.out).2.2 | (with_reducible refine Kd.C_alloc ?_ _) | (with_reducible refine Kd.C_drewN ?_ _) | (with_reducible refine Kd.C_drew ?_))); (case side2 => exact (Kd.R_reads' HO_3.out).2.1); rintro e w75 ⟨rfl, hb⟩; replace HO_3 := Aside0.mk (Kd.R_below (rR HO_3.out) hb); replace HO_4 := Aside0.mk (Kd.S_below (rS HO_4.out) hb); replace HO_6 := Aside0.mk (Kd.R_below (rR HO_6.out) hb); replace HO_7 := Aside0.mk (Kd.S_below (rS HO_7.out) hb); replace HB := Aside0.mk (below_step (bl HB.out) hb); (try clear hb); (try clear hb2); (try clear hk); (try clear hi)))
        go_ret
        exact ⟨er, bl HB.out⟩
      ·replace c56 := Bool.eq_false_iff.mpr c56
       subst c56
       have H1 : ((impl_FallOk.f k1 t569 x7_1).bind fun t597 => ((impl_WellFounded.f k1 t569).bind fun t598 => (if (t597 == t598) = true then ((laws_alive.f k1).bind fun t599 => (some t599)) else (some false)))) = some r := by rw [if_neg (show ¬ (false = true) by decide)] at H; exact H
       clear H
       have H := H1
       clear H1
       replace H := Option.bind_eq_some_iff.mp H
       obtain ⟨t597, A760, H⟩ := H
       replace H : ((impl_WellFounded.f k1 t569).bind fun t598 => (if (t597 == t598) = true then ((laws_alive.f k1).bind fun t599 => (some t599)) else (some false))) = some r := H
       have A76 := Aside0.mk A760
       clear A760
       replace H := Option.bind_eq_some_iff.mp H
       obtain ⟨t598, A770, H⟩ := H
       replace H : (if (t597 == t598) = true then ((laws_alive.f k1).bind fun t599 => (some t599)) else (some false)) = some r := H
       have A77 := Aside0.mk A770
       clear A770
       by_cases c78 : (t597 == t598) = true
       ·rw [if_pos c78] at H
        have c78b0 : (t597 == t598) = true := c78
        (try (have c78b1 : decide (t597 = t598) = true := by simpa using c78))
        (try (have c78b2 : (t597 == t598) = true := by simpa using c78))
        clear c78
        replace H := Option.bind_eq_some_iff.mp H
        obtain ⟨t599, A790, H⟩ := H
        replace H : (some t599) = some r := H
        have A79 := Aside0.mk A790
        clear A790
        obtain rfl := Option.some.inj H
        obtain ⟨Ao80, co80, eo80⟩ := Kd.R_slice HO_6.out
        subst eo80
        obtain ⟨Ao81, co81, eo81⟩ := Kd.S_slice HO_7.out
        subst eo81
        go_wp2_with (first | (go_at_call 34; (with_reducible refine (impl_FallOk.calls k1 _ _ t569 _ _ x7_1 t597 _ ?side1 ?side2 ?side3 ?side4 A76.out).mono ?_); (case side1 => repeat (first | exact (Kd.R_reads' HO_3.out).2.2 | (with_reducible refine Kd.C_alloc ?_ _) | (with_reducible refine Kd.C_drewN ?_ _) | (with_reducible refine Kd.C_drew ?_))); (case side2 => exact (Kd.R_reads' HO_3.out).2.1); (case side3 => repeat (first | exact (Kd.S_reads' HO_7.out).2.2 | (with_reducible refine Kd.C_alloc ?_ _) | (with_reducible refine Kd.C_drewN ?_ _) | (with_reducible refine Kd.C_drew ?_))); (case side4 => exact (Kd.S_reads' HO_7.out).2.1); rintro e w82 ⟨rfl, hb⟩; replace HO_3 := Aside0.mk (Kd.R_below (rR HO_3.out) hb); replace HO_4 := Aside0.mk (Kd.S_below (rS HO_4.out) hb); replace HO_6 := Aside0.mk (Kd.R_below (rR HO_6.out) hb); replace HO_7 := Aside0.mk (Kd.S_below (rS HO_7.out) hb); replace HB := Aside0.mk (below_step (bl HB.out) hb); (try clear hb); (try clear hb2); (try clear hk); (try clear hi)) | (go_at_call 15; (with_reducible refine (impl_WellFounded.calls k1 _ _ t569 t598 _ ?side1 ?side2 A77.out).mono ?_); (case side1 => repeat (first | exact (Kd.R_reads' HO_3.out).2.2 | (with_reducible refine Kd.C_alloc ?_ _) | (with_reducible refine Kd.C_drewN ?_ _) | (with_reducible refine Kd.C_drew ?_))); (case side2 => exact (Kd.R_reads' HO_3.out).2.1); rintro e w83 ⟨rfl, hb⟩; replace HO_3 := Aside0.mk (Kd.R_below (rR HO_3.out) hb); replace HO_4 := Aside0.mk (Kd.S_below (rS HO_4.out) hb); replace HO_6 := Aside0.mk (Kd.R_below (rR HO_6.out) hb); replace HO_7 := Aside0.mk (Kd.S_below (rS HO_7.out) hb); replace HB := Aside0.mk (below_step (bl HB.out) hb); (try clear hb); (try clear hb2); (try clear hk); (try clear hi)) | (go_at_call 14; (with_reducible refine (laws_alive.calls k1  t599 _ A79.out).mono ?_); rintro e w84 ⟨rfl, hb⟩; replace HO_3 := Aside0.mk (Kd.R_below (rR HO_3.out) hb); replace HO_4 := Aside0.mk (Kd.S_below (rS HO_4.out) hb); replace HO_6 := Aside0.mk (Kd.R_below (rR HO_6.out) hb); replace HO_7 := Aside0.mk (Kd.S_below (rS HO_7.out) hb); replace HB := Aside0.mk (below_step (bl HB.out) hb); (try clear hb); (try clear hb2); (try clear hk); (try clear hi)))
        go_ret
        exact ⟨er, bl HB.out⟩
       ·rw [if_neg c78] at H
        have c78b0 : (t597 == t598) = false := by simpa using c78
        (try (have c78b1 : decide (t597 = t598) = false := by simpa using c78))
        (try (have c78b2 : (t597 == t598) = false := by simpa using c78))
        (try (have c78b3 : ¬ (t597 = t598) := by simpa using c78))
        clear c78
        obtain rfl := Option.some.inj H
        obtain ⟨Ao85, co85, eo85⟩ := Kd.R_slice HO_6.out
        subst eo85
        obtain ⟨Ao86, co86, eo86⟩ := Kd.S_slice HO_7.out
        subst eo86
        go_wp2_with (first | (go_at_call 34; (with_reducible refine (impl_FallOk.calls k1 _ _ t569 _ _ x7_1 t597 _ ?side1 ?side2 ?side3 ?side4 A76.out).mono ?_); (case side1 => repeat (first | exact (Kd.R_reads' HO_3.out).2.2 | (with_reducible refine Kd.C_alloc ?_ _) | (with_reducible refine Kd.C_drewN ?_ _) | (with_reducible refine Kd.C_drew ?_))); (case side2 => exact (Kd.R_reads' HO_3.out).2.1); (case side3 => repeat (first | exact (Kd.S_reads' HO_7.out).2.2 | (with_reducible refine Kd.C_alloc ?_ _) | (with_reducible refine Kd.C_drewN ?_ _) | (with_reducible refine Kd.C_drew ?_))); (case side4 => exact (Kd.S_reads' HO_7.out).2.1); rintro e w87 ⟨rfl, hb⟩; replace HO_3 := Aside0.mk (Kd.R_below (rR HO_3.out) hb); replace HO_4 := Aside0.mk (Kd.S_below (rS HO_4.out) hb); replace HO_6 := Aside0.mk (Kd.R_below (rR HO_6.out) hb); replace HO_7 := Aside0.mk (Kd.S_below (rS HO_7.out) hb); replace HB := Aside0.mk (below_step (bl HB.out) hb); (try clear hb); (try clear hb2); (try clear hk); (try clear hi)) | (go_at_call 15; (with_reducible refine (impl_WellFounded.calls k1 _ _ t569 t598 _ ?side1 ?side2 A77.out).mono ?_); (case side1 => repeat (first | exact (Kd.R_reads' HO_3.out).2.2 | (with_reducible refine Kd.C_alloc ?_ _) | (with_reducible refine Kd.C_drewN ?_ _) | (with_reducible refine Kd.C_drew ?_))); (case side2 => exact (Kd.R_reads' HO_3.out).2.1); rintro e w88 ⟨rfl, hb⟩; replace HO_3 := Aside0.mk (Kd.R_below (rR HO_3.out) hb); replace HO_4 := Aside0.mk (Kd.S_below (rS HO_4.out) hb); replace HO_6 := Aside0.mk (Kd.R_below (rR HO_6.out) hb); replace HO_7 := Aside0.mk (Kd.S_below (rS HO_7.out) hb); replace HB := Aside0.mk (below_step (bl HB.out) hb); (try clear hb); (try clear hb2); (try clear hk); (try clear hi)))
        go_ret
        exact ⟨er, bl HB.out⟩

/-- THE ONE PURE STATEMENT of laws_FnFallOk: yours. -/
def laws_FnFallOk.Pure : Prop := ∀ (l0 : List Int), l0.length ≤ maxLen → l0.length * 1 ≤ 140737488351232 → (∀ x ∈ l0, (Lit.int .u8 x).wf = true) → ∃ k, laws_FnFallOk.f k l0 = some true
theorem laws_FnFallOk.walk (P : laws_FnFallOk.Pure) (a0 : Option Addr) (len0 cap0 : Nat) (z0 : List Int) (w : World) (w0 : (a0 = none ∧ len0 = 0 ∧ cap0 = 0 ∧ z0 = []) ∨ ∃ x, a0 = some x ∧ len0 ≤ cap0 ∧ cap0 ≤ maxLen ∧ z0.length = cap0 ∧ (∀ i, i < z0.length → w.cell? (x.add i) = some (.int .u8 (z0.getD i 0))) ∧ ∀ n ∈ z0, (Lit.int .u8 n).wf = true) (y0 : len0 * 1 ≤ 140737488351232) :
  Calls Try.prog 9 #[.slice a0 len0 cap0] w fun e w' => e = .returned (.bool true) ∧ Below w.heap.size w w' := by
 obtain ⟨l0, rfl, hr0, hm0, hw0, hc0⟩ := ReadsInt.ofRowC w0
 obtain ⟨k, h⟩ := P l0 hm0 y0 hw0
 refine (laws_FnFallOk.calls k _ _ l0 true w (Kd.C_of_reads (d := (0 : Int)) (h1 := fun _ => rfl) hr0) hc0 h).mono ?_
 rintro e w' ⟨rfl, hd⟩
 exact ⟨rfl, hd⟩

end Go.Proofs.Ytfhniahijnkgpaa.PFnFallOk
