-- Written by this session's own program (xprint.py: the kit's printer with changes): not a printed text
import Derived.Test.YtfhniahijnkgpaaPFnFallOkx0
import Derived.Test.YtfhniahijnkgpaaPFnFallOkx1
import Derived.Test.YtfhniahijnkgpaaPFnFallOkx8
import Derived.Test.YtfhniahijnkgpaaPFnFallOkx9
namespace Go.Proofs.Ytfhniahijnkgpaa.PFnFallOk
open Go.RowKit Go.Proofs.YtfhniahijnkgpaaW.PrintWords Go.Proofs.YtfhniahijnkgpaaW.PrintLast Go.Proofs.YtfhniahijnkgpaaW.PrintMore
attribute [local go_sem] max2_int min2_int max_two min_two max_three min_three max_four min_four   -- for this text's walks alone
set_option linter.unusedVariables false
set_option linter.unusedSimpArgs false

/-! ### impl_FallOk: function 34 -/
mutual
def impl_FallOk.j0 : Nat → List Int → List (List Int) → Bool → Option (Bool)
 | 0, _, _, _ => none
 | k + 1, x0, x1, x22 => if x22 = true then (some false) else (impl_FallOk.l0 k x0 (([] : List (List (S70)))) x1 (x1.length : Int) 0)
def impl_FallOk.l0 : Nat → List Int → List (List (S70)) → List (List Int) → Int → Int → Option (Bool)
 | 0, _, _, _, _, _ => none
 | k + 1, x0, x5, x24, x25, x26 => if x26 < x25 then (if 0 ≤ x26 then (if x26 < (x24.length : Int) then ((impl_ordOf.f k (rd_L2 x24 x26)).bind fun bt280 => (if bt280.2 = true then (if x5.length < 5864062014805 then (impl_FallOk.l0 k x0 (x5 ++ [bt280.1]) x24 x25 (wrap64 (x26 + 1))) else (none)) else (some false))) else (none)) else (none)) else (impl_FallOk.l1 k x0 x5 x0 (x0.length : Int) 0)
def impl_FallOk.l1 : Nat → List Int → List (List (S70)) → List Int → Int → Int → Option (Bool)
 | 0, _, _, _, _, _ => none
 | k + 1, x0, x5, x42, x43, x44 => if x44 < x43 then (if 0 ≤ x44 then (if x44 < (x42.length : Int) then (impl_FallOk.l2 k x0 x5 x44 (rd x42 x44) x42 x43 x44 (x0.length : Int) 0) else (none)) else (none)) else (some true)
def impl_FallOk.l2 : Nat → List Int → List (List (S70)) → Int → Int → List Int → Int → Int → Int → Int → Option (Bool)
 | 0, _, _, _, _, _, _, _, _, _ => none
 | k + 1, x0, x5, x10, x11, x42, x43, x44, x50, x51 => if x51 < x50 then (if 0 ≤ x51 then (if (Go.bits .and .i64 (shr .i64 x11 x51) 1) = 1 then (if 0 ≤ x10 then (if x10 < (x5.length : Int) then (if x51 < (x5.length : Int) then ((impl_compare.f k (rd_L3 x5 x10) (rd_L3 x5 x51)).bind fun t290 => (if t290 ≤ 0 then (some false) else (impl_FallOk.l2 k x0 x5 x10 x11 x42 x43 x44 x50 (wrap64 (x51 + 1))))) else (none)) else (none)) else (none)) else (impl_FallOk.l2 k x0 x5 x10 x11 x42 x43 x44 x50 (wrap64 (x51 + 1)))) else (none)) else (impl_FallOk.l1 k x0 x5 x42 x43 (wrap64 (x44 + 1)))
end
def impl_FallOk.f (k : Nat) (l0 : List Int) (l1 : List (List Int)) : Option (Bool) := (impl_RelValid.f k l0).bind fun t275 => (if t275 = true then (impl_FallOk.j0 k l0 l1 ((l1.length : Int) != (l0.length : Int))) else (impl_FallOk.j0 k l0 l1 true))
theorem impl_FallOk.mono_l : ∀ k, (∀ y0 y1 y2, LeO (impl_FallOk.j0 k y0 y1 y2) (impl_FallOk.j0 (k + 1) y0 y1 y2)) ∧ (∀ y0 y1 y2 y3 y4, LeO (impl_FallOk.l0 k y0 y1 y2 y3 y4) (impl_FallOk.l0 (k + 1) y0 y1 y2 y3 y4)) ∧ (∀ y0 y1 y2 y3 y4, LeO (impl_FallOk.l1 k y0 y1 y2 y3 y4) (impl_FallOk.l1 (k + 1) y0 y1 y2 y3 y4)) ∧ (∀ y0 y1 y2 y3 y4 y5 y6 y7 y8, LeO (impl_FallOk.l2 k y0 y1 y2 y3 y4 y5 y6 y7 y8) (impl_FallOk.l2 (k + 1) y0 y1 y2 y3 y4 y5 y6 y7 y8))
 | 0 => ⟨fun _ _ _ r h => by simp [impl_FallOk.j0] at h, fun _ _ _ _ _ r h => by simp [impl_FallOk.l0] at h, fun _ _ _ _ _ r h => by simp [impl_FallOk.l1] at h, fun _ _ _ _ _ _ _ _ _ r h => by simp [impl_FallOk.l2] at h⟩
 | k + 1 => by
  obtain ⟨ih0, ih1, ih2, ih3⟩ := impl_FallOk.mono_l k
  refine ⟨?_, ?_, ?_, ?_⟩
  ·intro y0 y1 y2
   unfold impl_FallOk.j0
   repeat' first
   | (with_reducible exact ih0 _ _ _)
   | (with_reducible exact ih1 _ _ _ _ _)
   | (with_reducible exact ih2 _ _ _ _ _)
   | (with_reducible exact ih3 _ _ _ _ _ _ _ _ _)
   | (with_reducible exact impl_RelValid.mono _ _)
   | (with_reducible exact impl_compare.mono _ _ _)
   | (with_reducible exact impl_ordOf.mono _ _)
   | (with_reducible exact LeO.refl _)
   | (with_reducible exact LeO.none _)
   | (with_reducible refine LeO.ite ?_ ?_)
   | (with_reducible refine LeO.bind ?_ (fun _ => ?_))
   | exact ih0 _ _ _
   | exact ih1 _ _ _ _ _
   | exact ih2 _ _ _ _ _
   | exact ih3 _ _ _ _ _ _ _ _ _
   | exact impl_RelValid.mono _ _
   | exact impl_compare.mono _ _ _
   | exact impl_ordOf.mono _ _
   | exact LeO.none _
   | refine LeO.ite ?_ ?_
   | refine LeO.bind ?_ (fun _ => ?_)
  ·intro y0 y1 y2 y3 y4
   unfold impl_FallOk.l0
   repeat' first
   | (with_reducible exact ih0 _ _ _)
   | (with_reducible exact ih1 _ _ _ _ _)
   | (with_reducible exact ih2 _ _ _ _ _)
   | (with_reducible exact ih3 _ _ _ _ _ _ _ _ _)
   | (with_reducible exact impl_RelValid.mono _ _)
   | (with_reducible exact impl_compare.mono _ _ _)
   | (with_reducible exact impl_ordOf.mono _ _)
   | (with_reducible exact LeO.refl _)
   | (with_reducible exact LeO.none _)
   | (with_reducible refine LeO.ite ?_ ?_)
   | (with_reducible refine LeO.bind ?_ (fun _ => ?_))
   | exact ih0 _ _ _
   | exact ih1 _ _ _ _ _
   | exact ih2 _ _ _ _ _
   | exact ih3 _ _ _ _ _ _ _ _ _
   | exact impl_RelValid.mono _ _
   | exact impl_compare.mono _ _ _
   | exact impl_ordOf.mono _ _
   | exact LeO.none _
   | refine LeO.ite ?_ ?_
   | refine LeO.bind ?_ (fun _ => ?_)
  ·intro y0 y1 y2 y3 y4
   unfold impl_FallOk.l1
   repeat' first
   | (with_reducible exact ih0 _ _ _)
   | (with_reducible exact ih1 _ _ _ _ _)
   | (with_reducible exact ih2 _ _ _ _ _)
   | (with_reducible exact ih3 _ _ _ _ _ _ _ _ _)
   | (with_reducible exact impl_RelValid.mono _ _)
   | (with_reducible exact impl_compare.mono _ _ _)
   | (with_reducible exact impl_ordOf.mono _ _)
   | (with_reducible exact LeO.refl _)
   | (with_reducible exact LeO.none _)
   | (with_reducible refine LeO.ite ?_ ?_)
   | (with_reducible refine LeO.bind ?_ (fun _ => ?_))
   | exact ih0 _ _ _
   | exact ih1 _ _ _ _ _
   | exact ih2 _ _ _ _ _
   | exact ih3 _ _ _ _ _ _ _ _ _
   | exact impl_RelValid.mono _ _
   | exact impl_compare.mono _ _ _
   | exact impl_ordOf.mono _ _
   | exact LeO.none _
   | refine LeO.ite ?_ ?_
   | refine LeO.bind ?_ (fun _ => ?_)
  ·intro y0 y1 y2 y3 y4 y5 y6 y7 y8
   unfold impl_FallOk.l2
   repeat' first
   | (with_reducible exact ih0 _ _ _)
   | (with_reducible exact ih1 _ _ _ _ _)
   | (with_reducible exact ih2 _ _ _ _ _)
   | (with_reducible exact ih3 _ _ _ _ _ _ _ _ _)
   | (with_reducible exact impl_RelValid.mono _ _)
   | (with_reducible exact impl_compare.mono _ _ _)
   | (with_reducible exact impl_ordOf.mono _ _)
   | (with_reducible exact LeO.refl _)
   | (with_reducible exact LeO.none _)
   | (with_reducible refine LeO.ite ?_ ?_)
   | (with_reducible refine LeO.bind ?_ (fun _ => ?_))
   | exact ih0 _ _ _
   | exact ih1 _ _ _ _ _
   | exact ih2 _ _ _ _ _
   | exact ih3 _ _ _ _ _ _ _ _ _
   | exact impl_RelValid.mono _ _
   | exact impl_compare.mono _ _ _
   | exact impl_ordOf.mono _ _
   | exact LeO.none _
   | refine LeO.ite ?_ ?_
   | refine LeO.bind ?_ (fun _ => ?_)
theorem impl_FallOk.mono : ∀ a0 a1 k, LeO (impl_FallOk.f k a0 a1) (impl_FallOk.f (k + 1) a0 a1) := by
 intro a0 a1 k
 obtain ⟨ih0, ih1, ih2, ih3⟩ := impl_FallOk.mono_l k
 unfold impl_FallOk.f
 repeat' first
   | (with_reducible exact ih0 _ _ _)
   | (with_reducible exact ih1 _ _ _ _ _)
   | (with_reducible exact ih2 _ _ _ _ _)
   | (with_reducible exact ih3 _ _ _ _ _ _ _ _ _)
   | (with_reducible exact impl_RelValid.mono _ _)
   | (with_reducible exact impl_compare.mono _ _ _)
   | (with_reducible exact impl_ordOf.mono _ _)
   | (with_reducible exact LeO.refl _)
   | (with_reducible exact LeO.none _)
   | (with_reducible refine LeO.ite ?_ ?_)
   | (with_reducible refine LeO.bind ?_ (fun _ => ?_))
   | exact ih0 _ _ _
   | exact ih1 _ _ _ _ _
   | exact ih2 _ _ _ _ _
   | exact ih3 _ _ _ _ _ _ _ _ _
   | exact impl_RelValid.mono _ _
   | exact impl_compare.mono _ _ _
   | exact impl_ordOf.mono _ _
   | exact LeO.none _
   | refine LeO.ite ?_ ?_
   | refine LeO.bind ?_ (fun _ => ?_)
def impl_FallOk.T18 : Bool × List (List Nat × List Nat) := (true, [([], []), ([], []), ([0, 1], [0, 1]), ([2], [2]), ([3], [3]), ([4], [4]), ([5], [5]), ([5], [5]), ([6, 7, 5], [5, 6, 7]), ([8, 5], [5, 8]), ([5], [5]), ([5], [5]), ([10, 11, 5], [5, 10, 11]), ([12, 5], [5, 12]), ([9, 13, 5, 5], [5, 9, 13]), ([14, 5], [5, 14]), ([5, 15], [5, 15])])
def impl_FallOk.B18 : List Nat := [0, 0, 3, 7, 15, 31, 63, 63, 255, 511, 63, 63, 3135, 7231, 16383, 32767, 65535]
theorem impl_FallOk.tab18 : rtab .any (opsOf Try.f34 18) = impl_FallOk.T18 := by kernel_rfl
theorem impl_FallOk.bits18 : waitsOk impl_FallOk.T18.2 impl_FallOk.B18 = true := by kernel_rfl
set_option maxHeartbeats 8000000 in
set_option maxRecDepth 100000 in
theorem impl_FallOk.calls (k : Nat) (A0 : Option Addr) (c0 : Nat) (l0 : List Int) (A1 : Option Addr) (c1 : Nat) (l1 : List (List Int)) (r : Bool) (w : World) (hr0 : Kd.C (Kd.int .i64) w A0 l0.length l0) (hc0 : l0.length ≤ c0) (hr1 : Kd.C (Kd.slice 3 (Kd.int .i64)) w A1 l1.length l1) (hc1 : l1.length ≤ c1) (h : impl_FallOk.f k l0 l1 = some r) :
  Calls Try.prog 34 #[.slice A0 l0.length c0, .slice A1 l1.length c1] w fun e w' => e = .returned (.bool r) ∧ Below w.heap.size w w' := by
 have HR0 := Aside0.mk hr0
 have HC0 := Aside0.mk hc0
 clear hr0 hc0
 have HR1 := Aside0.mk hr1
 have HC1 := Aside0.mk hc1
 clear hr1 hc1
 have HB := Aside0.mk (Below.refl w.heap.size w)
 have H : ((impl_RelValid.f k l0).bind fun t275 => (if t275 = true then (impl_FallOk.j0 k l0 l1 ((l1.length : Int) != (l0.length : Int))) else (impl_FallOk.j0 k l0 l1 true))) = some r := h
 clear h
 have HC3 := Aside0.mk H
 clear H
 go_enter Try.func34, Try.ntmps34
 go_upto_region 1 with (fail)
 go_cut [22] (fun v22 wc => ∃ (kq : Nat) (x22_2 : Bool), v22 = .bool x22_2 ∧ Aside0 (impl_FallOk.j0 kq l0 l1 x22_2 = some r) ∧ Aside0 (kq ≤ k) ∧ Aside0 (Below w.heap.size w wc))
 case first =>
  have H := HC3.out
  clear HC3
  replace H := Option.bind_eq_some_iff.mp H
  obtain ⟨t275, A40, H⟩ := H
  replace H : (if t275 = true then (impl_FallOk.j0 k l0 l1 ((l1.length : Int) != (l0.length : Int))) else (impl_FallOk.j0 k l0 l1 true)) = some r := H
  have A4 := Aside0.mk A40
  clear A40
  by_cases c5 : t275 = true
  ·subst c5
   have H1 : (impl_FallOk.j0 k l0 l1 ((l1.length : Int) != (l0.length : Int))) = some r := by rw [if_pos rfl] at H; exact H
   clear H
   have H := H1
   clear H1
   have H' := Aside0.mk H
   clear H
   go_wp2_with (first | ((with_reducible refine gate_callee (f := 42) rfl ?_); refine goesL_ (some 14) rfl rfl Try.func42 (by kernel_rfl) rfl #[.slice A0 l0.length c0] rfl ls ?_; (with_reducible refine (impl_RelValid.calls k _ _ l0 true _ ?side1 ?side2 A4.out).mono ?_); (case side1 => repeat (first | exact (Kd.C_below HR0.out HB.out) | (with_reducible refine Kd.C_alloc ?_ _) | (with_reducible refine Kd.C_drewN ?_ _) | (with_reducible refine Kd.C_drew ?_))); (case side2 => exact HC0.out); rintro e w' ⟨rfl, ⟨nd, rfl⟩⟩; refine ⟨_, rfl, ?_⟩))
   go_meet
   case rel => exact ⟨_, (((l1.length : Int) != (l0.length : Int))), (by first | rfl | (simp; done) | (simp [*]; done)), H', ⟨by first | omega | exact Nat.le_refl _⟩, ⟨bl HB.out⟩⟩
  ·replace c5 := Bool.eq_false_iff.mpr c5
   subst c5
   have H1 : (impl_FallOk.j0 k l0 l1 true) = some r := by rw [if_neg (show ¬ (false = true) by decide)] at H; exact H
   clear H
   have H := H1
   clear H1
   have H' := Aside0.mk H
   clear H
   go_wp2_with (first | ((with_reducible refine gate_callee (f := 42) rfl ?_); refine goesL_ (some 14) rfl rfl Try.func42 (by kernel_rfl) rfl #[.slice A0 l0.length c0] rfl ls ?_; (with_reducible refine (impl_RelValid.calls k _ _ l0 false _ ?side1 ?side2 A4.out).mono ?_); (case side1 => repeat (first | exact (Kd.C_below HR0.out HB.out) | (with_reducible refine Kd.C_alloc ?_ _) | (with_reducible refine Kd.C_drewN ?_ _) | (with_reducible refine Kd.C_drew ?_))); (case side2 => exact HC0.out); rintro e w' ⟨rfl, ⟨nd, rfl⟩⟩; refine ⟨_, rfl, ?_⟩))
   go_meet
   case rel => exact ⟨_, (true), (by first | rfl | (simp; done) | (simp [*]; done)), H', ⟨by first | omega | exact Nat.le_refl _⟩, ⟨bl HB.out⟩⟩
 case rest =>
  clear HC3
  try clear c1
  try clear p2
  try clear c3
  try clear c4
  try clear c5
  obtain ⟨kq, x22_2, rfl, HA, HJ2, HB⟩ := hcut
  cases kq with
  | zero => exact absurd HA.out (by simp [impl_FallOk.j0])
  | succ kj2 =>
   have H := HA.out
   clear HA
   simp only [impl_FallOk.j0] at H
   by_cases c6 : x22_2 = true
   ·subst c6
    have H1 : (some false) = some r := by rw [if_pos rfl] at H; exact H
    clear H
    have H := H1
    clear H1
    obtain rfl := Option.some.inj H
    go_wp2
    go_ret
    exact ⟨by first | rfl | (simp [errW_none, errW_some] <;> rfl) | (simp [*, errW_none, errW_some] <;> rfl), bl HB.out⟩
   ·replace c6 := Bool.eq_false_iff.mpr c6
    subst c6
    have H1 : (impl_FallOk.l0 kj2 l0 (([] : List (List (S70)))) l1 (l1.length : Int) 0) = some r := by rw [if_neg (show ¬ (false = true) by decide)] at H; exact H
    clear H
    have H := H1
    clear H1
    obtain ⟨y276, hy276⟩ : ∃ y_ : List (List (S70)), y_ = (([] : List (List (S70)))) := ⟨_, rfl⟩
    replace H : (impl_FallOk.l0 kj2 l0 y276 l1 (l1.length : Int) 0) = some r := by first | (rw [hy276]; with_reducible exact H) | (have H2_ := (Option.bind_some _ _).symm.trans H; rw [hy276]; with_reducible exact H2_) | (have H2_ := (Option.bind_some _ _).symm.trans H; with_reducible exact H2_) | with_reducible exact H | (rw [hy276]; exact H) | exact H
    have Ny276 := Aside0.mk hy276
    clear hy276
    have H' := Aside0.mk H
    clear H
    go_wp2_with (first | ((with_reducible refine gate_dst (N := 23) rfl ?_); (try (refine gate_guard (by rfl) ?_; dsimp only)); refine Kd.R_lit (Kd.slice 70 k70) _ 56 ?hg (N := 23) ?hd (xs := ([] : List (List (S70)))) (inner := []) (ok := fun _ => True) (okp := fun _ => True) ?hr ?hp (fun _ hk => hk) trivial (Below.refl _ _) (Nat.le_refl _) (by simp) ?_; (case hd => rfl); (case hg => rfl); (case hr => first | (go_simp; done) | (go_simp; rfl)); (case hp => exact (Reps.none _ _)); intro v277 w7 ho8 hb hg_ hnew_; clear hg_ hnew_; (first | rw [← Ny276.out] at ho8 | (simp only [Int.reduceToNat] at ho8; rw [← Ny276.out] at ho8)); have HO278 := Aside0.mk (Kd.R_lower ho8 (below_size (bl HB.out))); replace HB := Aside0.mk (below_step (bl HB.out) hb); clear hb ho8))
    go_loopg [5, 26] kj2 (fun kq v5 v26 w' => ∃ (x5_2 : List (List (S70))) (x26_2 : Int), v26 = .int .i64 x26_2 ∧ Aside0 (impl_FallOk.l0 kq l0 x5_2 l1 (l1.length : Int) x26_2 = some r) ∧ Aside0 (kq ≤ kj2) ∧ Aside0 (Kd.R (Kd.slice 70 k70) 56 w' w.heap.size (fun _ => True) v5 x5_2) ∧ Aside0 (Below w.heap.size w w'))
    case atStart => exact ⟨(y276), (0), (by first | rfl | (simp; done) | (simp [*]; done)), H', ⟨Nat.le_refl _⟩, ⟨rR HO278.out⟩, ⟨bl HB.out⟩⟩
    case round =>
     clear H'
     try clear c1
     try clear p2
     try clear c3
     try clear c4
     try clear c5
     try clear c6
     try clear p2
     obtain ⟨x5_2, x26_2, rfl, HA, HK2, HO_5, HB⟩ := hrel
     cases gk with
     | zero => exact absurd HA.out (by simp [impl_FallOk.l0])
     | succ k2 =>
      have H := HA.out
      clear HA
      simp only [impl_FallOk.l0] at H
      by_cases c9 : x26_2 < (l1.length : Int)
      ·rw [if_pos c9] at H
       have c9b0 : decide (x26_2 < (l1.length : Int)) = true := decide_eq_true c9
       clear c9
       by_cases c10 : 0 ≤ x26_2
       ·rw [if_pos c10] at H
        have c10b0 : decide (0 ≤ x26_2) = true := decide_eq_true c10
        clear c10
        by_cases c11 : x26_2 < (l1.length : Int)
        ·rw [if_pos c11] at H
         have c11b0 : decide (x26_2 < (l1.length : Int)) = true := decide_eq_true c11
         clear c11
         replace H := Option.bind_eq_some_iff.mp H
         obtain ⟨⟨t280, t281⟩, A120, H⟩ := H
         replace H : (if t281 = true then (if x5_2.length < 5864062014805 then (impl_FallOk.l0 k2 l0 (x5_2 ++ [t280]) l1 (l1.length : Int) (wrap64 (x26_2 + 1))) else (none)) else (some false)) = some r := H
         have A12 := Aside0.mk A120
         clear A120
         by_cases c13 : t281 = true
         ·subst c13
          have H1 : (if x5_2.length < 5864062014805 then (impl_FallOk.l0 k2 l0 (x5_2 ++ [t280]) l1 (l1.length : Int) (wrap64 (x26_2 + 1))) else (none)) = some r := by rw [if_pos rfl] at H; exact H
          clear H
          have H := H1
          clear H1
          by_cases c14 : x5_2.length < 5864062014805
          ·rw [if_pos c14] at H
           have LMc14 := Aside0.mk c14
           clear c14
           obtain ⟨y284, hy284⟩ : ∃ y_ : List (List (S70)), y_ = (x5_2 ++ [t280]) := ⟨_, rfl⟩
           replace H : (impl_FallOk.l0 k2 l0 y284 l1 (l1.length : Int) (wrap64 (x26_2 + 1))) = some r := by first | (rw [hy284]; with_reducible exact H) | (have H2_ := (Option.bind_some _ _).symm.trans H; rw [hy284]; with_reducible exact H2_) | (have H2_ := (Option.bind_some _ _).symm.trans H; with_reducible exact H2_) | with_reducible exact H | (rw [hy284]; exact H) | exact H
           have Ny284 := Aside0.mk hy284
           clear hy284
           have H' := Aside0.mk H
           clear H
           have p279 : 0 ≤ (x26_2 : Int) := of_decide_eq_true (by first | (with_reducible assumption) | assumption)
           have q279 : x26_2 < (l1.length : Int) := of_decide_eq_true (by first | (with_reducible assumption) | assumption)
           obtain ⟨ad279, A279_0, c279_0, e279, hx279_0, hl279_0, hi279_0⟩ := at_L2 HR1.out x26_2 p279 q279
           cases e279
           replace hx279_0 := (HB.out.cell (World.block_lt_of_cell? w _ hx279_0)).trans hx279_0
           have HR279_0 := Aside0.mk hi279_0
           have HC279_0 := Aside0.mk hl279_0
           clear hi279_0 hl279_0
           replace p279 := eq_true p279
           replace q279 := eq_true q279
           go_wp2_with (first | ((with_reducible refine gate_callee (f := 57) rfl ?_); refine goesL_ (some 32) rfl rfl Try.func57 (by kernel_rfl) rfl #[.slice A279_0 (rd_L2 l1 x26_2).length c279_0] rfl ls ?_; (with_reducible refine (impl_ordOf.calls k2 _ _ (rd_L2 l1 x26_2) t280 true _ ?side1 ?side2 A12.out).mono ?_); (case side1 => repeat (first | exact (Kd.C_below HR279_0.out HB.out) | (with_reducible refine Kd.C_alloc ?_ _) | (with_reducible refine Kd.C_drewN ?_ _) | (with_reducible refine Kd.C_drew ?_))); (case side2 => exact HC279_0.out); rintro e w15 ⟨v282, rfl, ho0, hb⟩; refine ⟨_, rfl, ?_⟩; replace HO_5 := Aside0.mk (Kd.R_elder' (rR HO_5.out) (Kd.R_base ho0) hb); have HO283 := Aside0.mk (Kd.R_lower ho0 (below_size (bl HB.out))); replace HB := Aside0.mk (below_step (bl HB.out) hb); (try clear hb); (try clear hb2); (try clear hk); (try clear hi); (try clear ho0); obtain ⟨Ao17, co17, eo17⟩ := Kd.R_slice HO283.out; subst eo17) | ((with_reducible refine gate_builtin (b := .append) (xs := #[.tmp 37, .tmp 39]) rfl ?_); (try (refine gate_guard (by rfl) ?_; dsimp only)); at_builtin; refine Kd.R_append (Kd.slice 70 k70) (w0 := w) w.heap.size rfl (.tmp 37) (.tmp 39) 54 56 (.slice none 0 0) 24 rfl Try.underlying54 info56 rfl (by decide) (by omega) u5 x5_2 t280 [.slice Ao17 t280.length co17] (fun _ => True) (fun k_ => ((fun _ => True)) k_ ∧ some k_ ≠ (u5 : Value).ownBlock) rfl rfl ?aP (fun _ hk => hk) ?aF ?aO ?aB ?aS ?aL ?_; (case aP => exact Kd.M_row (Kd.R_mono (Kd.R_apart' (HO283.out) (Kd.R_typed HO_5.out) (by decide)) (fun k_ hk => ⟨trivial, hk.2⟩))); (case aB => exact (bl HB.out)); (case aF => exact (fun _ _ => trivial)); (case aO => exact (by (with_reducible repeat (first | apply Kd.R_alloc | apply Kd.R_drewN | apply Kd.R_drew)); exact Kd.R_mono HO_5.out (fun _ hk => trivial))); (case aS => exact (below_size (bl HB.out))); (case aL => have := LMc14.out; omega); intro v285 w16 ho hb hg hat; rw [← Ny284.out] at ho; replace HB := Aside0.mk (hb); have HO286 := Aside0.mk (ho); clear HO_5; clear HO283; clear ho hb hg hat))
           go_roundg k2
           case measure => have := HJ2.out; have := HK2.out; omega
           case rel => exact ⟨(y284), (wrap64 (x26_2 + 1)), (by first | rfl | (simp; done) | (simp [*]; done)), H', ⟨by have := HJ2.out; have := HK2.out; omega⟩, ⟨rR HO286.out⟩, ⟨bl HB.out⟩⟩
          ·rw [if_neg c14] at H
           exact absurd H (by simp)
         ·replace c13 := Bool.eq_false_iff.mpr c13
          subst c13
          have H1 : (some false) = some r := by rw [if_neg (show ¬ (false = true) by decide)] at H; exact H
          clear H
          have H := H1
          clear H1
          obtain rfl := Option.some.inj H
          have p279 : 0 ≤ (x26_2 : Int) := of_decide_eq_true (by first | (with_reducible assumption) | assumption)
          have q279 : x26_2 < (l1.length : Int) := of_decide_eq_true (by first | (with_reducible assumption) | assumption)
          obtain ⟨ad279, A279_0, c279_0, e279, hx279_0, hl279_0, hi279_0⟩ := at_L2 HR1.out x26_2 p279 q279
          cases e279
          replace hx279_0 := (HB.out.cell (World.block_lt_of_cell? w _ hx279_0)).trans hx279_0
          have HR279_0 := Aside0.mk hi279_0
          have HC279_0 := Aside0.mk hl279_0
          clear hi279_0 hl279_0
          replace p279 := eq_true p279
          replace q279 := eq_true q279
          go_wp2_with (first | ((with_reducible refine gate_callee (f := 57) rfl ?_); refine goesL_ (some 32) rfl rfl Try.func57 (by kernel_rfl) rfl #[.slice A279_0 (rd_L2 l1 x26_2).length c279_0] rfl ls ?_; (with_reducible refine (impl_ordOf.calls k2 _ _ (rd_L2 l1 x26_2) t280 false _ ?side1 ?side2 A12.out).mono ?_); (case side1 => repeat (first | exact (Kd.C_below HR279_0.out HB.out) | (with_reducible refine Kd.C_alloc ?_ _) | (with_reducible refine Kd.C_drewN ?_ _) | (with_reducible refine Kd.C_drew ?_))); (case side2 => exact HC279_0.out); rintro e w18 ⟨v282, rfl, ho0, hb⟩; refine ⟨_, rfl, ?_⟩; replace HO_5 := Aside0.mk (Kd.R_elder' (rR HO_5.out) (Kd.R_base ho0) hb); have HO283 := Aside0.mk (Kd.R_lower ho0 (below_size (bl HB.out))); replace HB := Aside0.mk (below_step (bl HB.out) hb); (try clear hb); (try clear hb2); (try clear hk); (try clear hi); (try clear ho0)))
          go_ret
          exact ⟨by first | rfl | (simp [errW_none, errW_some] <;> rfl) | (simp [*, errW_none, errW_some] <;> rfl), bl HB.out⟩
        ·rw [if_neg c11] at H
         exact absurd H (by simp)
       ·rw [if_neg c10] at H
        exact absurd H (by simp)
      ·rw [if_neg c9] at H
       have c9b0 : decide (x26_2 < (l1.length : Int)) = false := decide_eq_false c9
       clear c9
       have H' := Aside0.mk H
       clear H
       go_wp2
       go_loopg [44] k2 (fun kq v44 w' => ∃ (x44_3 : Int), v44 = .int .i64 x44_3 ∧ Aside0 (impl_FallOk.l1 kq l0 x5_2 l0 (l0.length : Int) x44_3 = some r) ∧ Aside0 (kq ≤ k2) ∧ Aside0 (Kd.R (Kd.slice 70 k70) 56 w' w.heap.size (fun _ => True) u5 x5_2) ∧ Aside0 (Below w.heap.size w w'))
       case atStart => exact ⟨(0), (by first | rfl | (simp; done) | (simp [*]; done)), H', ⟨Nat.le_refl _⟩, ⟨rR HO_5.out⟩, ⟨bl HB.out⟩⟩
       case round =>
        clear H'
        try clear c1
        try clear c2
        try clear p2
        try clear q2
        try clear hx2
        try clear c3
        try clear c4
        try clear c5
        try clear c6
        try clear p6
        try clear c9
        try clear c9b0
        try clear c10
        try clear c10b0
        try clear c11
        try clear c11b0
        try clear c13
        try clear c14
        try clear hx279_0
        try clear p2
        try clear p279
        try clear q279
        obtain ⟨x44_3, rfl, HA, HK3, HO_5, HB⟩ := hrel
        cases gk with
        | zero => exact absurd HA.out (by simp [impl_FallOk.l1])
        | succ k3 =>
         have H := HA.out
         clear HA
         simp only [impl_FallOk.l1] at H
         by_cases c19 : x44_3 < (l0.length : Int)
         ·rw [if_pos c19] at H
          have c19b0 : decide (x44_3 < (l0.length : Int)) = true := decide_eq_true c19
          clear c19
          by_cases c20 : 0 ≤ x44_3
          ·rw [if_pos c20] at H
           have c20b0 : decide (0 ≤ x44_3) = true := decide_eq_true c20
           clear c20
           by_cases c21 : x44_3 < (l0.length : Int)
           ·rw [if_pos c21] at H
            have c21b0 : decide (x44_3 < (l0.length : Int)) = true := decide_eq_true c21
            clear c21
            have H' := Aside0.mk H
            clear H
            have p287 : 0 ≤ (x44_3 : Int) := of_decide_eq_true (by first | (with_reducible assumption) | assumption)
            have q287 : x44_3 < (l0.length : Int) := of_decide_eq_true (by first | (with_reducible assumption) | assumption)
            obtain ⟨ad287, e287, hx287_0⟩ := Kd.at_int HR0.out x44_3 p287 q287
            cases e287
            replace hx287_0 := (HB.out.cell (World.block_lt_of_cell? w _ hx287_0)).trans hx287_0
            replace p287 := eq_true p287
            replace q287 := eq_true q287
            go_wp2
            go_loopg [51] k3 (fun kq v51 w' => ∃ (x51_4 : Int), v51 = .int .i64 x51_4 ∧ Aside0 (impl_FallOk.l2 kq l0 x5_2 x44_3 (rd l0 x44_3) l0 (l0.length : Int) x44_3 (l0.length : Int) x51_4 = some r) ∧ Aside0 (kq ≤ k3) ∧ Aside0 (Kd.R (Kd.slice 70 k70) 56 w' w.heap.size (fun _ => True) u5 x5_2) ∧ Aside0 (Below w.heap.size w w'))
            case atStart => exact ⟨(0), (by first | rfl | (simp; done) | (simp [*]; done)), H', ⟨Nat.le_refl _⟩, ⟨rR HO_5.out⟩, ⟨bl HB.out⟩⟩
            case round =>
             clear H'
             try clear c1
             try clear c2
             try clear p2
             try clear q2
             try clear hx2
             try clear c3
             try clear c4
             try clear c5
             try clear c6
             try clear p6
             try clear c9
             try clear c9b0
             try clear c10
             try clear c10b0
             try clear c11
             try clear c11b0
             try clear c13
             try clear c14
             try clear c19
             try clear c19b0
             try clear c20
             try clear c20b0
             try clear c21
             try clear c21b0
             try clear hx279_0
             try clear hx287_0
             try clear p2
             try clear p279
             try clear p287
             try clear p6
             try clear q2
             try clear q279
             try clear q287
             obtain ⟨x51_4, rfl, HA, HK4, HO_5, HB⟩ := hrel
             cases gk with
             | zero => exact absurd HA.out (by simp [impl_FallOk.l2])
             | succ k4 =>
              have H := HA.out
              clear HA
              simp only [impl_FallOk.l2] at H
              by_cases c22 : x51_4 < (l0.length : Int)
              ·rw [if_pos c22] at H
               have c22b0 : decide (x51_4 < (l0.length : Int)) = true := decide_eq_true c22
               clear c22
               by_cases c23 : 0 ≤ x51_4
               ·rw [if_pos c23] at H
                have c23b0 := eq_true c23
                have c23b1 : decide (0 ≤ x51_4) = true := decide_eq_true c23
                clear c23
                obtain ⟨ji24, hji24⟩ : ∃ j_ : Int, (shr .i64 (rd l0 x44_3) x51_4) = j_ := ⟨_, rfl⟩
                replace H : (if (Go.bits .and .i64 (ji24) 1) = 1 then (if 0 ≤ x44_3 then (if x44_3 < (x5_2.length : Int) then (if x51_4 < (x5_2.length : Int) then ((impl_compare.f k4 (rd_L3 x5_2 x44_3) (rd_L3 x5_2 x51_4)).bind fun t290 => (if t290 ≤ 0 then (some false) else (impl_FallOk.l2 k4 l0 x5_2 x44_3 (rd l0 x44_3) l0 (l0.length : Int) x44_3 (l0.length : Int) (wrap64 (x51_4 + 1))))) else (none)) else (none)) else (none)) else (impl_FallOk.l2 k4 l0 x5_2 x44_3 (rd l0 x44_3) l0 (l0.length : Int) x44_3 (l0.length : Int) (wrap64 (x51_4 + 1)))) = some r := by first | (rw [hji24] at H; exact H) | (simp only [hji24] at H ⊢; exact H)
                have hji24_ : ((rd l0 x44_3) / 2 ^ min x51_4.toNat 64) = ji24 := hji24
                have hji24z : x51_4 ≤ 64 → ((rd l0 x44_3) / 2 ^ x51_4.toNat) = ji24 := shr_small hji24
                by_cases c25 : (Go.bits .and .i64 (ji24) 1) = 1
                ·rw [if_pos c25] at H
                 have c25b0 : ((Go.bits .and .i64 (ji24) 1) == 1) = true := beq_iff_eq.mpr c25
                 have c25b1 : ((Go.bits .and .i64 (ji24) 1) != 1) = false := bne_eq_false_iff_eq.mpr c25
                 clear c25
                 by_cases c26 : 0 ≤ x44_3
                 ·rw [if_pos c26] at H
                  have c26b0 : decide (0 ≤ x44_3) = true := decide_eq_true c26
                  clear c26
                  by_cases c27 : x44_3 < (x5_2.length : Int)
                  ·rw [if_pos c27] at H
                   have c27b0 : decide (x44_3 < (x5_2.length : Int)) = true := decide_eq_true c27
                   clear c27
                   by_cases c28 : x51_4 < (x5_2.length : Int)
                   ·rw [if_pos c28] at H
                    have c28b0 : decide (x51_4 < (x5_2.length : Int)) = true := decide_eq_true c28
                    clear c28
                    replace H := Option.bind_eq_some_iff.mp H
                    obtain ⟨t290, A290, H⟩ := H
                    replace H : (if t290 ≤ 0 then (some false) else (impl_FallOk.l2 k4 l0 x5_2 x44_3 (rd l0 x44_3) l0 (l0.length : Int) x44_3 (l0.length : Int) (wrap64 (x51_4 + 1)))) = some r := H
                    have A29 := Aside0.mk A290
                    clear A290
                    by_cases c30 : t290 ≤ 0
                    ·rw [if_pos c30] at H
                     have c30b0 : decide (t290 ≤ 0) = true := decide_eq_true c30
                     clear c30
                     obtain rfl := Option.some.inj H
                     try go_wp2
                     replace HO_5 := Aside0.mk (Kd.R_drew HO_5.out)
                     replace HB := Aside0.mk (below_drew1 HB.out)
                     obtain ⟨Ao32, co32, eo32⟩ := Kd.R_slice HO_5.out
                     (first | subst eo32 | (injection eo32 with f1_ f2_ f3_; have f4_ := f1_.symm; have f5_ := f3_.symm; clear f1_ f2_ f3_; subst f4_; subst f5_))
                     have p288 : 0 ≤ (x44_3 : Int) := of_decide_eq_true (by first | (with_reducible assumption) | assumption)
                     have q288 : x44_3 < (x5_2.length : Int) := of_decide_eq_true (by first | (with_reducible assumption) | assumption)
                     obtain ⟨ad288, A288_0, c288_0, e288, hx288_0, hl288_0, hi288_0⟩ := at_L3 (Kd.R_reads' HO_5.out).2.2 x44_3 p288 q288
                     cases e288
                     obtain ⟨ce288, hce288, hMe288, hcc288⟩ := Kd.R_get HO_5.out [] x44_3 p288 (by first | exact q288 | exact of_decide_eq_true (by first | (with_reducible assumption) | assumption) | (have e_ := (Kd.R_reads' HO_5.out).1; omega))
                     obtain ⟨ve288_0, rfl, ge288_0⟩ := hMe288
                     have hv288_0 := hcc288 0 _ rfl
                     rw [Nat.add_zero, show ((Kd.slice 70 k70)).sz = 1 from rfl, Nat.mul_one] at hv288_0
                     replace hv288_0 := Option.some.inj (hv288_0.symm.trans hx288_0)
                     rw [hv288_0] at ge288_0
                     have HL288_0 := Aside0.mk (show Kd.R k70 70 _ _ _ _ (rd_L3 x5_2 x44_3) from ge288_0)
                     clear hv288_0 ge288_0
                     clear hcc288 hce288
                     have HR288_0 := Aside0.mk hi288_0
                     have HC288_0 := Aside0.mk hl288_0
                     clear hi288_0 hl288_0
                     replace p288 := eq_true p288
                     replace q288 := eq_true q288
                     have p289 : 0 ≤ (x51_4 : Int) := of_decide_eq_true (by first | (with_reducible assumption) | assumption)
                     have q289 : x51_4 < (x5_2.length : Int) := of_decide_eq_true (by first | (with_reducible assumption) | assumption)
                     obtain ⟨ad289, A289_0, c289_0, e289, hx289_0, hl289_0, hi289_0⟩ := at_L3 (Kd.R_reads' HO_5.out).2.2 x51_4 p289 q289
                     obtain rfl : ad288 = ad289 := (by injection e289)
                     obtain ⟨ce289, hce289, hMe289, hcc289⟩ := Kd.R_get HO_5.out [] x51_4 p289 (by first | exact q289 | exact of_decide_eq_true (by first | (with_reducible assumption) | assumption) | (have e_ := (Kd.R_reads' HO_5.out).1; omega))
                     obtain ⟨ve289_0, rfl, ge289_0⟩ := hMe289
                     have hv289_0 := hcc289 0 _ rfl
                     rw [Nat.add_zero, show ((Kd.slice 70 k70)).sz = 1 from rfl, Nat.mul_one] at hv289_0
                     replace hv289_0 := Option.some.inj (hv289_0.symm.trans hx289_0)
                     rw [hv289_0] at ge289_0
                     have HL289_0 := Aside0.mk (show Kd.R k70 70 _ _ _ _ (rd_L3 x5_2 x51_4) from ge289_0)
                     clear hv289_0 ge289_0
                     clear hcc289 hce289
                     have HR289_0 := Aside0.mk hi289_0
                     have HC289_0 := Aside0.mk hl289_0
                     clear hi289_0 hl289_0
                     replace p289 := eq_true p289
                     replace q289 := eq_true q289
                     refine start_ (n := 17) (S := fun w' => w'.cell? (ad288.add (x44_3).toNat) = some (.slice A288_0 (rd_L3 x5_2 x44_3).length c288_0) ∧ w'.cell? (ad288.add (x51_4).toNat) = some (.slice A289_0 (rd_L3 x5_2 x51_4).length c289_0)) (ds := []) #[false, false, false, false, false, false, false, false, false, false, false, false, false, false, false, false, false] (by kernel_rfl) rfl rfl ⟨hx288_0, hx289_0⟩ (fun hHeld => ?_); refine with_tabW impl_FallOk.tab18 impl_FallOk.bits18 (fun HT_ HW_ => ?_)
                     generalize wr.drew = w31 at HO_5 HB HL288_0 HL289_0 HR288_0 HR289_0 hx288_0 hx289_0 hHeld ⊢
                     refine pu 0 54 ?_
                     refine pu 1 55 ?_
                     refine pu 2 56 ?_
                     refine pu 3 57 ?_
                     refine pu 4 58 ?_
                     refine pu 5 59 ?_
                     refine pu 6 60 ?_
                     refine pu 7 61 ?_
                     refine pu 8 62 ?_
                     refine pu 10 64 ?_
                     refine pu 11 65 ?_
                     refine pu 12 66 ?_
                     refine take_ (i := 9) (N := some 63) (v := ?_) (a' := ?_) #[true, true, true, true, true, true, true, true, true, true, true, true, true, false, false, false, false] rfl rfl (take_ofW HT_.out HW_.out (by kernel_rfl)) (fun _ _ _ h => h) (Or.inl ⟨by rfl, ?_⟩) hHeld ?_ ?_
                     rotate_left
                     ·rintro w' ⟨s0, s1⟩
                      go_simp
                      with_reducible rfl
                     rotate_left
                     ·simp only [Act.put, List.setIfInBounds_toArray, List.set_cons_zero, List.set_cons_succ, i64_w, i32_w]
                      rfl
                     refine take_ (i := 13) (N := some 67) (v := ?_) (a' := ?_) #[true, true, true, true, true, true, true, true, true, true, true, true, true, true, false, false, false] rfl rfl (take_ofW HT_.out HW_.out (by kernel_rfl)) (fun _ _ _ h => h) (Or.inl ⟨by rfl, ?_⟩) hHeld ?_ ?_
                     rotate_left
                     ·rintro w' ⟨s0, s1⟩
                      go_simp
                      with_reducible rfl
                     rotate_left
                     ·simp only [Act.put, List.setIfInBounds_toArray, List.set_cons_zero, List.set_cons_succ, i64_w, i32_w]
                      rfl
                     refine one_ (i := 14) (N := some 68) #[true, true, true, true, true, true, true, true, true, true, true, true, true, true, true, false, false] rfl rfl (one_of HT_.out (by kernel_rfl)) (by decide) (fun K hK => ?_)
                     refine goes_ Try.func58 (by kernel_rfl) rfl #[.slice A288_0 (rd_L3 x5_2 x44_3).length c288_0, .slice A289_0 (rd_L3 x5_2 x51_4).length c289_0] (by rfl) rfl rfl ls ?_
                     with_reducible refine (impl_compare.calls k4 _ _ (rd_L3 x5_2 x44_3) _ _ (rd_L3 x5_2 x51_4) t290 _ ?side1 ?side2 ?side3 ?side4 A29.out).mono ?_
                     (case side1 => repeat (first | exact (cr HR288_0.out) | (with_reducible refine Kd.C_alloc ?_ _) | (with_reducible refine Kd.C_drewN ?_ _) | (with_reducible refine Kd.C_drew ?_)))
                     (case side2 => exact HC288_0.out)
                     (case side3 => repeat (first | exact (cr HR289_0.out) | (with_reducible refine Kd.C_alloc ?_ _) | (with_reducible refine Kd.C_drewN ?_ _) | (with_reducible refine Kd.C_drew ?_)))
                     (case side4 => exact HC289_0.out)
                     rintro e w33 ⟨rfl, hb⟩
                     have HS0_ := (hb.cell (World.block_lt_of_cell? _ _ (hHeld.1))).trans (hHeld.1)
                     have HS1_ := (hb.cell (World.block_lt_of_cell? _ _ (hHeld.2))).trans (hHeld.2)
                     refine ⟨_, rfl, ?_⟩
                     replace HO_5 := Aside0.mk (Kd.R_below (rR HO_5.out) hb)
                     replace HL288_0 := Aside0.mk (Kd.R_below (rR HL288_0.out) hb)
                     replace HL289_0 := Aside0.mk (Kd.R_below (rR HL289_0.out) hb)
                     replace HR288_0 := Aside0.mk (Kd.C_below (cr HR288_0.out) hb)
                     replace HR289_0 := Aside0.mk (Kd.C_below (cr HR289_0.out) hb)
                     replace HB := Aside0.mk (below_step (bl HB.out) hb)
                     (try clear hb)
                     (try clear hb2)
                     (try clear hk)
                     (try clear hi)
                     refine hK.out _ _ ⟨HS0_, HS1_⟩ (fun hHeld => ?_)
                     clear hK K
                     refine nm 68 ?_
                     refine pu 15 69 ?_
                     refine pu 16 70 ?_
                     refine done_ (done_of HT_.out (by kernel_rfl)) ?_
                     (try clear hHeld)
                     (try clear HS0_)
                     (try clear HS1_)
                     try go_wp2
                     go_ret
                     exact ⟨by first | rfl | (simp [errW_none, errW_some] <;> rfl) | (simp only [← hji24]; first | rfl | (simp [errW_none, errW_some] <;> rfl)) | (simp [*, errW_none, errW_some] <;> rfl), bl HB.out⟩
                    ·rw [if_neg c30] at H
                     have c30b0 : decide (t290 ≤ 0) = false := decide_eq_false c30
                     clear c30
                     have H' := Aside0.mk H
                     clear H
                     try go_wp2
                     replace HO_5 := Aside0.mk (Kd.R_drew HO_5.out)
                     replace HB := Aside0.mk (below_drew1 HB.out)
                     obtain ⟨Ao35, co35, eo35⟩ := Kd.R_slice HO_5.out
                     (first | subst eo35 | (injection eo35 with f1_ f2_ f3_; have f4_ := f1_.symm; have f5_ := f3_.symm; clear f1_ f2_ f3_; subst f4_; subst f5_))
                     have p288 : 0 ≤ (x44_3 : Int) := of_decide_eq_true (by first | (with_reducible assumption) | assumption)
                     have q288 : x44_3 < (x5_2.length : Int) := of_decide_eq_true (by first | (with_reducible assumption) | assumption)
                     obtain ⟨ad288, A288_0, c288_0, e288, hx288_0, hl288_0, hi288_0⟩ := at_L3 (Kd.R_reads' HO_5.out).2.2 x44_3 p288 q288
                     cases e288
                     obtain ⟨ce288, hce288, hMe288, hcc288⟩ := Kd.R_get HO_5.out [] x44_3 p288 (by first | exact q288 | exact of_decide_eq_true (by first | (with_reducible assumption) | assumption) | (have e_ := (Kd.R_reads' HO_5.out).1; omega))
                     obtain ⟨ve288_0, rfl, ge288_0⟩ := hMe288
                     have hv288_0 := hcc288 0 _ rfl
                     rw [Nat.add_zero, show ((Kd.slice 70 k70)).sz = 1 from rfl, Nat.mul_one] at hv288_0
                     replace hv288_0 := Option.some.inj (hv288_0.symm.trans hx288_0)
                     rw [hv288_0] at ge288_0
                     have HL288_0 := Aside0.mk (show Kd.R k70 70 _ _ _ _ (rd_L3 x5_2 x44_3) from ge288_0)
                     clear hv288_0 ge288_0
                     clear hcc288 hce288
                     have HR288_0 := Aside0.mk hi288_0
                     have HC288_0 := Aside0.mk hl288_0
                     clear hi288_0 hl288_0
                     replace p288 := eq_true p288
                     replace q288 := eq_true q288
                     have p289 : 0 ≤ (x51_4 : Int) := of_decide_eq_true (by first | (with_reducible assumption) | assumption)
                     have q289 : x51_4 < (x5_2.length : Int) := of_decide_eq_true (by first | (with_reducible assumption) | assumption)
                     obtain ⟨ad289, A289_0, c289_0, e289, hx289_0, hl289_0, hi289_0⟩ := at_L3 (Kd.R_reads' HO_5.out).2.2 x51_4 p289 q289
                     obtain rfl : ad288 = ad289 := (by injection e289)
                     obtain ⟨ce289, hce289, hMe289, hcc289⟩ := Kd.R_get HO_5.out [] x51_4 p289 (by first | exact q289 | exact of_decide_eq_true (by first | (with_reducible assumption) | assumption) | (have e_ := (Kd.R_reads' HO_5.out).1; omega))
                     obtain ⟨ve289_0, rfl, ge289_0⟩ := hMe289
                     have hv289_0 := hcc289 0 _ rfl
                     rw [Nat.add_zero, show ((Kd.slice 70 k70)).sz = 1 from rfl, Nat.mul_one] at hv289_0
                     replace hv289_0 := Option.some.inj (hv289_0.symm.trans hx289_0)
                     rw [hv289_0] at ge289_0
                     have HL289_0 := Aside0.mk (show Kd.R k70 70 _ _ _ _ (rd_L3 x5_2 x51_4) from ge289_0)
                     clear hv289_0 ge289_0
                     clear hcc289 hce289
                     have HR289_0 := Aside0.mk hi289_0
                     have HC289_0 := Aside0.mk hl289_0
                     clear hi289_0 hl289_0
                     replace p289 := eq_true p289
                     replace q289 := eq_true q289
                     refine start_ (n := 17) (S := fun w' => w'.cell? (ad288.add (x44_3).toNat) = some (.slice A288_0 (rd_L3 x5_2 x44_3).length c288_0) ∧ w'.cell? (ad288.add (x51_4).toNat) = some (.slice A289_0 (rd_L3 x5_2 x51_4).length c289_0)) (ds := []) #[false, false, false, false, false, false, false, false, false, false, false, false, false, false, false, false, false] (by kernel_rfl) rfl rfl ⟨hx288_0, hx289_0⟩ (fun hHeld => ?_); refine with_tabW impl_FallOk.tab18 impl_FallOk.bits18 (fun HT_ HW_ => ?_)
                     generalize wr.drew = w34 at HO_5 HB HL288_0 HL289_0 HR288_0 HR289_0 hx288_0 hx289_0 hHeld ⊢
                     refine pu 0 54 ?_
                     refine pu 1 55 ?_
                     refine pu 2 56 ?_
                     refine pu 3 57 ?_
                     refine pu 4 58 ?_
                     refine pu 5 59 ?_
                     refine pu 6 60 ?_
                     refine pu 7 61 ?_
                     refine pu 8 62 ?_
                     refine pu 10 64 ?_
                     refine pu 11 65 ?_
                     refine pu 12 66 ?_
                     refine take_ (i := 9) (N := some 63) (v := ?_) (a' := ?_) #[true, true, true, true, true, true, true, true, true, true, true, true, true, false, false, false, false] rfl rfl (take_ofW HT_.out HW_.out (by kernel_rfl)) (fun _ _ _ h => h) (Or.inl ⟨by rfl, ?_⟩) hHeld ?_ ?_
                     rotate_left
                     ·rintro w' ⟨s0, s1⟩
                      go_simp
                      with_reducible rfl
                     rotate_left
                     ·simp only [Act.put, List.setIfInBounds_toArray, List.set_cons_zero, List.set_cons_succ, i64_w, i32_w]
                      rfl
                     refine take_ (i := 13) (N := some 67) (v := ?_) (a' := ?_) #[true, true, true, true, true, true, true, true, true, true, true, true, true, true, false, false, false] rfl rfl (take_ofW HT_.out HW_.out (by kernel_rfl)) (fun _ _ _ h => h) (Or.inl ⟨by rfl, ?_⟩) hHeld ?_ ?_
                     rotate_left
                     ·rintro w' ⟨s0, s1⟩
                      go_simp
                      with_reducible rfl
                     rotate_left
                     ·simp only [Act.put, List.setIfInBounds_toArray, List.set_cons_zero, List.set_cons_succ, i64_w, i32_w]
                      rfl
                     refine one_ (i := 14) (N := some 68) #[true, true, true, true, true, true, true, true, true, true, true, true, true, true, true, false, false] rfl rfl (one_of HT_.out (by kernel_rfl)) (by decide) (fun K hK => ?_)
                     refine goes_ Try.func58 (by kernel_rfl) rfl #[.slice A288_0 (rd_L3 x5_2 x44_3).length c288_0, .slice A289_0 (rd_L3 x5_2 x51_4).length c289_0] (by rfl) rfl rfl ls ?_
                     with_reducible refine (impl_compare.calls k4 _ _ (rd_L3 x5_2 x44_3) _ _ (rd_L3 x5_2 x51_4) t290 _ ?side1 ?side2 ?side3 ?side4 A29.out).mono ?_
                     (case side1 => repeat (first | exact (cr HR288_0.out) | (with_reducible refine Kd.C_alloc ?_ _) | (with_reducible refine Kd.C_drewN ?_ _) | (with_reducible refine Kd.C_drew ?_)))
                     (case side2 => exact HC288_0.out)
                     (case side3 => repeat (first | exact (cr HR289_0.out) | (with_reducible refine Kd.C_alloc ?_ _) | (with_reducible refine Kd.C_drewN ?_ _) | (with_reducible refine Kd.C_drew ?_)))
                     (case side4 => exact HC289_0.out)
                     rintro e w36 ⟨rfl, hb⟩
                     have HS0_ := (hb.cell (World.block_lt_of_cell? _ _ (hHeld.1))).trans (hHeld.1)
                     have HS1_ := (hb.cell (World.block_lt_of_cell? _ _ (hHeld.2))).trans (hHeld.2)
                     refine ⟨_, rfl, ?_⟩
                     replace HO_5 := Aside0.mk (Kd.R_below (rR HO_5.out) hb)
                     replace HL288_0 := Aside0.mk (Kd.R_below (rR HL288_0.out) hb)
                     replace HL289_0 := Aside0.mk (Kd.R_below (rR HL289_0.out) hb)
                     replace HR288_0 := Aside0.mk (Kd.C_below (cr HR288_0.out) hb)
                     replace HR289_0 := Aside0.mk (Kd.C_below (cr HR289_0.out) hb)
                     replace HB := Aside0.mk (below_step (bl HB.out) hb)
                     (try clear hb)
                     (try clear hb2)
                     (try clear hk)
                     (try clear hi)
                     refine hK.out _ _ ⟨HS0_, HS1_⟩ (fun hHeld => ?_)
                     clear hK K
                     refine nm 68 ?_
                     refine pu 15 69 ?_
                     refine pu 16 70 ?_
                     refine done_ (done_of HT_.out (by kernel_rfl)) ?_
                     (try clear hHeld)
                     (try clear HS0_)
                     (try clear HS1_)
                     try go_wp2
                     go_roundg k4
                     case measure => have := HJ2.out; have := HK2.out; have := HK3.out; have := HK4.out; omega
                     case rel => exact ⟨(wrap64 (x51_4 + 1)), (by first | rfl | (simp; done) | (simp [*]; done)), H', ⟨by have := HJ2.out; have := HK2.out; have := HK3.out; have := HK4.out; omega⟩, ⟨rR HO_5.out⟩, ⟨bl HB.out⟩⟩
                   ·rw [if_neg c28] at H
                    exact absurd H (by simp)
                  ·rw [if_neg c27] at H
                   exact absurd H (by simp)
                 ·rw [if_neg c26] at H
                  exact absurd H (by simp)
                ·rw [if_neg c25] at H
                 have c25b0 : ((Go.bits .and .i64 (ji24) 1) == 1) = false := beq_eq_false_iff_ne.mpr c25
                 have c25b1 : ((Go.bits .and .i64 (ji24) 1) != 1) = true := bne_iff_ne.mpr c25
                 have H' := Aside0.mk H
                 clear H
                 try go_wp2
                 replace HO_5 := Aside0.mk (Kd.R_drew HO_5.out)
                 replace HB := Aside0.mk (below_drew1 HB.out)
                 refine start_ (n := 17) (S := fun w' => True) (ds := []) #[false, false, false, false, false, false, false, false, false, false, false, false, false, false, false, false, false] (by kernel_rfl) rfl rfl trivial (fun hHeld => ?_); refine with_tabW impl_FallOk.tab18 impl_FallOk.bits18 (fun HT_ HW_ => ?_)
                 generalize wr.drew = w37 at HO_5 HB hHeld ⊢
                 refine pu 0 54 ?_
                 refine pu 1 55 ?_
                 refine pu 2 56 ?_
                 refine pu 3 57 ?_
                 refine pu 4 58 ?_
                 refine pu 5 59 ?_
                 refine pure_ (i := 6) (N := some 60) (v := undef) (a' := ?_) #[true, true, true, true, true, true, true, false, false, false, false, false, false, false, false, false, false] rfl rfl (any_of HT_.out (by kernel_rfl)) (fun _ _ _ h => h) (Or.inr ⟨by rfl, rfl⟩) ?_ ?_
                 rotate_left
                 ·simp only [Act.put, List.setIfInBounds_toArray, List.set_cons_zero, List.set_cons_succ, i64_w, i32_w]
                  rfl
                 refine pure_ (i := 7) (N := some 61) (v := undef) (a' := ?_) #[true, true, true, true, true, true, true, true, false, false, false, false, false, false, false, false, false] rfl rfl (any_of HT_.out (by kernel_rfl)) (fun _ _ _ h => h) (Or.inr ⟨by rfl, rfl⟩) ?_ ?_
                 rotate_left
                 ·simp only [Act.put, List.setIfInBounds_toArray, List.set_cons_zero, List.set_cons_succ, i64_w, i32_w]
                  rfl
                 refine pure_ (i := 8) (N := some 62) (v := undef) (a' := ?_) #[true, true, true, true, true, true, true, true, true, false, false, false, false, false, false, false, false] rfl rfl (any_of HT_.out (by kernel_rfl)) (fun _ _ _ h => h) (Or.inr ⟨by rfl, rfl⟩) ?_ ?_
                 rotate_left
                 ·simp only [Act.put, List.setIfInBounds_toArray, List.set_cons_zero, List.set_cons_succ, i64_w, i32_w]
                  rfl
                 refine pure_ (i := 9) (N := some 63) (v := undef) (a' := ?_) #[true, true, true, true, true, true, true, true, true, true, false, false, false, false, false, false, false] rfl rfl (any_of HT_.out (by kernel_rfl)) (fun _ _ _ h => h) (Or.inr ⟨by rfl, rfl⟩) ?_ ?_
                 rotate_left
                 ·simp only [Act.put, List.setIfInBounds_toArray, List.set_cons_zero, List.set_cons_succ, i64_w, i32_w]
                  rfl
                 refine pure_ (i := 10) (N := some 64) (v := undef) (a' := ?_) #[true, true, true, true, true, true, true, true, true, true, true, false, false, false, false, false, false] rfl rfl (any_of HT_.out (by kernel_rfl)) (fun _ _ _ h => h) (Or.inr ⟨by rfl, rfl⟩) ?_ ?_
                 rotate_left
                 ·simp only [Act.put, List.setIfInBounds_toArray, List.set_cons_zero, List.set_cons_succ, i64_w, i32_w]
                  rfl
                 refine pure_ (i := 11) (N := some 65) (v := undef) (a' := ?_) #[true, true, true, true, true, true, true, true, true, true, true, true, false, false, false, false, false] rfl rfl (any_of HT_.out (by kernel_rfl)) (fun _ _ _ h => h) (Or.inr ⟨by rfl, rfl⟩) ?_ ?_
                 rotate_left
                 ·simp only [Act.put, List.setIfInBounds_toArray, List.set_cons_zero, List.set_cons_succ, i64_w, i32_w]
                  rfl
                 refine pure_ (i := 12) (N := some 66) (v := undef) (a' := ?_) #[true, true, true, true, true, true, true, true, true, true, true, true, true, false, false, false, false] rfl rfl (any_of HT_.out (by kernel_rfl)) (fun _ _ _ h => h) (Or.inr ⟨by rfl, rfl⟩) ?_ ?_
                 rotate_left
                 ·simp only [Act.put, List.setIfInBounds_toArray, List.set_cons_zero, List.set_cons_succ, i64_w, i32_w]
                  rfl
                 refine pure_ (i := 13) (N := some 67) (v := undef) (a' := ?_) #[true, true, true, true, true, true, true, true, true, true, true, true, true, true, false, false, false] rfl rfl (any_of HT_.out (by kernel_rfl)) (fun _ _ _ h => h) (Or.inr ⟨by rfl, rfl⟩) ?_ ?_
                 rotate_left
                 ·simp only [Act.put, List.setIfInBounds_toArray, List.set_cons_zero, List.set_cons_succ, i64_w, i32_w]
                  rfl
                 refine pure_ (i := 14) (N := some 68) (v := undef) (a' := ?_) #[true, true, true, true, true, true, true, true, true, true, true, true, true, true, true, false, false] rfl rfl (any_of HT_.out (by kernel_rfl)) (fun _ _ _ h => h) (Or.inr ⟨by rfl, rfl⟩) ?_ ?_
                 rotate_left
                 ·simp only [Act.put, List.setIfInBounds_toArray, List.set_cons_zero, List.set_cons_succ, i64_w, i32_w]
                  rfl
                 refine pure_ (i := 15) (N := some 69) (v := undef) (a' := ?_) #[true, true, true, true, true, true, true, true, true, true, true, true, true, true, true, true, false] rfl rfl (any_of HT_.out (by kernel_rfl)) (fun _ _ _ h => h) (Or.inr ⟨by rfl, rfl⟩) ?_ ?_
                 rotate_left
                 ·simp only [Act.put, List.setIfInBounds_toArray, List.set_cons_zero, List.set_cons_succ, i64_w, i32_w]
                  rfl
                 refine pu 16 70 ?_
                 refine done_ (done_of HT_.out (by kernel_rfl)) ?_
                 (try clear hHeld)
                 (try clear HS0_)
                 (try clear HS1_)
                 try go_wp2
                 go_roundg k4
                 case measure => have := HJ2.out; have := HK2.out; have := HK3.out; have := HK4.out; omega
                 case rel => exact ⟨(wrap64 (x51_4 + 1)), (by first | rfl | (simp; done) | (simp [*]; done)), H', ⟨by have := HJ2.out; have := HK2.out; have := HK3.out; have := HK4.out; omega⟩, ⟨rR HO_5.out⟩, ⟨bl HB.out⟩⟩
               ·rw [if_neg c23] at H
                exact absurd H (by simp)
              ·rw [if_neg c22] at H
               have c22b0 : decide (x51_4 < (l0.length : Int)) = false := decide_eq_false c22
               clear c22
               have H' := Aside0.mk H
               clear H
               go_wp2
               go_roundg k4
               case measure => have := HJ2.out; have := HK2.out; have := HK3.out; have := HK4.out; omega
               case rel => exact ⟨(wrap64 (x44_3 + 1)), (by first | rfl | (simp; done) | (simp [*]; done)), H', ⟨by have := HJ2.out; have := HK2.out; have := HK3.out; have := HK4.out; omega⟩, ⟨rR HO_5.out⟩, ⟨bl HB.out⟩⟩
           ·rw [if_neg c21] at H
            exact absurd H (by simp)
          ·rw [if_neg c20] at H
           exact absurd H (by simp)
         ·rw [if_neg c19] at H
          have c19b0 : decide (x44_3 < (l0.length : Int)) = false := decide_eq_false c19
          clear c19
          obtain rfl := Option.some.inj H
          go_wp2
          go_ret
          exact ⟨by first | rfl | (simp [errW_none, errW_some] <;> rfl) | (simp [*, errW_none, errW_some] <;> rfl), bl HB.out⟩

end Go.Proofs.Ytfhniahijnkgpaa.PFnFallOk
