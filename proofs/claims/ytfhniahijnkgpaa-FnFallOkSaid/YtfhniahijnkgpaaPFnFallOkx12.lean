-- Written by this session's own program (xprint.py: the kit's printer with changes): not a printed text
import Derived.Test.YtfhniahijnkgpaaPFnFallOkx0
import Derived.Test.YtfhniahijnkgpaaPFnFallOkx2
import Derived.Test.YtfhniahijnkgpaaPFnFallOkx11
namespace Go.Proofs.Ytfhniahijnkgpaa.PFnFallOk
open Go.RowKit Go.Proofs.YtfhniahijnkgpaaW.PrintWords Go.Proofs.YtfhniahijnkgpaaW.PrintLast Go.Proofs.YtfhniahijnkgpaaW.PrintMore
attribute [local go_sem] max2_int min2_int max_two min_two max_three min_three max_four min_four   -- for this text's walks alone
set_option linter.unusedVariables false
set_option linter.unusedSimpArgs false

/-! ### spec_l20Rel: function 41 -/
mutual
def spec_l20Rel.l0 : Nat → Int → Int → List Int → Bool → Int → List Int → Int → Option (List Int × Int)
 | 0, _, _, _, _, _, _, _ => none
 | k + 1, x2, x7, x8, x9, x10, x1000, x1001 => if x10 > 0 then ((spec_l20Rd_pick.f k x1000 x1001 x7).bind fun bt308 => ((spec_l20Rd_pick.f k x1000 bt308.2 x7).bind fun bt310 => (if x9 = true then (spec_l20Rel.j1 k x2 x7 x8 x9 x10 bt308.1 bt310.1 (decide (bt308.1 ≤ bt310.1)) x1000 bt310.2) else (spec_l20Rel.j1 k x2 x7 x8 x9 x10 bt308.1 bt310.1 false x1000 bt310.2)))) else ((spec_l20Rd_odd.f k x1000 x1001 x2).bind fun bt316 => (if bt316.1 = true then ((spec_l20Rd_pick.f k x1000 bt316.2 3).bind fun bt318 => (if bt318.1 = 0 then (some ((([] : List Int)), bt318.2)) else (if bt318.1 = 1 then (if 13 ≤ 35184372088832 then (some ((List.replicate 13 0), bt318.2)) else (none)) else (if 0 ≤ x7 then ((some (([(-1), shl .i64 1 x7] : List Int) : List Int)).bind fun y326 => ((spec_l20Rd_pick.f k x1000 bt318.2 2).bind fun bt329 => (if 0 ≤ bt329.1 then (if bt329.1 < (y326.length : Int) then (if 0 < (x8.length : Int) then (some ((x8.set (0 : Int).toNat (rd y326 bt329.1)), bt329.2)) else (none)) else (none)) else (none)))) else (none))))) else (some (x8, bt316.2))))
def spec_l20Rel.j1 : Nat → Int → Int → List Int → Bool → Int → Int → Int → Bool → List Int → Int → Option (List Int × Int)
 | 0, _, _, _, _, _, _, _, _, _, _ => none
 | k + 1, x2, x7, x8, x9, x10, x11, x12, x42, x1000, x1001 => if x42 = true then (spec_l20Rel.l0 k x2 x7 x8 x9 (wrap64 (x10 - 1)) x1000 x1001) else (if 0 ≤ x11 then (if x11 < (x8.length : Int) then ((spec_l7Bit.f (rd x8 x11) x12).bind fun t313 => (if t313 = 0 then (if 0 ≤ x12 then (spec_l20Rel.l0 k x2 x7 (x8.set (x11 : Int).toNat (wrap64 ((rd x8 x11) + (shl .i64 1 x12)))) x9 (wrap64 (x10 - 1)) x1000 x1001) else (none)) else (spec_l20Rel.l0 k x2 x7 x8 x9 (wrap64 (x10 - 1)) x1000 x1001))) else (none)) else (none))
end
def spec_l20Rel.f (k : Nat) (s0_0 : List Int) (s0_1 : Int) (a1 : Int) (a2 : Int) : Option (List Int × Int) := (spec_l20Rd_pick.f k s0_0 s0_1 a1).bind fun bt299 => (if 0 ≤ (wrap64 (1 + bt299.1)) then (if (wrap64 (1 + bt299.1) : Int).toNat ≤ 35184372088832 then ((spec_l20Rd_pick.f k s0_0 bt299.2 3).bind fun bt304 => ((spec_l20Rd_pick.f k s0_0 bt304.2 (wrap64 ((wrap64 (2 * (wrap64 (1 + bt299.1)))) + 1))).bind fun bt306 => (spec_l20Rel.l0 k a2 (wrap64 (1 + bt299.1)) (List.replicate (wrap64 (1 + bt299.1) : Int).toNat 0) (decide (bt304.1 > 0)) bt306.1 s0_0 bt306.2))) else (none)) else (none))
theorem spec_l20Rel.mono_l : ∀ k, (∀ y0 y1 y2 y3 y4 y5 y6, LeO (spec_l20Rel.l0 k y0 y1 y2 y3 y4 y5 y6) (spec_l20Rel.l0 (k + 1) y0 y1 y2 y3 y4 y5 y6)) ∧ (∀ y0 y1 y2 y3 y4 y5 y6 y7 y8 y9, LeO (spec_l20Rel.j1 k y0 y1 y2 y3 y4 y5 y6 y7 y8 y9) (spec_l20Rel.j1 (k + 1) y0 y1 y2 y3 y4 y5 y6 y7 y8 y9))
 | 0 => ⟨fun _ _ _ _ _ _ _ r h => by simp [spec_l20Rel.l0] at h, fun _ _ _ _ _ _ _ _ _ _ r h => by simp [spec_l20Rel.j1] at h⟩
 | k + 1 => by
  obtain ⟨ih0, ih1⟩ := spec_l20Rel.mono_l k
  refine ⟨?_, ?_⟩
  ·intro y0 y1 y2 y3 y4 y5 y6
   unfold spec_l20Rel.l0
   repeat' first
   | (with_reducible exact ih0 _ _ _ _ _ _ _)
   | (with_reducible exact ih1 _ _ _ _ _ _ _ _ _ _)
   | (with_reducible exact spec_l20Rd_odd.mono _ _ _ _)
   | (with_reducible exact spec_l20Rd_pick.mono _ _ _ _)
   | (with_reducible exact LeO.refl _)
   | (with_reducible exact LeO.none _)
   | (with_reducible refine LeO.ite ?_ ?_)
   | (with_reducible refine LeO.bind ?_ (fun _ => ?_))
   | exact ih0 _ _ _ _ _ _ _
   | exact ih1 _ _ _ _ _ _ _ _ _ _
   | exact spec_l20Rd_odd.mono _ _ _ _
   | exact spec_l20Rd_pick.mono _ _ _ _
   | exact LeO.none _
   | refine LeO.ite ?_ ?_
   | refine LeO.bind ?_ (fun _ => ?_)
  ·intro y0 y1 y2 y3 y4 y5 y6 y7 y8 y9
   unfold spec_l20Rel.j1
   repeat' first
   | (with_reducible exact ih0 _ _ _ _ _ _ _)
   | (with_reducible exact ih1 _ _ _ _ _ _ _ _ _ _)
   | (with_reducible exact spec_l20Rd_odd.mono _ _ _ _)
   | (with_reducible exact spec_l20Rd_pick.mono _ _ _ _)
   | (with_reducible exact LeO.refl _)
   | (with_reducible exact LeO.none _)
   | (with_reducible refine LeO.ite ?_ ?_)
   | (with_reducible refine LeO.bind ?_ (fun _ => ?_))
   | exact ih0 _ _ _ _ _ _ _
   | exact ih1 _ _ _ _ _ _ _ _ _ _
   | exact spec_l20Rd_odd.mono _ _ _ _
   | exact spec_l20Rd_pick.mono _ _ _ _
   | exact LeO.none _
   | refine LeO.ite ?_ ?_
   | refine LeO.bind ?_ (fun _ => ?_)
theorem spec_l20Rel.mono : ∀ a0 a1 a2 a3 k, LeO (spec_l20Rel.f k a0 a1 a2 a3) (spec_l20Rel.f (k + 1) a0 a1 a2 a3) := by
 intro a0 a1 a2 a3 k
 obtain ⟨ih0, ih1⟩ := spec_l20Rel.mono_l k
 unfold spec_l20Rel.f
 repeat' first
   | (with_reducible exact ih0 _ _ _ _ _ _ _)
   | (with_reducible exact ih1 _ _ _ _ _ _ _ _ _ _)
   | (with_reducible exact spec_l20Rd_odd.mono _ _ _ _)
   | (with_reducible exact spec_l20Rd_pick.mono _ _ _ _)
   | (with_reducible exact LeO.refl _)
   | (with_reducible exact LeO.none _)
   | (with_reducible refine LeO.ite ?_ ?_)
   | (with_reducible refine LeO.bind ?_ (fun _ => ?_))
   | exact ih0 _ _ _ _ _ _ _
   | exact ih1 _ _ _ _ _ _ _ _ _ _
   | exact spec_l20Rd_odd.mono _ _ _ _
   | exact spec_l20Rd_pick.mono _ _ _ _
   | exact LeO.none _
   | refine LeO.ite ?_ ?_
   | refine LeO.bind ?_ (fun _ => ?_)
def spec_l20Rel.T11 : Bool × List (List Nat × List Nat) := (true, [([], []), ([], []), ([], []), ([], []), ([2, 3], [2, 3]), ([4], [4]), ([], []), ([6], [6]), ([5, 7], [5, 7]), ([0, 1, 0, 1, 2, 3, 4, 5, 6, 7, 8], [0, 1]), ([9, 8, 0, 1, 2, 3, 4, 5, 6, 7, 8], [8, 9])])
def spec_l20Rel.B11 : List Nat := [0, 0, 0, 0, 12, 28, 0, 64, 252, 511, 1023]
theorem spec_l20Rel.tab11 : rtab .any (opsOf Try.f41 11) = spec_l20Rel.T11 := by kernel_rfl
theorem spec_l20Rel.bits11 : waitsOk spec_l20Rel.T11.2 spec_l20Rel.B11 = true := by kernel_rfl
def spec_l20Rel.T14 : Bool × List (List Nat × List Nat) := (true, [([], []), ([], []), ([1], [1]), ([2], [2]), ([], []), ([4], [4]), ([3, 5], [3, 5]), ([6], [6]), ([0, 0, 1, 2, 3, 4, 5, 6, 7], [0]), ([8, 7, 5, 0, 1, 2, 3, 4, 5, 6, 7], [7, 8])])
def spec_l20Rel.B14 : List Nat := [0, 0, 2, 6, 0, 16, 62, 126, 255, 511]
theorem spec_l20Rel.tab14 : rtab .any (opsOf Try.f41 14) = spec_l20Rel.T14 := by kernel_rfl
theorem spec_l20Rel.bits14 : waitsOk spec_l20Rel.T14.2 spec_l20Rel.B14 = true := by kernel_rfl
set_option maxHeartbeats 8000000 in
set_option maxRecDepth 100000 in
theorem spec_l20Rel.calls (k : Nat) (g : Nat) (s0_0 : List Int) (s0_1 : Int) (a1 : Int) (a2 : Int) (r1 : List Int) (r2 : Int) (w0 w : World) (hI : IsS64 w0 w g s0_0 s0_1) (hB : Below w0.heap.size w0 w) (h : spec_l20Rel.f k s0_0 s0_1 a1 a2 = some (r1, r2)) :
  Calls Try.prog 41 #[.pointer (some ⟨g, 0, none⟩), .int .i64 a1, .int .i64 a2] w fun e w' => ∃ v0_ : Value, e = .returned (v0_) ∧ Kd.R (Kd.int .i64) 3 w' w.heap.size (fun _ => True) v0_ r1 ∧ IsS64 w0 w' g s0_0 r2 ∧ Below w0.heap.size w0 w' ∧ KeepBut w w' g none := by
 have HI0 := Aside0.mk hI
 have HK := Aside0.mk (KeepBut.refl w g none)
 have HL := Aside0.mk hB.size
 clear hI
 have HW0 := Aside0.mk hB.size
 have HB := Aside0.mk hB
 clear hB
 have H : ((spec_l20Rd_pick.f k s0_0 s0_1 a1).bind fun bt299 => (if 0 ≤ (wrap64 (1 + bt299.1)) then (if (wrap64 (1 + bt299.1) : Int).toNat ≤ 35184372088832 then ((spec_l20Rd_pick.f k s0_0 bt299.2 3).bind fun bt304 => ((spec_l20Rd_pick.f k s0_0 bt304.2 (wrap64 ((wrap64 (2 * (wrap64 (1 + bt299.1)))) + 1))).bind fun bt306 => (spec_l20Rel.l0 k a2 (wrap64 (1 + bt299.1)) (List.replicate (wrap64 (1 + bt299.1) : Int).toNat 0) (decide (bt304.1 > 0)) bt306.1 s0_0 bt306.2))) else (none)) else (none))) = some (r1, r2) := h
 clear h
 replace H := Option.bind_eq_some_iff.mp H
 obtain ⟨⟨t299, t300⟩, A40, H⟩ := H
 replace H : (if 0 ≤ (wrap64 (1 + t299)) then (if (wrap64 (1 + t299) : Int).toNat ≤ 35184372088832 then ((spec_l20Rd_pick.f k s0_0 t300 3).bind fun bt304 => ((spec_l20Rd_pick.f k s0_0 bt304.2 (wrap64 ((wrap64 (2 * (wrap64 (1 + t299)))) + 1))).bind fun bt306 => (spec_l20Rel.l0 k a2 (wrap64 (1 + t299)) (List.replicate (wrap64 (1 + t299) : Int).toNat 0) (decide (bt304.1 > 0)) bt306.1 s0_0 bt306.2))) else (none)) else (none)) = some (r1, r2) := H
 have A4 := Aside0.mk A40
 clear A40
 obtain ⟨ji5, hji5⟩ : ∃ j_ : Int, (wrap64 (1 + t299)) = j_ := ⟨_, rfl⟩
 replace H : (if 0 ≤ (ji5) then (if (ji5 : Int).toNat ≤ 35184372088832 then ((spec_l20Rd_pick.f k s0_0 t300 3).bind fun bt304 => ((spec_l20Rd_pick.f k s0_0 bt304.2 (wrap64 ((wrap64 (2 * (ji5))) + 1))).bind fun bt306 => (spec_l20Rel.l0 k a2 ji5 (List.replicate (ji5 : Int).toNat 0) (decide (bt304.1 > 0)) bt306.1 s0_0 bt306.2))) else (none)) else (none)) = some (r1, r2) := by first | (rw [hji5] at H; exact H) | (simp only [hji5] at H ⊢; exact H)
 (try rw [hji5] at A4)
 have hji5w : (IntKind.i64.wrap (1 + t299)) = ji5 := (i64_w _).trans hji5
 by_cases c6 : 0 ≤ (ji5)
 ·rw [if_pos c6] at H
  have c6b0 := eq_true c6
  have c6b1 : decide (0 ≤ (ji5)) = true := decide_eq_true c6
  clear c6
  by_cases c7 : (ji5 : Int).toNat ≤ 35184372088832
  ·rw [if_pos c7] at H
   have c7b0 := eq_true c7
   have c7b1 : decide ((ji5 : Int).toNat ≤ 35184372088832) = true := decide_eq_true c7
   clear c7
   obtain ⟨y301, hy301⟩ : ∃ y_ : List Int, y_ = (List.replicate (ji5 : Int).toNat 0) := ⟨_, rfl⟩
   replace H : ((spec_l20Rd_pick.f k s0_0 t300 3).bind fun bt304 => ((spec_l20Rd_pick.f k s0_0 bt304.2 (wrap64 ((wrap64 (2 * (ji5))) + 1))).bind fun bt306 => (spec_l20Rel.l0 k a2 ji5 y301 (decide (bt304.1 > 0)) bt306.1 s0_0 bt306.2))) = some (r1, r2) := by first | (rw [hy301]; with_reducible exact H) | (have H2_ := (Option.bind_some _ _).symm.trans H; rw [hy301]; with_reducible exact H2_) | (have H2_ := (Option.bind_some _ _).symm.trans H; with_reducible exact H2_) | with_reducible exact H | (rw [hy301]; exact H) | exact H
   have Ny301 := Aside0.mk hy301
   clear hy301
   replace H := Option.bind_eq_some_iff.mp H
   obtain ⟨⟨t304, t305⟩, A80, H⟩ := H
   replace H : ((spec_l20Rd_pick.f k s0_0 t305 (wrap64 ((wrap64 (2 * (ji5))) + 1))).bind fun bt306 => (spec_l20Rel.l0 k a2 ji5 y301 (decide (t304 > 0)) bt306.1 s0_0 bt306.2)) = some (r1, r2) := H
   obtain ⟨bd, hbd⟩ : ∃ b_ : Bool, decide (t304 > 0) = b_ := ⟨_, rfl⟩
   rw [hbd] at H
   have hbd0 : decide (0 < t304) = bd := hbd
   have A8 := Aside0.mk A80
   clear A80
   replace H := Option.bind_eq_some_iff.mp H
   obtain ⟨⟨t306, t307⟩, A90, H⟩ := H
   replace H : (spec_l20Rel.l0 k a2 ji5 y301 bd t306 s0_0 t307) = some (r1, r2) := H
   have A9 := Aside0.mk A90
   clear A90
   have H' := Aside0.mk H
   clear H
   go_enter Try.func41, Try.ntmps41
   go_wp2_with (first | ((with_reducible refine gate_callee (f := 49) rfl ?_); refine goesL_ (some 15) rfl rfl Try.func49 (by kernel_rfl) rfl #[.pointer (some ⟨g, 0, none⟩), .int .i64 a1] rfl ls ?_; (with_reducible refine (spec_l20Rd_pick.calls k g s0_0 s0_1 a1 t299 t300 w0 _ ?side1 ?side2 A4.out).mono ?_); (case side1 => exact is64 HI0.out); (case side2 => exact bi64 HB.out HI0.out); rintro e w10 ⟨rfl, hi, hb, hk⟩; refine ⟨_, rfl, ?_⟩; replace HK := Aside0.mk (KeepBut.trans (kb HK.out) hk (.inl rfl)); replace HB := Aside0.mk (hb); replace HI0 := Aside0.mk (hi); (try clear hb); (try clear hb2); (try clear hk); (try clear hi)) | ((with_reducible refine gate_dst (N := 18) rfl ?_); refine Kd.R_make (Kd.int .i64) _ 3 rfl (N := 18) rfl 23 _ _ rfl ji5 rfl rfl Try.underlying23 (.int .i64 0) 8 info3 rfl (by decide) (by omega) 0 (ok := fun _ => True) (okp := fun _ => True) rfl (fun _ hk => hk) trivial (of_decide_eq_true (by first | (with_reducible assumption) | assumption)) (Nat.le_trans (Nat.mul_le_mul_right _ (of_decide_eq_true (by first | (with_reducible assumption) | assumption) : ji5.toNat ≤ 35184372088832)) (by omega)) (Below.refl _ _) (Nat.le_refl _) ?_; intro v302 w11 ho12 hb hg_ hnew_; clear hg_ hnew_; (first | rw [← Ny301.out] at ho12 | (simp only [Int.reduceToNat] at ho12; rw [← Ny301.out] at ho12)); have HO303 := Aside0.mk (Kd.R_lower ho12 (keep_size (w := w) (g := g) (row := none) (kb HK.out))); have n1_ := Aside0.mk (IsS64.below (is64 HI0.out) hb); replace HK := Aside0.mk (KeepBut.trans (kb HK.out) (KeepBut.of_below hb g none) (.inl rfl)); replace HB := Aside0.mk (below_step (bi64 HB.out HI0.out) hb); replace HI0 := n1_; clear n1_; clear hb ho12) | ((with_reducible refine gate_callee (f := 49) rfl ?_); refine goesL_ (some 20) rfl rfl Try.func49 (by kernel_rfl) rfl #[.pointer (some ⟨g, 0, none⟩), .int .i64 3] rfl ls ?_; (with_reducible refine (spec_l20Rd_pick.calls k g s0_0 t300 3 t304 t305 w0 _ ?side1 ?side2 A8.out).mono ?_); (case side1 => exact is64 HI0.out); (case side2 => exact bi64 HB.out HI0.out); rintro e w13 ⟨rfl, hi, hb, hk⟩; refine ⟨_, rfl, ?_⟩; replace HO303 := Aside0.mk (Kd.R_mono (Kd.R_keep (IsS64.apart (show IsS64 w0 _ g s0_0 t300 from is64 HI0.out) (rR HO303.out) (by decide)) hk (fun _ h => h.2)) (fun _ h => h.1)); replace HK := Aside0.mk (KeepBut.trans (kb HK.out) hk (.inl rfl)); replace HB := Aside0.mk (hb); replace HI0 := Aside0.mk (hi); (try clear hb); (try clear hb2); (try clear hk); (try clear hi)) | ((with_reducible refine gate_callee (f := 49) rfl ?_); refine goesL_ (some 26) rfl rfl Try.func49 (by kernel_rfl) rfl #[.pointer (some ⟨g, 0, none⟩), .int .i64 (wrap64 ((wrap64 (2 * (ji5))) + 1))] rfl (by (try simp only [List.map_toArray, List.map_cons, List.map_nil]); first | done | (simp only [hji5]; rfl) | rfl | (simp only [List.length_drop, List.length_take]; rfl)) ?_; (with_reducible refine (spec_l20Rd_pick.calls k g s0_0 t305 (wrap64 ((wrap64 (2 * (ji5))) + 1)) t306 t307 w0 _ ?side1 ?side2 A9.out).mono ?_); (case side1 => exact is64 HI0.out); (case side2 => exact bi64 HB.out HI0.out); rintro e w14 ⟨rfl, hi, hb, hk⟩; refine ⟨_, rfl, ?_⟩; replace HO303 := Aside0.mk (Kd.R_mono (Kd.R_keep (IsS64.apart (show IsS64 w0 _ g s0_0 t305 from is64 HI0.out) (rR HO303.out) (by decide)) hk (fun _ h => h.2)) (fun _ h => h.1)); replace HK := Aside0.mk (KeepBut.trans (kb HK.out) hk (.inl rfl)); replace HB := Aside0.mk (hb); replace HI0 := Aside0.mk (hi); (try clear hb); (try clear hb2); (try clear hk); (try clear hi)))
   go_loopg [10] k (fun kq v10 w' => ∃ (x8_1 : List Int) (x10_1 : Int) (x1001_1 : Int), v10 = .int .i64 x10_1 ∧ Aside0 (spec_l20Rel.l0 kq a2 ji5 x8_1 bd x10_1 s0_0 x1001_1 = some (r1, r2)) ∧ Aside0 (kq ≤ k) ∧ Aside0 (Kd.R (Kd.int .i64) 3 w' w.heap.size (fun _ => True) v302 x8_1) ∧ Aside0 (IsS64 w0 w' g s0_0 x1001_1) ∧ Aside0 (KeepBut w w' g none) ∧ Aside0 (Below w0.heap.size w0 w'))
   case atStart => exact ⟨(y301), (t306), (t307), (by first | rfl | (simp; done) | (simp [*]; done)), H', ⟨Nat.le_refl _⟩, ⟨rR HO303.out⟩, ⟨is64 HI0.out⟩, ⟨kb HK.out⟩, ⟨bi64 HB.out HI0.out⟩⟩
   case round =>
    clear H'
    try clear p2
    try clear c4
    try clear c6
    try clear c6b0
    try clear c6b1
    try clear p6
    try clear c7
    try clear c7b0
    try clear c7b1
    obtain ⟨x8_1, x10_1, x1001_1, rfl, HA, HK1, HO_8, HI0, HK, HB⟩ := hrel
    cases gk with
    | zero => exact absurd HA.out (by simp [spec_l20Rel.l0])
    | succ k1 =>
     have H := HA.out
     clear HA
     simp only [spec_l20Rel.l0] at H
     by_cases c15 : x10_1 > 0
     ·rw [if_pos c15] at H
      have c15b0 : decide (0 < x10_1) = true := decide_eq_true c15
      clear c15
      replace H := Option.bind_eq_some_iff.mp H
      obtain ⟨⟨t308, t309⟩, A160, H⟩ := H
      replace H : ((spec_l20Rd_pick.f k1 s0_0 t309 ji5).bind fun bt310 => (if bd = true then (spec_l20Rel.j1 k1 a2 ji5 x8_1 bd x10_1 t308 bt310.1 (decide (t308 ≤ bt310.1)) s0_0 bt310.2) else (spec_l20Rel.j1 k1 a2 ji5 x8_1 bd x10_1 t308 bt310.1 false s0_0 bt310.2))) = some (r1, r2) := H
      have A16 := Aside0.mk A160
      clear A160
      replace H := Option.bind_eq_some_iff.mp H
      obtain ⟨⟨t310, t311⟩, A170, H⟩ := H
      replace H : (if bd = true then (spec_l20Rel.j1 k1 a2 ji5 x8_1 bd x10_1 t308 t310 (decide (t308 ≤ t310)) s0_0 t311) else (spec_l20Rel.j1 k1 a2 ji5 x8_1 bd x10_1 t308 t310 false s0_0 t311)) = some (r1, r2) := H
      have A17 := Aside0.mk A170
      clear A170
      have HC18 := Aside0.mk H
      clear H
      go_upto_region 9 with (first | ((with_reducible refine gate_callee (f := 49) rfl ?_); refine goesL_ (some 33) rfl rfl Try.func49 (by kernel_rfl) rfl #[.pointer (some ⟨g, 0, none⟩), .int .i64 ji5] rfl (by (try simp only [List.map_toArray, List.map_cons, List.map_nil]); first | done | (simp only [hji5]; rfl) | rfl | (simp only [List.length_drop, List.length_take]; rfl)) ?_; (with_reducible refine (spec_l20Rd_pick.calls k1 g s0_0 x1001_1 ji5 t308 t309 w0 _ ?side1 ?side2 A16.out).mono ?_); (case side1 => exact is64 HI0.out); (case side2 => exact bi64 HB.out HI0.out); rintro e w19 ⟨rfl, hi, hb, hk⟩; refine ⟨_, rfl, ?_⟩; replace HO_8 := Aside0.mk (Kd.R_mono (Kd.R_keep (IsS64.apart (show IsS64 w0 _ g s0_0 x1001_1 from is64 HI0.out) (rR HO_8.out) (by decide)) hk (fun _ h => h.2)) (fun _ h => h.1)); replace HK := Aside0.mk (KeepBut.trans (kb HK.out) hk (.inl rfl)); replace HB := Aside0.mk (hb); replace HI0 := Aside0.mk (hi); (try clear hb); (try clear hb2); (try clear hk); (try clear hi)) | ((with_reducible refine gate_callee (f := 49) rfl ?_); refine goesL_ (some 36) rfl rfl Try.func49 (by kernel_rfl) rfl #[.pointer (some ⟨g, 0, none⟩), .int .i64 ji5] rfl (by (try simp only [List.map_toArray, List.map_cons, List.map_nil]); first | done | (simp only [hji5]; rfl) | rfl | (simp only [List.length_drop, List.length_take]; rfl)) ?_; (with_reducible refine (spec_l20Rd_pick.calls k1 g s0_0 t309 ji5 t310 t311 w0 _ ?side1 ?side2 A17.out).mono ?_); (case side1 => exact is64 HI0.out); (case side2 => exact bi64 HB.out HI0.out); rintro e w20 ⟨rfl, hi, hb, hk⟩; refine ⟨_, rfl, ?_⟩; replace HO_8 := Aside0.mk (Kd.R_mono (Kd.R_keep (IsS64.apart (show IsS64 w0 _ g s0_0 t309 from is64 HI0.out) (rR HO_8.out) (by decide)) hk (fun _ h => h.2)) (fun _ h => h.1)); replace HK := Aside0.mk (KeepBut.trans (kb HK.out) hk (.inl rfl)); replace HB := Aside0.mk (hb); replace HI0 := Aside0.mk (hi); (try clear hb); (try clear hb2); (try clear hk); (try clear hi)))
      (try simp only [Act.put, List.setIfInBounds_toArray, List.set_cons_zero, List.set_cons_succ])
      go_cut [42] (fun v42 wc => ∃ (kq : Nat) (x42_17 : Bool), v42 = .bool x42_17 ∧ Aside0 (spec_l20Rel.j1 kq a2 ji5 x8_1 bd x10_1 t308 t310 x42_17 s0_0 t311 = some (r1, r2)) ∧ Aside0 (kq ≤ k1) ∧ Aside0 (Kd.R (Kd.int .i64) 3 wc w.heap.size (fun _ => True) v302 x8_1) ∧ Aside0 (IsS64 w0 wc g s0_0 t311) ∧ Aside0 (KeepBut w wc g none) ∧ Aside0 (Below w0.heap.size w0 wc))
      case first =>
       have H := HC18.out
       clear HC18
       by_cases c21 : bd = true
       ·rw [if_pos c21] at H
        subst c21
        (first | rw [c21b0] | (simp only [i64_w, i32_w]; rw [c21b0]) | skip)
        have H' := Aside0.mk H
        clear H
        go_wp2
        go_meet
        case rel => exact ⟨_, (decide (t308 ≤ t310)), (by first | rfl | (simp; done) | (simp [*]; done)), H', ⟨by have := HK1.out; first | omega | exact Nat.le_refl _⟩, ⟨rR HO_8.out⟩, ⟨is64 HI0.out⟩, ⟨kb HK.out⟩, ⟨bi64 HB.out HI0.out⟩⟩
       ·rw [if_neg c21] at H
        replace c21 := Bool.eq_false_iff.mpr c21; subst c21
        (first | rw [c21b0] | (simp only [i64_w, i32_w]; rw [c21b0]) | skip)
        have H' := Aside0.mk H
        clear H
        go_wp2
        go_meet
        case rel => exact ⟨_, (false), (by first | rfl | (simp; done) | (simp [*]; done)), H', ⟨by have := HK1.out; first | omega | exact Nat.le_refl _⟩, ⟨rR HO_8.out⟩, ⟨is64 HI0.out⟩, ⟨kb HK.out⟩, ⟨bi64 HB.out HI0.out⟩⟩
      case rest =>
       clear HC18
       try clear c1
       try clear c2
       try clear p2
       try clear c4
       try clear c6
       try clear c6b0
       try clear c6b1
       try clear p6
       try clear c7
       try clear c7b0
       try clear c7b1
       try clear c15
       try clear c15b0
       try clear c21
       try clear c21b0
       try clear p2
       try clear p6
       obtain ⟨kq, x42_17, rfl, HA, HJ17, HO_8, HI0, HK, HB⟩ := hcut
       cases kq with
       | zero => exact absurd HA.out (by simp [spec_l20Rel.j1])
       | succ kj17 =>
        have H := HA.out
        clear HA
        simp only [spec_l20Rel.j1] at H
        by_cases c22 : x42_17 = true
        ·subst c22
         have H1 : (spec_l20Rel.l0 kj17 a2 ji5 x8_1 bd (wrap64 (x10_1 - 1)) s0_0 t311) = some (r1, r2) := by rw [if_pos rfl] at H; exact H
         clear H
         have H := H1
         clear H1
         have H' := Aside0.mk H
         clear H
         go_wp2
         go_roundg kj17
         case measure => have := HK1.out; have := HJ17.out; omega
         case rel => exact ⟨(x8_1), (wrap64 (x10_1 - 1)), (t311), (by first | rfl | (simp; done) | (simp [*]; done)), H', ⟨by have := HK1.out; have := HJ17.out; omega⟩, ⟨rR HO_8.out⟩, ⟨is64 HI0.out⟩, ⟨kb HK.out⟩, ⟨bi64 HB.out HI0.out⟩⟩
        ·replace c22 := Bool.eq_false_iff.mpr c22
         subst c22
         have H1 : (if 0 ≤ t308 then (if t308 < (x8_1.length : Int) then ((spec_l7Bit.f (rd x8_1 t308) t310).bind fun t313 => (if t313 = 0 then (if 0 ≤ t310 then (spec_l20Rel.l0 kj17 a2 ji5 (x8_1.set (t308 : Int).toNat (wrap64 ((rd x8_1 t308) + (shl .i64 1 t310)))) bd (wrap64 (x10_1 - 1)) s0_0 t311) else (none)) else (spec_l20Rel.l0 kj17 a2 ji5 x8_1 bd (wrap64 (x10_1 - 1)) s0_0 t311))) else (none)) else (none)) = some (r1, r2) := by rw [if_neg (show ¬ (false = true) by decide)] at H; exact H
         clear H
         have H := H1
         clear H1
         by_cases c23 : 0 ≤ t308
         ·rw [if_pos c23] at H
          have c23b0 : decide (0 ≤ t308) = true := decide_eq_true c23
          clear c23
          by_cases c24 : t308 < (x8_1.length : Int)
          ·rw [if_pos c24] at H
           have c24b0 : decide (t308 < (x8_1.length : Int)) = true := decide_eq_true c24
           clear c24
           replace H := Option.bind_eq_some_iff.mp H
           obtain ⟨t313, A250, H⟩ := H
           replace H : (if t313 = 0 then (if 0 ≤ t310 then (spec_l20Rel.l0 kj17 a2 ji5 (x8_1.set (t308 : Int).toNat (wrap64 ((rd x8_1 t308) + (shl .i64 1 t310)))) bd (wrap64 (x10_1 - 1)) s0_0 t311) else (none)) else (spec_l20Rel.l0 kj17 a2 ji5 x8_1 bd (wrap64 (x10_1 - 1)) s0_0 t311)) = some (r1, r2) := H
           have A25 := Aside0.mk A250
           clear A250
           by_cases c26 : t313 = 0
           ·rw [if_pos c26] at H
            have c26b0 : (t313 == 0) = true := beq_iff_eq.mpr c26
            have c26b1 : (t313 != 0) = false := bne_eq_false_iff_eq.mpr c26
            clear c26
            by_cases c27 : 0 ≤ t310
            ·rw [if_pos c27] at H
             have c27b0 := eq_true c27
             have c27b1 : decide (0 ≤ t310) = true := decide_eq_true c27
             clear c27
             obtain ⟨ji28, hji28⟩ : ∃ j_ : Int, (shl .i64 1 t310) = j_ := ⟨_, rfl⟩
             replace H : (spec_l20Rel.l0 kj17 a2 ji5 (x8_1.set (t308 : Int).toNat (wrap64 ((rd x8_1 t308) + (ji28)))) bd (wrap64 (x10_1 - 1)) s0_0 t311) = some (r1, r2) := by first | (rw [hji28] at H; exact H) | (simp only [hji28] at H ⊢; exact H)
             (try rw [hji28] at A25)
             have hji28_ : (IntKind.i64.wrap (1 * 2 ^ min t310.toNat 64)) = ji28 := hji28
             have hji28z : t310 ≤ 64 → (IntKind.i64.wrap (1 * 2 ^ t310.toNat)) = ji28 := shl_small hji28
             have hji28u : (IntKind.i64.wrap (2 ^ min t310.toNat 64)) = ji28 := by have h_ := hji28_; rw [Int.one_mul] at h_; exact h_
             have hji28v : t310 ≤ 64 → (IntKind.i64.wrap (2 ^ t310.toNat)) = ji28 := fun hle_ => by have h_ := hji28z hle_; rw [Int.one_mul] at h_; exact h_
             have hji28y : (wrap64 (1 * 2 ^ min t310.toNat 64)) = ji28 := (i64_w _).symm.trans hji28_
             have hji28x : t310 ≤ 64 → (wrap64 (1 * 2 ^ t310.toNat)) = ji28 := fun h_ => (i64_w _).symm.trans (hji28z h_)
             obtain ⟨y315, hy315⟩ : ∃ y_ : List Int, y_ = (x8_1.set (t308 : Int).toNat (wrap64 ((rd x8_1 t308) + (ji28)))) := ⟨_, rfl⟩
             replace H : (spec_l20Rel.l0 kj17 a2 ji5 y315 bd (wrap64 (x10_1 - 1)) s0_0 t311) = some (r1, r2) := by first | (rw [hy315]; with_reducible exact H) | (have H2_ := (Option.bind_some _ _).symm.trans H; rw [hy315]; with_reducible exact H2_) | (have H2_ := (Option.bind_some _ _).symm.trans H; with_reducible exact H2_) | with_reducible exact H | (rw [hy315]; exact H) | exact H
             have Ny315 := Aside0.mk hy315
             clear hy315
             have H' := Aside0.mk H
             clear H
             obtain ⟨Ao30, co30, eo30⟩ := Kd.R_slice HO_8.out
             subst eo30
             have p312 : 0 ≤ (t308 : Int) := of_decide_eq_true (by first | (with_reducible assumption) | assumption)
             have q312 : t308 < (x8_1.length : Int) := of_decide_eq_true (by first | (with_reducible assumption) | assumption)
             obtain ⟨ad312, e312, hx312_0⟩ := Kd.at_int (Kd.R_reads' HO_8.out).2.2 t308 p312 q312
             cases e312
             replace p312 := eq_true p312
             replace q312 := eq_true q312
             try go_wp2_with (first | ((with_reducible refine gate_callee (f := 43) rfl ?_); refine goesL_ (some 48) rfl rfl Try.func43 (by kernel_rfl) rfl #[.int .i64 (rd x8_1 t308), .int .i64 t310] rfl ls ?_; (with_reducible refine (spec_l7Bit.calls (rd x8_1 t308) t310 t313 _ A25.out).mono ?_); rintro e w' ⟨rfl, ⟨nd, rfl⟩⟩; refine ⟨_, rfl, ?_⟩; (try (rw [drewN_self wc]; generalize hq_ : World.drewN wc _ = wc; have n0_ : Aside0 (Kd.R (Kd.int .i64) 3 wc w.heap.size (fun _ => True) (.slice (some ad312) x8_1.length co30) x8_1) := ⟨by rw [← hq_]; exact (rR HO_8.out)⟩; have n1_ : Aside0 (IsS64 w0 wc g s0_0 t311) := ⟨by rw [← hq_]; exact (is64 HI0.out)⟩; have n2_ : Aside0 (KeepBut w wc g none) := ⟨by rw [← hq_]; exact (kb HK.out)⟩; have n3_ : Aside0 (Below w0.heap.size w0 wc) := ⟨by rw [← hq_]; exact (bi64 HB.out HI0.out)⟩; clear HO_8 HI0 HK HB hq_; have HO_8 := n0_; have HI0 := n1_; have HK := n2_; have HB := n3_; clear n0_ n1_ n2_ n3_))))
             replace HO_8 := Aside0.mk (Kd.R_drew HO_8.out)
             replace HI0 := Aside0.mk (IsS64.drew HI0.out)
             replace HK := Aside0.mk (keep_drew HK.out)
             replace HB := Aside0.mk (below_drew1 HB.out)
             have p314 : 0 ≤ (t308 : Int) := of_decide_eq_true (by first | (with_reducible assumption) | assumption)
             have q314 : t308 < (x8_1.length : Int) := of_decide_eq_true (by first | (with_reducible assumption) | assumption)
             obtain ⟨ad314, e314, hx314_0⟩ := Kd.at_int (Kd.R_reads' HO_8.out).2.2 t308 p314 q314
             obtain rfl : ad312 = ad314 := (by injection e314)
             replace p314 := eq_true p314
             replace q314 := eq_true q314
             have p29 : 0 ≤ (t308 : Int) := of_decide_eq_true (by first | (with_reducible assumption) | assumption)
             have q29 : (t308 : Int) < ((x8_1.length : Int) : Int) := of_decide_eq_true (by first | (with_reducible assumption) | assumption)
             obtain ⟨go29, co29, eo29, gb29, gl29, cl29, HG29⟩ := Kd.R_form HO_8.out (by omega)
             (first | cases eo29 | (injection eo29 with ea_ en_ ec_; (first | subst ea_ | (injection ea_ with ea_; subst ea_)); subst ec_; clear en_))
             have GB29 := Aside0.mk gb29
             have GG29 := Aside0.mk HG29
             clear gb29 gl29 HG29
             (first | simp only [add_plain] at hx312_0 | skip)
             (first | simp only [add_plain] at hx314_0 | skip)
             obtain ⟨hx29_0, hf29_0⟩ := Kd.R_celln 0 HO_8.out (t308 : Int) p29 q29
             replace p29 := eq_true p29
             replace q29 := eq_true q29
             have HN0_go29 := Aside0.mk (show g ≠ go29 from by have h_ := IsS64.own_ne HI0.out HO_8.out (by decide); intro e_; exact h_ (by rw [e_]; rfl))
             have HP32 := Kd.R_putn HO_8.out (t308 : Int) (wrap64 ((rd x8_1 t308) + (ji28)))
             rw [← Ny315.out] at HP32
             have HQ32 := Aside0.mk HP32
             clear HP32
             refine start_ (n := 11) (S := fun w' => w'.cell? ⟨go29, (t308).toNat, none⟩ = some (.int .i64 (rd x8_1 t308))) (ds := [10]) #[false, false, false, false, false, false, false, false, false, false, false] (by kernel_rfl) rfl rfl (hx314_0) (fun hHeld => ?_); refine with_tabW spec_l20Rel.tab11 spec_l20Rel.bits11 (fun HT_ HW_ => ?_)
             generalize wc.drew = w31 at HO_8 HI0 HK HB GG29 HQ32 hf29_0 hx29_0 hx312_0 hx314_0 hHeld ⊢
             refine pu 0 50 ?_
             refine pu 1 51 ?_
             refine pu 2 52 ?_
             refine pu 3 53 ?_
             refine pu 4 54 ?_
             refine pu 6 56 ?_
             refine pu 7 57 ?_
             refine take_ (i := 5) (N := some 55) (v := ?_) (a' := ?_) #[true, true, true, true, true, true, true, true, false, false, false] rfl rfl (take_ofW HT_.out HW_.out (by kernel_rfl)) (fun _ _ _ h => h) (Or.inl ⟨by rfl, ?_⟩) hHeld ?_ ?_
             rotate_left
             ·intro w' s0
              go_simp
              with_reducible rfl
             rotate_left
             ·simp only [Act.put, List.setIfInBounds_toArray, List.set_cons_zero, List.set_cons_succ, i64_w, i32_w]
              rfl
             refine pu 8 58 ?_
             refine pu 9 59 ?_
             refine last_ (i := 10) (N := none) #[true, true, true, true, true, true, true, true, true, true, true] rfl rfl (one_of HT_.out (by kernel_rfl)) (by decide) (fun K hK => ?_)
             refine skip_ (w1 := ?_) (by rfl) rfl ?_ ?_
             rotate_left
             ·go_simp
              rfl
             refine hK.out _ _ ?_
             clear hK K
             refine done_ (done_of HT_.out (by kernel_rfl)) ?_
             (try clear hHeld)
             try go_wp2
             go_roundg kj17
             case measure => have := HK1.out; have := HJ17.out; omega
             case rel => exact ⟨(y315), (wrap64 (x10_1 - 1)), (t311), (by first | rfl | (simp; done) | (simp [*]; done)), H', ⟨by have := HK1.out; have := HJ17.out; omega⟩, ⟨rR HQ32.out⟩, ⟨by repeat (first | (with_reducible first | exact HI0.out | apply IsS64.alloc | apply IsS64.drewN | apply IsS64.drew | apply IsS64.set_1 | refine IsS64.far ?_ HN0_go29.out _) | exact HI0.out)⟩, ⟨by repeat (first | (with_reducible first | exact HK.out | apply KeepBut.set_ | apply keep_drewN | apply keep_drew | apply keep_alloc | refine keep_far ?_ GB29.out _) | exact HK.out)⟩, ⟨by repeat (first | (with_reducible first | exact HB.out | apply below_alloc | apply pw_below_drewN | apply below_drew1 | refine below_set ?_ (Nat.le_trans HL.out GB29.out) | refine below_set ?_ (IsS64.ge HI0.out)) | exact HB.out)⟩⟩
            ·rw [if_neg c27] at H
             exact absurd H (by simp)
           ·rw [if_neg c26] at H
            have c26b0 : (t313 == 0) = false := beq_eq_false_iff_ne.mpr c26
            have c26b1 : (t313 != 0) = true := bne_iff_ne.mpr c26
            have H' := Aside0.mk H
            clear H
            obtain ⟨Ao33, co33, eo33⟩ := Kd.R_slice HO_8.out
            subst eo33
            have p312 : 0 ≤ (t308 : Int) := of_decide_eq_true (by first | (with_reducible assumption) | assumption)
            have q312 : t308 < (x8_1.length : Int) := of_decide_eq_true (by first | (with_reducible assumption) | assumption)
            obtain ⟨ad312, e312, hx312_0⟩ := Kd.at_int (Kd.R_reads' HO_8.out).2.2 t308 p312 q312
            cases e312
            replace p312 := eq_true p312
            replace q312 := eq_true q312
            go_wp2_with (first | ((with_reducible refine gate_callee (f := 43) rfl ?_); refine goesL_ (some 48) rfl rfl Try.func43 (by kernel_rfl) rfl #[.int .i64 (rd x8_1 t308), .int .i64 t310] rfl ls ?_; (with_reducible refine (spec_l7Bit.calls (rd x8_1 t308) t310 t313 _ A25.out).mono ?_); rintro e w' ⟨rfl, ⟨nd, rfl⟩⟩; refine ⟨_, rfl, ?_⟩))
            go_roundg kj17
            case measure => have := HK1.out; have := HJ17.out; omega
            case rel => exact ⟨(x8_1), (wrap64 (x10_1 - 1)), (t311), (by first | rfl | (simp; done) | (simp [*]; done)), H', ⟨by have := HK1.out; have := HJ17.out; omega⟩, ⟨rR HO_8.out⟩, ⟨is64 HI0.out⟩, ⟨kb HK.out⟩, ⟨bi64 HB.out HI0.out⟩⟩
          ·rw [if_neg c24] at H
           exact absurd H (by simp)
         ·rw [if_neg c23] at H
          exact absurd H (by simp)
     ·rw [if_neg c15] at H
      have c15b0 : decide (0 < x10_1) = false := decide_eq_false c15
      clear c15
      replace H := Option.bind_eq_some_iff.mp H
      obtain ⟨⟨t316, t317⟩, A340, H⟩ := H
      replace H : (if t316 = true then ((spec_l20Rd_pick.f k1 s0_0 t317 3).bind fun bt318 => (if bt318.1 = 0 then (some ((([] : List Int)), bt318.2)) else (if bt318.1 = 1 then (if 13 ≤ 35184372088832 then (some ((List.replicate 13 0), bt318.2)) else (none)) else (if 0 ≤ ji5 then ((some (([(-1), shl .i64 1 ji5] : List Int) : List Int)).bind fun y326 => ((spec_l20Rd_pick.f k1 s0_0 bt318.2 2).bind fun bt329 => (if 0 ≤ bt329.1 then (if bt329.1 < (y326.length : Int) then (if 0 < (x8_1.length : Int) then (some ((x8_1.set (0 : Int).toNat (rd y326 bt329.1)), bt329.2)) else (none)) else (none)) else (none)))) else (none))))) else (some (x8_1, t317))) = some (r1, r2) := H
      have A34 := Aside0.mk A340
      clear A340
      by_cases c35 : t316 = true
      ·subst c35
       have H1 : ((spec_l20Rd_pick.f k1 s0_0 t317 3).bind fun bt318 => (if bt318.1 = 0 then (some ((([] : List Int)), bt318.2)) else (if bt318.1 = 1 then (if 13 ≤ 35184372088832 then (some ((List.replicate 13 0), bt318.2)) else (none)) else (if 0 ≤ ji5 then ((some (([(-1), shl .i64 1 ji5] : List Int) : List Int)).bind fun y326 => ((spec_l20Rd_pick.f k1 s0_0 bt318.2 2).bind fun bt329 => (if 0 ≤ bt329.1 then (if bt329.1 < (y326.length : Int) then (if 0 < (x8_1.length : Int) then (some ((x8_1.set (0 : Int).toNat (rd y326 bt329.1)), bt329.2)) else (none)) else (none)) else (none)))) else (none))))) = some (r1, r2) := by rw [if_pos rfl] at H; exact H
       clear H
       have H := H1
       clear H1
       replace H := Option.bind_eq_some_iff.mp H
       obtain ⟨⟨t318, t319⟩, A360, H⟩ := H
       replace H : (if t318 = 0 then (some ((([] : List Int)), t319)) else (if t318 = 1 then (if 13 ≤ 35184372088832 then (some ((List.replicate 13 0), t319)) else (none)) else (if 0 ≤ ji5 then ((some (([(-1), shl .i64 1 ji5] : List Int) : List Int)).bind fun y326 => ((spec_l20Rd_pick.f k1 s0_0 t319 2).bind fun bt329 => (if 0 ≤ bt329.1 then (if bt329.1 < (y326.length : Int) then (if 0 < (x8_1.length : Int) then (some ((x8_1.set (0 : Int).toNat (rd y326 bt329.1)), bt329.2)) else (none)) else (none)) else (none)))) else (none)))) = some (r1, r2) := H
       have A36 := Aside0.mk A360
       clear A360
       by_cases c37 : t318 = 0
       ·rw [if_pos c37] at H
        have c37b0 : (t318 == 0) = true := beq_iff_eq.mpr c37
        have c37b1 : (t318 != 0) = false := bne_eq_false_iff_eq.mpr c37
        clear c37
        obtain ⟨y320, hy320⟩ : ∃ y_ : List Int, y_ = (([] : List Int)) := ⟨_, rfl⟩
        replace H : (some (y320, t319)) = some (r1, r2) := by first | (rw [hy320]; with_reducible exact H) | (have H2_ := (Option.bind_some _ _).symm.trans H; rw [hy320]; with_reducible exact H2_) | (have H2_ := (Option.bind_some _ _).symm.trans H; with_reducible exact H2_) | with_reducible exact H | (rw [hy320]; exact H) | exact H
        have Ny320 := Aside0.mk hy320
        clear hy320
        simp only [Option.some.injEq, Prod.mk.injEq] at H
        obtain ⟨rfl, rfl⟩ := H
        go_wp2_with (first | ((with_reducible refine gate_callee (f := 64) rfl ?_); refine goesL_ (some 62) rfl rfl Try.func64 (by kernel_rfl) rfl #[.pointer (some ⟨g, 0, none⟩), .int .i64 a2] rfl ls ?_; (with_reducible refine (spec_l20Rd_odd.calls k1 g s0_0 x1001_1 a2 true t317 w0 _ ?side1 ?side2 A34.out).mono ?_); (case side1 => exact is64 HI0.out); (case side2 => exact bi64 HB.out HI0.out); rintro e w38 ⟨rfl, hi, hb, hk⟩; refine ⟨_, rfl, ?_⟩; replace HO_8 := Aside0.mk (Kd.R_mono (Kd.R_keep (IsS64.apart (show IsS64 w0 _ g s0_0 x1001_1 from is64 HI0.out) (rR HO_8.out) (by decide)) hk (fun _ h => h.2)) (fun _ h => h.1)); replace HK := Aside0.mk (KeepBut.trans (kb HK.out) hk (.inl rfl)); replace HB := Aside0.mk (hb); replace HI0 := Aside0.mk (hi); (try clear hb); (try clear hb2); (try clear hk); (try clear hi)) | ((with_reducible refine gate_callee (f := 49) rfl ?_); refine goesL_ (some 64) rfl rfl Try.func49 (by kernel_rfl) rfl #[.pointer (some ⟨g, 0, none⟩), .int .i64 3] rfl ls ?_; (with_reducible refine (spec_l20Rd_pick.calls k1 g s0_0 t317 3 t318 t319 w0 _ ?side1 ?side2 A36.out).mono ?_); (case side1 => exact is64 HI0.out); (case side2 => exact bi64 HB.out HI0.out); rintro e w39 ⟨rfl, hi, hb, hk⟩; refine ⟨_, rfl, ?_⟩; replace HO_8 := Aside0.mk (Kd.R_mono (Kd.R_keep (IsS64.apart (show IsS64 w0 _ g s0_0 t317 from is64 HI0.out) (rR HO_8.out) (by decide)) hk (fun _ h => h.2)) (fun _ h => h.1)); replace HK := Aside0.mk (KeepBut.trans (kb HK.out) hk (.inl rfl)); replace HB := Aside0.mk (hb); replace HI0 := Aside0.mk (hi); (try clear hb); (try clear hb2); (try clear hk); (try clear hi)) | ((with_reducible refine gate_dst (N := 76) rfl ?_); refine Kd.R_lit (Kd.int .i64) _ 3 ?hg (N := 76) ?hd (xs := ([] : List Int)) (inner := []) (ok := fun _ => True) (okp := fun _ => True) ?hr ?hp (fun _ hk => hk) trivial (Below.refl _ _) (Nat.le_refl _) (by simp) ?_; (case hd => rfl); (case hg => rfl); (case hr => first | (go_simp; done) | (go_simp; rfl)); (case hp => exact (Reps.none _ _)); intro v321 w40 ho41 hb hg_ hnew_; clear hg_ hnew_; (first | rw [← Ny320.out] at ho41 | (simp only [Int.reduceToNat] at ho41; rw [← Ny320.out] at ho41)); have n0_ := Aside0.mk (Kd.R_elder' (rR HO_8.out) (Kd.R_base ho41) hb); have HO322 := Aside0.mk (Kd.R_lower (Kd.R_new' ho41 (Kd.R_lt (rR HO_8.out))) (keep_size (w := w) (g := g) (row := none) (kb HK.out))); have n2_ := Aside0.mk (IsS64.below (is64 HI0.out) hb); replace HK := Aside0.mk (KeepBut.trans (kb HK.out) (KeepBut.of_below hb g none) (.inl rfl)); replace HB := Aside0.mk (below_step (bi64 HB.out HI0.out) hb); replace HO_8 := n0_; replace HI0 := n2_; clear n0_ n2_; clear hb ho41))
        go_ret
        exact ⟨_, by first | rfl | (simp [errW_none, errW_some] <;> rfl) | (simp only [← hji5]; first | rfl | (simp [errW_none, errW_some] <;> rfl)) | (simp [*, errW_none, errW_some] <;> rfl), by (with_reducible repeat (first | apply Kd.R_alloc | apply Kd.R_drewN | apply Kd.R_drew)); exact Kd.R_mono HO322.out (fun _ hk => trivial), is64 HI0.out, bi64 HB.out HI0.out, kb HK.out⟩
       ·rw [if_neg c37] at H
        have c37b0 : (t318 == 0) = false := beq_eq_false_iff_ne.mpr c37
        have c37b1 : (t318 != 0) = true := bne_iff_ne.mpr c37
        by_cases c42 : t318 = 1
        ·rw [if_pos c42] at H
         have c42b0 : (t318 == 1) = true := beq_iff_eq.mpr c42
         have c42b1 : (t318 != 1) = false := bne_eq_false_iff_eq.mpr c42
         clear c42
         by_cases c43 : 13 ≤ 35184372088832
         ·rw [if_pos c43] at H
          have c43b0 := eq_true c43
          have c43b1 : decide (13 ≤ 35184372088832) = true := decide_eq_true c43
          clear c43
          obtain ⟨y323, hy323⟩ : ∃ y_ : List Int, y_ = (List.replicate 13 0) := ⟨_, rfl⟩
          replace H : (some (y323, t319)) = some (r1, r2) := by first | (rw [hy323]; with_reducible exact H) | (have H2_ := (Option.bind_some _ _).symm.trans H; rw [hy323]; with_reducible exact H2_) | (have H2_ := (Option.bind_some _ _).symm.trans H; with_reducible exact H2_) | with_reducible exact H | (rw [hy323]; exact H) | exact H
          have Ny323 := Aside0.mk hy323
          clear hy323
          simp only [Option.some.injEq, Prod.mk.injEq] at H
          obtain ⟨rfl, rfl⟩ := H
          go_wp2_with (first | ((with_reducible refine gate_callee (f := 64) rfl ?_); refine goesL_ (some 62) rfl rfl Try.func64 (by kernel_rfl) rfl #[.pointer (some ⟨g, 0, none⟩), .int .i64 a2] rfl ls ?_; (with_reducible refine (spec_l20Rd_odd.calls k1 g s0_0 x1001_1 a2 true t317 w0 _ ?side1 ?side2 A34.out).mono ?_); (case side1 => exact is64 HI0.out); (case side2 => exact bi64 HB.out HI0.out); rintro e w44 ⟨rfl, hi, hb, hk⟩; refine ⟨_, rfl, ?_⟩; replace HO_8 := Aside0.mk (Kd.R_mono (Kd.R_keep (IsS64.apart (show IsS64 w0 _ g s0_0 x1001_1 from is64 HI0.out) (rR HO_8.out) (by decide)) hk (fun _ h => h.2)) (fun _ h => h.1)); replace HK := Aside0.mk (KeepBut.trans (kb HK.out) hk (.inl rfl)); replace HB := Aside0.mk (hb); replace HI0 := Aside0.mk (hi); (try clear hb); (try clear hb2); (try clear hk); (try clear hi)) | ((with_reducible refine gate_callee (f := 49) rfl ?_); refine goesL_ (some 64) rfl rfl Try.func49 (by kernel_rfl) rfl #[.pointer (some ⟨g, 0, none⟩), .int .i64 3] rfl ls ?_; (with_reducible refine (spec_l20Rd_pick.calls k1 g s0_0 t317 3 t318 t319 w0 _ ?side1 ?side2 A36.out).mono ?_); (case side1 => exact is64 HI0.out); (case side2 => exact bi64 HB.out HI0.out); rintro e w45 ⟨rfl, hi, hb, hk⟩; refine ⟨_, rfl, ?_⟩; replace HO_8 := Aside0.mk (Kd.R_mono (Kd.R_keep (IsS64.apart (show IsS64 w0 _ g s0_0 t317 from is64 HI0.out) (rR HO_8.out) (by decide)) hk (fun _ h => h.2)) (fun _ h => h.1)); replace HK := Aside0.mk (KeepBut.trans (kb HK.out) hk (.inl rfl)); replace HB := Aside0.mk (hb); replace HI0 := Aside0.mk (hi); (try clear hb); (try clear hb2); (try clear hk); (try clear hi)) | ((with_reducible refine gate_dst (N := 79) rfl ?_); refine Kd.R_make (Kd.int .i64) _ 3 rfl (N := 79) rfl 23 _ _ rfl 13 rfl rfl Try.underlying23 (.int .i64 0) 8 info3 rfl (by decide) (by omega) 0 (ok := fun _ => True) (okp := fun _ => True) rfl (fun _ hk => hk) trivial (by omega) (by omega) (Below.refl _ _) (Nat.le_refl _) ?_; intro v324 w46 ho47 hb hg_ hnew_; clear hg_ hnew_; (first | rw [← Ny323.out] at ho47 | (simp only [Int.reduceToNat] at ho47; rw [← Ny323.out] at ho47)); have n0_ := Aside0.mk (Kd.R_elder' (rR HO_8.out) (Kd.R_base ho47) hb); have HO325 := Aside0.mk (Kd.R_lower (Kd.R_new' ho47 (Kd.R_lt (rR HO_8.out))) (keep_size (w := w) (g := g) (row := none) (kb HK.out))); have n2_ := Aside0.mk (IsS64.below (is64 HI0.out) hb); replace HK := Aside0.mk (KeepBut.trans (kb HK.out) (KeepBut.of_below hb g none) (.inl rfl)); replace HB := Aside0.mk (below_step (bi64 HB.out HI0.out) hb); replace HO_8 := n0_; replace HI0 := n2_; clear n0_ n2_; clear hb ho47))
          go_ret
          exact ⟨_, by first | rfl | (simp [errW_none, errW_some] <;> rfl) | (simp only [← hji5]; first | rfl | (simp [errW_none, errW_some] <;> rfl)) | (simp [*, errW_none, errW_some] <;> rfl), by (with_reducible repeat (first | apply Kd.R_alloc | apply Kd.R_drewN | apply Kd.R_drew)); exact Kd.R_mono HO325.out (fun _ hk => trivial), is64 HI0.out, bi64 HB.out HI0.out, kb HK.out⟩
         ·rw [if_neg c43] at H
          exact absurd H (by simp)
        ·rw [if_neg c42] at H
         have c42b0 : (t318 == 1) = false := beq_eq_false_iff_ne.mpr c42
         have c42b1 : (t318 != 1) = true := bne_iff_ne.mpr c42
         by_cases c48 : 0 ≤ ji5
         ·rw [if_pos c48] at H
          have c48b0 := eq_true c48
          have c48b1 : decide (0 ≤ ji5) = true := decide_eq_true c48
          clear c48
          obtain ⟨ji49, hji49⟩ : ∃ j_ : Int, (shl .i64 1 ji5) = j_ := ⟨_, rfl⟩
          replace H : ((some (([(-1), ji49] : List Int) : List Int)).bind fun y326 => ((spec_l20Rd_pick.f k1 s0_0 t319 2).bind fun bt329 => (if 0 ≤ bt329.1 then (if bt329.1 < (y326.length : Int) then (if 0 < (x8_1.length : Int) then (some ((x8_1.set (0 : Int).toNat (rd y326 bt329.1)), bt329.2)) else (none)) else (none)) else (none)))) = some (r1, r2) := by first | (rw [hji49] at H; exact H) | (simp only [hji49] at H ⊢; exact H)
          (try rw [hji49] at A34)
          (try rw [hji49] at A36)
          have hji49_ : (IntKind.i64.wrap (1 * 2 ^ min ji5.toNat 64)) = ji49 := hji49
          have hji49z : ji5 ≤ 64 → (IntKind.i64.wrap (1 * 2 ^ ji5.toNat)) = ji49 := shl_small hji49
          have hji49u : (IntKind.i64.wrap (2 ^ min ji5.toNat 64)) = ji49 := by have h_ := hji49_; rw [Int.one_mul] at h_; exact h_
          have hji49v : ji5 ≤ 64 → (IntKind.i64.wrap (2 ^ ji5.toNat)) = ji49 := fun hle_ => by have h_ := hji49z hle_; rw [Int.one_mul] at h_; exact h_
          have hji49y : (wrap64 (1 * 2 ^ min ji5.toNat 64)) = ji49 := (i64_w _).symm.trans hji49_
          have hji49x : ji5 ≤ 64 → (wrap64 (1 * 2 ^ ji5.toNat)) = ji49 := fun h_ => (i64_w _).symm.trans (hji49z h_)
          obtain ⟨y326, hy326⟩ : ∃ y_ : List Int, y_ = (([(-1), ji49] : List Int)) := ⟨_, rfl⟩
          replace H : ((spec_l20Rd_pick.f k1 s0_0 t319 2).bind fun bt329 => (if 0 ≤ bt329.1 then (if bt329.1 < (y326.length : Int) then (if 0 < (x8_1.length : Int) then (some ((x8_1.set (0 : Int).toNat (rd y326 bt329.1)), bt329.2)) else (none)) else (none)) else (none))) = some (r1, r2) := by first | (rw [hy326]; with_reducible exact H) | (have H2_ := (Option.bind_some _ _).symm.trans H; rw [hy326]; with_reducible exact H2_) | (have H2_ := (Option.bind_some _ _).symm.trans H; with_reducible exact H2_) | with_reducible exact H | (rw [hy326]; exact H) | exact H
          have Ny326 := Aside0.mk hy326
          clear hy326
          replace H := Option.bind_eq_some_iff.mp H
          obtain ⟨⟨t329, t330⟩, A500, H⟩ := H
          replace H : (if 0 ≤ t329 then (if t329 < (y326.length : Int) then (if 0 < (x8_1.length : Int) then (some ((x8_1.set (0 : Int).toNat (rd y326 t329)), t330)) else (none)) else (none)) else (none)) = some (r1, r2) := H
          have A50 := Aside0.mk A500
          clear A500
          by_cases c51 : 0 ≤ t329
          ·rw [if_pos c51] at H
           have c51b0 : decide (0 ≤ t329) = true := decide_eq_true c51
           clear c51
           by_cases c52 : t329 < (y326.length : Int)
           ·rw [if_pos c52] at H
            have c52b0 : decide (t329 < (y326.length : Int)) = true := decide_eq_true c52
            clear c52
            by_cases c53 : 0 < (x8_1.length : Int)
            ·rw [if_pos c53] at H
             have c53b0 : decide (0 < (x8_1.length : Int)) = true := decide_eq_true c53
             have c53b1 : decide (0 < x8_1.length) = true := decide_eq_true (by omega)
             clear c53
             obtain ⟨y332, hy332⟩ : ∃ y_ : List Int, y_ = (x8_1.set (0 : Int).toNat (rd y326 t329)) := ⟨_, rfl⟩
             replace H : (some (y332, t330)) = some (r1, r2) := by first | (rw [hy332]; with_reducible exact H) | (have H2_ := (Option.bind_some _ _).symm.trans H; rw [hy332]; with_reducible exact H2_) | (have H2_ := (Option.bind_some _ _).symm.trans H; with_reducible exact H2_) | with_reducible exact H | (rw [hy332]; exact H) | exact H
             have Ny332 := Aside0.mk hy332
             clear hy332
             simp only [Option.some.injEq, Prod.mk.injEq] at H
             obtain ⟨rfl, rfl⟩ := H
             try go_wp2_with (first | ((with_reducible refine gate_callee (f := 64) rfl ?_); refine goesL_ (some 62) rfl rfl Try.func64 (by kernel_rfl) rfl #[.pointer (some ⟨g, 0, none⟩), .int .i64 a2] rfl ls ?_; (with_reducible refine (spec_l20Rd_odd.calls k1 g s0_0 x1001_1 a2 true t317 w0 _ ?side1 ?side2 A34.out).mono ?_); (case side1 => exact is64 HI0.out); (case side2 => exact bi64 HB.out HI0.out); rintro e w55 ⟨rfl, hi, hb, hk⟩; refine ⟨_, rfl, ?_⟩; replace HO_8 := Aside0.mk (Kd.R_mono (Kd.R_keep (IsS64.apart (show IsS64 w0 _ g s0_0 x1001_1 from is64 HI0.out) (rR HO_8.out) (by decide)) hk (fun _ h => h.2)) (fun _ h => h.1)); replace HK := Aside0.mk (KeepBut.trans (kb HK.out) hk (.inl rfl)); replace HB := Aside0.mk (hb); replace HI0 := Aside0.mk (hi); (try clear hb); (try clear hb2); (try clear hk); (try clear hi)) | ((with_reducible refine gate_callee (f := 49) rfl ?_); refine goesL_ (some 64) rfl rfl Try.func49 (by kernel_rfl) rfl #[.pointer (some ⟨g, 0, none⟩), .int .i64 3] rfl ls ?_; (with_reducible refine (spec_l20Rd_pick.calls k1 g s0_0 t317 3 t318 t319 w0 _ ?side1 ?side2 A36.out).mono ?_); (case side1 => exact is64 HI0.out); (case side2 => exact bi64 HB.out HI0.out); rintro e w56 ⟨rfl, hi, hb, hk⟩; refine ⟨_, rfl, ?_⟩; replace HO_8 := Aside0.mk (Kd.R_mono (Kd.R_keep (IsS64.apart (show IsS64 w0 _ g s0_0 t317 from is64 HI0.out) (rR HO_8.out) (by decide)) hk (fun _ h => h.2)) (fun _ h => h.1)); replace HK := Aside0.mk (KeepBut.trans (kb HK.out) hk (.inl rfl)); replace HB := Aside0.mk (hb); replace HI0 := Aside0.mk (hi); (try clear hb); (try clear hb2); (try clear hk); (try clear hi)))
             have pi331 : (0 ≤ (t329 : Int)) = True := eq_true (of_decide_eq_true (by first | (with_reducible assumption) | assumption))
             have qi331 : (t329 < (y326.length : Int)) = True := eq_true (of_decide_eq_true (by first | (with_reducible assumption) | assumption))
             replace HO_8 := Aside0.mk (Kd.R_drew HO_8.out)
             replace HI0 := Aside0.mk (IsS64.drew HI0.out)
             replace HK := Aside0.mk (keep_drew HK.out)
             replace HB := Aside0.mk (below_drew1 HB.out)
             refine start_ (n := 10) (S := fun w' => True) (ds := [9]) #[false, false, false, false, false, false, false, false, false, false] (by kernel_rfl) rfl rfl trivial (fun hHeld => ?_); refine with_tabW spec_l20Rel.tab14 spec_l20Rel.bits14 (fun HT_ HW_ => ?_)
             generalize w56.drew = w57 at HO_8 HI0 HK HB hHeld ⊢
             refine pu 0 65 ?_
             refine pu 1 66 ?_
             refine pu 2 67 ?_
             refine pu 4 69 ?_
             refine join_ (σ := Value × Addr) 4 #[true, true, true, true, true, true, false, false, false, false] (fun s_ => [(68, s_.1), (70, .int .i64 t329)]) (fun s_ w' => (Kd.R (Kd.int .i64) 3 w' w.heap.size (fun k_ => some k_ ≠ (v302 : Value).ownBlock) s_.1 y326) ∧ (Kd.R (Kd.int .i64) 3 w' w.heap.size (fun k_ => some k_ ≠ (s_.1 : Value).ownBlock) v302 x8_1) ∧ (∃ c_, (s_.1 : Value) = .slice (some s_.2) y326.length c_) ∧ (IsS64 w0 w' g s0_0 t330) ∧ (KeepBut w w' g none) ∧ (Below w0.heap.size w0 w')) ?_ ?_
             rotate_left
             ·intro hCont
              refine two_ (i := 3) (j := 5) (Ni := some 68) (Nj := some 70) #[true, true, true, true, true, false, false, false, false, false] #[true, true, true, false, true, true, false, false, false, false] rfl rfl rfl rfl (two_of HT_.out (by kernel_rfl)) (by decide) (by decide) (fun K hK => ?_) (fun K hK => ?_)
              ·skip
               refine Kd.R_lit_step (Kd.int .i64) _ 3 ?hg (N := 68) ?hd (xs := ([(-1), ji49] : List Int)) (inner := [.int .i64 (-1), .int .i64 ji49]) (ok := fun _ => True) (okp := fun _ => True) ?hr ?hp (fun _ hk => hk) trivial (Below.refl _ _) (Nat.le_refl _) (by simp) ?_; (case hd => rfl); (case hg => rfl); (case hr => first | (go_simp; done) | (go_simp; rfl)); (case hp => exact (Reps.one (show Kd.M (Kd.int .i64) _ _ _ (-1) [.int .i64 (-1)] from rfl) (Reps.one (show Kd.M (Kd.int .i64) _ _ _ ji49 [.int .i64 ji49] from rfl) (Reps.none _ _))))
               intro v327 w58 ho59 hb hg_ hnew_
               clear hg_ hnew_
               (first | rw [← Ny326.out] at ho59 | (simp only [Int.reduceToNat] at ho59; rw [← Ny326.out] at ho59))
               have n0_ := Aside0.mk (Kd.R_elder' (rR HO_8.out) (Kd.R_base ho59) hb)
               have HO328 := Aside0.mk (Kd.R_lower (Kd.R_new' ho59 (Kd.R_lt (rR HO_8.out))) (keep_size (w := w) (g := g) (row := none) (kb HK.out)))
               have n2_ := Aside0.mk (IsS64.below (is64 HI0.out) hb)
               replace HK := Aside0.mk (KeepBut.trans (kb HK.out) (KeepBut.of_below hb g none) (.inl rfl))
               replace HB := Aside0.mk (below_step (bi64 HB.out HI0.out) hb)
               replace HO_8 := n0_
               replace HI0 := n2_
               clear n0_ n2_
               clear hb ho59
               obtain ⟨Ao60, co60, eo60⟩ := Kd.R_slice HO328.out
               subst eo60
               obtain ⟨ado60, fo60, _⟩ := Kd.at_int (Kd.R_reads' HO328.out).2.2 0 (by decide) (by rw [Ny326.out]; simp)
               cases fo60
               refine hK.out _ _ trivial (fun hHeld => ?_)
               clear hK K
               refine nm 68 ?_
               refine one_ (i := 5) (N := some 70) #[true, true, true, true, true, true, false, false, false, false] rfl rfl (one_of HT_.out (by kernel_rfl)) (by decide) (fun K hK => ?_)
               refine goes_ Try.func49 (by kernel_rfl) rfl #[.pointer (some ⟨g, 0, none⟩), .int .i64 2] (by rfl) rfl rfl ls ?_
               with_reducible refine (spec_l20Rd_pick.calls k1 g s0_0 t319 2 t329 t330 w0 _ ?side1 ?side2 A50.out).mono ?_
               (case side1 => exact is64 HI0.out)
               (case side2 => exact bi64 HB.out HI0.out)
               rintro e w61 ⟨rfl, hi, hb, hk⟩
               refine ⟨_, rfl, ?_⟩
               replace HO_8 := Aside0.mk (Kd.R_mono (Kd.R_keep (IsS64.apart (show IsS64 w0 _ g s0_0 t319 from is64 HI0.out) (rR HO_8.out) (by decide)) hk (fun _ h => h.2)) (fun _ h => h.1))
               replace HO328 := Aside0.mk (Kd.R_mono (Kd.R_keep (IsS64.apart (show IsS64 w0 _ g s0_0 t319 from is64 HI0.out) (rR HO328.out) (by decide)) hk (fun _ h => h.2)) (fun _ h => h.1))
               replace HK := Aside0.mk (KeepBut.trans (kb HK.out) hk (.inl rfl))
               replace HB := Aside0.mk (hb)
               replace HI0 := Aside0.mk (hi)
               (try clear hb)
               (try clear hb2)
               (try clear hk)
               (try clear hi)
               refine hK.out _ _ trivial (fun hHeld => ?_)
               clear hK K
               refine nm 70 ?_
               exact norm_ (by simp only [putAll, Act.put, List.setIfInBounds_toArray, List.set_cons_zero, List.set_cons_succ]) (hCont (.slice (some ado60) y326.length co60, ado60) _ ⟨(by (with_reducible repeat (first | apply Kd.R_alloc | apply Kd.R_drewN | apply Kd.R_drew)); exact Kd.R_mono HO328.out (fun _ hk => hk.2)), (by (with_reducible repeat (first | apply Kd.R_alloc | apply Kd.R_drewN | apply Kd.R_drew)); exact Kd.R_mono HO_8.out (fun _ hk => hk.2)), ⟨_, rfl⟩, (is64 HI0.out), (kb HK.out), (bi64 HB.out HI0.out)⟩)
              ·skip
               refine goes_ Try.func49 (by kernel_rfl) rfl #[.pointer (some ⟨g, 0, none⟩), .int .i64 2] (by rfl) rfl rfl ls ?_
               with_reducible refine (spec_l20Rd_pick.calls k1 g s0_0 t319 2 t329 t330 w0 _ ?side1 ?side2 A50.out).mono ?_
               (case side1 => exact is64 HI0.out)
               (case side2 => exact bi64 HB.out HI0.out)
               rintro e w58 ⟨rfl, hi, hb, hk⟩
               refine ⟨_, rfl, ?_⟩
               replace HO_8 := Aside0.mk (Kd.R_mono (Kd.R_keep (IsS64.apart (show IsS64 w0 _ g s0_0 t319 from is64 HI0.out) (rR HO_8.out) (by decide)) hk (fun _ h => h.2)) (fun _ h => h.1))
               replace HK := Aside0.mk (KeepBut.trans (kb HK.out) hk (.inl rfl))
               replace HB := Aside0.mk (hb)
               replace HI0 := Aside0.mk (hi)
               (try clear hb)
               (try clear hb2)
               (try clear hk)
               (try clear hi)
               refine hK.out _ _ trivial (fun hHeld => ?_)
               clear hK K
               refine nm 70 ?_
               refine one_ (i := 3) (N := some 68) #[true, true, true, true, true, true, false, false, false, false] rfl rfl (one_of HT_.out (by kernel_rfl)) (by decide) (fun K hK => ?_)
               refine Kd.R_lit_step (Kd.int .i64) _ 3 ?hg (N := 68) ?hd (xs := ([(-1), ji49] : List Int)) (inner := [.int .i64 (-1), .int .i64 ji49]) (ok := fun _ => True) (okp := fun _ => True) ?hr ?hp (fun _ hk => hk) trivial (Below.refl _ _) (Nat.le_refl _) (by simp) ?_; (case hd => rfl); (case hg => rfl); (case hr => first | (go_simp; done) | (go_simp; rfl)); (case hp => exact (Reps.one (show Kd.M (Kd.int .i64) _ _ _ (-1) [.int .i64 (-1)] from rfl) (Reps.one (show Kd.M (Kd.int .i64) _ _ _ ji49 [.int .i64 ji49] from rfl) (Reps.none _ _))))
               intro v327 w59 ho60 hb hg_ hnew_
               clear hg_ hnew_
               (first | rw [← Ny326.out] at ho60 | (simp only [Int.reduceToNat] at ho60; rw [← Ny326.out] at ho60))
               have n0_ := Aside0.mk (Kd.R_elder' (rR HO_8.out) (Kd.R_base ho60) hb)
               have HO328 := Aside0.mk (Kd.R_lower (Kd.R_new' ho60 (Kd.R_lt (rR HO_8.out))) (keep_size (w := w) (g := g) (row := none) (kb HK.out)))
               have n2_ := Aside0.mk (IsS64.below (is64 HI0.out) hb)
               replace HK := Aside0.mk (KeepBut.trans (kb HK.out) (KeepBut.of_below hb g none) (.inl rfl))
               replace HB := Aside0.mk (below_step (bi64 HB.out HI0.out) hb)
               replace HO_8 := n0_
               replace HI0 := n2_
               clear n0_ n2_
               clear hb ho60
               obtain ⟨Ao61, co61, eo61⟩ := Kd.R_slice HO328.out
               subst eo61
               obtain ⟨ado61, fo61, _⟩ := Kd.at_int (Kd.R_reads' HO328.out).2.2 0 (by decide) (by rw [Ny326.out]; simp)
               cases fo61
               refine hK.out _ _ trivial (fun hHeld => ?_)
               clear hK K
               refine nm 68 ?_
               exact norm_ (by simp only [putAll, Act.put, List.setIfInBounds_toArray, List.set_cons_zero, List.set_cons_succ]) (hCont (.slice (some ado61) y326.length co61, ado61) _ ⟨(by (with_reducible repeat (first | apply Kd.R_alloc | apply Kd.R_drewN | apply Kd.R_drew)); exact Kd.R_mono HO328.out (fun _ hk => hk.2)), (by (with_reducible repeat (first | apply Kd.R_alloc | apply Kd.R_drewN | apply Kd.R_drew)); exact Kd.R_mono HO_8.out (fun _ hk => hk.2)), ⟨_, rfl⟩, (is64 HI0.out), (kb HK.out), (bi64 HB.out HI0.out)⟩)
             rintro ⟨v327, adz_v327⟩ w62 ⟨h0_, h1_, h2_, h3_, h4_, h5_⟩
             have n0_ : Aside0 (Kd.R (Kd.int .i64) 3 w62 w.heap.size (fun k_ => some k_ ≠ (v302 : Value).ownBlock) v327 y326) := ⟨h0_⟩
             have n1_ : Aside0 (Kd.R (Kd.int .i64) 3 w62 w.heap.size (fun k_ => some k_ ≠ (v327 : Value).ownBlock) v302 x8_1) := ⟨h1_⟩
             have n2_ : Aside0 (∃ c_, (v327 : Value) = .slice (some adz_v327) y326.length c_) := ⟨h2_⟩
             have n3_ : Aside0 (IsS64 w0 w62 g s0_0 t330) := ⟨h3_⟩
             have n4_ : Aside0 (KeepBut w w62 g none) := ⟨h4_⟩
             have n5_ : Aside0 (Below w0.heap.size w0 w62) := ⟨h5_⟩
             clear HO_8
             clear HI0
             clear HK
             clear HB
             clear h0_ h1_ h2_ h3_ h4_ h5_
             have HO328 := n0_
             have HO_8 := n1_
             have HA_HO328 := n2_
             have HI0 := n3_
             have HK := n4_
             have HB := n5_
             clear n0_ n1_ n2_ n3_ n4_ n5_
             have hHeld := trivial
             obtain ⟨co63, eo63⟩ := HA_HO328.out
             clear HA_HO328
             subst eo63
             have p54 : 0 ≤ (0 : Int) := (by omega)
             have q54 : (0 : Int) < ((x8_1.length : Int) : Int) := of_decide_eq_true (by first | (with_reducible assumption) | assumption)
             have qi54 : (0 < x8_1.length) = True := eq_true (by omega)
             obtain ⟨go54, co54, eo54, gb54, gl54, cl54, HG54⟩ := Kd.R_form HO_8.out (by omega)
             (first | cases eo54 | (injection eo54 with ea_ en_ ec_; (first | subst ea_ | (injection ea_ with ea_; subst ea_)); subst ec_; clear en_))
             have GB54 := Aside0.mk gb54
             have GG54 := Aside0.mk HG54
             clear gb54 gl54 HG54
             obtain ⟨hx54_0, hf54_0⟩ := Kd.R_celln 0 HO_8.out (0 : Int) p54 q54
             (try rw [show ((0 : Int)).toNat = 0 from rfl] at hx54_0)
             (try simp only [Nat.reduceMul, Nat.zero_mul, Nat.zero_add, Nat.reduceAdd] at hx54_0)
             (try rw [show ((0 : Int)).toNat = 0 from rfl] at hf54_0)
             (try simp only [Nat.reduceMul, Nat.zero_mul, Nat.zero_add, Nat.reduceAdd] at hf54_0)
             replace p54 := eq_true p54
             replace q54 := eq_true q54
             have HN0_go54 := Aside0.mk (show g ≠ go54 from by have h_ := IsS64.own_ne HI0.out HO_8.out (by decide); intro e_; exact h_ (by rw [e_]; rfl))
             have HP64 := Kd.R_putn HO_8.out (0 : Int) (rd y326 t329)
             rw [← Ny332.out] at HP64
             have HQ64 := Aside0.mk HP64
             clear HP64
             refine norm_ (a' := ?_) ?_ ?_
             rotate_left
             ·simp only [putAll, Act.put, List.setIfInBounds_toArray, List.set_cons_zero, List.set_cons_succ]
              rfl
             refine pu 6 71 ?_
             refine one_ (i := 7) (N := some 72) #[true, true, true, true, true, true, true, true, false, false] rfl rfl (one_of HT_.out (by kernel_rfl)) (by decide) (fun K hK => ?_)
             (have p331 : 0 ≤ (t329 : Int) := of_decide_eq_true (by first | (with_reducible assumption) | assumption); have q331 : t329 < (y326.length : Int) := of_decide_eq_true (by first | (with_reducible assumption) | assumption); obtain ⟨ad331, e331, hx331_0⟩ := Kd.at_int (Kd.R_reads' HO328.out).2.2 t329 p331 q331; obtain rfl : adz_v327 = ad331 := (by injection e331))
             refine value_ (w1 := ?_) (v := ?_) (by rfl) rfl ?_ ?_
             rotate_left 2
             ·go_simp
              constructor
              ·rfl
              ·rfl
             clear hx331_0
             refine hK.out _ _ trivial (fun hHeld => ?_)
             clear hK K
             refine nm 72 ?_
             refine pu 8 73 ?_
             refine last_ (i := 9) (N := none) #[true, true, true, true, true, true, true, true, true, true] rfl rfl (one_of HT_.out (by kernel_rfl)) (by decide) (fun K hK => ?_)
             refine skip_ (w1 := ?_) (by rfl) rfl ?_ ?_
             rotate_left
             ·go_simp
              rfl
             refine hK.out _ _ ?_
             clear hK K
             refine done_ (done_of HT_.out (by kernel_rfl)) ?_
             (try clear hHeld)
             try go_wp2
             go_ret
             exact ⟨_, by first | rfl | (simp [errW_none, errW_some] <;> rfl) | (simp only [← hji5, ← hji49]; first | rfl | (simp [errW_none, errW_some] <;> rfl)) | (simp [*, errW_none, errW_some] <;> rfl), by (with_reducible repeat (first | apply Kd.R_alloc | apply Kd.R_drewN | apply Kd.R_drew)); exact Kd.R_mono HQ64.out (fun _ hk => trivial), by repeat (first | (with_reducible first | exact HI0.out | apply IsS64.alloc | apply IsS64.drewN | apply IsS64.drew | apply IsS64.set_1 | refine IsS64.far ?_ HN0_go54.out _) | exact HI0.out), by repeat (first | (with_reducible first | exact HB.out | apply below_alloc | apply pw_below_drewN | apply below_drew1 | refine below_set ?_ (Nat.le_trans HL.out GB54.out) | refine below_set ?_ (IsS64.ge HI0.out)) | exact HB.out), by repeat (first | (with_reducible first | exact HK.out | apply KeepBut.set_ | apply keep_drewN | apply keep_drew | apply keep_alloc | refine keep_far ?_ GB54.out _) | exact HK.out)⟩
            ·rw [if_neg c53] at H
             exact absurd H (by simp)
           ·rw [if_neg c52] at H
            exact absurd H (by simp)
          ·rw [if_neg c51] at H
           exact absurd H (by simp)
         ·rw [if_neg c48] at H
          exact absurd H (by simp)
      ·replace c35 := Bool.eq_false_iff.mpr c35
       subst c35
       have H1 : (some (x8_1, t317)) = some (r1, r2) := by rw [if_neg (show ¬ (false = true) by decide)] at H; exact H
       clear H
       have H := H1
       clear H1
       simp only [Option.some.injEq, Prod.mk.injEq] at H
       obtain ⟨rfl, rfl⟩ := H
       go_wp2_with (first | ((with_reducible refine gate_callee (f := 64) rfl ?_); refine goesL_ (some 62) rfl rfl Try.func64 (by kernel_rfl) rfl #[.pointer (some ⟨g, 0, none⟩), .int .i64 a2] rfl ls ?_; (with_reducible refine (spec_l20Rd_odd.calls k1 g s0_0 x1001_1 a2 false t317 w0 _ ?side1 ?side2 A34.out).mono ?_); (case side1 => exact is64 HI0.out); (case side2 => exact bi64 HB.out HI0.out); rintro e w65 ⟨rfl, hi, hb, hk⟩; refine ⟨_, rfl, ?_⟩; replace HO_8 := Aside0.mk (Kd.R_mono (Kd.R_keep (IsS64.apart (show IsS64 w0 _ g s0_0 x1001_1 from is64 HI0.out) (rR HO_8.out) (by decide)) hk (fun _ h => h.2)) (fun _ h => h.1)); replace HK := Aside0.mk (KeepBut.trans (kb HK.out) hk (.inl rfl)); replace HB := Aside0.mk (hb); replace HI0 := Aside0.mk (hi); (try clear hb); (try clear hb2); (try clear hk); (try clear hi)))
       go_ret
       exact ⟨_, by first | rfl | (simp [errW_none, errW_some] <;> rfl) | (simp only [← hji5]; first | rfl | (simp [errW_none, errW_some] <;> rfl)) | (simp [*, errW_none, errW_some] <;> rfl), by (with_reducible repeat (first | apply Kd.R_alloc | apply Kd.R_drewN | apply Kd.R_drew)); exact HO_8.out, is64 HI0.out, bi64 HB.out HI0.out, kb HK.out⟩
  ·rw [if_neg c7] at H
   exact absurd H (by simp)
 ·rw [if_neg c6] at H
  exact absurd H (by simp)

end Go.Proofs.Ytfhniahijnkgpaa.PFnFallOk
