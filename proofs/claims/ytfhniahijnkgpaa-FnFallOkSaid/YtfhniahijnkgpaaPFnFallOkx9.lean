-- Written by this session's own program (xprint.py: the kit's printer with changes): not a printed text
import Derived.Test.YtfhniahijnkgpaaPFnFallOkx0
import Derived.Test.YtfhniahijnkgpaaPFnFallOkx8
namespace Go.Proofs.Ytfhniahijnkgpaa.PFnFallOk
open Go.RowKit Go.Proofs.YtfhniahijnkgpaaW.PrintWords Go.Proofs.YtfhniahijnkgpaaW.PrintLast Go.Proofs.YtfhniahijnkgpaaW.PrintMore
attribute [local go_sem] max2_int min2_int max_two min_two max_three min_three max_four min_four   -- for this text's walks alone
set_option linter.unusedVariables false
set_option linter.unusedSimpArgs false

/-! ### impl_takeOrd: function 67 -/
mutual
def impl_takeOrd.j0 : Nat → List Int → Int → List (S70) → Bool → Option ((List (S70)) × List Int × Bool)
 | 0, _, _, _, _ => none
 | k + 1, x0, x5, x6, x25 => if x25 = true then (some (([] : List (S70)), ([] : List Int), false)) else (impl_takeOrd.l0 k x0 x6 x5 0)
def impl_takeOrd.l0 : Nat → List Int → List (S70) → Int → Int → Option ((List (S70)) × List Int × Bool)
 | 0, _, _, _, _ => none
 | k + 1, x0, x6, x26, x27 => if x27 < x26 then (if (x0.length : Int) = 0 then (impl_takeOrd.j2 k x0 x6 x27 x26 x27 true) else (if 0 < (x0.length : Int) then (if (rd x0 0) < 1 then (impl_takeOrd.j2 k x0 x6 x27 x26 x27 true) else (impl_takeOrd.j2 k x0 x6 x27 x26 x27 (decide ((rd x0 0) > 9999)))) else (none))) else (some (x6, x0, true))
def impl_takeOrd.j2 : Nat → List Int → List (S70) → Int → Int → Int → Bool → Option ((List (S70)) × List Int × Bool)
 | 0, _, _, _, _, _, _ => none
 | k + 1, x0, x6, x7, x26, x27, x44 => if x44 = true then (some (([] : List (S70)), ([] : List Int), false)) else (if 1 ≤ (x0.length : Int) then ((impl_takeOrd.f k (x0.drop 1)).bind fun bt251 => (if bt251.2.2 = true then (if x7 > 0 then (if 0 ≤ (wrap64 (x7 - 1)) then (if (wrap64 (x7 - 1)) < (x6.length : Int) then ((impl_compare.f k bt251.1 ((rd_T70 x6 (wrap64 (x7 - 1))).f1)).bind fun t259 => (if t259 ≥ 0 then (some (([] : List (S70)), ([] : List Int), false)) else (if 0 < (x0.length : Int) then (if x6.length < 4398046511104 then (impl_takeOrd.l0 k bt251.2.1 (x6 ++ [(⟨rd x0 0, bt251.1⟩ : S70)]) x26 (wrap64 (x27 + 1))) else (none)) else (none)))) else (none)) else (none)) else (if 0 < (x0.length : Int) then (if x6.length < 4398046511104 then (impl_takeOrd.l0 k bt251.2.1 (x6 ++ [(⟨rd x0 0, bt251.1⟩ : S70)]) x26 (wrap64 (x27 + 1))) else (none)) else (none))) else (some (([] : List (S70)), ([] : List Int), false)))) else (none))
def impl_takeOrd.f : Nat → List Int → Option ((List (S70)) × List Int × Bool)
 | 0, _ => none
 | k + 1, l0 => if (l0.length : Int) = 0 then (some (([] : List (S70)), ([] : List Int), false)) else (if 0 < (l0.length : Int) then (if 1 ≤ (l0.length : Int) then ((some (l0.drop 1 : List Int)).bind fun y236 => ((some (([] : List (S70)) : List (S70))).bind fun y241 => (if (rd l0 0) < 0 then (impl_takeOrd.j0 k y236 (rd l0 0) y241 true) else (impl_takeOrd.j0 k y236 (rd l0 0) y241 (decide ((rd l0 0) > 60)))))) else (none)) else (none))
end
theorem impl_takeOrd.mono_l : ∀ k, (∀ y0, LeO (impl_takeOrd.f k y0) (impl_takeOrd.f (k + 1) y0)) ∧ (∀ y0 y1 y2 y3, LeO (impl_takeOrd.j0 k y0 y1 y2 y3) (impl_takeOrd.j0 (k + 1) y0 y1 y2 y3)) ∧ (∀ y0 y1 y2 y3, LeO (impl_takeOrd.l0 k y0 y1 y2 y3) (impl_takeOrd.l0 (k + 1) y0 y1 y2 y3)) ∧ (∀ y0 y1 y2 y3 y4 y5, LeO (impl_takeOrd.j2 k y0 y1 y2 y3 y4 y5) (impl_takeOrd.j2 (k + 1) y0 y1 y2 y3 y4 y5))
 | 0 => ⟨fun _ r h => by simp [impl_takeOrd.f] at h, fun _ _ _ _ r h => by simp [impl_takeOrd.j0] at h, fun _ _ _ _ r h => by simp [impl_takeOrd.l0] at h, fun _ _ _ _ _ _ r h => by simp [impl_takeOrd.j2] at h⟩
 | k + 1 => by
  obtain ⟨ih0, ih1, ih2, ih3⟩ := impl_takeOrd.mono_l k
  refine ⟨?_, ?_, ?_, ?_⟩
  ·intro y0
   unfold impl_takeOrd.f
   repeat' first
   | (with_reducible exact ih0 _)
   | (with_reducible exact ih1 _ _ _ _)
   | (with_reducible exact ih2 _ _ _ _)
   | (with_reducible exact ih3 _ _ _ _ _ _)
   | (with_reducible exact impl_compare.mono _ _ _)
   | (with_reducible exact LeO.refl _)
   | (with_reducible exact LeO.none _)
   | (with_reducible refine LeO.ite ?_ ?_)
   | (with_reducible refine LeO.bind ?_ (fun _ => ?_))
   | exact ih0 _
   | exact ih1 _ _ _ _
   | exact ih2 _ _ _ _
   | exact ih3 _ _ _ _ _ _
   | exact impl_compare.mono _ _ _
   | exact LeO.none _
   | refine LeO.ite ?_ ?_
   | refine LeO.bind ?_ (fun _ => ?_)
  ·intro y0 y1 y2 y3
   unfold impl_takeOrd.j0
   repeat' first
   | (with_reducible exact ih0 _)
   | (with_reducible exact ih1 _ _ _ _)
   | (with_reducible exact ih2 _ _ _ _)
   | (with_reducible exact ih3 _ _ _ _ _ _)
   | (with_reducible exact impl_compare.mono _ _ _)
   | (with_reducible exact LeO.refl _)
   | (with_reducible exact LeO.none _)
   | (with_reducible refine LeO.ite ?_ ?_)
   | (with_reducible refine LeO.bind ?_ (fun _ => ?_))
   | exact ih0 _
   | exact ih1 _ _ _ _
   | exact ih2 _ _ _ _
   | exact ih3 _ _ _ _ _ _
   | exact impl_compare.mono _ _ _
   | exact LeO.none _
   | refine LeO.ite ?_ ?_
   | refine LeO.bind ?_ (fun _ => ?_)
  ·intro y0 y1 y2 y3
   unfold impl_takeOrd.l0
   repeat' first
   | (with_reducible exact ih0 _)
   | (with_reducible exact ih1 _ _ _ _)
   | (with_reducible exact ih2 _ _ _ _)
   | (with_reducible exact ih3 _ _ _ _ _ _)
   | (with_reducible exact impl_compare.mono _ _ _)
   | (with_reducible exact LeO.refl _)
   | (with_reducible exact LeO.none _)
   | (with_reducible refine LeO.ite ?_ ?_)
   | (with_reducible refine LeO.bind ?_ (fun _ => ?_))
   | exact ih0 _
   | exact ih1 _ _ _ _
   | exact ih2 _ _ _ _
   | exact ih3 _ _ _ _ _ _
   | exact impl_compare.mono _ _ _
   | exact LeO.none _
   | refine LeO.ite ?_ ?_
   | refine LeO.bind ?_ (fun _ => ?_)
  ·intro y0 y1 y2 y3 y4 y5
   unfold impl_takeOrd.j2
   repeat' first
   | (with_reducible exact ih0 _)
   | (with_reducible exact ih1 _ _ _ _)
   | (with_reducible exact ih2 _ _ _ _)
   | (with_reducible exact ih3 _ _ _ _ _ _)
   | (with_reducible exact impl_compare.mono _ _ _)
   | (with_reducible exact LeO.refl _)
   | (with_reducible exact LeO.none _)
   | (with_reducible refine LeO.ite ?_ ?_)
   | (with_reducible refine LeO.bind ?_ (fun _ => ?_))
   | exact ih0 _
   | exact ih1 _ _ _ _
   | exact ih2 _ _ _ _
   | exact ih3 _ _ _ _ _ _
   | exact impl_compare.mono _ _ _
   | exact LeO.none _
   | refine LeO.ite ?_ ?_
   | refine LeO.bind ?_ (fun _ => ?_)
theorem impl_takeOrd.mono : ∀ a0 k, LeO (impl_takeOrd.f k a0) (impl_takeOrd.f (k + 1) a0) := by
 intro a0 k
 obtain ⟨ih0, ih1, ih2, ih3⟩ := impl_takeOrd.mono_l k
 exact ih0 a0
set_option maxHeartbeats 8000000 in
set_option maxRecDepth 100000 in
theorem impl_takeOrd.calls (k : Nat) : ∀ (P0_ : Nat → Prop) (A0 : Option Addr) (c0 : Nat) (l0 : List Int) (r1 : List (S70)) (r2 : List Int) (r3 : Bool) (w : World) (hs0 : Kd.V (Kd.int .i64) 3 w w.heap.size (fun k_ => P0_ k_) (.slice A0 l0.length c0) l0) (h : impl_takeOrd.f k l0 = some (r1, r2, r3)),
  Calls Try.prog 67 #[.slice A0 l0.length c0] w fun e w' => ∃ v0_ v1_ : Value, e = .returned (.tuple #[v0_, v1_, .bool r3]) ∧ Kd.R k70 70 w' w.heap.size (fun k_ => (w.heap.size ≤ k_)) v0_ r1 ∧ Kd.V (Kd.int .i64) 3 w' w.heap.size (fun k_ => (P0_ k_ ∨ w.heap.size ≤ k_) ∧ some k_ ≠ (v0_ : Value).ownBlock) v1_ r2 ∧ Below w.heap.size w w' := by
 induction k using Nat.strongRecOn with
 | _ k ih =>
 intro P0_ A0 c0 l0 r1 r2 r3 w hs0 h
 cases k with
 | zero => exact absurd h (by simp [impl_takeOrd.f])
 | succ k =>
 simp only [impl_takeOrd.f] at h
 have hu70 := Try.underlying70
 have HO0 := Aside0.mk (show Kd.V (Kd.int .i64) 3 w w.heap.size (fun k_ => (P0_ k_ ∨ w.heap.size ≤ k_)) (.slice A0 l0.length c0) l0 from Kd.V_mono hs0 (fun k_ hk => .inl hk))
 have HB := Aside0.mk (Below.refl w.heap.size w)
 have H : (if (l0.length : Int) = 0 then (some (([] : List (S70)), ([] : List Int), false)) else (if 0 < (l0.length : Int) then (if 1 ≤ (l0.length : Int) then ((some (l0.drop 1 : List Int)).bind fun y236 => ((some (([] : List (S70)) : List (S70))).bind fun y241 => (if (rd l0 0) < 0 then (impl_takeOrd.j0 k y236 (rd l0 0) y241 true) else (impl_takeOrd.j0 k y236 (rd l0 0) y241 (decide ((rd l0 0) > 60)))))) else (none)) else (none))) = some (r1, r2, r3) := h
 clear h
 by_cases c2 : (l0.length : Int) = 0
 ·rw [if_pos c2] at H
  have c2b0 : ((l0.length : Int) == 0) = true := beq_iff_eq.mpr c2
  have c2b1 : ((l0.length : Int) != 0) = false := bne_eq_false_iff_eq.mpr c2
  clear c2
  simp only [Option.some.injEq, Prod.mk.injEq] at H
  obtain ⟨rfl, rfl, rfl⟩ := H
  go_enter Try.func67, Try.ntmps67
  go_wp2
  go_ret3
  exact ⟨_, _, by first | rfl | (simp [errW_none, errW_some] <;> rfl) | (simp [*, errW_none, errW_some] <;> rfl), by first | exact Kd.R_nil _ _ _ _ _ | exact Kd.N_nil _ _ _ _ _ | exact Kd.V_nil _ _ _ _ _ | exact Kd.Q_nil _ _ _ _ _ | exact Kd.S_nil _ _ _ _ _, Kd.V_nil _ _ _ _ _, bl HB.out⟩
 ·rw [if_neg c2] at H
  have c2b0 : ((l0.length : Int) == 0) = false := beq_eq_false_iff_ne.mpr c2
  have c2b1 : ((l0.length : Int) != 0) = true := bne_iff_ne.mpr c2
  have c2b2 : ¬ (l0 = []) := fun h_ => c2 (by rw [h_]; rfl)
  by_cases c3 : 0 < (l0.length : Int)
  ·rw [if_pos c3] at H
   have c3b0 : decide (0 < (l0.length : Int)) = true := decide_eq_true c3
   have c3b1 : decide (0 < l0.length) = true := decide_eq_true (by omega)
   clear c3
   by_cases c4 : 1 ≤ (l0.length : Int)
   ·rw [if_pos c4] at H
    have c4b0 := eq_true c4
    have c4b1 : decide (1 ≤ (l0.length : Int)) = true := decide_eq_true c4
    clear c4
    obtain ⟨y236, hy236⟩ : ∃ y_ : List Int, y_ = (l0.drop 1) := ⟨_, rfl⟩
    replace H : ((some (([] : List (S70)) : List (S70))).bind fun y241 => (if (rd l0 0) < 0 then (impl_takeOrd.j0 k y236 (rd l0 0) y241 true) else (impl_takeOrd.j0 k y236 (rd l0 0) y241 (decide ((rd l0 0) > 60))))) = some (r1, r2, r3) := by first | (rw [hy236]; with_reducible exact H) | (have H2_ := (Option.bind_some _ _).symm.trans H; rw [hy236]; with_reducible exact H2_) | (have H2_ := (Option.bind_some _ _).symm.trans H; with_reducible exact H2_) | with_reducible exact H | (rw [hy236]; exact H) | exact H
    have Ny236 := Aside0.mk hy236
    clear hy236
    obtain ⟨y241, hy241⟩ : ∃ y_ : List (S70), y_ = (([] : List (S70))) := ⟨_, rfl⟩
    replace H : (if (rd l0 0) < 0 then (impl_takeOrd.j0 k y236 (rd l0 0) y241 true) else (impl_takeOrd.j0 k y236 (rd l0 0) y241 (decide ((rd l0 0) > 60)))) = some (r1, r2, r3) := by first | (rw [hy241]; with_reducible exact H) | (have H2_ := (Option.bind_some _ _).symm.trans H; rw [hy241]; with_reducible exact H2_) | (have H2_ := (Option.bind_some _ _).symm.trans H; with_reducible exact H2_) | with_reducible exact H | (rw [hy241]; exact H) | exact H
    have Ny241 := Aside0.mk hy241
    clear hy241
    have HC5 := Aside0.mk H
    clear H
    have p235 : 0 ≤ (0 : Int) := (by omega)
    have q235 : 0 < (l0.length : Int) := of_decide_eq_true (by first | (with_reducible assumption) | assumption)
    obtain ⟨ad235, e235, hx235_0⟩ := Kd.at_int (Kd.V_reads' HO0.out).2.2 0 p235 q235
    cases e235
    have qi235 : (0 < l0.length) = True := eq_true (by omega)
    (try rw [show ((0 : Int)).toNat = 0 from rfl] at hx235_0)
    (try rw [Addr.add_zero'] at hx235_0)
    replace p235 := eq_true p235
    replace q235 := eq_true q235
    have q6 : (1 : Int) ≤ ((l0.length : Int) : Int) := of_decide_eq_true (by first | (with_reducible assumption) | assumption)
    obtain ⟨i06, hi06, _, hsz6, _⟩ := info_parts info3
    have hroom6 : l0.length ≤ c0 := (Kd.V_reads' HO0.out).2.1
    have hC6 : Kd.F (Kd.int .i64) _ _ (some ad235) l0.length l0 := (Kd.V_at (base := w.heap.size) HO0.out).2.2
    have hcut6 := cut_from (P := Try.prog) 23 3 .i64 Try.underlying23 hi06 1 hsz6 (some ad235) l0.length c0 1 (by omega) q6
    have hr6 := Kd.F_cut (m := (1 : Int).toNat) (c := c0) hC6 (by omega) hroom6
    obtain ⟨A6, hA6⟩ : ∃ A1, A1 = (if c0 = (1 : Int).toNat then (some ad235) else ((some ad235) : Option Addr).map (·.add ((1 : Int).toNat * 1))) := ⟨_, rfl⟩
    obtain ⟨c6, hc6⟩ : ∃ c1, c1 = c0 - (1 : Int).toNat := ⟨_, rfl⟩
    have hy6 : y236.length = l0.length - (1 : Int).toNat := (by rw [Ny236.out, List.length_drop] <;> omega)
    rw [show (l0).drop (1 : Int).toNat = y236 from Ny236.out.symm] at hr6
    replace hr6 : Kd.F (Kd.int .i64) _ _ A6 y236.length y236 := (by rw [hA6]; exact hr6)
    rw [← hy6, ← hA6, ← hc6] at hcut6
    have HO240 := Aside0.mk (show Kd.V (Kd.int .i64) 3 _ w.heap.size _ (.slice A6 y236.length c6) y236 from Kd.V_mk (by rw [hy6, hc6]; exact Nat.sub_le_sub_right hroom6 _) hr6)
    have HC240 := Aside0.mk (show y236.length ≤ c6 from by rw [hy6, hc6]; exact Nat.sub_le_sub_right hroom6 _)
    clear hr6 hC6 hroom6 hi06 hsz6 hc6
    have KY6 := Aside0.mk hy6
    have KA6 := Aside0.mk hA6
    clear hy6 hA6
    replace q6 := eq_true q6
    go_enter Try.func67, Try.ntmps67
    go_upto_region 6 with (first | ((with_reducible refine gate_dst (N := 19) rfl ?_); refine Kd.R_lit k70 _ 70 ?hg (N := 19) ?hd (xs := ([] : List (S70))) (inner := []) (ok := fun _ => True) (okp := fun _ => True) ?hr ?hp (fun _ hk => hk) trivial (Below.refl _ _) (Nat.le_refl _) (by simp) ?_; (case hd => rfl); (case hg => rfl); (case hr => first | (go_simp; done) | (go_simp; rfl)); (case hp => exact (Reps.none _ _)); intro v242 w7 ho8 hb hg_ hnew_; clear hg_ hnew_; (first | rw [← Ny241.out] at ho8 | (simp only [Int.reduceToNat] at ho8; rw [← Ny241.out] at ho8)); replace HO0 := Aside0.mk (Kd.V_elder' (rV HO0.out) (Kd.R_base ho8) hb); replace HO240 := Aside0.mk (Kd.V_elder' (rV HO240.out) (Kd.R_base ho8) hb); have HO243 := Aside0.mk (Kd.R_lower (Kd.R_newM (M := fun k_ => (w.heap.size ≤ k_)) ho8 (below_size (bl HB.out)) (fun k_ h_ => h_)) (below_size (bl HB.out))); replace HB := Aside0.mk (below_step (bl HB.out) hb); clear hb ho8))
    (try simp only [Act.put, List.setIfInBounds_toArray, List.set_cons_zero, List.set_cons_succ])
    go_cut [25] (fun v25 wc => ∃ (kq : Nat) (x25_4 : Bool), v25 = .bool x25_4 ∧ Aside0 (impl_takeOrd.j0 kq y236 (rd l0 0) y241 x25_4 = some (r1, r2, r3)) ∧ Aside0 (kq ≤ k) ∧ Aside0 (Kd.V (Kd.int .i64) 3 wc w.heap.size (fun k_ => (P0_ k_ ∨ w.heap.size ≤ k_) ∧ some k_ ≠ (v242 : Value).ownBlock) (.slice A6 y236.length c6) y236) ∧ Aside0 (Kd.R k70 70 wc w.heap.size (fun k_ => (w.heap.size ≤ k_)) v242 y241) ∧ Aside0 (Below w.heap.size w wc))
    case first =>
     have H := HC5.out
     clear HC5
     by_cases c9 : (rd l0 0) < 0
     ·rw [if_pos c9] at H
      have c9b0 : decide ((rd l0 0) < 0) = true := decide_eq_true c9
      clear c9
      (first | rw [c9b0] | (simp only [i64_w, i32_w]; rw [c9b0]) | skip)
      have H' := Aside0.mk H
      clear H
      go_wp2
      go_meet
      case rel => exact ⟨_, (true), (by first | rfl | (simp; done) | (simp [*]; done)), H', ⟨by first | omega | exact Nat.le_refl _⟩, ⟨rV HO240.out⟩, ⟨by (with_reducible repeat (first | apply Kd.R_alloc | apply Kd.R_drewN | apply Kd.R_drew)); exact Kd.R_mono HO243.out (fun _ hk => hk.1)⟩, ⟨bl HB.out⟩⟩
     ·rw [if_neg c9] at H
      have c9b0 : decide ((rd l0 0) < 0) = false := decide_eq_false c9
      clear c9
      (first | rw [c9b0] | (simp only [i64_w, i32_w]; rw [c9b0]) | skip)
      have H' := Aside0.mk H
      clear H
      go_wp2
      go_meet
      case rel => exact ⟨_, (decide ((rd l0 0) > 60)), (by first | rfl | (simp; done) | (simp [*]; done)), H', ⟨by first | omega | exact Nat.le_refl _⟩, ⟨rV HO240.out⟩, ⟨by (with_reducible repeat (first | apply Kd.R_alloc | apply Kd.R_drewN | apply Kd.R_drew)); exact Kd.R_mono HO243.out (fun _ hk => hk.1)⟩, ⟨bl HB.out⟩⟩
    case rest =>
     clear HC5
     try clear c1
     try clear c2
     try clear c2b0
     try clear c2b1
     try clear c2b2
     try clear p2
     try clear q2
     try clear hx2
     try clear qi2
     try clear c3
     try clear c3b0
     try clear c3b1
     try clear c4
     try clear c4b0
     try clear c4b1
     try clear c6
     try clear q6
     try clear c9
     try clear c9b0
     try clear hx235_0
     try clear p235
     try clear q235
     try clear q6
     obtain ⟨kq, x25_4, rfl, HA, HJ4, HO_0, HO_6, HB⟩ := hcut
     cases kq with
     | zero => exact absurd HA.out (by simp [impl_takeOrd.j0])
     | succ kj4 =>
      have H := HA.out
      clear HA
      simp only [impl_takeOrd.j0] at H
      by_cases c10 : x25_4 = true
      ·subst c10
       have H1 : (some (([] : List (S70)), ([] : List Int), false)) = some (r1, r2, r3) := by rw [if_pos rfl] at H; exact H
       clear H
       have H := H1
       clear H1
       simp only [Option.some.injEq, Prod.mk.injEq] at H
       obtain ⟨rfl, rfl, rfl⟩ := H
       go_wp2
       go_ret3
       exact ⟨_, _, by first | rfl | (simp [errW_none, errW_some] <;> rfl) | (simp [*, errW_none, errW_some] <;> rfl), by first | exact Kd.R_nil _ _ _ _ _ | exact Kd.N_nil _ _ _ _ _ | exact Kd.V_nil _ _ _ _ _ | exact Kd.Q_nil _ _ _ _ _ | exact Kd.S_nil _ _ _ _ _, Kd.V_nil _ _ _ _ _, bl HB.out⟩
      ·replace c10 := Bool.eq_false_iff.mpr c10
       subst c10
       have H1 : (impl_takeOrd.l0 kj4 y236 y241 (rd l0 0) 0) = some (r1, r2, r3) := by rw [if_neg (show ¬ (false = true) by decide)] at H; exact H
       clear H
       have H := H1
       clear H1
       have H' := Aside0.mk H
       clear H
       go_wp2
       go_loopg [0, 6, 27] kj4 (fun kq v0 v6 v27 w' => ∃ (x0_2 : List Int) (x6_2 : List (S70)) (x27_2 : Int), v27 = .int .i64 x27_2 ∧ Aside0 (impl_takeOrd.l0 kq x0_2 x6_2 (rd l0 0) x27_2 = some (r1, r2, r3)) ∧ Aside0 (kq ≤ kj4) ∧ Aside0 (Kd.V (Kd.int .i64) 3 w' w.heap.size (fun k_ => (P0_ k_ ∨ w.heap.size ≤ k_) ∧ some k_ ≠ (v6 : Value).ownBlock) v0 x0_2) ∧ Aside0 (Kd.R k70 70 w' w.heap.size (fun k_ => (w.heap.size ≤ k_)) v6 x6_2) ∧ Aside0 (Below w.heap.size w w'))
       case atStart => exact ⟨(y236), (y241), (0), (by first | rfl | (simp; done) | (simp [*]; done)), H', ⟨Nat.le_refl _⟩, ⟨rV HO_0.out⟩, ⟨rR HO_6.out⟩, ⟨bl HB.out⟩⟩
       case round =>
        clear H'
        try clear c1
        try clear c2
        try clear c2b0
        try clear c2b1
        try clear c2b2
        try clear p2
        try clear q2
        try clear hx2
        try clear qi2
        try clear c3
        try clear c3b0
        try clear c3b1
        try clear c4
        try clear c4b0
        try clear c4b1
        try clear c6
        try clear q6
        try clear c9
        try clear c9b0
        try clear c10
        try clear hx235_0
        try clear p2
        try clear p235
        try clear q2
        try clear q235
        try clear q6
        obtain ⟨x0_2, x6_2, x27_2, rfl, HA, HK2, HO_0, HO_6, HB⟩ := hrel
        cases gk with
        | zero => exact absurd HA.out (by simp [impl_takeOrd.l0])
        | succ k2 =>
         have H := HA.out
         clear HA
         simp only [impl_takeOrd.l0] at H
         by_cases c11 : x27_2 < (rd l0 0)
         ·rw [if_pos c11] at H
          have c11b0 : decide (x27_2 < (rd l0 0)) = true := decide_eq_true c11
          clear c11
          have HC12 := Aside0.mk H
          clear H
          go_upto_region 11 with (fail)
          go_cut [44] (fun v44 wc => ∃ (kq : Nat) (x44_11 : Bool), v44 = .bool x44_11 ∧ Aside0 (impl_takeOrd.j2 kq x0_2 x6_2 x27_2 (rd l0 0) x27_2 x44_11 = some (r1, r2, r3)) ∧ Aside0 (kq ≤ k2) ∧ Aside0 (Kd.V (Kd.int .i64) 3 wc w.heap.size (fun k_ => (P0_ k_ ∨ w.heap.size ≤ k_) ∧ some k_ ≠ (u6 : Value).ownBlock) u0 x0_2) ∧ Aside0 (Kd.R k70 70 wc w.heap.size (fun k_ => (w.heap.size ≤ k_)) u6 x6_2) ∧ Aside0 (Below w.heap.size w wc))
          case first =>
           have H := HC12.out
           clear HC12
           by_cases c13 : (x0_2.length : Int) = 0
           ·rw [if_pos c13] at H
            have c13b0 : ((x0_2.length : Int) == 0) = true := beq_iff_eq.mpr c13
            have c13b1 : ((x0_2.length : Int) != 0) = false := bne_eq_false_iff_eq.mpr c13
            clear c13
            (first | rw [c13b0] | (simp only [i64_w, i32_w]; rw [c13b0]) | skip)
            have H' := Aside0.mk H
            clear H
            obtain ⟨Ao14, co14, eo14⟩ := Kd.V_slice HO_0.out
            subst eo14
            go_wp2
            go_meet
            case rel => exact ⟨_, (true), (by first | rfl | (simp; done) | (simp [*]; done)), H', ⟨by have := HJ4.out; have := HK2.out; first | omega | exact Nat.le_refl _⟩, ⟨rV HO_0.out⟩, ⟨rR HO_6.out⟩, ⟨bl HB.out⟩⟩
           ·rw [if_neg c13] at H
            have c13b0 : ((x0_2.length : Int) == 0) = false := beq_eq_false_iff_ne.mpr c13
            have c13b1 : ((x0_2.length : Int) != 0) = true := bne_iff_ne.mpr c13
            have c13b2 : ¬ (x0_2 = []) := fun h_ => c13 (by rw [h_]; rfl)
            (first | rw [c13b0] | (simp only [i64_w, i32_w]; rw [c13b0]) | skip)
            by_cases c15 : 0 < (x0_2.length : Int)
            ·rw [if_pos c15] at H
             have c15b0 : decide (0 < (x0_2.length : Int)) = true := decide_eq_true c15
             have c15b1 : decide (0 < x0_2.length) = true := decide_eq_true (by omega)
             clear c15
             by_cases c16 : (rd x0_2 0) < 1
             ·rw [if_pos c16] at H
              have c16b0 : decide ((rd x0_2 0) < 1) = true := decide_eq_true c16
              clear c16
              have H' := Aside0.mk H
              clear H
              obtain ⟨Ao17, co17, eo17⟩ := Kd.V_slice HO_0.out
              subst eo17
              have p244 : 0 ≤ (0 : Int) := (by omega)
              have q244 : 0 < (x0_2.length : Int) := of_decide_eq_true (by first | (with_reducible assumption) | assumption)
              obtain ⟨ad244, e244, hx244_0⟩ := Kd.at_int (Kd.V_reads' HO_0.out).2.2 0 p244 q244
              cases e244
              have qi244 : (0 < x0_2.length) = True := eq_true (by omega)
              (try rw [show ((0 : Int)).toNat = 0 from rfl] at hx244_0)
              (try rw [Addr.add_zero'] at hx244_0)
              replace p244 := eq_true p244
              replace q244 := eq_true q244
              go_wp2
              go_meet
              case rel => exact ⟨_, (true), (by first | rfl | (simp; done) | (simp [*]; done)), H', ⟨by have := HJ4.out; have := HK2.out; first | omega | exact Nat.le_refl _⟩, ⟨rV HO_0.out⟩, ⟨rR HO_6.out⟩, ⟨bl HB.out⟩⟩
             ·rw [if_neg c16] at H
              have c16b0 : decide ((rd x0_2 0) < 1) = false := decide_eq_false c16
              clear c16
              have H' := Aside0.mk H
              clear H
              obtain ⟨Ao18, co18, eo18⟩ := Kd.V_slice HO_0.out
              subst eo18
              have p244 : 0 ≤ (0 : Int) := (by omega)
              have q244 : 0 < (x0_2.length : Int) := of_decide_eq_true (by first | (with_reducible assumption) | assumption)
              obtain ⟨ad244, e244, hx244_0⟩ := Kd.at_int (Kd.V_reads' HO_0.out).2.2 0 p244 q244
              cases e244
              have qi244 : (0 < x0_2.length) = True := eq_true (by omega)
              (try rw [show ((0 : Int)).toNat = 0 from rfl] at hx244_0)
              (try rw [Addr.add_zero'] at hx244_0)
              replace p244 := eq_true p244
              replace q244 := eq_true q244
              have p245 : 0 ≤ (0 : Int) := (by omega)
              have q245 : 0 < (x0_2.length : Int) := of_decide_eq_true (by first | (with_reducible assumption) | assumption)
              obtain ⟨ad245, e245, hx245_0⟩ := Kd.at_int (Kd.V_reads' HO_0.out).2.2 0 p245 q245
              obtain rfl : ad244 = ad245 := (by injection e245)
              have qi245 : (0 < x0_2.length) = True := eq_true (by omega)
              (try rw [show ((0 : Int)).toNat = 0 from rfl] at hx245_0)
              (try rw [Addr.add_zero'] at hx245_0)
              replace p245 := eq_true p245
              replace q245 := eq_true q245
              go_wp2
              go_meet
              case rel => exact ⟨_, (decide ((rd x0_2 0) > 9999)), (by first | rfl | (simp; done) | (simp [*]; done)), H', ⟨by have := HJ4.out; have := HK2.out; first | omega | exact Nat.le_refl _⟩, ⟨rV HO_0.out⟩, ⟨rR HO_6.out⟩, ⟨bl HB.out⟩⟩
            ·rw [if_neg c15] at H
             exact absurd H (by simp)
          case rest =>
           clear HC12
           try clear c1
           try clear c2
           try clear c2b0
           try clear c2b1
           try clear c2b2
           try clear p2
           try clear q2
           try clear hx2
           try clear qi2
           try clear c3
           try clear c3b0
           try clear c3b1
           try clear c4
           try clear c4b0
           try clear c4b1
           try clear c6
           try clear q6
           try clear c9
           try clear c9b0
           try clear c10
           try clear c11
           try clear c11b0
           try clear c13
           try clear c13b0
           try clear c13b1
           try clear c13b2
           try clear c15
           try clear c15b0
           try clear c15b1
           try clear c16
           try clear c16b0
           try clear hx235_0
           try clear hx244_0
           try clear hx245_0
           try clear p2
           try clear p235
           try clear p244
           try clear p245
           try clear q2
           try clear q235
           try clear q244
           try clear q245
           try clear q6
           obtain ⟨kq, x44_11, rfl, HA, HJ11, HO_0, HO_6, HB⟩ := hcut
           cases kq with
           | zero => exact absurd HA.out (by simp [impl_takeOrd.j2])
           | succ kj11 =>
            have H := HA.out
            clear HA
            simp only [impl_takeOrd.j2] at H
            by_cases c19 : x44_11 = true
            ·subst c19
             have H1 : (some (([] : List (S70)), ([] : List Int), false)) = some (r1, r2, r3) := by rw [if_pos rfl] at H; exact H
             clear H
             have H := H1
             clear H1
             simp only [Option.some.injEq, Prod.mk.injEq] at H
             obtain ⟨rfl, rfl, rfl⟩ := H
             go_wp2
             go_ret3
             exact ⟨_, _, by first | rfl | (simp [errW_none, errW_some] <;> rfl) | (simp [*, errW_none, errW_some] <;> rfl), by first | exact Kd.R_nil _ _ _ _ _ | exact Kd.N_nil _ _ _ _ _ | exact Kd.V_nil _ _ _ _ _ | exact Kd.Q_nil _ _ _ _ _ | exact Kd.S_nil _ _ _ _ _, Kd.V_nil _ _ _ _ _, bl HB.out⟩
            ·replace c19 := Bool.eq_false_iff.mpr c19
             subst c19
             have H1 : (if 1 ≤ (x0_2.length : Int) then ((impl_takeOrd.f kj11 (x0_2.drop 1)).bind fun bt251 => (if bt251.2.2 = true then (if x27_2 > 0 then (if 0 ≤ (wrap64 (x27_2 - 1)) then (if (wrap64 (x27_2 - 1)) < (x6_2.length : Int) then ((impl_compare.f kj11 bt251.1 ((rd_T70 x6_2 (wrap64 (x27_2 - 1))).f1)).bind fun t259 => (if t259 ≥ 0 then (some (([] : List (S70)), ([] : List Int), false)) else (if 0 < (x0_2.length : Int) then (if x6_2.length < 4398046511104 then (impl_takeOrd.l0 kj11 bt251.2.1 (x6_2 ++ [(⟨rd x0_2 0, bt251.1⟩ : S70)]) (rd l0 0) (wrap64 (x27_2 + 1))) else (none)) else (none)))) else (none)) else (none)) else (if 0 < (x0_2.length : Int) then (if x6_2.length < 4398046511104 then (impl_takeOrd.l0 kj11 bt251.2.1 (x6_2 ++ [(⟨rd x0_2 0, bt251.1⟩ : S70)]) (rd l0 0) (wrap64 (x27_2 + 1))) else (none)) else (none))) else (some (([] : List (S70)), ([] : List Int), false)))) else (none)) = some (r1, r2, r3) := by rw [if_neg (show ¬ (false = true) by decide)] at H; exact H
             clear H
             have H := H1
             clear H1
             by_cases c20 : 1 ≤ (x0_2.length : Int)
             ·rw [if_pos c20] at H
              have c20b0 := eq_true c20
              have c20b1 : decide (1 ≤ (x0_2.length : Int)) = true := decide_eq_true c20
              clear c20
              obtain ⟨y246, hy246⟩ : ∃ y_ : List Int, y_ = (x0_2.drop 1) := ⟨_, rfl⟩
              replace H : ((impl_takeOrd.f kj11 y246).bind fun bt251 => (if bt251.2.2 = true then (if x27_2 > 0 then (if 0 ≤ (wrap64 (x27_2 - 1)) then (if (wrap64 (x27_2 - 1)) < (x6_2.length : Int) then ((impl_compare.f kj11 bt251.1 ((rd_T70 x6_2 (wrap64 (x27_2 - 1))).f1)).bind fun t259 => (if t259 ≥ 0 then (some (([] : List (S70)), ([] : List Int), false)) else (if 0 < (x0_2.length : Int) then (if x6_2.length < 4398046511104 then (impl_takeOrd.l0 kj11 bt251.2.1 (x6_2 ++ [(⟨rd x0_2 0, bt251.1⟩ : S70)]) (rd l0 0) (wrap64 (x27_2 + 1))) else (none)) else (none)))) else (none)) else (none)) else (if 0 < (x0_2.length : Int) then (if x6_2.length < 4398046511104 then (impl_takeOrd.l0 kj11 bt251.2.1 (x6_2 ++ [(⟨rd x0_2 0, bt251.1⟩ : S70)]) (rd l0 0) (wrap64 (x27_2 + 1))) else (none)) else (none))) else (some (([] : List (S70)), ([] : List Int), false)))) = some (r1, r2, r3) := by first | (rw [hy246]; with_reducible exact H) | (have H2_ := (Option.bind_some _ _).symm.trans H; rw [hy246]; with_reducible exact H2_) | (have H2_ := (Option.bind_some _ _).symm.trans H; with_reducible exact H2_) | with_reducible exact H | (rw [hy246]; exact H) | exact H
              have Ny246 := Aside0.mk hy246
              clear hy246
              replace H := Option.bind_eq_some_iff.mp H
              obtain ⟨⟨t251, t254, t257⟩, A210, H⟩ := H
              replace H : (if t257 = true then (if x27_2 > 0 then (if 0 ≤ (wrap64 (x27_2 - 1)) then (if (wrap64 (x27_2 - 1)) < (x6_2.length : Int) then ((impl_compare.f kj11 t251 ((rd_T70 x6_2 (wrap64 (x27_2 - 1))).f1)).bind fun t259 => (if t259 ≥ 0 then (some (([] : List (S70)), ([] : List Int), false)) else (if 0 < (x0_2.length : Int) then (if x6_2.length < 4398046511104 then (impl_takeOrd.l0 kj11 t254 (x6_2 ++ [(⟨rd x0_2 0, t251⟩ : S70)]) (rd l0 0) (wrap64 (x27_2 + 1))) else (none)) else (none)))) else (none)) else (none)) else (if 0 < (x0_2.length : Int) then (if x6_2.length < 4398046511104 then (impl_takeOrd.l0 kj11 t254 (x6_2 ++ [(⟨rd x0_2 0, t251⟩ : S70)]) (rd l0 0) (wrap64 (x27_2 + 1))) else (none)) else (none))) else (some (([] : List (S70)), ([] : List Int), false))) = some (r1, r2, r3) := H
              have A21 := Aside0.mk A210
              clear A210
              by_cases c22 : t257 = true
              ·subst c22
               have H1 : (if x27_2 > 0 then (if 0 ≤ (wrap64 (x27_2 - 1)) then (if (wrap64 (x27_2 - 1)) < (x6_2.length : Int) then ((impl_compare.f kj11 t251 ((rd_T70 x6_2 (wrap64 (x27_2 - 1))).f1)).bind fun t259 => (if t259 ≥ 0 then (some (([] : List (S70)), ([] : List Int), false)) else (if 0 < (x0_2.length : Int) then (if x6_2.length < 4398046511104 then (impl_takeOrd.l0 kj11 t254 (x6_2 ++ [(⟨rd x0_2 0, t251⟩ : S70)]) (rd l0 0) (wrap64 (x27_2 + 1))) else (none)) else (none)))) else (none)) else (none)) else (if 0 < (x0_2.length : Int) then (if x6_2.length < 4398046511104 then (impl_takeOrd.l0 kj11 t254 (x6_2 ++ [(⟨rd x0_2 0, t251⟩ : S70)]) (rd l0 0) (wrap64 (x27_2 + 1))) else (none)) else (none))) = some (r1, r2, r3) := by rw [if_pos rfl] at H; exact H
               clear H
               have H := H1
               clear H1
               by_cases c23 : x27_2 > 0
               ·rw [if_pos c23] at H
                have c23b0 : decide (0 < x27_2) = true := decide_eq_true c23
                clear c23
                obtain ⟨ji24, hji24⟩ : ∃ j_ : Int, (wrap64 (x27_2 - 1)) = j_ := ⟨_, rfl⟩
                replace H : (if 0 ≤ (ji24) then (if (ji24) < (x6_2.length : Int) then ((impl_compare.f kj11 t251 ((rd_T70 x6_2 (ji24)).f1)).bind fun t259 => (if t259 ≥ 0 then (some (([] : List (S70)), ([] : List Int), false)) else (if 0 < (x0_2.length : Int) then (if x6_2.length < 4398046511104 then (impl_takeOrd.l0 kj11 t254 (x6_2 ++ [(⟨rd x0_2 0, t251⟩ : S70)]) (rd l0 0) (wrap64 (x27_2 + 1))) else (none)) else (none)))) else (none)) else (none)) = some (r1, r2, r3) := by first | (rw [hji24] at H; exact H) | (simp only [hji24] at H ⊢; exact H)
                (try rw [hji24] at A21)
                have hji24w : (IntKind.i64.wrap (x27_2 - 1)) = ji24 := (i64_w _).trans hji24
                by_cases c25 : 0 ≤ (ji24)
                ·rw [if_pos c25] at H
                 have c25b0 : decide (0 ≤ (ji24)) = true := decide_eq_true c25
                 clear c25
                 by_cases c26 : (ji24) < (x6_2.length : Int)
                 ·rw [if_pos c26] at H
                  have c26b0 : decide ((ji24) < (x6_2.length : Int)) = true := decide_eq_true c26
                  clear c26
                  replace H := Option.bind_eq_some_iff.mp H
                  obtain ⟨t259, A270, H⟩ := H
                  replace H : (if t259 ≥ 0 then (some (([] : List (S70)), ([] : List Int), false)) else (if 0 < (x0_2.length : Int) then (if x6_2.length < 4398046511104 then (impl_takeOrd.l0 kj11 t254 (x6_2 ++ [(⟨rd x0_2 0, t251⟩ : S70)]) (rd l0 0) (wrap64 (x27_2 + 1))) else (none)) else (none))) = some (r1, r2, r3) := H
                  have A27 := Aside0.mk A270
                  clear A270
                  by_cases c28 : t259 ≥ 0
                  ·rw [if_pos c28] at H
                   have c28b0 : decide (0 ≤ t259) = true := decide_eq_true c28
                   clear c28
                   simp only [Option.some.injEq, Prod.mk.injEq] at H
                   obtain ⟨rfl, rfl, rfl⟩ := H
                   obtain ⟨Ao30, co30, eo30⟩ := Kd.V_slice HO_0.out
                   subst eo30
                   have q29 : (1 : Int) ≤ ((x0_2.length : Int) : Int) := of_decide_eq_true (by first | (with_reducible assumption) | assumption)
                   obtain ⟨i029, hi029, _, hsz29, _⟩ := info_parts info3
                   have hroom29 : x0_2.length ≤ co30 := (Kd.V_reads' HO_0.out).2.1
                   have hC29 : Kd.F (Kd.int .i64) _ _ Ao30 x0_2.length x0_2 := (Kd.V_at (base := w.heap.size) HO_0.out).2.2
                   have hcut29 := cut_from (P := Try.prog) 23 3 .i64 Try.underlying23 hi029 1 hsz29 Ao30 x0_2.length co30 1 (by omega) q29
                   have hr29 := Kd.F_cut (m := (1 : Int).toNat) (c := co30) hC29 (by omega) hroom29
                   obtain ⟨A29, hA29⟩ : ∃ A1, A1 = (if co30 = (1 : Int).toNat then Ao30 else (Ao30 : Option Addr).map (·.add ((1 : Int).toNat * 1))) := ⟨_, rfl⟩
                   obtain ⟨c29, hc29⟩ : ∃ c1, c1 = co30 - (1 : Int).toNat := ⟨_, rfl⟩
                   have hy29 : y246.length = x0_2.length - (1 : Int).toNat := (by rw [Ny246.out, List.length_drop] <;> omega)
                   rw [show (x0_2).drop (1 : Int).toNat = y246 from Ny246.out.symm] at hr29
                   replace hr29 : Kd.F (Kd.int .i64) _ _ A29 y246.length y246 := (by rw [hA29]; exact hr29)
                   rw [← hy29, ← hA29, ← hc29] at hcut29
                   have HO250 := Aside0.mk (show Kd.V (Kd.int .i64) 3 _ w.heap.size _ (.slice A29 y246.length c29) y246 from Kd.V_mk (by rw [hy29, hc29]; exact Nat.sub_le_sub_right hroom29 _) hr29)
                   have HC250 := Aside0.mk (show y246.length ≤ c29 from by rw [hy29, hc29]; exact Nat.sub_le_sub_right hroom29 _)
                   clear hr29 hC29 hroom29 hi029 hsz29 hc29
                   have KY29 := Aside0.mk hy29
                   have KA29 := Aside0.mk hA29
                   clear hy29 hA29
                   replace q29 := eq_true q29
                   go_wp2_with (first | ((with_reducible refine gate_callee (f := 67) rfl ?_); refine goesL_ (some 48) rfl rfl Try.func67 (by kernel_rfl) rfl #[.slice A29 y246.length c29] rfl ls ?_; (with_reducible refine (ih kj11 (by have := HJ4.out; have := HK2.out; have := HJ11.out; omega) (fun k_ => ((P0_ k_ ∨ w.heap.size ≤ k_) ∧ some k_ ≠ (u6 : Value).ownBlock)) _ _ y246 t251 t254 true _ ?side1 A21.out).mono ?_); (case side1 => exact HO250.out); rintro e w31 ⟨v252, v255, rfl, ho0, ho1, hb⟩; refine ⟨_, rfl, ?_⟩; replace HO_0 := Aside0.mk (Kd.V_elder' (rV HO_0.out) (Kd.R_base ho0) hb); have n1_ := Aside0.mk (Kd.R_elder' (rR HO_6.out) (Kd.R_base ho0) hb); replace HO250 := Aside0.mk (Kd.V_elder' (rV HO250.out) (Kd.R_base ho0) hb); have HO253 := Aside0.mk (Kd.R_lower (Kd.R_new' (Kd.R_newM (M := fun k_ => (w.heap.size ≤ k_)) (Kd.R_mono (ok' := fun k_ => True) ho0 (fun _ hk_ => trivial)) (below_size (bl HB.out)) (fun k_ h_ => h_)) (Kd.R_lt (rR HO_6.out))) (below_size (bl HB.out))); have HO256 := Aside0.mk (Kd.V_lower (Kd.V_mono (ok' := fun k_ => (P0_ k_ ∨ w.heap.size ≤ k_) ∧ some k_ ≠ (v252 : Value).ownBlock ∧ some k_ ≠ (u6 : Value).ownBlock) ho1 (fun k_ hk_ => ⟨Or.elim hk_.1 (fun hs_ => hs_.1) (fun hn_ => (.inr (Nat.le_trans (below_size (bl HB.out)) hn_))), hk_.2, Or.elim hk_.1 (fun hs_ => hs_.2) (fun hn_ => (Kd.fresh' (Kd.R_lt (rR HO_6.out)) k_ hn_))⟩)) (below_size (bl HB.out))); replace HB := Aside0.mk (below_step (bl HB.out) hb); replace HO_6 := n1_; clear n1_; (try clear hb); (try clear hb2); (try clear hk); (try clear hi); (try clear ho0); (try clear ho1); obtain ⟨Ao32, co32, eo32⟩ := Kd.R_slice HO_6.out; subst eo32; have p258 : 0 ≤ ((ji24) : Int) := of_decide_eq_true (by first | (with_reducible assumption) | assumption); have q258 : (ji24) < (x6_2.length : Int) := of_decide_eq_true (by first | (with_reducible assumption) | assumption); obtain ⟨ad258, A258_1, c258_1, e258, hx258_0, hx258_1, hl258_1, hi258_1⟩ := at_T70 (Kd.R_reads' HO_6.out).2.2 (ji24) p258 q258; cases e258; obtain ⟨ce258, hce258, hMe258, hcc258⟩ := Kd.R_get HO_6.out z70 (ji24) p258 (by first | exact q258 | exact of_decide_eq_true (by first | (with_reducible assumption) | assumption) | (have e_ := (Kd.R_reads' HO_6.out).1; omega)); obtain ⟨ve258_1, rfl, ge258_1⟩ := k70_openM hMe258; have hv258_1 := hcc258 1 _ rfl; rw [add_field _ _ 1 (by omega)] at hv258_1; replace hv258_1 := Option.some.inj (hv258_1.symm.trans hx258_1); rw [hv258_1] at ge258_1; have HL258_1 := Aside0.mk (show Kd.R k70 70 _ _ _ _ ((rd_T70 x6_2 (ji24)).f1) from ge258_1); clear hv258_1 ge258_1; clear hcc258 hce258; have HR258_1 := Aside0.mk hi258_1; have HC258_1 := Aside0.mk hl258_1; clear hi258_1 hl258_1; replace p258 := eq_true p258; replace q258 := eq_true q258; obtain ⟨Ao33, co33, eo33⟩ := Kd.R_slice HO253.out; subst eo33) | (go_at_call 58; (with_reducible refine (impl_compare.calls kj11 _ _ t251 _ _ ((rd_T70 x6_2 (ji24)).f1) t259 _ ?side1 ?side2 ?side3 ?side4 A27.out).mono ?_); (case side1 => repeat (first | exact (Kd.R_reads' HO253.out).2.2 | (with_reducible refine Kd.C_alloc ?_ _) | (with_reducible refine Kd.C_drewN ?_ _) | (with_reducible refine Kd.C_drew ?_))); (case side2 => exact (Kd.R_reads' HO253.out).2.1); (case side3 => repeat (first | exact (cr HR258_1.out) | (with_reducible refine Kd.C_alloc ?_ _) | (with_reducible refine Kd.C_drewN ?_ _) | (with_reducible refine Kd.C_drew ?_))); (case side4 => exact HC258_1.out); rintro e w34 ⟨rfl, hb⟩; replace HO_0 := Aside0.mk (Kd.V_below (rV HO_0.out) hb); replace HO_6 := Aside0.mk (Kd.R_below (rR HO_6.out) hb); replace HO250 := Aside0.mk (Kd.V_below (rV HO250.out) hb); replace HO253 := Aside0.mk (Kd.R_below (rR HO253.out) hb); replace HO256 := Aside0.mk (Kd.V_below (rV HO256.out) hb); replace HL258_1 := Aside0.mk (Kd.R_below (rR HL258_1.out) hb); replace HR258_1 := Aside0.mk (Kd.C_below (cr HR258_1.out) hb); replace HB := Aside0.mk (below_step (bl HB.out) hb); (try clear hb); (try clear hb2); (try clear hk); (try clear hi)))
                   go_ret3
                   exact ⟨_, _, by first | rfl | (simp [errW_none, errW_some] <;> rfl) | (simp only [← hji24]; first | rfl | (simp [errW_none, errW_some] <;> rfl)) | (simp [*, errW_none, errW_some] <;> rfl), by first | exact Kd.R_nil _ _ _ _ _ | exact Kd.N_nil _ _ _ _ _ | exact Kd.V_nil _ _ _ _ _ | exact Kd.Q_nil _ _ _ _ _ | exact Kd.S_nil _ _ _ _ _, Kd.V_nil _ _ _ _ _, bl HB.out⟩
                  ·rw [if_neg c28] at H
                   have c28b0 : decide (0 ≤ t259) = false := decide_eq_false c28
                   clear c28
                   by_cases c35 : 0 < (x0_2.length : Int)
                   ·rw [if_pos c35] at H
                    have c35b0 : decide (0 < (x0_2.length : Int)) = true := decide_eq_true c35
                    have c35b1 : decide (0 < x0_2.length) = true := decide_eq_true (by omega)
                    clear c35
                    by_cases c36 : x6_2.length < 4398046511104
                    ·rw [if_pos c36] at H
                     have LMc36 := Aside0.mk c36
                     clear c36
                     obtain ⟨y261, hy261⟩ : ∃ y_ : List (S70), y_ = (x6_2 ++ [(⟨rd x0_2 0, t251⟩ : S70)]) := ⟨_, rfl⟩
                     replace H : (impl_takeOrd.l0 kj11 t254 y261 (rd l0 0) (wrap64 (x27_2 + 1))) = some (r1, r2, r3) := by first | (rw [hy261]; with_reducible exact H) | (have H2_ := (Option.bind_some _ _).symm.trans H; rw [hy261]; with_reducible exact H2_) | (have H2_ := (Option.bind_some _ _).symm.trans H; with_reducible exact H2_) | with_reducible exact H | (rw [hy261]; exact H) | exact H
                     have Ny261 := Aside0.mk hy261
                     clear hy261
                     have H' := Aside0.mk H
                     clear H
                     obtain ⟨Ao38, co38, eo38⟩ := Kd.V_slice HO_0.out
                     subst eo38
                     have q37 : (1 : Int) ≤ ((x0_2.length : Int) : Int) := of_decide_eq_true (by first | (with_reducible assumption) | assumption)
                     obtain ⟨i037, hi037, _, hsz37, _⟩ := info_parts info3
                     have hroom37 : x0_2.length ≤ co38 := (Kd.V_reads' HO_0.out).2.1
                     have hC37 : Kd.F (Kd.int .i64) _ _ Ao38 x0_2.length x0_2 := (Kd.V_at (base := w.heap.size) HO_0.out).2.2
                     have hcut37 := cut_from (P := Try.prog) 23 3 .i64 Try.underlying23 hi037 1 hsz37 Ao38 x0_2.length co38 1 (by omega) q37
                     have hr37 := Kd.F_cut (m := (1 : Int).toNat) (c := co38) hC37 (by omega) hroom37
                     obtain ⟨A37, hA37⟩ : ∃ A1, A1 = (if co38 = (1 : Int).toNat then Ao38 else (Ao38 : Option Addr).map (·.add ((1 : Int).toNat * 1))) := ⟨_, rfl⟩
                     obtain ⟨c37, hc37⟩ : ∃ c1, c1 = co38 - (1 : Int).toNat := ⟨_, rfl⟩
                     have hy37 : y246.length = x0_2.length - (1 : Int).toNat := (by rw [Ny246.out, List.length_drop] <;> omega)
                     rw [show (x0_2).drop (1 : Int).toNat = y246 from Ny246.out.symm] at hr37
                     replace hr37 : Kd.F (Kd.int .i64) _ _ A37 y246.length y246 := (by rw [hA37]; exact hr37)
                     rw [← hy37, ← hA37, ← hc37] at hcut37
                     have HO250 := Aside0.mk (show Kd.V (Kd.int .i64) 3 _ w.heap.size _ (.slice A37 y246.length c37) y246 from Kd.V_mk (by rw [hy37, hc37]; exact Nat.sub_le_sub_right hroom37 _) hr37)
                     have HC250 := Aside0.mk (show y246.length ≤ c37 from by rw [hy37, hc37]; exact Nat.sub_le_sub_right hroom37 _)
                     clear hr37 hC37 hroom37 hi037 hsz37 hc37
                     have KY37 := Aside0.mk hy37
                     have KA37 := Aside0.mk hA37
                     clear hy37 hA37
                     replace q37 := eq_true q37
                     go_wp2_with (first | ((with_reducible refine gate_callee (f := 67) rfl ?_); refine goesL_ (some 48) rfl rfl Try.func67 (by kernel_rfl) rfl #[.slice A37 y246.length c37] rfl ls ?_; (with_reducible refine (ih kj11 (by have := HJ4.out; have := HK2.out; have := HJ11.out; omega) (fun k_ => ((P0_ k_ ∨ w.heap.size ≤ k_) ∧ some k_ ≠ (u6 : Value).ownBlock)) _ _ y246 t251 t254 true _ ?side1 A21.out).mono ?_); (case side1 => exact HO250.out); rintro e w39 ⟨v252, v255, rfl, ho0, ho1, hb⟩; refine ⟨_, rfl, ?_⟩; replace HO_0 := Aside0.mk (Kd.V_elder' (rV HO_0.out) (Kd.R_base ho0) hb); have n1_ := Aside0.mk (Kd.R_elder' (rR HO_6.out) (Kd.R_base ho0) hb); replace HO250 := Aside0.mk (Kd.V_elder' (rV HO250.out) (Kd.R_base ho0) hb); have HO253 := Aside0.mk (Kd.R_lower (Kd.R_new' (Kd.R_newM (M := fun k_ => (w.heap.size ≤ k_)) (Kd.R_mono (ok' := fun k_ => True) ho0 (fun _ hk_ => trivial)) (below_size (bl HB.out)) (fun k_ h_ => h_)) (Kd.R_lt (rR HO_6.out))) (below_size (bl HB.out))); have HO256 := Aside0.mk (Kd.V_lower (Kd.V_mono (ok' := fun k_ => (P0_ k_ ∨ w.heap.size ≤ k_) ∧ some k_ ≠ (v252 : Value).ownBlock ∧ some k_ ≠ (u6 : Value).ownBlock) ho1 (fun k_ hk_ => ⟨Or.elim hk_.1 (fun hs_ => hs_.1) (fun hn_ => (.inr (Nat.le_trans (below_size (bl HB.out)) hn_))), hk_.2, Or.elim hk_.1 (fun hs_ => hs_.2) (fun hn_ => (Kd.fresh' (Kd.R_lt (rR HO_6.out)) k_ hn_))⟩)) (below_size (bl HB.out))); replace HB := Aside0.mk (below_step (bl HB.out) hb); replace HO_6 := n1_; clear n1_; (try clear hb); (try clear hb2); (try clear hk); (try clear hi); (try clear ho0); (try clear ho1); obtain ⟨Ao40, co40, eo40⟩ := Kd.R_slice HO_6.out; subst eo40; have p258 : 0 ≤ ((ji24) : Int) := of_decide_eq_true (by first | (with_reducible assumption) | assumption); have q258 : (ji24) < (x6_2.length : Int) := of_decide_eq_true (by first | (with_reducible assumption) | assumption); obtain ⟨ad258, A258_1, c258_1, e258, hx258_0, hx258_1, hl258_1, hi258_1⟩ := at_T70 (Kd.R_reads' HO_6.out).2.2 (ji24) p258 q258; cases e258; obtain ⟨ce258, hce258, hMe258, hcc258⟩ := Kd.R_get HO_6.out z70 (ji24) p258 (by first | exact q258 | exact of_decide_eq_true (by first | (with_reducible assumption) | assumption) | (have e_ := (Kd.R_reads' HO_6.out).1; omega)); obtain ⟨ve258_1, rfl, ge258_1⟩ := k70_openM hMe258; have hv258_1 := hcc258 1 _ rfl; rw [add_field _ _ 1 (by omega)] at hv258_1; replace hv258_1 := Option.some.inj (hv258_1.symm.trans hx258_1); rw [hv258_1] at ge258_1; have HL258_1 := Aside0.mk (show Kd.R k70 70 _ _ _ _ ((rd_T70 x6_2 (ji24)).f1) from ge258_1); clear hv258_1 ge258_1; clear hcc258 hce258; have HR258_1 := Aside0.mk hi258_1; have HC258_1 := Aside0.mk hl258_1; clear hi258_1 hl258_1; replace p258 := eq_true p258; replace q258 := eq_true q258; obtain ⟨Ao41, co41, eo41⟩ := Kd.R_slice HO253.out; subst eo41) | (go_at_call 58; (with_reducible refine (impl_compare.calls kj11 _ _ t251 _ _ ((rd_T70 x6_2 (ji24)).f1) t259 _ ?side1 ?side2 ?side3 ?side4 A27.out).mono ?_); (case side1 => repeat (first | exact (Kd.R_reads' HO253.out).2.2 | (with_reducible refine Kd.C_alloc ?_ _) | (with_reducible refine Kd.C_drewN ?_ _) | (with_reducible refine Kd.C_drew ?_))); (case side2 => exact (Kd.R_reads' HO253.out).2.1); (case side3 => repeat (first | exact (cr HR258_1.out) | (with_reducible refine Kd.C_alloc ?_ _) | (with_reducible refine Kd.C_drewN ?_ _) | (with_reducible refine Kd.C_drew ?_))); (case side4 => exact HC258_1.out); rintro e w42 ⟨rfl, hb⟩; replace HO_0 := Aside0.mk (Kd.V_below (rV HO_0.out) hb); replace HO_6 := Aside0.mk (Kd.R_below (rR HO_6.out) hb); replace HO250 := Aside0.mk (Kd.V_below (rV HO250.out) hb); replace HO253 := Aside0.mk (Kd.R_below (rR HO253.out) hb); replace HO256 := Aside0.mk (Kd.V_below (rV HO256.out) hb); replace HL258_1 := Aside0.mk (Kd.R_below (rR HL258_1.out) hb); replace HR258_1 := Aside0.mk (Kd.C_below (cr HR258_1.out) hb); replace HB := Aside0.mk (below_step (bl HB.out) hb); (try clear hb); (try clear hb2); (try clear hk); (try clear hi); have p260 : 0 ≤ (0 : Int) := (by omega); have q260 : 0 < (x0_2.length : Int) := of_decide_eq_true (by first | (with_reducible assumption) | assumption); obtain ⟨ad260, e260, hx260_0⟩ := Kd.at_int (Kd.V_reads' HO_0.out).2.2 0 p260 q260; cases e260; have qi260 : (0 < x0_2.length) = True := eq_true (by omega); (try rw [show ((0 : Int)).toNat = 0 from rfl] at hx260_0); (try rw [Addr.add_zero'] at hx260_0); replace p260 := eq_true p260; replace q260 := eq_true q260) | ((with_reducible refine gate_builtin (b := .append) (xs := #[.tmp 69, .tmp 75]) rfl ?_); at_builtin; refine Kd.R_append k70 (w0 := w) w.heap.size rfl (.tmp 69) (.tmp 75) 56 70 (.agg #[(.int .i64 0), (.slice none 0 0)]) 32 rfl Try.underlying56 info70 rfl (by decide) (by omega) (.slice (some ad258) x6_2.length co40) x6_2 (⟨rd x0_2 0, t251⟩ : S70) [.int .i64 (rd x0_2 0), .slice Ao41 t251.length co41] (fun k_ => (w.heap.size ≤ k_)) (fun k_ => ((fun k_ => (w.heap.size ≤ k_))) k_ ∧ some k_ ≠ (.slice (some ad258) x6_2.length co40 : Value).ownBlock) rfl rfl ?aP (fun _ hk => hk) ?aF ?aO ?aB ?aS ?aL ?_; (case aP => exact k70_mkM _ _ _ (⟨rd x0_2 0, t251⟩ : S70) (Kd.R_mono (HO253.out) (fun k_ hk => ⟨hk.1.1, hk.2⟩))); (case aB => exact (bl HB.out)); (case aF => exact (fun k_ hk => (Nat.le_trans (below_size (bl HB.out)) hk))); (case aO => exact (by (with_reducible repeat (first | apply Kd.R_alloc | apply Kd.R_drewN | apply Kd.R_drew)); exact Kd.R_mono HO_6.out (fun _ hk => hk.1))); (case aS => exact (below_size (bl HB.out))); (case aL => have := LMc36.out; omega); intro v262 w43 ho hb hg hat; rw [← Ny261.out] at ho; replace HO_0 := Aside0.mk (Kd.V_afterv (ok := (fun k_ => (P0_ k_ ∨ w.heap.size ≤ k_) ∧ some k_ ≠ (.slice Ao41 t251.length co41 : Value).ownBlock)) (by (with_reducible repeat (first | apply Kd.V_alloc | apply Kd.V_drewN | apply Kd.V_drew)); exact Kd.V_mono HO_0.out (fun _ hk => ⟨⟨hk.1.1, hk.2⟩, hk.1.2⟩)) hg hat); replace HO250 := Aside0.mk (Kd.V_afterv (ok := (fun k_ => (P0_ k_ ∨ w.heap.size ≤ k_) ∧ some k_ ≠ (.slice Ao41 t251.length co41 : Value).ownBlock)) (by (with_reducible repeat (first | apply Kd.V_alloc | apply Kd.V_drewN | apply Kd.V_drew)); exact Kd.V_mono HO250.out (fun _ hk => ⟨⟨hk.1.1, hk.2⟩, hk.1.2⟩)) hg hat); replace HO256 := Aside0.mk (Kd.V_afterv (ok := (fun k_ => (P0_ k_ ∨ w.heap.size ≤ k_) ∧ some k_ ≠ (.slice Ao41 t251.length co41 : Value).ownBlock)) (by (with_reducible repeat (first | apply Kd.V_alloc | apply Kd.V_drewN | apply Kd.V_drew)); exact Kd.V_mono HO256.out (fun _ hk => ⟨⟨hk.1, hk.2.1⟩, hk.2.2⟩)) hg hat); replace HL258_1 := Aside0.mk (Kd.R_after (ok := (fun k_ => (w.heap.size ≤ k_) ∧ some k_ ≠ (.slice Ao41 t251.length co41 : Value).ownBlock)) (rR HL258_1.out) hg hat); replace HB := Aside0.mk (hb); have HO263 := Aside0.mk (ho); clear HO_6; clear HO253; clear ho hb hg hat))
                     go_roundg kj11
                     case measure => have := HJ4.out; have := HK2.out; have := HJ11.out; omega
                     case rel => exact ⟨(t254), (y261), (wrap64 (x27_2 + 1)), (by first | rfl | (simp; done) | (simp [*]; done)), H', ⟨by have := HJ4.out; have := HK2.out; have := HJ11.out; omega⟩, ⟨by (with_reducible repeat (first | apply Kd.V_alloc | apply Kd.V_drewN | apply Kd.V_drew)); exact Kd.V_mono HO256.out (fun _ hk => ⟨hk.1.1, hk.2⟩)⟩, ⟨rR HO263.out⟩, ⟨bl HB.out⟩⟩
                    ·rw [if_neg c36] at H
                     exact absurd H (by simp)
                   ·rw [if_neg c35] at H
                    exact absurd H (by simp)
                 ·rw [if_neg c26] at H
                  exact absurd H (by simp)
                ·rw [if_neg c25] at H
                 exact absurd H (by simp)
               ·rw [if_neg c23] at H
                have c23b0 : decide (0 < x27_2) = false := decide_eq_false c23
                clear c23
                by_cases c44 : 0 < (x0_2.length : Int)
                ·rw [if_pos c44] at H
                 have c44b0 : decide (0 < (x0_2.length : Int)) = true := decide_eq_true c44
                 have c44b1 : decide (0 < x0_2.length) = true := decide_eq_true (by omega)
                 clear c44
                 by_cases c45 : x6_2.length < 4398046511104
                 ·rw [if_pos c45] at H
                  have LMc45 := Aside0.mk c45
                  clear c45
                  obtain ⟨y265, hy265⟩ : ∃ y_ : List (S70), y_ = (x6_2 ++ [(⟨rd x0_2 0, t251⟩ : S70)]) := ⟨_, rfl⟩
                  replace H : (impl_takeOrd.l0 kj11 t254 y265 (rd l0 0) (wrap64 (x27_2 + 1))) = some (r1, r2, r3) := by first | (rw [hy265]; with_reducible exact H) | (have H2_ := (Option.bind_some _ _).symm.trans H; rw [hy265]; with_reducible exact H2_) | (have H2_ := (Option.bind_some _ _).symm.trans H; with_reducible exact H2_) | with_reducible exact H | (rw [hy265]; exact H) | exact H
                  have Ny265 := Aside0.mk hy265
                  clear hy265
                  have H' := Aside0.mk H
                  clear H
                  obtain ⟨Ao47, co47, eo47⟩ := Kd.V_slice HO_0.out
                  subst eo47
                  have q46 : (1 : Int) ≤ ((x0_2.length : Int) : Int) := of_decide_eq_true (by first | (with_reducible assumption) | assumption)
                  obtain ⟨i046, hi046, _, hsz46, _⟩ := info_parts info3
                  have hroom46 : x0_2.length ≤ co47 := (Kd.V_reads' HO_0.out).2.1
                  have hC46 : Kd.F (Kd.int .i64) _ _ Ao47 x0_2.length x0_2 := (Kd.V_at (base := w.heap.size) HO_0.out).2.2
                  have hcut46 := cut_from (P := Try.prog) 23 3 .i64 Try.underlying23 hi046 1 hsz46 Ao47 x0_2.length co47 1 (by omega) q46
                  have hr46 := Kd.F_cut (m := (1 : Int).toNat) (c := co47) hC46 (by omega) hroom46
                  obtain ⟨A46, hA46⟩ : ∃ A1, A1 = (if co47 = (1 : Int).toNat then Ao47 else (Ao47 : Option Addr).map (·.add ((1 : Int).toNat * 1))) := ⟨_, rfl⟩
                  obtain ⟨c46, hc46⟩ : ∃ c1, c1 = co47 - (1 : Int).toNat := ⟨_, rfl⟩
                  have hy46 : y246.length = x0_2.length - (1 : Int).toNat := (by rw [Ny246.out, List.length_drop] <;> omega)
                  rw [show (x0_2).drop (1 : Int).toNat = y246 from Ny246.out.symm] at hr46
                  replace hr46 : Kd.F (Kd.int .i64) _ _ A46 y246.length y246 := (by rw [hA46]; exact hr46)
                  rw [← hy46, ← hA46, ← hc46] at hcut46
                  have HO250 := Aside0.mk (show Kd.V (Kd.int .i64) 3 _ w.heap.size _ (.slice A46 y246.length c46) y246 from Kd.V_mk (by rw [hy46, hc46]; exact Nat.sub_le_sub_right hroom46 _) hr46)
                  have HC250 := Aside0.mk (show y246.length ≤ c46 from by rw [hy46, hc46]; exact Nat.sub_le_sub_right hroom46 _)
                  clear hr46 hC46 hroom46 hi046 hsz46 hc46
                  have KY46 := Aside0.mk hy46
                  have KA46 := Aside0.mk hA46
                  clear hy46 hA46
                  replace q46 := eq_true q46
                  go_wp2_with (first | ((with_reducible refine gate_callee (f := 67) rfl ?_); refine goesL_ (some 48) rfl rfl Try.func67 (by kernel_rfl) rfl #[.slice A46 y246.length c46] rfl ls ?_; (with_reducible refine (ih kj11 (by have := HJ4.out; have := HK2.out; have := HJ11.out; omega) (fun k_ => ((P0_ k_ ∨ w.heap.size ≤ k_) ∧ some k_ ≠ (u6 : Value).ownBlock)) _ _ y246 t251 t254 true _ ?side1 A21.out).mono ?_); (case side1 => exact HO250.out); rintro e w48 ⟨v252, v255, rfl, ho0, ho1, hb⟩; refine ⟨_, rfl, ?_⟩; replace HO_0 := Aside0.mk (Kd.V_elder' (rV HO_0.out) (Kd.R_base ho0) hb); have n1_ := Aside0.mk (Kd.R_elder' (rR HO_6.out) (Kd.R_base ho0) hb); replace HO250 := Aside0.mk (Kd.V_elder' (rV HO250.out) (Kd.R_base ho0) hb); have HO253 := Aside0.mk (Kd.R_lower (Kd.R_new' (Kd.R_newM (M := fun k_ => (w.heap.size ≤ k_)) (Kd.R_mono (ok' := fun k_ => True) ho0 (fun _ hk_ => trivial)) (below_size (bl HB.out)) (fun k_ h_ => h_)) (Kd.R_lt (rR HO_6.out))) (below_size (bl HB.out))); have HO256 := Aside0.mk (Kd.V_lower (Kd.V_mono (ok' := fun k_ => (P0_ k_ ∨ w.heap.size ≤ k_) ∧ some k_ ≠ (v252 : Value).ownBlock ∧ some k_ ≠ (u6 : Value).ownBlock) ho1 (fun k_ hk_ => ⟨Or.elim hk_.1 (fun hs_ => hs_.1) (fun hn_ => (.inr (Nat.le_trans (below_size (bl HB.out)) hn_))), hk_.2, Or.elim hk_.1 (fun hs_ => hs_.2) (fun hn_ => (Kd.fresh' (Kd.R_lt (rR HO_6.out)) k_ hn_))⟩)) (below_size (bl HB.out))); replace HB := Aside0.mk (below_step (bl HB.out) hb); replace HO_6 := n1_; clear n1_; (try clear hb); (try clear hb2); (try clear hk); (try clear hi); (try clear ho0); (try clear ho1); have p264 : 0 ≤ (0 : Int) := (by omega); have q264 : 0 < (x0_2.length : Int) := of_decide_eq_true (by first | (with_reducible assumption) | assumption); obtain ⟨ad264, e264, hx264_0⟩ := Kd.at_int (Kd.V_reads' HO_0.out).2.2 0 p264 q264; cases e264; have qi264 : (0 < x0_2.length) = True := eq_true (by omega); (try rw [show ((0 : Int)).toNat = 0 from rfl] at hx264_0); (try rw [Addr.add_zero'] at hx264_0); replace p264 := eq_true p264; replace q264 := eq_true q264; obtain ⟨Ao49, co49, eo49⟩ := Kd.R_slice HO253.out; subst eo49) | ((with_reducible refine gate_builtin (b := .append) (xs := #[.tmp 69, .tmp 75]) rfl ?_); at_builtin; refine Kd.R_append k70 (w0 := w) w.heap.size rfl (.tmp 69) (.tmp 75) 56 70 (.agg #[(.int .i64 0), (.slice none 0 0)]) 32 rfl Try.underlying56 info70 rfl (by decide) (by omega) u6 x6_2 (⟨rd x0_2 0, t251⟩ : S70) [.int .i64 (rd x0_2 0), .slice Ao49 t251.length co49] (fun k_ => (w.heap.size ≤ k_)) (fun k_ => ((fun k_ => (w.heap.size ≤ k_))) k_ ∧ some k_ ≠ (u6 : Value).ownBlock) rfl rfl ?aP (fun _ hk => hk) ?aF ?aO ?aB ?aS ?aL ?_; (case aP => exact k70_mkM _ _ _ (⟨rd x0_2 0, t251⟩ : S70) (Kd.R_mono (HO253.out) (fun k_ hk => ⟨hk.1.1, hk.2⟩))); (case aB => exact (bl HB.out)); (case aF => exact (fun k_ hk => (Nat.le_trans (below_size (bl HB.out)) hk))); (case aO => exact (by (with_reducible repeat (first | apply Kd.R_alloc | apply Kd.R_drewN | apply Kd.R_drew)); exact Kd.R_mono HO_6.out (fun _ hk => hk.1))); (case aS => exact (below_size (bl HB.out))); (case aL => have := LMc45.out; omega); intro v266 w50 ho hb hg hat; rw [← Ny265.out] at ho; replace HO_0 := Aside0.mk (Kd.V_afterv (ok := (fun k_ => (P0_ k_ ∨ w.heap.size ≤ k_) ∧ some k_ ≠ (.slice Ao49 t251.length co49 : Value).ownBlock)) (by (with_reducible repeat (first | apply Kd.V_alloc | apply Kd.V_drewN | apply Kd.V_drew)); exact Kd.V_mono HO_0.out (fun _ hk => ⟨⟨hk.1.1, hk.2⟩, hk.1.2⟩)) hg hat); replace HO250 := Aside0.mk (Kd.V_afterv (ok := (fun k_ => (P0_ k_ ∨ w.heap.size ≤ k_) ∧ some k_ ≠ (.slice Ao49 t251.length co49 : Value).ownBlock)) (by (with_reducible repeat (first | apply Kd.V_alloc | apply Kd.V_drewN | apply Kd.V_drew)); exact Kd.V_mono HO250.out (fun _ hk => ⟨⟨hk.1.1, hk.2⟩, hk.1.2⟩)) hg hat); replace HO256 := Aside0.mk (Kd.V_afterv (ok := (fun k_ => (P0_ k_ ∨ w.heap.size ≤ k_) ∧ some k_ ≠ (.slice Ao49 t251.length co49 : Value).ownBlock)) (by (with_reducible repeat (first | apply Kd.V_alloc | apply Kd.V_drewN | apply Kd.V_drew)); exact Kd.V_mono HO256.out (fun _ hk => ⟨⟨hk.1, hk.2.1⟩, hk.2.2⟩)) hg hat); replace HB := Aside0.mk (hb); have HO267 := Aside0.mk (ho); clear HO_6; clear HO253; clear ho hb hg hat))
                  go_roundg kj11
                  case measure => have := HJ4.out; have := HK2.out; have := HJ11.out; omega
                  case rel => exact ⟨(t254), (y265), (wrap64 (x27_2 + 1)), (by first | rfl | (simp; done) | (simp [*]; done)), H', ⟨by have := HJ4.out; have := HK2.out; have := HJ11.out; omega⟩, ⟨by (with_reducible repeat (first | apply Kd.V_alloc | apply Kd.V_drewN | apply Kd.V_drew)); exact Kd.V_mono HO256.out (fun _ hk => ⟨hk.1.1, hk.2⟩)⟩, ⟨rR HO267.out⟩, ⟨bl HB.out⟩⟩
                 ·rw [if_neg c45] at H
                  exact absurd H (by simp)
                ·rw [if_neg c44] at H
                 exact absurd H (by simp)
              ·replace c22 := Bool.eq_false_iff.mpr c22
               subst c22
               have H1 : (some (([] : List (S70)), ([] : List Int), false)) = some (r1, r2, r3) := by rw [if_neg (show ¬ (false = true) by decide)] at H; exact H
               clear H
               have H := H1
               clear H1
               simp only [Option.some.injEq, Prod.mk.injEq] at H
               obtain ⟨rfl, rfl, rfl⟩ := H
               obtain ⟨Ao52, co52, eo52⟩ := Kd.V_slice HO_0.out
               subst eo52
               have q51 : (1 : Int) ≤ ((x0_2.length : Int) : Int) := of_decide_eq_true (by first | (with_reducible assumption) | assumption)
               obtain ⟨i051, hi051, _, hsz51, _⟩ := info_parts info3
               have hroom51 : x0_2.length ≤ co52 := (Kd.V_reads' HO_0.out).2.1
               have hC51 : Kd.F (Kd.int .i64) _ _ Ao52 x0_2.length x0_2 := (Kd.V_at (base := w.heap.size) HO_0.out).2.2
               have hcut51 := cut_from (P := Try.prog) 23 3 .i64 Try.underlying23 hi051 1 hsz51 Ao52 x0_2.length co52 1 (by omega) q51
               have hr51 := Kd.F_cut (m := (1 : Int).toNat) (c := co52) hC51 (by omega) hroom51
               obtain ⟨A51, hA51⟩ : ∃ A1, A1 = (if co52 = (1 : Int).toNat then Ao52 else (Ao52 : Option Addr).map (·.add ((1 : Int).toNat * 1))) := ⟨_, rfl⟩
               obtain ⟨c51, hc51⟩ : ∃ c1, c1 = co52 - (1 : Int).toNat := ⟨_, rfl⟩
               have hy51 : y246.length = x0_2.length - (1 : Int).toNat := (by rw [Ny246.out, List.length_drop] <;> omega)
               rw [show (x0_2).drop (1 : Int).toNat = y246 from Ny246.out.symm] at hr51
               replace hr51 : Kd.F (Kd.int .i64) _ _ A51 y246.length y246 := (by rw [hA51]; exact hr51)
               rw [← hy51, ← hA51, ← hc51] at hcut51
               have HO250 := Aside0.mk (show Kd.V (Kd.int .i64) 3 _ w.heap.size _ (.slice A51 y246.length c51) y246 from Kd.V_mk (by rw [hy51, hc51]; exact Nat.sub_le_sub_right hroom51 _) hr51)
               have HC250 := Aside0.mk (show y246.length ≤ c51 from by rw [hy51, hc51]; exact Nat.sub_le_sub_right hroom51 _)
               clear hr51 hC51 hroom51 hi051 hsz51 hc51
               have KY51 := Aside0.mk hy51
               have KA51 := Aside0.mk hA51
               clear hy51 hA51
               replace q51 := eq_true q51
               go_wp2_with (first | ((with_reducible refine gate_callee (f := 67) rfl ?_); refine goesL_ (some 48) rfl rfl Try.func67 (by kernel_rfl) rfl #[.slice A51 y246.length c51] rfl ls ?_; (with_reducible refine (ih kj11 (by have := HJ4.out; have := HK2.out; have := HJ11.out; omega) (fun k_ => ((P0_ k_ ∨ w.heap.size ≤ k_) ∧ some k_ ≠ (u6 : Value).ownBlock)) _ _ y246 t251 t254 false _ ?side1 A21.out).mono ?_); (case side1 => exact HO250.out); rintro e w53 ⟨v252, v255, rfl, ho0, ho1, hb⟩; refine ⟨_, rfl, ?_⟩; replace HO_0 := Aside0.mk (Kd.V_elder' (rV HO_0.out) (Kd.R_base ho0) hb); have n1_ := Aside0.mk (Kd.R_elder' (rR HO_6.out) (Kd.R_base ho0) hb); replace HO250 := Aside0.mk (Kd.V_elder' (rV HO250.out) (Kd.R_base ho0) hb); have HO253 := Aside0.mk (Kd.R_lower (Kd.R_new' (Kd.R_newM (M := fun k_ => (w.heap.size ≤ k_)) (Kd.R_mono (ok' := fun k_ => True) ho0 (fun _ hk_ => trivial)) (below_size (bl HB.out)) (fun k_ h_ => h_)) (Kd.R_lt (rR HO_6.out))) (below_size (bl HB.out))); have HO256 := Aside0.mk (Kd.V_lower (Kd.V_mono (ok' := fun k_ => (P0_ k_ ∨ w.heap.size ≤ k_) ∧ some k_ ≠ (v252 : Value).ownBlock ∧ some k_ ≠ (u6 : Value).ownBlock) ho1 (fun k_ hk_ => ⟨Or.elim hk_.1 (fun hs_ => hs_.1) (fun hn_ => (.inr (Nat.le_trans (below_size (bl HB.out)) hn_))), hk_.2, Or.elim hk_.1 (fun hs_ => hs_.2) (fun hn_ => (Kd.fresh' (Kd.R_lt (rR HO_6.out)) k_ hn_))⟩)) (below_size (bl HB.out))); replace HB := Aside0.mk (below_step (bl HB.out) hb); replace HO_6 := n1_; clear n1_; (try clear hb); (try clear hb2); (try clear hk); (try clear hi); (try clear ho0); (try clear ho1)))
               go_ret3
               exact ⟨_, _, by first | rfl | (simp [errW_none, errW_some] <;> rfl) | (simp [*, errW_none, errW_some] <;> rfl), by first | exact Kd.R_nil _ _ _ _ _ | exact Kd.N_nil _ _ _ _ _ | exact Kd.V_nil _ _ _ _ _ | exact Kd.Q_nil _ _ _ _ _ | exact Kd.S_nil _ _ _ _ _, Kd.V_nil _ _ _ _ _, bl HB.out⟩
             ·rw [if_neg c20] at H
              exact absurd H (by simp)
         ·rw [if_neg c11] at H
          have c11b0 : decide (x27_2 < (rd l0 0)) = false := decide_eq_false c11
          clear c11
          simp only [Option.some.injEq, Prod.mk.injEq] at H
          obtain ⟨rfl, rfl, rfl⟩ := H
          go_wp2
          go_ret3
          exact ⟨_, _, by first | rfl | (simp [errW_none, errW_some] <;> rfl) | (simp [*, errW_none, errW_some] <;> rfl), by (with_reducible repeat (first | apply Kd.R_alloc | apply Kd.R_drewN | apply Kd.R_drew)); exact HO_6.out, by (with_reducible repeat (first | apply Kd.V_alloc | apply Kd.V_drewN | apply Kd.V_drew)); exact HO_0.out, bl HB.out⟩
   ·rw [if_neg c4] at H
    exact absurd H (by simp)
  ·rw [if_neg c3] at H
   exact absurd H (by simp)

/-! ### impl_ordOf: function 57 -/
def impl_ordOf.f (k : Nat) (l0 : List Int) : Option ((List (S70)) × Bool) := if (l0.length : Int) < 1 then (some (([] : List (S70)), false)) else (if (l0.length : Int) > 60 then (some (([] : List (S70)), false)) else ((impl_takeOrd.f k l0).bind fun bt268 => (if bt268.2.2 = true then (some (bt268.1, ((bt268.2.1.length : Int) == 0))) else (some (bt268.1, false)))))
theorem impl_ordOf.mono : ∀ a0 k, LeO (impl_ordOf.f k a0) (impl_ordOf.f (k + 1) a0) := by
 intro a0 k
 unfold impl_ordOf.f
 repeat' first
   | (with_reducible exact impl_takeOrd.mono _ _)
   | (with_reducible exact LeO.refl _)
   | (with_reducible exact LeO.none _)
   | (with_reducible refine LeO.ite ?_ ?_)
   | (with_reducible refine LeO.bind ?_ (fun _ => ?_))
   | exact impl_takeOrd.mono _ _
   | exact LeO.none _
   | refine LeO.ite ?_ ?_
   | refine LeO.bind ?_ (fun _ => ?_)
set_option maxHeartbeats 8000000 in
set_option maxRecDepth 100000 in
theorem impl_ordOf.calls (k : Nat) (A0 : Option Addr) (c0 : Nat) (l0 : List Int) (r1 : List (S70)) (r2 : Bool) (w : World) (hr0 : Kd.C (Kd.int .i64) w A0 l0.length l0) (hc0 : l0.length ≤ c0) (h : impl_ordOf.f k l0 = some (r1, r2)) :
  Calls Try.prog 57 #[.slice A0 l0.length c0] w fun e w' => ∃ v0_ : Value, e = .returned (.tuple #[v0_, .bool r2]) ∧ Kd.R k70 70 w' w.heap.size (fun _ => True) v0_ r1 ∧ Below w.heap.size w w' := by
 have HR0 := Aside0.mk hr0
 have HC0 := Aside0.mk hc0
 clear hr0 hc0
 have HB := Aside0.mk (Below.refl w.heap.size w)
 have H : (if (l0.length : Int) < 1 then (some (([] : List (S70)), false)) else (if (l0.length : Int) > 60 then (some (([] : List (S70)), false)) else ((impl_takeOrd.f k l0).bind fun bt268 => (if bt268.2.2 = true then (some (bt268.1, ((bt268.2.1.length : Int) == 0))) else (some (bt268.1, false)))))) = some (r1, r2) := h
 clear h
 by_cases c2 : (l0.length : Int) < 1
 ·rw [if_pos c2] at H
  have c2b0 : decide ((l0.length : Int) < 1) = true := decide_eq_true c2
  have c2b1 : decide (l0.length < 1) = true := decide_eq_true (by omega)
  clear c2
  simp only [Option.some.injEq, Prod.mk.injEq] at H
  obtain ⟨rfl, rfl⟩ := H
  go_enter Try.func57, Try.ntmps57
  go_wp2
  go_ret2
  exact ⟨_, by first | rfl | (simp [errW_none, errW_some] <;> rfl) | (simp [*, errW_none, errW_some] <;> rfl), by first | exact Kd.R_nil _ _ _ _ _ | exact Kd.N_nil _ _ _ _ _ | exact Kd.V_nil _ _ _ _ _ | exact Kd.Q_nil _ _ _ _ _ | exact Kd.S_nil _ _ _ _ _, bl HB.out⟩
 ·rw [if_neg c2] at H
  have c2b0 : decide ((l0.length : Int) < 1) = false := decide_eq_false c2
  have c2b1 : decide (l0.length < 1) = false := decide_eq_false (by omega)
  clear c2
  by_cases c3 : (l0.length : Int) > 60
  ·rw [if_pos c3] at H
   have c3b0 : decide (60 < (l0.length : Int)) = true := decide_eq_true c3
   have c3b1 : decide (60 < l0.length) = true := decide_eq_true (by omega)
   clear c3
   simp only [Option.some.injEq, Prod.mk.injEq] at H
   obtain ⟨rfl, rfl⟩ := H
   go_enter Try.func57, Try.ntmps57
   go_wp2
   go_ret2
   exact ⟨_, by first | rfl | (simp [errW_none, errW_some] <;> rfl) | (simp [*, errW_none, errW_some] <;> rfl), by first | exact Kd.R_nil _ _ _ _ _ | exact Kd.N_nil _ _ _ _ _ | exact Kd.V_nil _ _ _ _ _ | exact Kd.Q_nil _ _ _ _ _ | exact Kd.S_nil _ _ _ _ _, bl HB.out⟩
  ·rw [if_neg c3] at H
   have c3b0 : decide (60 < (l0.length : Int)) = false := decide_eq_false c3
   have c3b1 : decide (60 < l0.length) = false := decide_eq_false (by omega)
   clear c3
   replace H := Option.bind_eq_some_iff.mp H
   obtain ⟨⟨t268, t271, t274⟩, A40, H⟩ := H
   replace H : (if t274 = true then (some (t268, ((t271.length : Int) == 0))) else (some (t268, false))) = some (r1, r2) := H
   have A4 := Aside0.mk A40
   clear A40
   by_cases c5 : t274 = true
   ·subst c5
    have H1 : (some (t268, ((t271.length : Int) == 0))) = some (r1, r2) := by rw [if_pos rfl] at H; exact H
    clear H
    have H := H1
    clear H1
    simp only [Option.some.injEq, Prod.mk.injEq] at H
    obtain ⟨rfl, rfl⟩ := H
    go_enter Try.func57, Try.ntmps57
    go_wp2_with (first | ((with_reducible refine gate_callee (f := 67) rfl ?_); refine goesL_ (some 17) rfl rfl Try.func67 (by kernel_rfl) rfl #[.slice A0 l0.length c0] rfl ls ?_; (with_reducible refine (impl_takeOrd.calls k (fun k_ => k_ < w.heap.size) _ _ l0 t268 t271 true _ ?side1 A4.out).mono ?_); (case side1 => exact Kd.V_mk HC0.out (Kd.F_below (Kd.C_F (Kd.heap_int .i64) HR0.out) (bl HB.out))); rintro e w6 ⟨v269, v272, rfl, ho0, ho1, hb⟩; refine ⟨_, rfl, ?_⟩; have HO270 := Aside0.mk (Kd.R_lower (Kd.R_mono (ok' := fun k_ => True) ho0 (fun _ hk_ => trivial)) (below_size (bl HB.out))); have HO273 := Aside0.mk (Kd.V_lower (Kd.V_mono (ok' := fun k_ => some k_ ≠ (v269 : Value).ownBlock) ho1 (fun k_ hk_ => hk_.2)) (below_size (bl HB.out))); replace HB := Aside0.mk (below_step (bl HB.out) hb); (try clear hb); (try clear hb2); (try clear hk); (try clear hi); (try clear ho0); (try clear ho1); obtain ⟨Ao7, co7, eo7⟩ := Kd.V_slice HO273.out; subst eo7))
    go_ret2
    exact ⟨_, by first | rfl | (simp [errW_none, errW_some] <;> rfl) | (simp [*, errW_none, errW_some] <;> rfl), by (with_reducible repeat (first | apply Kd.R_alloc | apply Kd.R_drewN | apply Kd.R_drew)); exact HO270.out, bl HB.out⟩
   ·replace c5 := Bool.eq_false_iff.mpr c5
    subst c5
    have H1 : (some (t268, false)) = some (r1, r2) := by rw [if_neg (show ¬ (false = true) by decide)] at H; exact H
    clear H
    have H := H1
    clear H1
    simp only [Option.some.injEq, Prod.mk.injEq] at H
    obtain ⟨rfl, rfl⟩ := H
    go_enter Try.func57, Try.ntmps57
    go_wp2_with (first | ((with_reducible refine gate_callee (f := 67) rfl ?_); refine goesL_ (some 17) rfl rfl Try.func67 (by kernel_rfl) rfl #[.slice A0 l0.length c0] rfl ls ?_; (with_reducible refine (impl_takeOrd.calls k (fun k_ => k_ < w.heap.size) _ _ l0 t268 t271 false _ ?side1 A4.out).mono ?_); (case side1 => exact Kd.V_mk HC0.out (Kd.F_below (Kd.C_F (Kd.heap_int .i64) HR0.out) (bl HB.out))); rintro e w8 ⟨v269, v272, rfl, ho0, ho1, hb⟩; refine ⟨_, rfl, ?_⟩; have HO270 := Aside0.mk (Kd.R_lower (Kd.R_mono (ok' := fun k_ => True) ho0 (fun _ hk_ => trivial)) (below_size (bl HB.out))); have HO273 := Aside0.mk (Kd.V_lower (Kd.V_mono (ok' := fun k_ => some k_ ≠ (v269 : Value).ownBlock) ho1 (fun k_ hk_ => hk_.2)) (below_size (bl HB.out))); replace HB := Aside0.mk (below_step (bl HB.out) hb); (try clear hb); (try clear hb2); (try clear hk); (try clear hi); (try clear ho0); (try clear ho1)))
    go_ret2
    exact ⟨_, by first | rfl | (simp [errW_none, errW_some] <;> rfl) | (simp [*, errW_none, errW_some] <;> rfl), by (with_reducible repeat (first | apply Kd.R_alloc | apply Kd.R_drewN | apply Kd.R_drew)); exact HO270.out, bl HB.out⟩

end Go.Proofs.Ytfhniahijnkgpaa.PFnFallOk
