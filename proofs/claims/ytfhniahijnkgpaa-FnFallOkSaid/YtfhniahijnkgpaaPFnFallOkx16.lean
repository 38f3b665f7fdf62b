-- x
import Derived.Test.YtfhniahijnkgpaaPFnFallOkx0
import Derived.Test.YtfhniahijnkgpaaPFnFallOkx11
import Derived.Test.YtfhniahijnkgpaaPFnFallOkx12
import Derived.Test.YtfhniahijnkgpaaPFnFallOkx13
import Derived.Test.YtfhniahijnkgpaaPFnFallOkx15
namespace Go.Proofs.Ytfhniahijnkgpaa.PFnFallOk
open Go.RowKit Go.Proofs.YtfhniahijnkgpaaW.PrintWords Go.Proofs.YtfhniahijnkgpaaW.PrintLast Go.Proofs.YtfhniahijnkgpaaW.PrintMore
attribute [local go_sem] max2_int min2_int max_two min_two max_three min_three max_four min_four   -- for this text's walks alone
set_option linter.unusedVariables false
set_option linter.unusedSimpArgs false
theorem fb {P Q : Prop} {α : Type} {a b : α} (hy : a = b) (H : Q) (f : a = b → Q → P := by intro hy H; first | (rw [hy]; with_reducible exact H) | (have H2_ := (Option.bind_some _ _).symm.trans H; rw [hy]; with_reducible exact H2_) | (have H2_ := (Option.bind_some _ _).symm.trans H; with_reducible exact H2_) | with_reducible exact H | (rw [hy]; exact H) | exact H) : P := f hy H
theorem da {P : Prop} [Decidable P] (h : decide P = true := by first | (with_reducible assumption) | assumption) : P := of_decide_eq_true h
theorem rr {P : Prop} (h : P := by first | rfl | (simp; done) | (simp [*]; done)) : P := h
theorem er {P : Prop} (h : P := by first | rfl | (simp [errW_none, errW_some] <;> rfl) | (simp [*, errW_none, errW_some] <;> rfl)) : P := h

/-! ### spec_l20Ord: function 69 -/
mutual
def spec_l20Ord.j1 : Nat → Int → List Int → List Int → Int → Option (List Int × Int)
 | 0, _, _, _, _ => none
 | k + 1, x1, x5, x1000, x1001 => (spec_l20Rd_odd.f k x1000 x1001 x1).bind fun bt475 => (if bt475.1 = true then ((spec_l20Rd_pick.f k x1000 bt475.2 5).bind fun bt477 => (if bt477.1 = 0 then (some ((([] : List Int)), bt477.2)) else (if bt477.1 = 1 then ((some (([] : List Int) : List Int)).bind fun y482 => (if y482.length + x5.length < 17592186044416 then ((some (y482 ++ x5 : List Int)).bind fun y485 => (if y485.length < 17592186044416 then (some ((y485 ++ [0]), bt477.2)) else (none))) else (none))) else (if bt477.1 = 2 then (some ((([2, 1, 0, 1, 1, 1, 0] : List Int)), bt477.2)) else (if bt477.1 = 3 then (some ((([1, 0, 0] : List Int)), bt477.2)) else (some ((([1, 10000, 0] : List Int)), bt477.2))))))) else (some (x5, bt475.2)))
def spec_l20Ord.l0 : Nat → Int → List Int → Int → List Int → Int → Option (List Int × Int)
 | 0, _, _, _, _, _ => none
 | k + 1, x1, x5, x6, x1000, x1001 => if x6 < 4 then (if (x5.length : Int) > 24 then ((spec_l20Raw.f k x1000 x1001 2).bind fun bt471 => (spec_l20Ord.l0 k x1 bt471.1 (wrap64 (x6 + 1)) x1000 bt471.2)) else (spec_l20Ord.j1 k x1 x5 x1000 x1001)) else (spec_l20Ord.j1 k x1 x5 x1000 x1001)
end
def spec_l20Ord.f (k : Nat) (s0_0 : List Int) (s0_1 : Int) (a1 : Int) : Option (List Int × Int) := (spec_l20Raw.f k s0_0 s0_1 3).bind fun bt467 => (spec_l20Ord.l0 k a1 bt467.1 0 s0_0 bt467.2)
theorem spec_l20Ord.mono_l : ∀ k, (∀ y0 y1 y2 y3, LeO (spec_l20Ord.j1 k y0 y1 y2 y3) (spec_l20Ord.j1 (k + 1) y0 y1 y2 y3)) ∧ (∀ y0 y1 y2 y3 y4, LeO (spec_l20Ord.l0 k y0 y1 y2 y3 y4) (spec_l20Ord.l0 (k + 1) y0 y1 y2 y3 y4))
 | 0 => ⟨fun _ _ _ _ r h => by simp [spec_l20Ord.j1] at h, fun _ _ _ _ _ r h => by simp [spec_l20Ord.l0] at h⟩
 | k + 1 => by
  obtain ⟨ih0, ih1⟩ := spec_l20Ord.mono_l k
  refine ⟨?_, ?_⟩
  ·intro y0 y1 y2 y3
   unfold spec_l20Ord.j1
   repeat' first
   | (with_reducible exact ih0 _ _ _ _)
   | (with_reducible exact ih1 _ _ _ _ _)
   | (with_reducible exact spec_l20Raw.mono _ _ _ _)
   | (with_reducible exact spec_l20Rd_odd.mono _ _ _ _)
   | (with_reducible exact spec_l20Rd_pick.mono _ _ _ _)
   | (with_reducible exact LeO.refl _)
   | (with_reducible exact LeO.none _)
   | (with_reducible refine LeO.ite ?_ ?_)
   | (with_reducible refine LeO.bind ?_ (fun _ => ?_))
   | exact ih0 _ _ _ _
   | exact ih1 _ _ _ _ _
   | exact spec_l20Raw.mono _ _ _ _
   | exact spec_l20Rd_odd.mono _ _ _ _
   | exact spec_l20Rd_pick.mono _ _ _ _
   | exact LeO.none _
   | refine LeO.ite ?_ ?_
   | refine LeO.bind ?_ (fun _ => ?_)
  ·intro y0 y1 y2 y3 y4
   unfold spec_l20Ord.l0
   repeat' first
   | (with_reducible exact ih0 _ _ _ _)
   | (with_reducible exact ih1 _ _ _ _ _)
   | (with_reducible exact spec_l20Raw.mono _ _ _ _)
   | (with_reducible exact spec_l20Rd_odd.mono _ _ _ _)
   | (with_reducible exact spec_l20Rd_pick.mono _ _ _ _)
   | (with_reducible exact LeO.refl _)
   | (with_reducible exact LeO.none _)
   | (with_reducible refine LeO.ite ?_ ?_)
   | (with_reducible refine LeO.bind ?_ (fun _ => ?_))
   | exact ih0 _ _ _ _
   | exact ih1 _ _ _ _ _
   | exact spec_l20Raw.mono _ _ _ _
   | exact spec_l20Rd_odd.mono _ _ _ _
   | exact spec_l20Rd_pick.mono _ _ _ _
   | exact LeO.none _
   | refine LeO.ite ?_ ?_
   | refine LeO.bind ?_ (fun _ => ?_)
theorem spec_l20Ord.mono : ∀ a0 a1 a2 k, LeO (spec_l20Ord.f k a0 a1 a2) (spec_l20Ord.f (k + 1) a0 a1 a2) := by
 intro a0 a1 a2 k
 obtain ⟨ih0, ih1⟩ := spec_l20Ord.mono_l k
 unfold spec_l20Ord.f
 repeat' first
   | (with_reducible exact ih0 _ _ _ _)
   | (with_reducible exact ih1 _ _ _ _ _)
   | (with_reducible exact spec_l20Raw.mono _ _ _ _)
   | (with_reducible exact spec_l20Rd_odd.mono _ _ _ _)
   | (with_reducible exact spec_l20Rd_pick.mono _ _ _ _)
   | (with_reducible exact LeO.refl _)
   | (with_reducible exact LeO.none _)
   | (with_reducible refine LeO.ite ?_ ?_)
   | (with_reducible refine LeO.bind ?_ (fun _ => ?_))
   | exact ih0 _ _ _ _
   | exact ih1 _ _ _ _ _
   | exact spec_l20Raw.mono _ _ _ _
   | exact spec_l20Rd_odd.mono _ _ _ _
   | exact spec_l20Rd_pick.mono _ _ _ _
   | exact LeO.none _
   | refine LeO.ite ?_ ?_
   | refine LeO.bind ?_ (fun _ => ?_)
set_option maxHeartbeats 8000000 in
set_option maxRecDepth 100000 in
theorem spec_l20Ord.calls (k : Nat) (g : Nat) (s0_0 : List Int) (s0_1 : Int) (a1 : Int) (r1 : List Int) (r2 : Int) (w0 w : World) (hI : IsS64 w0 w g s0_0 s0_1) (hB : Below w0.heap.size w0 w) (h : spec_l20Ord.f k s0_0 s0_1 a1 = some (r1, r2)) :
  Calls Try.prog 69 #[.pointer (some ⟨g, 0, none⟩), .int .i64 a1] w fun e w' => ∃ v0_ : Value, e = .returned (v0_) ∧ Kd.R (Kd.int .i64) 3 w' w.heap.size (fun _ => True) v0_ r1 ∧ IsS64 w0 w' g s0_0 r2 ∧ Below w0.heap.size w0 w' ∧ KeepBut w w' g none := by
 have HI0 := Aside0.mk hI
 have HK := Aside0.mk (KeepBut.refl w g none)
 have HL := Aside0.mk hB.size
 clear hI
 have HW0 := Aside0.mk hB.size
 have HB := Aside0.mk hB
 clear hB
 have H : ((spec_l20Raw.f k s0_0 s0_1 3).bind fun bt467 => (spec_l20Ord.l0 k a1 bt467.1 0 s0_0 bt467.2)) = some (r1, r2) := h
 clear h
 replace H := Option.bind_eq_some_iff.mp H
 obtain ⟨⟨t467, t470⟩, A30, H⟩ := H
 replace H : (spec_l20Ord.l0 k a1 t467 0 s0_0 t470) = some (r1, r2) := H
 have A3 := Aside0.mk A30
 clear A30
 have HC4 := Aside0.mk H
 clear H
 go_enter Try.func69, Try.ntmps69
 go_upto_block 0 with (first | ((with_reducible refine gate_callee (f := 70) rfl ?_); refine goesL_ (some 8) rfl rfl Try.func70 (by kernel_rfl) rfl #[.pointer (some ⟨g, 0, none⟩), .int .i64 3] rfl ls ?_; (with_reducible refine (spec_l20Raw.calls k g s0_0 s0_1 3 t467 t470 w0 _ ?side1 ?side2 A3.out).mono ?_); (case side1 => exact is64 HI0.out); (case side2 => exact bi64 HB.out HI0.out); rintro e w5 ⟨v468, rfl, ho0, hi, hb, hk⟩; refine ⟨_, rfl, ?_⟩; have HO469 := Aside0.mk (Kd.R_lower ho0 (keep_size (w := w) (g := g) (row := none) (kb HK.out))); replace HK := Aside0.mk (KeepBut.trans (kb HK.out) hk (.inl rfl)); replace HB := Aside0.mk (hb); replace HI0 := Aside0.mk (hi); (try clear hb); (try clear hb2); (try clear hk); (try clear hi); (try clear ho0)))
 (try simp only [Act.put, List.setIfInBounds_toArray, List.set_cons_zero, List.set_cons_succ])
 go_cut [5] (fun v5 wc => ∃ (kq : Nat) (x5_3 : List Int) (x1001_3 : Int), Aside0 (spec_l20Ord.j1 kq a1 x5_3 s0_0 x1001_3 = some (r1, r2)) ∧ Aside0 (kq ≤ k) ∧ Aside0 (Kd.R (Kd.int .i64) 3 wc w.heap.size (fun _ => True) v5 x5_3) ∧ Aside0 (IsS64 w0 wc g s0_0 x1001_3) ∧ Aside0 (KeepBut w wc g none) ∧ Aside0 (Below w0.heap.size w0 wc))
 case first =>
  have H := HC4.out
  clear HC4
  have H' := Aside0.mk H
  clear H
  go_wp2
  go_loopg [5, 6] k (fun kq v5 v6 w' => ∃ (x5_1 : List Int) (x6_1 : Int) (x1001_1 : Int), v6 = .int .i64 x6_1 ∧ Aside0 (spec_l20Ord.l0 kq a1 x5_1 x6_1 s0_0 x1001_1 = some (r1, r2)) ∧ Aside0 (kq ≤ k) ∧ Aside0 (Kd.R (Kd.int .i64) 3 w' w.heap.size (fun _ => True) v5 x5_1) ∧ Aside0 (IsS64 w0 w' g s0_0 x1001_1) ∧ Aside0 (KeepBut w w' g none) ∧ Aside0 (Below w0.heap.size w0 w'))
  case atStart => exact ⟨(t467), (0), (t470), rr, H', ⟨Nat.le_refl _⟩, ⟨rR HO469.out⟩, ⟨is64 HI0.out⟩, ⟨kb HK.out⟩, ⟨bi64 HB.out HI0.out⟩⟩
  case round =>
   clear H'
   try clear p2
   obtain ⟨x5_1, x6_1, x1001_1, rfl, HA, HK1, HO_5, HI0, HK, HB⟩ := hrel
   cases gk with
   | zero => exact absurd HA.out (by simp [spec_l20Ord.l0])
   | succ k1 =>
    have H := HA.out
    clear HA
    simp only [spec_l20Ord.l0] at H
    by_cases c6 : x6_1 < 4
    ·rw [if_pos c6] at H
     have c6b0 : decide (x6_1 < 4) = true := decide_eq_true c6
     clear c6
     (first | rw [c6b0] | (simp only [i64_w, i32_w]; rw [c6b0]) | skip)
     by_cases c7 : (x5_1.length : Int) > 24
     ·rw [if_pos c7] at H
      have c7b0 : decide (24 < (x5_1.length : Int)) = true := decide_eq_true c7
      have c7b1 : decide (24 < x5_1.length) = true := decide_eq_true (by omega)
      clear c7
      replace H := Option.bind_eq_some_iff.mp H
      obtain ⟨⟨t471, t474⟩, A80, H⟩ := H
      replace H : (spec_l20Ord.l0 k1 a1 t471 (wrap64 (x6_1 + 1)) s0_0 t474) = some (r1, r2) := H
      have A8 := Aside0.mk A80
      clear A80
      have H' := Aside0.mk H
      clear H
      obtain ⟨Ao9, co9, eo9⟩ := Kd.R_slice HO_5.out
      subst eo9
      go_wp2_with (first | ((with_reducible refine gate_callee (f := 70) rfl ?_); refine goesL_ (some 19) rfl rfl Try.func70 (by kernel_rfl) rfl #[.pointer (some ⟨g, 0, none⟩), .int .i64 2] rfl ls ?_; (with_reducible refine (spec_l20Raw.calls k1 g s0_0 x1001_1 2 t471 t474 w0 _ ?side1 ?side2 A8.out).mono ?_); (case side1 => exact is64 HI0.out); (case side2 => exact bi64 HB.out HI0.out); rintro e w10 ⟨v472, rfl, ho0, hi, hb, hk⟩; refine ⟨_, rfl, ?_⟩; have n0_ := Aside0.mk (Kd.R_mono (Kd.R_told (Kd.R_oldK (IsS64.apart (show IsS64 w0 _ g s0_0 x1001_1 from is64 HI0.out) (rR HO_5.out) (by decide)) hk) (Kd.R_base ho0)) (fun _ h_ => h_.1)); have HO473 := Aside0.mk (Kd.R_lower (Kd.R_new' ho0 (Kd.R_lt (rR HO_5.out))) (keep_size (w := w) (g := g) (row := none) (kb HK.out))); replace HK := Aside0.mk (KeepBut.trans (kb HK.out) hk (.inl rfl)); replace HB := Aside0.mk (hb); replace HI0 := Aside0.mk (hi); replace HO_5 := n0_; clear n0_; (try clear hb); (try clear hb2); (try clear hk); (try clear hi); (try clear ho0)))
      go_roundg k1
      case measure => have := HK1.out; omega
      case rel => exact ⟨(t471), (wrap64 (x6_1 + 1)), (t474), rr, H', ⟨by have := HK1.out; omega⟩, ⟨by (with_reducible repeat (first | apply Kd.R_alloc | apply Kd.R_drewN | apply Kd.R_drew)); exact Kd.R_mono HO473.out (fun _ hk => trivial)⟩, ⟨is64 HI0.out⟩, ⟨kb HK.out⟩, ⟨bi64 HB.out HI0.out⟩⟩
     ·rw [if_neg c7] at H
      have c7b0 : decide (24 < (x5_1.length : Int)) = false := decide_eq_false c7
      have c7b1 : decide (24 < x5_1.length) = false := decide_eq_false (by omega)
      clear c7
      have H' := Aside0.mk H
      clear H
      obtain ⟨Ao11, co11, eo11⟩ := Kd.R_slice HO_5.out
      subst eo11
      go_wp2
      go_meet
      case rel => exact ⟨_, (x5_1), (x1001_1), H', ⟨by have := HK1.out; first | omega | exact Nat.le_refl _⟩, ⟨rR HO_5.out⟩, ⟨is64 HI0.out⟩, ⟨kb HK.out⟩, ⟨bi64 HB.out HI0.out⟩⟩
    ·rw [if_neg c6] at H
     have c6b0 : decide (x6_1 < 4) = false := decide_eq_false c6
     clear c6
     (first | rw [c6b0] | (simp only [i64_w, i32_w]; rw [c6b0]) | skip)
     have H' := Aside0.mk H
     clear H
     go_wp2
     go_meet
     case rel => exact ⟨_, (x5_1), (x1001_1), H', ⟨by have := HK1.out; first | omega | exact Nat.le_refl _⟩, ⟨rR HO_5.out⟩, ⟨is64 HI0.out⟩, ⟨kb HK.out⟩, ⟨bi64 HB.out HI0.out⟩⟩
 case rest =>
  clear HC4
  try clear p2
  try clear c6
  try clear c6b0
  try clear p6
  try clear c7
  try clear c7b0
  try clear c7b1
  try clear p2
  obtain ⟨kq, x5_3, x1001_3, HA, HJ3, HO_5, HI0, HK, HB⟩ := hcut
  cases kq with
  | zero => exact absurd HA.out (by simp [spec_l20Ord.j1])
  | succ kj3 =>
   have H := HA.out
   clear HA
   simp only [spec_l20Ord.j1] at H
   replace H := Option.bind_eq_some_iff.mp H
   obtain ⟨⟨t475, t476⟩, A120, H⟩ := H
   replace H : (if t475 = true then ((spec_l20Rd_pick.f kj3 s0_0 t476 5).bind fun bt477 => (if bt477.1 = 0 then (some ((([] : List Int)), bt477.2)) else (if bt477.1 = 1 then ((some (([] : List Int) : List Int)).bind fun y482 => (if y482.length + x5_3.length < 17592186044416 then ((some (y482 ++ x5_3 : List Int)).bind fun y485 => (if y485.length < 17592186044416 then (some ((y485 ++ [0]), bt477.2)) else (none))) else (none))) else (if bt477.1 = 2 then (some ((([2, 1, 0, 1, 1, 1, 0] : List Int)), bt477.2)) else (if bt477.1 = 3 then (some ((([1, 0, 0] : List Int)), bt477.2)) else (some ((([1, 10000, 0] : List Int)), bt477.2))))))) else (some (x5_3, t476))) = some (r1, r2) := H
   have A12 := Aside0.mk A120
   clear A120
   by_cases c13 : t475 = true
   ·subst c13
    have H1 : ((spec_l20Rd_pick.f kj3 s0_0 t476 5).bind fun bt477 => (if bt477.1 = 0 then (some ((([] : List Int)), bt477.2)) else (if bt477.1 = 1 then ((some (([] : List Int) : List Int)).bind fun y482 => (if y482.length + x5_3.length < 17592186044416 then ((some (y482 ++ x5_3 : List Int)).bind fun y485 => (if y485.length < 17592186044416 then (some ((y485 ++ [0]), bt477.2)) else (none))) else (none))) else (if bt477.1 = 2 then (some ((([2, 1, 0, 1, 1, 1, 0] : List Int)), bt477.2)) else (if bt477.1 = 3 then (some ((([1, 0, 0] : List Int)), bt477.2)) else (some ((([1, 10000, 0] : List Int)), bt477.2))))))) = some (r1, r2) := by rw [if_pos rfl] at H; exact H
    clear H
    have H := H1
    clear H1
    replace H := Option.bind_eq_some_iff.mp H
    obtain ⟨⟨t477, t478⟩, A140, H⟩ := H
    replace H : (if t477 = 0 then (some ((([] : List Int)), t478)) else (if t477 = 1 then ((some (([] : List Int) : List Int)).bind fun y482 => (if y482.length + x5_3.length < 17592186044416 then ((some (y482 ++ x5_3 : List Int)).bind fun y485 => (if y485.length < 17592186044416 then (some ((y485 ++ [0]), t478)) else (none))) else (none))) else (if t477 = 2 then (some ((([2, 1, 0, 1, 1, 1, 0] : List Int)), t478)) else (if t477 = 3 then (some ((([1, 0, 0] : List Int)), t478)) else (some ((([1, 10000, 0] : List Int)), t478)))))) = some (r1, r2) := H
    have A14 := Aside0.mk A140
    clear A140
    by_cases c15 : t477 = 0
    ·rw [if_pos c15] at H
     have c15b0 : (t477 == 0) = true := beq_iff_eq.mpr c15
     have c15b1 : (t477 != 0) = false := bne_eq_false_iff_eq.mpr c15
     clear c15
     obtain ⟨y479, hy479⟩ : ∃ y_ : List Int, y_ = (([] : List Int)) := ⟨_, rfl⟩
     replace H : (some (y479, t478)) = some (r1, r2) := fb hy479 H
     have Ny479 := Aside0.mk hy479
     clear hy479
     simp only [Option.some.injEq, Prod.mk.injEq] at H
     obtain ⟨rfl, rfl⟩ := H
     go_wp2_with (first | ((with_reducible refine gate_callee (f := 64) rfl ?_); refine goesL_ (some 22) rfl rfl Try.func64 (by kernel_rfl) rfl #[.pointer (some ⟨g, 0, none⟩), .int .i64 a1] rfl ls ?_; (with_reducible refine (spec_l20Rd_odd.calls kj3 g s0_0 x1001_3 a1 true t476 w0 _ ?side1 ?side2 A12.out).mono ?_); (case side1 => exact is64 HI0.out); (case side2 => exact bi64 HB.out HI0.out); rintro e w16 ⟨rfl, hi, hb, hk⟩; refine ⟨_, rfl, ?_⟩; replace HO_5 := Aside0.mk (Kd.R_mono (Kd.R_keep (IsS64.apart (show IsS64 w0 _ g s0_0 x1001_3 from is64 HI0.out) (rR HO_5.out) (by decide)) hk (fun _ h => h.2)) (fun _ h => h.1)); replace HK := Aside0.mk (KeepBut.trans (kb HK.out) hk (.inl rfl)); replace HB := Aside0.mk (hb); replace HI0 := Aside0.mk (hi); (try clear hb); (try clear hb2); (try clear hk); (try clear hi)) | ((with_reducible refine gate_callee (f := 49) rfl ?_); refine goesL_ (some 24) rfl rfl Try.func49 (by kernel_rfl) rfl #[.pointer (some ⟨g, 0, none⟩), .int .i64 5] rfl ls ?_; (with_reducible refine (spec_l20Rd_pick.calls kj3 g s0_0 t476 5 t477 t478 w0 _ ?side1 ?side2 A14.out).mono ?_); (case side1 => exact is64 HI0.out); (case side2 => exact bi64 HB.out HI0.out); rintro e w17 ⟨rfl, hi, hb, hk⟩; refine ⟨_, rfl, ?_⟩; replace HO_5 := Aside0.mk (Kd.R_mono (Kd.R_keep (IsS64.apart (show IsS64 w0 _ g s0_0 t476 from is64 HI0.out) (rR HO_5.out) (by decide)) hk (fun _ h => h.2)) (fun _ h => h.1)); replace HK := Aside0.mk (KeepBut.trans (kb HK.out) hk (.inl rfl)); replace HB := Aside0.mk (hb); replace HI0 := Aside0.mk (hi); (try clear hb); (try clear hb2); (try clear hk); (try clear hi)) | ((with_reducible refine gate_dst (N := 28) rfl ?_); (try (refine gate_guard (by rfl) ?_; dsimp only)); refine Kd.R_lit (Kd.int .i64) _ 3 ?hg (N := 28) ?hd (xs := ([] : List Int)) (inner := []) (ok := fun _ => True) (okp := fun _ => True) ?hr ?hp (fun _ hk => hk) trivial (Below.refl _ _) (Nat.le_refl _) (by simp) ?_; (case hd => rfl); (case hg => rfl); (case hr => first | (go_simp; done) | (go_simp; rfl)); (case hp => exact (Reps.none _ _)); intro v480 w18 ho19 hb hg_ hnew_; clear hg_ hnew_; (first | rw [← Ny479.out] at ho19 | (simp only [Int.reduceToNat] at ho19; rw [← Ny479.out] at ho19)); have n0_ := Aside0.mk (Kd.R_elder' (rR HO_5.out) (Kd.R_base ho19) hb); have HO481 := Aside0.mk (Kd.R_lower (Kd.R_new' ho19 (Kd.R_lt (rR HO_5.out))) (keep_size (w := w) (g := g) (row := none) (kb HK.out))); have n2_ := Aside0.mk (IsS64.below (is64 HI0.out) hb); replace HK := Aside0.mk (KeepBut.trans (kb HK.out) (KeepBut.of_below hb g none) (.inl rfl)); replace HB := Aside0.mk (below_step (bi64 HB.out HI0.out) hb); replace HO_5 := n0_; replace HI0 := n2_; clear n0_ n2_; clear hb ho19))
     go_ret
     exact ⟨_, er, by (with_reducible repeat (first | apply Kd.R_alloc | apply Kd.R_drewN | apply Kd.R_drew)); exact Kd.R_mono HO481.out (fun _ hk => trivial), is64 HI0.out, bi64 HB.out HI0.out, kb HK.out⟩
    ·rw [if_neg c15] at H
     have c15b0 : (t477 == 0) = false := beq_eq_false_iff_ne.mpr c15
     have c15b1 : (t477 != 0) = true := bne_iff_ne.mpr c15
     by_cases c20 : t477 = 1
     ·rw [if_pos c20] at H
      have c20b0 : (t477 == 1) = true := beq_iff_eq.mpr c20
      have c20b1 : (t477 != 1) = false := bne_eq_false_iff_eq.mpr c20
      clear c20
      obtain ⟨y482, hy482⟩ : ∃ y_ : List Int, y_ = (([] : List Int)) := ⟨_, rfl⟩
      replace H : (if y482.length + x5_3.length < 17592186044416 then ((some (y482 ++ x5_3 : List Int)).bind fun y485 => (if y485.length < 17592186044416 then (some ((y485 ++ [0]), t478)) else (none))) else (none)) = some (r1, r2) := fb hy482 H
      have Ny482 := Aside0.mk hy482
      clear hy482
      by_cases c21 : y482.length + x5_3.length < 17592186044416
      ·rw [if_pos c21] at H
       have LMc21 := Aside0.mk c21
       clear c21
       obtain ⟨y485, hy485⟩ : ∃ y_ : List Int, y_ = (y482 ++ x5_3) := ⟨_, rfl⟩
       replace H : (if y485.length < 17592186044416 then (some ((y485 ++ [0]), t478)) else (none)) = some (r1, r2) := fb hy485 H
       have Ny485 := Aside0.mk hy485
       clear hy485
       by_cases c22 : y485.length < 17592186044416
       ·rw [if_pos c22] at H
        have LMc22 := Aside0.mk c22
        clear c22
        obtain ⟨y488, hy488⟩ : ∃ y_ : List Int, y_ = (y485 ++ [0]) := ⟨_, rfl⟩
        replace H : (some (y488, t478)) = some (r1, r2) := fb hy488 H
        have Ny488 := Aside0.mk hy488
        clear hy488
        simp only [Option.some.injEq, Prod.mk.injEq] at H
        obtain ⟨rfl, rfl⟩ := H
        go_wp2_with (first | ((with_reducible refine gate_callee (f := 64) rfl ?_); refine goesL_ (some 22) rfl rfl Try.func64 (by kernel_rfl) rfl #[.pointer (some ⟨g, 0, none⟩), .int .i64 a1] rfl ls ?_; (with_reducible refine (spec_l20Rd_odd.calls kj3 g s0_0 x1001_3 a1 true t476 w0 _ ?side1 ?side2 A12.out).mono ?_); (case side1 => exact is64 HI0.out); (case side2 => exact bi64 HB.out HI0.out); rintro e w23 ⟨rfl, hi, hb, hk⟩; refine ⟨_, rfl, ?_⟩; replace HO_5 := Aside0.mk (Kd.R_mono (Kd.R_keep (IsS64.apart (show IsS64 w0 _ g s0_0 x1001_3 from is64 HI0.out) (rR HO_5.out) (by decide)) hk (fun _ h => h.2)) (fun _ h => h.1)); replace HK := Aside0.mk (KeepBut.trans (kb HK.out) hk (.inl rfl)); replace HB := Aside0.mk (hb); replace HI0 := Aside0.mk (hi); (try clear hb); (try clear hb2); (try clear hk); (try clear hi)) | ((with_reducible refine gate_callee (f := 49) rfl ?_); refine goesL_ (some 24) rfl rfl Try.func49 (by kernel_rfl) rfl #[.pointer (some ⟨g, 0, none⟩), .int .i64 5] rfl ls ?_; (with_reducible refine (spec_l20Rd_pick.calls kj3 g s0_0 t476 5 t477 t478 w0 _ ?side1 ?side2 A14.out).mono ?_); (case side1 => exact is64 HI0.out); (case side2 => exact bi64 HB.out HI0.out); rintro e w24 ⟨rfl, hi, hb, hk⟩; refine ⟨_, rfl, ?_⟩; replace HO_5 := Aside0.mk (Kd.R_mono (Kd.R_keep (IsS64.apart (show IsS64 w0 _ g s0_0 t476 from is64 HI0.out) (rR HO_5.out) (by decide)) hk (fun _ h => h.2)) (fun _ h => h.1)); replace HK := Aside0.mk (KeepBut.trans (kb HK.out) hk (.inl rfl)); replace HB := Aside0.mk (hb); replace HI0 := Aside0.mk (hi); (try clear hb); (try clear hb2); (try clear hk); (try clear hi)) | ((with_reducible refine gate_dst (N := 31) rfl ?_); (try (refine gate_guard (by rfl) ?_; dsimp only)); refine Kd.R_lit (Kd.int .i64) _ 3 ?hg (N := 31) ?hd (xs := ([] : List Int)) (inner := []) (ok := fun _ => True) (okp := fun _ => True) ?hr ?hp (fun _ hk => hk) trivial (Below.refl _ _) (Nat.le_refl _) (by simp) ?_; (case hd => rfl); (case hg => rfl); (case hr => first | (go_simp; done) | (go_simp; rfl)); (case hp => exact (Reps.none _ _)); intro v483 w25 ho26 hb hg_ hnew_; clear hg_ hnew_; (first | rw [← Ny482.out] at ho26 | (simp only [Int.reduceToNat] at ho26; rw [← Ny482.out] at ho26)); have n0_ := Aside0.mk (Kd.R_elder' (rR HO_5.out) (Kd.R_base ho26) hb); have HO484 := Aside0.mk (Kd.R_lower (Kd.R_new' ho26 (Kd.R_lt (rR HO_5.out))) (keep_size (w := w) (g := g) (row := none) (kb HK.out))); have n2_ := Aside0.mk (IsS64.below (is64 HI0.out) hb); replace HK := Aside0.mk (KeepBut.trans (kb HK.out) (KeepBut.of_below hb g none) (.inl rfl)); replace HB := Aside0.mk (below_step (bi64 HB.out HI0.out) hb); replace HO_5 := n0_; replace HI0 := n2_; clear n0_ n2_; clear hb ho26; obtain ⟨Ao28, co28, eo28⟩ := Kd.R_slice HO_5.out; subst eo28) | ((with_reducible refine gate_builtin (b := .append) (xs := #[.tmp 31, .tmp 32]) rfl ?_); (try (refine gate_guard (by rfl) ?_; dsimp only)); at_builtin; refine Kd.R_append_rows (Kd.int .i64) w.heap.size rfl (.tmp 31) (.tmp 32) 23 3 (.int .i64 0) 8 rfl Try.underlying23 info3 rfl (by decide) (by omega) v483 y482 x5_3 _ _ _ (fun k_ => some k_ ≠ (.slice Ao28 x5_3.length co28 : Value).ownBlock) (fun _ => False) rfl rfl ?aO ?aR (fun _ _ h => h) (fun _ h => h.elim) ?aF (Below.refl _ _) ?aS ?aL ?_; (case aR => repeat (first | exact (Kd.R_reads' HO_5.out).2.2 | (with_reducible refine Kd.C_alloc ?_ _) | (with_reducible refine Kd.C_drewN ?_ _) | (with_reducible refine Kd.C_drew ?_))); (case aF => exact (fun k_ hk => Kd.fresh' (Kd.R_lt (rR HO_5.out)) k_ hk)); (case aO => exact (by (with_reducible repeat (first | apply Kd.R_alloc | apply Kd.R_drewN | apply Kd.R_drew)); exact Kd.R_mono HO484.out (fun _ hk => hk.2))); (case aS => exact (keep_size (w := w) (g := g) (row := none) (kb HK.out))); (case aL => have := LMc21.out; omega); intro v486 w27 ho hb hg hat; rw [← Ny485.out] at ho; replace HO_5 := Aside0.mk (Kd.R_after (ok := (fun _ => True)) (rR HO_5.out) hg hat); have n1_ := Aside0.mk (IsS64.grown (is64 HI0.out) hg (IsS64.own_ne HI0.out HO484.out (by decide))); replace HB := Aside0.mk (below_weaken (bi64 HB.out HI0.out) HL.out hb); replace HK := Aside0.mk (KeepBut.trans (kb HK.out) (KeepBut.of_grown hg g) (Kd.R_base2 HO484.out)); have HO487 := Aside0.mk (ho); clear HO484; replace HI0 := n1_; clear n1_; clear ho hb hg hat) | ((with_reducible refine gate_builtin (b := .append) (xs := #[.tmp 33, .tmp 34]) rfl ?_); (try (refine gate_guard (by rfl) ?_; dsimp only)); at_builtin; refine Kd.R_append (Kd.int .i64) w.heap.size rfl (.tmp 33) (.tmp 34) 23 3 (.int .i64 0) 8 rfl Try.underlying23 info3 rfl (by decide) (by omega) v486 y485 0 [.int .i64 0] (fun k_ => some k_ ≠ (.slice Ao28 x5_3.length co28 : Value).ownBlock) (fun _ => False) rfl rfl ?aP (fun _ hk => hk.elim) ?aF ?aO (Below.refl _ _) ?aS ?aL ?_; (case aP => exact rfl); (case aF => exact (fun k_ hk => Kd.fresh' (Kd.R_lt (rR HO_5.out)) k_ hk)); (case aO => exact (rR HO487.out)); (case aS => exact (keep_size (w := w) (g := g) (row := none) (kb HK.out))); (case aL => have := LMc22.out; omega); intro v489 w29 ho hb hg hat; rw [← Ny488.out] at ho; replace HO_5 := Aside0.mk (Kd.R_after (ok := (fun _ => True)) (rR HO_5.out) hg hat); have n1_ := Aside0.mk (IsS64.grown (is64 HI0.out) hg (IsS64.own_ne HI0.out HO487.out (by decide))); replace HB := Aside0.mk (below_weaken (bi64 HB.out HI0.out) HL.out hb); replace HK := Aside0.mk (KeepBut.trans (kb HK.out) (KeepBut.of_grown hg g) (Kd.R_base2 HO487.out)); have HO490 := Aside0.mk (ho); clear HO487; replace HI0 := n1_; clear n1_; clear ho hb hg hat))
        go_ret
        exact ⟨_, er, by (with_reducible repeat (first | apply Kd.R_alloc | apply Kd.R_drewN | apply Kd.R_drew)); exact Kd.R_mono HO490.out (fun _ hk => trivial), is64 HI0.out, bi64 HB.out HI0.out, kb HK.out⟩
       ·rw [if_neg c22] at H
        exact absurd H (by simp)
      ·rw [if_neg c21] at H
       exact absurd H (by simp)
     ·rw [if_neg c20] at H
      have c20b0 : (t477 == 1) = false := beq_eq_false_iff_ne.mpr c20
      have c20b1 : (t477 != 1) = true := bne_iff_ne.mpr c20
      by_cases c30 : t477 = 2
      ·rw [if_pos c30] at H
       have c30b0 : (t477 == 2) = true := beq_iff_eq.mpr c30
       have c30b1 : (t477 != 2) = false := bne_eq_false_iff_eq.mpr c30
       clear c30
       obtain ⟨y491, hy491⟩ : ∃ y_ : List Int, y_ = (([2, 1, 0, 1, 1, 1, 0] : List Int)) := ⟨_, rfl⟩
       replace H : (some (y491, t478)) = some (r1, r2) := fb hy491 H
       have Ny491 := Aside0.mk hy491
       clear hy491
       simp only [Option.some.injEq, Prod.mk.injEq] at H
       obtain ⟨rfl, rfl⟩ := H
       go_wp2_with (first | ((with_reducible refine gate_callee (f := 64) rfl ?_); refine goesL_ (some 22) rfl rfl Try.func64 (by kernel_rfl) rfl #[.pointer (some ⟨g, 0, none⟩), .int .i64 a1] rfl ls ?_; (with_reducible refine (spec_l20Rd_odd.calls kj3 g s0_0 x1001_3 a1 true t476 w0 _ ?side1 ?side2 A12.out).mono ?_); (case side1 => exact is64 HI0.out); (case side2 => exact bi64 HB.out HI0.out); rintro e w31 ⟨rfl, hi, hb, hk⟩; refine ⟨_, rfl, ?_⟩; replace HO_5 := Aside0.mk (Kd.R_mono (Kd.R_keep (IsS64.apart (show IsS64 w0 _ g s0_0 x1001_3 from is64 HI0.out) (rR HO_5.out) (by decide)) hk (fun _ h => h.2)) (fun _ h => h.1)); replace HK := Aside0.mk (KeepBut.trans (kb HK.out) hk (.inl rfl)); replace HB := Aside0.mk (hb); replace HI0 := Aside0.mk (hi); (try clear hb); (try clear hb2); (try clear hk); (try clear hi)) | ((with_reducible refine gate_callee (f := 49) rfl ?_); refine goesL_ (some 24) rfl rfl Try.func49 (by kernel_rfl) rfl #[.pointer (some ⟨g, 0, none⟩), .int .i64 5] rfl ls ?_; (with_reducible refine (spec_l20Rd_pick.calls kj3 g s0_0 t476 5 t477 t478 w0 _ ?side1 ?side2 A14.out).mono ?_); (case side1 => exact is64 HI0.out); (case side2 => exact bi64 HB.out HI0.out); rintro e w32 ⟨rfl, hi, hb, hk⟩; refine ⟨_, rfl, ?_⟩; replace HO_5 := Aside0.mk (Kd.R_mono (Kd.R_keep (IsS64.apart (show IsS64 w0 _ g s0_0 t476 from is64 HI0.out) (rR HO_5.out) (by decide)) hk (fun _ h => h.2)) (fun _ h => h.1)); replace HK := Aside0.mk (KeepBut.trans (kb HK.out) hk (.inl rfl)); replace HB := Aside0.mk (hb); replace HI0 := Aside0.mk (hi); (try clear hb); (try clear hb2); (try clear hk); (try clear hi)) | ((with_reducible refine gate_dst (N := 38) rfl ?_); (try (refine gate_guard (by rfl) ?_; dsimp only)); refine Kd.R_lit (Kd.int .i64) _ 3 ?hg (N := 38) ?hd (xs := ([2, 1, 0, 1, 1, 1, 0] : List Int)) (inner := [.int .i64 2, .int .i64 1, .int .i64 0, .int .i64 1, .int .i64 1, .int .i64 1, .int .i64 0]) (ok := fun _ => True) (okp := fun _ => True) ?hr ?hp (fun _ hk => hk) trivial (Below.refl _ _) (Nat.le_refl _) (by simp) ?_; (case hd => rfl); (case hg => rfl); (case hr => first | (go_simp; done) | (go_simp; rfl)); (case hp => exact (Reps.one (show Kd.M (Kd.int .i64) _ _ _ 2 [.int .i64 2] from rfl) (Reps.one (show Kd.M (Kd.int .i64) _ _ _ 1 [.int .i64 1] from rfl) (Reps.one (show Kd.M (Kd.int .i64) _ _ _ 0 [.int .i64 0] from rfl) (Reps.one (show Kd.M (Kd.int .i64) _ _ _ 1 [.int .i64 1] from rfl) (Reps.one (show Kd.M (Kd.int .i64) _ _ _ 1 [.int .i64 1] from rfl) (Reps.one (show Kd.M (Kd.int .i64) _ _ _ 1 [.int .i64 1] from rfl) (Reps.one (show Kd.M (Kd.int .i64) _ _ _ 0 [.int .i64 0] from rfl) (Reps.none _ _))))))))); intro v492 w33 ho34 hb hg_ hnew_; clear hg_ hnew_; (first | rw [← Ny491.out] at ho34 | (simp only [Int.reduceToNat] at ho34; rw [← Ny491.out] at ho34)); have n0_ := Aside0.mk (Kd.R_elder' (rR HO_5.out) (Kd.R_base ho34) hb); have HO493 := Aside0.mk (Kd.R_lower (Kd.R_new' ho34 (Kd.R_lt (rR HO_5.out))) (keep_size (w := w) (g := g) (row := none) (kb HK.out))); have n2_ := Aside0.mk (IsS64.below (is64 HI0.out) hb); replace HK := Aside0.mk (KeepBut.trans (kb HK.out) (KeepBut.of_below hb g none) (.inl rfl)); replace HB := Aside0.mk (below_step (bi64 HB.out HI0.out) hb); replace HO_5 := n0_; replace HI0 := n2_; clear n0_ n2_; clear hb ho34))
       go_ret
       exact ⟨_, er, by (with_reducible repeat (first | apply Kd.R_alloc | apply Kd.R_drewN | apply Kd.R_drew)); exact Kd.R_mono HO493.out (fun _ hk => trivial), is64 HI0.out, bi64 HB.out HI0.out, kb HK.out⟩
      ·rw [if_neg c30] at H
       have c30b0 : (t477 == 2) = false := beq_eq_false_iff_ne.mpr c30
       have c30b1 : (t477 != 2) = true := bne_iff_ne.mpr c30
       by_cases c35 : t477 = 3
       ·rw [if_pos c35] at H
        have c35b0 : (t477 == 3) = true := beq_iff_eq.mpr c35
        have c35b1 : (t477 != 3) = false := bne_eq_false_iff_eq.mpr c35
        clear c35
        obtain ⟨y494, hy494⟩ : ∃ y_ : List Int, y_ = (([1, 0, 0] : List Int)) := ⟨_, rfl⟩
        replace H : (some (y494, t478)) = some (r1, r2) := fb hy494 H
        have Ny494 := Aside0.mk hy494
        clear hy494
        simp only [Option.some.injEq, Prod.mk.injEq] at H
        obtain ⟨rfl, rfl⟩ := H
        go_wp2_with (first | ((with_reducible refine gate_callee (f := 64) rfl ?_); refine goesL_ (some 22) rfl rfl Try.func64 (by kernel_rfl) rfl #[.pointer (some ⟨g, 0, none⟩), .int .i64 a1] rfl ls ?_; (with_reducible refine (spec_l20Rd_odd.calls kj3 g s0_0 x1001_3 a1 true t476 w0 _ ?side1 ?side2 A12.out).mono ?_); (case side1 => exact is64 HI0.out); (case side2 => exact bi64 HB.out HI0.out); rintro e w36 ⟨rfl, hi, hb, hk⟩; refine ⟨_, rfl, ?_⟩; replace HO_5 := Aside0.mk (Kd.R_mono (Kd.R_keep (IsS64.apart (show IsS64 w0 _ g s0_0 x1001_3 from is64 HI0.out) (rR HO_5.out) (by decide)) hk (fun _ h => h.2)) (fun _ h => h.1)); replace HK := Aside0.mk (KeepBut.trans (kb HK.out) hk (.inl rfl)); replace HB := Aside0.mk (hb); replace HI0 := Aside0.mk (hi); (try clear hb); (try clear hb2); (try clear hk); (try clear hi)) | ((with_reducible refine gate_callee (f := 49) rfl ?_); refine goesL_ (some 24) rfl rfl Try.func49 (by kernel_rfl) rfl #[.pointer (some ⟨g, 0, none⟩), .int .i64 5] rfl ls ?_; (with_reducible refine (spec_l20Rd_pick.calls kj3 g s0_0 t476 5 t477 t478 w0 _ ?side1 ?side2 A14.out).mono ?_); (case side1 => exact is64 HI0.out); (case side2 => exact bi64 HB.out HI0.out); rintro e w37 ⟨rfl, hi, hb, hk⟩; refine ⟨_, rfl, ?_⟩; replace HO_5 := Aside0.mk (Kd.R_mono (Kd.R_keep (IsS64.apart (show IsS64 w0 _ g s0_0 t476 from is64 HI0.out) (rR HO_5.out) (by decide)) hk (fun _ h => h.2)) (fun _ h => h.1)); replace HK := Aside0.mk (KeepBut.trans (kb HK.out) hk (.inl rfl)); replace HB := Aside0.mk (hb); replace HI0 := Aside0.mk (hi); (try clear hb); (try clear hb2); (try clear hk); (try clear hi)) | ((with_reducible refine gate_dst (N := 41) rfl ?_); (try (refine gate_guard (by rfl) ?_; dsimp only)); refine Kd.R_lit (Kd.int .i64) _ 3 ?hg (N := 41) ?hd (xs := ([1, 0, 0] : List Int)) (inner := [.int .i64 1, .int .i64 0, .int .i64 0]) (ok := fun _ => True) (okp := fun _ => True) ?hr ?hp (fun _ hk => hk) trivial (Below.refl _ _) (Nat.le_refl _) (by simp) ?_; (case hd => rfl); (case hg => rfl); (case hr => first | (go_simp; done) | (go_simp; rfl)); (case hp => exact (Reps.one (show Kd.M (Kd.int .i64) _ _ _ 1 [.int .i64 1] from rfl) (Reps.one (show Kd.M (Kd.int .i64) _ _ _ 0 [.int .i64 0] from rfl) (Reps.one (show Kd.M (Kd.int .i64) _ _ _ 0 [.int .i64 0] from rfl) (Reps.none _ _))))); intro v495 w38 ho39 hb hg_ hnew_; clear hg_ hnew_; (first | rw [← Ny494.out] at ho39 | (simp only [Int.reduceToNat] at ho39; rw [← Ny494.out] at ho39)); have n0_ := Aside0.mk (Kd.R_elder' (rR HO_5.out) (Kd.R_base ho39) hb); have HO496 := Aside0.mk (Kd.R_lower (Kd.R_new' ho39 (Kd.R_lt (rR HO_5.out))) (keep_size (w := w) (g := g) (row := none) (kb HK.out))); have n2_ := Aside0.mk (IsS64.below (is64 HI0.out) hb); replace HK := Aside0.mk (KeepBut.trans (kb HK.out) (KeepBut.of_below hb g none) (.inl rfl)); replace HB := Aside0.mk (below_step (bi64 HB.out HI0.out) hb); replace HO_5 := n0_; replace HI0 := n2_; clear n0_ n2_; clear hb ho39))
        go_ret
        exact ⟨_, er, by (with_reducible repeat (first | apply Kd.R_alloc | apply Kd.R_drewN | apply Kd.R_drew)); exact Kd.R_mono HO496.out (fun _ hk => trivial), is64 HI0.out, bi64 HB.out HI0.out, kb HK.out⟩
       ·rw [if_neg c35] at H
        have c35b0 : (t477 == 3) = false := beq_eq_false_iff_ne.mpr c35
        have c35b1 : (t477 != 3) = true := bne_iff_ne.mpr c35
        obtain ⟨y497, hy497⟩ : ∃ y_ : List Int, y_ = (([1, 10000, 0] : List Int)) := ⟨_, rfl⟩
        replace H : (some (y497, t478)) = some (r1, r2) := fb hy497 H
        have Ny497 := Aside0.mk hy497
        clear hy497
        simp only [Option.some.injEq, Prod.mk.injEq] at H
        obtain ⟨rfl, rfl⟩ := H
        go_wp2_with (first | ((with_reducible refine gate_callee (f := 64) rfl ?_); refine goesL_ (some 22) rfl rfl Try.func64 (by kernel_rfl) rfl #[.pointer (some ⟨g, 0, none⟩), .int .i64 a1] rfl ls ?_; (with_reducible refine (spec_l20Rd_odd.calls kj3 g s0_0 x1001_3 a1 true t476 w0 _ ?side1 ?side2 A12.out).mono ?_); (case side1 => exact is64 HI0.out); (case side2 => exact bi64 HB.out HI0.out); rintro e w40 ⟨rfl, hi, hb, hk⟩; refine ⟨_, rfl, ?_⟩; replace HO_5 := Aside0.mk (Kd.R_mono (Kd.R_keep (IsS64.apart (show IsS64 w0 _ g s0_0 x1001_3 from is64 HI0.out) (rR HO_5.out) (by decide)) hk (fun _ h => h.2)) (fun _ h => h.1)); replace HK := Aside0.mk (KeepBut.trans (kb HK.out) hk (.inl rfl)); replace HB := Aside0.mk (hb); replace HI0 := Aside0.mk (hi); (try clear hb); (try clear hb2); (try clear hk); (try clear hi)) | ((with_reducible refine gate_callee (f := 49) rfl ?_); refine goesL_ (some 24) rfl rfl Try.func49 (by kernel_rfl) rfl #[.pointer (some ⟨g, 0, none⟩), .int .i64 5] rfl ls ?_; (with_reducible refine (spec_l20Rd_pick.calls kj3 g s0_0 t476 5 t477 t478 w0 _ ?side1 ?side2 A14.out).mono ?_); (case side1 => exact is64 HI0.out); (case side2 => exact bi64 HB.out HI0.out); rintro e w41 ⟨rfl, hi, hb, hk⟩; refine ⟨_, rfl, ?_⟩; replace HO_5 := Aside0.mk (Kd.R_mono (Kd.R_keep (IsS64.apart (show IsS64 w0 _ g s0_0 t476 from is64 HI0.out) (rR HO_5.out) (by decide)) hk (fun _ h => h.2)) (fun _ h => h.1)); replace HK := Aside0.mk (KeepBut.trans (kb HK.out) hk (.inl rfl)); replace HB := Aside0.mk (hb); replace HI0 := Aside0.mk (hi); (try clear hb); (try clear hb2); (try clear hk); (try clear hi)) | ((with_reducible refine gate_dst (N := 25) rfl ?_); (try (refine gate_guard (by rfl) ?_; dsimp only)); refine Kd.R_lit (Kd.int .i64) _ 3 ?hg (N := 25) ?hd (xs := ([1, 10000, 0] : List Int)) (inner := [.int .i64 1, .int .i64 10000, .int .i64 0]) (ok := fun _ => True) (okp := fun _ => True) ?hr ?hp (fun _ hk => hk) trivial (Below.refl _ _) (Nat.le_refl _) (by simp) ?_; (case hd => rfl); (case hg => rfl); (case hr => first | (go_simp; done) | (go_simp; rfl)); (case hp => exact (Reps.one (show Kd.M (Kd.int .i64) _ _ _ 1 [.int .i64 1] from rfl) (Reps.one (show Kd.M (Kd.int .i64) _ _ _ 10000 [.int .i64 10000] from rfl) (Reps.one (show Kd.M (Kd.int .i64) _ _ _ 0 [.int .i64 0] from rfl) (Reps.none _ _))))); intro v498 w42 ho43 hb hg_ hnew_; clear hg_ hnew_; (first | rw [← Ny497.out] at ho43 | (simp only [Int.reduceToNat] at ho43; rw [← Ny497.out] at ho43)); have n0_ := Aside0.mk (Kd.R_elder' (rR HO_5.out) (Kd.R_base ho43) hb); have HO499 := Aside0.mk (Kd.R_lower (Kd.R_new' ho43 (Kd.R_lt (rR HO_5.out))) (keep_size (w := w) (g := g) (row := none) (kb HK.out))); have n2_ := Aside0.mk (IsS64.below (is64 HI0.out) hb); replace HK := Aside0.mk (KeepBut.trans (kb HK.out) (KeepBut.of_below hb g none) (.inl rfl)); replace HB := Aside0.mk (below_step (bi64 HB.out HI0.out) hb); replace HO_5 := n0_; replace HI0 := n2_; clear n0_ n2_; clear hb ho43))
        go_ret
        exact ⟨_, er, by (with_reducible repeat (first | apply Kd.R_alloc | apply Kd.R_drewN | apply Kd.R_drew)); exact Kd.R_mono HO499.out (fun _ hk => trivial), is64 HI0.out, bi64 HB.out HI0.out, kb HK.out⟩
   ·replace c13 := Bool.eq_false_iff.mpr c13
    subst c13
    have H1 : (some (x5_3, t476)) = some (r1, r2) := by rw [if_neg (show ¬ (false = true) by decide)] at H; exact H
    clear H
    have H := H1
    clear H1
    simp only [Option.some.injEq, Prod.mk.injEq] at H
    obtain ⟨rfl, rfl⟩ := H
    go_wp2_with (first | ((with_reducible refine gate_callee (f := 64) rfl ?_); refine goesL_ (some 22) rfl rfl Try.func64 (by kernel_rfl) rfl #[.pointer (some ⟨g, 0, none⟩), .int .i64 a1] rfl ls ?_; (with_reducible refine (spec_l20Rd_odd.calls kj3 g s0_0 x1001_3 a1 false t476 w0 _ ?side1 ?side2 A12.out).mono ?_); (case side1 => exact is64 HI0.out); (case side2 => exact bi64 HB.out HI0.out); rintro e w44 ⟨rfl, hi, hb, hk⟩; refine ⟨_, rfl, ?_⟩; replace HO_5 := Aside0.mk (Kd.R_mono (Kd.R_keep (IsS64.apart (show IsS64 w0 _ g s0_0 x1001_3 from is64 HI0.out) (rR HO_5.out) (by decide)) hk (fun _ h => h.2)) (fun _ h => h.1)); replace HK := Aside0.mk (KeepBut.trans (kb HK.out) hk (.inl rfl)); replace HB := Aside0.mk (hb); replace HI0 := Aside0.mk (hi); (try clear hb); (try clear hb2); (try clear hk); (try clear hi)))
    go_ret
    exact ⟨_, er, by (with_reducible repeat (first | apply Kd.R_alloc | apply Kd.R_drewN | apply Kd.R_drew)); exact HO_5.out, is64 HI0.out, bi64 HB.out HI0.out, kb HK.out⟩

/-! ### spec_l20Little: function 61 -/
def spec_l20Little.l0 : Nat → List Int → Int → List Int → Int → Option (List Int × Int)
 | 0, _, _, _, _ => none
 | k + 1, x5, x6, x1000, x1001 => if x6 < 4 then (if (x5.length : Int) > 16 then ((spec_l20Raw.f k x1000 x1001 1).bind fun bt510 => (spec_l20Little.l0 k bt510.1 (wrap64 (x6 + 1)) x1000 bt510.2)) else (some (x5, x1001))) else (some (x5, x1001))
def spec_l20Little.f (k : Nat) (s0_0 : List Int) (s0_1 : Int) (a1 : Int) : Option (List Int × Int) := (spec_l20Rd_odd.f k s0_0 s0_1 a1).bind fun bt500 => (if bt500.1 = true then ((spec_l20Ord.f k s0_0 bt500.2 1).bind fun bt502 => (some (bt502.1, bt502.2))) else ((spec_l20Raw.f k s0_0 bt500.2 2).bind fun bt506 => (spec_l20Little.l0 k bt506.1 0 s0_0 bt506.2)))
theorem spec_l20Little.mono_l : ∀ k, (∀ y0 y1 y2 y3, LeO (spec_l20Little.l0 k y0 y1 y2 y3) (spec_l20Little.l0 (k + 1) y0 y1 y2 y3))
 | 0 => fun _ _ _ _ r h => by simp [spec_l20Little.l0] at h
 | k + 1 => by
  have ih0 := spec_l20Little.mono_l k
  ·intro y0 y1 y2 y3
   unfold spec_l20Little.l0
   repeat' first
   | (with_reducible exact ih0 _ _ _ _)
   | (with_reducible exact spec_l20Ord.mono _ _ _ _)
   | (with_reducible exact spec_l20Raw.mono _ _ _ _)
   | (with_reducible exact spec_l20Rd_odd.mono _ _ _ _)
   | (with_reducible exact LeO.refl _)
   | (with_reducible exact LeO.none _)
   | (with_reducible refine LeO.ite ?_ ?_)
   | (with_reducible refine LeO.bind ?_ (fun _ => ?_))
   | exact ih0 _ _ _ _
   | exact spec_l20Ord.mono _ _ _ _
   | exact spec_l20Raw.mono _ _ _ _
   | exact spec_l20Rd_odd.mono _ _ _ _
   | exact LeO.none _
   | refine LeO.ite ?_ ?_
   | refine LeO.bind ?_ (fun _ => ?_)
theorem spec_l20Little.mono : ∀ a0 a1 a2 k, LeO (spec_l20Little.f k a0 a1 a2) (spec_l20Little.f (k + 1) a0 a1 a2) := by
 intro a0 a1 a2 k
 have ih0 := spec_l20Little.mono_l k
 unfold spec_l20Little.f
 repeat' first
   | (with_reducible exact ih0 _ _ _ _)
   | (with_reducible exact spec_l20Ord.mono _ _ _ _)
   | (with_reducible exact spec_l20Raw.mono _ _ _ _)
   | (with_reducible exact spec_l20Rd_odd.mono _ _ _ _)
   | (with_reducible exact LeO.refl _)
   | (with_reducible exact LeO.none _)
   | (with_reducible refine LeO.ite ?_ ?_)
   | (with_reducible refine LeO.bind ?_ (fun _ => ?_))
   | exact ih0 _ _ _ _
   | exact spec_l20Ord.mono _ _ _ _
   | exact spec_l20Raw.mono _ _ _ _
   | exact spec_l20Rd_odd.mono _ _ _ _
   | exact LeO.none _
   | refine LeO.ite ?_ ?_
   | refine LeO.bind ?_ (fun _ => ?_)
set_option maxHeartbeats 8000000 in
set_option maxRecDepth 100000 in
theorem spec_l20Little.calls (k : Nat) (g : Nat) (s0_0 : List Int) (s0_1 : Int) (a1 : Int) (r1 : List Int) (r2 : Int) (w0 w : World) (hI : IsS64 w0 w g s0_0 s0_1) (hB : Below w0.heap.size w0 w) (h : spec_l20Little.f k s0_0 s0_1 a1 = some (r1, r2)) :
  Calls Try.prog 61 #[.pointer (some ⟨g, 0, none⟩), .int .i64 a1] w fun e w' => ∃ v0_ : Value, e = .returned (v0_) ∧ Kd.R (Kd.int .i64) 3 w' w.heap.size (fun _ => True) v0_ r1 ∧ IsS64 w0 w' g s0_0 r2 ∧ Below w0.heap.size w0 w' ∧ KeepBut w w' g none := by
 have HI0 := Aside0.mk hI
 have HK := Aside0.mk (KeepBut.refl w g none)
 have HL := Aside0.mk hB.size
 clear hI
 have HW0 := Aside0.mk hB.size
 have HB := Aside0.mk hB
 clear hB
 have H : ((spec_l20Rd_odd.f k s0_0 s0_1 a1).bind fun bt500 => (if bt500.1 = true then ((spec_l20Ord.f k s0_0 bt500.2 1).bind fun bt502 => (some (bt502.1, bt502.2))) else ((spec_l20Raw.f k s0_0 bt500.2 2).bind fun bt506 => (spec_l20Little.l0 k bt506.1 0 s0_0 bt506.2)))) = some (r1, r2) := h
 clear h
 replace H := Option.bind_eq_some_iff.mp H
 obtain ⟨⟨t500, t501⟩, A30, H⟩ := H
 replace H : (if t500 = true then ((spec_l20Ord.f k s0_0 t501 1).bind fun bt502 => (some (bt502.1, bt502.2))) else ((spec_l20Raw.f k s0_0 t501 2).bind fun bt506 => (spec_l20Little.l0 k bt506.1 0 s0_0 bt506.2))) = some (r1, r2) := H
 have A3 := Aside0.mk A30
 clear A30
 by_cases c4 : t500 = true
 ·subst c4
  have H1 : ((spec_l20Ord.f k s0_0 t501 1).bind fun bt502 => (some (bt502.1, bt502.2))) = some (r1, r2) := by rw [if_pos rfl] at H; exact H
  clear H
  have H := H1
  clear H1
  replace H := Option.bind_eq_some_iff.mp H
  obtain ⟨⟨t502, t505⟩, A50, H⟩ := H
  replace H : (some (t502, t505)) = some (r1, r2) := H
  have A5 := Aside0.mk A50
  clear A50
  simp only [Option.some.injEq, Prod.mk.injEq] at H
  obtain ⟨rfl, rfl⟩ := H
  go_enter Try.func61, Try.ntmps61
  go_wp2_with (first | ((with_reducible refine gate_callee (f := 64) rfl ?_); refine goesL_ (some 9) rfl rfl Try.func64 (by kernel_rfl) rfl #[.pointer (some ⟨g, 0, none⟩), .int .i64 a1] rfl ls ?_; (with_reducible refine (spec_l20Rd_odd.calls k g s0_0 s0_1 a1 true t501 w0 _ ?side1 ?side2 A3.out).mono ?_); (case side1 => exact is64 HI0.out); (case side2 => exact bi64 HB.out HI0.out); rintro e w6 ⟨rfl, hi, hb, hk⟩; refine ⟨_, rfl, ?_⟩; replace HK := Aside0.mk (KeepBut.trans (kb HK.out) hk (.inl rfl)); replace HB := Aside0.mk (hb); replace HI0 := Aside0.mk (hi); (try clear hb); (try clear hb2); (try clear hk); (try clear hi)) | ((with_reducible refine gate_callee (f := 69) rfl ?_); refine goesL_ (some 11) rfl rfl Try.func69 (by kernel_rfl) rfl #[.pointer (some ⟨g, 0, none⟩), .int .i64 1] rfl ls ?_; (with_reducible refine (spec_l20Ord.calls k g s0_0 t501 1 t502 t505 w0 _ ?side1 ?side2 A5.out).mono ?_); (case side1 => exact is64 HI0.out); (case side2 => exact bi64 HB.out HI0.out); rintro e w7 ⟨v503, rfl, ho0, hi, hb, hk⟩; refine ⟨_, rfl, ?_⟩; have HO504 := Aside0.mk (Kd.R_lower ho0 (keep_size (w := w) (g := g) (row := none) (kb HK.out))); replace HK := Aside0.mk (KeepBut.trans (kb HK.out) hk (.inl rfl)); replace HB := Aside0.mk (hb); replace HI0 := Aside0.mk (hi); (try clear hb); (try clear hb2); (try clear hk); (try clear hi); (try clear ho0)))
  go_ret
  exact ⟨_, er, by (with_reducible repeat (first | apply Kd.R_alloc | apply Kd.R_drewN | apply Kd.R_drew)); exact HO504.out, is64 HI0.out, bi64 HB.out HI0.out, kb HK.out⟩
 ·replace c4 := Bool.eq_false_iff.mpr c4
  subst c4
  have H1 : ((spec_l20Raw.f k s0_0 t501 2).bind fun bt506 => (spec_l20Little.l0 k bt506.1 0 s0_0 bt506.2)) = some (r1, r2) := by rw [if_neg (show ¬ (false = true) by decide)] at H; exact H
  clear H
  have H := H1
  clear H1
  replace H := Option.bind_eq_some_iff.mp H
  obtain ⟨⟨t506, t509⟩, A80, H⟩ := H
  replace H : (spec_l20Little.l0 k t506 0 s0_0 t509) = some (r1, r2) := H
  have A8 := Aside0.mk A80
  clear A80
  have H' := Aside0.mk H
  clear H
  go_enter Try.func61, Try.ntmps61
  go_wp2_with (first | ((with_reducible refine gate_callee (f := 64) rfl ?_); refine goesL_ (some 9) rfl rfl Try.func64 (by kernel_rfl) rfl #[.pointer (some ⟨g, 0, none⟩), .int .i64 a1] rfl ls ?_; (with_reducible refine (spec_l20Rd_odd.calls k g s0_0 s0_1 a1 false t501 w0 _ ?side1 ?side2 A3.out).mono ?_); (case side1 => exact is64 HI0.out); (case side2 => exact bi64 HB.out HI0.out); rintro e w9 ⟨rfl, hi, hb, hk⟩; refine ⟨_, rfl, ?_⟩; replace HK := Aside0.mk (KeepBut.trans (kb HK.out) hk (.inl rfl)); replace HB := Aside0.mk (hb); replace HI0 := Aside0.mk (hi); (try clear hb); (try clear hb2); (try clear hk); (try clear hi)) | ((with_reducible refine gate_callee (f := 70) rfl ?_); refine goesL_ (some 13) rfl rfl Try.func70 (by kernel_rfl) rfl #[.pointer (some ⟨g, 0, none⟩), .int .i64 2] rfl ls ?_; (with_reducible refine (spec_l20Raw.calls k g s0_0 t501 2 t506 t509 w0 _ ?side1 ?side2 A8.out).mono ?_); (case side1 => exact is64 HI0.out); (case side2 => exact bi64 HB.out HI0.out); rintro e w10 ⟨v507, rfl, ho0, hi, hb, hk⟩; refine ⟨_, rfl, ?_⟩; have HO508 := Aside0.mk (Kd.R_lower ho0 (keep_size (w := w) (g := g) (row := none) (kb HK.out))); replace HK := Aside0.mk (KeepBut.trans (kb HK.out) hk (.inl rfl)); replace HB := Aside0.mk (hb); replace HI0 := Aside0.mk (hi); (try clear hb); (try clear hb2); (try clear hk); (try clear hi); (try clear ho0)))
  go_loopg [5, 6] k (fun kq v5 v6 w' => ∃ (x5_1 : List Int) (x6_1 : Int) (x1001_1 : Int), v6 = .int .i64 x6_1 ∧ Aside0 (spec_l20Little.l0 kq x5_1 x6_1 s0_0 x1001_1 = some (r1, r2)) ∧ Aside0 (kq ≤ k) ∧ Aside0 (Kd.R (Kd.int .i64) 3 w' w.heap.size (fun _ => True) v5 x5_1) ∧ Aside0 (IsS64 w0 w' g s0_0 x1001_1) ∧ Aside0 (KeepBut w w' g none) ∧ Aside0 (Below w0.heap.size w0 w'))
  case atStart => exact ⟨(t506), (0), (t509), rr, H', ⟨Nat.le_refl _⟩, ⟨rR HO508.out⟩, ⟨is64 HI0.out⟩, ⟨kb HK.out⟩, ⟨bi64 HB.out HI0.out⟩⟩
  case round =>
   clear H'
   try clear p2
   try clear c4
   try clear c6
   try clear c7
   obtain ⟨x5_1, x6_1, x1001_1, rfl, HA, HK1, HO_5, HI0, HK, HB⟩ := hrel
   cases gk with
   | zero => exact absurd HA.out (by simp [spec_l20Little.l0])
   | succ k1 =>
    have H := HA.out
    clear HA
    simp only [spec_l20Little.l0] at H
    by_cases c11 : x6_1 < 4
    ·rw [if_pos c11] at H
     have c11b0 : decide (x6_1 < 4) = true := decide_eq_true c11
     clear c11
     by_cases c12 : (x5_1.length : Int) > 16
     ·rw [if_pos c12] at H
      have c12b0 : decide (16 < (x5_1.length : Int)) = true := decide_eq_true c12
      have c12b1 : decide (16 < x5_1.length) = true := decide_eq_true (by omega)
      clear c12
      replace H := Option.bind_eq_some_iff.mp H
      obtain ⟨⟨t510, t513⟩, A130, H⟩ := H
      replace H : (spec_l20Little.l0 k1 t510 (wrap64 (x6_1 + 1)) s0_0 t513) = some (r1, r2) := H
      have A13 := Aside0.mk A130
      clear A130
      have H' := Aside0.mk H
      clear H
      obtain ⟨Ao14, co14, eo14⟩ := Kd.R_slice HO_5.out
      subst eo14
      go_wp2_with (first | ((with_reducible refine gate_callee (f := 70) rfl ?_); refine goesL_ (some 24) rfl rfl Try.func70 (by kernel_rfl) rfl #[.pointer (some ⟨g, 0, none⟩), .int .i64 1] rfl ls ?_; (with_reducible refine (spec_l20Raw.calls k1 g s0_0 x1001_1 1 t510 t513 w0 _ ?side1 ?side2 A13.out).mono ?_); (case side1 => exact is64 HI0.out); (case side2 => exact bi64 HB.out HI0.out); rintro e w15 ⟨v511, rfl, ho0, hi, hb, hk⟩; refine ⟨_, rfl, ?_⟩; have n0_ := Aside0.mk (Kd.R_mono (Kd.R_told (Kd.R_oldK (IsS64.apart (show IsS64 w0 _ g s0_0 x1001_1 from is64 HI0.out) (rR HO_5.out) (by decide)) hk) (Kd.R_base ho0)) (fun _ h_ => h_.1)); have HO512 := Aside0.mk (Kd.R_lower (Kd.R_new' ho0 (Kd.R_lt (rR HO_5.out))) (keep_size (w := w) (g := g) (row := none) (kb HK.out))); replace HK := Aside0.mk (KeepBut.trans (kb HK.out) hk (.inl rfl)); replace HB := Aside0.mk (hb); replace HI0 := Aside0.mk (hi); replace HO_5 := n0_; clear n0_; (try clear hb); (try clear hb2); (try clear hk); (try clear hi); (try clear ho0)))
      go_roundg k1
      case measure => have := HK1.out; omega
      case rel => exact ⟨(t510), (wrap64 (x6_1 + 1)), (t513), rr, H', ⟨by have := HK1.out; omega⟩, ⟨by (with_reducible repeat (first | apply Kd.R_alloc | apply Kd.R_drewN | apply Kd.R_drew)); exact Kd.R_mono HO512.out (fun _ hk => trivial)⟩, ⟨is64 HI0.out⟩, ⟨kb HK.out⟩, ⟨bi64 HB.out HI0.out⟩⟩
     ·rw [if_neg c12] at H
      have c12b0 : decide (16 < (x5_1.length : Int)) = false := decide_eq_false c12
      have c12b1 : decide (16 < x5_1.length) = false := decide_eq_false (by omega)
      clear c12
      simp only [Option.some.injEq, Prod.mk.injEq] at H
      obtain ⟨rfl, rfl⟩ := H
      obtain ⟨Ao16, co16, eo16⟩ := Kd.R_slice HO_5.out
      subst eo16
      go_wp2
      go_ret
      exact ⟨_, er, by (with_reducible repeat (first | apply Kd.R_alloc | apply Kd.R_drewN | apply Kd.R_drew)); exact HO_5.out, is64 HI0.out, bi64 HB.out HI0.out, kb HK.out⟩
    ·rw [if_neg c11] at H
     have c11b0 : decide (x6_1 < 4) = false := decide_eq_false c11
     clear c11
     simp only [Option.some.injEq, Prod.mk.injEq] at H
     obtain ⟨rfl, rfl⟩ := H
     go_wp2
     go_ret
     exact ⟨_, er, by (with_reducible repeat (first | apply Kd.R_alloc | apply Kd.R_drewN | apply Kd.R_drew)); exact HO_5.out, is64 HI0.out, bi64 HB.out HI0.out, kb HK.out⟩

/-! ### spec_DrawFallOk: function 37 -/
mutual
def spec_DrawFallOk.l0 : Nat → List Int → List Int → List (List Int) → Int → List Int → Int → Option (List Int × (List (List Int)))
 | 0, _, _, _, _, _, _ => none
 | k + 1, x5, x6, x7, x8, x517000, x517001 => if x8 < (x6.length : Int) then (if 0 ≤ x8 then ((spec_OrdOf.f (mx (rd x6 x8) 0)).bind fun t528 => ((spec_l20Rd_pick.f k x517000 x517001 2).bind fun bt531 => (if bt531.1 = 0 then ((spec_OrdPower.f k t528).bind fun bt533 => (if bt533.2 = true then ((spec_l20Rd_pick.f k x517000 bt531.2 2).bind fun bt537 => (if bt537.1 = 0 then (if x7.length < 5864062014805 then (spec_DrawFallOk.l0 k x5 x6 (x7 ++ [bt533.1]) (wrap64 (x8 + 1)) x517000 bt537.2) else (none)) else (if x7.length < 5864062014805 then (spec_DrawFallOk.l0 k x5 x6 (x7 ++ [t528]) (wrap64 (x8 + 1)) x517000 bt537.2) else (none)))) else (if x7.length < 5864062014805 then (spec_DrawFallOk.l0 k x5 x6 (x7 ++ [t528]) (wrap64 (x8 + 1)) x517000 bt531.2) else (none)))) else (if x7.length < 5864062014805 then (spec_DrawFallOk.l0 k x5 x6 (x7 ++ [t528]) (wrap64 (x8 + 1)) x517000 bt531.2) else (none))))) else (none)) else ((spec_l20Rd_pick.f k x517000 x517001 3).bind fun bt551 => (if bt551.1 = 0 then (spec_DrawFallOk.j1 k x5 x7 (decide ((x7.length : Int) > 0)) x517000 bt551.2) else (spec_DrawFallOk.j1 k x5 x7 false x517000 bt551.2)))
def spec_DrawFallOk.j1 : Nat → List Int → List (List Int) → Bool → List Int → Int → Option (List Int × (List (List Int)))
 | 0, _, _, _, _, _ => none
 | k + 1, x5, x7, x57, x517000, x517001 => if x57 = true then ((spec_l20Rd_pick.f k x517000 x517001 (x7.length : Int)).bind fun bt553 => ((spec_l20Little.f k x517000 bt553.2 5).bind fun bt555 => (if 0 ≤ bt553.1 then (if bt553.1 < (x7.length : Int) then (some (x5, (x7.set (bt553.1 : Int).toNat bt555.1))) else (none)) else (none)))) else (some (x5, x7))
end
def spec_DrawFallOk.f (k : Nat) (l0 : List Int) : Option (List Int × (List (List Int))) := (spec_l20Open.f l0).bind fun bt514 => ((spec_l20Rel.f k bt514.1 bt514.2 6 12).bind fun bt517 => ((spec_RanksOf.f k bt517.1).bind fun t521 => (spec_DrawFallOk.l0 k bt517.1 t521 (([] : List (List Int))) 0 bt514.1 bt517.2)))
theorem spec_DrawFallOk.mono_l : ∀ k, (∀ y0 y1 y2 y3 y4 y5, LeO (spec_DrawFallOk.l0 k y0 y1 y2 y3 y4 y5) (spec_DrawFallOk.l0 (k + 1) y0 y1 y2 y3 y4 y5)) ∧ (∀ y0 y1 y2 y3 y4, LeO (spec_DrawFallOk.j1 k y0 y1 y2 y3 y4) (spec_DrawFallOk.j1 (k + 1) y0 y1 y2 y3 y4))
 | 0 => ⟨fun _ _ _ _ _ _ r h => by simp [spec_DrawFallOk.l0] at h, fun _ _ _ _ _ r h => by simp [spec_DrawFallOk.j1] at h⟩
 | k + 1 => by
  obtain ⟨ih0, ih1⟩ := spec_DrawFallOk.mono_l k
  refine ⟨?_, ?_⟩
  ·intro y0 y1 y2 y3 y4 y5
   unfold spec_DrawFallOk.l0
   repeat' first
   | (with_reducible exact ih0 _ _ _ _ _ _)
   | (with_reducible exact ih1 _ _ _ _ _)
   | (with_reducible exact spec_OrdPower.mono _ _)
   | (with_reducible exact spec_RanksOf.mono _ _)
   | (with_reducible exact spec_l20Little.mono _ _ _ _)
   | (with_reducible exact spec_l20Rd_pick.mono _ _ _ _)
   | (with_reducible exact spec_l20Rel.mono _ _ _ _ _)
   | (with_reducible exact LeO.refl _)
   | (with_reducible exact LeO.none _)
   | (with_reducible refine LeO.ite ?_ ?_)
   | (with_reducible refine LeO.bind ?_ (fun _ => ?_))
   | exact ih0 _ _ _ _ _ _
   | exact ih1 _ _ _ _ _
   | exact spec_OrdPower.mono _ _
   | exact spec_RanksOf.mono _ _
   | exact spec_l20Little.mono _ _ _ _
   | exact spec_l20Rd_pick.mono _ _ _ _
   | exact spec_l20Rel.mono _ _ _ _ _
   | exact LeO.none _
   | refine LeO.ite ?_ ?_
   | refine LeO.bind ?_ (fun _ => ?_)
  ·intro y0 y1 y2 y3 y4
   unfold spec_DrawFallOk.j1
   repeat' first
   | (with_reducible exact ih0 _ _ _ _ _ _)
   | (with_reducible exact ih1 _ _ _ _ _)
   | (with_reducible exact spec_OrdPower.mono _ _)
   | (with_reducible exact spec_RanksOf.mono _ _)
   | (with_reducible exact spec_l20Little.mono _ _ _ _)
   | (with_reducible exact spec_l20Rd_pick.mono _ _ _ _)
   | (with_reducible exact spec_l20Rel.mono _ _ _ _ _)
   | (with_reducible exact LeO.refl _)
   | (with_reducible exact LeO.none _)
   | (with_reducible refine LeO.ite ?_ ?_)
   | (with_reducible refine LeO.bind ?_ (fun _ => ?_))
   | exact ih0 _ _ _ _ _ _
   | exact ih1 _ _ _ _ _
   | exact spec_OrdPower.mono _ _
   | exact spec_RanksOf.mono _ _
   | exact spec_l20Little.mono _ _ _ _
   | exact spec_l20Rd_pick.mono _ _ _ _
   | exact spec_l20Rel.mono _ _ _ _ _
   | exact LeO.none _
   | refine LeO.ite ?_ ?_
   | refine LeO.bind ?_ (fun _ => ?_)
theorem spec_DrawFallOk.mono : ∀ a0 k, LeO (spec_DrawFallOk.f k a0) (spec_DrawFallOk.f (k + 1) a0) := by
 intro a0 k
 obtain ⟨ih0, ih1⟩ := spec_DrawFallOk.mono_l k
 unfold spec_DrawFallOk.f
 repeat' first
   | (with_reducible exact ih0 _ _ _ _ _ _)
   | (with_reducible exact ih1 _ _ _ _ _)
   | (with_reducible exact spec_OrdPower.mono _ _)
   | (with_reducible exact spec_RanksOf.mono _ _)
   | (with_reducible exact spec_l20Little.mono _ _ _ _)
   | (with_reducible exact spec_l20Rd_pick.mono _ _ _ _)
   | (with_reducible exact spec_l20Rel.mono _ _ _ _ _)
   | (with_reducible exact LeO.refl _)
   | (with_reducible exact LeO.none _)
   | (with_reducible refine LeO.ite ?_ ?_)
   | (with_reducible refine LeO.bind ?_ (fun _ => ?_))
   | exact ih0 _ _ _ _ _ _
   | exact ih1 _ _ _ _ _
   | exact spec_OrdPower.mono _ _
   | exact spec_RanksOf.mono _ _
   | exact spec_l20Little.mono _ _ _ _
   | exact spec_l20Rd_pick.mono _ _ _ _
   | exact spec_l20Rel.mono _ _ _ _ _
   | exact LeO.none _
   | refine LeO.ite ?_ ?_
   | refine LeO.bind ?_ (fun _ => ?_)
set_option maxHeartbeats 8000000 in
set_option maxRecDepth 100000 in
theorem spec_DrawFallOk.calls (k : Nat) (A0 : Option Addr) (c0 : Nat) (l0 : List Int) (r1 : List Int) (r2 : List (List Int)) (w : World) (hr0 : Kd.C (Kd.int .u8) w A0 l0.length l0) (hc0 : l0.length ≤ c0) (h : spec_DrawFallOk.f k l0 = some (r1, r2)) :
  Calls Try.prog 37 #[.slice A0 l0.length c0] w fun e w' => ∃ v0_ v1_ : Value, e = .returned (.tuple #[v0_, v1_]) ∧ Kd.R (Kd.int .i64) 3 w' w.heap.size (fun _ => True) v0_ r1 ∧ Kd.S (Kd.slice 3 (Kd.int .i64)) 23 w' w.heap.size (fun k_ => some k_ ≠ (v0_ : Value).ownBlock) v1_ r2 ∧ Below w.heap.size w w' := by
 have HR0 := Aside0.mk hr0
 have HC0 := Aside0.mk hc0
 clear hr0 hc0
 have HB := Aside0.mk (Below.refl w.heap.size w)
 have H : ((spec_l20Open.f l0).bind fun bt514 => ((spec_l20Rel.f k bt514.1 bt514.2 6 12).bind fun bt517 => ((spec_RanksOf.f k bt517.1).bind fun t521 => (spec_DrawFallOk.l0 k bt517.1 t521 (([] : List (List Int))) 0 bt514.1 bt517.2)))) = some (r1, r2) := h
 clear h
 replace H := Option.bind_eq_some_iff.mp H
 obtain ⟨⟨t514, t515⟩, A20, H⟩ := H
 replace H : ((spec_l20Rel.f k t514 t515 6 12).bind fun bt517 => ((spec_RanksOf.f k bt517.1).bind fun t521 => (spec_DrawFallOk.l0 k bt517.1 t521 (([] : List (List Int))) 0 t514 bt517.2))) = some (r1, r2) := H
 have A2 := Aside0.mk A20
 clear A20
 replace H := Option.bind_eq_some_iff.mp H
 obtain ⟨⟨t517, t520⟩, A30, H⟩ := H
 replace H : ((spec_RanksOf.f k t517).bind fun t521 => (spec_DrawFallOk.l0 k t517 t521 (([] : List (List Int))) 0 t514 t520)) = some (r1, r2) := H
 have A3 := Aside0.mk A30
 clear A30
 replace H := Option.bind_eq_some_iff.mp H
 obtain ⟨t521, A40, H⟩ := H
 replace H : (spec_DrawFallOk.l0 k t517 t521 (([] : List (List Int))) 0 t514 t520) = some (r1, r2) := H
 have A4 := Aside0.mk A40
 clear A40
 obtain ⟨y524, hy524⟩ : ∃ y_ : List (List Int), y_ = (([] : List (List Int))) := ⟨_, rfl⟩
 replace H : (spec_DrawFallOk.l0 k t517 t521 y524 0 t514 t520) = some (r1, r2) := fb hy524 H
 have Ny524 := Aside0.mk hy524
 clear hy524
 have H' := Aside0.mk H
 clear H
 go_enter Try.func37, Try.ntmps37
 go_wp2_with (first | ((with_reducible refine gate_callee (f := 40) rfl ?_); refine goesL_ (some 13) rfl rfl Try.func40 (by kernel_rfl) rfl #[.slice A0 l0.length c0] rfl ls ?_; (with_reducible refine (spec_l20Open.calls _ _ l0 t514 t515 w _ ?side1 ?side2 ?side3 A2.out).mono ?_); (case side1 => exact bl HB.out); (case side2 => exact HR0.out); (case side3 => exact HC0.out); rintro e w5 ⟨g516, rfl, hi, hb, hb2⟩; refine ⟨_, rfl, ?_⟩; replace HB := Aside0.mk (hb); have HI516 := Aside0.mk (hi); (try clear hb); (try clear hb2); (try clear hk); (try clear hi)) | ((with_reducible refine gate_callee (f := 41) rfl ?_); refine goesL_ (some 15) rfl rfl Try.func41 (by kernel_rfl) rfl #[.pointer (some ⟨g516, 0, none⟩), .int .i64 6, .int .i64 12] rfl ls ?_; (with_reducible refine (spec_l20Rel.calls k g516 t514 t515 6 12 t517 t520 w _ ?side1 ?side2 A3.out).mono ?_); (case side1 => exact is64 HI516.out); (case side2 => exact bi64 HB.out HI516.out); rintro e w6 ⟨v518, rfl, ho0, hi, hb, hk⟩; refine ⟨_, rfl, ?_⟩; have HO519 := Aside0.mk (Kd.R_lower ho0 (below_size (bi64 HB.out HI516.out))); replace HB := Aside0.mk (hb); replace HI516 := Aside0.mk (hi); (try clear hb); (try clear hb2); (try clear hk); (try clear hi); (try clear ho0); obtain ⟨Ao7, co7, eo7⟩ := Kd.R_slice HO519.out; subst eo7) | ((with_reducible refine gate_callee (f := 50) rfl ?_); refine goesL_ (some 17) rfl rfl Try.func50 (by kernel_rfl) rfl #[.slice Ao7 t517.length co7] rfl ls ?_; (with_reducible refine (spec_RanksOf.calls k _ _ t517 t521 _ ?side1 ?side2 A4.out).mono ?_); (case side1 => repeat (first | exact (Kd.R_reads' HO519.out).2.2 | (with_reducible refine Kd.C_alloc ?_ _) | (with_reducible refine Kd.C_drewN ?_ _) | (with_reducible refine Kd.C_drew ?_))); (case side2 => exact (Kd.R_reads' HO519.out).2.1); rintro e w8 ⟨v522, rfl, ho0, hb⟩; refine ⟨_, rfl, ?_⟩; have n0_ := Aside0.mk (Kd.R_elder' (rR HO519.out) (Kd.R_base ho0) hb); have HO523 := Aside0.mk (Kd.R_lower (Kd.R_new' ho0 (Kd.R_lt (rR HO519.out))) (below_size (bi64 HB.out HI516.out))); have n2_ := Aside0.mk (IsS64.below (is64 HI516.out) hb); replace HB := Aside0.mk (below_step (bi64 HB.out HI516.out) hb); replace HO519 := n0_; replace HI516 := n2_; clear n0_ n2_; (try clear hb); (try clear hb2); (try clear hk); (try clear hi); (try clear ho0)) | ((with_reducible refine gate_dst (N := 18) rfl ?_); (try (refine gate_guard (by rfl) ?_; dsimp only)); refine Kd.S_lit (Kd.slice 3 (Kd.int .i64)) _ 23 ?hg (N := 18) ?hd (xs := ([] : List (List Int))) (inner := []) (ok := fun _ => True) (okp := fun _ => True) ?hr ?hp (fun _ hk => hk) trivial (Below.refl _ _) (Nat.le_refl _) (by simp) ?_; (case hd => rfl); (case hg => rfl); (case hr => first | (go_simp; done) | (go_simp; rfl)); (case hp => exact (Reps.none _ _)); intro v525 w9 ho10 hb hg_ hnew_; clear hg_ hnew_; (first | rw [← Ny524.out] at ho10 | (simp only [Int.reduceToNat] at ho10; rw [← Ny524.out] at ho10)); have n0_ := Aside0.mk (Kd.R_below (rR HO519.out) hb); have n1_ := Aside0.mk (Kd.R_below (rR HO523.out) hb); have HO526 := Aside0.mk (Kd.S_lower (Kd.S_new' (Kd.S_new' ho10 (Kd.R_lt (rR HO519.out))) (Kd.R_lt (rR HO523.out))) (below_size (bi64 HB.out HI516.out))); have n3_ := Aside0.mk (IsS64.below (is64 HI516.out) hb); replace HB := Aside0.mk (below_step (bi64 HB.out HI516.out) hb); replace HO519 := n0_; replace HO523 := n1_; replace HI516 := n3_; clear n0_ n1_ n3_; clear hb ho10))
 go_loopg [7, 8] k (fun kq v7 v8 w' => ∃ (x7_1 : List (List Int)) (x8_1 : Int) (x517001_1 : Int), v8 = .int .i64 x8_1 ∧ Aside0 (spec_DrawFallOk.l0 kq t517 t521 x7_1 x8_1 t514 x517001_1 = some (r1, r2)) ∧ Aside0 (kq ≤ k) ∧ Aside0 (Kd.R (Kd.int .i64) 3 w' w.heap.size (fun k_ => some k_ ≠ (v522 : Value).ownBlock) (.slice Ao7 t517.length co7) t517) ∧ Aside0 (Kd.R (Kd.int .i64) 3 w' w.heap.size (fun k_ => some k_ ≠ ((.slice Ao7 t517.length co7) : Value).ownBlock) v522 t521) ∧ Aside0 (Kd.S (Kd.slice 3 (Kd.int .i64)) 23 w' w.heap.size (fun k_ => some k_ ≠ ((.slice Ao7 t517.length co7) : Value).ownBlock ∧ some k_ ≠ (v522 : Value).ownBlock) v7 x7_1) ∧ Aside0 (IsS64 w w' g516 t514 x517001_1) ∧ Aside0 (Below w.heap.size w w'))
 case atStart => exact ⟨(y524), (0), (t520), rr, H', ⟨Nat.le_refl _⟩, ⟨by (with_reducible repeat (first | apply Kd.R_alloc | apply Kd.R_drewN | apply Kd.R_drew)); exact Kd.R_mono HO519.out (fun _ hk => hk.2)⟩, ⟨by (with_reducible repeat (first | apply Kd.R_alloc | apply Kd.R_drewN | apply Kd.R_drew)); exact Kd.R_mono HO523.out (fun _ hk => hk.2)⟩, ⟨by (with_reducible repeat (first | apply Kd.S_alloc | apply Kd.S_drewN | apply Kd.S_drew)); exact Kd.S_mono HO526.out (fun _ hk => ⟨hk.1.2, hk.2⟩)⟩, ⟨is64 HI516.out⟩, ⟨bi64 HB.out HI516.out⟩⟩
 case round =>
  clear H'
  try clear p2
  try clear c3
  try clear c4
  try clear c5
  obtain ⟨x7_1, x8_1, x517001_1, rfl, HA, HK1, HO_5, HO_6, HO_7, HI516, HB⟩ := hrel
  cases gk with
  | zero => exact absurd HA.out (by simp [spec_DrawFallOk.l0])
  | succ k1 =>
   have H := HA.out
   clear HA
   simp only [spec_DrawFallOk.l0] at H
   by_cases c11 : x8_1 < (t521.length : Int)
   ·rw [if_pos c11] at H
    have c11b0 : decide (x8_1 < (t521.length : Int)) = true := decide_eq_true c11
    clear c11
    by_cases c12 : 0 ≤ x8_1
    ·rw [if_pos c12] at H
     have c12b0 : decide (0 ≤ x8_1) = true := decide_eq_true c12
     clear c12
     obtain ⟨ji13, hji13⟩ : ∃ j_ : Int, (mx (rd t521 x8_1) 0) = j_ := ⟨_, rfl⟩
     replace H : ((spec_OrdOf.f (ji13)).bind fun t528 => ((spec_l20Rd_pick.f k1 t514 x517001_1 2).bind fun bt531 => (if bt531.1 = 0 then ((spec_OrdPower.f k1 t528).bind fun bt533 => (if bt533.2 = true then ((spec_l20Rd_pick.f k1 t514 bt531.2 2).bind fun bt537 => (if bt537.1 = 0 then (if x7_1.length < 5864062014805 then (spec_DrawFallOk.l0 k1 t517 t521 (x7_1 ++ [bt533.1]) (wrap64 (x8_1 + 1)) t514 bt537.2) else (none)) else (if x7_1.length < 5864062014805 then (spec_DrawFallOk.l0 k1 t517 t521 (x7_1 ++ [t528]) (wrap64 (x8_1 + 1)) t514 bt537.2) else (none)))) else (if x7_1.length < 5864062014805 then (spec_DrawFallOk.l0 k1 t517 t521 (x7_1 ++ [t528]) (wrap64 (x8_1 + 1)) t514 bt531.2) else (none)))) else (if x7_1.length < 5864062014805 then (spec_DrawFallOk.l0 k1 t517 t521 (x7_1 ++ [t528]) (wrap64 (x8_1 + 1)) t514 bt531.2) else (none))))) = some (r1, r2) := by first | (rw [hji13] at H; exact H) | (simp only [hji13] at H ⊢; exact H)
     have hji13_ : (if (rd t521 x8_1) < 0 then 0 else (rd t521 x8_1)) = ji13 := hji13
     replace H := Option.bind_eq_some_iff.mp H
     obtain ⟨t528, A140, H⟩ := H
     replace H : ((spec_l20Rd_pick.f k1 t514 x517001_1 2).bind fun bt531 => (if bt531.1 = 0 then ((spec_OrdPower.f k1 t528).bind fun bt533 => (if bt533.2 = true then ((spec_l20Rd_pick.f k1 t514 bt531.2 2).bind fun bt537 => (if bt537.1 = 0 then (if x7_1.length < 5864062014805 then (spec_DrawFallOk.l0 k1 t517 t521 (x7_1 ++ [bt533.1]) (wrap64 (x8_1 + 1)) t514 bt537.2) else (none)) else (if x7_1.length < 5864062014805 then (spec_DrawFallOk.l0 k1 t517 t521 (x7_1 ++ [t528]) (wrap64 (x8_1 + 1)) t514 bt537.2) else (none)))) else (if x7_1.length < 5864062014805 then (spec_DrawFallOk.l0 k1 t517 t521 (x7_1 ++ [t528]) (wrap64 (x8_1 + 1)) t514 bt531.2) else (none)))) else (if x7_1.length < 5864062014805 then (spec_DrawFallOk.l0 k1 t517 t521 (x7_1 ++ [t528]) (wrap64 (x8_1 + 1)) t514 bt531.2) else (none)))) = some (r1, r2) := H
     have A14 := Aside0.mk A140
     clear A140
     replace H := Option.bind_eq_some_iff.mp H
     obtain ⟨⟨t531, t532⟩, A150, H⟩ := H
     replace H : (if t531 = 0 then ((spec_OrdPower.f k1 t528).bind fun bt533 => (if bt533.2 = true then ((spec_l20Rd_pick.f k1 t514 t532 2).bind fun bt537 => (if bt537.1 = 0 then (if x7_1.length < 5864062014805 then (spec_DrawFallOk.l0 k1 t517 t521 (x7_1 ++ [bt533.1]) (wrap64 (x8_1 + 1)) t514 bt537.2) else (none)) else (if x7_1.length < 5864062014805 then (spec_DrawFallOk.l0 k1 t517 t521 (x7_1 ++ [t528]) (wrap64 (x8_1 + 1)) t514 bt537.2) else (none)))) else (if x7_1.length < 5864062014805 then (spec_DrawFallOk.l0 k1 t517 t521 (x7_1 ++ [t528]) (wrap64 (x8_1 + 1)) t514 t532) else (none)))) else (if x7_1.length < 5864062014805 then (spec_DrawFallOk.l0 k1 t517 t521 (x7_1 ++ [t528]) (wrap64 (x8_1 + 1)) t514 t532) else (none))) = some (r1, r2) := H
     have A15 := Aside0.mk A150
     clear A150
     by_cases c16 : t531 = 0
     ·rw [if_pos c16] at H
      have c16b0 : (t531 == 0) = true := beq_iff_eq.mpr c16
      have c16b1 : (t531 != 0) = false := bne_eq_false_iff_eq.mpr c16
      clear c16
      replace H := Option.bind_eq_some_iff.mp H
      obtain ⟨⟨t533, t534⟩, A170, H⟩ := H
      replace H : (if t534 = true then ((spec_l20Rd_pick.f k1 t514 t532 2).bind fun bt537 => (if bt537.1 = 0 then (if x7_1.length < 5864062014805 then (spec_DrawFallOk.l0 k1 t517 t521 (x7_1 ++ [t533]) (wrap64 (x8_1 + 1)) t514 bt537.2) else (none)) else (if x7_1.length < 5864062014805 then (spec_DrawFallOk.l0 k1 t517 t521 (x7_1 ++ [t528]) (wrap64 (x8_1 + 1)) t514 bt537.2) else (none)))) else (if x7_1.length < 5864062014805 then (spec_DrawFallOk.l0 k1 t517 t521 (x7_1 ++ [t528]) (wrap64 (x8_1 + 1)) t514 t532) else (none))) = some (r1, r2) := H
      have A17 := Aside0.mk A170
      clear A170
      by_cases c18 : t534 = true
      ·subst c18
       have H1 : ((spec_l20Rd_pick.f k1 t514 t532 2).bind fun bt537 => (if bt537.1 = 0 then (if x7_1.length < 5864062014805 then (spec_DrawFallOk.l0 k1 t517 t521 (x7_1 ++ [t533]) (wrap64 (x8_1 + 1)) t514 bt537.2) else (none)) else (if x7_1.length < 5864062014805 then (spec_DrawFallOk.l0 k1 t517 t521 (x7_1 ++ [t528]) (wrap64 (x8_1 + 1)) t514 bt537.2) else (none)))) = some (r1, r2) := by rw [if_pos rfl] at H; exact H
       clear H
       have H := H1
       clear H1
       replace H := Option.bind_eq_some_iff.mp H
       obtain ⟨⟨t537, t538⟩, A190, H⟩ := H
       replace H : (if t537 = 0 then (if x7_1.length < 5864062014805 then (spec_DrawFallOk.l0 k1 t517 t521 (x7_1 ++ [t533]) (wrap64 (x8_1 + 1)) t514 t538) else (none)) else (if x7_1.length < 5864062014805 then (spec_DrawFallOk.l0 k1 t517 t521 (x7_1 ++ [t528]) (wrap64 (x8_1 + 1)) t514 t538) else (none))) = some (r1, r2) := H
       have A19 := Aside0.mk A190
       clear A190
       by_cases c20 : t537 = 0
       ·rw [if_pos c20] at H
        have c20b0 : (t537 == 0) = true := beq_iff_eq.mpr c20
        have c20b1 : (t537 != 0) = false := bne_eq_false_iff_eq.mpr c20
        clear c20
        by_cases c21 : x7_1.length < 5864062014805
        ·rw [if_pos c21] at H
         have LMc21 := Aside0.mk c21
         clear c21
         obtain ⟨y539, hy539⟩ : ∃ y_ : List (List Int), y_ = (x7_1 ++ [t533]) := ⟨_, rfl⟩
         replace H : (spec_DrawFallOk.l0 k1 t517 t521 y539 (wrap64 (x8_1 + 1)) t514 t538) = some (r1, r2) := fb hy539 H
         have Ny539 := Aside0.mk hy539
         clear hy539
         have H' := Aside0.mk H
         clear H
         obtain ⟨Ao22, co22, eo22⟩ := Kd.R_slice HO_6.out
         subst eo22
         have p527 : 0 ≤ (x8_1 : Int) := da
         have q527 : x8_1 < (t521.length : Int) := da
         obtain ⟨ad527, e527, hx527_0⟩ := Kd.at_int (Kd.R_reads' HO_6.out).2.2 x8_1 p527 q527
         cases e527
         replace p527 := eq_true p527
         replace q527 := eq_true q527
         go_wp2_with (first | ((with_reducible refine gate_callee (f := 59) rfl ?_); refine goesL_ (some 30) rfl rfl Try.func59 (by kernel_rfl) rfl #[.int .i64 ji13] rfl (by (try simp only [List.map_toArray, List.map_cons, List.map_nil]); first | done | (simp only [hji13]; rfl) | rfl | (simp only [List.length_drop, List.length_take]; rfl)) ?_; (with_reducible refine (spec_OrdOf.calls ji13 t528 _ A14.out).mono ?_); rintro e w23 ⟨v529, rfl, ho0, hb⟩; refine ⟨_, rfl, ?_⟩; have n0_ := Aside0.mk (Kd.R_elder' (rR HO_5.out) (Kd.R_base ho0) hb); have n1_ := Aside0.mk (Kd.R_elder' (rR HO_6.out) (Kd.R_base ho0) hb); replace HO_7 := Aside0.mk (Kd.S_elder' (rS HO_7.out) (Kd.R_base ho0) hb); have HO530 := Aside0.mk (Kd.R_lower (Kd.R_new' (Kd.R_new' ho0 (Kd.R_lt (rR HO_5.out))) (Kd.R_lt (rR HO_6.out))) (below_size (bi64 HB.out HI516.out))); have n4_ := Aside0.mk (IsS64.below (is64 HI516.out) hb); replace HB := Aside0.mk (below_step (bi64 HB.out HI516.out) hb); replace HO_5 := n0_; replace HO_6 := n1_; replace HI516 := n4_; clear n0_ n1_ n4_; (try clear hb); (try clear hb2); (try clear hk); (try clear hi); (try clear ho0)) | ((with_reducible refine gate_callee (f := 49) rfl ?_); refine goesL_ (some 32) rfl rfl Try.func49 (by kernel_rfl) rfl #[.pointer (some ⟨g516, 0, none⟩), .int .i64 2] rfl ls ?_; (with_reducible refine (spec_l20Rd_pick.calls k1 g516 t514 x517001_1 2 t531 t532 w _ ?side1 ?side2 A15.out).mono ?_); (case side1 => exact is64 HI516.out); (case side2 => exact bi64 HB.out HI516.out); rintro e w24 ⟨rfl, hi, hb, hk⟩; refine ⟨_, rfl, ?_⟩; replace HO_5 := Aside0.mk (Kd.R_mono (Kd.R_keep (IsS64.apart (show IsS64 w _ g516 t514 x517001_1 from is64 HI516.out) (rR HO_5.out) (by decide)) hk (fun _ h => h.2)) (fun _ h => h.1)); replace HO_6 := Aside0.mk (Kd.R_mono (Kd.R_keep (IsS64.apart (show IsS64 w _ g516 t514 x517001_1 from is64 HI516.out) (rR HO_6.out) (by decide)) hk (fun _ h => h.2)) (fun _ h => h.1)); replace HO_7 := Aside0.mk (Kd.S_mono (Kd.S_keep (IsS64.apartS (show IsS64 w _ g516 t514 x517001_1 from is64 HI516.out) (rS HO_7.out) (by decide)) hk (fun _ h => h.2)) (fun _ h => h.1)); replace HO530 := Aside0.mk (Kd.R_mono (Kd.R_keep (IsS64.apart (show IsS64 w _ g516 t514 x517001_1 from is64 HI516.out) (rR HO530.out) (by decide)) hk (fun _ h => h.2)) (fun _ h => h.1)); replace HB := Aside0.mk (hb); replace HI516 := Aside0.mk (hi); (try clear hb); (try clear hb2); (try clear hk); (try clear hi); obtain ⟨Ao25, co25, eo25⟩ := Kd.R_slice HO530.out; subst eo25) | ((with_reducible refine gate_callee (f := 60) rfl ?_); refine goesL_ (some 36) rfl rfl Try.func60 (by kernel_rfl) rfl #[.slice Ao25 t528.length co25] rfl ls ?_; (with_reducible refine (spec_OrdPower.calls k1 _ _ t528 t533 true _ ?side1 ?side2 A17.out).mono ?_); (case side1 => repeat (first | exact (Kd.R_reads' HO530.out).2.2 | (with_reducible refine Kd.C_alloc ?_ _) | (with_reducible refine Kd.C_drewN ?_ _) | (with_reducible refine Kd.C_drew ?_))); (case side2 => exact (Kd.R_reads' HO530.out).2.1); rintro e w26 ⟨v535, rfl, ho0, hb⟩; refine ⟨_, rfl, ?_⟩; have n0_ := Aside0.mk (Kd.R_elder' (rR HO_5.out) (Kd.R_base ho0) hb); have n1_ := Aside0.mk (Kd.R_elder' (rR HO_6.out) (Kd.R_base ho0) hb); replace HO_7 := Aside0.mk (Kd.S_elder' (rS HO_7.out) (Kd.R_base ho0) hb); have n3_ := Aside0.mk (Kd.R_elder' (rR HO530.out) (Kd.R_base ho0) hb); have HO536 := Aside0.mk (Kd.R_lower (Kd.R_new' (Kd.R_new' (Kd.R_new' ho0 (Kd.R_lt (rR HO_5.out))) (Kd.R_lt (rR HO_6.out))) (Kd.R_lt (rR HO530.out))) (below_size (bi64 HB.out HI516.out))); have n5_ := Aside0.mk (IsS64.below (is64 HI516.out) hb); replace HB := Aside0.mk (below_step (bi64 HB.out HI516.out) hb); replace HO_5 := n0_; replace HO_6 := n1_; replace HO530 := n3_; replace HI516 := n5_; clear n0_ n1_ n3_ n5_; (try clear hb); (try clear hb2); (try clear hk); (try clear hi); (try clear ho0)) | (go_at_call 49; (with_reducible refine (spec_l20Rd_pick.calls k1 g516 t514 t532 2 t537 t538 w _ ?side1 ?side2 A19.out).mono ?_); (case side1 => exact is64 HI516.out); (case side2 => exact bi64 HB.out HI516.out); rintro e w27 ⟨rfl, hi, hb, hk⟩; replace HO_5 := Aside0.mk (Kd.R_mono (Kd.R_keep (IsS64.apart (show IsS64 w _ g516 t514 t532 from is64 HI516.out) (rR HO_5.out) (by decide)) hk (fun _ h => h.2)) (fun _ h => h.1)); replace HO_6 := Aside0.mk (Kd.R_mono (Kd.R_keep (IsS64.apart (show IsS64 w _ g516 t514 t532 from is64 HI516.out) (rR HO_6.out) (by decide)) hk (fun _ h => h.2)) (fun _ h => h.1)); replace HO_7 := Aside0.mk (Kd.S_mono (Kd.S_keep (IsS64.apartS (show IsS64 w _ g516 t514 t532 from is64 HI516.out) (rS HO_7.out) (by decide)) hk (fun _ h => h.2)) (fun _ h => h.1)); replace HO530 := Aside0.mk (Kd.R_mono (Kd.R_keep (IsS64.apart (show IsS64 w _ g516 t514 t532 from is64 HI516.out) (rR HO530.out) (by decide)) hk (fun _ h => h.2)) (fun _ h => h.1)); replace HO536 := Aside0.mk (Kd.R_mono (Kd.R_keep (IsS64.apart (show IsS64 w _ g516 t514 t532 from is64 HI516.out) (rR HO536.out) (by decide)) hk (fun _ h => h.2)) (fun _ h => h.1)); replace HB := Aside0.mk (hb); replace HI516 := Aside0.mk (hi); (try clear hb); (try clear hb2); (try clear hk); (try clear hi); obtain ⟨Ao29, co29, eo29⟩ := Kd.R_slice HO536.out; subst eo29) | ((with_reducible refine gate_builtin (b := .append) (xs := #[.tmp 46, .tmp 48]) rfl ?_); (try (refine gate_guard (by rfl) ?_; dsimp only)); at_builtin; refine Kd.S_append (Kd.slice 3 (Kd.int .i64)) (w0 := w) w.heap.size rfl (.tmp 46) (.tmp 48) 36 23 (.slice none 0 0) 24 rfl Try.underlying36 info23 rfl (by decide) (by omega) u7 x7_1 t533 [.slice Ao29 t533.length co29] (fun k_ => some k_ ≠ (.slice Ao7 t517.length co7 : Value).ownBlock ∧ some k_ ≠ (.slice (some ad527) t521.length co22 : Value).ownBlock ∧ some k_ ≠ (.slice Ao25 t528.length co25 : Value).ownBlock) (fun k_ => some k_ = (.slice Ao29 t533.length co29 : Value).ownBlock) rfl rfl ?aP (fun k_ hk_ => ((Kd.R_mono (ok' := fun k_ => ((fun k_ => some k_ ≠ (.slice Ao7 t517.length co7 : Value).ownBlock ∧ some k_ ≠ (.slice (some ad527) t521.length co22 : Value).ownBlock ∧ some k_ ≠ (.slice Ao25 t528.length co25 : Value).ownBlock)) k_ ∧ some k_ ≠ (u7 : Value).ownBlock) (Kd.R_apart' (HO536.out) (Kd.S_typed HO_7.out) (by decide)) (fun k_ hk => ⟨⟨hk.1.1.1.2, ⟨hk.1.1.2, hk.1.2⟩⟩, hk.2⟩))).1 k_ hk_.symm) ?aF ?aO ?aB ?aS ?aL ?_; (case aP => exact Kd.M_row (Kd.R_mono (Kd.R_tight rfl (Kd.R_mono (ok' := fun k_ => ((fun k_ => some k_ ≠ (.slice Ao7 t517.length co7 : Value).ownBlock ∧ some k_ ≠ (.slice (some ad527) t521.length co22 : Value).ownBlock ∧ some k_ ≠ (.slice Ao25 t528.length co25 : Value).ownBlock)) k_ ∧ some k_ ≠ (u7 : Value).ownBlock) (Kd.R_apart' (HO536.out) (Kd.S_typed HO_7.out) (by decide)) (fun k_ hk => ⟨⟨hk.1.1.1.2, ⟨hk.1.1.2, hk.1.2⟩⟩, hk.2⟩))) (fun _ h_ => h_))); (case aB => exact (bi64 HB.out HI516.out)); (case aF => exact (fun k_ hk => ⟨Kd.fresh' (Kd.R_lt (rR HO_5.out)) k_ hk, Kd.fresh' (Kd.R_lt (rR HO_6.out)) k_ hk, Kd.fresh' (Kd.R_lt (rR HO530.out)) k_ hk⟩)); (case aO => exact (by (with_reducible repeat (first | apply Kd.S_alloc | apply Kd.S_drewN | apply Kd.S_drew)); exact Kd.S_mono HO_7.out (fun k_ hk => ⟨⟨hk.1.1.1, ⟨hk.1.1.2, hk.1.2⟩⟩, fun e_ => hk.2 e_⟩))); (case aS => exact (below_size (bi64 HB.out HI516.out))); (case aL => have := LMc21.out; omega); intro v540 w28 ho hb hg hat; rw [← Ny539.out] at ho; replace HO_5 := Aside0.mk (Kd.R_over' (rR HO_5.out) (Kd.S_typed (rS HO_7.out)) (by decide) hg); replace HO_6 := Aside0.mk (Kd.R_over' (rR HO_6.out) (Kd.S_typed (rS HO_7.out)) (by decide) hg); replace HI516 := Aside0.mk (IsS64.grown (is64 HI516.out) hg (IsS64.own_neS HI516.out HO_7.out (by decide))); replace HO530 := Aside0.mk (Kd.R_over' (rR HO530.out) (Kd.S_typed (rS HO_7.out)) (by decide) hg); replace HB := Aside0.mk (hb); have HO541 := Aside0.mk (ho); clear HO_7; clear HO536; clear ho hb hg hat))
         go_roundg k1
         case measure => have := HK1.out; omega
         case rel => exact ⟨(y539), (wrap64 (x8_1 + 1)), (t538), rr, H', ⟨by have := HK1.out; omega⟩, ⟨by (with_reducible repeat (first | apply Kd.R_alloc | apply Kd.R_drewN | apply Kd.R_drew)); exact Kd.R_mono HO_5.out (fun _ hk => hk.1.1)⟩, ⟨by (with_reducible repeat (first | apply Kd.R_alloc | apply Kd.R_drewN | apply Kd.R_drew)); exact Kd.R_mono HO_6.out (fun _ hk => hk.1.1)⟩, ⟨by (with_reducible repeat (first | apply Kd.S_alloc | apply Kd.S_drewN | apply Kd.S_drew)); exact Kd.S_mono HO541.out (fun _ hk => ⟨hk.1, hk.2.1⟩)⟩, ⟨is64 HI516.out⟩, ⟨bi64 HB.out HI516.out⟩⟩
        ·rw [if_neg c21] at H
         exact absurd H (by simp)
       ·rw [if_neg c20] at H
        have c20b0 : (t537 == 0) = false := beq_eq_false_iff_ne.mpr c20
        have c20b1 : (t537 != 0) = true := bne_iff_ne.mpr c20
        by_cases c30 : x7_1.length < 5864062014805
        ·rw [if_pos c30] at H
         have LMc30 := Aside0.mk c30
         clear c30
         obtain ⟨y542, hy542⟩ : ∃ y_ : List (List Int), y_ = (x7_1 ++ [t528]) := ⟨_, rfl⟩
         replace H : (spec_DrawFallOk.l0 k1 t517 t521 y542 (wrap64 (x8_1 + 1)) t514 t538) = some (r1, r2) := fb hy542 H
         have Ny542 := Aside0.mk hy542
         clear hy542
         have H' := Aside0.mk H
         clear H
         obtain ⟨Ao31, co31, eo31⟩ := Kd.R_slice HO_6.out
         subst eo31
         have p527 : 0 ≤ (x8_1 : Int) := da
         have q527 : x8_1 < (t521.length : Int) := da
         obtain ⟨ad527, e527, hx527_0⟩ := Kd.at_int (Kd.R_reads' HO_6.out).2.2 x8_1 p527 q527
         cases e527
         replace p527 := eq_true p527
         replace q527 := eq_true q527
         go_wp2_with (first | ((with_reducible refine gate_callee (f := 59) rfl ?_); refine goesL_ (some 30) rfl rfl Try.func59 (by kernel_rfl) rfl #[.int .i64 ji13] rfl (by (try simp only [List.map_toArray, List.map_cons, List.map_nil]); first | done | (simp only [hji13]; rfl) | rfl | (simp only [List.length_drop, List.length_take]; rfl)) ?_; (with_reducible refine (spec_OrdOf.calls ji13 t528 _ A14.out).mono ?_); rintro e w32 ⟨v529, rfl, ho0, hb⟩; refine ⟨_, rfl, ?_⟩; have n0_ := Aside0.mk (Kd.R_elder' (rR HO_5.out) (Kd.R_base ho0) hb); have n1_ := Aside0.mk (Kd.R_elder' (rR HO_6.out) (Kd.R_base ho0) hb); replace HO_7 := Aside0.mk (Kd.S_elder' (rS HO_7.out) (Kd.R_base ho0) hb); have HO530 := Aside0.mk (Kd.R_lower (Kd.R_new' (Kd.R_new' ho0 (Kd.R_lt (rR HO_5.out))) (Kd.R_lt (rR HO_6.out))) (below_size (bi64 HB.out HI516.out))); have n4_ := Aside0.mk (IsS64.below (is64 HI516.out) hb); replace HB := Aside0.mk (below_step (bi64 HB.out HI516.out) hb); replace HO_5 := n0_; replace HO_6 := n1_; replace HI516 := n4_; clear n0_ n1_ n4_; (try clear hb); (try clear hb2); (try clear hk); (try clear hi); (try clear ho0)) | ((with_reducible refine gate_callee (f := 49) rfl ?_); refine goesL_ (some 32) rfl rfl Try.func49 (by kernel_rfl) rfl #[.pointer (some ⟨g516, 0, none⟩), .int .i64 2] rfl ls ?_; (with_reducible refine (spec_l20Rd_pick.calls k1 g516 t514 x517001_1 2 t531 t532 w _ ?side1 ?side2 A15.out).mono ?_); (case side1 => exact is64 HI516.out); (case side2 => exact bi64 HB.out HI516.out); rintro e w33 ⟨rfl, hi, hb, hk⟩; refine ⟨_, rfl, ?_⟩; replace HO_5 := Aside0.mk (Kd.R_mono (Kd.R_keep (IsS64.apart (show IsS64 w _ g516 t514 x517001_1 from is64 HI516.out) (rR HO_5.out) (by decide)) hk (fun _ h => h.2)) (fun _ h => h.1)); replace HO_6 := Aside0.mk (Kd.R_mono (Kd.R_keep (IsS64.apart (show IsS64 w _ g516 t514 x517001_1 from is64 HI516.out) (rR HO_6.out) (by decide)) hk (fun _ h => h.2)) (fun _ h => h.1)); replace HO_7 := Aside0.mk (Kd.S_mono (Kd.S_keep (IsS64.apartS (show IsS64 w _ g516 t514 x517001_1 from is64 HI516.out) (rS HO_7.out) (by decide)) hk (fun _ h => h.2)) (fun _ h => h.1)); replace HO530 := Aside0.mk (Kd.R_mono (Kd.R_keep (IsS64.apart (show IsS64 w _ g516 t514 x517001_1 from is64 HI516.out) (rR HO530.out) (by decide)) hk (fun _ h => h.2)) (fun _ h => h.1)); replace HB := Aside0.mk (hb); replace HI516 := Aside0.mk (hi); (try clear hb); (try clear hb2); (try clear hk); (try clear hi); obtain ⟨Ao34, co34, eo34⟩ := Kd.R_slice HO530.out; subst eo34) | ((with_reducible refine gate_callee (f := 60) rfl ?_); refine goesL_ (some 36) rfl rfl Try.func60 (by kernel_rfl) rfl #[.slice Ao34 t528.length co34] rfl ls ?_; (with_reducible refine (spec_OrdPower.calls k1 _ _ t528 t533 true _ ?side1 ?side2 A17.out).mono ?_); (case side1 => repeat (first | exact (Kd.R_reads' HO530.out).2.2 | (with_reducible refine Kd.C_alloc ?_ _) | (with_reducible refine Kd.C_drewN ?_ _) | (with_reducible refine Kd.C_drew ?_))); (case side2 => exact (Kd.R_reads' HO530.out).2.1); rintro e w35 ⟨v535, rfl, ho0, hb⟩; refine ⟨_, rfl, ?_⟩; have n0_ := Aside0.mk (Kd.R_elder' (rR HO_5.out) (Kd.R_base ho0) hb); have n1_ := Aside0.mk (Kd.R_elder' (rR HO_6.out) (Kd.R_base ho0) hb); replace HO_7 := Aside0.mk (Kd.S_elder' (rS HO_7.out) (Kd.R_base ho0) hb); have n3_ := Aside0.mk (Kd.R_elder' (rR HO530.out) (Kd.R_base ho0) hb); have HO536 := Aside0.mk (Kd.R_lower (Kd.R_new' (Kd.R_new' (Kd.R_new' ho0 (Kd.R_lt (rR HO_5.out))) (Kd.R_lt (rR HO_6.out))) (Kd.R_lt (rR HO530.out))) (below_size (bi64 HB.out HI516.out))); have n5_ := Aside0.mk (IsS64.below (is64 HI516.out) hb); replace HB := Aside0.mk (below_step (bi64 HB.out HI516.out) hb); replace HO_5 := n0_; replace HO_6 := n1_; replace HO530 := n3_; replace HI516 := n5_; clear n0_ n1_ n3_ n5_; (try clear hb); (try clear hb2); (try clear hk); (try clear hi); (try clear ho0)) | (go_at_call 49; (with_reducible refine (spec_l20Rd_pick.calls k1 g516 t514 t532 2 t537 t538 w _ ?side1 ?side2 A19.out).mono ?_); (case side1 => exact is64 HI516.out); (case side2 => exact bi64 HB.out HI516.out); rintro e w36 ⟨rfl, hi, hb, hk⟩; replace HO_5 := Aside0.mk (Kd.R_mono (Kd.R_keep (IsS64.apart (show IsS64 w _ g516 t514 t532 from is64 HI516.out) (rR HO_5.out) (by decide)) hk (fun _ h => h.2)) (fun _ h => h.1)); replace HO_6 := Aside0.mk (Kd.R_mono (Kd.R_keep (IsS64.apart (show IsS64 w _ g516 t514 t532 from is64 HI516.out) (rR HO_6.out) (by decide)) hk (fun _ h => h.2)) (fun _ h => h.1)); replace HO_7 := Aside0.mk (Kd.S_mono (Kd.S_keep (IsS64.apartS (show IsS64 w _ g516 t514 t532 from is64 HI516.out) (rS HO_7.out) (by decide)) hk (fun _ h => h.2)) (fun _ h => h.1)); replace HO530 := Aside0.mk (Kd.R_mono (Kd.R_keep (IsS64.apart (show IsS64 w _ g516 t514 t532 from is64 HI516.out) (rR HO530.out) (by decide)) hk (fun _ h => h.2)) (fun _ h => h.1)); replace HO536 := Aside0.mk (Kd.R_mono (Kd.R_keep (IsS64.apart (show IsS64 w _ g516 t514 t532 from is64 HI516.out) (rR HO536.out) (by decide)) hk (fun _ h => h.2)) (fun _ h => h.1)); replace HB := Aside0.mk (hb); replace HI516 := Aside0.mk (hi); (try clear hb); (try clear hb2); (try clear hk); (try clear hi)) | ((with_reducible refine gate_builtin (b := .append) (xs := #[.tmp 46, .tmp 48]) rfl ?_); (try (refine gate_guard (by rfl) ?_; dsimp only)); at_builtin; refine Kd.S_append (Kd.slice 3 (Kd.int .i64)) (w0 := w) w.heap.size rfl (.tmp 46) (.tmp 48) 36 23 (.slice none 0 0) 24 rfl Try.underlying36 info23 rfl (by decide) (by omega) u7 x7_1 t528 [.slice Ao34 t528.length co34] (fun k_ => some k_ ≠ (.slice Ao7 t517.length co7 : Value).ownBlock ∧ some k_ ≠ (.slice (some ad527) t521.length co31 : Value).ownBlock ∧ some k_ ≠ (v535 : Value).ownBlock) (fun k_ => some k_ = (.slice Ao34 t528.length co34 : Value).ownBlock) rfl rfl ?aP (fun k_ hk_ => ((Kd.R_mono (ok' := fun k_ => ((fun k_ => some k_ ≠ (.slice Ao7 t517.length co7 : Value).ownBlock ∧ some k_ ≠ (.slice (some ad527) t521.length co31 : Value).ownBlock ∧ some k_ ≠ (v535 : Value).ownBlock)) k_ ∧ some k_ ≠ (u7 : Value).ownBlock) (Kd.R_apart' (HO530.out) (Kd.S_typed HO_7.out) (by decide)) (fun k_ hk => ⟨⟨hk.1.1.1.2, ⟨hk.1.1.2, hk.1.2⟩⟩, hk.2⟩))).1 k_ hk_.symm) ?aF ?aO ?aB ?aS ?aL ?_; (case aP => exact Kd.M_row (Kd.R_mono (Kd.R_tight rfl (Kd.R_mono (ok' := fun k_ => ((fun k_ => some k_ ≠ (.slice Ao7 t517.length co7 : Value).ownBlock ∧ some k_ ≠ (.slice (some ad527) t521.length co31 : Value).ownBlock ∧ some k_ ≠ (v535 : Value).ownBlock)) k_ ∧ some k_ ≠ (u7 : Value).ownBlock) (Kd.R_apart' (HO530.out) (Kd.S_typed HO_7.out) (by decide)) (fun k_ hk => ⟨⟨hk.1.1.1.2, ⟨hk.1.1.2, hk.1.2⟩⟩, hk.2⟩))) (fun _ h_ => h_))); (case aB => exact (bi64 HB.out HI516.out)); (case aF => exact (fun k_ hk => ⟨Kd.fresh' (Kd.R_lt (rR HO_5.out)) k_ hk, Kd.fresh' (Kd.R_lt (rR HO_6.out)) k_ hk, Kd.fresh' (Kd.R_lt (rR HO536.out)) k_ hk⟩)); (case aO => exact (by (with_reducible repeat (first | apply Kd.S_alloc | apply Kd.S_drewN | apply Kd.S_drew)); exact Kd.S_mono HO_7.out (fun k_ hk => ⟨⟨hk.1.1.1, ⟨hk.1.1.2, hk.2⟩⟩, fun e_ => hk.1.2 e_⟩))); (case aS => exact (below_size (bi64 HB.out HI516.out))); (case aL => have := LMc30.out; omega); intro v543 w37 ho hb hg hat; rw [← Ny542.out] at ho; replace HO_5 := Aside0.mk (Kd.R_over' (rR HO_5.out) (Kd.S_typed (rS HO_7.out)) (by decide) hg); replace HO_6 := Aside0.mk (Kd.R_over' (rR HO_6.out) (Kd.S_typed (rS HO_7.out)) (by decide) hg); replace HI516 := Aside0.mk (IsS64.grown (is64 HI516.out) hg (IsS64.own_neS HI516.out HO_7.out (by decide))); replace HO536 := Aside0.mk (Kd.R_over' (rR HO536.out) (Kd.S_typed (rS HO_7.out)) (by decide) hg); replace HB := Aside0.mk (hb); have HO544 := Aside0.mk (ho); clear HO_7; clear HO530; clear ho hb hg hat))
         go_roundg k1
         case measure => have := HK1.out; omega
         case rel => exact ⟨(y542), (wrap64 (x8_1 + 1)), (t538), rr, H', ⟨by have := HK1.out; omega⟩, ⟨by (with_reducible repeat (first | apply Kd.R_alloc | apply Kd.R_drewN | apply Kd.R_drew)); exact Kd.R_mono HO_5.out (fun _ hk => hk.1.1)⟩, ⟨by (with_reducible repeat (first | apply Kd.R_alloc | apply Kd.R_drewN | apply Kd.R_drew)); exact Kd.R_mono HO_6.out (fun _ hk => hk.1.1)⟩, ⟨by (with_reducible repeat (first | apply Kd.S_alloc | apply Kd.S_drewN | apply Kd.S_drew)); exact Kd.S_mono HO544.out (fun _ hk => ⟨hk.1, hk.2.1⟩)⟩, ⟨is64 HI516.out⟩, ⟨bi64 HB.out HI516.out⟩⟩
        ·rw [if_neg c30] at H
         exact absurd H (by simp)
      ·replace c18 := Bool.eq_false_iff.mpr c18
       subst c18
       have H1 : (if x7_1.length < 5864062014805 then (spec_DrawFallOk.l0 k1 t517 t521 (x7_1 ++ [t528]) (wrap64 (x8_1 + 1)) t514 t532) else (none)) = some (r1, r2) := by rw [if_neg (show ¬ (false = true) by decide)] at H; exact H
       clear H
       have H := H1
       clear H1
       by_cases c38 : x7_1.length < 5864062014805
       ·rw [if_pos c38] at H
        have LMc38 := Aside0.mk c38
        clear c38
        obtain ⟨y545, hy545⟩ : ∃ y_ : List (List Int), y_ = (x7_1 ++ [t528]) := ⟨_, rfl⟩
        replace H : (spec_DrawFallOk.l0 k1 t517 t521 y545 (wrap64 (x8_1 + 1)) t514 t532) = some (r1, r2) := fb hy545 H
        have Ny545 := Aside0.mk hy545
        clear hy545
        have H' := Aside0.mk H
        clear H
        obtain ⟨Ao39, co39, eo39⟩ := Kd.R_slice HO_6.out
        subst eo39
        have p527 : 0 ≤ (x8_1 : Int) := da
        have q527 : x8_1 < (t521.length : Int) := da
        obtain ⟨ad527, e527, hx527_0⟩ := Kd.at_int (Kd.R_reads' HO_6.out).2.2 x8_1 p527 q527
        cases e527
        replace p527 := eq_true p527
        replace q527 := eq_true q527
        go_wp2_with (first | ((with_reducible refine gate_callee (f := 59) rfl ?_); refine goesL_ (some 30) rfl rfl Try.func59 (by kernel_rfl) rfl #[.int .i64 ji13] rfl (by (try simp only [List.map_toArray, List.map_cons, List.map_nil]); first | done | (simp only [hji13]; rfl) | rfl | (simp only [List.length_drop, List.length_take]; rfl)) ?_; (with_reducible refine (spec_OrdOf.calls ji13 t528 _ A14.out).mono ?_); rintro e w40 ⟨v529, rfl, ho0, hb⟩; refine ⟨_, rfl, ?_⟩; have n0_ := Aside0.mk (Kd.R_elder' (rR HO_5.out) (Kd.R_base ho0) hb); have n1_ := Aside0.mk (Kd.R_elder' (rR HO_6.out) (Kd.R_base ho0) hb); replace HO_7 := Aside0.mk (Kd.S_elder' (rS HO_7.out) (Kd.R_base ho0) hb); have HO530 := Aside0.mk (Kd.R_lower (Kd.R_new' (Kd.R_new' ho0 (Kd.R_lt (rR HO_5.out))) (Kd.R_lt (rR HO_6.out))) (below_size (bi64 HB.out HI516.out))); have n4_ := Aside0.mk (IsS64.below (is64 HI516.out) hb); replace HB := Aside0.mk (below_step (bi64 HB.out HI516.out) hb); replace HO_5 := n0_; replace HO_6 := n1_; replace HI516 := n4_; clear n0_ n1_ n4_; (try clear hb); (try clear hb2); (try clear hk); (try clear hi); (try clear ho0)) | ((with_reducible refine gate_callee (f := 49) rfl ?_); refine goesL_ (some 32) rfl rfl Try.func49 (by kernel_rfl) rfl #[.pointer (some ⟨g516, 0, none⟩), .int .i64 2] rfl ls ?_; (with_reducible refine (spec_l20Rd_pick.calls k1 g516 t514 x517001_1 2 t531 t532 w _ ?side1 ?side2 A15.out).mono ?_); (case side1 => exact is64 HI516.out); (case side2 => exact bi64 HB.out HI516.out); rintro e w41 ⟨rfl, hi, hb, hk⟩; refine ⟨_, rfl, ?_⟩; replace HO_5 := Aside0.mk (Kd.R_mono (Kd.R_keep (IsS64.apart (show IsS64 w _ g516 t514 x517001_1 from is64 HI516.out) (rR HO_5.out) (by decide)) hk (fun _ h => h.2)) (fun _ h => h.1)); replace HO_6 := Aside0.mk (Kd.R_mono (Kd.R_keep (IsS64.apart (show IsS64 w _ g516 t514 x517001_1 from is64 HI516.out) (rR HO_6.out) (by decide)) hk (fun _ h => h.2)) (fun _ h => h.1)); replace HO_7 := Aside0.mk (Kd.S_mono (Kd.S_keep (IsS64.apartS (show IsS64 w _ g516 t514 x517001_1 from is64 HI516.out) (rS HO_7.out) (by decide)) hk (fun _ h => h.2)) (fun _ h => h.1)); replace HO530 := Aside0.mk (Kd.R_mono (Kd.R_keep (IsS64.apart (show IsS64 w _ g516 t514 x517001_1 from is64 HI516.out) (rR HO530.out) (by decide)) hk (fun _ h => h.2)) (fun _ h => h.1)); replace HB := Aside0.mk (hb); replace HI516 := Aside0.mk (hi); (try clear hb); (try clear hb2); (try clear hk); (try clear hi); obtain ⟨Ao42, co42, eo42⟩ := Kd.R_slice HO530.out; subst eo42) | ((with_reducible refine gate_callee (f := 60) rfl ?_); refine goesL_ (some 36) rfl rfl Try.func60 (by kernel_rfl) rfl #[.slice Ao42 t528.length co42] rfl ls ?_; (with_reducible refine (spec_OrdPower.calls k1 _ _ t528 t533 false _ ?side1 ?side2 A17.out).mono ?_); (case side1 => repeat (first | exact (Kd.R_reads' HO530.out).2.2 | (with_reducible refine Kd.C_alloc ?_ _) | (with_reducible refine Kd.C_drewN ?_ _) | (with_reducible refine Kd.C_drew ?_))); (case side2 => exact (Kd.R_reads' HO530.out).2.1); rintro e w43 ⟨v535, rfl, ho0, hb⟩; refine ⟨_, rfl, ?_⟩; have n0_ := Aside0.mk (Kd.R_elder' (rR HO_5.out) (Kd.R_base ho0) hb); have n1_ := Aside0.mk (Kd.R_elder' (rR HO_6.out) (Kd.R_base ho0) hb); replace HO_7 := Aside0.mk (Kd.S_elder' (rS HO_7.out) (Kd.R_base ho0) hb); have n3_ := Aside0.mk (Kd.R_elder' (rR HO530.out) (Kd.R_base ho0) hb); have HO536 := Aside0.mk (Kd.R_lower (Kd.R_new' (Kd.R_new' (Kd.R_new' ho0 (Kd.R_lt (rR HO_5.out))) (Kd.R_lt (rR HO_6.out))) (Kd.R_lt (rR HO530.out))) (below_size (bi64 HB.out HI516.out))); have n5_ := Aside0.mk (IsS64.below (is64 HI516.out) hb); replace HB := Aside0.mk (below_step (bi64 HB.out HI516.out) hb); replace HO_5 := n0_; replace HO_6 := n1_; replace HO530 := n3_; replace HI516 := n5_; clear n0_ n1_ n3_ n5_; (try clear hb); (try clear hb2); (try clear hk); (try clear hi); (try clear ho0)) | ((with_reducible refine gate_builtin (b := .append) (xs := #[.tmp 46, .tmp 48]) rfl ?_); (try (refine gate_guard (by rfl) ?_; dsimp only)); at_builtin; refine Kd.S_append (Kd.slice 3 (Kd.int .i64)) (w0 := w) w.heap.size rfl (.tmp 46) (.tmp 48) 36 23 (.slice none 0 0) 24 rfl Try.underlying36 info23 rfl (by decide) (by omega) u7 x7_1 t528 [.slice Ao42 t528.length co42] (fun k_ => some k_ ≠ (.slice Ao7 t517.length co7 : Value).ownBlock ∧ some k_ ≠ (.slice (some ad527) t521.length co39 : Value).ownBlock ∧ some k_ ≠ (v535 : Value).ownBlock) (fun k_ => some k_ = (.slice Ao42 t528.length co42 : Value).ownBlock) rfl rfl ?aP (fun k_ hk_ => ((Kd.R_mono (ok' := fun k_ => ((fun k_ => some k_ ≠ (.slice Ao7 t517.length co7 : Value).ownBlock ∧ some k_ ≠ (.slice (some ad527) t521.length co39 : Value).ownBlock ∧ some k_ ≠ (v535 : Value).ownBlock)) k_ ∧ some k_ ≠ (u7 : Value).ownBlock) (Kd.R_apart' (HO530.out) (Kd.S_typed HO_7.out) (by decide)) (fun k_ hk => ⟨⟨hk.1.1.1.2, ⟨hk.1.1.2, hk.1.2⟩⟩, hk.2⟩))).1 k_ hk_.symm) ?aF ?aO ?aB ?aS ?aL ?_; (case aP => exact Kd.M_row (Kd.R_mono (Kd.R_tight rfl (Kd.R_mono (ok' := fun k_ => ((fun k_ => some k_ ≠ (.slice Ao7 t517.length co7 : Value).ownBlock ∧ some k_ ≠ (.slice (some ad527) t521.length co39 : Value).ownBlock ∧ some k_ ≠ (v535 : Value).ownBlock)) k_ ∧ some k_ ≠ (u7 : Value).ownBlock) (Kd.R_apart' (HO530.out) (Kd.S_typed HO_7.out) (by decide)) (fun k_ hk => ⟨⟨hk.1.1.1.2, ⟨hk.1.1.2, hk.1.2⟩⟩, hk.2⟩))) (fun _ h_ => h_))); (case aB => exact (bi64 HB.out HI516.out)); (case aF => exact (fun k_ hk => ⟨Kd.fresh' (Kd.R_lt (rR HO_5.out)) k_ hk, Kd.fresh' (Kd.R_lt (rR HO_6.out)) k_ hk, Kd.fresh' (Kd.R_lt (rR HO536.out)) k_ hk⟩)); (case aO => exact (by (with_reducible repeat (first | apply Kd.S_alloc | apply Kd.S_drewN | apply Kd.S_drew)); exact Kd.S_mono HO_7.out (fun k_ hk => ⟨⟨hk.1.1.1, ⟨hk.1.1.2, hk.2⟩⟩, fun e_ => hk.1.2 e_⟩))); (case aS => exact (below_size (bi64 HB.out HI516.out))); (case aL => have := LMc38.out; omega); intro v546 w44 ho hb hg hat; rw [← Ny545.out] at ho; replace HO_5 := Aside0.mk (Kd.R_over' (rR HO_5.out) (Kd.S_typed (rS HO_7.out)) (by decide) hg); replace HO_6 := Aside0.mk (Kd.R_over' (rR HO_6.out) (Kd.S_typed (rS HO_7.out)) (by decide) hg); replace HI516 := Aside0.mk (IsS64.grown (is64 HI516.out) hg (IsS64.own_neS HI516.out HO_7.out (by decide))); replace HO536 := Aside0.mk (Kd.R_over' (rR HO536.out) (Kd.S_typed (rS HO_7.out)) (by decide) hg); replace HB := Aside0.mk (hb); have HO547 := Aside0.mk (ho); clear HO_7; clear HO530; clear ho hb hg hat))
        go_roundg k1
        case measure => have := HK1.out; omega
        case rel => exact ⟨(y545), (wrap64 (x8_1 + 1)), (t532), rr, H', ⟨by have := HK1.out; omega⟩, ⟨by (with_reducible repeat (first | apply Kd.R_alloc | apply Kd.R_drewN | apply Kd.R_drew)); exact Kd.R_mono HO_5.out (fun _ hk => hk.1.1)⟩, ⟨by (with_reducible repeat (first | apply Kd.R_alloc | apply Kd.R_drewN | apply Kd.R_drew)); exact Kd.R_mono HO_6.out (fun _ hk => hk.1.1)⟩, ⟨by (with_reducible repeat (first | apply Kd.S_alloc | apply Kd.S_drewN | apply Kd.S_drew)); exact Kd.S_mono HO547.out (fun _ hk => ⟨hk.1, hk.2.1⟩)⟩, ⟨is64 HI516.out⟩, ⟨bi64 HB.out HI516.out⟩⟩
       ·rw [if_neg c38] at H
        exact absurd H (by simp)
     ·rw [if_neg c16] at H
      have c16b0 : (t531 == 0) = false := beq_eq_false_iff_ne.mpr c16
      have c16b1 : (t531 != 0) = true := bne_iff_ne.mpr c16
      by_cases c45 : x7_1.length < 5864062014805
      ·rw [if_pos c45] at H
       have LMc45 := Aside0.mk c45
       clear c45
       obtain ⟨y548, hy548⟩ : ∃ y_ : List (List Int), y_ = (x7_1 ++ [t528]) := ⟨_, rfl⟩
       replace H : (spec_DrawFallOk.l0 k1 t517 t521 y548 (wrap64 (x8_1 + 1)) t514 t532) = some (r1, r2) := fb hy548 H
       have Ny548 := Aside0.mk hy548
       clear hy548
       have H' := Aside0.mk H
       clear H
       obtain ⟨Ao46, co46, eo46⟩ := Kd.R_slice HO_6.out
       subst eo46
       have p527 : 0 ≤ (x8_1 : Int) := da
       have q527 : x8_1 < (t521.length : Int) := da
       obtain ⟨ad527, e527, hx527_0⟩ := Kd.at_int (Kd.R_reads' HO_6.out).2.2 x8_1 p527 q527
       cases e527
       replace p527 := eq_true p527
       replace q527 := eq_true q527
       go_wp2_with (first | ((with_reducible refine gate_callee (f := 59) rfl ?_); refine goesL_ (some 30) rfl rfl Try.func59 (by kernel_rfl) rfl #[.int .i64 ji13] rfl (by (try simp only [List.map_toArray, List.map_cons, List.map_nil]); first | done | (simp only [hji13]; rfl) | rfl | (simp only [List.length_drop, List.length_take]; rfl)) ?_; (with_reducible refine (spec_OrdOf.calls ji13 t528 _ A14.out).mono ?_); rintro e w47 ⟨v529, rfl, ho0, hb⟩; refine ⟨_, rfl, ?_⟩; have n0_ := Aside0.mk (Kd.R_elder' (rR HO_5.out) (Kd.R_base ho0) hb); have n1_ := Aside0.mk (Kd.R_elder' (rR HO_6.out) (Kd.R_base ho0) hb); replace HO_7 := Aside0.mk (Kd.S_elder' (rS HO_7.out) (Kd.R_base ho0) hb); have HO530 := Aside0.mk (Kd.R_lower (Kd.R_new' (Kd.R_new' ho0 (Kd.R_lt (rR HO_5.out))) (Kd.R_lt (rR HO_6.out))) (below_size (bi64 HB.out HI516.out))); have n4_ := Aside0.mk (IsS64.below (is64 HI516.out) hb); replace HB := Aside0.mk (below_step (bi64 HB.out HI516.out) hb); replace HO_5 := n0_; replace HO_6 := n1_; replace HI516 := n4_; clear n0_ n1_ n4_; (try clear hb); (try clear hb2); (try clear hk); (try clear hi); (try clear ho0)) | ((with_reducible refine gate_callee (f := 49) rfl ?_); refine goesL_ (some 32) rfl rfl Try.func49 (by kernel_rfl) rfl #[.pointer (some ⟨g516, 0, none⟩), .int .i64 2] rfl ls ?_; (with_reducible refine (spec_l20Rd_pick.calls k1 g516 t514 x517001_1 2 t531 t532 w _ ?side1 ?side2 A15.out).mono ?_); (case side1 => exact is64 HI516.out); (case side2 => exact bi64 HB.out HI516.out); rintro e w48 ⟨rfl, hi, hb, hk⟩; refine ⟨_, rfl, ?_⟩; replace HO_5 := Aside0.mk (Kd.R_mono (Kd.R_keep (IsS64.apart (show IsS64 w _ g516 t514 x517001_1 from is64 HI516.out) (rR HO_5.out) (by decide)) hk (fun _ h => h.2)) (fun _ h => h.1)); replace HO_6 := Aside0.mk (Kd.R_mono (Kd.R_keep (IsS64.apart (show IsS64 w _ g516 t514 x517001_1 from is64 HI516.out) (rR HO_6.out) (by decide)) hk (fun _ h => h.2)) (fun _ h => h.1)); replace HO_7 := Aside0.mk (Kd.S_mono (Kd.S_keep (IsS64.apartS (show IsS64 w _ g516 t514 x517001_1 from is64 HI516.out) (rS HO_7.out) (by decide)) hk (fun _ h => h.2)) (fun _ h => h.1)); replace HO530 := Aside0.mk (Kd.R_mono (Kd.R_keep (IsS64.apart (show IsS64 w _ g516 t514 x517001_1 from is64 HI516.out) (rR HO530.out) (by decide)) hk (fun _ h => h.2)) (fun _ h => h.1)); replace HB := Aside0.mk (hb); replace HI516 := Aside0.mk (hi); (try clear hb); (try clear hb2); (try clear hk); (try clear hi); obtain ⟨Ao50, co50, eo50⟩ := Kd.R_slice HO530.out; subst eo50) | ((with_reducible refine gate_builtin (b := .append) (xs := #[.tmp 46, .tmp 48]) rfl ?_); (try (refine gate_guard (by rfl) ?_; dsimp only)); at_builtin; refine Kd.S_append (Kd.slice 3 (Kd.int .i64)) (w0 := w) w.heap.size rfl (.tmp 46) (.tmp 48) 36 23 (.slice none 0 0) 24 rfl Try.underlying36 info23 rfl (by decide) (by omega) u7 x7_1 t528 [.slice Ao50 t528.length co50] (fun k_ => some k_ ≠ (.slice Ao7 t517.length co7 : Value).ownBlock ∧ some k_ ≠ (.slice (some ad527) t521.length co46 : Value).ownBlock) (fun k_ => some k_ = (.slice Ao50 t528.length co50 : Value).ownBlock) rfl rfl ?aP (fun k_ hk_ => ((Kd.R_mono (ok' := fun k_ => ((fun k_ => some k_ ≠ (.slice Ao7 t517.length co7 : Value).ownBlock ∧ some k_ ≠ (.slice (some ad527) t521.length co46 : Value).ownBlock)) k_ ∧ some k_ ≠ (u7 : Value).ownBlock) (Kd.R_apart' (HO530.out) (Kd.S_typed HO_7.out) (by decide)) (fun k_ hk => ⟨⟨hk.1.1.2, hk.1.2⟩, hk.2⟩))).1 k_ hk_.symm) ?aF ?aO ?aB ?aS ?aL ?_; (case aP => exact Kd.M_row (Kd.R_mono (Kd.R_tight rfl (Kd.R_mono (ok' := fun k_ => ((fun k_ => some k_ ≠ (.slice Ao7 t517.length co7 : Value).ownBlock ∧ some k_ ≠ (.slice (some ad527) t521.length co46 : Value).ownBlock)) k_ ∧ some k_ ≠ (u7 : Value).ownBlock) (Kd.R_apart' (HO530.out) (Kd.S_typed HO_7.out) (by decide)) (fun k_ hk => ⟨⟨hk.1.1.2, hk.1.2⟩, hk.2⟩))) (fun _ h_ => h_))); (case aB => exact (bi64 HB.out HI516.out)); (case aF => exact (fun k_ hk => ⟨Kd.fresh' (Kd.R_lt (rR HO_5.out)) k_ hk, Kd.fresh' (Kd.R_lt (rR HO_6.out)) k_ hk⟩)); (case aO => exact (by (with_reducible repeat (first | apply Kd.S_alloc | apply Kd.S_drewN | apply Kd.S_drew)); exact Kd.S_mono HO_7.out (fun k_ hk => ⟨⟨hk.1.1, hk.1.2⟩, fun e_ => hk.2 e_⟩))); (case aS => exact (below_size (bi64 HB.out HI516.out))); (case aL => have := LMc45.out; omega); intro v549 w49 ho hb hg hat; rw [← Ny548.out] at ho; replace HO_5 := Aside0.mk (Kd.R_over' (rR HO_5.out) (Kd.S_typed (rS HO_7.out)) (by decide) hg); replace HO_6 := Aside0.mk (Kd.R_over' (rR HO_6.out) (Kd.S_typed (rS HO_7.out)) (by decide) hg); replace HI516 := Aside0.mk (IsS64.grown (is64 HI516.out) hg (IsS64.own_neS HI516.out HO_7.out (by decide))); replace HB := Aside0.mk (hb); have HO550 := Aside0.mk (ho); clear HO_7; clear HO530; clear ho hb hg hat))
       go_roundg k1
       case measure => have := HK1.out; omega
       case rel => exact ⟨(y548), (wrap64 (x8_1 + 1)), (t532), rr, H', ⟨by have := HK1.out; omega⟩, ⟨by (with_reducible repeat (first | apply Kd.R_alloc | apply Kd.R_drewN | apply Kd.R_drew)); exact Kd.R_mono HO_5.out (fun _ hk => hk.1)⟩, ⟨by (with_reducible repeat (first | apply Kd.R_alloc | apply Kd.R_drewN | apply Kd.R_drew)); exact Kd.R_mono HO_6.out (fun _ hk => hk.1)⟩, ⟨rS HO550.out⟩, ⟨is64 HI516.out⟩, ⟨bi64 HB.out HI516.out⟩⟩
      ·rw [if_neg c45] at H
       exact absurd H (by simp)
    ·rw [if_neg c12] at H
     exact absurd H (by simp)
   ·rw [if_neg c11] at H
    have c11b0 : decide (x8_1 < (t521.length : Int)) = false := decide_eq_false c11
    clear c11
    have HC51 := Aside0.mk H
    clear H
    obtain ⟨Ao52, co52, eo52⟩ := Kd.R_slice HO_6.out
    subst eo52
    go_upto_region 14 with (fail)
    go_cut [57] (fun v57 wc => ∃ (kq : Nat) (x57_50 : Bool) (x517001_50 : Int), v57 = .bool x57_50 ∧ Aside0 (spec_DrawFallOk.j1 kq t517 x7_1 x57_50 t514 x517001_50 = some (r1, r2)) ∧ Aside0 (kq ≤ k1) ∧ Aside0 (Kd.R (Kd.int .i64) 3 wc w.heap.size (fun _ => True) (.slice Ao7 t517.length co7) t517) ∧ Aside0 (Kd.S (Kd.slice 3 (Kd.int .i64)) 23 wc w.heap.size (fun k_ => some k_ ≠ ((.slice Ao7 t517.length co7) : Value).ownBlock) u7 x7_1) ∧ Aside0 (IsS64 w wc g516 t514 x517001_50) ∧ Aside0 (Below w.heap.size w wc))
    case first =>
     have H := HC51.out
     clear HC51
     replace H := Option.bind_eq_some_iff.mp H
     obtain ⟨⟨t551, t552⟩, A530, H⟩ := H
     replace H : (if t551 = 0 then (spec_DrawFallOk.j1 k1 t517 x7_1 (decide ((x7_1.length : Int) > 0)) t514 t552) else (spec_DrawFallOk.j1 k1 t517 x7_1 false t514 t552)) = some (r1, r2) := H
     have A53 := Aside0.mk A530
     clear A530
     by_cases c54 : t551 = 0
     ·rw [if_pos c54] at H
      have c54b0 : (t551 == 0) = true := beq_iff_eq.mpr c54
      have c54b1 : (t551 != 0) = false := bne_eq_false_iff_eq.mpr c54
      clear c54
      (first | rw [c54b0] | (simp only [i64_w, i32_w]; rw [c54b0]) | skip)
      have H' := Aside0.mk H
      clear H
      go_wp2_with (first | ((with_reducible refine gate_callee (f := 49) rfl ?_); refine goesL_ (some 51) rfl rfl Try.func49 (by kernel_rfl) rfl #[.pointer (some ⟨g516, 0, none⟩), .int .i64 3] rfl ls ?_; (with_reducible refine (spec_l20Rd_pick.calls k1 g516 t514 x517001_1 3 t551 t552 w _ ?side1 ?side2 A53.out).mono ?_); (case side1 => exact is64 HI516.out); (case side2 => exact bi64 HB.out HI516.out); rintro e w55 ⟨rfl, hi, hb, hk⟩; refine ⟨_, rfl, ?_⟩; replace HO_5 := Aside0.mk (Kd.R_mono (Kd.R_keep (IsS64.apart (show IsS64 w _ g516 t514 x517001_1 from is64 HI516.out) (rR HO_5.out) (by decide)) hk (fun _ h => h.2)) (fun _ h => h.1)); replace HO_6 := Aside0.mk (Kd.R_mono (Kd.R_keep (IsS64.apart (show IsS64 w _ g516 t514 x517001_1 from is64 HI516.out) (rR HO_6.out) (by decide)) hk (fun _ h => h.2)) (fun _ h => h.1)); replace HO_7 := Aside0.mk (Kd.S_mono (Kd.S_keep (IsS64.apartS (show IsS64 w _ g516 t514 x517001_1 from is64 HI516.out) (rS HO_7.out) (by decide)) hk (fun _ h => h.2)) (fun _ h => h.1)); replace HB := Aside0.mk (hb); replace HI516 := Aside0.mk (hi); (try clear hb); (try clear hb2); (try clear hk); (try clear hi); obtain ⟨Ao56, co56, eo56⟩ := Kd.S_slice HO_7.out; subst eo56))
      go_meet
      case rel => exact ⟨_, (decide ((x7_1.length : Int) > 0)), (t552), rr, H', ⟨by have := HK1.out; first | omega | exact Nat.le_refl _⟩, ⟨by (with_reducible repeat (first | apply Kd.R_alloc | apply Kd.R_drewN | apply Kd.R_drew)); exact Kd.R_mono HO_5.out (fun _ hk => trivial)⟩, ⟨by (with_reducible repeat (first | apply Kd.S_alloc | apply Kd.S_drewN | apply Kd.S_drew)); exact Kd.S_mono HO_7.out (fun _ hk => hk.1)⟩, ⟨is64 HI516.out⟩, ⟨bi64 HB.out HI516.out⟩⟩
     ·rw [if_neg c54] at H
      have c54b0 : (t551 == 0) = false := beq_eq_false_iff_ne.mpr c54
      have c54b1 : (t551 != 0) = true := bne_iff_ne.mpr c54
      (first | rw [c54b0] | (simp only [i64_w, i32_w]; rw [c54b0]) | skip)
      have H' := Aside0.mk H
      clear H
      go_wp2_with (first | ((with_reducible refine gate_callee (f := 49) rfl ?_); refine goesL_ (some 51) rfl rfl Try.func49 (by kernel_rfl) rfl #[.pointer (some ⟨g516, 0, none⟩), .int .i64 3] rfl ls ?_; (with_reducible refine (spec_l20Rd_pick.calls k1 g516 t514 x517001_1 3 t551 t552 w _ ?side1 ?side2 A53.out).mono ?_); (case side1 => exact is64 HI516.out); (case side2 => exact bi64 HB.out HI516.out); rintro e w57 ⟨rfl, hi, hb, hk⟩; refine ⟨_, rfl, ?_⟩; replace HO_5 := Aside0.mk (Kd.R_mono (Kd.R_keep (IsS64.apart (show IsS64 w _ g516 t514 x517001_1 from is64 HI516.out) (rR HO_5.out) (by decide)) hk (fun _ h => h.2)) (fun _ h => h.1)); replace HO_6 := Aside0.mk (Kd.R_mono (Kd.R_keep (IsS64.apart (show IsS64 w _ g516 t514 x517001_1 from is64 HI516.out) (rR HO_6.out) (by decide)) hk (fun _ h => h.2)) (fun _ h => h.1)); replace HO_7 := Aside0.mk (Kd.S_mono (Kd.S_keep (IsS64.apartS (show IsS64 w _ g516 t514 x517001_1 from is64 HI516.out) (rS HO_7.out) (by decide)) hk (fun _ h => h.2)) (fun _ h => h.1)); replace HB := Aside0.mk (hb); replace HI516 := Aside0.mk (hi); (try clear hb); (try clear hb2); (try clear hk); (try clear hi)))
      go_meet
      case rel => exact ⟨_, (false), (t552), rr, H', ⟨by have := HK1.out; first | omega | exact Nat.le_refl _⟩, ⟨by (with_reducible repeat (first | apply Kd.R_alloc | apply Kd.R_drewN | apply Kd.R_drew)); exact Kd.R_mono HO_5.out (fun _ hk => trivial)⟩, ⟨by (with_reducible repeat (first | apply Kd.S_alloc | apply Kd.S_drewN | apply Kd.S_drew)); exact Kd.S_mono HO_7.out (fun _ hk => hk.1)⟩, ⟨is64 HI516.out⟩, ⟨bi64 HB.out HI516.out⟩⟩
    case rest =>
     clear HC51
     try clear c1
     try clear c2
     try clear p2
     try clear c3
     try clear c4
     try clear c5
     try clear p5
     try clear q5
     try clear hx5
     try clear c6
     try clear p6
     try clear c11
     try clear c11b0
     try clear c12
     try clear c12b0
     try clear c16
     try clear c16b0
     try clear c16b1
     try clear c18
     try clear c20
     try clear c20b0
     try clear c20b1
     try clear c21
     try clear c30
     try clear c37
     try clear c38
     try clear c40
     try clear c41
     try clear c45
     try clear c49
     try clear c50
     try clear p52
     try clear q52
     try clear hx52
     try clear c54
     try clear c54b0
     try clear c54b1
     try clear hx527_0
     try clear p2
     try clear p527
     try clear q527
     obtain ⟨kq, x57_50, x517001_50, rfl, HA, HJ50, HO_5, HO_7, HI516, HB⟩ := hcut
     cases kq with
     | zero => exact absurd HA.out (by simp [spec_DrawFallOk.j1])
     | succ kj50 =>
      have H := HA.out
      clear HA
      simp only [spec_DrawFallOk.j1] at H
      by_cases c58 : x57_50 = true
      ·subst c58
       have H1 : ((spec_l20Rd_pick.f kj50 t514 x517001_50 (x7_1.length : Int)).bind fun bt553 => ((spec_l20Little.f kj50 t514 bt553.2 5).bind fun bt555 => (if 0 ≤ bt553.1 then (if bt553.1 < (x7_1.length : Int) then (some (t517, (x7_1.set (bt553.1 : Int).toNat bt555.1))) else (none)) else (none)))) = some (r1, r2) := by rw [if_pos rfl] at H; exact H
       clear H
       have H := H1
       clear H1
       replace H := Option.bind_eq_some_iff.mp H
       obtain ⟨⟨t553, t554⟩, A590, H⟩ := H
       replace H : ((spec_l20Little.f kj50 t514 t554 5).bind fun bt555 => (if 0 ≤ t553 then (if t553 < (x7_1.length : Int) then (some (t517, (x7_1.set (t553 : Int).toNat bt555.1))) else (none)) else (none))) = some (r1, r2) := H
       have A59 := Aside0.mk A590
       clear A590
       replace H := Option.bind_eq_some_iff.mp H
       obtain ⟨⟨t555, t558⟩, A600, H⟩ := H
       replace H : (if 0 ≤ t553 then (if t553 < (x7_1.length : Int) then (some (t517, (x7_1.set (t553 : Int).toNat t555))) else (none)) else (none)) = some (r1, r2) := H
       have A60 := Aside0.mk A600
       clear A600
       by_cases c61 : 0 ≤ t553
       ·rw [if_pos c61] at H
        have c61b0 : decide (0 ≤ t553) = true := decide_eq_true c61
        clear c61
        by_cases c62 : t553 < (x7_1.length : Int)
        ·rw [if_pos c62] at H
         have c62b0 : decide (t553 < (x7_1.length : Int)) = true := decide_eq_true c62
         clear c62
         obtain ⟨y559, hy559⟩ : ∃ y_ : List (List Int), y_ = (x7_1.set (t553 : Int).toNat t555) := ⟨_, rfl⟩
         replace H : (some (t517, y559)) = some (r1, r2) := fb hy559 H
         have Ny559 := Aside0.mk hy559
         clear hy559
         simp only [Option.some.injEq, Prod.mk.injEq] at H
         obtain ⟨rfl, rfl⟩ := H
         obtain ⟨Ao64, co64, eo64⟩ := Kd.S_slice HO_7.out
         subst eo64
         go_wp2_with (first | ((with_reducible refine gate_callee (f := 49) rfl ?_); refine goesL_ (some 62) rfl rfl Try.func49 (by kernel_rfl) rfl #[.pointer (some ⟨g516, 0, none⟩), .int .i64 (x7_1.length : Int)] rfl ls ?_; (with_reducible refine (spec_l20Rd_pick.calls kj50 g516 t514 x517001_50 (x7_1.length : Int) t553 t554 w _ ?side1 ?side2 A59.out).mono ?_); (case side1 => exact is64 HI516.out); (case side2 => exact bi64 HB.out HI516.out); rintro e w65 ⟨rfl, hi, hb, hk⟩; refine ⟨_, rfl, ?_⟩; replace HO_5 := Aside0.mk (Kd.R_mono (Kd.R_keep (IsS64.apart (show IsS64 w _ g516 t514 x517001_50 from is64 HI516.out) (rR HO_5.out) (by decide)) hk (fun _ h => h.2)) (fun _ h => h.1)); replace HO_7 := Aside0.mk (Kd.S_mono (Kd.S_keep (IsS64.apartS (show IsS64 w _ g516 t514 x517001_50 from is64 HI516.out) (rS HO_7.out) (by decide)) hk (fun _ h => h.2)) (fun _ h => h.1)); replace HB := Aside0.mk (hb); replace HI516 := Aside0.mk (hi); (try clear hb); (try clear hb2); (try clear hk); (try clear hi)) | ((with_reducible refine gate_callee (f := 61) rfl ?_); refine goesL_ (some 64) rfl rfl Try.func61 (by kernel_rfl) rfl #[.pointer (some ⟨g516, 0, none⟩), .int .i64 5] rfl ls ?_; (with_reducible refine (spec_l20Little.calls kj50 g516 t514 t554 5 t555 t558 w _ ?side1 ?side2 A60.out).mono ?_); (case side1 => exact is64 HI516.out); (case side2 => exact bi64 HB.out HI516.out); rintro e w66 ⟨v556, rfl, ho0, hi, hb, hk⟩; refine ⟨_, rfl, ?_⟩; have n0_ := Aside0.mk (Kd.R_mono (Kd.R_told (Kd.R_oldK (IsS64.apart (show IsS64 w _ g516 t514 t554 from is64 HI516.out) (rR HO_5.out) (by decide)) hk) (Kd.R_base ho0)) (fun _ h_ => h_.1)); replace HO_7 := Aside0.mk (Kd.S_mono (Kd.S_told (Kd.S_oldK (IsS64.apartS (show IsS64 w _ g516 t514 t554 from is64 HI516.out) (rS HO_7.out) (by decide)) hk) (Kd.R_base ho0)) (fun _ h_ => h_.1)); have HO557 := Aside0.mk (Kd.R_lower (Kd.R_new' ho0 (Kd.R_lt (rR HO_5.out))) (below_size (bi64 HB.out HI516.out))); replace HB := Aside0.mk (hb); replace HI516 := Aside0.mk (hi); replace HO_5 := n0_; clear n0_; (try clear hb); (try clear hb2); (try clear hk); (try clear hi); (try clear ho0); have p63 : 0 ≤ (t553 : Int) := da; have q63 : (t553 : Int) < ((x7_1.length : Int) : Int) := da; obtain ⟨go63, co63, eo63, gb63, gl63, cl63, HG63⟩ := Kd.S_form HO_7.out (by omega); (first | cases eo63 | (injection eo63 with ea_ en_ ec_; (first | subst ea_ | (injection ea_ with ea_; subst ea_)); subst ec_; clear en_)); have GB63 := Aside0.mk gb63; have GG63 := Aside0.mk HG63; clear gb63 gl63 HG63; obtain ⟨_, ce63, hcl63, hM63, hcc63, hfr63, _, _⟩ := Kd.S_elem HO_7.out [] (t553 : Int) p63 q63; obtain ⟨ve63_0, rfl, ge63_0⟩ := hM63; have hx63_0 := hcc63 0 _ rfl; have hf63_0 := hfr63 0; (try simp only [show ((Kd.slice 3 (Kd.int .i64))).sz = 1 from rfl, Nat.mul_one, Nat.add_zero] at hx63_0); (try simp only [show ((Kd.slice 3 (Kd.int .i64))).sz = 1 from rfl, Nat.mul_one, Nat.add_zero] at hf63_0); clear hcl63 hcc63 hfr63; (try clear hM63); replace p63 := eq_true p63; replace q63 := eq_true q63; obtain ⟨Ao67, co67, eo67⟩ := Kd.R_slice HO557.out; subst eo67; have HX68 := Aside0.mk (show Kd.S (Kd.slice 3 (Kd.int .i64)) 23 w66 w.heap.size (fun k_ => ((fun k_ => some k_ ≠ (.slice Ao7 t517.length co7 : Value).ownBlock)) k_ ∧ ¬ ((fun k_ => some k_ = (.slice Ao67 t555.length co67 : Value).ownBlock)) k_) (.slice (some ⟨go63, 0, none⟩) x7_1.length co64) x7_1 from (by (with_reducible repeat (first | apply Kd.S_alloc | apply Kd.S_drewN | apply Kd.S_drew)); exact Kd.S_mono HO_7.out (fun k_ hk => ⟨hk.1, fun e_ => hk.2 e_⟩))); obtain ⟨oki68, ce68, hcl68, hM68, hcc68, hfr68, hoki68, hH68⟩ := Kd.S_elem HX68.out [] (t553 : Int) (da) (by have h_ : (t553 : Int) < ((x7_1.length : Int) : Int) := da; first | exact h_ | (have e_ := (Kd.S_reads' HO_7.out).1; omega) | simpa using h_); obtain ⟨ve68_0, rfl, ge68_0⟩ := hM68; have HP68 := Kd.S_seg hH68 (da) (by have h_ : (t553 : Int) < ((x7_1.length : Int) : Int) := da; first | exact h_ | (have e_ := (Kd.S_reads' HO_7.out).1; omega) | simpa using h_) (seg := [.slice Ao67 t555.length co67]) (j := 0) (show 1 ≤ 1 from by decide) (x' := t555) (Kd.M_row (Kd.R_mono (Kd.R_tight rfl (Kd.R_mono (ok' := fun k_ => ((fun k_ => some k_ ≠ (.slice Ao7 t517.length co7 : Value).ownBlock)) k_ ∧ k_ ≠ go63) (Kd.R_apart' (HO557.out) (Kd.S_typed HO_7.out) (by decide)) (fun k_ hk => ⟨hk.1.2, fun e_ => (hk.2) (by rw [e_]; rfl)⟩))) (fun _ h_ => Or.inr (h_)))) (fun _ hk => hk) (fun k_ hk_ => ((Kd.R_mono (ok' := fun k_ => ((fun k_ => some k_ ≠ (.slice Ao7 t517.length co7 : Value).ownBlock)) k_ ∧ k_ ≠ go63) (Kd.R_apart' (HO557.out) (Kd.S_typed HO_7.out) (by decide)) (fun k_ hk => ⟨hk.1.2, fun e_ => (hk.2) (by rw [e_]; rfl)⟩))).1 k_ hk_.symm); have hx68_0 := hcc68 0 _ rfl; (try simp only [show ((Kd.slice 3 (Kd.int .i64))).sz = 1 from rfl, Nat.mul_one, Nat.add_zero] at hx68_0); have hf68_0 := hfr68 0; (try simp only [show ((Kd.slice 3 (Kd.int .i64))).sz = 1 from rfl, Nat.mul_one, Nat.add_zero] at hf68_0); clear hcl68 hcc68 hfr68 hoki68 hH68; (try clear hM68); (try simp only [show ((Kd.slice 3 (Kd.int .i64))).sz = 1 from rfl, Nat.mul_one, Nat.add_zero] at HP68)) | ((with_reducible refine gate_store (t := 23) (p := 65) rfl ?_); refine store_event (t := 23) (p := 65) (v := ?vo_w69) (w1 := (w66.setCell ⟨go63, (t553 : Int).toNat, none⟩ (.slice Ao67 t555.length co67))) ?hg ?ho ?hn ?hr ?_; (case ho => rfl); (case hg => rfl); (case hn => rfl); (case hr => first | (go_simp; done) | (go_simp; rfl)); intro w69 hw; have hg : w66.grownBy w69 (some go63) := (by rw [hw]; exact HP68.2); have hp_ : Kd.S (Kd.slice 3 (Kd.int .i64)) 23 w69 w.heap.size (fun k_ => some k_ ≠ (.slice Ao7 t517.length co7 : Value).ownBlock) (.slice (some ⟨go63, 0, none⟩) x7_1.length co64) y559 := (by rw [hw, Ny559.out]; exact HP68.1); clear HP68; replace HO_5 := Aside0.mk (Kd.R_over' (v := (.slice (some ⟨go63, 0, none⟩) x7_1.length co64)) (rR HO_5.out) (Kd.S_typed HO_7.out) (by decide) hg); have n1_ := Aside0.mk (hp_); replace HI516 := Aside0.mk (IsS64.grown (is64 HI516.out) hg (IsS64.own_neS HI516.out HO_7.out (by decide))); replace HB := Aside0.mk ((by rw [hw]; exact below_set (HB.out) GB63.out : Below w.heap.size w w69)); clear HO557; replace HO_7 := n1_; clear n1_; clear hg hw hp_))
         go_ret2
         exact ⟨_, _, er, by (with_reducible repeat (first | apply Kd.R_alloc | apply Kd.R_drewN | apply Kd.R_drew)); exact Kd.R_mono HO_5.out (fun _ hk => trivial), by (with_reducible repeat (first | apply Kd.S_alloc | apply Kd.S_drewN | apply Kd.S_drew)); exact HO_7.out, bi64 HB.out HI516.out⟩
        ·rw [if_neg c62] at H
         exact absurd H (by simp)
       ·rw [if_neg c61] at H
        exact absurd H (by simp)
      ·replace c58 := Bool.eq_false_iff.mpr c58
       subst c58
       have H1 : (some (t517, x7_1)) = some (r1, r2) := by rw [if_neg (show ¬ (false = true) by decide)] at H; exact H
       clear H
       have H := H1
       clear H1
       simp only [Option.some.injEq, Prod.mk.injEq] at H
       obtain ⟨rfl, rfl⟩ := H
       go_wp2
       go_ret2
       exact ⟨_, _, er, by (with_reducible repeat (first | apply Kd.R_alloc | apply Kd.R_drewN | apply Kd.R_drew)); exact HO_5.out, by (with_reducible repeat (first | apply Kd.S_alloc | apply Kd.S_drewN | apply Kd.S_drew)); exact HO_7.out, bi64 HB.out HI516.out⟩

end Go.Proofs.Ytfhniahijnkgpaa.PFnFallOk
