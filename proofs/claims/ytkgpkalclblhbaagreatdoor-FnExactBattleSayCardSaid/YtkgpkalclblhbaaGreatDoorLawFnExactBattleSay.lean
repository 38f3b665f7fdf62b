/-
  The row of FnExactBattleSay: for every input the law returns true, and its arguments read as they read before. No condition.
-/
import Derived.Test.YtkgpkalclblhbaaGreatDoorRows
import Derived.Test.YtkgpkalclblhbaaGreatDoorKE
import Derived.Test.YtkgpkalclblhbaaGreatDoorPureFnExactBattleSay
import Derived.Test.YtkgpkalclblhbaaGreatDoorS29
import Derived.Test.YtkgpkalclblhbaaGreatDoorS32
import Derived.Test.YtkgpkalclblhbaaGreatDoorCards
import Derived.Test.YtkgpkalclblhbaaGreatDoorTie
import Derived.WalkKit
import Derived.ProofKit
import Derived.OpenShut
import Derived.ShutString
import Derived.ChangeOld
import Derived.Below
import Derived.SizedLaws
import Derived.LaidMore
import Derived.Stop.Joined
import Derived.SevenTiedAt
namespace Go.Proofs.YtkgpkalclblhbaaGreatDoor.fnExactBattleSay
open Go.ChangeShapes Go.WideShapes Go.ChangeAt Go.RowKit
open Go.Proofs.YtkgpkalclblhbaaGreatDoor.Eng
open Go.ChangeMaps (open_string shut_string)
set_option linter.unusedVariables false
theorem own : ownKnob Tryz.prog.godebug = none := by kernel_rfl
theorem laidOut : laidOutB Tryz.prog = true := by kernel_rfl
theorem door_met (os : Os) (args : Array Value) : laidMetH Tryz.prog Rows.fnExactBattleSayRow.laid ((World.doorLaid Tryz.prog 400 os).forCall (fun _ _ => 0) ⟨#[], args, []⟩).memory :=
  laidMetH_of_parts3 (fuel := 8) (laidMet_of_run' 8 (by kernel_rfl) (by kernel_rfl)) (by kernel_rfl) (by kernel_rfl)
set_option maxRecDepth 100000 in
theorem lifted (os : Os) (started : os.Started) (H : Type) (enc : TypeId × Value → H) :
    ReturnsInHanded {} Tryz.checked os 5 .any (fun w args => (Rows.fnExactBattleSaySpec.pre enc Tryz.prog Tryz.f5 [] false w args ∧ laidMetH Tryz.prog Rows.fnExactBattleSayRow.laid w) ∧ sizedMet enc Tryz.prog Tryz.f5 (OpenSpec.ofChange Rows.fnExactBattleSaySpec) false w args) (Rows.fnExactBattleSaySpec.post enc Tryz.prog Tryz.f5 false true false false) := by
  refine laid_form (C := Tryz.checked) (X := fun w _ => laidMetH Tryz.prog Rows.fnExactBattleSayRow.laid w) (fun _ _ _ hh h => h.of_heap hh) own started (by kernel_rfl) Tryz.func5
    (ChangeSpec.witness_shaped (enc := enc) (C := Tryz.checked) (os := os) (X := fun w _ => laidMetH Tryz.prog Rows.fnExactBattleSayRow.laid w) false (World.doorLaid Tryz.prog 400 os) #[.agg #[.slice none 0 0, .int .i64 0, .slice none 0 0, .slice none 0 0], .slice none 0 0] 8 rfl (World.shaped_of_RefB (by kernel_rfl) (by kernel_rfl)) (by kernel_rfl) (by kernel_rfl) (by kernel_rfl) (door_met os _)) ?_
  intro W base args ds gs before hval0 hW hL hsh
  rw [MakeChecks.laidMetH_plain _ _ _ (by kernel_rfl)] at hL
  have q0 : Lib.TabIs Tryz.prog W tabName .u64 Lib.pow10Tab := of_name (Lib.tabIs_of_head (g := 3) (t := 179) (e := 160) (n := 20) (zs := Lib.pow10Tab) (k := .u64) (by kernel_rfl) (by kernel_rfl) Tryz.underlying179 Tryz.underlying160 (by kernel_rfl) (by kernel_rfl) (laid_tail (laid_tail hL))) (by kernel_rfl)
  obtain ⟨m1, q1⟩ := Go.Proofs.cell_of_shapedOpen_int (P := Tryz.prog) (g := 0) (t := 3) (zero := #[.int .i64 0]) hsh (of_decide_eq_true (by kernel_rfl)) (by kernel_rfl) rfl (by kernel_rfl) (by kernel_rfl) Tryz.underlying3
  obtain ⟨a2, b2, q2⟩ := iface_of_head (g := 1) (t := 110) (by kernel_rfl) (by kernel_rfl) Tryz.underlying110 (laid_tail (laid_tail (laid_tail (laid_tail hL))))
  obtain ⟨a3, b3, q3⟩ := iface_of_head (g := 2) (t := 110) (by kernel_rfl) (by kernel_rfl) Tryz.underlying110 (laid_tail (laid_tail (laid_tail hL)))
  have hq : ∀ w' : World, (∀ b, b < W.heap.size → w'.heap[b]? = W.heap[b]?) → tab.q w' := fun w' hb => ⟨tab_move (g := 3) (by kernel_rfl) q0 hb, ⟨m1, cell_move q1 hb⟩, ⟨a2, b2, cell_move q2 hb⟩, ⟨a3, b3, cell_move q3 hb⟩⟩
  have hval : ∀ (j : Nat) t v, Tryz.f5.params[j]? = some t → args[j]? = some v → Value.okWide Tryz.prog W .any base t v := hval0
  have hW' := hW
  obtain ⟨p, q, hA0, hV, rfl, hfz, hnd⟩ := hW
  have hA : DataW.TrodAll enc Tryz.prog W 0 (fun _ => true) true Tryz.f5.params.toList args.toList ds p := hA0
  rw [Tryz.params5] at hA hval
  obtain ⟨v0, vs0, d0, ds0, p0, q0, hargs, rfl, rfl, h0, r0⟩ := trodAll_cons hA
  obtain ⟨v1, vs1, d1, ds1, p1, q1, rfl, rfl, rfl, h1, r1⟩ := trodAll_cons r0
  obtain ⟨rfl, rfl, rfl⟩ := trodAll_nil r1
  obtain rfl : args = #[v0, v1] := by cases args; simp_all
  obtain ⟨rfl, rfl⟩ := trodVars_none hV
  have k0 := h0
  have lt0 : ∀ x ∈ p0, x.block < W.heap.size := by obtain ⟨m, hm⟩ := k0; exact DataW.trod_lt m _ _ _ hm
  obtain ⟨b0, hr0, hb0⟩ := arg_battle Tryz.underlying36 (by kernel_rfl) (by kernel_rfl) (by kernel_rfl) Tryz.underlying23 Tryz.underlying3 Tryz.underlying23 Tryz.underlying23 Tryz.underlying3 (by kernel_rfl) (hval 0 36 v0 rfl rfl) h0
  have k1 := h1
  have lt1 : ∀ x ∈ p1, x.block < W.heap.size := by obtain ⟨m, hm⟩ := k1; exact DataW.trod_lt m _ _ _ hm
  obtain ⟨l1, hr1, hm1, hw1⟩ := arg_sl (τ := .str) Tryz.underlying41 (by kernel_rfl) (reads_str Tryz.underlying9) (hval 1 41 v1 rfl rfl) h1
  obtain ⟨k, hk⟩ := Go.Proofs.YtkgpkalclblhbaaGreatDoor.EPure.pure_FnExactBattleSay b0 l1 hb0 hm1 hw1
  clear hA0 hval0
  refine (law_calls (X := ext) (Checked.mixed Tryz.checked) tab_ok fns_ok ext_ok (k := k) (g := 5) (f := fn5) (ps := [⟨.ap 4, b0⟩, ⟨.sl (.str), l1⟩]) (r := true) rfl rfl rfl rfl hk rfl (w := W) (vs := [v0, v1]) (And.intro rfl (And.intro hr0 (And.intro rfl (And.intro hr1 True.intro)))) hq).mono fun e W' he0 => ?_
  obtain ⟨he, bel⟩ := he0
  subst he
  exact ⟨_, rfl, _, _, _, [], _, [], hW', trodAll_mk1 (shut_bool Tryz.underlying4 _), (trodAll_cons_mk (Below.trod laidOut (by kernel_rfl) (of_decide_eq_true (by kernel_rfl)) k0 bel lt0) (trodAll_cons_mk (Below.trod laidOut (by kernel_rfl) (of_decide_eq_true (by kernel_rfl)) k1 bel lt1) trodAll_mk0)), rfl, bel.frame _, fun h => by cases h⟩
theorem over : Rows.fnExactBattleSayRow.holds Tryz.pinned (OpenSpec.ofChange Rows.fnExactBattleSaySpec) :=
  OpenClaim.holds_of_wide 5 Tryz.f5 rfl rfl rfl rfl rfl rfl rfl ⟨rfl, rfl, rfl, rfl, rfl⟩ rfl rfl rfl rfl rfl (by kernel_rfl) Tryz.func5 (by kernel_rfl)
    (of_decide_eq_true (by kernel_rfl)) (by unfold Func.isWrapper; first | (rw [if_pos (by decide +kernel)]; kernel_rfl) | (rw [if_neg (by decide +kernel)]; exact ⟨rfl, rfl⟩))
    (fun os started H enc _ => lifted os started H enc)
theorem card_holds : Rows.FnExactBattleSayCardSaid :=
  Claim7.holds_tied_plain_at .later [] Rows.fnExactBattleSayCard.laidKinds true Rows.fnExactBattleSayCard.stood.harness true
    over (fun _ h => by cases h) (by kernel_rfl) (fun _ h => by cases h) fnExactBattleSay_row_tie rfl ⟨rfl, rfl⟩ (by kernel_rfl) rfl
    (fun f fn hf hfn => by
      obtain rfl : f = 5 := Option.some.inj ((show Tryz.prog.funcNamed Rows.fnExactBattleSayRow.func = some 5 by kernel_rfl).symm.trans hf) |>.symm
      obtain rfl : fn = Tryz.f5 := (Option.some.inj (Tryz.func5.symm.trans hfn)).symm
      exact ⟨by kernel_rfl, fun j t ht => by
        rw [Tryz.params5] at ht
        have hm : t ∈ [36, 41] := by simpa using Array.mem_of_getElem? ht
        have hall : ([36, 41].all fun u => !Tryz.prog.wantsStandIn u) = true := by kernel_rfl
        exact (show Tryz.prog.wantsStandIn t = false by simpa using List.all_eq_true.1 hall t hm)⟩)
    (by kernel_rfl)
#print axioms card_holds
end Go.Proofs.YtkgpkalclblhbaaGreatDoor.fnExactBattleSay
namespace Go.Proofs.YtkgpkalclblhbaaGreatDoor
/-- The card, under a short name, for the claim. -/
theorem fnExactBattleSay_holds : Rows.FnExactBattleSayCardSaid := fnExactBattleSay.card_holds
end Go.Proofs.YtkgpkalclblhbaaGreatDoor
