/-
  The row of FnExactTradesRun: for every input the law returns true, and its arguments read as they read before. No condition.
-/
import Derived.Test.YtajecpmdagbojaaRows
import Derived.Test.YtajecpmdagbojaaKA
import Derived.Test.YtajecpmdagbojaaPureFnExactTradesRun
import Derived.Test.YtajecpmdagbojaaS29
import Derived.WalkKit
import Derived.ProofKit
import Derived.OpenShut
import Derived.ShutString
import Derived.ChangeOld
import Derived.Below
import Derived.SizedLaws
namespace Go.Proofs.Ytajecpmdagbojaa.fnExactTradesRun
open Go.ChangeShapes Go.WideShapes Go.ChangeAt Go.RowKit
open Go.Proofs.Ytajecpmdagbojaa.Eng
open Go.ChangeMaps (open_string shut_string)
set_option linter.unusedVariables false
theorem own : ownKnob Try.prog.godebug = none := by kernel_rfl
theorem laidOut : laidOutB Try.prog = true := by kernel_rfl
set_option maxRecDepth 100000 in
theorem lifted (os : Os) (started : os.Started) (H : Type) (enc : TypeId × Value → H) :
    ReturnsInHanded {} Try.checked os 13 .any (Rows.fnExactTradesRunSpec.pre6 enc Try.prog Try.f13 Rows.fnExactTradesRunRow.domain false) (Rows.fnExactTradesRunSpec.post enc Try.prog Try.f13 false true false false) := by
  refine returnsInHanded_of_change_sized (C := Try.checked) own started (by kernel_rfl) Try.func13
    (ChangeSpec.witness6 (enc := enc) (C := Try.checked) false ⟨#[], #[.slice none 0 0, .slice none 0 0, .slice none 0 0], []⟩ 8 (by kernel_rfl) (by kernel_rfl) (by kernel_rfl) (by kernel_rfl)) ?_
  intro W base args ds gs before hval0 hW hcnd hsz0 _
  have hval : ∀ (j : Nat) t v, Try.f13.params[j]? = some t → args[j]? = some v → Value.okWide Try.prog W .any base t v := hval0
  have hW' := hW
  obtain ⟨p, q, hA0, hV, rfl, hfz, hnd⟩ := hW
  have hA : DataW.TrodAll enc Try.prog W 0 (fun _ => true) true Try.f13.params.toList args.toList ds p := hA0
  rw [Try.params13] at hA hval
  obtain ⟨v0, vs0, d0, ds0, p0, q0, hargs, rfl, rfl, h0, r0⟩ := trodAll_cons hA
  obtain ⟨v1, vs1, d1, ds1, p1, q1, rfl, rfl, rfl, h1, r1⟩ := trodAll_cons r0
  obtain ⟨v2, vs2, d2, ds2, p2, q2, rfl, rfl, rfl, h2, r2⟩ := trodAll_cons r1
  obtain ⟨rfl, rfl, rfl⟩ := trodAll_nil r2
  obtain rfl : args = #[v0, v1, v2] := by cases args; simp_all
  obtain ⟨rfl, rfl⟩ := trodVars_none hV
  have k0 := h0
  have lt0 : ∀ x ∈ p0, x.block < W.heap.size := by obtain ⟨m, hm⟩ := k0; exact DataW.trod_lt m _ _ _ hm
  obtain ⟨l0, hr0, hm0, hw0⟩ := arg_sl (τ := .int .i64) Try.underlying24 (by kernel_rfl) (reads_int Try.underlying3) (hval 0 24 v0 rfl rfl) h0
  have k1 := h1
  have lt1 : ∀ x ∈ p1, x.block < W.heap.size := by obtain ⟨m, hm⟩ := k1; exact DataW.trod_lt m _ _ _ hm
  obtain ⟨l1, hr1, hm1, hw1⟩ := arg_sl (τ := .ap 2) Try.underlying41 (by kernel_rfl) (reads_trade Try.underlying29 (by kernel_rfl) (by kernel_rfl) Try.underlying24 Try.underlying24 Try.underlying3 (by kernel_rfl)) (hval 1 41 v1 rfl rfl) h1
  have k2 := h2
  have lt2 : ∀ x ∈ p2, x.block < W.heap.size := by obtain ⟨m, hm⟩ := k2; exact DataW.trod_lt m _ _ _ hm
  obtain ⟨l2, hr2, hm2, hw2⟩ := arg_sl (τ := .int .i64) Try.underlying24 (by kernel_rfl) (reads_int Try.underlying3) (hval 2 24 v2 rfl rfl) h2
  obtain ⟨k, hk⟩ := Go.Proofs.Ytajecpmdagbojaa.EPure.pure_FnExactTradesRun l0 l1 l2 hm0 hw0 hm1 hw1 hm2 hw2
  clear hA0 hval0 hsz0
  refine (law_calls (X := ext) (Checked.mixed Try.checked) tab_ok fns_ok ext_ok (k := k) (g := 13) (f := fn13) (ps := [⟨.sl (.int .i64), l0⟩, ⟨.sl (.ap 2), l1⟩, ⟨.sl (.int .i64), l2⟩]) (r := true) rfl rfl rfl rfl hk rfl (w := W) (vs := [v0, v1, v2]) (And.intro rfl (And.intro hr0 (And.intro rfl (And.intro hr1 (And.intro rfl (And.intro hr2 True.intro))))))).mono fun e W' he0 => ?_
  obtain ⟨he, bel⟩ := he0
  subst he
  exact ⟨_, rfl, _, _, _, [], _, [], hW', trodAll_mk1 (shut_bool Try.underlying4 _), (trodAll_cons_mk (Below.trod laidOut (by kernel_rfl) (of_decide_eq_true (by kernel_rfl)) k0 bel lt0) (trodAll_cons_mk (Below.trod laidOut (by kernel_rfl) (of_decide_eq_true (by kernel_rfl)) k1 bel lt1) (trodAll_cons_mk (Below.trod laidOut (by kernel_rfl) (of_decide_eq_true (by kernel_rfl)) k2 bel lt2) trodAll_mk0))), rfl, bel.frame _, fun h => by cases h⟩
theorem over : Rows.fnExactTradesRunRow.holds Try.pinned (OpenSpec.ofChange Rows.fnExactTradesRunSpec) :=
  OpenClaim.holds_of_wide 13 Try.f13 rfl rfl rfl rfl rfl rfl rfl ⟨rfl, rfl, rfl, rfl, rfl⟩ rfl rfl rfl rfl rfl (by kernel_rfl) Try.func13 (by kernel_rfl)
    (of_decide_eq_true (by kernel_rfl)) (by unfold Func.isWrapper; first | (rw [if_pos (by decide +kernel)]; kernel_rfl) | (rw [if_neg (by decide +kernel)]; exact ⟨rfl, rfl⟩))
    (fun os started H enc _ => lifted os started H enc)
theorem proved : Rows.FnExactTradesRunSaid := over
#print axioms proved
end Go.Proofs.Ytajecpmdagbojaa.fnExactTradesRun
namespace Go.Proofs.Ytajecpmdagbojaa
/-- The row, under a short name, for the claim. -/
theorem fnExactTradesRun_holds : Rows.FnExactTradesRunSaid := fnExactTradesRun.proved
end Go.Proofs.Ytajecpmdagbojaa
