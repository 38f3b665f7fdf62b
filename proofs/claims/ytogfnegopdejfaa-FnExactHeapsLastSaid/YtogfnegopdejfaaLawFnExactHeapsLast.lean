/-
  The row of FnExactHeapsLast: for every input the law returns true, and its arguments read as they read before. No condition.
-/
import Derived.Test.YtogfnegopdejfaaRows
import Derived.Test.YtogfnegopdejfaaKW
import Derived.Test.YtogfnegopdejfaaPureFnExactHeapsLast
import Derived.Test.YtogfnegopdejfaaS29
import Derived.WalkKit
import Derived.ProofKit
import Derived.OpenShut
import Derived.ShutString
import Derived.ChangeOld
import Derived.Below
import Derived.SizedLaws
namespace Go.Proofs.Ytogfnegopdejfaa.fnExactHeapsLast
open Go.ChangeShapes Go.WideShapes Go.ChangeAt Go.RowKit
open Go.Proofs.Ytogfnegopdejfaa.Eng
open Go.ChangeMaps (open_string shut_string)
set_option linter.unusedVariables false
theorem own : ownKnob Try.prog.godebug = none := by kernel_rfl
theorem laidOut : laidOutB Try.prog = true := by kernel_rfl
set_option maxRecDepth 100000 in
theorem lifted (os : Os) (started : os.Started) (H : Type) (enc : TypeId × Value → H) :
    ReturnsInHanded {} Try.checked os 4 .any (Rows.fnExactHeapsLastSpec.pre6 enc Try.prog Try.f4 Rows.fnExactHeapsLastRow.domain false) (Rows.fnExactHeapsLastSpec.post enc Try.prog Try.f4 false true false false) := by
  refine returnsInHanded_of_change_sized (C := Try.checked) own started (by kernel_rfl) Try.func4
    (ChangeSpec.witness6 (enc := enc) (C := Try.checked) false ⟨#[], #[.slice none 0 0, .slice none 0 0], []⟩ 8 (by kernel_rfl) (by kernel_rfl) (by kernel_rfl) (by kernel_rfl)) ?_
  intro W base args ds gs before hval0 hW hcnd hsz0 _
  have hval : ∀ (j : Nat) t v, Try.f4.params[j]? = some t → args[j]? = some v → Value.okWide Try.prog W .any base t v := hval0
  have hW' := hW
  obtain ⟨p, q, hA0, hV, rfl, hfz, hnd⟩ := hW
  have hA : DataW.TrodAll enc Try.prog W 0 (fun _ => true) true Try.f4.params.toList args.toList ds p := hA0
  rw [Try.params4] at hA hval
  obtain ⟨v0, vs0, d0, ds0, p0, q0, hargs, rfl, rfl, h0, r0⟩ := trodAll_cons hA
  obtain ⟨v1, vs1, d1, ds1, p1, q1, rfl, rfl, rfl, h1, r1⟩ := trodAll_cons r0
  obtain ⟨rfl, rfl, rfl⟩ := trodAll_nil r1
  obtain rfl : args = #[v0, v1] := by cases args; simp_all
  obtain ⟨rfl, rfl⟩ := trodVars_none hV
  have k0 := h0
  have lt0 : ∀ x ∈ p0, x.block < W.heap.size := by obtain ⟨m, hm⟩ := k0; exact DataW.trod_lt m _ _ _ hm
  obtain ⟨l0, hr0, hm0, hw0⟩ := arg_sl (τ := .int .i64) Try.underlying22 (by kernel_rfl) (reads_int Try.underlying3) (hval 0 22 v0 rfl rfl) h0
  have k1 := h1
  have lt1 : ∀ x ∈ p1, x.block < W.heap.size := by obtain ⟨m, hm⟩ := k1; exact DataW.trod_lt m _ _ _ hm
  obtain ⟨l1, hr1, hm1, hw1⟩ := arg_sl (τ := .ap 2) Try.underlying23 (by kernel_rfl) (reads_trade Try.underlying39 (by kernel_rfl) (by kernel_rfl) Try.underlying22 Try.underlying22 Try.underlying3 (by kernel_rfl)) (hval 1 23 v1 rfl rfl) h1
  obtain ⟨k, hk⟩ := Go.Proofs.Ytogfnegopdejfaa.EPure.pure_FnExactHeapsLast l0 l1 hm0 hw0 hm1 hw1
  clear hA0 hval0
  refine (law_calls (X := ext) (Checked.mixed Try.checked) tab_ok fns_ok ext_ok (k := k) (g := 4) (f := fn4) (ps := [⟨.sl (.int .i64), l0⟩, ⟨.sl (.ap 2), l1⟩]) (r := true) rfl rfl rfl rfl hk rfl (w := W) (vs := [v0, v1]) (And.intro rfl (And.intro hr0 (And.intro rfl (And.intro hr1 True.intro)))) (fun _ _ => trivial)).mono fun e W' he0 => ?_
  obtain ⟨he, bel⟩ := he0
  subst he
  exact ⟨_, rfl, _, _, _, [], _, [], hW', trodAll_mk1 (shut_bool Try.underlying4 _), (trodAll_cons_mk (Below.trod laidOut (by kernel_rfl) (of_decide_eq_true (by kernel_rfl)) k0 bel lt0) (trodAll_cons_mk (Below.trod laidOut (by kernel_rfl) (of_decide_eq_true (by kernel_rfl)) k1 bel lt1) trodAll_mk0)), rfl, bel.frame _, fun h => by cases h⟩
theorem over : Rows.fnExactHeapsLastRow.holds Try.pinned (OpenSpec.ofChange Rows.fnExactHeapsLastSpec) :=
  OpenClaim.holds_of_wide 4 Try.f4 rfl rfl rfl rfl rfl rfl rfl ⟨rfl, rfl, rfl, rfl, rfl⟩ rfl rfl rfl rfl rfl (by kernel_rfl) Try.func4 (by kernel_rfl)
    (of_decide_eq_true (by kernel_rfl)) (by unfold Func.isWrapper; first | (rw [if_pos (by decide +kernel)]; kernel_rfl) | (rw [if_neg (by decide +kernel)]; exact ⟨rfl, rfl⟩))
    (fun os started H enc _ => lifted os started H enc)
theorem proved : Rows.FnExactHeapsLastSaid := over
#print axioms proved
end Go.Proofs.Ytogfnegopdejfaa.fnExactHeapsLast
namespace Go.Proofs.Ytogfnegopdejfaa
/-- The row, under a short name, for the claim. -/
theorem fnExactHeapsLast_holds : Rows.FnExactHeapsLastSaid := fnExactHeapsLast.proved
end Go.Proofs.Ytogfnegopdejfaa
