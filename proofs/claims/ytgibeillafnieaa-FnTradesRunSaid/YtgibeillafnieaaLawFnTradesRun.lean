/-
  The row of FnTradesRun: for every input the law returns true, and its arguments read as they read before. No condition.
-/
import Derived.Test.YtgibeillafnieaaRows
import Derived.Test.YtgibeillafnieaaKN
import Derived.Test.YtgibeillafnieaaPureFnTradesRun
import Derived.Test.YtgibeillafnieaaS29
import Derived.WalkKit
import Derived.ProofKit
import Derived.OpenShut
import Derived.ShutString
import Derived.ChangeOld
import Derived.Below
import Derived.SizedLaws
namespace Go.Proofs.Ytgibeillafnieaa.fnTradesRun
open Go.ChangeShapes Go.WideShapes Go.ChangeAt Go.RowKit
open Go.Proofs.Ytgibeillafnieaa.Eng
open Go.ChangeMaps (open_string shut_string)
set_option linter.unusedVariables false
theorem own : ownKnob Try.prog.godebug = none := by kernel_rfl
theorem laidOut : laidOutB Try.prog = true := by kernel_rfl
set_option maxRecDepth 100000 in
theorem lifted (os : Os) (started : os.Started) (H : Type) (enc : TypeId × Value → H) :
    ReturnsInHanded {} Try.checked os 6 .any (Rows.fnTradesRunSpec.pre6 enc Try.prog Try.f6 Rows.fnTradesRunRow.domain false) (Rows.fnTradesRunSpec.post enc Try.prog Try.f6 false true false false) := by
  refine returnsInHanded_of_change_sized (C := Try.checked) own started (by kernel_rfl) Try.func6
    (ChangeSpec.witness6 (enc := enc) (C := Try.checked) false ⟨#[], #[.slice none 0 0], []⟩ 8 (by kernel_rfl) (by kernel_rfl) (by kernel_rfl) (by kernel_rfl)) ?_
  intro W base args ds gs before hval0 hW hcnd hsz0 _
  have hval : ∀ (j : Nat) t v, Try.f6.params[j]? = some t → args[j]? = some v → Value.okWide Try.prog W .any base t v := hval0
  have hW' := hW
  obtain ⟨p, q, hA0, hV, rfl, hfz, hnd⟩ := hW
  have hA : DataW.TrodAll enc Try.prog W 0 (fun _ => true) true Try.f6.params.toList args.toList ds p := hA0
  rw [Try.params6] at hA hval
  obtain ⟨v0, vs0, d0, ds0, p0, q0, hargs, rfl, rfl, h0, r0⟩ := trodAll_cons hA
  obtain ⟨rfl, rfl, rfl⟩ := trodAll_nil r0
  obtain rfl : args = #[v0] := by cases args; simp_all
  obtain ⟨rfl, rfl⟩ := trodVars_none hV
  have k0 := h0
  have lt0 : ∀ x ∈ p0, x.block < W.heap.size := by obtain ⟨m, hm⟩ := k0; exact DataW.trod_lt m _ _ _ hm
  obtain ⟨l0, hr0, hm0, hw0⟩ := arg_sl (τ := .int .u8) Try.underlying37 (by kernel_rfl) (reads_int Try.underlying5) (hval 0 37 v0 rfl rfl) h0
  obtain ⟨k, hk⟩ := Go.Proofs.Ytgibeillafnieaa.EPure.pure_FnTradesRun l0 hm0 hw0
  clear hA0 hval0
  refine (law_calls (X := ext) (Checked.mixed Try.checked) tab_ok fns_ok ext_ok (k := k) (g := 6) (f := fn6) (ps := [⟨.sl (.int .u8), l0⟩]) (r := true) rfl rfl rfl rfl hk rfl (w := W) (vs := [v0]) (And.intro rfl (And.intro hr0 True.intro)) (fun _ _ => trivial)).mono fun e W' he0 => ?_
  obtain ⟨he, bel⟩ := he0
  subst he
  exact ⟨_, rfl, _, _, _, [], _, [], hW', trodAll_mk1 (shut_bool Try.underlying4 _), (trodAll_cons_mk (Below.trod laidOut (by kernel_rfl) (of_decide_eq_true (by kernel_rfl)) k0 bel lt0) trodAll_mk0), rfl, bel.frame _, fun h => by cases h⟩
theorem over : Rows.fnTradesRunRow.holds Try.pinned (OpenSpec.ofChange Rows.fnTradesRunSpec) :=
  OpenClaim.holds_of_wide 6 Try.f6 rfl rfl rfl rfl rfl rfl rfl ⟨rfl, rfl, rfl, rfl, rfl⟩ rfl rfl rfl rfl rfl (by kernel_rfl) Try.func6 (by kernel_rfl)
    (of_decide_eq_true (by kernel_rfl)) (by unfold Func.isWrapper; first | (rw [if_pos (by decide +kernel)]; kernel_rfl) | (rw [if_neg (by decide +kernel)]; exact ⟨rfl, rfl⟩))
    (fun os started H enc _ => lifted os started H enc)
theorem proved : Rows.FnTradesRunSaid := over
#print axioms proved
end Go.Proofs.Ytgibeillafnieaa.fnTradesRun
namespace Go.Proofs.Ytgibeillafnieaa
/-- The row, under a short name, for the claim. -/
theorem fnTradesRun_holds : Rows.FnTradesRunSaid := fnTradesRun.proved
end Go.Proofs.Ytgibeillafnieaa
