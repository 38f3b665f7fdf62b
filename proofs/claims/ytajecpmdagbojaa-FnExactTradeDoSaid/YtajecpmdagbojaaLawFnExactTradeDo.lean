/-
  The row of FnExactTradeDo: for every input the law returns true, and its arguments read as they read before. No condition.
-/
import Derived.Test.YtajecpmdagbojaaRows
import Derived.Test.YtajecpmdagbojaaPureFnExactTradeDo
import Derived.Test.YtajecpmdagbojaaOpened
import Derived.WalkKit
import Derived.ProofKit
import Derived.OpenShut
import Derived.ShutString
import Derived.ChangeOld
import Derived.Below
import Derived.SizedLaws
namespace Go.Proofs.Ytajecpmdagbojaa.fnExactTradeDo
open Go.ChangeShapes Go.WideShapes Go.ChangeAt Go.RowKit Go.Proofs.Ytajecpmdagbojaa.Opened Go.Proofs.Ytajecpmdagbojaa.PFnExactTradeDo Go.Proofs.YtajecpmdagbojaaW.PrintWords
open Go.ChangeMaps (open_string shut_string)
set_option linter.unusedVariables false
theorem own : ownKnob Try.prog.godebug = none := by kernel_rfl
theorem laidOut : laidOutB Try.prog = true := by kernel_rfl
set_option maxRecDepth 100000 in
theorem lifted (os : Os) (started : os.Started) (H : Type) (enc : TypeId × Value → H) :
    ReturnsInHanded {} Try.checked os 10 .any (Rows.fnExactTradeDoSpec.pre6 enc Try.prog Try.f10 Rows.fnExactTradeDoRow.domain false) (Rows.fnExactTradeDoSpec.post enc Try.prog Try.f10 false true false false) := by
  refine returnsInHanded_of_change_sized (C := Try.checked) own started (by kernel_rfl) Try.func10
    (ChangeSpec.witness6 (enc := enc) (C := Try.checked) false ⟨#[], #[.slice none 0 0, .agg #[.slice none 0 0, .slice none 0 0]], []⟩ 8 (by kernel_rfl) (by kernel_rfl) (by kernel_rfl) (by kernel_rfl)) ?_
  intro W base args ds gs before hval0 hW hcnd hsz0 _
  have hval : ∀ (j : Nat) t v, Try.f10.params[j]? = some t → args[j]? = some v → Value.okWide Try.prog W .any base t v := hval0
  have hW' := hW
  obtain ⟨p, q, hA0, hV, rfl, hfz, hnd⟩ := hW
  have hA : DataW.TrodAll enc Try.prog W 0 (fun _ => true) true Try.f10.params.toList args.toList ds p := hA0
  rw [Try.params10] at hA hval
  obtain ⟨v0, vs0, d0, ds0, p0, q0, hargs, rfl, rfl, h0, r0⟩ := trodAll_cons hA
  obtain ⟨v1, vs1, d1, ds1, p1, q1, rfl, rfl, rfl, h1, r1⟩ := trodAll_cons r0
  obtain ⟨rfl, rfl, rfl⟩ := trodAll_nil r1
  obtain rfl : args = #[v0, v1] := by cases args; simp_all
  obtain ⟨rfl, rfl⟩ := trodVars_none hV
  obtain ⟨a0, len0, cap0, rfl⟩ := okWide_slice Try.underlying24 (hval 0 24 v0 rfl rfl)
  have k0 := h0
  have lt0 : ∀ x ∈ p0, x.block < W.heap.size := by obtain ⟨m, hm⟩ := k0; exact DataW.trod_lt m _ _ _ hm
  obtain ⟨l0, rfl, hr0, hc0, hm0, hw0⟩ := arg_slice (d := (Kd.int .i64)) Try.underlying24 (by kernel_rfl) (opens_int Try.underlying3) rfl h0
  have k1 := h1
  have lt1 : ∀ x ∈ p1, x.block < W.heap.size := by obtain ⟨m, hm⟩ := k1; exact DataW.trod_lt m _ _ _ hm
  obtain ⟨u1_0, u1_1, y1_0, y1_1, n1, rfl, rfl, rfl, t1_0, t1_1⟩ := Joins.open_agg2 Try.underlying29 (by kernel_rfl) (by kernel_rfl) (hval 1 29 v1 rfl rfl) h1
  obtain ⟨A1_0, c1_0, l1_0, rfl, hr1_0, hc1_0, hm1_0, hw1_0⟩ := field_slice (d := (Kd.int .i64)) Try.underlying24 (by kernel_rfl) (opens_int Try.underlying3) t1_0
  obtain ⟨A1_1, c1_1, l1_1, rfl, hr1_1, hc1_1, hm1_1, hw1_1⟩ := field_slice (d := (Kd.int .i64)) Try.underlying24 (by kernel_rfl) (opens_int Try.underlying3) t1_1
  obtain ⟨k, hk⟩ := Pure.FnExactTradeDo l0 l1_0 l1_1 hm0 hw0 hm1_0 hw1_0 hm1_1 hw1_1
  clear hA0 hval0 hsz0
  refine (laws_FnExactTradeDo.calls k _ _ l0 _ _ l1_0 _ _ l1_1 true W hr0 hc0 hr1_0 hc1_0 hr1_1 hc1_1 hk).mono fun e W' he0 => ?_
  obtain ⟨he, bel0⟩ := he0
  have bel : Below W.heap.size W W' := bel0
  subst he
  exact ⟨_, rfl, _, _, _, [], _, [], hW', trodAll_mk1 (shut_bool Try.underlying4 _), (trodAll_cons_mk (Below.trod laidOut (by kernel_rfl) (of_decide_eq_true (by kernel_rfl)) k0 bel lt0) (trodAll_cons_mk (Below.trod laidOut (by kernel_rfl) (of_decide_eq_true (by kernel_rfl)) k1 bel lt1) trodAll_mk0)), rfl, bel.frame _, fun h => by cases h⟩
theorem over : Rows.fnExactTradeDoRow.holds Try.pinned (OpenSpec.ofChange Rows.fnExactTradeDoSpec) :=
  OpenClaim.holds_of_wide 10 Try.f10 rfl rfl rfl rfl rfl rfl rfl ⟨rfl, rfl, rfl, rfl, rfl⟩ rfl rfl rfl rfl rfl (by kernel_rfl) Try.func10 (by kernel_rfl)
    (of_decide_eq_true (by kernel_rfl)) (by unfold Func.isWrapper; first | (rw [if_pos (by decide +kernel)]; kernel_rfl) | (rw [if_neg (by decide +kernel)]; exact ⟨rfl, rfl⟩))
    (fun os started H enc _ => lifted os started H enc)
theorem proved : Rows.FnExactTradeDoSaid := over
#print axioms proved
end Go.Proofs.Ytajecpmdagbojaa.fnExactTradeDo
namespace Go.Proofs.Ytajecpmdagbojaa
/-- The row, under a short name, for the claim. -/
theorem fnExactTradeDo_holds : Rows.FnExactTradeDoSaid := fnExactTradeDo.proved
end Go.Proofs.Ytajecpmdagbojaa
