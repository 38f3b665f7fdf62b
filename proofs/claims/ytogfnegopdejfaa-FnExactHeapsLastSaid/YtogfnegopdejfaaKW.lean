import Derived.Test.YtogfnegopdejfaaS26
import Derived.Test.YtogfnegopdejfaaS28
import Derived.Test.YtogfnegopdejfaaChecked
import Derived.Test.YtogfnegopdejfaaTW
import Derived.Test.YtogfnegopdejfaaMW
namespace Go.Proofs.Ytogfnegopdejfaa.Eng
open Go
set_option maxRecDepth 20000
theorem tab_ok : TabOk Try.prog tab := by
  refine ⟨fun tid t h => ?_, fun tid t h => ?_, fun tid h => ?_⟩
  · simp only [tab, tyOf] at h
    split at h <;> first | (cases h; exact tyFacts_mk (by kernel_rfl) (by kernel_rfl) (by decide)) | cases h
  · simp only [tab] at h
    split at h <;> first | (cases h; exact mpFacts_mk (by kernel_rfl) (by decide)) | cases h
  · cases h
theorem fnOk3 : FnOk Try.prog 3 fn3 := fnOk_mk Try.func3 (by kernel_rfl) (by kernel_rfl) rfl (by kernel_rfl) (by kernel_rfl)
theorem fnOk4 : FnOk Try.prog 4 fn4 := fnOk_mk Try.func4 (by kernel_rfl) (by kernel_rfl) rfl (by kernel_rfl) (by kernel_rfl)
theorem fnOk5 : FnOk Try.prog 5 fn5 := fnOk_mk Try.func5 (by kernel_rfl) (by kernel_rfl) rfl (by kernel_rfl) (by kernel_rfl)
theorem fnOk6 : FnOk Try.prog 6 fn6 := fnOk_mk Try.func6 (by kernel_rfl) (by kernel_rfl) rfl (by kernel_rfl) (by kernel_rfl)
theorem fnOk7 : FnOk Try.prog 7 fn7 := fnOk_mk Try.func7 (by kernel_rfl) (by kernel_rfl) rfl (by kernel_rfl) (by kernel_rfl)
theorem fnOk8 : FnOk Try.prog 8 fn8 := fnOk_mk Try.func8 (by kernel_rfl) (by kernel_rfl) rfl (by kernel_rfl) (by kernel_rfl)
theorem fnOk9 : FnOk Try.prog 9 fn9 := fnOk_mk Try.func9 (by kernel_rfl) (by kernel_rfl) rfl (by kernel_rfl) (by kernel_rfl)
theorem fnOk10 : FnOk Try.prog 10 fn10 := fnOk_mk Try.func10 (by kernel_rfl) (by kernel_rfl) rfl (by kernel_rfl) (by kernel_rfl)
theorem fnOk11 : FnOk Try.prog 11 fn11 := fnOk_mk Try.func11 (by kernel_rfl) (by kernel_rfl) rfl (by kernel_rfl) (by kernel_rfl)
theorem fnOk12 : FnOk Try.prog 12 fn12 := fnOk_mk Try.func12 (by kernel_rfl) (by kernel_rfl) rfl (by kernel_rfl) (by kernel_rfl)
theorem fnOk13 : FnOk Try.prog 13 fn13 := fnOk_mk Try.func13 (by kernel_rfl) (by kernel_rfl) rfl (by kernel_rfl) (by kernel_rfl)
theorem fnOk14 : FnOk Try.prog 14 fn14 := fnOk_mk Try.func14 (by kernel_rfl) (by kernel_rfl) rfl (by kernel_rfl) (by kernel_rfl)
theorem fnOk15 : FnOk Try.prog 15 fn15 := fnOk_mk Try.func15 (by kernel_rfl) (by kernel_rfl) rfl (by kernel_rfl) (by kernel_rfl)
theorem fnOk16 : FnOk Try.prog 16 fn16 := fnOk_mk Try.func16 (by kernel_rfl) (by kernel_rfl) rfl (by kernel_rfl) (by kernel_rfl)
theorem fnOk17 : FnOk Try.prog 17 fn17 := fnOk_mk Try.func17 (by kernel_rfl) (by kernel_rfl) rfl (by kernel_rfl) (by kernel_rfl)
theorem fnOk18 : FnOk Try.prog 18 fn18 := fnOk_mk Try.func18 (by kernel_rfl) (by kernel_rfl) rfl (by kernel_rfl) (by kernel_rfl)
theorem fnOk19 : FnOk Try.prog 19 fn19 := fnOk_mk Try.func19 (by kernel_rfl) (by kernel_rfl) rfl (by kernel_rfl) (by kernel_rfl)
theorem fnOk20 : FnOk Try.prog 20 fn20 := fnOk_mk Try.func20 (by kernel_rfl) (by kernel_rfl) rfl (by kernel_rfl) (by kernel_rfl)
theorem fnOk21 : FnOk Try.prog 21 fn21 := fnOk_mk Try.func21 (by kernel_rfl) (by kernel_rfl) rfl (by kernel_rfl) (by kernel_rfl)
theorem fnOk22 : FnOk Try.prog 22 fn22 := fnOk_mk Try.func22 (by kernel_rfl) (by kernel_rfl) rfl (by kernel_rfl) (by kernel_rfl)
theorem fnOk23 : FnOk Try.prog 23 fn23 := fnOk_mk Try.func23 (by kernel_rfl) (by kernel_rfl) rfl (by kernel_rfl) (by kernel_rfl)
theorem fnOk24 : FnOk Try.prog 24 fn24 := fnOk_mk Try.func24 (by kernel_rfl) (by kernel_rfl) rfl (by kernel_rfl) (by kernel_rfl)
theorem fnOk25 : FnOk Try.prog 25 fn25 := fnOk_mk Try.func25 (by kernel_rfl) (by kernel_rfl) rfl (by kernel_rfl) (by kernel_rfl)
theorem fnOk26 : FnOk Try.prog 26 fn26 := fnOk_mk Try.func26 (by kernel_rfl) (by kernel_rfl) rfl (by kernel_rfl) (by kernel_rfl)
theorem fnOk27 : FnOk Try.prog 27 fn27 := fnOk_mk Try.func27 (by kernel_rfl) (by kernel_rfl) rfl (by kernel_rfl) (by kernel_rfl)
theorem fnOk28 : FnOk Try.prog 28 fn28 := fnOk_mk Try.func28 (by kernel_rfl) (by kernel_rfl) rfl (by kernel_rfl) (by kernel_rfl)
theorem fnOk29 : FnOk Try.prog 29 fn29 := fnOk_mk Try.func29 (by kernel_rfl) (by kernel_rfl) rfl (by kernel_rfl) (by kernel_rfl)
theorem fnOk30 : FnOk Try.prog 30 fn30 := fnOk_mk Try.func30 (by kernel_rfl) (by kernel_rfl) rfl (by kernel_rfl) (by kernel_rfl)
theorem fnOk31 : FnOk Try.prog 31 fn31 := fnOk_mk Try.func31 (by kernel_rfl) (by kernel_rfl) rfl (by kernel_rfl) (by kernel_rfl)
theorem fnOk32 : FnOk Try.prog 32 fn32 := fnOk_mk Try.func32 (by kernel_rfl) (by kernel_rfl) rfl (by kernel_rfl) (by kernel_rfl)
theorem fnOk33 : FnOk Try.prog 33 fn33 := fnOk_mk Try.func33 (by kernel_rfl) (by kernel_rfl) rfl (by kernel_rfl) (by kernel_rfl)
theorem fnOk34 : FnOk Try.prog 34 fn34 := fnOk_mk Try.func34 (by kernel_rfl) (by kernel_rfl) rfl (by kernel_rfl) (by kernel_rfl)
theorem fnOk35 : FnOk Try.prog 35 fn35 := fnOk_mk Try.func35 (by kernel_rfl) (by kernel_rfl) rfl (by kernel_rfl) (by kernel_rfl)
theorem fnOk36 : FnOk Try.prog 36 fn36 := fnOk_mk Try.func36 (by kernel_rfl) (by kernel_rfl) rfl (by kernel_rfl) (by kernel_rfl)
theorem fnOk37 : FnOk Try.prog 37 fn37 := fnOk_mk Try.func37 (by kernel_rfl) (by kernel_rfl) rfl (by kernel_rfl) (by kernel_rfl)
theorem fnOk38 : FnOk Try.prog 38 fn38 := fnOk_mk Try.func38 (by kernel_rfl) (by kernel_rfl) rfl (by kernel_rfl) (by kernel_rfl)
theorem fns_ok : ∀ g f, tab.fn g = some f → FnOk Try.prog g f := by
  intro g f h
  simp only [tab] at h
  split at h
  · cases h; exact fnOk3
  · cases h; exact fnOk4
  · cases h; exact fnOk5
  · cases h; exact fnOk6
  · cases h; exact fnOk7
  · cases h; exact fnOk8
  · cases h; exact fnOk9
  · cases h; exact fnOk10
  · cases h; exact fnOk11
  · cases h; exact fnOk12
  · cases h; exact fnOk13
  · cases h; exact fnOk14
  · cases h; exact fnOk15
  · cases h; exact fnOk16
  · cases h; exact fnOk17
  · cases h; exact fnOk18
  · cases h; exact fnOk19
  · cases h; exact fnOk20
  · cases h; exact fnOk21
  · cases h; exact fnOk22
  · cases h; exact fnOk23
  · cases h; exact fnOk24
  · cases h; exact fnOk25
  · cases h; exact fnOk26
  · cases h; exact fnOk27
  · cases h; exact fnOk28
  · cases h; exact fnOk29
  · cases h; exact fnOk30
  · cases h; exact fnOk31
  · cases h; exact fnOk32
  · cases h; exact fnOk33
  · cases h; exact fnOk34
  · cases h; exact fnOk35
  · cases h; exact fnOk36
  · cases h; exact fnOk37
  · cases h; exact fnOk38
  · cases h
set_option linter.unusedVariables false
noncomputable def ext0 : Ext tab := fun _ => none
noncomputable def mark0.f (k : Nat) (a0 : List Int) (a1 : Int) : Option (Int × List Int) := runF tab ext0 k 13 [⟨.sl (.int .i64), a0⟩, ⟨.int .i64, a1⟩]
noncomputable def mark0.l0 (k : Nat) (x0 : List Int) (x1 : Int) (x5 : Int) : Option (Int × List Int) := runL tab ext0 k 13 (todoAt tab 13 2) (stAt tab 13 [(0, .ref 76), (1, mkVal false (.int .i64) x1), (5, mkVal false (.int .i64) x5)] [(76, .io false (.int .i64) x0)])
theorem mark0.f_eq (k : Nat) (a0 : List Int) (a1 : Int) : mark0.f (k + 1) a0 a1 = (mark0.l0 k a0 a1 0) := by kernel_rfl
theorem mark0.l0_eq (k : Nat) (x0 : List Int) (x1 : Int) (x5 : Int) : mark0.l0 (k + 1) x0 x1 x5 = (br (decide (x5 < (x0.length : Int))) (gate (decide (0 ≤ x5 ∧ x5 < (x0.length : Int))) <| gate (decide (x5.toNat < x0.length)) <| mark0.l0 k (x0.set x5.toNat x1) (wr (x1 + 1)) (wr (x5 + 1))) (some (x1, x0))) := by kernel_rfl
theorem mark1_ok : Mark1 Try.prog 13 := mark1_of (f := fn13) rfl rfl rfl rfl rfl (hq := fun _ => trivial) (run := fun k ps => runF tab ext0 k 13 ps) (fun k => run_sound (Checked.mixed Try.checked) tab_ok fns_ok (fun g x h => by cases h) k 13) (out := fun a b => (a, b)) (fun a b => rfl) (fun x k hx => by
  obtain ⟨n, hn⟩ := mark0_gen mark0.l0_eq x [] k (by simpa using hx)
  refine ⟨n + 1, ?_⟩
  have h := mark0.f_eq n x k
  have h2 : mark0.l0 n x k 0 = some ((mark1 x k).1, (mark1 x k).2) := by simpa using hn
  rw [h2] at h
  exact h)
theorem ext_ok : ∀ g x, ext g = some x → Sound Try.prog tab g x := by
  intro g x h
  simp only [ext] at h
  split at h
  · cases h; exact nil_sound (Checked.mixed Try.checked) tab_ok fns_ok (f := fn27) rfl rfl rfl _ (by kernel_rfl) (fun x => by kernel_rfl)
  · cases h; exact sound_mark (f := fn14) rfl rfl rfl rfl rfl (fun a b => rfl) markT_len (fun k => rfl) (marked14 mark1_ok) nothing14
  · cases h; exact sound_mark (f := fn15) rfl rfl rfl rfl rfl (fun a b => rfl) markL_len (fun k => rfl) (marked15 mark1_ok) nothing15
  · cases h
end Go.Proofs.Ytogfnegopdejfaa.Eng
