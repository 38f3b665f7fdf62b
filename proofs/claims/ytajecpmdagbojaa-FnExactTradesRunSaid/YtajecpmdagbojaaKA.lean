import Derived.Test.YtajecpmdagbojaaS26
import Derived.Test.YtajecpmdagbojaaS28
import Derived.Test.YtajecpmdagbojaaChecked
import Derived.Test.YtajecpmdagbojaaTA
import Derived.Test.YtajecpmdagbojaaMA
namespace Go.Proofs.Ytajecpmdagbojaa.Eng
open Go
set_option maxRecDepth 20000
theorem tab_ok : TabOk Try.prog tab := by
  intro tid t h
  simp only [tab, tyOf] at h
  split at h <;> first | (cases h; exact tyFacts_mk (by kernel_rfl) (by kernel_rfl) (by decide)) | cases h
theorem fnOk12 : FnOk Try.prog 12 fn12 := fnOk_mk Try.func12 (by kernel_rfl) (by kernel_rfl) rfl (by kernel_rfl) (by kernel_rfl)
theorem fnOk13 : FnOk Try.prog 13 fn13 := fnOk_mk Try.func13 (by kernel_rfl) (by kernel_rfl) rfl (by kernel_rfl) (by kernel_rfl)
theorem fnOk17 : FnOk Try.prog 17 fn17 := fnOk_mk Try.func17 (by kernel_rfl) (by kernel_rfl) rfl (by kernel_rfl) (by kernel_rfl)
theorem fnOk18 : FnOk Try.prog 18 fn18 := fnOk_mk Try.func18 (by kernel_rfl) (by kernel_rfl) rfl (by kernel_rfl) (by kernel_rfl)
theorem fnOk19 : FnOk Try.prog 19 fn19 := fnOk_mk Try.func19 (by kernel_rfl) (by kernel_rfl) rfl (by kernel_rfl) (by kernel_rfl)
theorem fnOk20 : FnOk Try.prog 20 fn20 := fnOk_mk Try.func20 (by kernel_rfl) (by kernel_rfl) rfl (by kernel_rfl) (by kernel_rfl)
theorem fnOk21 : FnOk Try.prog 21 fn21 := fnOk_mk Try.func21 (by kernel_rfl) (by kernel_rfl) rfl (by kernel_rfl) (by kernel_rfl)
theorem fnOk22 : FnOk Try.prog 22 fn22 := fnOk_mk Try.func22 (by kernel_rfl) (by kernel_rfl) rfl (by kernel_rfl) (by kernel_rfl)
theorem fnOk23 : FnOk Try.prog 23 fn23 := fnOk_mk Try.func23 (by kernel_rfl) (by kernel_rfl) rfl (by kernel_rfl) (by kernel_rfl)
theorem fnOk24 : FnOk Try.prog 24 fn24 := fnOk_mk Try.func24 (by kernel_rfl) (by kernel_rfl) rfl (by kernel_rfl) (by kernel_rfl)
theorem fnOk25 : FnOk Try.prog 25 fn25 := fnOk_mk Try.func25 (by kernel_rfl) (by kernel_rfl) rfl (by kernel_rfl) (by kernel_rfl)
theorem fnOk29 : FnOk Try.prog 29 fn29 := fnOk_mk Try.func29 (by kernel_rfl) (by kernel_rfl) rfl (by kernel_rfl) (by kernel_rfl)
theorem fnOk30 : FnOk Try.prog 30 fn30 := fnOk_mk Try.func30 (by kernel_rfl) (by kernel_rfl) rfl (by kernel_rfl) (by kernel_rfl)
theorem fnOk31 : FnOk Try.prog 31 fn31 := fnOk_mk Try.func31 (by kernel_rfl) (by kernel_rfl) rfl (by kernel_rfl) (by kernel_rfl)
theorem fnOk32 : FnOk Try.prog 32 fn32 := fnOk_mk Try.func32 (by kernel_rfl) (by kernel_rfl) rfl (by kernel_rfl) (by kernel_rfl)
theorem fnOk33 : FnOk Try.prog 33 fn33 := fnOk_mk Try.func33 (by kernel_rfl) (by kernel_rfl) rfl (by kernel_rfl) (by kernel_rfl)
theorem fnOk35 : FnOk Try.prog 35 fn35 := fnOk_mk Try.func35 (by kernel_rfl) (by kernel_rfl) rfl (by kernel_rfl) (by kernel_rfl)
theorem fnOk37 : FnOk Try.prog 37 fn37 := fnOk_mk Try.func37 (by kernel_rfl) (by kernel_rfl) rfl (by kernel_rfl) (by kernel_rfl)
theorem fnOk39 : FnOk Try.prog 39 fn39 := fnOk_mk Try.func39 (by kernel_rfl) (by kernel_rfl) rfl (by kernel_rfl) (by kernel_rfl)
theorem fnOk42 : FnOk Try.prog 42 fn42 := fnOk_mk Try.func42 (by kernel_rfl) (by kernel_rfl) rfl (by kernel_rfl) (by kernel_rfl)
theorem fnOk43 : FnOk Try.prog 43 fn43 := fnOk_mk Try.func43 (by kernel_rfl) (by kernel_rfl) rfl (by kernel_rfl) (by kernel_rfl)
theorem fnOk44 : FnOk Try.prog 44 fn44 := fnOk_mk Try.func44 (by kernel_rfl) (by kernel_rfl) rfl (by kernel_rfl) (by kernel_rfl)
theorem fnOk45 : FnOk Try.prog 45 fn45 := fnOk_mk Try.func45 (by kernel_rfl) (by kernel_rfl) rfl (by kernel_rfl) (by kernel_rfl)
theorem fnOk46 : FnOk Try.prog 46 fn46 := fnOk_mk Try.func46 (by kernel_rfl) (by kernel_rfl) rfl (by kernel_rfl) (by kernel_rfl)
theorem fnOk50 : FnOk Try.prog 50 fn50 := fnOk_mk Try.func50 (by kernel_rfl) (by kernel_rfl) rfl (by kernel_rfl) (by kernel_rfl)
theorem fnOk52 : FnOk Try.prog 52 fn52 := fnOk_mk Try.func52 (by kernel_rfl) (by kernel_rfl) rfl (by kernel_rfl) (by kernel_rfl)
theorem fnOk53 : FnOk Try.prog 53 fn53 := fnOk_mk Try.func53 (by kernel_rfl) (by kernel_rfl) rfl (by kernel_rfl) (by kernel_rfl)
theorem fnOk54 : FnOk Try.prog 54 fn54 := fnOk_mk Try.func54 (by kernel_rfl) (by kernel_rfl) rfl (by kernel_rfl) (by kernel_rfl)
theorem fnOk59 : FnOk Try.prog 59 fn59 := fnOk_mk Try.func59 (by kernel_rfl) (by kernel_rfl) rfl (by kernel_rfl) (by kernel_rfl)
theorem fnOk60 : FnOk Try.prog 60 fn60 := fnOk_mk Try.func60 (by kernel_rfl) (by kernel_rfl) rfl (by kernel_rfl) (by kernel_rfl)
theorem fns_ok : ∀ g f, tab.fn g = some f → FnOk Try.prog g f := by
  intro g f h
  simp only [tab] at h
  split at h
  · cases h; exact fnOk12
  · cases h; exact fnOk13
  · cases h; exact fnOk17
  · cases h; exact fnOk18
  · cases h; exact fnOk19
  · cases h; exact fnOk20
  · cases h; exact fnOk21
  · cases h; exact fnOk22
  · cases h; exact fnOk23
  · cases h; exact fnOk24
  · cases h; exact fnOk25
  · cases h; exact fnOk29
  · cases h; exact fnOk30
  · cases h; exact fnOk31
  · cases h; exact fnOk32
  · cases h; exact fnOk33
  · cases h; exact fnOk35
  · cases h; exact fnOk37
  · cases h; exact fnOk39
  · cases h; exact fnOk42
  · cases h; exact fnOk43
  · cases h; exact fnOk44
  · cases h; exact fnOk45
  · cases h; exact fnOk46
  · cases h; exact fnOk50
  · cases h; exact fnOk52
  · cases h; exact fnOk53
  · cases h; exact fnOk54
  · cases h; exact fnOk59
  · cases h; exact fnOk60
  · cases h
set_option linter.unusedVariables false
noncomputable def ext0 : Ext tab := fun _ => none
noncomputable def mark0.f (k : Nat) (a0 : List Int) (a1 : Int) : Option (Int × List Int) := runF tab ext0 k 37 [⟨.sl (.int .i64), a0⟩, ⟨.int .i64, a1⟩]
noncomputable def mark0.l0 (k : Nat) (x0 : List Int) (x1 : Int) (x5 : Int) : Option (Int × List Int) := runL tab ext0 k 37 (todoAt tab 37 2) (stAt tab 37 [(0, .ref 76), (1, mkVal false (.int .i64) x1), (5, mkVal false (.int .i64) x5)] [(76, .io false (.int .i64) x0)])
theorem mark0.f_eq (k : Nat) (a0 : List Int) (a1 : Int) : mark0.f (k + 1) a0 a1 = (mark0.l0 k a0 a1 0) := by kernel_rfl
theorem mark0.l0_eq (k : Nat) (x0 : List Int) (x1 : Int) (x5 : Int) : mark0.l0 (k + 1) x0 x1 x5 = (br (decide (x5 < (x0.length : Int))) (gate (decide (0 ≤ x5 ∧ x5 < (x0.length : Int))) <| gate (decide (x5.toNat < x0.length)) <| mark0.l0 k (x0.set x5.toNat x1) (wr (x1 + 1)) (wr (x5 + 1))) (some (x1, x0))) := by kernel_rfl
theorem mark1_ok : Mark1 Try.prog 37 := mark1_of (f := fn37) rfl rfl rfl rfl rfl (run := fun k ps => runF tab ext0 k 37 ps) (fun k => run_sound (Checked.mixed Try.checked) tab_ok fns_ok (fun g x h => by cases h) k 37) (out := fun a b => (a, b)) (fun a b => rfl) (fun x k hx => by
  obtain ⟨n, hn⟩ := mark0_gen mark0.l0_eq x [] k (by simpa using hx)
  refine ⟨n + 1, ?_⟩
  have h := mark0.f_eq n x k
  have h2 : mark0.l0 n x k 0 = some ((mark1 x k).1, (mark1 x k).2) := by simpa using hn
  rw [h2] at h
  exact h)
theorem ext_ok : ∀ g x, ext g = some x → Sound Try.prog tab g x := by
  intro g x h
  simp only [ext] at h
  split at h
  · cases h; exact nil_sound (Checked.mixed Try.checked) tab_ok fns_ok (f := fn60) rfl rfl rfl _ (by kernel_rfl) (fun x => by kernel_rfl)
  · cases h; exact sound_mark (f := fn44) rfl rfl rfl rfl rfl (fun a b => rfl) markT_len (fun k => rfl) (marked44 mark1_ok) nothing44
  · cases h
end Go.Proofs.Ytajecpmdagbojaa.Eng
