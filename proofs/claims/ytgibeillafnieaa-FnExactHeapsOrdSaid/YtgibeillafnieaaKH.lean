import Derived.Test.YtgibeillafnieaaS26
import Derived.Test.YtgibeillafnieaaS28
import Derived.Test.YtgibeillafnieaaChecked
import Derived.Test.YtgibeillafnieaaTH
import Derived.Test.YtgibeillafnieaaMH
namespace Go.Proofs.Ytgibeillafnieaa.Eng
open Go
set_option maxRecDepth 20000
theorem tab_ok : TabOk Try.prog tab := by
  intro tid t h
  simp only [tab, tyOf] at h
  split at h <;> first | (cases h; exact tyFacts_mk (by kernel_rfl) (by kernel_rfl) (by decide)) | cases h
theorem fnOk11 : FnOk Try.prog 11 fn11 := fnOk_mk Try.func11 (by kernel_rfl) (by kernel_rfl) rfl (by kernel_rfl) (by kernel_rfl)
theorem fnOk16 : FnOk Try.prog 16 fn16 := fnOk_mk Try.func16 (by kernel_rfl) (by kernel_rfl) rfl (by kernel_rfl) (by kernel_rfl)
theorem fnOk19 : FnOk Try.prog 19 fn19 := fnOk_mk Try.func19 (by kernel_rfl) (by kernel_rfl) rfl (by kernel_rfl) (by kernel_rfl)
theorem fnOk20 : FnOk Try.prog 20 fn20 := fnOk_mk Try.func20 (by kernel_rfl) (by kernel_rfl) rfl (by kernel_rfl) (by kernel_rfl)
theorem fnOk22 : FnOk Try.prog 22 fn22 := fnOk_mk Try.func22 (by kernel_rfl) (by kernel_rfl) rfl (by kernel_rfl) (by kernel_rfl)
theorem fnOk24 : FnOk Try.prog 24 fn24 := fnOk_mk Try.func24 (by kernel_rfl) (by kernel_rfl) rfl (by kernel_rfl) (by kernel_rfl)
theorem fnOk37 : FnOk Try.prog 37 fn37 := fnOk_mk Try.func37 (by kernel_rfl) (by kernel_rfl) rfl (by kernel_rfl) (by kernel_rfl)
theorem fnOk47 : FnOk Try.prog 47 fn47 := fnOk_mk Try.func47 (by kernel_rfl) (by kernel_rfl) rfl (by kernel_rfl) (by kernel_rfl)
theorem fnOk49 : FnOk Try.prog 49 fn49 := fnOk_mk Try.func49 (by kernel_rfl) (by kernel_rfl) rfl (by kernel_rfl) (by kernel_rfl)
theorem fnOk50 : FnOk Try.prog 50 fn50 := fnOk_mk Try.func50 (by kernel_rfl) (by kernel_rfl) rfl (by kernel_rfl) (by kernel_rfl)
theorem fnOk51 : FnOk Try.prog 51 fn51 := fnOk_mk Try.func51 (by kernel_rfl) (by kernel_rfl) rfl (by kernel_rfl) (by kernel_rfl)
theorem fnOk52 : FnOk Try.prog 52 fn52 := fnOk_mk Try.func52 (by kernel_rfl) (by kernel_rfl) rfl (by kernel_rfl) (by kernel_rfl)
theorem fnOk56 : FnOk Try.prog 56 fn56 := fnOk_mk Try.func56 (by kernel_rfl) (by kernel_rfl) rfl (by kernel_rfl) (by kernel_rfl)
theorem fnOk74 : FnOk Try.prog 74 fn74 := fnOk_mk Try.func74 (by kernel_rfl) (by kernel_rfl) rfl (by kernel_rfl) (by kernel_rfl)
theorem fnOk75 : FnOk Try.prog 75 fn75 := fnOk_mk Try.func75 (by kernel_rfl) (by kernel_rfl) rfl (by kernel_rfl) (by kernel_rfl)
theorem fnOk77 : FnOk Try.prog 77 fn77 := fnOk_mk Try.func77 (by kernel_rfl) (by kernel_rfl) rfl (by kernel_rfl) (by kernel_rfl)
theorem fnOk78 : FnOk Try.prog 78 fn78 := fnOk_mk Try.func78 (by kernel_rfl) (by kernel_rfl) rfl (by kernel_rfl) (by kernel_rfl)
theorem fnOk79 : FnOk Try.prog 79 fn79 := fnOk_mk Try.func79 (by kernel_rfl) (by kernel_rfl) rfl (by kernel_rfl) (by kernel_rfl)
theorem fnOk80 : FnOk Try.prog 80 fn80 := fnOk_mk Try.func80 (by kernel_rfl) (by kernel_rfl) rfl (by kernel_rfl) (by kernel_rfl)
theorem fnOk81 : FnOk Try.prog 81 fn81 := fnOk_mk Try.func81 (by kernel_rfl) (by kernel_rfl) rfl (by kernel_rfl) (by kernel_rfl)
theorem fnOk82 : FnOk Try.prog 82 fn82 := fnOk_mk Try.func82 (by kernel_rfl) (by kernel_rfl) rfl (by kernel_rfl) (by kernel_rfl)
theorem fnOk83 : FnOk Try.prog 83 fn83 := fnOk_mk Try.func83 (by kernel_rfl) (by kernel_rfl) rfl (by kernel_rfl) (by kernel_rfl)
theorem fnOk84 : FnOk Try.prog 84 fn84 := fnOk_mk Try.func84 (by kernel_rfl) (by kernel_rfl) rfl (by kernel_rfl) (by kernel_rfl)
theorem fnOk85 : FnOk Try.prog 85 fn85 := fnOk_mk Try.func85 (by kernel_rfl) (by kernel_rfl) rfl (by kernel_rfl) (by kernel_rfl)
theorem fnOk87 : FnOk Try.prog 87 fn87 := fnOk_mk Try.func87 (by kernel_rfl) (by kernel_rfl) rfl (by kernel_rfl) (by kernel_rfl)
theorem fnOk94 : FnOk Try.prog 94 fn94 := fnOk_mk Try.func94 (by kernel_rfl) (by kernel_rfl) rfl (by kernel_rfl) (by kernel_rfl)
theorem fnOk95 : FnOk Try.prog 95 fn95 := fnOk_mk Try.func95 (by kernel_rfl) (by kernel_rfl) rfl (by kernel_rfl) (by kernel_rfl)
theorem fnOk96 : FnOk Try.prog 96 fn96 := fnOk_mk Try.func96 (by kernel_rfl) (by kernel_rfl) rfl (by kernel_rfl) (by kernel_rfl)
theorem fnOk97 : FnOk Try.prog 97 fn97 := fnOk_mk Try.func97 (by kernel_rfl) (by kernel_rfl) rfl (by kernel_rfl) (by kernel_rfl)
theorem fnOk98 : FnOk Try.prog 98 fn98 := fnOk_mk Try.func98 (by kernel_rfl) (by kernel_rfl) rfl (by kernel_rfl) (by kernel_rfl)
theorem fnOk99 : FnOk Try.prog 99 fn99 := fnOk_mk Try.func99 (by kernel_rfl) (by kernel_rfl) rfl (by kernel_rfl) (by kernel_rfl)
theorem fnOk100 : FnOk Try.prog 100 fn100 := fnOk_mk Try.func100 (by kernel_rfl) (by kernel_rfl) rfl (by kernel_rfl) (by kernel_rfl)
theorem fnOk103 : FnOk Try.prog 103 fn103 := fnOk_mk Try.func103 (by kernel_rfl) (by kernel_rfl) rfl (by kernel_rfl) (by kernel_rfl)
theorem fnOk104 : FnOk Try.prog 104 fn104 := fnOk_mk Try.func104 (by kernel_rfl) (by kernel_rfl) rfl (by kernel_rfl) (by kernel_rfl)
theorem fnOk105 : FnOk Try.prog 105 fn105 := fnOk_mk Try.func105 (by kernel_rfl) (by kernel_rfl) rfl (by kernel_rfl) (by kernel_rfl)
theorem fnOk106 : FnOk Try.prog 106 fn106 := fnOk_mk Try.func106 (by kernel_rfl) (by kernel_rfl) rfl (by kernel_rfl) (by kernel_rfl)
theorem fnOk107 : FnOk Try.prog 107 fn107 := fnOk_mk Try.func107 (by kernel_rfl) (by kernel_rfl) rfl (by kernel_rfl) (by kernel_rfl)
theorem fnOk108 : FnOk Try.prog 108 fn108 := fnOk_mk Try.func108 (by kernel_rfl) (by kernel_rfl) rfl (by kernel_rfl) (by kernel_rfl)
theorem fnOk109 : FnOk Try.prog 109 fn109 := fnOk_mk Try.func109 (by kernel_rfl) (by kernel_rfl) rfl (by kernel_rfl) (by kernel_rfl)
theorem fns_ok : ∀ g f, tab.fn g = some f → FnOk Try.prog g f := by
  intro g f h
  simp only [tab] at h
  split at h
  · cases h; exact fnOk11
  · cases h; exact fnOk16
  · cases h; exact fnOk19
  · cases h; exact fnOk20
  · cases h; exact fnOk22
  · cases h; exact fnOk24
  · cases h; exact fnOk37
  · cases h; exact fnOk47
  · cases h; exact fnOk49
  · cases h; exact fnOk50
  · cases h; exact fnOk51
  · cases h; exact fnOk52
  · cases h; exact fnOk56
  · cases h; exact fnOk74
  · cases h; exact fnOk75
  · cases h; exact fnOk77
  · cases h; exact fnOk78
  · cases h; exact fnOk79
  · cases h; exact fnOk80
  · cases h; exact fnOk81
  · cases h; exact fnOk82
  · cases h; exact fnOk83
  · cases h; exact fnOk84
  · cases h; exact fnOk85
  · cases h; exact fnOk87
  · cases h; exact fnOk94
  · cases h; exact fnOk95
  · cases h; exact fnOk96
  · cases h; exact fnOk97
  · cases h; exact fnOk98
  · cases h; exact fnOk99
  · cases h; exact fnOk100
  · cases h; exact fnOk103
  · cases h; exact fnOk104
  · cases h; exact fnOk105
  · cases h; exact fnOk106
  · cases h; exact fnOk107
  · cases h; exact fnOk108
  · cases h; exact fnOk109
  · cases h
set_option linter.unusedVariables false
noncomputable def ext0 : Ext tab := fun _ => none
noncomputable def mark0.f (k : Nat) (a0 : List Int) (a1 : Int) : Option (Int × List Int) := runF tab ext0 k 22 [⟨.sl (.int .i64), a0⟩, ⟨.int .i64, a1⟩]
noncomputable def mark0.l0 (k : Nat) (x0 : List Int) (x1 : Int) (x5 : Int) : Option (Int × List Int) := runL tab ext0 k 22 (todoAt tab 22 2) (stAt tab 22 [(0, .ref 76), (1, mkVal false (.int .i64) x1), (5, mkVal false (.int .i64) x5)] [(76, .io false (.int .i64) x0)])
theorem mark0.f_eq (k : Nat) (a0 : List Int) (a1 : Int) : mark0.f (k + 1) a0 a1 = (mark0.l0 k a0 a1 0) := by kernel_rfl
theorem mark0.l0_eq (k : Nat) (x0 : List Int) (x1 : Int) (x5 : Int) : mark0.l0 (k + 1) x0 x1 x5 = (br (decide (x5 < (x0.length : Int))) (gate (decide (0 ≤ x5 ∧ x5 < (x0.length : Int))) <| gate (decide (x5.toNat < x0.length)) <| mark0.l0 k (x0.set x5.toNat x1) (wr (x1 + 1)) (wr (x5 + 1))) (some (x1, x0))) := by kernel_rfl
theorem mark1_ok : Mark1 Try.prog 22 := mark1_of (f := fn22) rfl rfl rfl rfl rfl (run := fun k ps => runF tab ext0 k 22 ps) (fun k => run_sound (Checked.mixed Try.checked) tab_ok fns_ok (fun g x h => by cases h) k 22) (out := fun a b => (a, b)) (fun a b => rfl) (fun x k hx => by
  obtain ⟨n, hn⟩ := mark0_gen mark0.l0_eq x [] k (by simpa using hx)
  refine ⟨n + 1, ?_⟩
  have h := mark0.f_eq n x k
  have h2 : mark0.l0 n x k 0 = some ((mark1 x k).1, (mark1 x k).2) := by simpa using hn
  rw [h2] at h
  exact h)
theorem ext_ok : ∀ g x, ext g = some x → Sound Try.prog tab g x := by
  intro g x h
  simp only [ext] at h
  split at h
  · cases h; exact sound_mark (f := fn24) rfl rfl rfl rfl rfl (fun a b => rfl) markL_len (fun k => rfl) (marked24 mark1_ok) nothing24
  · cases h
end Go.Proofs.Ytgibeillafnieaa.Eng
