import Derived.Test.YtigeaijocajnhaaS26
import Derived.Test.YtigeaijocajnhaaS28
import Derived.Test.YtigeaijocajnhaaChecked
import Derived.Test.YtigeaijocajnhaaTF
import Derived.Test.YtigeaijocajnhaaMF
namespace Go.Proofs.Ytigeaijocajnhaa.Eng
open Go
set_option maxRecDepth 20000
theorem tab_ok : TabOk Try.prog tab := by
  intro tid t h
  simp only [tab, tyOf] at h
  split at h <;> first | (cases h; exact tyFacts_mk (by kernel_rfl) (by kernel_rfl) (by decide)) | cases h
theorem fnOk7 : FnOk Try.prog 7 fn7 := fnOk_mk Try.func7 (by kernel_rfl) (by kernel_rfl) rfl (by kernel_rfl) (by kernel_rfl)
theorem fnOk13 : FnOk Try.prog 13 fn13 := fnOk_mk Try.func13 (by kernel_rfl) (by kernel_rfl) rfl (by kernel_rfl) (by kernel_rfl)
theorem fnOk16 : FnOk Try.prog 16 fn16 := fnOk_mk Try.func16 (by kernel_rfl) (by kernel_rfl) rfl (by kernel_rfl) (by kernel_rfl)
theorem fnOk18 : FnOk Try.prog 18 fn18 := fnOk_mk Try.func18 (by kernel_rfl) (by kernel_rfl) rfl (by kernel_rfl) (by kernel_rfl)
theorem fnOk19 : FnOk Try.prog 19 fn19 := fnOk_mk Try.func19 (by kernel_rfl) (by kernel_rfl) rfl (by kernel_rfl) (by kernel_rfl)
theorem fnOk20 : FnOk Try.prog 20 fn20 := fnOk_mk Try.func20 (by kernel_rfl) (by kernel_rfl) rfl (by kernel_rfl) (by kernel_rfl)
theorem fnOk21 : FnOk Try.prog 21 fn21 := fnOk_mk Try.func21 (by kernel_rfl) (by kernel_rfl) rfl (by kernel_rfl) (by kernel_rfl)
theorem fnOk25 : FnOk Try.prog 25 fn25 := fnOk_mk Try.func25 (by kernel_rfl) (by kernel_rfl) rfl (by kernel_rfl) (by kernel_rfl)
theorem fnOk28 : FnOk Try.prog 28 fn28 := fnOk_mk Try.func28 (by kernel_rfl) (by kernel_rfl) rfl (by kernel_rfl) (by kernel_rfl)
theorem fnOk30 : FnOk Try.prog 30 fn30 := fnOk_mk Try.func30 (by kernel_rfl) (by kernel_rfl) rfl (by kernel_rfl) (by kernel_rfl)
theorem fnOk31 : FnOk Try.prog 31 fn31 := fnOk_mk Try.func31 (by kernel_rfl) (by kernel_rfl) rfl (by kernel_rfl) (by kernel_rfl)
theorem fnOk32 : FnOk Try.prog 32 fn32 := fnOk_mk Try.func32 (by kernel_rfl) (by kernel_rfl) rfl (by kernel_rfl) (by kernel_rfl)
theorem fnOk34 : FnOk Try.prog 34 fn34 := fnOk_mk Try.func34 (by kernel_rfl) (by kernel_rfl) rfl (by kernel_rfl) (by kernel_rfl)
theorem fnOk35 : FnOk Try.prog 35 fn35 := fnOk_mk Try.func35 (by kernel_rfl) (by kernel_rfl) rfl (by kernel_rfl) (by kernel_rfl)
theorem fnOk41 : FnOk Try.prog 41 fn41 := fnOk_mk Try.func41 (by kernel_rfl) (by kernel_rfl) rfl (by kernel_rfl) (by kernel_rfl)
theorem fnOk50 : FnOk Try.prog 50 fn50 := fnOk_mk Try.func50 (by kernel_rfl) (by kernel_rfl) rfl (by kernel_rfl) (by kernel_rfl)
theorem fnOk51 : FnOk Try.prog 51 fn51 := fnOk_mk Try.func51 (by kernel_rfl) (by kernel_rfl) rfl (by kernel_rfl) (by kernel_rfl)
theorem fnOk52 : FnOk Try.prog 52 fn52 := fnOk_mk Try.func52 (by kernel_rfl) (by kernel_rfl) rfl (by kernel_rfl) (by kernel_rfl)
theorem fnOk53 : FnOk Try.prog 53 fn53 := fnOk_mk Try.func53 (by kernel_rfl) (by kernel_rfl) rfl (by kernel_rfl) (by kernel_rfl)
theorem fnOk54 : FnOk Try.prog 54 fn54 := fnOk_mk Try.func54 (by kernel_rfl) (by kernel_rfl) rfl (by kernel_rfl) (by kernel_rfl)
theorem fnOk57 : FnOk Try.prog 57 fn57 := fnOk_mk Try.func57 (by kernel_rfl) (by kernel_rfl) rfl (by kernel_rfl) (by kernel_rfl)
theorem fnOk58 : FnOk Try.prog 58 fn58 := fnOk_mk Try.func58 (by kernel_rfl) (by kernel_rfl) rfl (by kernel_rfl) (by kernel_rfl)
theorem fnOk59 : FnOk Try.prog 59 fn59 := fnOk_mk Try.func59 (by kernel_rfl) (by kernel_rfl) rfl (by kernel_rfl) (by kernel_rfl)
theorem fnOk60 : FnOk Try.prog 60 fn60 := fnOk_mk Try.func60 (by kernel_rfl) (by kernel_rfl) rfl (by kernel_rfl) (by kernel_rfl)
theorem fnOk64 : FnOk Try.prog 64 fn64 := fnOk_mk Try.func64 (by kernel_rfl) (by kernel_rfl) rfl (by kernel_rfl) (by kernel_rfl)
theorem fnOk66 : FnOk Try.prog 66 fn66 := fnOk_mk Try.func66 (by kernel_rfl) (by kernel_rfl) rfl (by kernel_rfl) (by kernel_rfl)
theorem fnOk67 : FnOk Try.prog 67 fn67 := fnOk_mk Try.func67 (by kernel_rfl) (by kernel_rfl) rfl (by kernel_rfl) (by kernel_rfl)
theorem fnOk68 : FnOk Try.prog 68 fn68 := fnOk_mk Try.func68 (by kernel_rfl) (by kernel_rfl) rfl (by kernel_rfl) (by kernel_rfl)
theorem fnOk69 : FnOk Try.prog 69 fn69 := fnOk_mk Try.func69 (by kernel_rfl) (by kernel_rfl) rfl (by kernel_rfl) (by kernel_rfl)
theorem fnOk70 : FnOk Try.prog 70 fn70 := fnOk_mk Try.func70 (by kernel_rfl) (by kernel_rfl) rfl (by kernel_rfl) (by kernel_rfl)
theorem fnOk72 : FnOk Try.prog 72 fn72 := fnOk_mk Try.func72 (by kernel_rfl) (by kernel_rfl) rfl (by kernel_rfl) (by kernel_rfl)
theorem fnOk73 : FnOk Try.prog 73 fn73 := fnOk_mk Try.func73 (by kernel_rfl) (by kernel_rfl) rfl (by kernel_rfl) (by kernel_rfl)
theorem fnOk77 : FnOk Try.prog 77 fn77 := fnOk_mk Try.func77 (by kernel_rfl) (by kernel_rfl) rfl (by kernel_rfl) (by kernel_rfl)
theorem fnOk78 : FnOk Try.prog 78 fn78 := fnOk_mk Try.func78 (by kernel_rfl) (by kernel_rfl) rfl (by kernel_rfl) (by kernel_rfl)
theorem fnOk80 : FnOk Try.prog 80 fn80 := fnOk_mk Try.func80 (by kernel_rfl) (by kernel_rfl) rfl (by kernel_rfl) (by kernel_rfl)
theorem fnOk81 : FnOk Try.prog 81 fn81 := fnOk_mk Try.func81 (by kernel_rfl) (by kernel_rfl) rfl (by kernel_rfl) (by kernel_rfl)
theorem fnOk82 : FnOk Try.prog 82 fn82 := fnOk_mk Try.func82 (by kernel_rfl) (by kernel_rfl) rfl (by kernel_rfl) (by kernel_rfl)
theorem fnOk84 : FnOk Try.prog 84 fn84 := fnOk_mk Try.func84 (by kernel_rfl) (by kernel_rfl) rfl (by kernel_rfl) (by kernel_rfl)
theorem fnOk88 : FnOk Try.prog 88 fn88 := fnOk_mk Try.func88 (by kernel_rfl) (by kernel_rfl) rfl (by kernel_rfl) (by kernel_rfl)
theorem fnOk89 : FnOk Try.prog 89 fn89 := fnOk_mk Try.func89 (by kernel_rfl) (by kernel_rfl) rfl (by kernel_rfl) (by kernel_rfl)
theorem fnOk91 : FnOk Try.prog 91 fn91 := fnOk_mk Try.func91 (by kernel_rfl) (by kernel_rfl) rfl (by kernel_rfl) (by kernel_rfl)
theorem fnOk93 : FnOk Try.prog 93 fn93 := fnOk_mk Try.func93 (by kernel_rfl) (by kernel_rfl) rfl (by kernel_rfl) (by kernel_rfl)
theorem fnOk94 : FnOk Try.prog 94 fn94 := fnOk_mk Try.func94 (by kernel_rfl) (by kernel_rfl) rfl (by kernel_rfl) (by kernel_rfl)
theorem fnOk95 : FnOk Try.prog 95 fn95 := fnOk_mk Try.func95 (by kernel_rfl) (by kernel_rfl) rfl (by kernel_rfl) (by kernel_rfl)
theorem fnOk96 : FnOk Try.prog 96 fn96 := fnOk_mk Try.func96 (by kernel_rfl) (by kernel_rfl) rfl (by kernel_rfl) (by kernel_rfl)
theorem fnOk97 : FnOk Try.prog 97 fn97 := fnOk_mk Try.func97 (by kernel_rfl) (by kernel_rfl) rfl (by kernel_rfl) (by kernel_rfl)
theorem fnOk98 : FnOk Try.prog 98 fn98 := fnOk_mk Try.func98 (by kernel_rfl) (by kernel_rfl) rfl (by kernel_rfl) (by kernel_rfl)
theorem fnOk99 : FnOk Try.prog 99 fn99 := fnOk_mk Try.func99 (by kernel_rfl) (by kernel_rfl) rfl (by kernel_rfl) (by kernel_rfl)
theorem fnOk100 : FnOk Try.prog 100 fn100 := fnOk_mk Try.func100 (by kernel_rfl) (by kernel_rfl) rfl (by kernel_rfl) (by kernel_rfl)
theorem fnOk102 : FnOk Try.prog 102 fn102 := fnOk_mk Try.func102 (by kernel_rfl) (by kernel_rfl) rfl (by kernel_rfl) (by kernel_rfl)
theorem fnOk103 : FnOk Try.prog 103 fn103 := fnOk_mk Try.func103 (by kernel_rfl) (by kernel_rfl) rfl (by kernel_rfl) (by kernel_rfl)
theorem fnOk104 : FnOk Try.prog 104 fn104 := fnOk_mk Try.func104 (by kernel_rfl) (by kernel_rfl) rfl (by kernel_rfl) (by kernel_rfl)
theorem fnOk105 : FnOk Try.prog 105 fn105 := fnOk_mk Try.func105 (by kernel_rfl) (by kernel_rfl) rfl (by kernel_rfl) (by kernel_rfl)
theorem fnOk106 : FnOk Try.prog 106 fn106 := fnOk_mk Try.func106 (by kernel_rfl) (by kernel_rfl) rfl (by kernel_rfl) (by kernel_rfl)
theorem fnOk107 : FnOk Try.prog 107 fn107 := fnOk_mk Try.func107 (by kernel_rfl) (by kernel_rfl) rfl (by kernel_rfl) (by kernel_rfl)
theorem fnOk108 : FnOk Try.prog 108 fn108 := fnOk_mk Try.func108 (by kernel_rfl) (by kernel_rfl) rfl (by kernel_rfl) (by kernel_rfl)
theorem fnOk109 : FnOk Try.prog 109 fn109 := fnOk_mk Try.func109 (by kernel_rfl) (by kernel_rfl) rfl (by kernel_rfl) (by kernel_rfl)
theorem fnOk110 : FnOk Try.prog 110 fn110 := fnOk_mk Try.func110 (by kernel_rfl) (by kernel_rfl) rfl (by kernel_rfl) (by kernel_rfl)
theorem fnOk111 : FnOk Try.prog 111 fn111 := fnOk_mk Try.func111 (by kernel_rfl) (by kernel_rfl) rfl (by kernel_rfl) (by kernel_rfl)
theorem fnOk112 : FnOk Try.prog 112 fn112 := fnOk_mk Try.func112 (by kernel_rfl) (by kernel_rfl) rfl (by kernel_rfl) (by kernel_rfl)
theorem fnOk113 : FnOk Try.prog 113 fn113 := fnOk_mk Try.func113 (by kernel_rfl) (by kernel_rfl) rfl (by kernel_rfl) (by kernel_rfl)
theorem fnOk114 : FnOk Try.prog 114 fn114 := fnOk_mk Try.func114 (by kernel_rfl) (by kernel_rfl) rfl (by kernel_rfl) (by kernel_rfl)
theorem fnOk115 : FnOk Try.prog 115 fn115 := fnOk_mk Try.func115 (by kernel_rfl) (by kernel_rfl) rfl (by kernel_rfl) (by kernel_rfl)
theorem fnOk116 : FnOk Try.prog 116 fn116 := fnOk_mk Try.func116 (by kernel_rfl) (by kernel_rfl) rfl (by kernel_rfl) (by kernel_rfl)
theorem fnOk117 : FnOk Try.prog 117 fn117 := fnOk_mk Try.func117 (by kernel_rfl) (by kernel_rfl) rfl (by kernel_rfl) (by kernel_rfl)
theorem fnOk118 : FnOk Try.prog 118 fn118 := fnOk_mk Try.func118 (by kernel_rfl) (by kernel_rfl) rfl (by kernel_rfl) (by kernel_rfl)
theorem fnOk119 : FnOk Try.prog 119 fn119 := fnOk_mk Try.func119 (by kernel_rfl) (by kernel_rfl) rfl (by kernel_rfl) (by kernel_rfl)
theorem fnOk120 : FnOk Try.prog 120 fn120 := fnOk_mk Try.func120 (by kernel_rfl) (by kernel_rfl) rfl (by kernel_rfl) (by kernel_rfl)
theorem fnOk121 : FnOk Try.prog 121 fn121 := fnOk_mk Try.func121 (by kernel_rfl) (by kernel_rfl) rfl (by kernel_rfl) (by kernel_rfl)
theorem fns_ok : ∀ g f, tab.fn g = some f → FnOk Try.prog g f := by
  intro g f h
  simp only [tab] at h
  split at h
  · cases h; exact fnOk7
  · cases h; exact fnOk13
  · cases h; exact fnOk16
  · cases h; exact fnOk18
  · cases h; exact fnOk19
  · cases h; exact fnOk20
  · cases h; exact fnOk21
  · cases h; exact fnOk25
  · cases h; exact fnOk28
  · cases h; exact fnOk30
  · cases h; exact fnOk31
  · cases h; exact fnOk32
  · cases h; exact fnOk34
  · cases h; exact fnOk35
  · cases h; exact fnOk41
  · cases h; exact fnOk50
  · cases h; exact fnOk51
  · cases h; exact fnOk52
  · cases h; exact fnOk53
  · cases h; exact fnOk54
  · cases h; exact fnOk57
  · cases h; exact fnOk58
  · cases h; exact fnOk59
  · cases h; exact fnOk60
  · cases h; exact fnOk64
  · cases h; exact fnOk66
  · cases h; exact fnOk67
  · cases h; exact fnOk68
  · cases h; exact fnOk69
  · cases h; exact fnOk70
  · cases h; exact fnOk72
  · cases h; exact fnOk73
  · cases h; exact fnOk77
  · cases h; exact fnOk78
  · cases h; exact fnOk80
  · cases h; exact fnOk81
  · cases h; exact fnOk82
  · cases h; exact fnOk84
  · cases h; exact fnOk88
  · cases h; exact fnOk89
  · cases h; exact fnOk91
  · cases h; exact fnOk93
  · cases h; exact fnOk94
  · cases h; exact fnOk95
  · cases h; exact fnOk96
  · cases h; exact fnOk97
  · cases h; exact fnOk98
  · cases h; exact fnOk99
  · cases h; exact fnOk100
  · cases h; exact fnOk102
  · cases h; exact fnOk103
  · cases h; exact fnOk104
  · cases h; exact fnOk105
  · cases h; exact fnOk106
  · cases h; exact fnOk107
  · cases h; exact fnOk108
  · cases h; exact fnOk109
  · cases h; exact fnOk110
  · cases h; exact fnOk111
  · cases h; exact fnOk112
  · cases h; exact fnOk113
  · cases h; exact fnOk114
  · cases h; exact fnOk115
  · cases h; exact fnOk116
  · cases h; exact fnOk117
  · cases h; exact fnOk118
  · cases h; exact fnOk119
  · cases h; exact fnOk120
  · cases h; exact fnOk121
  · cases h
set_option linter.unusedVariables false
noncomputable def ext0 : Ext tab := fun _ => none
noncomputable def mark0.f (k : Nat) (a0 : List Int) (a1 : Int) : Option (Int × List Int) := runF tab ext0 k 20 [⟨.sl (.int .i64), a0⟩, ⟨.int .i64, a1⟩]
noncomputable def mark0.l0 (k : Nat) (x0 : List Int) (x1 : Int) (x5 : Int) : Option (Int × List Int) := runL tab ext0 k 20 (todoAt tab 20 2) (stAt tab 20 [(0, .ref 76), (1, mkVal false (.int .i64) x1), (5, mkVal false (.int .i64) x5)] [(76, .io false (.int .i64) x0)])
theorem mark0.f_eq (k : Nat) (a0 : List Int) (a1 : Int) : mark0.f (k + 1) a0 a1 = (mark0.l0 k a0 a1 0) := by kernel_rfl
theorem mark0.l0_eq (k : Nat) (x0 : List Int) (x1 : Int) (x5 : Int) : mark0.l0 (k + 1) x0 x1 x5 = (br (decide (x5 < (x0.length : Int))) (gate (decide (0 ≤ x5 ∧ x5 < (x0.length : Int))) <| gate (decide (x5.toNat < x0.length)) <| mark0.l0 k (x0.set x5.toNat x1) (wr (x1 + 1)) (wr (x5 + 1))) (some (x1, x0))) := by kernel_rfl
theorem mark1_ok : Mark1 Try.prog 20 := mark1_of (f := fn20) rfl rfl rfl rfl rfl (run := fun k ps => runF tab ext0 k 20 ps) (fun k => run_sound (Checked.mixed Try.checked) tab_ok fns_ok (fun g x h => by cases h) k 20) (out := fun a b => (a, b)) (fun a b => rfl) (fun x k hx => by
  obtain ⟨n, hn⟩ := mark0_gen mark0.l0_eq x [] k (by simpa using hx)
  refine ⟨n + 1, ?_⟩
  have h := mark0.f_eq n x k
  have h2 : mark0.l0 n x k 0 = some ((mark1 x k).1, (mark1 x k).2) := by simpa using hn
  rw [h2] at h
  exact h)
theorem ext_ok : ∀ g x, ext g = some x → Sound Try.prog tab g x := by
  intro g x h
  simp only [ext] at h
  split at h
  · cases h; exact nil_sound (Checked.mixed Try.checked) tab_ok fns_ok (f := fn59) rfl rfl rfl _ (by kernel_rfl) (fun x => by kernel_rfl)
  · cases h; exact nil_sound (Checked.mixed Try.checked) tab_ok fns_ok (f := fn115) rfl rfl rfl _ (by kernel_rfl) (fun x => by kernel_rfl)
  · cases h; exact sound_mark (f := fn53) rfl rfl rfl rfl rfl (fun a b => rfl) markL_len (fun k => rfl) (marked53 mark1_ok) nothing53
  · cases h
end Go.Proofs.Ytigeaijocajnhaa.Eng
