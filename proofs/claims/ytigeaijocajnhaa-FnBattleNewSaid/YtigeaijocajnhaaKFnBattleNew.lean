import Derived.Test.YtigeaijocajnhaaS26
import Derived.Test.YtigeaijocajnhaaS28
import Derived.Test.YtigeaijocajnhaaChecked
import Derived.Test.YtigeaijocajnhaaTFnBattleNew
namespace Go.Proofs.Ytigeaijocajnhaa.Eng
open Go
set_option maxRecDepth 20000
theorem tab_ok : TabOk Try.prog tab := by
  intro tid t h
  simp only [tab, tyOf] at h
  split at h <;> first | (cases h; exact tyFacts_mk (by kernel_rfl) (by kernel_rfl) (by decide)) | cases h
theorem fnOk4 : FnOk Try.prog 4 fn4 := fnOk_mk Try.func4 (by kernel_rfl) (by kernel_rfl) rfl (by kernel_rfl) (by kernel_rfl)
theorem fnOk15 : FnOk Try.prog 15 fn15 := fnOk_mk Try.func15 (by kernel_rfl) (by kernel_rfl) rfl (by kernel_rfl) (by kernel_rfl)
theorem fnOk17 : FnOk Try.prog 17 fn17 := fnOk_mk Try.func17 (by kernel_rfl) (by kernel_rfl) rfl (by kernel_rfl) (by kernel_rfl)
theorem fnOk23 : FnOk Try.prog 23 fn23 := fnOk_mk Try.func23 (by kernel_rfl) (by kernel_rfl) rfl (by kernel_rfl) (by kernel_rfl)
theorem fnOk24 : FnOk Try.prog 24 fn24 := fnOk_mk Try.func24 (by kernel_rfl) (by kernel_rfl) rfl (by kernel_rfl) (by kernel_rfl)
theorem fnOk25 : FnOk Try.prog 25 fn25 := fnOk_mk Try.func25 (by kernel_rfl) (by kernel_rfl) rfl (by kernel_rfl) (by kernel_rfl)
theorem fnOk26 : FnOk Try.prog 26 fn26 := fnOk_mk Try.func26 (by kernel_rfl) (by kernel_rfl) rfl (by kernel_rfl) (by kernel_rfl)
theorem fnOk27 : FnOk Try.prog 27 fn27 := fnOk_mk Try.func27 (by kernel_rfl) (by kernel_rfl) rfl (by kernel_rfl) (by kernel_rfl)
theorem fnOk28 : FnOk Try.prog 28 fn28 := fnOk_mk Try.func28 (by kernel_rfl) (by kernel_rfl) rfl (by kernel_rfl) (by kernel_rfl)
theorem fnOk29 : FnOk Try.prog 29 fn29 := fnOk_mk Try.func29 (by kernel_rfl) (by kernel_rfl) rfl (by kernel_rfl) (by kernel_rfl)
theorem fnOk57 : FnOk Try.prog 57 fn57 := fnOk_mk Try.func57 (by kernel_rfl) (by kernel_rfl) rfl (by kernel_rfl) (by kernel_rfl)
theorem fnOk58 : FnOk Try.prog 58 fn58 := fnOk_mk Try.func58 (by kernel_rfl) (by kernel_rfl) rfl (by kernel_rfl) (by kernel_rfl)
theorem fnOk59 : FnOk Try.prog 59 fn59 := fnOk_mk Try.func59 (by kernel_rfl) (by kernel_rfl) rfl (by kernel_rfl) (by kernel_rfl)
theorem fnOk61 : FnOk Try.prog 61 fn61 := fnOk_mk Try.func61 (by kernel_rfl) (by kernel_rfl) rfl (by kernel_rfl) (by kernel_rfl)
theorem fnOk62 : FnOk Try.prog 62 fn62 := fnOk_mk Try.func62 (by kernel_rfl) (by kernel_rfl) rfl (by kernel_rfl) (by kernel_rfl)
theorem fnOk63 : FnOk Try.prog 63 fn63 := fnOk_mk Try.func63 (by kernel_rfl) (by kernel_rfl) rfl (by kernel_rfl) (by kernel_rfl)
theorem fnOk64 : FnOk Try.prog 64 fn64 := fnOk_mk Try.func64 (by kernel_rfl) (by kernel_rfl) rfl (by kernel_rfl) (by kernel_rfl)
theorem fnOk65 : FnOk Try.prog 65 fn65 := fnOk_mk Try.func65 (by kernel_rfl) (by kernel_rfl) rfl (by kernel_rfl) (by kernel_rfl)
theorem fnOk66 : FnOk Try.prog 66 fn66 := fnOk_mk Try.func66 (by kernel_rfl) (by kernel_rfl) rfl (by kernel_rfl) (by kernel_rfl)
theorem fnOk67 : FnOk Try.prog 67 fn67 := fnOk_mk Try.func67 (by kernel_rfl) (by kernel_rfl) rfl (by kernel_rfl) (by kernel_rfl)
theorem fnOk80 : FnOk Try.prog 80 fn80 := fnOk_mk Try.func80 (by kernel_rfl) (by kernel_rfl) rfl (by kernel_rfl) (by kernel_rfl)
theorem fnOk86 : FnOk Try.prog 86 fn86 := fnOk_mk Try.func86 (by kernel_rfl) (by kernel_rfl) rfl (by kernel_rfl) (by kernel_rfl)
theorem fnOk89 : FnOk Try.prog 89 fn89 := fnOk_mk Try.func89 (by kernel_rfl) (by kernel_rfl) rfl (by kernel_rfl) (by kernel_rfl)
theorem fnOk90 : FnOk Try.prog 90 fn90 := fnOk_mk Try.func90 (by kernel_rfl) (by kernel_rfl) rfl (by kernel_rfl) (by kernel_rfl)
theorem fnOk91 : FnOk Try.prog 91 fn91 := fnOk_mk Try.func91 (by kernel_rfl) (by kernel_rfl) rfl (by kernel_rfl) (by kernel_rfl)
theorem fnOk92 : FnOk Try.prog 92 fn92 := fnOk_mk Try.func92 (by kernel_rfl) (by kernel_rfl) rfl (by kernel_rfl) (by kernel_rfl)
theorem fnOk95 : FnOk Try.prog 95 fn95 := fnOk_mk Try.func95 (by kernel_rfl) (by kernel_rfl) rfl (by kernel_rfl) (by kernel_rfl)
theorem fnOk98 : FnOk Try.prog 98 fn98 := fnOk_mk Try.func98 (by kernel_rfl) (by kernel_rfl) rfl (by kernel_rfl) (by kernel_rfl)
theorem fnOk105 : FnOk Try.prog 105 fn105 := fnOk_mk Try.func105 (by kernel_rfl) (by kernel_rfl) rfl (by kernel_rfl) (by kernel_rfl)
theorem fnOk106 : FnOk Try.prog 106 fn106 := fnOk_mk Try.func106 (by kernel_rfl) (by kernel_rfl) rfl (by kernel_rfl) (by kernel_rfl)
theorem fnOk107 : FnOk Try.prog 107 fn107 := fnOk_mk Try.func107 (by kernel_rfl) (by kernel_rfl) rfl (by kernel_rfl) (by kernel_rfl)
theorem fnOk108 : FnOk Try.prog 108 fn108 := fnOk_mk Try.func108 (by kernel_rfl) (by kernel_rfl) rfl (by kernel_rfl) (by kernel_rfl)
theorem fnOk115 : FnOk Try.prog 115 fn115 := fnOk_mk Try.func115 (by kernel_rfl) (by kernel_rfl) rfl (by kernel_rfl) (by kernel_rfl)
theorem fnOk116 : FnOk Try.prog 116 fn116 := fnOk_mk Try.func116 (by kernel_rfl) (by kernel_rfl) rfl (by kernel_rfl) (by kernel_rfl)
theorem fns_ok : ∀ g f, tab.fn g = some f → FnOk Try.prog g f := by
  intro g f h
  simp only [tab] at h
  split at h
  · cases h; exact fnOk4
  · cases h; exact fnOk15
  · cases h; exact fnOk17
  · cases h; exact fnOk23
  · cases h; exact fnOk24
  · cases h; exact fnOk25
  · cases h; exact fnOk26
  · cases h; exact fnOk27
  · cases h; exact fnOk28
  · cases h; exact fnOk29
  · cases h; exact fnOk57
  · cases h; exact fnOk58
  · cases h; exact fnOk59
  · cases h; exact fnOk61
  · cases h; exact fnOk62
  · cases h; exact fnOk63
  · cases h; exact fnOk64
  · cases h; exact fnOk65
  · cases h; exact fnOk66
  · cases h; exact fnOk67
  · cases h; exact fnOk80
  · cases h; exact fnOk86
  · cases h; exact fnOk89
  · cases h; exact fnOk90
  · cases h; exact fnOk91
  · cases h; exact fnOk92
  · cases h; exact fnOk95
  · cases h; exact fnOk98
  · cases h; exact fnOk105
  · cases h; exact fnOk106
  · cases h; exact fnOk107
  · cases h; exact fnOk108
  · cases h; exact fnOk115
  · cases h; exact fnOk116
  · cases h
theorem ext_ok : ∀ g x, ext g = some x → Sound Try.prog tab g x := by
  intro g x h
  simp only [ext] at h
  split at h
  · cases h; exact nil_sound (Checked.mixed Try.checked) tab_ok fns_ok (f := fn59) rfl rfl _ (by kernel_rfl) (fun x => by kernel_rfl)
  · cases h; exact nil_sound (Checked.mixed Try.checked) tab_ok fns_ok (f := fn115) rfl rfl _ (by kernel_rfl) (fun x => by kernel_rfl)
  · cases h
end Go.Proofs.Ytigeaijocajnhaa.Eng
