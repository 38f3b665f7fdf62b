import Derived.Test.YtgibeillafnieaaS26
import Derived.Test.YtgibeillafnieaaS28
import Derived.Test.YtgibeillafnieaaChecked
import Derived.Test.YtgibeillafnieaaTY
namespace Go.Proofs.Ytgibeillafnieaa.Eng
open Go
set_option maxRecDepth 20000
theorem tab_ok : TabOk Try.prog tab := by
  refine ⟨fun tid t h => ?_, fun tid t h => ?_, fun tid h => ?_⟩
  · simp only [tab, tyOf] at h
    split at h <;> first | (cases h; exact tyFacts_mk (by kernel_rfl) (by kernel_rfl) (by decide)) | cases h
  · simp only [tab] at h
    split at h <;> first | (cases h; exact mpFacts_mk (by kernel_rfl) (by decide)) | cases h
  · cases h
theorem fnOk5 : FnOk Try.prog 5 fn5 := fnOk_mk Try.func5 (by kernel_rfl) (by kernel_rfl) rfl (by kernel_rfl) (by kernel_rfl)
theorem fnOk14 : FnOk Try.prog 14 fn14 := fnOk_mk Try.func14 (by kernel_rfl) (by kernel_rfl) rfl (by kernel_rfl) (by kernel_rfl)
theorem fnOk15 : FnOk Try.prog 15 fn15 := fnOk_mk Try.func15 (by kernel_rfl) (by kernel_rfl) rfl (by kernel_rfl) (by kernel_rfl)
theorem fnOk16 : FnOk Try.prog 16 fn16 := fnOk_mk Try.func16 (by kernel_rfl) (by kernel_rfl) rfl (by kernel_rfl) (by kernel_rfl)
theorem fnOk17 : FnOk Try.prog 17 fn17 := fnOk_mk Try.func17 (by kernel_rfl) (by kernel_rfl) rfl (by kernel_rfl) (by kernel_rfl)
theorem fnOk18 : FnOk Try.prog 18 fn18 := fnOk_mk Try.func18 (by kernel_rfl) (by kernel_rfl) rfl (by kernel_rfl) (by kernel_rfl)
theorem fnOk20 : FnOk Try.prog 20 fn20 := fnOk_mk Try.func20 (by kernel_rfl) (by kernel_rfl) rfl (by kernel_rfl) (by kernel_rfl)
theorem fnOk21 : FnOk Try.prog 21 fn21 := fnOk_mk Try.func21 (by kernel_rfl) (by kernel_rfl) rfl (by kernel_rfl) (by kernel_rfl)
theorem fnOk32 : FnOk Try.prog 32 fn32 := fnOk_mk Try.func32 (by kernel_rfl) (by kernel_rfl) rfl (by kernel_rfl) (by kernel_rfl)
theorem fnOk33 : FnOk Try.prog 33 fn33 := fnOk_mk Try.func33 (by kernel_rfl) (by kernel_rfl) rfl (by kernel_rfl) (by kernel_rfl)
theorem fnOk37 : FnOk Try.prog 37 fn37 := fnOk_mk Try.func37 (by kernel_rfl) (by kernel_rfl) rfl (by kernel_rfl) (by kernel_rfl)
theorem fnOk55 : FnOk Try.prog 55 fn55 := fnOk_mk Try.func55 (by kernel_rfl) (by kernel_rfl) rfl (by kernel_rfl) (by kernel_rfl)
theorem fnOk56 : FnOk Try.prog 56 fn56 := fnOk_mk Try.func56 (by kernel_rfl) (by kernel_rfl) rfl (by kernel_rfl) (by kernel_rfl)
theorem fnOk57 : FnOk Try.prog 57 fn57 := fnOk_mk Try.func57 (by kernel_rfl) (by kernel_rfl) rfl (by kernel_rfl) (by kernel_rfl)
theorem fnOk58 : FnOk Try.prog 58 fn58 := fnOk_mk Try.func58 (by kernel_rfl) (by kernel_rfl) rfl (by kernel_rfl) (by kernel_rfl)
theorem fnOk59 : FnOk Try.prog 59 fn59 := fnOk_mk Try.func59 (by kernel_rfl) (by kernel_rfl) rfl (by kernel_rfl) (by kernel_rfl)
theorem fnOk60 : FnOk Try.prog 60 fn60 := fnOk_mk Try.func60 (by kernel_rfl) (by kernel_rfl) rfl (by kernel_rfl) (by kernel_rfl)
theorem fnOk61 : FnOk Try.prog 61 fn61 := fnOk_mk Try.func61 (by kernel_rfl) (by kernel_rfl) rfl (by kernel_rfl) (by kernel_rfl)
theorem fnOk62 : FnOk Try.prog 62 fn62 := fnOk_mk Try.func62 (by kernel_rfl) (by kernel_rfl) rfl (by kernel_rfl) (by kernel_rfl)
theorem fnOk63 : FnOk Try.prog 63 fn63 := fnOk_mk Try.func63 (by kernel_rfl) (by kernel_rfl) rfl (by kernel_rfl) (by kernel_rfl)
theorem fnOk64 : FnOk Try.prog 64 fn64 := fnOk_mk Try.func64 (by kernel_rfl) (by kernel_rfl) rfl (by kernel_rfl) (by kernel_rfl)
theorem fnOk66 : FnOk Try.prog 66 fn66 := fnOk_mk Try.func66 (by kernel_rfl) (by kernel_rfl) rfl (by kernel_rfl) (by kernel_rfl)
theorem fnOk67 : FnOk Try.prog 67 fn67 := fnOk_mk Try.func67 (by kernel_rfl) (by kernel_rfl) rfl (by kernel_rfl) (by kernel_rfl)
theorem fnOk74 : FnOk Try.prog 74 fn74 := fnOk_mk Try.func74 (by kernel_rfl) (by kernel_rfl) rfl (by kernel_rfl) (by kernel_rfl)
theorem fnOk75 : FnOk Try.prog 75 fn75 := fnOk_mk Try.func75 (by kernel_rfl) (by kernel_rfl) rfl (by kernel_rfl) (by kernel_rfl)
theorem fnOk82 : FnOk Try.prog 82 fn82 := fnOk_mk Try.func82 (by kernel_rfl) (by kernel_rfl) rfl (by kernel_rfl) (by kernel_rfl)
theorem fnOk85 : FnOk Try.prog 85 fn85 := fnOk_mk Try.func85 (by kernel_rfl) (by kernel_rfl) rfl (by kernel_rfl) (by kernel_rfl)
theorem fnOk86 : FnOk Try.prog 86 fn86 := fnOk_mk Try.func86 (by kernel_rfl) (by kernel_rfl) rfl (by kernel_rfl) (by kernel_rfl)
theorem fnOk89 : FnOk Try.prog 89 fn89 := fnOk_mk Try.func89 (by kernel_rfl) (by kernel_rfl) rfl (by kernel_rfl) (by kernel_rfl)
theorem fns_ok : ∀ g f, tab.fn g = some f → FnOk Try.prog g f := by
  intro g f h
  simp only [tab] at h
  split at h
  · cases h; exact fnOk5
  · cases h; exact fnOk14
  · cases h; exact fnOk15
  · cases h; exact fnOk16
  · cases h; exact fnOk17
  · cases h; exact fnOk18
  · cases h; exact fnOk20
  · cases h; exact fnOk21
  · cases h; exact fnOk32
  · cases h; exact fnOk33
  · cases h; exact fnOk37
  · cases h; exact fnOk55
  · cases h; exact fnOk56
  · cases h; exact fnOk57
  · cases h; exact fnOk58
  · cases h; exact fnOk59
  · cases h; exact fnOk60
  · cases h; exact fnOk61
  · cases h; exact fnOk62
  · cases h; exact fnOk63
  · cases h; exact fnOk64
  · cases h; exact fnOk66
  · cases h; exact fnOk67
  · cases h; exact fnOk74
  · cases h; exact fnOk75
  · cases h; exact fnOk82
  · cases h; exact fnOk85
  · cases h; exact fnOk86
  · cases h; exact fnOk89
  · cases h
theorem ext_ok : ∀ g x, ext g = some x → Sound Try.prog tab g x := by
  intro g x h
  simp only [ext] at h
  split at h
  · cases h; exact nil_sound (Checked.mixed Try.checked) tab_ok fns_ok (f := fn62) rfl rfl rfl _ (by kernel_rfl) (fun x => by kernel_rfl)
  · cases h
end Go.Proofs.Ytgibeillafnieaa.Eng
