import Derived.Test.YtpahkabfmabneaaDoorS26
import Derived.Test.YtpahkabfmabneaaDoorS28
import Derived.Test.YtpahkabfmabneaaDoorChecked
import Derived.Test.YtpahkabfmabneaaDoorTA
import Derived.Test.YtpahkabfmabneaaDoorLA
namespace Go.Proofs.YtpahkabfmabneaaDoor.Eng
open Go
set_option maxRecDepth 20000
theorem tab_ok : TabOk Tryd.prog tab := by
  refine ⟨fun tid t h => ?_, fun tid t h => ?_, fun tid h => ?_⟩
  · simp only [tab, tyOf] at h
    split at h <;> first | (cases h; exact tyFacts_mk (by kernel_rfl) (by kernel_rfl) (by decide)) | cases h
  · cases h
  · cases h
theorem fnOk3 : FnOk Tryd.prog 3 fn3 := fnOk_mk Tryd.func3 (by kernel_rfl) (by kernel_rfl) rfl (by kernel_rfl) (by kernel_rfl)
theorem fnOk4 : FnOk Tryd.prog 4 fn4 := fnOk_mk Tryd.func4 (by kernel_rfl) (by kernel_rfl) rfl (by kernel_rfl) (by kernel_rfl)
theorem fnOk10 : FnOk Tryd.prog 10 fn10 := fnOk_mk Tryd.func10 (by kernel_rfl) (by kernel_rfl) rfl (by kernel_rfl) (by kernel_rfl)
theorem fnOk11 : FnOk Tryd.prog 11 fn11 := fnOk_mk Tryd.func11 (by kernel_rfl) (by kernel_rfl) rfl (by kernel_rfl) (by kernel_rfl)
theorem fnOk12 : FnOk Tryd.prog 12 fn12 := fnOk_mk Tryd.func12 (by kernel_rfl) (by kernel_rfl) rfl (by kernel_rfl) (by kernel_rfl)
theorem fnOk13 : FnOk Tryd.prog 13 fn13 := fnOk_mk Tryd.func13 (by kernel_rfl) (by kernel_rfl) rfl (by kernel_rfl) (by kernel_rfl)
theorem fnOk14 : FnOk Tryd.prog 14 fn14 := fnOk_mk Tryd.func14 (by kernel_rfl) (by kernel_rfl) rfl (by kernel_rfl) (by kernel_rfl)
theorem fnOk15 : FnOk Tryd.prog 15 fn15 := fnOk_mk Tryd.func15 (by kernel_rfl) (by kernel_rfl) rfl (by kernel_rfl) (by kernel_rfl)
theorem fnOk16 : FnOk Tryd.prog 16 fn16 := fnOk_mk Tryd.func16 (by kernel_rfl) (by kernel_rfl) rfl (by kernel_rfl) (by kernel_rfl)
theorem fnOk17 : FnOk Tryd.prog 17 fn17 := fnOk_mk Tryd.func17 (by kernel_rfl) (by kernel_rfl) rfl (by kernel_rfl) (by kernel_rfl)
theorem fnOk20 : FnOk Tryd.prog 20 fn20 := fnOk_mk Tryd.func20 (by kernel_rfl) (by kernel_rfl) rfl (by kernel_rfl) (by kernel_rfl)
theorem fnOk30 : FnOk Tryd.prog 30 fn30 := fnOk_mk Tryd.func30 (by kernel_rfl) (by kernel_rfl) rfl (by kernel_rfl) (by kernel_rfl)
theorem fnOk31 : FnOk Tryd.prog 31 fn31 := fnOk_mk Tryd.func31 (by kernel_rfl) (by kernel_rfl) rfl (by kernel_rfl) (by kernel_rfl)
theorem fnOk32 : FnOk Tryd.prog 32 fn32 := fnOk_mk Tryd.func32 (by kernel_rfl) (by kernel_rfl) rfl (by kernel_rfl) (by kernel_rfl)
theorem fns_ok : ∀ g f, tab.fn g = some f → FnOk Tryd.prog g f := by
  intro g f h
  simp only [tab] at h
  split at h
  · cases h; exact fnOk3
  · cases h; exact fnOk4
  · cases h; exact fnOk10
  · cases h; exact fnOk11
  · cases h; exact fnOk12
  · cases h; exact fnOk13
  · cases h; exact fnOk14
  · cases h; exact fnOk15
  · cases h; exact fnOk16
  · cases h; exact fnOk17
  · cases h; exact fnOk20
  · cases h; exact fnOk30
  · cases h; exact fnOk31
  · cases h; exact fnOk32
  · cases h
theorem ext_ok : ∀ g x, ext g = some x → Sound Tryd.prog tab g x := by
  intro g x h
  simp only [ext] at h
  split at h
  · cases h; exact lib_32
  · cases h
end Go.Proofs.YtpahkabfmabneaaDoor.Eng
