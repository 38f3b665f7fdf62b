import Derived.Test.YtpahkabfmabneaaDoorS26
import Derived.Test.YtpahkabfmabneaaDoorS28
import Derived.Test.YtpahkabfmabneaaDoorChecked
import Derived.Test.YtpahkabfmabneaaDoorTB
import Derived.Test.YtpahkabfmabneaaDoorLB
namespace Go.Proofs.YtpahkabfmabneaaDoor.Eng
open Go
set_option maxRecDepth 20000
theorem tab_ok : TabOk Tryd.prog tab := by
  refine ⟨fun tid t h => ?_, fun tid t h => ?_, fun tid h => ?_⟩
  · simp only [tab, tyOf] at h
    split at h <;> first | (cases h; exact tyFacts_mk (by kernel_rfl) (by kernel_rfl) (by decide)) | cases h
  · cases h
  · simp only [tab] at h
    split at h <;> first | exact absurd h (by decide) | exact eqFacts_mk (by kernel_rfl)
theorem fnOk5 : FnOk Tryd.prog 5 fn5 := fnOk_mk Tryd.func5 (by kernel_rfl) (by kernel_rfl) rfl (by kernel_rfl) (by kernel_rfl)
theorem fnOk6 : FnOk Tryd.prog 6 fn6 := fnOk_mk Tryd.func6 (by kernel_rfl) (by kernel_rfl) rfl (by kernel_rfl) (by kernel_rfl)
theorem fnOk7 : FnOk Tryd.prog 7 fn7 := fnOk_mk Tryd.func7 (by kernel_rfl) (by kernel_rfl) rfl (by kernel_rfl) (by kernel_rfl)
theorem fnOk8 : FnOk Tryd.prog 8 fn8 := fnOk_mk Tryd.func8 (by kernel_rfl) (by kernel_rfl) rfl (by kernel_rfl) (by kernel_rfl)
theorem fnOk9 : FnOk Tryd.prog 9 fn9 := fnOk_mk Tryd.func9 (by kernel_rfl) (by kernel_rfl) rfl (by kernel_rfl) (by kernel_rfl)
theorem fnOk10 : FnOk Tryd.prog 10 fn10 := fnOk_mk Tryd.func10 (by kernel_rfl) (by kernel_rfl) rfl (by kernel_rfl) (by kernel_rfl)
theorem fnOk12 : FnOk Tryd.prog 12 fn12 := fnOk_mk Tryd.func12 (by kernel_rfl) (by kernel_rfl) rfl (by kernel_rfl) (by kernel_rfl)
theorem fnOk14 : FnOk Tryd.prog 14 fn14 := fnOk_mk Tryd.func14 (by kernel_rfl) (by kernel_rfl) rfl (by kernel_rfl) (by kernel_rfl)
theorem fnOk16 : FnOk Tryd.prog 16 fn16 := fnOk_mk Tryd.func16 (by kernel_rfl) (by kernel_rfl) rfl (by kernel_rfl) (by kernel_rfl)
theorem fnOk17 : FnOk Tryd.prog 17 fn17 := fnOk_mk Tryd.func17 (by kernel_rfl) (by kernel_rfl) rfl (by kernel_rfl) (by kernel_rfl)
theorem fnOk18 : FnOk Tryd.prog 18 fn18 := fnOk_mk Tryd.func18 (by kernel_rfl) (by kernel_rfl) rfl (by kernel_rfl) (by kernel_rfl)
theorem fnOk19 : FnOk Tryd.prog 19 fn19 := fnOk_mk Tryd.func19 (by kernel_rfl) (by kernel_rfl) rfl (by kernel_rfl) (by kernel_rfl)
theorem fnOk20 : FnOk Tryd.prog 20 fn20 := fnOk_mk Tryd.func20 (by kernel_rfl) (by kernel_rfl) rfl (by kernel_rfl) (by kernel_rfl)
theorem fnOk21 : FnOk Tryd.prog 21 fn21 := fnOk_mk Tryd.func21 (by kernel_rfl) (by kernel_rfl) rfl (by kernel_rfl) (by kernel_rfl)
theorem fnOk22 : FnOk Tryd.prog 22 fn22 := fnOk_mk Tryd.func22 (by kernel_rfl) (by kernel_rfl) rfl (by kernel_rfl) (by kernel_rfl)
theorem fnOk23 : FnOk Tryd.prog 23 fn23 := fnOk_mk Tryd.func23 (by kernel_rfl) (by kernel_rfl) rfl (by kernel_rfl) (by kernel_rfl)
theorem fnOk24 : FnOk Tryd.prog 24 fn24 := fnOk_mk Tryd.func24 (by kernel_rfl) (by kernel_rfl) rfl (by kernel_rfl) (by kernel_rfl)
theorem fnOk25 : FnOk Tryd.prog 25 fn25 := fnOk_mk Tryd.func25 (by kernel_rfl) (by kernel_rfl) rfl (by kernel_rfl) (by kernel_rfl)
theorem fnOk26 : FnOk Tryd.prog 26 fn26 := fnOk_mk Tryd.func26 (by kernel_rfl) (by kernel_rfl) rfl (by kernel_rfl) (by kernel_rfl)
theorem fnOk27 : FnOk Tryd.prog 27 fn27 := fnOk_mk Tryd.func27 (by kernel_rfl) (by kernel_rfl) rfl (by kernel_rfl) (by kernel_rfl)
theorem fnOk28 : FnOk Tryd.prog 28 fn28 := fnOk_mk Tryd.func28 (by kernel_rfl) (by kernel_rfl) rfl (by kernel_rfl) (by kernel_rfl)
theorem fnOk29 : FnOk Tryd.prog 29 fn29 := fnOk_mk Tryd.func29 (by kernel_rfl) (by kernel_rfl) rfl (by kernel_rfl) (by kernel_rfl)
theorem fnOk30 : FnOk Tryd.prog 30 fn30 := fnOk_mk Tryd.func30 (by kernel_rfl) (by kernel_rfl) rfl (by kernel_rfl) (by kernel_rfl)
theorem fnOk31 : FnOk Tryd.prog 31 fn31 := fnOk_mk Tryd.func31 (by kernel_rfl) (by kernel_rfl) rfl (by kernel_rfl) (by kernel_rfl)
theorem fnOk32 : FnOk Tryd.prog 32 fn32 := fnOk_mk Tryd.func32 (by kernel_rfl) (by kernel_rfl) rfl (by kernel_rfl) (by kernel_rfl)
theorem fnOk33 : FnOk Tryd.prog 33 fn33 := fnOk_mk Tryd.func33 (by kernel_rfl) (by kernel_rfl) rfl (by kernel_rfl) (by kernel_rfl)
theorem fnOk34 : FnOk Tryd.prog 34 fn34 := fnOk_mk Tryd.func34 (by kernel_rfl) (by kernel_rfl) rfl (by kernel_rfl) (by kernel_rfl)
theorem fnOk35 : FnOk Tryd.prog 35 fn35 := fnOk_mk Tryd.func35 (by kernel_rfl) (by kernel_rfl) rfl (by kernel_rfl) (by kernel_rfl)
theorem fnOk36 : FnOk Tryd.prog 36 fn36 := fnOk_mk Tryd.func36 (by kernel_rfl) (by kernel_rfl) rfl (by kernel_rfl) (by kernel_rfl)
theorem fnOk37 : FnOk Tryd.prog 37 fn37 := fnOk_mk Tryd.func37 (by kernel_rfl) (by kernel_rfl) rfl (by kernel_rfl) (by kernel_rfl)
theorem fnOk38 : FnOk Tryd.prog 38 fn38 := fnOk_mk Tryd.func38 (by kernel_rfl) (by kernel_rfl) rfl (by kernel_rfl) (by kernel_rfl)
theorem fnOk39 : FnOk Tryd.prog 39 fn39 := fnOk_mk Tryd.func39 (by kernel_rfl) (by kernel_rfl) rfl (by kernel_rfl) (by kernel_rfl)
theorem fnOk40 : FnOk Tryd.prog 40 fn40 := fnOk_mk Tryd.func40 (by kernel_rfl) (by kernel_rfl) rfl (by kernel_rfl) (by kernel_rfl)
theorem fnOk41 : FnOk Tryd.prog 41 fn41 := fnOk_mk Tryd.func41 (by kernel_rfl) (by kernel_rfl) rfl (by kernel_rfl) (by kernel_rfl)
theorem fnOk42 : FnOk Tryd.prog 42 fn42 := fnOk_mk Tryd.func42 (by kernel_rfl) (by kernel_rfl) rfl (by kernel_rfl) (by kernel_rfl)
theorem fnOk43 : FnOk Tryd.prog 43 fn43 := fnOk_mk Tryd.func43 (by kernel_rfl) (by kernel_rfl) rfl (by kernel_rfl) (by kernel_rfl)
theorem fnOk48 : FnOk Tryd.prog 48 fn48 := fnOk_mk Tryd.func48 (by kernel_rfl) (by kernel_rfl) rfl (by kernel_rfl) (by kernel_rfl)
theorem fnOk49 : FnOk Tryd.prog 49 fn49 := fnOk_mk Tryd.func49 (by kernel_rfl) (by kernel_rfl) rfl (by kernel_rfl) (by kernel_rfl)
theorem fnOk50 : FnOk Tryd.prog 50 fn50 := fnOk_mk Tryd.func50 (by kernel_rfl) (by kernel_rfl) rfl (by kernel_rfl) (by kernel_rfl)
theorem fnOk51 : FnOk Tryd.prog 51 fn51 := fnOk_mk Tryd.func51 (by kernel_rfl) (by kernel_rfl) rfl (by kernel_rfl) (by kernel_rfl)
theorem fnOk52 : FnOk Tryd.prog 52 fn52 := fnOk_mk Tryd.func52 (by kernel_rfl) (by kernel_rfl) rfl (by kernel_rfl) (by kernel_rfl)
theorem fnOk53 : FnOk Tryd.prog 53 fn53 := fnOk_mk Tryd.func53 (by kernel_rfl) (by kernel_rfl) rfl (by kernel_rfl) (by kernel_rfl)
theorem fnOk54 : FnOk Tryd.prog 54 fn54 := fnOk_mk Tryd.func54 (by kernel_rfl) (by kernel_rfl) rfl (by kernel_rfl) (by kernel_rfl)
theorem fnOk62 : FnOk Tryd.prog 62 fn62 := fnOk_mk Tryd.func62 (by kernel_rfl) (by kernel_rfl) rfl (by kernel_rfl) (by kernel_rfl)
theorem fnOk63 : FnOk Tryd.prog 63 fn63 := fnOk_mk Tryd.func63 (by kernel_rfl) (by kernel_rfl) rfl (by kernel_rfl) (by kernel_rfl)
theorem fnOk64 : FnOk Tryd.prog 64 fn64 := fnOk_mk Tryd.func64 (by kernel_rfl) (by kernel_rfl) rfl (by kernel_rfl) (by kernel_rfl)
theorem fnOk65 : FnOk Tryd.prog 65 fn65 := fnOk_mk Tryd.func65 (by kernel_rfl) (by kernel_rfl) rfl (by kernel_rfl) (by kernel_rfl)
theorem fnOk66 : FnOk Tryd.prog 66 fn66 := fnOk_mk Tryd.func66 (by kernel_rfl) (by kernel_rfl) rfl (by kernel_rfl) (by kernel_rfl)
theorem fnOk67 : FnOk Tryd.prog 67 fn67 := fnOk_mk Tryd.func67 (by kernel_rfl) (by kernel_rfl) rfl (by kernel_rfl) (by kernel_rfl)
theorem fnOk79 : FnOk Tryd.prog 79 fn79 := fnOk_mk Tryd.func79 (by kernel_rfl) (by kernel_rfl) rfl (by kernel_rfl) (by kernel_rfl)
theorem fnOk80 : FnOk Tryd.prog 80 fn80 := fnOk_mk Tryd.func80 (by kernel_rfl) (by kernel_rfl) rfl (by kernel_rfl) (by kernel_rfl)
theorem fnOk81 : FnOk Tryd.prog 81 fn81 := fnOk_mk Tryd.func81 (by kernel_rfl) (by kernel_rfl) rfl (by kernel_rfl) (by kernel_rfl)
theorem fnOk82 : FnOk Tryd.prog 82 fn82 := fnOk_mk Tryd.func82 (by kernel_rfl) (by kernel_rfl) rfl (by kernel_rfl) (by kernel_rfl)
theorem fnOk92 : FnOk Tryd.prog 92 fn92 := fnOk_mk Tryd.func92 (by kernel_rfl) (by kernel_rfl) rfl (by kernel_rfl) (by kernel_rfl)
theorem fnOk93 : FnOk Tryd.prog 93 fn93 := fnOk_mk Tryd.func93 (by kernel_rfl) (by kernel_rfl) rfl (by kernel_rfl) (by kernel_rfl)
theorem fns_ok : ∀ g f, tab.fn g = some f → FnOk Tryd.prog g f := by
  intro g f h
  simp only [tab] at h
  split at h
  · cases h; exact fnOk5
  · cases h; exact fnOk6
  · cases h; exact fnOk7
  · cases h; exact fnOk8
  · cases h; exact fnOk9
  · cases h; exact fnOk10
  · cases h; exact fnOk12
  · cases h; exact fnOk14
  · cases h; exact fnOk16
  · cases h; exact fnOk17
  · cases h; exact fnOk18
  · cases h; exact fnOk19
  · cases h; exact fnOk20
  · cases h; exact fnOk21
  · cases h; exact fnOk22
  · cases h; exact fnOk23
  · cases h; exact fnOk24
  · cases h; exact fnOk25
  · cases h; exact fnOk26
  · cases h; exact fnOk27
  · cases h; exact fnOk28
  · cases h; exact fnOk29
  · cases h; exact fnOk30
  · cases h; exact fnOk31
  · cases h; exact fnOk32
  · cases h; exact fnOk33
  · cases h; exact fnOk34
  · cases h; exact fnOk35
  · cases h; exact fnOk36
  · cases h; exact fnOk37
  · cases h; exact fnOk38
  · cases h; exact fnOk39
  · cases h; exact fnOk40
  · cases h; exact fnOk41
  · cases h; exact fnOk42
  · cases h; exact fnOk43
  · cases h; exact fnOk48
  · cases h; exact fnOk49
  · cases h; exact fnOk50
  · cases h; exact fnOk51
  · cases h; exact fnOk52
  · cases h; exact fnOk53
  · cases h; exact fnOk54
  · cases h; exact fnOk62
  · cases h; exact fnOk63
  · cases h; exact fnOk64
  · cases h; exact fnOk65
  · cases h; exact fnOk66
  · cases h; exact fnOk67
  · cases h; exact fnOk79
  · cases h; exact fnOk80
  · cases h; exact fnOk81
  · cases h; exact fnOk82
  · cases h; exact fnOk92
  · cases h; exact fnOk93
  · cases h
theorem ext_ok : ∀ g x, ext g = some x → Sound Tryd.prog tab g x := by
  intro g x h
  simp only [ext] at h
  split at h
  · cases h; exact lib_32
  · cases h; exact lib_34
  · cases h; exact lib_35
  · cases h
end Go.Proofs.YtpahkabfmabneaaDoor.Eng
