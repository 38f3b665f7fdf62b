import Derived.Test.YtmcppbdepkhlaaaS26
import Derived.Test.YtmcppbdepkhlaaaS28
import Derived.Test.YtmcppbdepkhlaaaChecked
import Derived.Test.YtmcppbdepkhlaaaTM
namespace Go.Proofs.Ytmcppbdepkhlaaa.Eng
open Go
set_option maxRecDepth 20000
theorem tab_ok : TabOk Try.prog tab := by
  intro tid t h
  simp only [tab, tyOf] at h
  split at h <;> first | (cases h; exact tyFacts_mk (by kernel_rfl) (by kernel_rfl) (by decide)) | cases h
theorem fnOk3 : FnOk Try.prog 3 fn3 := fnOk_mk Try.func3 (by kernel_rfl) (by kernel_rfl) rfl (by kernel_rfl) (by kernel_rfl)
theorem fnOk4 : FnOk Try.prog 4 fn4 := fnOk_mk Try.func4 (by kernel_rfl) (by kernel_rfl) rfl (by kernel_rfl) (by kernel_rfl)
theorem fnOk5 : FnOk Try.prog 5 fn5 := fnOk_mk Try.func5 (by kernel_rfl) (by kernel_rfl) rfl (by kernel_rfl) (by kernel_rfl)
theorem fnOk6 : FnOk Try.prog 6 fn6 := fnOk_mk Try.func6 (by kernel_rfl) (by kernel_rfl) rfl (by kernel_rfl) (by kernel_rfl)
theorem fnOk7 : FnOk Try.prog 7 fn7 := fnOk_mk Try.func7 (by kernel_rfl) (by kernel_rfl) rfl (by kernel_rfl) (by kernel_rfl)
theorem fnOk8 : FnOk Try.prog 8 fn8 := fnOk_mk Try.func8 (by kernel_rfl) (by kernel_rfl) rfl (by kernel_rfl) (by kernel_rfl)
theorem fnOk9 : FnOk Try.prog 9 fn9 := fnOk_mk Try.func9 (by kernel_rfl) (by kernel_rfl) rfl (by kernel_rfl) (by kernel_rfl)
theorem fnOk10 : FnOk Try.prog 10 fn10 := fnOk_mk Try.func10 (by kernel_rfl) (by kernel_rfl) rfl (by kernel_rfl) (by kernel_rfl)
theorem fnOk11 : FnOk Try.prog 11 fn11 := fnOk_mk Try.func11 (by kernel_rfl) (by kernel_rfl) rfl (by kernel_rfl) (by kernel_rfl)
theorem fnOk12 : FnOk Try.prog 12 fn12 := fnOk_mk Try.func12 (by kernel_rfl) (by kernel_rfl) rfl (by kernel_rfl) (by kernel_rfl)
theorem fnOk13 : FnOk Try.prog 13 fn13 := fnOk_mk Try.func13 (by kernel_rfl) (by kernel_rfl) rfl (by kernel_rfl) (by kernel_rfl)
theorem fnOk14 : FnOk Try.prog 14 fn14 := fnOk_mk Try.func14 (by kernel_rfl) (by kernel_rfl) rfl (by kernel_rfl) (by kernel_rfl)
theorem fnOk15 : FnOk Try.prog 15 fn15 := fnOk_mk Try.func15 (by kernel_rfl) (by kernel_rfl) rfl (by kernel_rfl) (by kernel_rfl)
theorem fnOk16 : FnOk Try.prog 16 fn16 := fnOk_mk Try.func16 (by kernel_rfl) (by kernel_rfl) rfl (by kernel_rfl) (by kernel_rfl)
theorem fnOk17 : FnOk Try.prog 17 fn17 := fnOk_mk Try.func17 (by kernel_rfl) (by kernel_rfl) rfl (by kernel_rfl) (by kernel_rfl)
theorem fnOk18 : FnOk Try.prog 18 fn18 := fnOk_mk Try.func18 (by kernel_rfl) (by kernel_rfl) rfl (by kernel_rfl) (by kernel_rfl)
theorem fnOk19 : FnOk Try.prog 19 fn19 := fnOk_mk Try.func19 (by kernel_rfl) (by kernel_rfl) rfl (by kernel_rfl) (by kernel_rfl)
theorem fnOk20 : FnOk Try.prog 20 fn20 := fnOk_mk Try.func20 (by kernel_rfl) (by kernel_rfl) rfl (by kernel_rfl) (by kernel_rfl)
theorem fnOk21 : FnOk Try.prog 21 fn21 := fnOk_mk Try.func21 (by kernel_rfl) (by kernel_rfl) rfl (by kernel_rfl) (by kernel_rfl)
theorem fnOk22 : FnOk Try.prog 22 fn22 := fnOk_mk Try.func22 (by kernel_rfl) (by kernel_rfl) rfl (by kernel_rfl) (by kernel_rfl)
theorem fnOk23 : FnOk Try.prog 23 fn23 := fnOk_mk Try.func23 (by kernel_rfl) (by kernel_rfl) rfl (by kernel_rfl) (by kernel_rfl)
theorem fnOk24 : FnOk Try.prog 24 fn24 := fnOk_mk Try.func24 (by kernel_rfl) (by kernel_rfl) rfl (by kernel_rfl) (by kernel_rfl)
theorem fnOk25 : FnOk Try.prog 25 fn25 := fnOk_mk Try.func25 (by kernel_rfl) (by kernel_rfl) rfl (by kernel_rfl) (by kernel_rfl)
theorem fnOk26 : FnOk Try.prog 26 fn26 := fnOk_mk Try.func26 (by kernel_rfl) (by kernel_rfl) rfl (by kernel_rfl) (by kernel_rfl)
theorem fnOk27 : FnOk Try.prog 27 fn27 := fnOk_mk Try.func27 (by kernel_rfl) (by kernel_rfl) rfl (by kernel_rfl) (by kernel_rfl)
theorem fnOk28 : FnOk Try.prog 28 fn28 := fnOk_mk Try.func28 (by kernel_rfl) (by kernel_rfl) rfl (by kernel_rfl) (by kernel_rfl)
theorem fnOk29 : FnOk Try.prog 29 fn29 := fnOk_mk Try.func29 (by kernel_rfl) (by kernel_rfl) rfl (by kernel_rfl) (by kernel_rfl)
theorem fnOk30 : FnOk Try.prog 30 fn30 := fnOk_mk Try.func30 (by kernel_rfl) (by kernel_rfl) rfl (by kernel_rfl) (by kernel_rfl)
theorem fnOk31 : FnOk Try.prog 31 fn31 := fnOk_mk Try.func31 (by kernel_rfl) (by kernel_rfl) rfl (by kernel_rfl) (by kernel_rfl)
theorem fnOk32 : FnOk Try.prog 32 fn32 := fnOk_mk Try.func32 (by kernel_rfl) (by kernel_rfl) rfl (by kernel_rfl) (by kernel_rfl)
theorem fnOk33 : FnOk Try.prog 33 fn33 := fnOk_mk Try.func33 (by kernel_rfl) (by kernel_rfl) rfl (by kernel_rfl) (by kernel_rfl)
theorem fnOk34 : FnOk Try.prog 34 fn34 := fnOk_mk Try.func34 (by kernel_rfl) (by kernel_rfl) rfl (by kernel_rfl) (by kernel_rfl)
theorem fnOk35 : FnOk Try.prog 35 fn35 := fnOk_mk Try.func35 (by kernel_rfl) (by kernel_rfl) rfl (by kernel_rfl) (by kernel_rfl)
theorem fnOk36 : FnOk Try.prog 36 fn36 := fnOk_mk Try.func36 (by kernel_rfl) (by kernel_rfl) rfl (by kernel_rfl) (by kernel_rfl)
theorem fnOk37 : FnOk Try.prog 37 fn37 := fnOk_mk Try.func37 (by kernel_rfl) (by kernel_rfl) rfl (by kernel_rfl) (by kernel_rfl)
theorem fnOk38 : FnOk Try.prog 38 fn38 := fnOk_mk Try.func38 (by kernel_rfl) (by kernel_rfl) rfl (by kernel_rfl) (by kernel_rfl)
theorem fnOk39 : FnOk Try.prog 39 fn39 := fnOk_mk Try.func39 (by kernel_rfl) (by kernel_rfl) rfl (by kernel_rfl) (by kernel_rfl)
theorem fnOk40 : FnOk Try.prog 40 fn40 := fnOk_mk Try.func40 (by kernel_rfl) (by kernel_rfl) rfl (by kernel_rfl) (by kernel_rfl)
theorem fnOk41 : FnOk Try.prog 41 fn41 := fnOk_mk Try.func41 (by kernel_rfl) (by kernel_rfl) rfl (by kernel_rfl) (by kernel_rfl)
theorem fnOk42 : FnOk Try.prog 42 fn42 := fnOk_mk Try.func42 (by kernel_rfl) (by kernel_rfl) rfl (by kernel_rfl) (by kernel_rfl)
theorem fnOk43 : FnOk Try.prog 43 fn43 := fnOk_mk Try.func43 (by kernel_rfl) (by kernel_rfl) rfl (by kernel_rfl) (by kernel_rfl)
theorem fnOk44 : FnOk Try.prog 44 fn44 := fnOk_mk Try.func44 (by kernel_rfl) (by kernel_rfl) rfl (by kernel_rfl) (by kernel_rfl)
theorem fnOk45 : FnOk Try.prog 45 fn45 := fnOk_mk Try.func45 (by kernel_rfl) (by kernel_rfl) rfl (by kernel_rfl) (by kernel_rfl)
theorem fnOk46 : FnOk Try.prog 46 fn46 := fnOk_mk Try.func46 (by kernel_rfl) (by kernel_rfl) rfl (by kernel_rfl) (by kernel_rfl)
theorem fnOk47 : FnOk Try.prog 47 fn47 := fnOk_mk Try.func47 (by kernel_rfl) (by kernel_rfl) rfl (by kernel_rfl) (by kernel_rfl)
theorem fnOk48 : FnOk Try.prog 48 fn48 := fnOk_mk Try.func48 (by kernel_rfl) (by kernel_rfl) rfl (by kernel_rfl) (by kernel_rfl)
theorem fnOk49 : FnOk Try.prog 49 fn49 := fnOk_mk Try.func49 (by kernel_rfl) (by kernel_rfl) rfl (by kernel_rfl) (by kernel_rfl)
theorem fnOk50 : FnOk Try.prog 50 fn50 := fnOk_mk Try.func50 (by kernel_rfl) (by kernel_rfl) rfl (by kernel_rfl) (by kernel_rfl)
theorem fnOk51 : FnOk Try.prog 51 fn51 := fnOk_mk Try.func51 (by kernel_rfl) (by kernel_rfl) rfl (by kernel_rfl) (by kernel_rfl)
theorem fnOk52 : FnOk Try.prog 52 fn52 := fnOk_mk Try.func52 (by kernel_rfl) (by kernel_rfl) rfl (by kernel_rfl) (by kernel_rfl)
theorem fnOk53 : FnOk Try.prog 53 fn53 := fnOk_mk Try.func53 (by kernel_rfl) (by kernel_rfl) rfl (by kernel_rfl) (by kernel_rfl)
theorem fnOk54 : FnOk Try.prog 54 fn54 := fnOk_mk Try.func54 (by kernel_rfl) (by kernel_rfl) rfl (by kernel_rfl) (by kernel_rfl)
theorem fnOk55 : FnOk Try.prog 55 fn55 := fnOk_mk Try.func55 (by kernel_rfl) (by kernel_rfl) rfl (by kernel_rfl) (by kernel_rfl)
theorem fnOk56 : FnOk Try.prog 56 fn56 := fnOk_mk Try.func56 (by kernel_rfl) (by kernel_rfl) rfl (by kernel_rfl) (by kernel_rfl)
theorem fnOk57 : FnOk Try.prog 57 fn57 := fnOk_mk Try.func57 (by kernel_rfl) (by kernel_rfl) rfl (by kernel_rfl) (by kernel_rfl)
theorem fnOk58 : FnOk Try.prog 58 fn58 := fnOk_mk Try.func58 (by kernel_rfl) (by kernel_rfl) rfl (by kernel_rfl) (by kernel_rfl)
theorem fnOk59 : FnOk Try.prog 59 fn59 := fnOk_mk Try.func59 (by kernel_rfl) (by kernel_rfl) rfl (by kernel_rfl) (by kernel_rfl)
theorem fnOk60 : FnOk Try.prog 60 fn60 := fnOk_mk Try.func60 (by kernel_rfl) (by kernel_rfl) rfl (by kernel_rfl) (by kernel_rfl)
theorem fnOk61 : FnOk Try.prog 61 fn61 := fnOk_mk Try.func61 (by kernel_rfl) (by kernel_rfl) rfl (by kernel_rfl) (by kernel_rfl)
theorem fnOk62 : FnOk Try.prog 62 fn62 := fnOk_mk Try.func62 (by kernel_rfl) (by kernel_rfl) rfl (by kernel_rfl) (by kernel_rfl)
theorem fnOk63 : FnOk Try.prog 63 fn63 := fnOk_mk Try.func63 (by kernel_rfl) (by kernel_rfl) rfl (by kernel_rfl) (by kernel_rfl)
theorem fnOk64 : FnOk Try.prog 64 fn64 := fnOk_mk Try.func64 (by kernel_rfl) (by kernel_rfl) rfl (by kernel_rfl) (by kernel_rfl)
theorem fnOk65 : FnOk Try.prog 65 fn65 := fnOk_mk Try.func65 (by kernel_rfl) (by kernel_rfl) rfl (by kernel_rfl) (by kernel_rfl)
theorem fnOk66 : FnOk Try.prog 66 fn66 := fnOk_mk Try.func66 (by kernel_rfl) (by kernel_rfl) rfl (by kernel_rfl) (by kernel_rfl)
theorem fnOk67 : FnOk Try.prog 67 fn67 := fnOk_mk Try.func67 (by kernel_rfl) (by kernel_rfl) rfl (by kernel_rfl) (by kernel_rfl)
theorem fnOk68 : FnOk Try.prog 68 fn68 := fnOk_mk Try.func68 (by kernel_rfl) (by kernel_rfl) rfl (by kernel_rfl) (by kernel_rfl)
theorem fnOk69 : FnOk Try.prog 69 fn69 := fnOk_mk Try.func69 (by kernel_rfl) (by kernel_rfl) rfl (by kernel_rfl) (by kernel_rfl)
theorem fnOk70 : FnOk Try.prog 70 fn70 := fnOk_mk Try.func70 (by kernel_rfl) (by kernel_rfl) rfl (by kernel_rfl) (by kernel_rfl)
theorem fnOk71 : FnOk Try.prog 71 fn71 := fnOk_mk Try.func71 (by kernel_rfl) (by kernel_rfl) rfl (by kernel_rfl) (by kernel_rfl)
theorem fnOk72 : FnOk Try.prog 72 fn72 := fnOk_mk Try.func72 (by kernel_rfl) (by kernel_rfl) rfl (by kernel_rfl) (by kernel_rfl)
theorem fnOk73 : FnOk Try.prog 73 fn73 := fnOk_mk Try.func73 (by kernel_rfl) (by kernel_rfl) rfl (by kernel_rfl) (by kernel_rfl)
theorem fnOk74 : FnOk Try.prog 74 fn74 := fnOk_mk Try.func74 (by kernel_rfl) (by kernel_rfl) rfl (by kernel_rfl) (by kernel_rfl)
theorem fnOk75 : FnOk Try.prog 75 fn75 := fnOk_mk Try.func75 (by kernel_rfl) (by kernel_rfl) rfl (by kernel_rfl) (by kernel_rfl)
theorem fnOk76 : FnOk Try.prog 76 fn76 := fnOk_mk Try.func76 (by kernel_rfl) (by kernel_rfl) rfl (by kernel_rfl) (by kernel_rfl)
theorem fns_ok : ∀ g f, tab.fn g = some f → FnOk Try.prog g f := by
  intro g f h
  simp only [tab] at h
  split at h
  · cases h; exact fnOk3
  · cases h; exact fnOk4
  · cases h; exact fnOk5
  · cases h; exact fnOk6
  · cases h; exact fnOk7
  · cases h; exact fnOk8
  · cases h; exact fnOk9
  · cases h; exact fnOk10
  · cases h; exact fnOk11
  · cases h; exact fnOk12
  · cases h; exact fnOk13
  · cases h; exact fnOk14
  · cases h; exact fnOk15
  · cases h; exact fnOk16
  · cases h; exact fnOk17
  · cases h; exact fnOk18
  · cases h; exact fnOk19
  · cases h; exact fnOk20
  · cases h; exact fnOk21
  · cases h; exact fnOk22
  · cases h; exact fnOk23
  · cases h; exact fnOk24
  · cases h; exact fnOk25
  · cases h; exact fnOk26
  · cases h; exact fnOk27
  · cases h; exact fnOk28
  · cases h; exact fnOk29
  · cases h; exact fnOk30
  · cases h; exact fnOk31
  · cases h; exact fnOk32
  · cases h; exact fnOk33
  · cases h; exact fnOk34
  · cases h; exact fnOk35
  · cases h; exact fnOk36
  · cases h; exact fnOk37
  · cases h; exact fnOk38
  · cases h; exact fnOk39
  · cases h; exact fnOk40
  · cases h; exact fnOk41
  · cases h; exact fnOk42
  · cases h; exact fnOk43
  · cases h; exact fnOk44
  · cases h; exact fnOk45
  · cases h; exact fnOk46
  · cases h; exact fnOk47
  · cases h; exact fnOk48
  · cases h; exact fnOk49
  · cases h; exact fnOk50
  · cases h; exact fnOk51
  · cases h; exact fnOk52
  · cases h; exact fnOk53
  · cases h; exact fnOk54
  · cases h; exact fnOk55
  · cases h; exact fnOk56
  · cases h; exact fnOk57
  · cases h; exact fnOk58
  · cases h; exact fnOk59
  · cases h; exact fnOk60
  · cases h; exact fnOk61
  · cases h; exact fnOk62
  · cases h; exact fnOk63
  · cases h; exact fnOk64
  · cases h; exact fnOk65
  · cases h; exact fnOk66
  · cases h; exact fnOk67
  · cases h; exact fnOk68
  · cases h; exact fnOk69
  · cases h; exact fnOk70
  · cases h; exact fnOk71
  · cases h; exact fnOk72
  · cases h; exact fnOk73
  · cases h; exact fnOk74
  · cases h; exact fnOk75
  · cases h; exact fnOk76
  · cases h
theorem ext_ok : ∀ g x, ext g = some x → Sound Try.prog tab g x := by
  intro g x h
  simp only [ext] at h
  split at h
  · cases h; exact nil_sound (Checked.mixed Try.checked) tab_ok fns_ok (f := fn76) rfl rfl _ (by kernel_rfl) (fun x => by kernel_rfl)
  · cases h
end Go.Proofs.Ytmcppbdepkhlaaa.Eng
