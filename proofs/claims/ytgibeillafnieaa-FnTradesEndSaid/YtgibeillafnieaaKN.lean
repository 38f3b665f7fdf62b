import Derived.Test.YtgibeillafnieaaS26
import Derived.Test.YtgibeillafnieaaS28
import Derived.Test.YtgibeillafnieaaChecked
import Derived.Test.YtgibeillafnieaaTN
namespace Go.Proofs.Ytgibeillafnieaa.Eng
open Go
set_option maxRecDepth 20000
theorem tab_ok : TabOk Try.prog tab := by
  refine ⟨fun tid t h => ?_, fun tid t h => ?_, fun tid h => ?_⟩
  · simp only [tab, tyOf] at h
    split at h <;> first | (cases h; exact tyFacts_mk (by kernel_rfl) (by kernel_rfl) (by decide)) | cases h
  · simp only [tab] at h
    split at h <;> first | (cases h; exact mpFacts_mk (by kernel_rfl) (by decide)) | cases h
  · cases h
theorem fnOk4 : FnOk Try.prog 4 fn4 := fnOk_mk Try.func4 (by kernel_rfl) (by kernel_rfl) rfl (by kernel_rfl) (by kernel_rfl)
theorem fnOk6 : FnOk Try.prog 6 fn6 := fnOk_mk Try.func6 (by kernel_rfl) (by kernel_rfl) rfl (by kernel_rfl) (by kernel_rfl)
theorem fnOk8 : FnOk Try.prog 8 fn8 := fnOk_mk Try.func8 (by kernel_rfl) (by kernel_rfl) rfl (by kernel_rfl) (by kernel_rfl)
theorem fnOk9 : FnOk Try.prog 9 fn9 := fnOk_mk Try.func9 (by kernel_rfl) (by kernel_rfl) rfl (by kernel_rfl) (by kernel_rfl)
theorem fnOk10 : FnOk Try.prog 10 fn10 := fnOk_mk Try.func10 (by kernel_rfl) (by kernel_rfl) rfl (by kernel_rfl) (by kernel_rfl)
theorem fnOk15 : FnOk Try.prog 15 fn15 := fnOk_mk Try.func15 (by kernel_rfl) (by kernel_rfl) rfl (by kernel_rfl) (by kernel_rfl)
theorem fnOk18 : FnOk Try.prog 18 fn18 := fnOk_mk Try.func18 (by kernel_rfl) (by kernel_rfl) rfl (by kernel_rfl) (by kernel_rfl)
theorem fnOk26 : FnOk Try.prog 26 fn26 := fnOk_mk Try.func26 (by kernel_rfl) (by kernel_rfl) rfl (by kernel_rfl) (by kernel_rfl)
theorem fnOk27 : FnOk Try.prog 27 fn27 := fnOk_mk Try.func27 (by kernel_rfl) (by kernel_rfl) rfl (by kernel_rfl) (by kernel_rfl)
theorem fnOk28 : FnOk Try.prog 28 fn28 := fnOk_mk Try.func28 (by kernel_rfl) (by kernel_rfl) rfl (by kernel_rfl) (by kernel_rfl)
theorem fnOk29 : FnOk Try.prog 29 fn29 := fnOk_mk Try.func29 (by kernel_rfl) (by kernel_rfl) rfl (by kernel_rfl) (by kernel_rfl)
theorem fnOk30 : FnOk Try.prog 30 fn30 := fnOk_mk Try.func30 (by kernel_rfl) (by kernel_rfl) rfl (by kernel_rfl) (by kernel_rfl)
theorem fnOk31 : FnOk Try.prog 31 fn31 := fnOk_mk Try.func31 (by kernel_rfl) (by kernel_rfl) rfl (by kernel_rfl) (by kernel_rfl)
theorem fnOk32 : FnOk Try.prog 32 fn32 := fnOk_mk Try.func32 (by kernel_rfl) (by kernel_rfl) rfl (by kernel_rfl) (by kernel_rfl)
theorem fnOk33 : FnOk Try.prog 33 fn33 := fnOk_mk Try.func33 (by kernel_rfl) (by kernel_rfl) rfl (by kernel_rfl) (by kernel_rfl)
theorem fnOk34 : FnOk Try.prog 34 fn34 := fnOk_mk Try.func34 (by kernel_rfl) (by kernel_rfl) rfl (by kernel_rfl) (by kernel_rfl)
theorem fnOk35 : FnOk Try.prog 35 fn35 := fnOk_mk Try.func35 (by kernel_rfl) (by kernel_rfl) rfl (by kernel_rfl) (by kernel_rfl)
theorem fnOk36 : FnOk Try.prog 36 fn36 := fnOk_mk Try.func36 (by kernel_rfl) (by kernel_rfl) rfl (by kernel_rfl) (by kernel_rfl)
theorem fnOk37 : FnOk Try.prog 37 fn37 := fnOk_mk Try.func37 (by kernel_rfl) (by kernel_rfl) rfl (by kernel_rfl) (by kernel_rfl)
theorem fnOk38 : FnOk Try.prog 38 fn38 := fnOk_mk Try.func38 (by kernel_rfl) (by kernel_rfl) rfl (by kernel_rfl) (by kernel_rfl)
theorem fnOk39 : FnOk Try.prog 39 fn39 := fnOk_mk Try.func39 (by kernel_rfl) (by kernel_rfl) rfl (by kernel_rfl) (by kernel_rfl)
theorem fnOk40 : FnOk Try.prog 40 fn40 := fnOk_mk Try.func40 (by kernel_rfl) (by kernel_rfl) rfl (by kernel_rfl) (by kernel_rfl)
theorem fnOk41 : FnOk Try.prog 41 fn41 := fnOk_mk Try.func41 (by kernel_rfl) (by kernel_rfl) rfl (by kernel_rfl) (by kernel_rfl)
theorem fnOk42 : FnOk Try.prog 42 fn42 := fnOk_mk Try.func42 (by kernel_rfl) (by kernel_rfl) rfl (by kernel_rfl) (by kernel_rfl)
theorem fnOk43 : FnOk Try.prog 43 fn43 := fnOk_mk Try.func43 (by kernel_rfl) (by kernel_rfl) rfl (by kernel_rfl) (by kernel_rfl)
theorem fnOk44 : FnOk Try.prog 44 fn44 := fnOk_mk Try.func44 (by kernel_rfl) (by kernel_rfl) rfl (by kernel_rfl) (by kernel_rfl)
theorem fnOk45 : FnOk Try.prog 45 fn45 := fnOk_mk Try.func45 (by kernel_rfl) (by kernel_rfl) rfl (by kernel_rfl) (by kernel_rfl)
theorem fnOk46 : FnOk Try.prog 46 fn46 := fnOk_mk Try.func46 (by kernel_rfl) (by kernel_rfl) rfl (by kernel_rfl) (by kernel_rfl)
theorem fnOk47 : FnOk Try.prog 47 fn47 := fnOk_mk Try.func47 (by kernel_rfl) (by kernel_rfl) rfl (by kernel_rfl) (by kernel_rfl)
theorem fnOk48 : FnOk Try.prog 48 fn48 := fnOk_mk Try.func48 (by kernel_rfl) (by kernel_rfl) rfl (by kernel_rfl) (by kernel_rfl)
theorem fnOk50 : FnOk Try.prog 50 fn50 := fnOk_mk Try.func50 (by kernel_rfl) (by kernel_rfl) rfl (by kernel_rfl) (by kernel_rfl)
theorem fnOk56 : FnOk Try.prog 56 fn56 := fnOk_mk Try.func56 (by kernel_rfl) (by kernel_rfl) rfl (by kernel_rfl) (by kernel_rfl)
theorem fnOk57 : FnOk Try.prog 57 fn57 := fnOk_mk Try.func57 (by kernel_rfl) (by kernel_rfl) rfl (by kernel_rfl) (by kernel_rfl)
theorem fnOk58 : FnOk Try.prog 58 fn58 := fnOk_mk Try.func58 (by kernel_rfl) (by kernel_rfl) rfl (by kernel_rfl) (by kernel_rfl)
theorem fnOk59 : FnOk Try.prog 59 fn59 := fnOk_mk Try.func59 (by kernel_rfl) (by kernel_rfl) rfl (by kernel_rfl) (by kernel_rfl)
theorem fnOk61 : FnOk Try.prog 61 fn61 := fnOk_mk Try.func61 (by kernel_rfl) (by kernel_rfl) rfl (by kernel_rfl) (by kernel_rfl)
theorem fnOk62 : FnOk Try.prog 62 fn62 := fnOk_mk Try.func62 (by kernel_rfl) (by kernel_rfl) rfl (by kernel_rfl) (by kernel_rfl)
theorem fnOk63 : FnOk Try.prog 63 fn63 := fnOk_mk Try.func63 (by kernel_rfl) (by kernel_rfl) rfl (by kernel_rfl) (by kernel_rfl)
theorem fnOk65 : FnOk Try.prog 65 fn65 := fnOk_mk Try.func65 (by kernel_rfl) (by kernel_rfl) rfl (by kernel_rfl) (by kernel_rfl)
theorem fnOk66 : FnOk Try.prog 66 fn66 := fnOk_mk Try.func66 (by kernel_rfl) (by kernel_rfl) rfl (by kernel_rfl) (by kernel_rfl)
theorem fnOk67 : FnOk Try.prog 67 fn67 := fnOk_mk Try.func67 (by kernel_rfl) (by kernel_rfl) rfl (by kernel_rfl) (by kernel_rfl)
theorem fnOk68 : FnOk Try.prog 68 fn68 := fnOk_mk Try.func68 (by kernel_rfl) (by kernel_rfl) rfl (by kernel_rfl) (by kernel_rfl)
theorem fnOk69 : FnOk Try.prog 69 fn69 := fnOk_mk Try.func69 (by kernel_rfl) (by kernel_rfl) rfl (by kernel_rfl) (by kernel_rfl)
theorem fnOk70 : FnOk Try.prog 70 fn70 := fnOk_mk Try.func70 (by kernel_rfl) (by kernel_rfl) rfl (by kernel_rfl) (by kernel_rfl)
theorem fnOk71 : FnOk Try.prog 71 fn71 := fnOk_mk Try.func71 (by kernel_rfl) (by kernel_rfl) rfl (by kernel_rfl) (by kernel_rfl)
theorem fnOk72 : FnOk Try.prog 72 fn72 := fnOk_mk Try.func72 (by kernel_rfl) (by kernel_rfl) rfl (by kernel_rfl) (by kernel_rfl)
theorem fnOk73 : FnOk Try.prog 73 fn73 := fnOk_mk Try.func73 (by kernel_rfl) (by kernel_rfl) rfl (by kernel_rfl) (by kernel_rfl)
theorem fnOk74 : FnOk Try.prog 74 fn74 := fnOk_mk Try.func74 (by kernel_rfl) (by kernel_rfl) rfl (by kernel_rfl) (by kernel_rfl)
theorem fnOk75 : FnOk Try.prog 75 fn75 := fnOk_mk Try.func75 (by kernel_rfl) (by kernel_rfl) rfl (by kernel_rfl) (by kernel_rfl)
theorem fnOk76 : FnOk Try.prog 76 fn76 := fnOk_mk Try.func76 (by kernel_rfl) (by kernel_rfl) rfl (by kernel_rfl) (by kernel_rfl)
theorem fnOk77 : FnOk Try.prog 77 fn77 := fnOk_mk Try.func77 (by kernel_rfl) (by kernel_rfl) rfl (by kernel_rfl) (by kernel_rfl)
theorem fnOk78 : FnOk Try.prog 78 fn78 := fnOk_mk Try.func78 (by kernel_rfl) (by kernel_rfl) rfl (by kernel_rfl) (by kernel_rfl)
theorem fnOk79 : FnOk Try.prog 79 fn79 := fnOk_mk Try.func79 (by kernel_rfl) (by kernel_rfl) rfl (by kernel_rfl) (by kernel_rfl)
theorem fnOk80 : FnOk Try.prog 80 fn80 := fnOk_mk Try.func80 (by kernel_rfl) (by kernel_rfl) rfl (by kernel_rfl) (by kernel_rfl)
theorem fnOk81 : FnOk Try.prog 81 fn81 := fnOk_mk Try.func81 (by kernel_rfl) (by kernel_rfl) rfl (by kernel_rfl) (by kernel_rfl)
theorem fnOk83 : FnOk Try.prog 83 fn83 := fnOk_mk Try.func83 (by kernel_rfl) (by kernel_rfl) rfl (by kernel_rfl) (by kernel_rfl)
theorem fnOk84 : FnOk Try.prog 84 fn84 := fnOk_mk Try.func84 (by kernel_rfl) (by kernel_rfl) rfl (by kernel_rfl) (by kernel_rfl)
theorem fnOk85 : FnOk Try.prog 85 fn85 := fnOk_mk Try.func85 (by kernel_rfl) (by kernel_rfl) rfl (by kernel_rfl) (by kernel_rfl)
theorem fnOk86 : FnOk Try.prog 86 fn86 := fnOk_mk Try.func86 (by kernel_rfl) (by kernel_rfl) rfl (by kernel_rfl) (by kernel_rfl)
theorem fnOk87 : FnOk Try.prog 87 fn87 := fnOk_mk Try.func87 (by kernel_rfl) (by kernel_rfl) rfl (by kernel_rfl) (by kernel_rfl)
theorem fnOk88 : FnOk Try.prog 88 fn88 := fnOk_mk Try.func88 (by kernel_rfl) (by kernel_rfl) rfl (by kernel_rfl) (by kernel_rfl)
theorem fnOk89 : FnOk Try.prog 89 fn89 := fnOk_mk Try.func89 (by kernel_rfl) (by kernel_rfl) rfl (by kernel_rfl) (by kernel_rfl)
theorem fnOk90 : FnOk Try.prog 90 fn90 := fnOk_mk Try.func90 (by kernel_rfl) (by kernel_rfl) rfl (by kernel_rfl) (by kernel_rfl)
theorem fnOk91 : FnOk Try.prog 91 fn91 := fnOk_mk Try.func91 (by kernel_rfl) (by kernel_rfl) rfl (by kernel_rfl) (by kernel_rfl)
theorem fnOk92 : FnOk Try.prog 92 fn92 := fnOk_mk Try.func92 (by kernel_rfl) (by kernel_rfl) rfl (by kernel_rfl) (by kernel_rfl)
theorem fnOk93 : FnOk Try.prog 93 fn93 := fnOk_mk Try.func93 (by kernel_rfl) (by kernel_rfl) rfl (by kernel_rfl) (by kernel_rfl)
theorem fnOk94 : FnOk Try.prog 94 fn94 := fnOk_mk Try.func94 (by kernel_rfl) (by kernel_rfl) rfl (by kernel_rfl) (by kernel_rfl)
theorem fnOk95 : FnOk Try.prog 95 fn95 := fnOk_mk Try.func95 (by kernel_rfl) (by kernel_rfl) rfl (by kernel_rfl) (by kernel_rfl)
theorem fnOk96 : FnOk Try.prog 96 fn96 := fnOk_mk Try.func96 (by kernel_rfl) (by kernel_rfl) rfl (by kernel_rfl) (by kernel_rfl)
theorem fnOk97 : FnOk Try.prog 97 fn97 := fnOk_mk Try.func97 (by kernel_rfl) (by kernel_rfl) rfl (by kernel_rfl) (by kernel_rfl)
theorem fnOk98 : FnOk Try.prog 98 fn98 := fnOk_mk Try.func98 (by kernel_rfl) (by kernel_rfl) rfl (by kernel_rfl) (by kernel_rfl)
theorem fnOk99 : FnOk Try.prog 99 fn99 := fnOk_mk Try.func99 (by kernel_rfl) (by kernel_rfl) rfl (by kernel_rfl) (by kernel_rfl)
theorem fnOk100 : FnOk Try.prog 100 fn100 := fnOk_mk Try.func100 (by kernel_rfl) (by kernel_rfl) rfl (by kernel_rfl) (by kernel_rfl)
theorem fnOk101 : FnOk Try.prog 101 fn101 := fnOk_mk Try.func101 (by kernel_rfl) (by kernel_rfl) rfl (by kernel_rfl) (by kernel_rfl)
theorem fnOk102 : FnOk Try.prog 102 fn102 := fnOk_mk Try.func102 (by kernel_rfl) (by kernel_rfl) rfl (by kernel_rfl) (by kernel_rfl)
theorem fnOk103 : FnOk Try.prog 103 fn103 := fnOk_mk Try.func103 (by kernel_rfl) (by kernel_rfl) rfl (by kernel_rfl) (by kernel_rfl)
theorem fnOk104 : FnOk Try.prog 104 fn104 := fnOk_mk Try.func104 (by kernel_rfl) (by kernel_rfl) rfl (by kernel_rfl) (by kernel_rfl)
theorem fnOk105 : FnOk Try.prog 105 fn105 := fnOk_mk Try.func105 (by kernel_rfl) (by kernel_rfl) rfl (by kernel_rfl) (by kernel_rfl)
theorem fnOk106 : FnOk Try.prog 106 fn106 := fnOk_mk Try.func106 (by kernel_rfl) (by kernel_rfl) rfl (by kernel_rfl) (by kernel_rfl)
theorem fnOk107 : FnOk Try.prog 107 fn107 := fnOk_mk Try.func107 (by kernel_rfl) (by kernel_rfl) rfl (by kernel_rfl) (by kernel_rfl)
theorem fnOk108 : FnOk Try.prog 108 fn108 := fnOk_mk Try.func108 (by kernel_rfl) (by kernel_rfl) rfl (by kernel_rfl) (by kernel_rfl)
theorem fnOk109 : FnOk Try.prog 109 fn109 := fnOk_mk Try.func109 (by kernel_rfl) (by kernel_rfl) rfl (by kernel_rfl) (by kernel_rfl)
theorem fns_ok : ∀ g f, tab.fn g = some f → FnOk Try.prog g f := by
  intro g f h
  simp only [tab] at h
  split at h
  · cases h; exact fnOk4
  · cases h; exact fnOk6
  · cases h; exact fnOk8
  · cases h; exact fnOk9
  · cases h; exact fnOk10
  · cases h; exact fnOk15
  · cases h; exact fnOk18
  · cases h; exact fnOk26
  · cases h; exact fnOk27
  · cases h; exact fnOk28
  · cases h; exact fnOk29
  · cases h; exact fnOk30
  · cases h; exact fnOk31
  · cases h; exact fnOk32
  · cases h; exact fnOk33
  · cases h; exact fnOk34
  · cases h; exact fnOk35
  · cases h; exact fnOk36
  · cases h; exact fnOk37
  · cases h; exact fnOk38
  · cases h; exact fnOk39
  · cases h; exact fnOk40
  · cases h; exact fnOk41
  · cases h; exact fnOk42
  · cases h; exact fnOk43
  · cases h; exact fnOk44
  · cases h; exact fnOk45
  · cases h; exact fnOk46
  · cases h; exact fnOk47
  · cases h; exact fnOk48
  · cases h; exact fnOk50
  · cases h; exact fnOk56
  · cases h; exact fnOk57
  · cases h; exact fnOk58
  · cases h; exact fnOk59
  · cases h; exact fnOk61
  · cases h; exact fnOk62
  · cases h; exact fnOk63
  · cases h; exact fnOk65
  · cases h; exact fnOk66
  · cases h; exact fnOk67
  · cases h; exact fnOk68
  · cases h; exact fnOk69
  · cases h; exact fnOk70
  · cases h; exact fnOk71
  · cases h; exact fnOk72
  · cases h; exact fnOk73
  · cases h; exact fnOk74
  · cases h; exact fnOk75
  · cases h; exact fnOk76
  · cases h; exact fnOk77
  · cases h; exact fnOk78
  · cases h; exact fnOk79
  · cases h; exact fnOk80
  · cases h; exact fnOk81
  · cases h; exact fnOk83
  · cases h; exact fnOk84
  · cases h; exact fnOk85
  · cases h; exact fnOk86
  · cases h; exact fnOk87
  · cases h; exact fnOk88
  · cases h; exact fnOk89
  · cases h; exact fnOk90
  · cases h; exact fnOk91
  · cases h; exact fnOk92
  · cases h; exact fnOk93
  · cases h; exact fnOk94
  · cases h; exact fnOk95
  · cases h; exact fnOk96
  · cases h; exact fnOk97
  · cases h; exact fnOk98
  · cases h; exact fnOk99
  · cases h; exact fnOk100
  · cases h; exact fnOk101
  · cases h; exact fnOk102
  · cases h; exact fnOk103
  · cases h; exact fnOk104
  · cases h; exact fnOk105
  · cases h; exact fnOk106
  · cases h; exact fnOk107
  · cases h; exact fnOk108
  · cases h; exact fnOk109
  · cases h
theorem ext_ok : ∀ g x, ext g = some x → Sound Try.prog tab g x := by
  intro g x h
  simp only [ext] at h
  split at h
  · cases h; exact nil_sound (Checked.mixed Try.checked) tab_ok fns_ok (f := fn62) rfl rfl rfl _ (by kernel_rfl) (fun x => by kernel_rfl)
  · cases h
end Go.Proofs.Ytgibeillafnieaa.Eng
