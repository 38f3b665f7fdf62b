import Derived.Test.YtkgpkalclblhbaaGreatDoorS26
import Derived.Test.YtkgpkalclblhbaaGreatDoorS28
import Derived.Test.YtkgpkalclblhbaaGreatDoorChecked
import Derived.Test.YtkgpkalclblhbaaGreatDoorTE
import Derived.Test.YtkgpkalclblhbaaGreatDoorLE
namespace Go.Proofs.YtkgpkalclblhbaaGreatDoor.Eng
open Go
set_option maxRecDepth 20000
theorem tab_ok : TabOk Tryz.prog tab := by
  refine ⟨fun tid t h => ?_, fun tid t h => ?_, fun tid h => ?_⟩
  · simp only [tab, tyOf] at h
    split at h <;> first | (cases h; exact tyFacts_mk (by kernel_rfl) (by kernel_rfl) (by decide)) | cases h
  · cases h
  · cases h
theorem fnOk5 : FnOk Tryz.prog 5 fn5 := fnOk_mk Tryz.func5 (by kernel_rfl) (by kernel_rfl) rfl (by kernel_rfl) (by kernel_rfl)
theorem fnOk9 : FnOk Tryz.prog 9 fn9 := fnOk_mk Tryz.func9 (by kernel_rfl) (by kernel_rfl) rfl (by kernel_rfl) (by kernel_rfl)
theorem fnOk10 : FnOk Tryz.prog 10 fn10 := fnOk_mk Tryz.func10 (by kernel_rfl) (by kernel_rfl) rfl (by kernel_rfl) (by kernel_rfl)
theorem fnOk12 : FnOk Tryz.prog 12 fn12 := fnOk_mk Tryz.func12 (by kernel_rfl) (by kernel_rfl) rfl (by kernel_rfl) (by kernel_rfl)
theorem fnOk16 : FnOk Tryz.prog 16 fn16 := fnOk_mk Tryz.func16 (by kernel_rfl) (by kernel_rfl) rfl (by kernel_rfl) (by kernel_rfl)
theorem fnOk18 : FnOk Tryz.prog 18 fn18 := fnOk_mk Tryz.func18 (by kernel_rfl) (by kernel_rfl) rfl (by kernel_rfl) (by kernel_rfl)
theorem fnOk19 : FnOk Tryz.prog 19 fn19 := fnOk_mk Tryz.func19 (by kernel_rfl) (by kernel_rfl) rfl (by kernel_rfl) (by kernel_rfl)
theorem fnOk20 : FnOk Tryz.prog 20 fn20 := fnOk_mk Tryz.func20 (by kernel_rfl) (by kernel_rfl) rfl (by kernel_rfl) (by kernel_rfl)
theorem fnOk21 : FnOk Tryz.prog 21 fn21 := fnOk_mk Tryz.func21 (by kernel_rfl) (by kernel_rfl) rfl (by kernel_rfl) (by kernel_rfl)
theorem fnOk22 : FnOk Tryz.prog 22 fn22 := fnOk_mk Tryz.func22 (by kernel_rfl) (by kernel_rfl) rfl (by kernel_rfl) (by kernel_rfl)
theorem fnOk23 : FnOk Tryz.prog 23 fn23 := fnOk_mk Tryz.func23 (by kernel_rfl) (by kernel_rfl) rfl (by kernel_rfl) (by kernel_rfl)
theorem fnOk24 : FnOk Tryz.prog 24 fn24 := fnOk_mk Tryz.func24 (by kernel_rfl) (by kernel_rfl) rfl (by kernel_rfl) (by kernel_rfl)
theorem fnOk25 : FnOk Tryz.prog 25 fn25 := fnOk_mk Tryz.func25 (by kernel_rfl) (by kernel_rfl) rfl (by kernel_rfl) (by kernel_rfl)
theorem fnOk26 : FnOk Tryz.prog 26 fn26 := fnOk_mk Tryz.func26 (by kernel_rfl) (by kernel_rfl) rfl (by kernel_rfl) (by kernel_rfl)
theorem fnOk27 : FnOk Tryz.prog 27 fn27 := fnOk_mk Tryz.func27 (by kernel_rfl) (by kernel_rfl) rfl (by kernel_rfl) (by kernel_rfl)
theorem fnOk28 : FnOk Tryz.prog 28 fn28 := fnOk_mk Tryz.func28 (by kernel_rfl) (by kernel_rfl) rfl (by kernel_rfl) (by kernel_rfl)
theorem fnOk29 : FnOk Tryz.prog 29 fn29 := fnOk_mk Tryz.func29 (by kernel_rfl) (by kernel_rfl) rfl (by kernel_rfl) (by kernel_rfl)
theorem fnOk39 : FnOk Tryz.prog 39 fn39 := fnOk_mk Tryz.func39 (by kernel_rfl) (by kernel_rfl) rfl (by kernel_rfl) (by kernel_rfl)
theorem fnOk45 : FnOk Tryz.prog 45 fn45 := fnOk_mk Tryz.func45 (by kernel_rfl) (by kernel_rfl) rfl (by kernel_rfl) (by kernel_rfl)
theorem fnOk46 : FnOk Tryz.prog 46 fn46 := fnOk_mk Tryz.func46 (by kernel_rfl) (by kernel_rfl) rfl (by kernel_rfl) (by kernel_rfl)
theorem fnOk47 : FnOk Tryz.prog 47 fn47 := fnOk_mk Tryz.func47 (by kernel_rfl) (by kernel_rfl) rfl (by kernel_rfl) (by kernel_rfl)
theorem fnOk48 : FnOk Tryz.prog 48 fn48 := fnOk_mk Tryz.func48 (by kernel_rfl) (by kernel_rfl) rfl (by kernel_rfl) (by kernel_rfl)
theorem fnOk49 : FnOk Tryz.prog 49 fn49 := fnOk_mk Tryz.func49 (by kernel_rfl) (by kernel_rfl) rfl (by kernel_rfl) (by kernel_rfl)
theorem fnOk50 : FnOk Tryz.prog 50 fn50 := fnOk_mk Tryz.func50 (by kernel_rfl) (by kernel_rfl) rfl (by kernel_rfl) (by kernel_rfl)
theorem fnOk51 : FnOk Tryz.prog 51 fn51 := fnOk_mk Tryz.func51 (by kernel_rfl) (by kernel_rfl) rfl (by kernel_rfl) (by kernel_rfl)
theorem fnOk52 : FnOk Tryz.prog 52 fn52 := fnOk_mk Tryz.func52 (by kernel_rfl) (by kernel_rfl) rfl (by kernel_rfl) (by kernel_rfl)
theorem fnOk53 : FnOk Tryz.prog 53 fn53 := fnOk_mk Tryz.func53 (by kernel_rfl) (by kernel_rfl) rfl (by kernel_rfl) (by kernel_rfl)
theorem fnOk54 : FnOk Tryz.prog 54 fn54 := fnOk_mk Tryz.func54 (by kernel_rfl) (by kernel_rfl) rfl (by kernel_rfl) (by kernel_rfl)
theorem fnOk55 : FnOk Tryz.prog 55 fn55 := fnOk_mk Tryz.func55 (by kernel_rfl) (by kernel_rfl) rfl (by kernel_rfl) (by kernel_rfl)
theorem fnOk56 : FnOk Tryz.prog 56 fn56 := fnOk_mk Tryz.func56 (by kernel_rfl) (by kernel_rfl) rfl (by kernel_rfl) (by kernel_rfl)
theorem fnOk57 : FnOk Tryz.prog 57 fn57 := fnOk_mk Tryz.func57 (by kernel_rfl) (by kernel_rfl) rfl (by kernel_rfl) (by kernel_rfl)
theorem fnOk58 : FnOk Tryz.prog 58 fn58 := fnOk_mk Tryz.func58 (by kernel_rfl) (by kernel_rfl) rfl (by kernel_rfl) (by kernel_rfl)
theorem fnOk59 : FnOk Tryz.prog 59 fn59 := fnOk_mk Tryz.func59 (by kernel_rfl) (by kernel_rfl) rfl (by kernel_rfl) (by kernel_rfl)
theorem fnOk62 : FnOk Tryz.prog 62 fn62 := fnOk_mk Tryz.func62 (by kernel_rfl) (by kernel_rfl) rfl (by kernel_rfl) (by kernel_rfl)
theorem fnOk63 : FnOk Tryz.prog 63 fn63 := fnOk_mk Tryz.func63 (by kernel_rfl) (by kernel_rfl) rfl (by kernel_rfl) (by kernel_rfl)
theorem fnOk64 : FnOk Tryz.prog 64 fn64 := fnOk_mk Tryz.func64 (by kernel_rfl) (by kernel_rfl) rfl (by kernel_rfl) (by kernel_rfl)
theorem fnOk65 : FnOk Tryz.prog 65 fn65 := fnOk_mk Tryz.func65 (by kernel_rfl) (by kernel_rfl) rfl (by kernel_rfl) (by kernel_rfl)
theorem fnOk66 : FnOk Tryz.prog 66 fn66 := fnOk_mk Tryz.func66 (by kernel_rfl) (by kernel_rfl) rfl (by kernel_rfl) (by kernel_rfl)
theorem fnOk67 : FnOk Tryz.prog 67 fn67 := fnOk_mk Tryz.func67 (by kernel_rfl) (by kernel_rfl) rfl (by kernel_rfl) (by kernel_rfl)
theorem fnOk68 : FnOk Tryz.prog 68 fn68 := fnOk_mk Tryz.func68 (by kernel_rfl) (by kernel_rfl) rfl (by kernel_rfl) (by kernel_rfl)
theorem fnOk69 : FnOk Tryz.prog 69 fn69 := fnOk_mk Tryz.func69 (by kernel_rfl) (by kernel_rfl) rfl (by kernel_rfl) (by kernel_rfl)
theorem fnOk70 : FnOk Tryz.prog 70 fn70 := fnOk_mk Tryz.func70 (by kernel_rfl) (by kernel_rfl) rfl (by kernel_rfl) (by kernel_rfl)
theorem fnOk73 : FnOk Tryz.prog 73 fn73 := fnOk_mk Tryz.func73 (by kernel_rfl) (by kernel_rfl) rfl (by kernel_rfl) (by kernel_rfl)
theorem fnOk74 : FnOk Tryz.prog 74 fn74 := fnOk_mk Tryz.func74 (by kernel_rfl) (by kernel_rfl) rfl (by kernel_rfl) (by kernel_rfl)
theorem fnOk75 : FnOk Tryz.prog 75 fn75 := fnOk_mk Tryz.func75 (by kernel_rfl) (by kernel_rfl) rfl (by kernel_rfl) (by kernel_rfl)
theorem fnOk76 : FnOk Tryz.prog 76 fn76 := fnOk_mk Tryz.func76 (by kernel_rfl) (by kernel_rfl) rfl (by kernel_rfl) (by kernel_rfl)
theorem fnOk80 : FnOk Tryz.prog 80 fn80 := fnOk_mk Tryz.func80 (by kernel_rfl) (by kernel_rfl) rfl (by kernel_rfl) (by kernel_rfl)
theorem fnOk82 : FnOk Tryz.prog 82 fn82 := fnOk_mk Tryz.func82 (by kernel_rfl) (by kernel_rfl) rfl (by kernel_rfl) (by kernel_rfl)
theorem fnOk84 : FnOk Tryz.prog 84 fn84 := fnOk_mk Tryz.func84 (by kernel_rfl) (by kernel_rfl) rfl (by kernel_rfl) (by kernel_rfl)
theorem fnOk86 : FnOk Tryz.prog 86 fn86 := fnOk_mk Tryz.func86 (by kernel_rfl) (by kernel_rfl) rfl (by kernel_rfl) (by kernel_rfl)
theorem fnOk87 : FnOk Tryz.prog 87 fn87 := fnOk_mk Tryz.func87 (by kernel_rfl) (by kernel_rfl) rfl (by kernel_rfl) (by kernel_rfl)
theorem fnOk88 : FnOk Tryz.prog 88 fn88 := fnOk_mk Tryz.func88 (by kernel_rfl) (by kernel_rfl) rfl (by kernel_rfl) (by kernel_rfl)
theorem fnOk89 : FnOk Tryz.prog 89 fn89 := fnOk_mk Tryz.func89 (by kernel_rfl) (by kernel_rfl) rfl (by kernel_rfl) (by kernel_rfl)
theorem fnOk90 : FnOk Tryz.prog 90 fn90 := fnOk_mk Tryz.func90 (by kernel_rfl) (by kernel_rfl) rfl (by kernel_rfl) (by kernel_rfl)
theorem fnOk91 : FnOk Tryz.prog 91 fn91 := fnOk_mk Tryz.func91 (by kernel_rfl) (by kernel_rfl) rfl (by kernel_rfl) (by kernel_rfl)
theorem fnOk92 : FnOk Tryz.prog 92 fn92 := fnOk_mk Tryz.func92 (by kernel_rfl) (by kernel_rfl) rfl (by kernel_rfl) (by kernel_rfl)
theorem fnOk93 : FnOk Tryz.prog 93 fn93 := fnOk_mk Tryz.func93 (by kernel_rfl) (by kernel_rfl) rfl (by kernel_rfl) (by kernel_rfl)
theorem fnOk94 : FnOk Tryz.prog 94 fn94 := fnOk_mk Tryz.func94 (by kernel_rfl) (by kernel_rfl) rfl (by kernel_rfl) (by kernel_rfl)
theorem fnOk95 : FnOk Tryz.prog 95 fn95 := fnOk_mk Tryz.func95 (by kernel_rfl) (by kernel_rfl) rfl (by kernel_rfl) (by kernel_rfl)
theorem fnOk96 : FnOk Tryz.prog 96 fn96 := fnOk_mk Tryz.func96 (by kernel_rfl) (by kernel_rfl) rfl (by kernel_rfl) (by kernel_rfl)
theorem fnOk97 : FnOk Tryz.prog 97 fn97 := fnOk_mk Tryz.func97 (by kernel_rfl) (by kernel_rfl) rfl (by kernel_rfl) (by kernel_rfl)
theorem fnOk98 : FnOk Tryz.prog 98 fn98 := fnOk_mk Tryz.func98 (by kernel_rfl) (by kernel_rfl) rfl (by kernel_rfl) (by kernel_rfl)
theorem fnOk99 : FnOk Tryz.prog 99 fn99 := fnOk_mk Tryz.func99 (by kernel_rfl) (by kernel_rfl) rfl (by kernel_rfl) (by kernel_rfl)
theorem fnOk100 : FnOk Tryz.prog 100 fn100 := fnOk_mk Tryz.func100 (by kernel_rfl) (by kernel_rfl) rfl (by kernel_rfl) (by kernel_rfl)
theorem fnOk101 : FnOk Tryz.prog 101 fn101 := fnOk_mk Tryz.func101 (by kernel_rfl) (by kernel_rfl) rfl (by kernel_rfl) (by kernel_rfl)
theorem fnOk102 : FnOk Tryz.prog 102 fn102 := fnOk_mk Tryz.func102 (by kernel_rfl) (by kernel_rfl) rfl (by kernel_rfl) (by kernel_rfl)
theorem fnOk103 : FnOk Tryz.prog 103 fn103 := fnOk_mk Tryz.func103 (by kernel_rfl) (by kernel_rfl) rfl (by kernel_rfl) (by kernel_rfl)
theorem fnOk104 : FnOk Tryz.prog 104 fn104 := fnOk_mk Tryz.func104 (by kernel_rfl) (by kernel_rfl) rfl (by kernel_rfl) (by kernel_rfl)
theorem fnOk106 : FnOk Tryz.prog 106 fn106 := fnOk_mk Tryz.func106 (by kernel_rfl) (by kernel_rfl) rfl (by kernel_rfl) (by kernel_rfl)
theorem fnOk107 : FnOk Tryz.prog 107 fn107 := fnOk_mk Tryz.func107 (by kernel_rfl) (by kernel_rfl) rfl (by kernel_rfl) (by kernel_rfl)
theorem fnOk108 : FnOk Tryz.prog 108 fn108 := fnOk_mk Tryz.func108 (by kernel_rfl) (by kernel_rfl) rfl (by kernel_rfl) (by kernel_rfl)
theorem fnOk109 : FnOk Tryz.prog 109 fn109 := fnOk_mk Tryz.func109 (by kernel_rfl) (by kernel_rfl) rfl (by kernel_rfl) (by kernel_rfl)
theorem fnOk110 : FnOk Tryz.prog 110 fn110 := fnOk_mk Tryz.func110 (by kernel_rfl) (by kernel_rfl) rfl (by kernel_rfl) (by kernel_rfl)
theorem fnOk111 : FnOk Tryz.prog 111 fn111 := fnOk_mk Tryz.func111 (by kernel_rfl) (by kernel_rfl) rfl (by kernel_rfl) (by kernel_rfl)
theorem fnOk112 : FnOk Tryz.prog 112 fn112 := fnOk_mk Tryz.func112 (by kernel_rfl) (by kernel_rfl) rfl (by kernel_rfl) (by kernel_rfl)
theorem fnOk113 : FnOk Tryz.prog 113 fn113 := fnOk_mk Tryz.func113 (by kernel_rfl) (by kernel_rfl) rfl (by kernel_rfl) (by kernel_rfl)
theorem fnOk114 : FnOk Tryz.prog 114 fn114 := fnOk_mk Tryz.func114 (by kernel_rfl) (by kernel_rfl) rfl (by kernel_rfl) (by kernel_rfl)
theorem fnOk115 : FnOk Tryz.prog 115 fn115 := fnOk_mk Tryz.func115 (by kernel_rfl) (by kernel_rfl) rfl (by kernel_rfl) (by kernel_rfl)
theorem fnOk121 : FnOk Tryz.prog 121 fn121 := fnOk_mk Tryz.func121 (by kernel_rfl) (by kernel_rfl) rfl (by kernel_rfl) (by kernel_rfl)
theorem fnOk122 : FnOk Tryz.prog 122 fn122 := fnOk_mk Tryz.func122 (by kernel_rfl) (by kernel_rfl) rfl (by kernel_rfl) (by kernel_rfl)
theorem fnOk123 : FnOk Tryz.prog 123 fn123 := fnOk_mk Tryz.func123 (by kernel_rfl) (by kernel_rfl) rfl (by kernel_rfl) (by kernel_rfl)
theorem fnOk124 : FnOk Tryz.prog 124 fn124 := fnOk_mk Tryz.func124 (by kernel_rfl) (by kernel_rfl) rfl (by kernel_rfl) (by kernel_rfl)
theorem fnOk125 : FnOk Tryz.prog 125 fn125 := fnOk_mk Tryz.func125 (by kernel_rfl) (by kernel_rfl) rfl (by kernel_rfl) (by kernel_rfl)
theorem fnOk126 : FnOk Tryz.prog 126 fn126 := fnOk_mk Tryz.func126 (by kernel_rfl) (by kernel_rfl) rfl (by kernel_rfl) (by kernel_rfl)
theorem fnOk127 : FnOk Tryz.prog 127 fn127 := fnOk_mk Tryz.func127 (by kernel_rfl) (by kernel_rfl) rfl (by kernel_rfl) (by kernel_rfl)
theorem fnOk128 : FnOk Tryz.prog 128 fn128 := fnOk_mk Tryz.func128 (by kernel_rfl) (by kernel_rfl) rfl (by kernel_rfl) (by kernel_rfl)
theorem fnOk129 : FnOk Tryz.prog 129 fn129 := fnOk_mk Tryz.func129 (by kernel_rfl) (by kernel_rfl) rfl (by kernel_rfl) (by kernel_rfl)
theorem fnOk130 : FnOk Tryz.prog 130 fn130 := fnOk_mk Tryz.func130 (by kernel_rfl) (by kernel_rfl) rfl (by kernel_rfl) (by kernel_rfl)
theorem fnOk131 : FnOk Tryz.prog 131 fn131 := fnOk_mk Tryz.func131 (by kernel_rfl) (by kernel_rfl) rfl (by kernel_rfl) (by kernel_rfl)
theorem fnOk132 : FnOk Tryz.prog 132 fn132 := fnOk_mk Tryz.func132 (by kernel_rfl) (by kernel_rfl) rfl (by kernel_rfl) (by kernel_rfl)
theorem fnOk133 : FnOk Tryz.prog 133 fn133 := fnOk_mk Tryz.func133 (by kernel_rfl) (by kernel_rfl) rfl (by kernel_rfl) (by kernel_rfl)
theorem fnOk134 : FnOk Tryz.prog 134 fn134 := fnOk_mk Tryz.func134 (by kernel_rfl) (by kernel_rfl) rfl (by kernel_rfl) (by kernel_rfl)
theorem fnOk135 : FnOk Tryz.prog 135 fn135 := fnOk_mk Tryz.func135 (by kernel_rfl) (by kernel_rfl) rfl (by kernel_rfl) (by kernel_rfl)
theorem fnOk136 : FnOk Tryz.prog 136 fn136 := fnOk_mk Tryz.func136 (by kernel_rfl) (by kernel_rfl) rfl (by kernel_rfl) (by kernel_rfl)
theorem fnOk137 : FnOk Tryz.prog 137 fn137 := fnOk_mk Tryz.func137 (by kernel_rfl) (by kernel_rfl) rfl (by kernel_rfl) (by kernel_rfl)
theorem fnOk138 : FnOk Tryz.prog 138 fn138 := fnOk_mk Tryz.func138 (by kernel_rfl) (by kernel_rfl) rfl (by kernel_rfl) (by kernel_rfl)
theorem fnOk141 : FnOk Tryz.prog 141 fn141 := fnOk_mk Tryz.func141 (by kernel_rfl) (by kernel_rfl) rfl (by kernel_rfl) (by kernel_rfl)
theorem fnOk147 : FnOk Tryz.prog 147 fn147 := fnOk_mk Tryz.func147 (by kernel_rfl) (by kernel_rfl) rfl (by kernel_rfl) (by kernel_rfl)
theorem fnOk148 : FnOk Tryz.prog 148 fn148 := fnOk_mk Tryz.func148 (by kernel_rfl) (by kernel_rfl) rfl (by kernel_rfl) (by kernel_rfl)
theorem fnOk149 : FnOk Tryz.prog 149 fn149 := fnOk_mk Tryz.func149 (by kernel_rfl) (by kernel_rfl) rfl (by kernel_rfl) (by kernel_rfl)
theorem fnOk150 : FnOk Tryz.prog 150 fn150 := fnOk_mk Tryz.func150 (by kernel_rfl) (by kernel_rfl) rfl (by kernel_rfl) (by kernel_rfl)
theorem fnOk151 : FnOk Tryz.prog 151 fn151 := fnOk_mk Tryz.func151 (by kernel_rfl) (by kernel_rfl) rfl (by kernel_rfl) (by kernel_rfl)
theorem fns_ok : ∀ g f, tab.fn g = some f → FnOk Tryz.prog g f := by
  intro g f h
  simp only [tab] at h
  split at h
  · cases h; exact fnOk5
  · cases h; exact fnOk9
  · cases h; exact fnOk10
  · cases h; exact fnOk12
  · cases h; exact fnOk16
  · cases h; exact fnOk18
  · cases h; exact fnOk19
  · cases h; exact fnOk20
  · cases h; exact fnOk21
  · cases h; exact fnOk22
  · cases h; exact fnOk23
  · cases h; exact fnOk24
  · cases h; exact fnOk25
  · cases h; exact fnOk26
  · cases h; exact fnOk27
  · cases h; exact fnOk28
  · cases h; exact fnOk29
  · cases h; exact fnOk39
  · cases h; exact fnOk45
  · cases h; exact fnOk46
  · cases h; exact fnOk47
  · cases h; exact fnOk48
  · cases h; exact fnOk49
  · cases h; exact fnOk50
  · cases h; exact fnOk51
  · cases h; exact fnOk52
  · cases h; exact fnOk53
  · cases h; exact fnOk54
  · cases h; exact fnOk55
  · cases h; exact fnOk56
  · cases h; exact fnOk57
  · cases h; exact fnOk58
  · cases h; exact fnOk59
  · cases h; exact fnOk62
  · cases h; exact fnOk63
  · cases h; exact fnOk64
  · cases h; exact fnOk65
  · cases h; exact fnOk66
  · cases h; exact fnOk67
  · cases h; exact fnOk68
  · cases h; exact fnOk69
  · cases h; exact fnOk70
  · cases h; exact fnOk73
  · cases h; exact fnOk74
  · cases h; exact fnOk75
  · cases h; exact fnOk76
  · cases h; exact fnOk80
  · cases h; exact fnOk82
  · cases h; exact fnOk84
  · cases h; exact fnOk86
  · cases h; exact fnOk87
  · cases h; exact fnOk88
  · cases h; exact fnOk89
  · cases h; exact fnOk90
  · cases h; exact fnOk91
  · cases h; exact fnOk92
  · cases h; exact fnOk93
  · cases h; exact fnOk94
  · cases h; exact fnOk95
  · cases h; exact fnOk96
  · cases h; exact fnOk97
  · cases h; exact fnOk98
  · cases h; exact fnOk99
  · cases h; exact fnOk100
  · cases h; exact fnOk101
  · cases h; exact fnOk102
  · cases h; exact fnOk103
  · cases h; exact fnOk104
  · cases h; exact fnOk106
  · cases h; exact fnOk107
  · cases h; exact fnOk108
  · cases h; exact fnOk109
  · cases h; exact fnOk110
  · cases h; exact fnOk111
  · cases h; exact fnOk112
  · cases h; exact fnOk113
  · cases h; exact fnOk114
  · cases h; exact fnOk115
  · cases h; exact fnOk121
  · cases h; exact fnOk122
  · cases h; exact fnOk123
  · cases h; exact fnOk124
  · cases h; exact fnOk125
  · cases h; exact fnOk126
  · cases h; exact fnOk127
  · cases h; exact fnOk128
  · cases h; exact fnOk129
  · cases h; exact fnOk130
  · cases h; exact fnOk131
  · cases h; exact fnOk132
  · cases h; exact fnOk133
  · cases h; exact fnOk134
  · cases h; exact fnOk135
  · cases h; exact fnOk136
  · cases h; exact fnOk137
  · cases h; exact fnOk138
  · cases h; exact fnOk141
  · cases h; exact fnOk147
  · cases h; exact fnOk148
  · cases h; exact fnOk149
  · cases h; exact fnOk150
  · cases h; exact fnOk151
  · cases h
theorem ext_ok : ∀ g x, ext g = some x → Sound Tryz.prog tab g x := by
  intro g x h
  simp only [ext] at h
  split at h
  · cases h; exact nil_sound (Checked.mixed Tryz.checked) tab_ok fns_ok (f := fn89) rfl rfl rfl _ (by kernel_rfl) (fun x => by kernel_rfl)
  · cases h; exact nil_sound (Checked.mixed Tryz.checked) tab_ok fns_ok (f := fn137) rfl rfl rfl _ (by kernel_rfl) (fun x => by kernel_rfl)
  · cases h; exact lib_80
  · cases h; exact lib_82
  · cases h; exact lib_87
  · cases h; exact lib_147
  · cases h
end Go.Proofs.YtkgpkalclblhbaaGreatDoor.Eng
