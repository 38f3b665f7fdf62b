/-
  No cell of these rows narrows 'for every input' (looked for: loops, veiled, ifaces, maps, wideKeys, modest, calm, conditions, laid).
  DERIVED. THE GIVEN ROWS OF THIS SEAT. 7 by the template 'for every input the law returns true; each argument reads behind the call as it read before'; 0 by the template 'total and deterministic' (their statements: YtfhniahijnkgpaaTotals.lean).
  GIVEN WITH THE SEED: the statements are not yours to turn. If you find one false, say at which input.
  Laid BY PROGRAM, IN A SANDBOX (cutbox-rows.mjs): the forced cells as the released guide's own fill.sh prints them over the translation bbdeb325f05aa417… (all of the seat's roots in one cut). By AI agents, Wed Nov 11 2026. No macro, syntax, notation, axiom, sorry.
-/
import Derived.Test.YtfhniahijnkgpaaChecked
import GoSem.Claim
import GoSem.ClaimJoined
import GoSem.ClaimMapViews
import Derived.JoinedTies
import Derived.KernelRfl
namespace Go.Proofs.Ytfhniahijnkgpaa
/- THE CELL 'sum', in the pinned program and in every row, IS THE sha256 OF THE DUMP (.gsa) THAT YtfhniahijnkgpaaProg.lean LOADS. Nothing in Lean hashes anything: it is a label: what it is worth is what the hold of that sum in a sandbox is worth. -/
noncomputable def Try.pinned : Pinned := { name := "ytfhniahijnkgpaa", sum := "bbdeb325f05aa41761ed04f1160b8e3b1d1ce2e47d07ad0473ad88d39bf5fd0c", checked := Try.checked }
namespace Rows
def none {H : Type} : Left H := { results := [], args := [] }

/-- 'laws.FnRelPairs': WHATEVER THE INPUT: true; the input reads as it did. -/
def fnRelPairsSpec : ChangeSpec := { name := "fnRelPairs", fn := fun _ => fun
  | [d] => { results := [.lit (.bool true)], args := [d] }
  | _ => none }
def fnRelPairsRow : OpenClaim := { program := "ytfhniahijnkgpaa", sum := "bbdeb325f05aa41761ed04f1160b8e3b1d1ce2e47d07ad0473ad88d39bf5fd0c", func := "loop.example/ordinalhydras/laws.FnRelPairs", spec := "fnRelPairs", recurses := true, apart := false }
def FnRelPairsSaid : Prop := fnRelPairsRow.holds Try.pinned (OpenSpec.ofChange fnRelPairsSpec)

/-- ITS FALSE NEIGHBOUR: 'it returns false'. Refute it at one input. -/
def fnRelPairsWrong : ChangeSpec := { name := "fnRelPairs", fn := fun _ => fun
  | [d] => { results := [.lit (.bool false)], args := [d] }
  | _ => none }
def FnRelPairsWrongFalsely : Prop := fnRelPairsRow.holds Try.pinned (OpenSpec.ofChange fnRelPairsWrong)

/-- 'laws.FnRelClosed': WHATEVER THE INPUT: true; the input reads as it did. -/
def fnRelClosedSpec : ChangeSpec := { name := "fnRelClosed", fn := fun _ => fun
  | [d] => { results := [.lit (.bool true)], args := [d] }
  | _ => none }
def fnRelClosedRow : OpenClaim := { program := "ytfhniahijnkgpaa", sum := "bbdeb325f05aa41761ed04f1160b8e3b1d1ce2e47d07ad0473ad88d39bf5fd0c", func := "loop.example/ordinalhydras/laws.FnRelClosed", spec := "fnRelClosed", recurses := true, apart := false }
def FnRelClosedSaid : Prop := fnRelClosedRow.holds Try.pinned (OpenSpec.ofChange fnRelClosedSpec)

/-- ITS FALSE NEIGHBOUR: 'it returns false'. Refute it at one input. -/
def fnRelClosedWrong : ChangeSpec := { name := "fnRelClosed", fn := fun _ => fun
  | [d] => { results := [.lit (.bool false)], args := [d] }
  | _ => none }
def FnRelClosedWrongFalsely : Prop := fnRelClosedRow.holds Try.pinned (OpenSpec.ofChange fnRelClosedWrong)

/-- 'laws.FnCircleOk': WHATEVER THE INPUT: true; the input reads as it did. -/
def fnCircleOkSpec : ChangeSpec := { name := "fnCircleOk", fn := fun _ => fun
  | [d] => { results := [.lit (.bool true)], args := [d] }
  | _ => none }
def fnCircleOkRow : OpenClaim := { program := "ytfhniahijnkgpaa", sum := "bbdeb325f05aa41761ed04f1160b8e3b1d1ce2e47d07ad0473ad88d39bf5fd0c", func := "loop.example/ordinalhydras/laws.FnCircleOk", spec := "fnCircleOk", recurses := true, apart := false }
def FnCircleOkSaid : Prop := fnCircleOkRow.holds Try.pinned (OpenSpec.ofChange fnCircleOkSpec)

/-- ITS FALSE NEIGHBOUR: 'it returns false'. Refute it at one input. -/
def fnCircleOkWrong : ChangeSpec := { name := "fnCircleOk", fn := fun _ => fun
  | [d] => { results := [.lit (.bool false)], args := [d] }
  | _ => none }
def FnCircleOkWrongFalsely : Prop := fnCircleOkRow.holds Try.pinned (OpenSpec.ofChange fnCircleOkWrong)

/-- 'laws.FnWellFounded': WHATEVER THE INPUT: true; the input reads as it did. -/
def fnWellFoundedSpec : ChangeSpec := { name := "fnWellFounded", fn := fun _ => fun
  | [d] => { results := [.lit (.bool true)], args := [d] }
  | _ => none }
def fnWellFoundedRow : OpenClaim := { program := "ytfhniahijnkgpaa", sum := "bbdeb325f05aa41761ed04f1160b8e3b1d1ce2e47d07ad0473ad88d39bf5fd0c", func := "loop.example/ordinalhydras/laws.FnWellFounded", spec := "fnWellFounded", recurses := true, apart := false }
def FnWellFoundedSaid : Prop := fnWellFoundedRow.holds Try.pinned (OpenSpec.ofChange fnWellFoundedSpec)

/-- ITS FALSE NEIGHBOUR: 'it returns false'. Refute it at one input. -/
def fnWellFoundedWrong : ChangeSpec := { name := "fnWellFounded", fn := fun _ => fun
  | [d] => { results := [.lit (.bool false)], args := [d] }
  | _ => none }
def FnWellFoundedWrongFalsely : Prop := fnWellFoundedRow.holds Try.pinned (OpenSpec.ofChange fnWellFoundedWrong)

/-- 'laws.FnCircleOf': WHATEVER THE INPUT: true; the input reads as it did. -/
def fnCircleOfSpec : ChangeSpec := { name := "fnCircleOf", fn := fun _ => fun
  | [d] => { results := [.lit (.bool true)], args := [d] }
  | _ => none }
def fnCircleOfRow : OpenClaim := { program := "ytfhniahijnkgpaa", sum := "bbdeb325f05aa41761ed04f1160b8e3b1d1ce2e47d07ad0473ad88d39bf5fd0c", func := "loop.example/ordinalhydras/laws.FnCircleOf", spec := "fnCircleOf", recurses := true, apart := false }
def FnCircleOfSaid : Prop := fnCircleOfRow.holds Try.pinned (OpenSpec.ofChange fnCircleOfSpec)

/-- ITS FALSE NEIGHBOUR: 'it returns false'. Refute it at one input. -/
def fnCircleOfWrong : ChangeSpec := { name := "fnCircleOf", fn := fun _ => fun
  | [d] => { results := [.lit (.bool false)], args := [d] }
  | _ => none }
def FnCircleOfWrongFalsely : Prop := fnCircleOfRow.holds Try.pinned (OpenSpec.ofChange fnCircleOfWrong)

/-- 'laws.FnExactFallOk': WHATEVER THE INPUT: true; the input reads as it did. -/
def fnExactFallOkSpec : ChangeSpec := { name := "fnExactFallOk", fn := fun _ => fun
  | [d1, d2] => { results := [.lit (.bool true)], args := [d1, d2] }
  | _ => none }
def fnExactFallOkRow : OpenClaim := { program := "ytfhniahijnkgpaa", sum := "bbdeb325f05aa41761ed04f1160b8e3b1d1ce2e47d07ad0473ad88d39bf5fd0c", func := "loop.example/ordinalhydras/laws.FnExactFallOk", spec := "fnExactFallOk", recurses := true, apart := false }
def FnExactFallOkSaid : Prop := fnExactFallOkRow.holds Try.pinned (OpenSpec.ofChange fnExactFallOkSpec)

/-- ITS FALSE NEIGHBOUR: 'it returns false'. Refute it at one input. -/
def fnExactFallOkWrong : ChangeSpec := { name := "fnExactFallOk", fn := fun _ => fun
  | [d1, d2] => { results := [.lit (.bool false)], args := [d1, d2] }
  | _ => none }
def FnExactFallOkWrongFalsely : Prop := fnExactFallOkRow.holds Try.pinned (OpenSpec.ofChange fnExactFallOkWrong)

/-- 'laws.FnFallOk': WHATEVER THE INPUT: true; the input reads as it did. -/
def fnFallOkSpec : ChangeSpec := { name := "fnFallOk", fn := fun _ => fun
  | [d] => { results := [.lit (.bool true)], args := [d] }
  | _ => none }
def fnFallOkRow : OpenClaim := { program := "ytfhniahijnkgpaa", sum := "bbdeb325f05aa41761ed04f1160b8e3b1d1ce2e47d07ad0473ad88d39bf5fd0c", func := "loop.example/ordinalhydras/laws.FnFallOk", spec := "fnFallOk", recurses := true, apart := false }
def FnFallOkSaid : Prop := fnFallOkRow.holds Try.pinned (OpenSpec.ofChange fnFallOkSpec)

/-- ITS FALSE NEIGHBOUR: 'it returns false'. Refute it at one input. -/
def fnFallOkWrong : ChangeSpec := { name := "fnFallOk", fn := fun _ => fun
  | [d] => { results := [.lit (.bool false)], args := [d] }
  | _ => none }
def FnFallOkWrongFalsely : Prop := fnFallOkRow.holds Try.pinned (OpenSpec.ofChange fnFallOkWrong)

/- THE SECOND FORM. 'bulk': how many values and letters a reading holds, each counted each time it is reached (what is shared counts as often as it is met; a slice's spare places count too). A statement '..UptoSaid' is the law's where the arguments, and the package variables that the reading takes, are together of bulk at most 1048576: NARROWER than '..Said'. Prove '..Said' where nothing that the law and all that it calls make is longer than what came in: it says more and counts as full. Else prove '..UptoSaid'. A law counts once. -/
mutual
def uptoBulk {H : Type} : DataW H → Nat
  | .lit (.string bytes) => bytes.length + 1
  | .lit _ => 1
  | .nil => 1
  | .ptr d => uptoBulk d + 1
  | .slice elems spare => uptoBulkAll elems + uptoBulkAll spare + 1
  | .agg parts => uptoBulkAll parts + 1
  | .iface _ d => uptoBulk d + 1
  | .map entries => uptoBulkEntries entries + 1
  | .held _ => 1
def uptoBulkAll {H : Type} : List (DataW H) → Nat
  | [] => 0
  | d :: r => uptoBulk d + uptoBulkAll r
def uptoBulkEntries {H : Type} : List (Lit × DataW H) → Nat
  | [] => 0
  | x :: r => uptoBulkEntry x + uptoBulkEntries r
def uptoBulkEntry {H : Type} : Lit × DataW H → Nat
  | (.string bytes, d) => bytes.length + uptoBulk d + 1
  | (_, d) => uptoBulk d + 1
 end
def uptoSmall : (H : Type) → List (DataW H) → Bool := fun _ ds => decide (uptoBulkAll ds ≤ 1048576)
def OpenSpec.upto (s : _root_.Go.ChangeSpec) : _root_.Go.OpenSpec := { _root_.Go.OpenSpec.ofChange s with cond := some uptoSmall }

/-- 'laws.FnRelPairs', WHERE WHAT IT READS IS OF BULK AT MOST 1048576: true; the input reads as it did. -/
def fnRelPairsUptoRow : OpenClaim := { program := "ytfhniahijnkgpaa", sum := "bbdeb325f05aa41761ed04f1160b8e3b1d1ce2e47d07ad0473ad88d39bf5fd0c", func := "loop.example/ordinalhydras/laws.FnRelPairs", spec := "fnRelPairs", recurses := true, apart := false, narrowed := true }
def FnRelPairsUptoSaid : Prop := fnRelPairsUptoRow.holds Try.pinned (OpenSpec.upto fnRelPairsSpec)

/-- 'laws.FnRelClosed', WHERE WHAT IT READS IS OF BULK AT MOST 1048576: true; the input reads as it did. -/
def fnRelClosedUptoRow : OpenClaim := { program := "ytfhniahijnkgpaa", sum := "bbdeb325f05aa41761ed04f1160b8e3b1d1ce2e47d07ad0473ad88d39bf5fd0c", func := "loop.example/ordinalhydras/laws.FnRelClosed", spec := "fnRelClosed", recurses := true, apart := false, narrowed := true }
def FnRelClosedUptoSaid : Prop := fnRelClosedUptoRow.holds Try.pinned (OpenSpec.upto fnRelClosedSpec)

/-- 'laws.FnCircleOk', WHERE WHAT IT READS IS OF BULK AT MOST 1048576: true; the input reads as it did. -/
def fnCircleOkUptoRow : OpenClaim := { program := "ytfhniahijnkgpaa", sum := "bbdeb325f05aa41761ed04f1160b8e3b1d1ce2e47d07ad0473ad88d39bf5fd0c", func := "loop.example/ordinalhydras/laws.FnCircleOk", spec := "fnCircleOk", recurses := true, apart := false, narrowed := true }
def FnCircleOkUptoSaid : Prop := fnCircleOkUptoRow.holds Try.pinned (OpenSpec.upto fnCircleOkSpec)

/-- 'laws.FnWellFounded', WHERE WHAT IT READS IS OF BULK AT MOST 1048576: true; the input reads as it did. -/
def fnWellFoundedUptoRow : OpenClaim := { program := "ytfhniahijnkgpaa", sum := "bbdeb325f05aa41761ed04f1160b8e3b1d1ce2e47d07ad0473ad88d39bf5fd0c", func := "loop.example/ordinalhydras/laws.FnWellFounded", spec := "fnWellFounded", recurses := true, apart := false, narrowed := true }
def FnWellFoundedUptoSaid : Prop := fnWellFoundedUptoRow.holds Try.pinned (OpenSpec.upto fnWellFoundedSpec)

/-- 'laws.FnCircleOf', WHERE WHAT IT READS IS OF BULK AT MOST 1048576: true; the input reads as it did. -/
def fnCircleOfUptoRow : OpenClaim := { program := "ytfhniahijnkgpaa", sum := "bbdeb325f05aa41761ed04f1160b8e3b1d1ce2e47d07ad0473ad88d39bf5fd0c", func := "loop.example/ordinalhydras/laws.FnCircleOf", spec := "fnCircleOf", recurses := true, apart := false, narrowed := true }
def FnCircleOfUptoSaid : Prop := fnCircleOfUptoRow.holds Try.pinned (OpenSpec.upto fnCircleOfSpec)

/-- 'laws.FnExactFallOk', WHERE WHAT IT READS IS OF BULK AT MOST 1048576: true; the input reads as it did. -/
def fnExactFallOkUptoRow : OpenClaim := { program := "ytfhniahijnkgpaa", sum := "bbdeb325f05aa41761ed04f1160b8e3b1d1ce2e47d07ad0473ad88d39bf5fd0c", func := "loop.example/ordinalhydras/laws.FnExactFallOk", spec := "fnExactFallOk", recurses := true, apart := false, narrowed := true }
def FnExactFallOkUptoSaid : Prop := fnExactFallOkUptoRow.holds Try.pinned (OpenSpec.upto fnExactFallOkSpec)

/-- 'laws.FnFallOk', WHERE WHAT IT READS IS OF BULK AT MOST 1048576: true; the input reads as it did. -/
def fnFallOkUptoRow : OpenClaim := { program := "ytfhniahijnkgpaa", sum := "bbdeb325f05aa41761ed04f1160b8e3b1d1ce2e47d07ad0473ad88d39bf5fd0c", func := "loop.example/ordinalhydras/laws.FnFallOk", spec := "fnFallOk", recurses := true, apart := false, narrowed := true }
def FnFallOkUptoSaid : Prop := fnFallOkUptoRow.holds Try.pinned (OpenSpec.upto fnFallOkSpec)

end Rows
end Go.Proofs.Ytfhniahijnkgpaa
