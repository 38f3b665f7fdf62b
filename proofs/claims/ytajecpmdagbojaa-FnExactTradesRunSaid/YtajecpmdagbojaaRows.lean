/-
  No cell of these rows narrows 'for every input' (looked for: loops, veiled, ifaces, maps, wideKeys, modest, calm, conditions, laid).
  DERIVED. THE GIVEN ROWS OF THIS SEAT. 12 by the template 'for every input the law returns true; each argument reads behind the call as it read before'; 0 by the template 'total and deterministic' (their statements: YtajecpmdagbojaaTotals.lean).
  GIVEN WITH THE SEED: the statements are not yours to turn. If you find one false, say at which input.
  Laid BY PROGRAM, IN A SANDBOX (cutbox-rows.mjs): the forced cells as the released guide's own fill.sh prints them over the translation ed25226001a46083… (all of the seat's roots in one cut). By AI agents, Wed Nov 11 2026. No macro, syntax, notation, axiom, sorry.
-/
import Derived.Test.YtajecpmdagbojaaChecked
import GoSem.Claim
import GoSem.ClaimJoined
import GoSem.ClaimMapViews
import Derived.JoinedTies
import Derived.KernelRfl
namespace Go.Proofs.Ytajecpmdagbojaa
/- THE CELL 'sum', in the pinned program and in every row, IS THE sha256 OF THE DUMP (.gsa) THAT YtajecpmdagbojaaProg.lean LOADS. Nothing in Lean hashes anything: it is a label: what it is worth is what the hold of that sum in a sandbox is worth. -/
noncomputable def Try.pinned : Pinned := { name := "ytajecpmdagbojaa", sum := "ed25226001a46083f235fa020d561c44d87dfd6b767eea6e2ee721dce18e2d68", checked := Try.checked }
namespace Rows
def none {H : Type} : Left H := { results := [], args := [] }

/-- 'laws.FnExactIterate': WHATEVER THE INPUT: true; the input reads as it did. -/
def fnExactIterateSpec : ChangeSpec := { name := "fnExactIterate", fn := fun _ => fun
  | [d1, d2] => { results := [.lit (.bool true)], args := [d1, d2] }
  | _ => none }
def fnExactIterateRow : OpenClaim := { program := "ytajecpmdagbojaa", sum := "ed25226001a46083f235fa020d561c44d87dfd6b767eea6e2ee721dce18e2d68", func := "loop.example/ordinalhydras/laws.FnExactIterate", spec := "fnExactIterate", recurses := true, apart := false }
def FnExactIterateSaid : Prop := fnExactIterateRow.holds Try.pinned (OpenSpec.ofChange fnExactIterateSpec)

/-- ITS FALSE NEIGHBOUR: 'it returns false'. Refute it at one input. -/
def fnExactIterateWrong : ChangeSpec := { name := "fnExactIterate", fn := fun _ => fun
  | [d1, d2] => { results := [.lit (.bool false)], args := [d1, d2] }
  | _ => none }
def FnExactIterateWrongFalsely : Prop := fnExactIterateRow.holds Try.pinned (OpenSpec.ofChange fnExactIterateWrong)

/-- 'laws.FnExactHeapsValid': WHATEVER THE INPUT: true; the input reads as it did. -/
def fnExactHeapsValidSpec : ChangeSpec := { name := "fnExactHeapsValid", fn := fun _ => fun
  | [d] => { results := [.lit (.bool true)], args := [d] }
  | _ => none }
def fnExactHeapsValidRow : OpenClaim := { program := "ytajecpmdagbojaa", sum := "ed25226001a46083f235fa020d561c44d87dfd6b767eea6e2ee721dce18e2d68", func := "loop.example/ordinalhydras/laws.FnExactHeapsValid", spec := "fnExactHeapsValid", apart := false }
def FnExactHeapsValidSaid : Prop := fnExactHeapsValidRow.holds Try.pinned (OpenSpec.ofChange fnExactHeapsValidSpec)

/-- ITS FALSE NEIGHBOUR: 'it returns false'. Refute it at one input. -/
def fnExactHeapsValidWrong : ChangeSpec := { name := "fnExactHeapsValid", fn := fun _ => fun
  | [d] => { results := [.lit (.bool false)], args := [d] }
  | _ => none }
def FnExactHeapsValidWrongFalsely : Prop := fnExactHeapsValidRow.holds Try.pinned (OpenSpec.ofChange fnExactHeapsValidWrong)

/-- 'laws.FnExactTradeValid': WHATEVER THE INPUT: true; the input reads as it did. -/
def fnExactTradeValidSpec : ChangeSpec := { name := "fnExactTradeValid", fn := fun _ => fun
  | [d] => { results := [.lit (.bool true)], args := [d] }
  | _ => none }
def fnExactTradeValidRow : OpenClaim := { program := "ytajecpmdagbojaa", sum := "ed25226001a46083f235fa020d561c44d87dfd6b767eea6e2ee721dce18e2d68", func := "loop.example/ordinalhydras/laws.FnExactTradeValid", spec := "fnExactTradeValid", apart := false }
def FnExactTradeValidSaid : Prop := fnExactTradeValidRow.holds Try.pinned (OpenSpec.ofChange fnExactTradeValidSpec)

/-- ITS FALSE NEIGHBOUR: 'it returns false'. Refute it at one input. -/
def fnExactTradeValidWrong : ChangeSpec := { name := "fnExactTradeValid", fn := fun _ => fun
  | [d] => { results := [.lit (.bool false)], args := [d] }
  | _ => none }
def FnExactTradeValidWrongFalsely : Prop := fnExactTradeValidRow.holds Try.pinned (OpenSpec.ofChange fnExactTradeValidWrong)

/-- 'laws.FnHeapsValid': WHATEVER THE INPUT: true; the input reads as it did. -/
def fnHeapsValidSpec : ChangeSpec := { name := "fnHeapsValid", fn := fun _ => fun
  | [d] => { results := [.lit (.bool true)], args := [d] }
  | _ => none }
def fnHeapsValidRow : OpenClaim := { program := "ytajecpmdagbojaa", sum := "ed25226001a46083f235fa020d561c44d87dfd6b767eea6e2ee721dce18e2d68", func := "loop.example/ordinalhydras/laws.FnHeapsValid", spec := "fnHeapsValid", recurses := true, apart := false }
def FnHeapsValidSaid : Prop := fnHeapsValidRow.holds Try.pinned (OpenSpec.ofChange fnHeapsValidSpec)

/-- ITS FALSE NEIGHBOUR: 'it returns false'. Refute it at one input. -/
def fnHeapsValidWrong : ChangeSpec := { name := "fnHeapsValid", fn := fun _ => fun
  | [d] => { results := [.lit (.bool false)], args := [d] }
  | _ => none }
def FnHeapsValidWrongFalsely : Prop := fnHeapsValidRow.holds Try.pinned (OpenSpec.ofChange fnHeapsValidWrong)

/-- 'laws.FnTradeValid': WHATEVER THE INPUT: true; the input reads as it did. -/
def fnTradeValidSpec : ChangeSpec := { name := "fnTradeValid", fn := fun _ => fun
  | [d] => { results := [.lit (.bool true)], args := [d] }
  | _ => none }
def fnTradeValidRow : OpenClaim := { program := "ytajecpmdagbojaa", sum := "ed25226001a46083f235fa020d561c44d87dfd6b767eea6e2ee721dce18e2d68", func := "loop.example/ordinalhydras/laws.FnTradeValid", spec := "fnTradeValid", recurses := true, apart := false }
def FnTradeValidSaid : Prop := fnTradeValidRow.holds Try.pinned (OpenSpec.ofChange fnTradeValidSpec)

/-- ITS FALSE NEIGHBOUR: 'it returns false'. Refute it at one input. -/
def fnTradeValidWrong : ChangeSpec := { name := "fnTradeValid", fn := fun _ => fun
  | [d] => { results := [.lit (.bool false)], args := [d] }
  | _ => none }
def FnTradeValidWrongFalsely : Prop := fnTradeValidRow.holds Try.pinned (OpenSpec.ofChange fnTradeValidWrong)

/-- 'laws.FnExactTradesValid': WHATEVER THE INPUT: true; the input reads as it did. -/
def fnExactTradesValidSpec : ChangeSpec := { name := "fnExactTradesValid", fn := fun _ => fun
  | [d] => { results := [.lit (.bool true)], args := [d] }
  | _ => none }
def fnExactTradesValidRow : OpenClaim := { program := "ytajecpmdagbojaa", sum := "ed25226001a46083f235fa020d561c44d87dfd6b767eea6e2ee721dce18e2d68", func := "loop.example/ordinalhydras/laws.FnExactTradesValid", spec := "fnExactTradesValid", apart := false }
def FnExactTradesValidSaid : Prop := fnExactTradesValidRow.holds Try.pinned (OpenSpec.ofChange fnExactTradesValidSpec)

/-- ITS FALSE NEIGHBOUR: 'it returns false'. Refute it at one input. -/
def fnExactTradesValidWrong : ChangeSpec := { name := "fnExactTradesValid", fn := fun _ => fun
  | [d] => { results := [.lit (.bool false)], args := [d] }
  | _ => none }
def FnExactTradesValidWrongFalsely : Prop := fnExactTradesValidRow.holds Try.pinned (OpenSpec.ofChange fnExactTradesValidWrong)

/-- 'laws.FnTradesValid': WHATEVER THE INPUT: true; the input reads as it did. -/
def fnTradesValidSpec : ChangeSpec := { name := "fnTradesValid", fn := fun _ => fun
  | [d] => { results := [.lit (.bool true)], args := [d] }
  | _ => none }
def fnTradesValidRow : OpenClaim := { program := "ytajecpmdagbojaa", sum := "ed25226001a46083f235fa020d561c44d87dfd6b767eea6e2ee721dce18e2d68", func := "loop.example/ordinalhydras/laws.FnTradesValid", spec := "fnTradesValid", recurses := true, apart := false }
def FnTradesValidSaid : Prop := fnTradesValidRow.holds Try.pinned (OpenSpec.ofChange fnTradesValidSpec)

/-- ITS FALSE NEIGHBOUR: 'it returns false'. Refute it at one input. -/
def fnTradesValidWrong : ChangeSpec := { name := "fnTradesValid", fn := fun _ => fun
  | [d] => { results := [.lit (.bool false)], args := [d] }
  | _ => none }
def FnTradesValidWrongFalsely : Prop := fnTradesValidRow.holds Try.pinned (OpenSpec.ofChange fnTradesValidWrong)

/-- 'laws.FnExactTradeDo': WHATEVER THE INPUT: true; the input reads as it did. -/
def fnExactTradeDoSpec : ChangeSpec := { name := "fnExactTradeDo", fn := fun _ => fun
  | [d1, d2] => { results := [.lit (.bool true)], args := [d1, d2] }
  | _ => none }
def fnExactTradeDoRow : OpenClaim := { program := "ytajecpmdagbojaa", sum := "ed25226001a46083f235fa020d561c44d87dfd6b767eea6e2ee721dce18e2d68", func := "loop.example/ordinalhydras/laws.FnExactTradeDo", spec := "fnExactTradeDo", apart := false }
def FnExactTradeDoSaid : Prop := fnExactTradeDoRow.holds Try.pinned (OpenSpec.ofChange fnExactTradeDoSpec)

/-- ITS FALSE NEIGHBOUR: 'it returns false'. Refute it at one input. -/
def fnExactTradeDoWrong : ChangeSpec := { name := "fnExactTradeDo", fn := fun _ => fun
  | [d1, d2] => { results := [.lit (.bool false)], args := [d1, d2] }
  | _ => none }
def FnExactTradeDoWrongFalsely : Prop := fnExactTradeDoRow.holds Try.pinned (OpenSpec.ofChange fnExactTradeDoWrong)

/-- 'laws.FnTradeDo': WHATEVER THE INPUT: true; the input reads as it did. -/
def fnTradeDoSpec : ChangeSpec := { name := "fnTradeDo", fn := fun _ => fun
  | [d] => { results := [.lit (.bool true)], args := [d] }
  | _ => none }
def fnTradeDoRow : OpenClaim := { program := "ytajecpmdagbojaa", sum := "ed25226001a46083f235fa020d561c44d87dfd6b767eea6e2ee721dce18e2d68", func := "loop.example/ordinalhydras/laws.FnTradeDo", spec := "fnTradeDo", recurses := true, apart := false }
def FnTradeDoSaid : Prop := fnTradeDoRow.holds Try.pinned (OpenSpec.ofChange fnTradeDoSpec)

/-- ITS FALSE NEIGHBOUR: 'it returns false'. Refute it at one input. -/
def fnTradeDoWrong : ChangeSpec := { name := "fnTradeDo", fn := fun _ => fun
  | [d] => { results := [.lit (.bool false)], args := [d] }
  | _ => none }
def FnTradeDoWrongFalsely : Prop := fnTradeDoRow.holds Try.pinned (OpenSpec.ofChange fnTradeDoWrong)

/-- 'laws.FnExactTradesMay': WHATEVER THE INPUT: true; the input reads as it did. -/
def fnExactTradesMaySpec : ChangeSpec := { name := "fnExactTradesMay", fn := fun _ => fun
  | [d1, d2] => { results := [.lit (.bool true)], args := [d1, d2] }
  | _ => none }
def fnExactTradesMayRow : OpenClaim := { program := "ytajecpmdagbojaa", sum := "ed25226001a46083f235fa020d561c44d87dfd6b767eea6e2ee721dce18e2d68", func := "loop.example/ordinalhydras/laws.FnExactTradesMay", spec := "fnExactTradesMay", apart := false }
def FnExactTradesMaySaid : Prop := fnExactTradesMayRow.holds Try.pinned (OpenSpec.ofChange fnExactTradesMaySpec)

/-- ITS FALSE NEIGHBOUR: 'it returns false'. Refute it at one input. -/
def fnExactTradesMayWrong : ChangeSpec := { name := "fnExactTradesMay", fn := fun _ => fun
  | [d1, d2] => { results := [.lit (.bool false)], args := [d1, d2] }
  | _ => none }
def FnExactTradesMayWrongFalsely : Prop := fnExactTradesMayRow.holds Try.pinned (OpenSpec.ofChange fnExactTradesMayWrong)

/-- 'laws.FnExactTradesRun': WHATEVER THE INPUT: true; the input reads as it did. -/
def fnExactTradesRunSpec : ChangeSpec := { name := "fnExactTradesRun", fn := fun _ => fun
  | [d1, d2, d3] => { results := [.lit (.bool true)], args := [d1, d2, d3] }
  | _ => none }
def fnExactTradesRunRow : OpenClaim := { program := "ytajecpmdagbojaa", sum := "ed25226001a46083f235fa020d561c44d87dfd6b767eea6e2ee721dce18e2d68", func := "loop.example/ordinalhydras/laws.FnExactTradesRun", spec := "fnExactTradesRun", apart := false }
def FnExactTradesRunSaid : Prop := fnExactTradesRunRow.holds Try.pinned (OpenSpec.ofChange fnExactTradesRunSpec)

/-- ITS FALSE NEIGHBOUR: 'it returns false'. Refute it at one input. -/
def fnExactTradesRunWrong : ChangeSpec := { name := "fnExactTradesRun", fn := fun _ => fun
  | [d1, d2, d3] => { results := [.lit (.bool false)], args := [d1, d2, d3] }
  | _ => none }
def FnExactTradesRunWrongFalsely : Prop := fnExactTradesRunRow.holds Try.pinned (OpenSpec.ofChange fnExactTradesRunWrong)

/-- 'laws.FnTradesMay': WHATEVER THE INPUT: true; the input reads as it did. -/
def fnTradesMaySpec : ChangeSpec := { name := "fnTradesMay", fn := fun _ => fun
  | [d] => { results := [.lit (.bool true)], args := [d] }
  | _ => none }
def fnTradesMayRow : OpenClaim := { program := "ytajecpmdagbojaa", sum := "ed25226001a46083f235fa020d561c44d87dfd6b767eea6e2ee721dce18e2d68", func := "loop.example/ordinalhydras/laws.FnTradesMay", spec := "fnTradesMay", recurses := true, apart := false }
def FnTradesMaySaid : Prop := fnTradesMayRow.holds Try.pinned (OpenSpec.ofChange fnTradesMaySpec)

/-- ITS FALSE NEIGHBOUR: 'it returns false'. Refute it at one input. -/
def fnTradesMayWrong : ChangeSpec := { name := "fnTradesMay", fn := fun _ => fun
  | [d] => { results := [.lit (.bool false)], args := [d] }
  | _ => none }
def FnTradesMayWrongFalsely : Prop := fnTradesMayRow.holds Try.pinned (OpenSpec.ofChange fnTradesMayWrong)

/- THE SECOND FORM. 'bulk': how many values and letters a reading holds, each counted each time it is reached (what is shared counts as often as it is met; a slice's spare places count too). A statement '..UptoSaid' is the law's where the arguments, and the package variables that the reading takes, are together of bulk at most 1048576: NARROWER than '..Said'. Prove '..Said' where nothing that the law and all that it calls make is longer than what came in: it says more and counts as full. Else prove '..UptoSaid'. A law counts once. -/
mutual
def uptoBulk {H : Type} : DataW H → Nat
  | .lit (.string bytes) => bytes.length + 1
  | .lit _ => 1
  | .nil => 1
  | .ptr d => uptoBulk d + 1
  | .slice elems spare => uptoBulkAll elems + uptoBulkAll spare + 1
  | .agg parts => uptoBulkAll parts + 1
  | .iface _ d => uptoBulk d + 1
  | .map entries => uptoBulkEntries entries + 1
  | .held _ => 1
def uptoBulkAll {H : Type} : List (DataW H) → Nat
  | [] => 0
  | d :: r => uptoBulk d + uptoBulkAll r
def uptoBulkEntries {H : Type} : List (Lit × DataW H) → Nat
  | [] => 0
  | x :: r => uptoBulkEntry x + uptoBulkEntries r
def uptoBulkEntry {H : Type} : Lit × DataW H → Nat
  | (.string bytes, d) => bytes.length + uptoBulk d + 1
  | (_, d) => uptoBulk d + 1
 end
def uptoSmall : (H : Type) → List (DataW H) → Bool := fun _ ds => decide (uptoBulkAll ds ≤ 1048576)
def OpenSpec.upto (s : _root_.Go.ChangeSpec) : _root_.Go.OpenSpec := { _root_.Go.OpenSpec.ofChange s with cond := some uptoSmall }

/-- 'laws.FnExactIterate', WHERE WHAT IT READS IS OF BULK AT MOST 1048576: true; the input reads as it did. -/
def fnExactIterateUptoRow : OpenClaim := { program := "ytajecpmdagbojaa", sum := "ed25226001a46083f235fa020d561c44d87dfd6b767eea6e2ee721dce18e2d68", func := "loop.example/ordinalhydras/laws.FnExactIterate", spec := "fnExactIterate", recurses := true, apart := false, narrowed := true }
def FnExactIterateUptoSaid : Prop := fnExactIterateUptoRow.holds Try.pinned (OpenSpec.upto fnExactIterateSpec)

/-- 'laws.FnExactHeapsValid', WHERE WHAT IT READS IS OF BULK AT MOST 1048576: true; the input reads as it did. -/
def fnExactHeapsValidUptoRow : OpenClaim := { program := "ytajecpmdagbojaa", sum := "ed25226001a46083f235fa020d561c44d87dfd6b767eea6e2ee721dce18e2d68", func := "loop.example/ordinalhydras/laws.FnExactHeapsValid", spec := "fnExactHeapsValid", apart := false, narrowed := true }
def FnExactHeapsValidUptoSaid : Prop := fnExactHeapsValidUptoRow.holds Try.pinned (OpenSpec.upto fnExactHeapsValidSpec)

/-- 'laws.FnExactTradeValid', WHERE WHAT IT READS IS OF BULK AT MOST 1048576: true; the input reads as it did. -/
def fnExactTradeValidUptoRow : OpenClaim := { program := "ytajecpmdagbojaa", sum := "ed25226001a46083f235fa020d561c44d87dfd6b767eea6e2ee721dce18e2d68", func := "loop.example/ordinalhydras/laws.FnExactTradeValid", spec := "fnExactTradeValid", apart := false, narrowed := true }
def FnExactTradeValidUptoSaid : Prop := fnExactTradeValidUptoRow.holds Try.pinned (OpenSpec.upto fnExactTradeValidSpec)

/-- 'laws.FnHeapsValid', WHERE WHAT IT READS IS OF BULK AT MOST 1048576: true; the input reads as it did. -/
def fnHeapsValidUptoRow : OpenClaim := { program := "ytajecpmdagbojaa", sum := "ed25226001a46083f235fa020d561c44d87dfd6b767eea6e2ee721dce18e2d68", func := "loop.example/ordinalhydras/laws.FnHeapsValid", spec := "fnHeapsValid", recurses := true, apart := false, narrowed := true }
def FnHeapsValidUptoSaid : Prop := fnHeapsValidUptoRow.holds Try.pinned (OpenSpec.upto fnHeapsValidSpec)

/-- 'laws.FnTradeValid', WHERE WHAT IT READS IS OF BULK AT MOST 1048576: true; the input reads as it did. -/
def fnTradeValidUptoRow : OpenClaim := { program := "ytajecpmdagbojaa", sum := "ed25226001a46083f235fa020d561c44d87dfd6b767eea6e2ee721dce18e2d68", func := "loop.example/ordinalhydras/laws.FnTradeValid", spec := "fnTradeValid", recurses := true, apart := false, narrowed := true }
def FnTradeValidUptoSaid : Prop := fnTradeValidUptoRow.holds Try.pinned (OpenSpec.upto fnTradeValidSpec)

/-- 'laws.FnExactTradesValid', WHERE WHAT IT READS IS OF BULK AT MOST 1048576: true; the input reads as it did. -/
def fnExactTradesValidUptoRow : OpenClaim := { program := "ytajecpmdagbojaa", sum := "ed25226001a46083f235fa020d561c44d87dfd6b767eea6e2ee721dce18e2d68", func := "loop.example/ordinalhydras/laws.FnExactTradesValid", spec := "fnExactTradesValid", apart := false, narrowed := true }
def FnExactTradesValidUptoSaid : Prop := fnExactTradesValidUptoRow.holds Try.pinned (OpenSpec.upto fnExactTradesValidSpec)

/-- 'laws.FnTradesValid', WHERE WHAT IT READS IS OF BULK AT MOST 1048576: true; the input reads as it did. -/
def fnTradesValidUptoRow : OpenClaim := { program := "ytajecpmdagbojaa", sum := "ed25226001a46083f235fa020d561c44d87dfd6b767eea6e2ee721dce18e2d68", func := "loop.example/ordinalhydras/laws.FnTradesValid", spec := "fnTradesValid", recurses := true, apart := false, narrowed := true }
def FnTradesValidUptoSaid : Prop := fnTradesValidUptoRow.holds Try.pinned (OpenSpec.upto fnTradesValidSpec)

/-- 'laws.FnExactTradeDo', WHERE WHAT IT READS IS OF BULK AT MOST 1048576: true; the input reads as it did. -/
def fnExactTradeDoUptoRow : OpenClaim := { program := "ytajecpmdagbojaa", sum := "ed25226001a46083f235fa020d561c44d87dfd6b767eea6e2ee721dce18e2d68", func := "loop.example/ordinalhydras/laws.FnExactTradeDo", spec := "fnExactTradeDo", apart := false, narrowed := true }
def FnExactTradeDoUptoSaid : Prop := fnExactTradeDoUptoRow.holds Try.pinned (OpenSpec.upto fnExactTradeDoSpec)

/-- 'laws.FnTradeDo', WHERE WHAT IT READS IS OF BULK AT MOST 1048576: true; the input reads as it did. -/
def fnTradeDoUptoRow : OpenClaim := { program := "ytajecpmdagbojaa", sum := "ed25226001a46083f235fa020d561c44d87dfd6b767eea6e2ee721dce18e2d68", func := "loop.example/ordinalhydras/laws.FnTradeDo", spec := "fnTradeDo", recurses := true, apart := false, narrowed := true }
def FnTradeDoUptoSaid : Prop := fnTradeDoUptoRow.holds Try.pinned (OpenSpec.upto fnTradeDoSpec)

/-- 'laws.FnExactTradesMay', WHERE WHAT IT READS IS OF BULK AT MOST 1048576: true; the input reads as it did. -/
def fnExactTradesMayUptoRow : OpenClaim := { program := "ytajecpmdagbojaa", sum := "ed25226001a46083f235fa020d561c44d87dfd6b767eea6e2ee721dce18e2d68", func := "loop.example/ordinalhydras/laws.FnExactTradesMay", spec := "fnExactTradesMay", apart := false, narrowed := true }
def FnExactTradesMayUptoSaid : Prop := fnExactTradesMayUptoRow.holds Try.pinned (OpenSpec.upto fnExactTradesMaySpec)

/-- 'laws.FnExactTradesRun', WHERE WHAT IT READS IS OF BULK AT MOST 1048576: true; the input reads as it did. -/
def fnExactTradesRunUptoRow : OpenClaim := { program := "ytajecpmdagbojaa", sum := "ed25226001a46083f235fa020d561c44d87dfd6b767eea6e2ee721dce18e2d68", func := "loop.example/ordinalhydras/laws.FnExactTradesRun", spec := "fnExactTradesRun", apart := false, narrowed := true }
def FnExactTradesRunUptoSaid : Prop := fnExactTradesRunUptoRow.holds Try.pinned (OpenSpec.upto fnExactTradesRunSpec)

/-- 'laws.FnTradesMay', WHERE WHAT IT READS IS OF BULK AT MOST 1048576: true; the input reads as it did. -/
def fnTradesMayUptoRow : OpenClaim := { program := "ytajecpmdagbojaa", sum := "ed25226001a46083f235fa020d561c44d87dfd6b767eea6e2ee721dce18e2d68", func := "loop.example/ordinalhydras/laws.FnTradesMay", spec := "fnTradesMay", recurses := true, apart := false, narrowed := true }
def FnTradesMayUptoSaid : Prop := fnTradesMayUptoRow.holds Try.pinned (OpenSpec.upto fnTradesMaySpec)

end Rows
end Go.Proofs.Ytajecpmdagbojaa
