/-
  No cell of these rows narrows 'for every input' (looked for: loops, veiled, ifaces, maps, wideKeys, modest, calm, conditions, laid).
  DERIVED. THE GIVEN ROWS OF THIS SEAT. 12 by the template 'for every input the law returns true; each argument reads behind the call as it read before'; 0 by the template 'total and deterministic' (their statements: YtigeaijocajnhaaTotals.lean).
  GIVEN WITH THE SEED: the statements are not yours to turn. If you find one false, say at which input.
  Laid BY PROGRAM, IN A SANDBOX (cutbox-rows.mjs): the forced cells as the released guide's own fill.sh prints them over the translation e45d4e1ac5d61558… (all of the seat's roots in one cut). By AI agents, Wed Nov 11 2026. No macro, syntax, notation, axiom, sorry.
-/
import Derived.Test.YtigeaijocajnhaaChecked
import GoSem.Claim
import GoSem.ClaimJoined
import GoSem.ClaimMapViews
import Derived.JoinedTies
import Derived.KernelRfl
namespace Go.Proofs.Ytigeaijocajnhaa
/- THE CELL 'sum', in the pinned program and in every row, IS THE sha256 OF THE DUMP (.gsa) THAT YtigeaijocajnhaaProg.lean LOADS. Nothing in Lean hashes anything: it is a label: what it is worth is what the hold of that sum in a sandbox is worth. -/
noncomputable def Try.pinned : Pinned := { name := "ytigeaijocajnhaa", sum := "e45d4e1ac5d61558fc513b5df45b61d2a8a51e180f701024cdf57ce2908ee8ba", checked := Try.checked }
namespace Rows
def none {H : Type} : Left H := { results := [], args := [] }

/-- 'laws.FnExactBattleNew': WHATEVER THE INPUT: true; the input reads as it did. -/
def fnExactBattleNewSpec : ChangeSpec := { name := "fnExactBattleNew", fn := fun _ => fun
  | [d1, d2] => { results := [.lit (.bool true)], args := [d1, d2] }
  | _ => none }
def fnExactBattleNewRow : OpenClaim := { program := "ytigeaijocajnhaa", sum := "e45d4e1ac5d61558fc513b5df45b61d2a8a51e180f701024cdf57ce2908ee8ba", func := "loop.example/ordinalhydras/laws.FnExactBattleNew", spec := "fnExactBattleNew", recurses := true, apart := false }
def FnExactBattleNewSaid : Prop := fnExactBattleNewRow.holds Try.pinned (OpenSpec.ofChange fnExactBattleNewSpec)

/-- ITS FALSE NEIGHBOUR: 'it returns false'. Refute it at one input. -/
def fnExactBattleNewWrong : ChangeSpec := { name := "fnExactBattleNew", fn := fun _ => fun
  | [d1, d2] => { results := [.lit (.bool false)], args := [d1, d2] }
  | _ => none }
def FnExactBattleNewWrongFalsely : Prop := fnExactBattleNewRow.holds Try.pinned (OpenSpec.ofChange fnExactBattleNewWrong)

/-- 'laws.FnBattleNew': WHATEVER THE INPUT: true; the input reads as it did. -/
def fnBattleNewSpec : ChangeSpec := { name := "fnBattleNew", fn := fun _ => fun
  | [d] => { results := [.lit (.bool true)], args := [d] }
  | _ => none }
def fnBattleNewRow : OpenClaim := { program := "ytigeaijocajnhaa", sum := "e45d4e1ac5d61558fc513b5df45b61d2a8a51e180f701024cdf57ce2908ee8ba", func := "loop.example/ordinalhydras/laws.FnBattleNew", spec := "fnBattleNew", recurses := true, apart := false }
def FnBattleNewSaid : Prop := fnBattleNewRow.holds Try.pinned (OpenSpec.ofChange fnBattleNewSpec)

/-- ITS FALSE NEIGHBOUR: 'it returns false'. Refute it at one input. -/
def fnBattleNewWrong : ChangeSpec := { name := "fnBattleNew", fn := fun _ => fun
  | [d] => { results := [.lit (.bool false)], args := [d] }
  | _ => none }
def FnBattleNewWrongFalsely : Prop := fnBattleNewRow.holds Try.pinned (OpenSpec.ofChange fnBattleNewWrong)

/-- 'laws.FnExactBattleValid': WHATEVER THE INPUT: true; the input reads as it did. -/
def fnExactBattleValidSpec : ChangeSpec := { name := "fnExactBattleValid", fn := fun _ => fun
  | [d] => { results := [.lit (.bool true)], args := [d] }
  | _ => none }
def fnExactBattleValidRow : OpenClaim := { program := "ytigeaijocajnhaa", sum := "e45d4e1ac5d61558fc513b5df45b61d2a8a51e180f701024cdf57ce2908ee8ba", func := "loop.example/ordinalhydras/laws.FnExactBattleValid", spec := "fnExactBattleValid", recurses := true, apart := false }
def FnExactBattleValidSaid : Prop := fnExactBattleValidRow.holds Try.pinned (OpenSpec.ofChange fnExactBattleValidSpec)

/-- ITS FALSE NEIGHBOUR: 'it returns false'. Refute it at one input. -/
def fnExactBattleValidWrong : ChangeSpec := { name := "fnExactBattleValid", fn := fun _ => fun
  | [d] => { results := [.lit (.bool false)], args := [d] }
  | _ => none }
def FnExactBattleValidWrongFalsely : Prop := fnExactBattleValidRow.holds Try.pinned (OpenSpec.ofChange fnExactBattleValidWrong)

/-- 'laws.FnBattleValid': WHATEVER THE INPUT: true; the input reads as it did. -/
def fnBattleValidSpec : ChangeSpec := { name := "fnBattleValid", fn := fun _ => fun
  | [d] => { results := [.lit (.bool true)], args := [d] }
  | _ => none }
def fnBattleValidRow : OpenClaim := { program := "ytigeaijocajnhaa", sum := "e45d4e1ac5d61558fc513b5df45b61d2a8a51e180f701024cdf57ce2908ee8ba", func := "loop.example/ordinalhydras/laws.FnBattleValid", spec := "fnBattleValid", recurses := true, apart := false }
def FnBattleValidSaid : Prop := fnBattleValidRow.holds Try.pinned (OpenSpec.ofChange fnBattleValidSpec)

/-- ITS FALSE NEIGHBOUR: 'it returns false'. Refute it at one input. -/
def fnBattleValidWrong : ChangeSpec := { name := "fnBattleValid", fn := fun _ => fun
  | [d] => { results := [.lit (.bool false)], args := [d] }
  | _ => none }
def FnBattleValidWrongFalsely : Prop := fnBattleValidRow.holds Try.pinned (OpenSpec.ofChange fnBattleValidWrong)

/-- 'laws.FnExactBattleLeft': WHATEVER THE INPUT: true; the input reads as it did. -/
def fnExactBattleLeftSpec : ChangeSpec := { name := "fnExactBattleLeft", fn := fun _ => fun
  | [d] => { results := [.lit (.bool true)], args := [d] }
  | _ => none }
def fnExactBattleLeftRow : OpenClaim := { program := "ytigeaijocajnhaa", sum := "e45d4e1ac5d61558fc513b5df45b61d2a8a51e180f701024cdf57ce2908ee8ba", func := "loop.example/ordinalhydras/laws.FnExactBattleLeft", spec := "fnExactBattleLeft", recurses := true, apart := false }
def FnExactBattleLeftSaid : Prop := fnExactBattleLeftRow.holds Try.pinned (OpenSpec.ofChange fnExactBattleLeftSpec)

/-- ITS FALSE NEIGHBOUR: 'it returns false'. Refute it at one input. -/
def fnExactBattleLeftWrong : ChangeSpec := { name := "fnExactBattleLeft", fn := fun _ => fun
  | [d] => { results := [.lit (.bool false)], args := [d] }
  | _ => none }
def FnExactBattleLeftWrongFalsely : Prop := fnExactBattleLeftRow.holds Try.pinned (OpenSpec.ofChange fnExactBattleLeftWrong)

/-- 'laws.FnBattleLeft': WHATEVER THE INPUT: true; the input reads as it did. -/
def fnBattleLeftSpec : ChangeSpec := { name := "fnBattleLeft", fn := fun _ => fun
  | [d] => { results := [.lit (.bool true)], args := [d] }
  | _ => none }
def fnBattleLeftRow : OpenClaim := { program := "ytigeaijocajnhaa", sum := "e45d4e1ac5d61558fc513b5df45b61d2a8a51e180f701024cdf57ce2908ee8ba", func := "loop.example/ordinalhydras/laws.FnBattleLeft", spec := "fnBattleLeft", recurses := true, apart := false }
def FnBattleLeftSaid : Prop := fnBattleLeftRow.holds Try.pinned (OpenSpec.ofChange fnBattleLeftSpec)

/-- ITS FALSE NEIGHBOUR: 'it returns false'. Refute it at one input. -/
def fnBattleLeftWrong : ChangeSpec := { name := "fnBattleLeft", fn := fun _ => fun
  | [d] => { results := [.lit (.bool false)], args := [d] }
  | _ => none }
def FnBattleLeftWrongFalsely : Prop := fnBattleLeftRow.holds Try.pinned (OpenSpec.ofChange fnBattleLeftWrong)

/-- 'laws.FnExactBattleDo': WHATEVER THE INPUT: true; the input reads as it did. -/
def fnExactBattleDoSpec : ChangeSpec := { name := "fnExactBattleDo", fn := fun _ => fun
  | [d1, d2] => { results := [.lit (.bool true)], args := [d1, d2] }
  | _ => none }
def fnExactBattleDoRow : OpenClaim := { program := "ytigeaijocajnhaa", sum := "e45d4e1ac5d61558fc513b5df45b61d2a8a51e180f701024cdf57ce2908ee8ba", func := "loop.example/ordinalhydras/laws.FnExactBattleDo", spec := "fnExactBattleDo", recurses := true, apart := false }
def FnExactBattleDoSaid : Prop := fnExactBattleDoRow.holds Try.pinned (OpenSpec.ofChange fnExactBattleDoSpec)

/-- ITS FALSE NEIGHBOUR: 'it returns false'. Refute it at one input. -/
def fnExactBattleDoWrong : ChangeSpec := { name := "fnExactBattleDo", fn := fun _ => fun
  | [d1, d2] => { results := [.lit (.bool false)], args := [d1, d2] }
  | _ => none }
def FnExactBattleDoWrongFalsely : Prop := fnExactBattleDoRow.holds Try.pinned (OpenSpec.ofChange fnExactBattleDoWrong)

/-- 'laws.FnBattleDo': WHATEVER THE INPUT: true; the input reads as it did. -/
def fnBattleDoSpec : ChangeSpec := { name := "fnBattleDo", fn := fun _ => fun
  | [d] => { results := [.lit (.bool true)], args := [d] }
  | _ => none }
def fnBattleDoRow : OpenClaim := { program := "ytigeaijocajnhaa", sum := "e45d4e1ac5d61558fc513b5df45b61d2a8a51e180f701024cdf57ce2908ee8ba", func := "loop.example/ordinalhydras/laws.FnBattleDo", spec := "fnBattleDo", recurses := true, apart := false }
def FnBattleDoSaid : Prop := fnBattleDoRow.holds Try.pinned (OpenSpec.ofChange fnBattleDoSpec)

/-- ITS FALSE NEIGHBOUR: 'it returns false'. Refute it at one input. -/
def fnBattleDoWrong : ChangeSpec := { name := "fnBattleDo", fn := fun _ => fun
  | [d] => { results := [.lit (.bool false)], args := [d] }
  | _ => none }
def FnBattleDoWrongFalsely : Prop := fnBattleDoRow.holds Try.pinned (OpenSpec.ofChange fnBattleDoWrong)

/-- 'laws.FnExactBattleRun': WHATEVER THE INPUT: true; the input reads as it did. -/
def fnExactBattleRunSpec : ChangeSpec := { name := "fnExactBattleRun", fn := fun _ => fun
  | [d1, d2] => { results := [.lit (.bool true)], args := [d1, d2] }
  | _ => none }
def fnExactBattleRunRow : OpenClaim := { program := "ytigeaijocajnhaa", sum := "e45d4e1ac5d61558fc513b5df45b61d2a8a51e180f701024cdf57ce2908ee8ba", func := "loop.example/ordinalhydras/laws.FnExactBattleRun", spec := "fnExactBattleRun", recurses := true, apart := false }
def FnExactBattleRunSaid : Prop := fnExactBattleRunRow.holds Try.pinned (OpenSpec.ofChange fnExactBattleRunSpec)

/-- ITS FALSE NEIGHBOUR: 'it returns false'. Refute it at one input. -/
def fnExactBattleRunWrong : ChangeSpec := { name := "fnExactBattleRun", fn := fun _ => fun
  | [d1, d2] => { results := [.lit (.bool false)], args := [d1, d2] }
  | _ => none }
def FnExactBattleRunWrongFalsely : Prop := fnExactBattleRunRow.holds Try.pinned (OpenSpec.ofChange fnExactBattleRunWrong)

/-- 'laws.FnBattleRun': WHATEVER THE INPUT: true; the input reads as it did. -/
def fnBattleRunSpec : ChangeSpec := { name := "fnBattleRun", fn := fun _ => fun
  | [d] => { results := [.lit (.bool true)], args := [d] }
  | _ => none }
def fnBattleRunRow : OpenClaim := { program := "ytigeaijocajnhaa", sum := "e45d4e1ac5d61558fc513b5df45b61d2a8a51e180f701024cdf57ce2908ee8ba", func := "loop.example/ordinalhydras/laws.FnBattleRun", spec := "fnBattleRun", recurses := true, apart := false }
def FnBattleRunSaid : Prop := fnBattleRunRow.holds Try.pinned (OpenSpec.ofChange fnBattleRunSpec)

/-- ITS FALSE NEIGHBOUR: 'it returns false'. Refute it at one input. -/
def fnBattleRunWrong : ChangeSpec := { name := "fnBattleRun", fn := fun _ => fun
  | [d] => { results := [.lit (.bool false)], args := [d] }
  | _ => none }
def FnBattleRunWrongFalsely : Prop := fnBattleRunRow.holds Try.pinned (OpenSpec.ofChange fnBattleRunWrong)

/-- 'laws.FnExactBattleFall': WHATEVER THE INPUT: true; the input reads as it did. -/
def fnExactBattleFallSpec : ChangeSpec := { name := "fnExactBattleFall", fn := fun _ => fun
  | [d] => { results := [.lit (.bool true)], args := [d] }
  | _ => none }
def fnExactBattleFallRow : OpenClaim := { program := "ytigeaijocajnhaa", sum := "e45d4e1ac5d61558fc513b5df45b61d2a8a51e180f701024cdf57ce2908ee8ba", func := "loop.example/ordinalhydras/laws.FnExactBattleFall", spec := "fnExactBattleFall", recurses := true, apart := false }
def FnExactBattleFallSaid : Prop := fnExactBattleFallRow.holds Try.pinned (OpenSpec.ofChange fnExactBattleFallSpec)

/-- ITS FALSE NEIGHBOUR: 'it returns false'. Refute it at one input. -/
def fnExactBattleFallWrong : ChangeSpec := { name := "fnExactBattleFall", fn := fun _ => fun
  | [d] => { results := [.lit (.bool false)], args := [d] }
  | _ => none }
def FnExactBattleFallWrongFalsely : Prop := fnExactBattleFallRow.holds Try.pinned (OpenSpec.ofChange fnExactBattleFallWrong)

/-- 'laws.FnBattleFall': WHATEVER THE INPUT: true; the input reads as it did. -/
def fnBattleFallSpec : ChangeSpec := { name := "fnBattleFall", fn := fun _ => fun
  | [d] => { results := [.lit (.bool true)], args := [d] }
  | _ => none }
def fnBattleFallRow : OpenClaim := { program := "ytigeaijocajnhaa", sum := "e45d4e1ac5d61558fc513b5df45b61d2a8a51e180f701024cdf57ce2908ee8ba", func := "loop.example/ordinalhydras/laws.FnBattleFall", spec := "fnBattleFall", recurses := true, apart := false }
def FnBattleFallSaid : Prop := fnBattleFallRow.holds Try.pinned (OpenSpec.ofChange fnBattleFallSpec)

/-- ITS FALSE NEIGHBOUR: 'it returns false'. Refute it at one input. -/
def fnBattleFallWrong : ChangeSpec := { name := "fnBattleFall", fn := fun _ => fun
  | [d] => { results := [.lit (.bool false)], args := [d] }
  | _ => none }
def FnBattleFallWrongFalsely : Prop := fnBattleFallRow.holds Try.pinned (OpenSpec.ofChange fnBattleFallWrong)

/- THE SECOND FORM. 'bulk': how many values and letters a reading holds, each counted each time it is reached (what is shared counts as often as it is met; a slice's spare places count too). A statement '..UptoSaid' is the law's where the arguments, and the package variables that the reading takes, are together of bulk at most 1048576: NARROWER than '..Said'. Prove '..Said' where nothing that the law and all that it calls make is longer than what came in: it says more and counts as full. Else prove '..UptoSaid'. A law counts once. -/
mutual
def uptoBulk {H : Type} : DataW H → Nat
  | .lit (.string bytes) => bytes.length + 1
  | .lit _ => 1
  | .nil => 1
  | .ptr d => uptoBulk d + 1
  | .slice elems spare => uptoBulkAll elems + uptoBulkAll spare + 1
  | .agg parts => uptoBulkAll parts + 1
  | .iface _ d => uptoBulk d + 1
  | .map entries => uptoBulkEntries entries + 1
  | .held _ => 1
def uptoBulkAll {H : Type} : List (DataW H) → Nat
  | [] => 0
  | d :: r => uptoBulk d + uptoBulkAll r
def uptoBulkEntries {H : Type} : List (Lit × DataW H) → Nat
  | [] => 0
  | x :: r => uptoBulkEntry x + uptoBulkEntries r
def uptoBulkEntry {H : Type} : Lit × DataW H → Nat
  | (.string bytes, d) => bytes.length + uptoBulk d + 1
  | (_, d) => uptoBulk d + 1
 end
def uptoSmall : (H : Type) → List (DataW H) → Bool := fun _ ds => decide (uptoBulkAll ds ≤ 1048576)
def OpenSpec.upto (s : _root_.Go.ChangeSpec) : _root_.Go.OpenSpec := { _root_.Go.OpenSpec.ofChange s with cond := some uptoSmall }

/-- 'laws.FnExactBattleNew', WHERE WHAT IT READS IS OF BULK AT MOST 1048576: true; the input reads as it did. -/
def fnExactBattleNewUptoRow : OpenClaim := { program := "ytigeaijocajnhaa", sum := "e45d4e1ac5d61558fc513b5df45b61d2a8a51e180f701024cdf57ce2908ee8ba", func := "loop.example/ordinalhydras/laws.FnExactBattleNew", spec := "fnExactBattleNew", recurses := true, apart := false, narrowed := true }
def FnExactBattleNewUptoSaid : Prop := fnExactBattleNewUptoRow.holds Try.pinned (OpenSpec.upto fnExactBattleNewSpec)

/-- 'laws.FnBattleNew', WHERE WHAT IT READS IS OF BULK AT MOST 1048576: true; the input reads as it did. -/
def fnBattleNewUptoRow : OpenClaim := { program := "ytigeaijocajnhaa", sum := "e45d4e1ac5d61558fc513b5df45b61d2a8a51e180f701024cdf57ce2908ee8ba", func := "loop.example/ordinalhydras/laws.FnBattleNew", spec := "fnBattleNew", recurses := true, apart := false, narrowed := true }
def FnBattleNewUptoSaid : Prop := fnBattleNewUptoRow.holds Try.pinned (OpenSpec.upto fnBattleNewSpec)

/-- 'laws.FnExactBattleValid', WHERE WHAT IT READS IS OF BULK AT MOST 1048576: true; the input reads as it did. -/
def fnExactBattleValidUptoRow : OpenClaim := { program := "ytigeaijocajnhaa", sum := "e45d4e1ac5d61558fc513b5df45b61d2a8a51e180f701024cdf57ce2908ee8ba", func := "loop.example/ordinalhydras/laws.FnExactBattleValid", spec := "fnExactBattleValid", recurses := true, apart := false, narrowed := true }
def FnExactBattleValidUptoSaid : Prop := fnExactBattleValidUptoRow.holds Try.pinned (OpenSpec.upto fnExactBattleValidSpec)

/-- 'laws.FnBattleValid', WHERE WHAT IT READS IS OF BULK AT MOST 1048576: true; the input reads as it did. -/
def fnBattleValidUptoRow : OpenClaim := { program := "ytigeaijocajnhaa", sum := "e45d4e1ac5d61558fc513b5df45b61d2a8a51e180f701024cdf57ce2908ee8ba", func := "loop.example/ordinalhydras/laws.FnBattleValid", spec := "fnBattleValid", recurses := true, apart := false, narrowed := true }
def FnBattleValidUptoSaid : Prop := fnBattleValidUptoRow.holds Try.pinned (OpenSpec.upto fnBattleValidSpec)

/-- 'laws.FnExactBattleLeft', WHERE WHAT IT READS IS OF BULK AT MOST 1048576: true; the input reads as it did. -/
def fnExactBattleLeftUptoRow : OpenClaim := { program := "ytigeaijocajnhaa", sum := "e45d4e1ac5d61558fc513b5df45b61d2a8a51e180f701024cdf57ce2908ee8ba", func := "loop.example/ordinalhydras/laws.FnExactBattleLeft", spec := "fnExactBattleLeft", recurses := true, apart := false, narrowed := true }
def FnExactBattleLeftUptoSaid : Prop := fnExactBattleLeftUptoRow.holds Try.pinned (OpenSpec.upto fnExactBattleLeftSpec)

/-- 'laws.FnBattleLeft', WHERE WHAT IT READS IS OF BULK AT MOST 1048576: true; the input reads as it did. -/
def fnBattleLeftUptoRow : OpenClaim := { program := "ytigeaijocajnhaa", sum := "e45d4e1ac5d61558fc513b5df45b61d2a8a51e180f701024cdf57ce2908ee8ba", func := "loop.example/ordinalhydras/laws.FnBattleLeft", spec := "fnBattleLeft", recurses := true, apart := false, narrowed := true }
def FnBattleLeftUptoSaid : Prop := fnBattleLeftUptoRow.holds Try.pinned (OpenSpec.upto fnBattleLeftSpec)

/-- 'laws.FnExactBattleDo', WHERE WHAT IT READS IS OF BULK AT MOST 1048576: true; the input reads as it did. -/
def fnExactBattleDoUptoRow : OpenClaim := { program := "ytigeaijocajnhaa", sum := "e45d4e1ac5d61558fc513b5df45b61d2a8a51e180f701024cdf57ce2908ee8ba", func := "loop.example/ordinalhydras/laws.FnExactBattleDo", spec := "fnExactBattleDo", recurses := true, apart := false, narrowed := true }
def FnExactBattleDoUptoSaid : Prop := fnExactBattleDoUptoRow.holds Try.pinned (OpenSpec.upto fnExactBattleDoSpec)

/-- 'laws.FnBattleDo', WHERE WHAT IT READS IS OF BULK AT MOST 1048576: true; the input reads as it did. -/
def fnBattleDoUptoRow : OpenClaim := { program := "ytigeaijocajnhaa", sum := "e45d4e1ac5d61558fc513b5df45b61d2a8a51e180f701024cdf57ce2908ee8ba", func := "loop.example/ordinalhydras/laws.FnBattleDo", spec := "fnBattleDo", recurses := true, apart := false, narrowed := true }
def FnBattleDoUptoSaid : Prop := fnBattleDoUptoRow.holds Try.pinned (OpenSpec.upto fnBattleDoSpec)

/-- 'laws.FnExactBattleRun', WHERE WHAT IT READS IS OF BULK AT MOST 1048576: true; the input reads as it did. -/
def fnExactBattleRunUptoRow : OpenClaim := { program := "ytigeaijocajnhaa", sum := "e45d4e1ac5d61558fc513b5df45b61d2a8a51e180f701024cdf57ce2908ee8ba", func := "loop.example/ordinalhydras/laws.FnExactBattleRun", spec := "fnExactBattleRun", recurses := true, apart := false, narrowed := true }
def FnExactBattleRunUptoSaid : Prop := fnExactBattleRunUptoRow.holds Try.pinned (OpenSpec.upto fnExactBattleRunSpec)

/-- 'laws.FnBattleRun', WHERE WHAT IT READS IS OF BULK AT MOST 1048576: true; the input reads as it did. -/
def fnBattleRunUptoRow : OpenClaim := { program := "ytigeaijocajnhaa", sum := "e45d4e1ac5d61558fc513b5df45b61d2a8a51e180f701024cdf57ce2908ee8ba", func := "loop.example/ordinalhydras/laws.FnBattleRun", spec := "fnBattleRun", recurses := true, apart := false, narrowed := true }
def FnBattleRunUptoSaid : Prop := fnBattleRunUptoRow.holds Try.pinned (OpenSpec.upto fnBattleRunSpec)

/-- 'laws.FnExactBattleFall', WHERE WHAT IT READS IS OF BULK AT MOST 1048576: true; the input reads as it did. -/
def fnExactBattleFallUptoRow : OpenClaim := { program := "ytigeaijocajnhaa", sum := "e45d4e1ac5d61558fc513b5df45b61d2a8a51e180f701024cdf57ce2908ee8ba", func := "loop.example/ordinalhydras/laws.FnExactBattleFall", spec := "fnExactBattleFall", recurses := true, apart := false, narrowed := true }
def FnExactBattleFallUptoSaid : Prop := fnExactBattleFallUptoRow.holds Try.pinned (OpenSpec.upto fnExactBattleFallSpec)

/-- 'laws.FnBattleFall', WHERE WHAT IT READS IS OF BULK AT MOST 1048576: true; the input reads as it did. -/
def fnBattleFallUptoRow : OpenClaim := { program := "ytigeaijocajnhaa", sum := "e45d4e1ac5d61558fc513b5df45b61d2a8a51e180f701024cdf57ce2908ee8ba", func := "loop.example/ordinalhydras/laws.FnBattleFall", spec := "fnBattleFall", recurses := true, apart := false, narrowed := true }
def FnBattleFallUptoSaid : Prop := fnBattleFallUptoRow.holds Try.pinned (OpenSpec.upto fnBattleFallSpec)

end Rows
end Go.Proofs.Ytigeaijocajnhaa
