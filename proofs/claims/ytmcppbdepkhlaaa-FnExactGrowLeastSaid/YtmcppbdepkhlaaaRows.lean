/-
  No cell of these rows narrows 'for every input' (looked for: loops, veiled, ifaces, maps, wideKeys, modest, calm, conditions, laid).
  DERIVED. THE GIVEN ROWS OF THIS SEAT. 7 by the template 'for every input the law returns true; each argument reads behind the call as it read before'; 0 by the template 'total and deterministic' (their statements: YtmcppbdepkhlaaaTotals.lean).
  GIVEN WITH THE SEED: the statements are not yours to turn. If you find one false, say at which input.
  Laid BY PROGRAM, IN A SANDBOX (cutbox-rows.mjs): the forced cells as the released guide's own fill.sh prints them over the translation f36950a917da4f2c… (all of the seat's roots in one cut). By AI agents, Wed Nov 11 2026. No macro, syntax, notation, axiom, sorry.
-/
import Derived.Test.YtmcppbdepkhlaaaChecked
import GoSem.Claim
import GoSem.ClaimJoined
import GoSem.ClaimMapViews
import Derived.JoinedTies
import Derived.KernelRfl
namespace Go.Proofs.Ytmcppbdepkhlaaa
/- THE CELL 'sum', in the pinned program and in every row, IS THE sha256 OF THE DUMP (.gsa) THAT YtmcppbdepkhlaaaProg.lean LOADS. Nothing in Lean hashes anything: it is a label: what it is worth is what the hold of that sum in a sandbox is worth. -/
noncomputable def Try.pinned : Pinned := { name := "ytmcppbdepkhlaaa", sum := "f36950a917da4f2c15c1794ff9a303fb040c6aa8bade84fdd4c58a993b43aed4", checked := Try.checked }
namespace Rows
def none {H : Type} : Left H := { results := [], args := [] }

/-- 'laws.FnIterate': WHATEVER THE INPUT: true; the input reads as it did. -/
def fnIterateSpec : ChangeSpec := { name := "fnIterate", fn := fun _ => fun
  | [d] => { results := [.lit (.bool true)], args := [d] }
  | _ => none }
def fnIterateRow : OpenClaim := { program := "ytmcppbdepkhlaaa", sum := "f36950a917da4f2c15c1794ff9a303fb040c6aa8bade84fdd4c58a993b43aed4", func := "loop.example/ordinalhydras/laws.FnIterate", spec := "fnIterate", recurses := true, apart := false }
def FnIterateSaid : Prop := fnIterateRow.holds Try.pinned (OpenSpec.ofChange fnIterateSpec)

/-- ITS FALSE NEIGHBOUR: 'it returns false'. Refute it at one input. -/
def fnIterateWrong : ChangeSpec := { name := "fnIterate", fn := fun _ => fun
  | [d] => { results := [.lit (.bool false)], args := [d] }
  | _ => none }
def FnIterateWrongFalsely : Prop := fnIterateRow.holds Try.pinned (OpenSpec.ofChange fnIterateWrong)

/-- 'laws.FnExactGrow': WHATEVER THE INPUT: true; the input reads as it did. -/
def fnExactGrowSpec : ChangeSpec := { name := "fnExactGrow", fn := fun _ => fun
  | [d1, d2] => { results := [.lit (.bool true)], args := [d1, d2] }
  | _ => none }
def fnExactGrowRow : OpenClaim := { program := "ytmcppbdepkhlaaa", sum := "f36950a917da4f2c15c1794ff9a303fb040c6aa8bade84fdd4c58a993b43aed4", func := "loop.example/ordinalhydras/laws.FnExactGrow", spec := "fnExactGrow", recurses := true, apart := false }
def FnExactGrowSaid : Prop := fnExactGrowRow.holds Try.pinned (OpenSpec.ofChange fnExactGrowSpec)

/-- ITS FALSE NEIGHBOUR: 'it returns false'. Refute it at one input. -/
def fnExactGrowWrong : ChangeSpec := { name := "fnExactGrow", fn := fun _ => fun
  | [d1, d2] => { results := [.lit (.bool false)], args := [d1, d2] }
  | _ => none }
def FnExactGrowWrongFalsely : Prop := fnExactGrowRow.holds Try.pinned (OpenSpec.ofChange fnExactGrowWrong)

/-- 'laws.FnExactGrowPath': WHATEVER THE INPUT: true; the input reads as it did. -/
def fnExactGrowPathSpec : ChangeSpec := { name := "fnExactGrowPath", fn := fun _ => fun
  | [d1, d2] => { results := [.lit (.bool true)], args := [d1, d2] }
  | _ => none }
def fnExactGrowPathRow : OpenClaim := { program := "ytmcppbdepkhlaaa", sum := "f36950a917da4f2c15c1794ff9a303fb040c6aa8bade84fdd4c58a993b43aed4", func := "loop.example/ordinalhydras/laws.FnExactGrowPath", spec := "fnExactGrowPath", recurses := true, apart := false }
def FnExactGrowPathSaid : Prop := fnExactGrowPathRow.holds Try.pinned (OpenSpec.ofChange fnExactGrowPathSpec)

/-- ITS FALSE NEIGHBOUR: 'it returns false'. Refute it at one input. -/
def fnExactGrowPathWrong : ChangeSpec := { name := "fnExactGrowPath", fn := fun _ => fun
  | [d1, d2] => { results := [.lit (.bool false)], args := [d1, d2] }
  | _ => none }
def FnExactGrowPathWrongFalsely : Prop := fnExactGrowPathRow.holds Try.pinned (OpenSpec.ofChange fnExactGrowPathWrong)

/-- 'laws.FnExactGrowLeast': WHATEVER THE INPUT: true; the input reads as it did. -/
def fnExactGrowLeastSpec : ChangeSpec := { name := "fnExactGrowLeast", fn := fun _ => fun
  | [d1, d2] => { results := [.lit (.bool true)], args := [d1, d2] }
  | _ => none }
def fnExactGrowLeastRow : OpenClaim := { program := "ytmcppbdepkhlaaa", sum := "f36950a917da4f2c15c1794ff9a303fb040c6aa8bade84fdd4c58a993b43aed4", func := "loop.example/ordinalhydras/laws.FnExactGrowLeast", spec := "fnExactGrowLeast", recurses := true, apart := false }
def FnExactGrowLeastSaid : Prop := fnExactGrowLeastRow.holds Try.pinned (OpenSpec.ofChange fnExactGrowLeastSpec)

/-- ITS FALSE NEIGHBOUR: 'it returns false'. Refute it at one input. -/
def fnExactGrowLeastWrong : ChangeSpec := { name := "fnExactGrowLeast", fn := fun _ => fun
  | [d1, d2] => { results := [.lit (.bool false)], args := [d1, d2] }
  | _ => none }
def FnExactGrowLeastWrongFalsely : Prop := fnExactGrowLeastRow.holds Try.pinned (OpenSpec.ofChange fnExactGrowLeastWrong)

/-- 'laws.FnGrowLeast': WHATEVER THE INPUT: true; the input reads as it did. -/
def fnGrowLeastSpec : ChangeSpec := { name := "fnGrowLeast", fn := fun _ => fun
  | [d] => { results := [.lit (.bool true)], args := [d] }
  | _ => none }
def fnGrowLeastRow : OpenClaim := { program := "ytmcppbdepkhlaaa", sum := "f36950a917da4f2c15c1794ff9a303fb040c6aa8bade84fdd4c58a993b43aed4", func := "loop.example/ordinalhydras/laws.FnGrowLeast", spec := "fnGrowLeast", recurses := true, apart := false }
def FnGrowLeastSaid : Prop := fnGrowLeastRow.holds Try.pinned (OpenSpec.ofChange fnGrowLeastSpec)

/-- ITS FALSE NEIGHBOUR: 'it returns false'. Refute it at one input. -/
def fnGrowLeastWrong : ChangeSpec := { name := "fnGrowLeast", fn := fun _ => fun
  | [d] => { results := [.lit (.bool false)], args := [d] }
  | _ => none }
def FnGrowLeastWrongFalsely : Prop := fnGrowLeastRow.holds Try.pinned (OpenSpec.ofChange fnGrowLeastWrong)

/-- 'laws.FnGrowPath': WHATEVER THE INPUT: true; the input reads as it did. -/
def fnGrowPathSpec : ChangeSpec := { name := "fnGrowPath", fn := fun _ => fun
  | [d] => { results := [.lit (.bool true)], args := [d] }
  | _ => none }
def fnGrowPathRow : OpenClaim := { program := "ytmcppbdepkhlaaa", sum := "f36950a917da4f2c15c1794ff9a303fb040c6aa8bade84fdd4c58a993b43aed4", func := "loop.example/ordinalhydras/laws.FnGrowPath", spec := "fnGrowPath", recurses := true, apart := false }
def FnGrowPathSaid : Prop := fnGrowPathRow.holds Try.pinned (OpenSpec.ofChange fnGrowPathSpec)

/-- ITS FALSE NEIGHBOUR: 'it returns false'. Refute it at one input. -/
def fnGrowPathWrong : ChangeSpec := { name := "fnGrowPath", fn := fun _ => fun
  | [d] => { results := [.lit (.bool false)], args := [d] }
  | _ => none }
def FnGrowPathWrongFalsely : Prop := fnGrowPathRow.holds Try.pinned (OpenSpec.ofChange fnGrowPathWrong)

/-- 'laws.FnGrow': WHATEVER THE INPUT: true; the input reads as it did. -/
def fnGrowSpec : ChangeSpec := { name := "fnGrow", fn := fun _ => fun
  | [d1, d2] => { results := [.lit (.bool true)], args := [d1, d2] }
  | _ => none }
def fnGrowRow : OpenClaim := { program := "ytmcppbdepkhlaaa", sum := "f36950a917da4f2c15c1794ff9a303fb040c6aa8bade84fdd4c58a993b43aed4", func := "loop.example/ordinalhydras/laws.FnGrow", spec := "fnGrow", recurses := true, apart := false }
def FnGrowSaid : Prop := fnGrowRow.holds Try.pinned (OpenSpec.ofChange fnGrowSpec)

/-- ITS FALSE NEIGHBOUR: 'it returns false'. Refute it at one input. -/
def fnGrowWrong : ChangeSpec := { name := "fnGrow", fn := fun _ => fun
  | [d1, d2] => { results := [.lit (.bool false)], args := [d1, d2] }
  | _ => none }
def FnGrowWrongFalsely : Prop := fnGrowRow.holds Try.pinned (OpenSpec.ofChange fnGrowWrong)

/- THE SECOND FORM. 'bulk': how many values and letters a reading holds, each counted each time it is reached (what is shared counts as often as it is met; a slice's spare places count too). A statement '..UptoSaid' is the law's where the arguments, and the package variables that the reading takes, are together of bulk at most 1048576: NARROWER than '..Said'. Prove '..Said' where nothing that the law and all that it calls make is longer than what came in: it says more and counts as full. Else prove '..UptoSaid'. A law counts once. -/
mutual
def uptoBulk {H : Type} : DataW H → Nat
  | .lit (.string bytes) => bytes.length + 1
  | .lit _ => 1
  | .nil => 1
  | .ptr d => uptoBulk d + 1
  | .slice elems spare => uptoBulkAll elems + uptoBulkAll spare + 1
  | .agg parts => uptoBulkAll parts + 1
  | .iface _ d => uptoBulk d + 1
  | .map entries => uptoBulkEntries entries + 1
  | .held _ => 1
def uptoBulkAll {H : Type} : List (DataW H) → Nat
  | [] => 0
  | d :: r => uptoBulk d + uptoBulkAll r
def uptoBulkEntries {H : Type} : List (Lit × DataW H) → Nat
  | [] => 0
  | x :: r => uptoBulkEntry x + uptoBulkEntries r
def uptoBulkEntry {H : Type} : Lit × DataW H → Nat
  | (.string bytes, d) => bytes.length + uptoBulk d + 1
  | (_, d) => uptoBulk d + 1
 end
def uptoSmall : (H : Type) → List (DataW H) → Bool := fun _ ds => decide (uptoBulkAll ds ≤ 1048576)
def OpenSpec.upto (s : _root_.Go.ChangeSpec) : _root_.Go.OpenSpec := { _root_.Go.OpenSpec.ofChange s with cond := some uptoSmall }

/-- 'laws.FnIterate', WHERE WHAT IT READS IS OF BULK AT MOST 1048576: true; the input reads as it did. -/
def fnIterateUptoRow : OpenClaim := { program := "ytmcppbdepkhlaaa", sum := "f36950a917da4f2c15c1794ff9a303fb040c6aa8bade84fdd4c58a993b43aed4", func := "loop.example/ordinalhydras/laws.FnIterate", spec := "fnIterate", recurses := true, apart := false, narrowed := true }
def FnIterateUptoSaid : Prop := fnIterateUptoRow.holds Try.pinned (OpenSpec.upto fnIterateSpec)

/-- 'laws.FnExactGrow', WHERE WHAT IT READS IS OF BULK AT MOST 1048576: true; the input reads as it did. -/
def fnExactGrowUptoRow : OpenClaim := { program := "ytmcppbdepkhlaaa", sum := "f36950a917da4f2c15c1794ff9a303fb040c6aa8bade84fdd4c58a993b43aed4", func := "loop.example/ordinalhydras/laws.FnExactGrow", spec := "fnExactGrow", recurses := true, apart := false, narrowed := true }
def FnExactGrowUptoSaid : Prop := fnExactGrowUptoRow.holds Try.pinned (OpenSpec.upto fnExactGrowSpec)

/-- 'laws.FnExactGrowPath', WHERE WHAT IT READS IS OF BULK AT MOST 1048576: true; the input reads as it did. -/
def fnExactGrowPathUptoRow : OpenClaim := { program := "ytmcppbdepkhlaaa", sum := "f36950a917da4f2c15c1794ff9a303fb040c6aa8bade84fdd4c58a993b43aed4", func := "loop.example/ordinalhydras/laws.FnExactGrowPath", spec := "fnExactGrowPath", recurses := true, apart := false, narrowed := true }
def FnExactGrowPathUptoSaid : Prop := fnExactGrowPathUptoRow.holds Try.pinned (OpenSpec.upto fnExactGrowPathSpec)

/-- 'laws.FnExactGrowLeast', WHERE WHAT IT READS IS OF BULK AT MOST 1048576: true; the input reads as it did. -/
def fnExactGrowLeastUptoRow : OpenClaim := { program := "ytmcppbdepkhlaaa", sum := "f36950a917da4f2c15c1794ff9a303fb040c6aa8bade84fdd4c58a993b43aed4", func := "loop.example/ordinalhydras/laws.FnExactGrowLeast", spec := "fnExactGrowLeast", recurses := true, apart := false, narrowed := true }
def FnExactGrowLeastUptoSaid : Prop := fnExactGrowLeastUptoRow.holds Try.pinned (OpenSpec.upto fnExactGrowLeastSpec)

/-- 'laws.FnGrowLeast', WHERE WHAT IT READS IS OF BULK AT MOST 1048576: true; the input reads as it did. -/
def fnGrowLeastUptoRow : OpenClaim := { program := "ytmcppbdepkhlaaa", sum := "f36950a917da4f2c15c1794ff9a303fb040c6aa8bade84fdd4c58a993b43aed4", func := "loop.example/ordinalhydras/laws.FnGrowLeast", spec := "fnGrowLeast", recurses := true, apart := false, narrowed := true }
def FnGrowLeastUptoSaid : Prop := fnGrowLeastUptoRow.holds Try.pinned (OpenSpec.upto fnGrowLeastSpec)

/-- 'laws.FnGrowPath', WHERE WHAT IT READS IS OF BULK AT MOST 1048576: true; the input reads as it did. -/
def fnGrowPathUptoRow : OpenClaim := { program := "ytmcppbdepkhlaaa", sum := "f36950a917da4f2c15c1794ff9a303fb040c6aa8bade84fdd4c58a993b43aed4", func := "loop.example/ordinalhydras/laws.FnGrowPath", spec := "fnGrowPath", recurses := true, apart := false, narrowed := true }
def FnGrowPathUptoSaid : Prop := fnGrowPathUptoRow.holds Try.pinned (OpenSpec.upto fnGrowPathSpec)

/-- 'laws.FnGrow', WHERE WHAT IT READS IS OF BULK AT MOST 1048576: true; the input reads as it did. -/
def fnGrowUptoRow : OpenClaim := { program := "ytmcppbdepkhlaaa", sum := "f36950a917da4f2c15c1794ff9a303fb040c6aa8bade84fdd4c58a993b43aed4", func := "loop.example/ordinalhydras/laws.FnGrow", spec := "fnGrow", recurses := true, apart := false, narrowed := true }
def FnGrowUptoSaid : Prop := fnGrowUptoRow.holds Try.pinned (OpenSpec.upto fnGrowSpec)

end Rows
end Go.Proofs.Ytmcppbdepkhlaaa
