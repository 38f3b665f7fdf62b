/-
  No cell of these rows narrows 'for every input' (looked for: loops, veiled, ifaces, maps, wideKeys, modest, calm, conditions, laid).
  DERIVED. THE GIVEN ROWS OF THIS SEAT. 11 by the template 'for every input the law returns true; each argument reads behind the call as it read before'; 0 by the template 'total and deterministic' (their statements: YtgibeillafnieaaTotals.lean).
  GIVEN WITH THE SEED: the statements are not yours to turn. If you find one false, say at which input.
  Laid BY PROGRAM, IN A SANDBOX (cutbox-rows.mjs): the forced cells as the released guide's own fill.sh prints them over the translation bc2f2bf220daf505… (all of the seat's roots in one cut). By AI agents, Wed Nov 11 2026. No macro, syntax, notation, axiom, sorry.
-/
import Derived.Test.YtgibeillafnieaaChecked
import GoSem.Claim
import GoSem.ClaimJoined
import GoSem.ClaimMapViews
import Derived.JoinedTies
import Derived.KernelRfl
namespace Go.Proofs.Ytgibeillafnieaa
/- THE CELL 'sum', in the pinned program and in every row, IS THE sha256 OF THE DUMP (.gsa) THAT YtgibeillafnieaaProg.lean LOADS. Nothing in Lean hashes anything: it is a label: what it is worth is what the hold of that sum in a sandbox is worth. -/
noncomputable def Try.pinned : Pinned := { name := "ytgibeillafnieaa", sum := "bc2f2bf220daf505bbbad44c03fa74c85341333fe22ef47a4bd53d5a91a9473e", checked := Try.checked }
namespace Rows
def none {H : Type} : Left H := { results := [], args := [] }

/-- 'laws.FnExactHeapsReached': WHATEVER THE INPUT: true; the input reads as it did. -/
def fnExactHeapsReachedSpec : ChangeSpec := { name := "fnExactHeapsReached", fn := fun _ => fun
  | [d1, d2] => { results := [.lit (.bool true)], args := [d1, d2] }
  | _ => none }
def fnExactHeapsReachedRow : OpenClaim := { program := "ytgibeillafnieaa", sum := "bc2f2bf220daf505bbbad44c03fa74c85341333fe22ef47a4bd53d5a91a9473e", func := "loop.example/ordinalhydras/laws.FnExactHeapsReached", spec := "fnExactHeapsReached", plainKeys := false, apart := false }
def FnExactHeapsReachedSaid : Prop := fnExactHeapsReachedRow.holds Try.pinned (OpenSpec.ofChange fnExactHeapsReachedSpec)

/-- ITS FALSE NEIGHBOUR: 'it returns false'. Refute it at one input. -/
def fnExactHeapsReachedWrong : ChangeSpec := { name := "fnExactHeapsReached", fn := fun _ => fun
  | [d1, d2] => { results := [.lit (.bool false)], args := [d1, d2] }
  | _ => none }
def FnExactHeapsReachedWrongFalsely : Prop := fnExactHeapsReachedRow.holds Try.pinned (OpenSpec.ofChange fnExactHeapsReachedWrong)

/-- 'laws.FnHeapsReached': WHATEVER THE INPUT: true; the input reads as it did. -/
def fnHeapsReachedSpec : ChangeSpec := { name := "fnHeapsReached", fn := fun _ => fun
  | [d] => { results := [.lit (.bool true)], args := [d] }
  | _ => none }
def fnHeapsReachedRow : OpenClaim := { program := "ytgibeillafnieaa", sum := "bc2f2bf220daf505bbbad44c03fa74c85341333fe22ef47a4bd53d5a91a9473e", func := "loop.example/ordinalhydras/laws.FnHeapsReached", spec := "fnHeapsReached", recurses := true, plainKeys := false, apart := false }
def FnHeapsReachedSaid : Prop := fnHeapsReachedRow.holds Try.pinned (OpenSpec.ofChange fnHeapsReachedSpec)

/-- ITS FALSE NEIGHBOUR: 'it returns false'. Refute it at one input. -/
def fnHeapsReachedWrong : ChangeSpec := { name := "fnHeapsReached", fn := fun _ => fun
  | [d] => { results := [.lit (.bool false)], args := [d] }
  | _ => none }
def FnHeapsReachedWrongFalsely : Prop := fnHeapsReachedRow.holds Try.pinned (OpenSpec.ofChange fnHeapsReachedWrong)

/-- 'laws.FnExactLongestTrades': WHATEVER THE INPUT: true; the input reads as it did. -/
def fnExactLongestTradesSpec : ChangeSpec := { name := "fnExactLongestTrades", fn := fun _ => fun
  | [d1, d2] => { results := [.lit (.bool true)], args := [d1, d2] }
  | _ => none }
def fnExactLongestTradesRow : OpenClaim := { program := "ytgibeillafnieaa", sum := "bc2f2bf220daf505bbbad44c03fa74c85341333fe22ef47a4bd53d5a91a9473e", func := "loop.example/ordinalhydras/laws.FnExactLongestTrades", spec := "fnExactLongestTrades", plainKeys := false, apart := false }
def FnExactLongestTradesSaid : Prop := fnExactLongestTradesRow.holds Try.pinned (OpenSpec.ofChange fnExactLongestTradesSpec)

/-- ITS FALSE NEIGHBOUR: 'it returns false'. Refute it at one input. -/
def fnExactLongestTradesWrong : ChangeSpec := { name := "fnExactLongestTrades", fn := fun _ => fun
  | [d1, d2] => { results := [.lit (.bool false)], args := [d1, d2] }
  | _ => none }
def FnExactLongestTradesWrongFalsely : Prop := fnExactLongestTradesRow.holds Try.pinned (OpenSpec.ofChange fnExactLongestTradesWrong)

/-- 'laws.FnTradesRun': WHATEVER THE INPUT: true; the input reads as it did. -/
def fnTradesRunSpec : ChangeSpec := { name := "fnTradesRun", fn := fun _ => fun
  | [d] => { results := [.lit (.bool true)], args := [d] }
  | _ => none }
def fnTradesRunRow : OpenClaim := { program := "ytgibeillafnieaa", sum := "bc2f2bf220daf505bbbad44c03fa74c85341333fe22ef47a4bd53d5a91a9473e", func := "loop.example/ordinalhydras/laws.FnTradesRun", spec := "fnTradesRun", recurses := true, plainKeys := false, apart := false }
def FnTradesRunSaid : Prop := fnTradesRunRow.holds Try.pinned (OpenSpec.ofChange fnTradesRunSpec)

/-- ITS FALSE NEIGHBOUR: 'it returns false'. Refute it at one input. -/
def fnTradesRunWrong : ChangeSpec := { name := "fnTradesRun", fn := fun _ => fun
  | [d] => { results := [.lit (.bool false)], args := [d] }
  | _ => none }
def FnTradesRunWrongFalsely : Prop := fnTradesRunRow.holds Try.pinned (OpenSpec.ofChange fnTradesRunWrong)

/-- 'laws.FnExactHeapsLast': WHATEVER THE INPUT: true; the input reads as it did. -/
def fnExactHeapsLastSpec : ChangeSpec := { name := "fnExactHeapsLast", fn := fun _ => fun
  | [d1, d2] => { results := [.lit (.bool true)], args := [d1, d2] }
  | _ => none }
def fnExactHeapsLastRow : OpenClaim := { program := "ytgibeillafnieaa", sum := "bc2f2bf220daf505bbbad44c03fa74c85341333fe22ef47a4bd53d5a91a9473e", func := "loop.example/ordinalhydras/laws.FnExactHeapsLast", spec := "fnExactHeapsLast", plainKeys := false, apart := false }
def FnExactHeapsLastSaid : Prop := fnExactHeapsLastRow.holds Try.pinned (OpenSpec.ofChange fnExactHeapsLastSpec)

/-- ITS FALSE NEIGHBOUR: 'it returns false'. Refute it at one input. -/
def fnExactHeapsLastWrong : ChangeSpec := { name := "fnExactHeapsLast", fn := fun _ => fun
  | [d1, d2] => { results := [.lit (.bool false)], args := [d1, d2] }
  | _ => none }
def FnExactHeapsLastWrongFalsely : Prop := fnExactHeapsLastRow.holds Try.pinned (OpenSpec.ofChange fnExactHeapsLastWrong)

/-- 'laws.FnLongestTrades': WHATEVER THE INPUT: true; the input reads as it did. -/
def fnLongestTradesSpec : ChangeSpec := { name := "fnLongestTrades", fn := fun _ => fun
  | [d] => { results := [.lit (.bool true)], args := [d] }
  | _ => none }
def fnLongestTradesRow : OpenClaim := { program := "ytgibeillafnieaa", sum := "bc2f2bf220daf505bbbad44c03fa74c85341333fe22ef47a4bd53d5a91a9473e", func := "loop.example/ordinalhydras/laws.FnLongestTrades", spec := "fnLongestTrades", recurses := true, plainKeys := false, apart := false }
def FnLongestTradesSaid : Prop := fnLongestTradesRow.holds Try.pinned (OpenSpec.ofChange fnLongestTradesSpec)

/-- ITS FALSE NEIGHBOUR: 'it returns false'. Refute it at one input. -/
def fnLongestTradesWrong : ChangeSpec := { name := "fnLongestTrades", fn := fun _ => fun
  | [d] => { results := [.lit (.bool false)], args := [d] }
  | _ => none }
def FnLongestTradesWrongFalsely : Prop := fnLongestTradesRow.holds Try.pinned (OpenSpec.ofChange fnLongestTradesWrong)

/-- 'laws.FnHeapsLast': WHATEVER THE INPUT: true; the input reads as it did. -/
def fnHeapsLastSpec : ChangeSpec := { name := "fnHeapsLast", fn := fun _ => fun
  | [d] => { results := [.lit (.bool true)], args := [d] }
  | _ => none }
def fnHeapsLastRow : OpenClaim := { program := "ytgibeillafnieaa", sum := "bc2f2bf220daf505bbbad44c03fa74c85341333fe22ef47a4bd53d5a91a9473e", func := "loop.example/ordinalhydras/laws.FnHeapsLast", spec := "fnHeapsLast", recurses := true, plainKeys := false, apart := false }
def FnHeapsLastSaid : Prop := fnHeapsLastRow.holds Try.pinned (OpenSpec.ofChange fnHeapsLastSpec)

/-- ITS FALSE NEIGHBOUR: 'it returns false'. Refute it at one input. -/
def fnHeapsLastWrong : ChangeSpec := { name := "fnHeapsLast", fn := fun _ => fun
  | [d] => { results := [.lit (.bool false)], args := [d] }
  | _ => none }
def FnHeapsLastWrongFalsely : Prop := fnHeapsLastRow.holds Try.pinned (OpenSpec.ofChange fnHeapsLastWrong)

/-- 'laws.FnTradesEnd': WHATEVER THE INPUT: true; the input reads as it did. -/
def fnTradesEndSpec : ChangeSpec := { name := "fnTradesEnd", fn := fun _ => fun
  | [d1, d2] => { results := [.lit (.bool true)], args := [d1, d2] }
  | _ => none }
def fnTradesEndRow : OpenClaim := { program := "ytgibeillafnieaa", sum := "bc2f2bf220daf505bbbad44c03fa74c85341333fe22ef47a4bd53d5a91a9473e", func := "loop.example/ordinalhydras/laws.FnTradesEnd", spec := "fnTradesEnd", recurses := true, plainKeys := false, apart := false }
def FnTradesEndSaid : Prop := fnTradesEndRow.holds Try.pinned (OpenSpec.ofChange fnTradesEndSpec)

/-- ITS FALSE NEIGHBOUR: 'it returns false'. Refute it at one input. -/
def fnTradesEndWrong : ChangeSpec := { name := "fnTradesEnd", fn := fun _ => fun
  | [d1, d2] => { results := [.lit (.bool false)], args := [d1, d2] }
  | _ => none }
def FnTradesEndWrongFalsely : Prop := fnTradesEndRow.holds Try.pinned (OpenSpec.ofChange fnTradesEndWrong)

/-- 'laws.FnExactHeapsOrd': WHATEVER THE INPUT: true; the input reads as it did. -/
def fnExactHeapsOrdSpec : ChangeSpec := { name := "fnExactHeapsOrd", fn := fun _ => fun
  | [d1, d2] => { results := [.lit (.bool true)], args := [d1, d2] }
  | _ => none }
def fnExactHeapsOrdRow : OpenClaim := { program := "ytgibeillafnieaa", sum := "bc2f2bf220daf505bbbad44c03fa74c85341333fe22ef47a4bd53d5a91a9473e", func := "loop.example/ordinalhydras/laws.FnExactHeapsOrd", spec := "fnExactHeapsOrd", recurses := true, plainKeys := false, apart := false }
def FnExactHeapsOrdSaid : Prop := fnExactHeapsOrdRow.holds Try.pinned (OpenSpec.ofChange fnExactHeapsOrdSpec)

/-- ITS FALSE NEIGHBOUR: 'it returns false'. Refute it at one input. -/
def fnExactHeapsOrdWrong : ChangeSpec := { name := "fnExactHeapsOrd", fn := fun _ => fun
  | [d1, d2] => { results := [.lit (.bool false)], args := [d1, d2] }
  | _ => none }
def FnExactHeapsOrdWrongFalsely : Prop := fnExactHeapsOrdRow.holds Try.pinned (OpenSpec.ofChange fnExactHeapsOrdWrong)

/-- 'laws.FnHeapsOrd': WHATEVER THE INPUT: true; the input reads as it did. -/
def fnHeapsOrdSpec : ChangeSpec := { name := "fnHeapsOrd", fn := fun _ => fun
  | [d] => { results := [.lit (.bool true)], args := [d] }
  | _ => none }
def fnHeapsOrdRow : OpenClaim := { program := "ytgibeillafnieaa", sum := "bc2f2bf220daf505bbbad44c03fa74c85341333fe22ef47a4bd53d5a91a9473e", func := "loop.example/ordinalhydras/laws.FnHeapsOrd", spec := "fnHeapsOrd", recurses := true, plainKeys := false, apart := false }
def FnHeapsOrdSaid : Prop := fnHeapsOrdRow.holds Try.pinned (OpenSpec.ofChange fnHeapsOrdSpec)

/-- ITS FALSE NEIGHBOUR: 'it returns false'. Refute it at one input. -/
def fnHeapsOrdWrong : ChangeSpec := { name := "fnHeapsOrd", fn := fun _ => fun
  | [d] => { results := [.lit (.bool false)], args := [d] }
  | _ => none }
def FnHeapsOrdWrongFalsely : Prop := fnHeapsOrdRow.holds Try.pinned (OpenSpec.ofChange fnHeapsOrdWrong)

/-- 'laws.FnExactTradesEnd': WHATEVER THE INPUT: true; the input reads as it did. -/
def fnExactTradesEndSpec : ChangeSpec := { name := "fnExactTradesEnd", fn := fun _ => fun
  | [d1, d2] => { results := [.lit (.bool true)], args := [d1, d2] }
  | _ => none }
def fnExactTradesEndRow : OpenClaim := { program := "ytgibeillafnieaa", sum := "bc2f2bf220daf505bbbad44c03fa74c85341333fe22ef47a4bd53d5a91a9473e", func := "loop.example/ordinalhydras/laws.FnExactTradesEnd", spec := "fnExactTradesEnd", recurses := true, plainKeys := false, apart := false }
def FnExactTradesEndSaid : Prop := fnExactTradesEndRow.holds Try.pinned (OpenSpec.ofChange fnExactTradesEndSpec)

/-- ITS FALSE NEIGHBOUR: 'it returns false'. Refute it at one input. -/
def fnExactTradesEndWrong : ChangeSpec := { name := "fnExactTradesEnd", fn := fun _ => fun
  | [d1, d2] => { results := [.lit (.bool false)], args := [d1, d2] }
  | _ => none }
def FnExactTradesEndWrongFalsely : Prop := fnExactTradesEndRow.holds Try.pinned (OpenSpec.ofChange fnExactTradesEndWrong)

/- THE SECOND FORM. 'bulk': how many values and letters a reading holds, each counted each time it is reached (what is shared counts as often as it is met; a slice's spare places count too). A statement '..UptoSaid' is the law's where the arguments, and the package variables that the reading takes, are together of bulk at most 1048576: NARROWER than '..Said'. Prove '..Said' where nothing that the law and all that it calls make is longer than what came in: it says more and counts as full. Else prove '..UptoSaid'. A law counts once. -/
mutual
def uptoBulk {H : Type} : DataW H → Nat
  | .lit (.string bytes) => bytes.length + 1
  | .lit _ => 1
  | .nil => 1
  | .ptr d => uptoBulk d + 1
  | .slice elems spare => uptoBulkAll elems + uptoBulkAll spare + 1
  | .agg parts => uptoBulkAll parts + 1
  | .iface _ d => uptoBulk d + 1
  | .map entries => uptoBulkEntries entries + 1
  | .held _ => 1
def uptoBulkAll {H : Type} : List (DataW H) → Nat
  | [] => 0
  | d :: r => uptoBulk d + uptoBulkAll r
def uptoBulkEntries {H : Type} : List (Lit × DataW H) → Nat
  | [] => 0
  | x :: r => uptoBulkEntry x + uptoBulkEntries r
def uptoBulkEntry {H : Type} : Lit × DataW H → Nat
  | (.string bytes, d) => bytes.length + uptoBulk d + 1
  | (_, d) => uptoBulk d + 1
 end
def uptoSmall : (H : Type) → List (DataW H) → Bool := fun _ ds => decide (uptoBulkAll ds ≤ 1048576)
def OpenSpec.upto (s : _root_.Go.ChangeSpec) : _root_.Go.OpenSpec := { _root_.Go.OpenSpec.ofChange s with cond := some uptoSmall }

/-- 'laws.FnExactHeapsReached', WHERE WHAT IT READS IS OF BULK AT MOST 1048576: true; the input reads as it did. -/
def fnExactHeapsReachedUptoRow : OpenClaim := { program := "ytgibeillafnieaa", sum := "bc2f2bf220daf505bbbad44c03fa74c85341333fe22ef47a4bd53d5a91a9473e", func := "loop.example/ordinalhydras/laws.FnExactHeapsReached", spec := "fnExactHeapsReached", plainKeys := false, apart := false, narrowed := true }
def FnExactHeapsReachedUptoSaid : Prop := fnExactHeapsReachedUptoRow.holds Try.pinned (OpenSpec.upto fnExactHeapsReachedSpec)

/-- 'laws.FnHeapsReached', WHERE WHAT IT READS IS OF BULK AT MOST 1048576: true; the input reads as it did. -/
def fnHeapsReachedUptoRow : OpenClaim := { program := "ytgibeillafnieaa", sum := "bc2f2bf220daf505bbbad44c03fa74c85341333fe22ef47a4bd53d5a91a9473e", func := "loop.example/ordinalhydras/laws.FnHeapsReached", spec := "fnHeapsReached", recurses := true, plainKeys := false, apart := false, narrowed := true }
def FnHeapsReachedUptoSaid : Prop := fnHeapsReachedUptoRow.holds Try.pinned (OpenSpec.upto fnHeapsReachedSpec)

/-- 'laws.FnExactLongestTrades', WHERE WHAT IT READS IS OF BULK AT MOST 1048576: true; the input reads as it did. -/
def fnExactLongestTradesUptoRow : OpenClaim := { program := "ytgibeillafnieaa", sum := "bc2f2bf220daf505bbbad44c03fa74c85341333fe22ef47a4bd53d5a91a9473e", func := "loop.example/ordinalhydras/laws.FnExactLongestTrades", spec := "fnExactLongestTrades", plainKeys := false, apart := false, narrowed := true }
def FnExactLongestTradesUptoSaid : Prop := fnExactLongestTradesUptoRow.holds Try.pinned (OpenSpec.upto fnExactLongestTradesSpec)

/-- 'laws.FnTradesRun', WHERE WHAT IT READS IS OF BULK AT MOST 1048576: true; the input reads as it did. -/
def fnTradesRunUptoRow : OpenClaim := { program := "ytgibeillafnieaa", sum := "bc2f2bf220daf505bbbad44c03fa74c85341333fe22ef47a4bd53d5a91a9473e", func := "loop.example/ordinalhydras/laws.FnTradesRun", spec := "fnTradesRun", recurses := true, plainKeys := false, apart := false, narrowed := true }
def FnTradesRunUptoSaid : Prop := fnTradesRunUptoRow.holds Try.pinned (OpenSpec.upto fnTradesRunSpec)

/-- 'laws.FnExactHeapsLast', WHERE WHAT IT READS IS OF BULK AT MOST 1048576: true; the input reads as it did. -/
def fnExactHeapsLastUptoRow : OpenClaim := { program := "ytgibeillafnieaa", sum := "bc2f2bf220daf505bbbad44c03fa74c85341333fe22ef47a4bd53d5a91a9473e", func := "loop.example/ordinalhydras/laws.FnExactHeapsLast", spec := "fnExactHeapsLast", plainKeys := false, apart := false, narrowed := true }
def FnExactHeapsLastUptoSaid : Prop := fnExactHeapsLastUptoRow.holds Try.pinned (OpenSpec.upto fnExactHeapsLastSpec)

/-- 'laws.FnLongestTrades', WHERE WHAT IT READS IS OF BULK AT MOST 1048576: true; the input reads as it did. -/
def fnLongestTradesUptoRow : OpenClaim := { program := "ytgibeillafnieaa", sum := "bc2f2bf220daf505bbbad44c03fa74c85341333fe22ef47a4bd53d5a91a9473e", func := "loop.example/ordinalhydras/laws.FnLongestTrades", spec := "fnLongestTrades", recurses := true, plainKeys := false, apart := false, narrowed := true }
def FnLongestTradesUptoSaid : Prop := fnLongestTradesUptoRow.holds Try.pinned (OpenSpec.upto fnLongestTradesSpec)

/-- 'laws.FnHeapsLast', WHERE WHAT IT READS IS OF BULK AT MOST 1048576: true; the input reads as it did. -/
def fnHeapsLastUptoRow : OpenClaim := { program := "ytgibeillafnieaa", sum := "bc2f2bf220daf505bbbad44c03fa74c85341333fe22ef47a4bd53d5a91a9473e", func := "loop.example/ordinalhydras/laws.FnHeapsLast", spec := "fnHeapsLast", recurses := true, plainKeys := false, apart := false, narrowed := true }
def FnHeapsLastUptoSaid : Prop := fnHeapsLastUptoRow.holds Try.pinned (OpenSpec.upto fnHeapsLastSpec)

/-- 'laws.FnTradesEnd', WHERE WHAT IT READS IS OF BULK AT MOST 1048576: true; the input reads as it did. -/
def fnTradesEndUptoRow : OpenClaim := { program := "ytgibeillafnieaa", sum := "bc2f2bf220daf505bbbad44c03fa74c85341333fe22ef47a4bd53d5a91a9473e", func := "loop.example/ordinalhydras/laws.FnTradesEnd", spec := "fnTradesEnd", recurses := true, plainKeys := false, apart := false, narrowed := true }
def FnTradesEndUptoSaid : Prop := fnTradesEndUptoRow.holds Try.pinned (OpenSpec.upto fnTradesEndSpec)

/-- 'laws.FnExactHeapsOrd', WHERE WHAT IT READS IS OF BULK AT MOST 1048576: true; the input reads as it did. -/
def fnExactHeapsOrdUptoRow : OpenClaim := { program := "ytgibeillafnieaa", sum := "bc2f2bf220daf505bbbad44c03fa74c85341333fe22ef47a4bd53d5a91a9473e", func := "loop.example/ordinalhydras/laws.FnExactHeapsOrd", spec := "fnExactHeapsOrd", recurses := true, plainKeys := false, apart := false, narrowed := true }
def FnExactHeapsOrdUptoSaid : Prop := fnExactHeapsOrdUptoRow.holds Try.pinned (OpenSpec.upto fnExactHeapsOrdSpec)

/-- 'laws.FnHeapsOrd', WHERE WHAT IT READS IS OF BULK AT MOST 1048576: true; the input reads as it did. -/
def fnHeapsOrdUptoRow : OpenClaim := { program := "ytgibeillafnieaa", sum := "bc2f2bf220daf505bbbad44c03fa74c85341333fe22ef47a4bd53d5a91a9473e", func := "loop.example/ordinalhydras/laws.FnHeapsOrd", spec := "fnHeapsOrd", recurses := true, plainKeys := false, apart := false, narrowed := true }
def FnHeapsOrdUptoSaid : Prop := fnHeapsOrdUptoRow.holds Try.pinned (OpenSpec.upto fnHeapsOrdSpec)

/-- 'laws.FnExactTradesEnd', WHERE WHAT IT READS IS OF BULK AT MOST 1048576: true; the input reads as it did. -/
def fnExactTradesEndUptoRow : OpenClaim := { program := "ytgibeillafnieaa", sum := "bc2f2bf220daf505bbbad44c03fa74c85341333fe22ef47a4bd53d5a91a9473e", func := "loop.example/ordinalhydras/laws.FnExactTradesEnd", spec := "fnExactTradesEnd", recurses := true, plainKeys := false, apart := false, narrowed := true }
def FnExactTradesEndUptoSaid : Prop := fnExactTradesEndUptoRow.holds Try.pinned (OpenSpec.upto fnExactTradesEndSpec)

end Rows
end Go.Proofs.Ytgibeillafnieaa
