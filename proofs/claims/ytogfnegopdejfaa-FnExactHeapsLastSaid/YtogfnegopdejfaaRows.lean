/-
  No cell of these rows narrows 'for every input' (looked for: loops, veiled, ifaces, maps, wideKeys, modest, calm, conditions, laid).
  DERIVED. THE GIVEN ROWS OF THIS SEAT. 2 by the template 'for every input the law returns true; each argument reads behind the call as it read before'; 0 by the template 'total and deterministic' (their statements: YtogfnegopdejfaaTotals.lean).
  GIVEN WITH THE SEED: the statements are not yours to turn. If you find one false, say at which input.
  Laid BY PROGRAM, IN A SANDBOX (cutbox-rows.mjs): the forced cells as the released guide's own fill.sh prints them over the translation c42355300f968da2… (all of the seat's roots in one cut). By AI agents, Wed Nov 11 2026. No macro, syntax, notation, axiom, sorry.
-/
import Derived.Test.YtogfnegopdejfaaChecked
import GoSem.Claim
import GoSem.ClaimJoined
import GoSem.ClaimMapViews
import Derived.JoinedTies
import Derived.KernelRfl
namespace Go.Proofs.Ytogfnegopdejfaa
/- THE CELL 'sum', in the pinned program and in every row, IS THE sha256 OF THE DUMP (.gsa) THAT YtogfnegopdejfaaProg.lean LOADS. Nothing in Lean hashes anything: it is a label: what it is worth is what the hold of that sum in a sandbox is worth. -/
noncomputable def Try.pinned : Pinned := { name := "ytogfnegopdejfaa", sum := "c42355300f968da27c0a2171dd6427fbbdd985be60fe93eb033a4444e05d22dd", checked := Try.checked }
namespace Rows
def none {H : Type} : Left H := { results := [], args := [] }

/-- 'laws.FnExactHeapsReached': WHATEVER THE INPUT: true; the input reads as it did. -/
def fnExactHeapsReachedSpec : ChangeSpec := { name := "fnExactHeapsReached", fn := fun _ => fun
  | [d1, d2] => { results := [.lit (.bool true)], args := [d1, d2] }
  | _ => none }
def fnExactHeapsReachedRow : OpenClaim := { program := "ytogfnegopdejfaa", sum := "c42355300f968da27c0a2171dd6427fbbdd985be60fe93eb033a4444e05d22dd", func := "loop.example/ordinalhydras/laws.FnExactHeapsReached", spec := "fnExactHeapsReached", plainKeys := false, apart := false }
def FnExactHeapsReachedSaid : Prop := fnExactHeapsReachedRow.holds Try.pinned (OpenSpec.ofChange fnExactHeapsReachedSpec)

/-- ITS FALSE NEIGHBOUR: 'it returns false'. Refute it at one input. -/
def fnExactHeapsReachedWrong : ChangeSpec := { name := "fnExactHeapsReached", fn := fun _ => fun
  | [d1, d2] => { results := [.lit (.bool false)], args := [d1, d2] }
  | _ => none }
def FnExactHeapsReachedWrongFalsely : Prop := fnExactHeapsReachedRow.holds Try.pinned (OpenSpec.ofChange fnExactHeapsReachedWrong)

/-- 'laws.FnExactHeapsLast': WHATEVER THE INPUT: true; the input reads as it did. -/
def fnExactHeapsLastSpec : ChangeSpec := { name := "fnExactHeapsLast", fn := fun _ => fun
  | [d1, d2] => { results := [.lit (.bool true)], args := [d1, d2] }
  | _ => none }
def fnExactHeapsLastRow : OpenClaim := { program := "ytogfnegopdejfaa", sum := "c42355300f968da27c0a2171dd6427fbbdd985be60fe93eb033a4444e05d22dd", func := "loop.example/ordinalhydras/laws.FnExactHeapsLast", spec := "fnExactHeapsLast", plainKeys := false, apart := false }
def FnExactHeapsLastSaid : Prop := fnExactHeapsLastRow.holds Try.pinned (OpenSpec.ofChange fnExactHeapsLastSpec)

/-- ITS FALSE NEIGHBOUR: 'it returns false'. Refute it at one input. -/
def fnExactHeapsLastWrong : ChangeSpec := { name := "fnExactHeapsLast", fn := fun _ => fun
  | [d1, d2] => { results := [.lit (.bool false)], args := [d1, d2] }
  | _ => none }
def FnExactHeapsLastWrongFalsely : Prop := fnExactHeapsLastRow.holds Try.pinned (OpenSpec.ofChange fnExactHeapsLastWrong)

/- THE SECOND FORM. 'bulk': how many values and letters a reading holds, each counted each time it is reached (what is shared counts as often as it is met; a slice's spare places count too). A statement '..UptoSaid' is the law's where the arguments, and the package variables that the reading takes, are together of bulk at most 1048576: NARROWER than '..Said'. Prove '..Said' where nothing that the law and all that it calls make is longer than what came in: it says more and counts as full. Else prove '..UptoSaid'. A law counts once. -/
mutual
def uptoBulk {H : Type} : DataW H → Nat
  | .lit (.string bytes) => bytes.length + 1
  | .lit _ => 1
  | .nil => 1
  | .ptr d => uptoBulk d + 1
  | .slice elems spare => uptoBulkAll elems + uptoBulkAll spare + 1
  | .agg parts => uptoBulkAll parts + 1
  | .iface _ d => uptoBulk d + 1
  | .map entries => uptoBulkEntries entries + 1
  | .held _ => 1
def uptoBulkAll {H : Type} : List (DataW H) → Nat
  | [] => 0
  | d :: r => uptoBulk d + uptoBulkAll r
def uptoBulkEntries {H : Type} : List (Lit × DataW H) → Nat
  | [] => 0
  | x :: r => uptoBulkEntry x + uptoBulkEntries r
def uptoBulkEntry {H : Type} : Lit × DataW H → Nat
  | (.string bytes, d) => bytes.length + uptoBulk d + 1
  | (_, d) => uptoBulk d + 1
 end
def uptoSmall : (H : Type) → List (DataW H) → Bool := fun _ ds => decide (uptoBulkAll ds ≤ 1048576)
def OpenSpec.upto (s : _root_.Go.ChangeSpec) : _root_.Go.OpenSpec := { _root_.Go.OpenSpec.ofChange s with cond := some uptoSmall }

/-- 'laws.FnExactHeapsReached', WHERE WHAT IT READS IS OF BULK AT MOST 1048576: true; the input reads as it did. -/
def fnExactHeapsReachedUptoRow : OpenClaim := { program := "ytogfnegopdejfaa", sum := "c42355300f968da27c0a2171dd6427fbbdd985be60fe93eb033a4444e05d22dd", func := "loop.example/ordinalhydras/laws.FnExactHeapsReached", spec := "fnExactHeapsReached", plainKeys := false, apart := false, narrowed := true }
def FnExactHeapsReachedUptoSaid : Prop := fnExactHeapsReachedUptoRow.holds Try.pinned (OpenSpec.upto fnExactHeapsReachedSpec)

/-- 'laws.FnExactHeapsLast', WHERE WHAT IT READS IS OF BULK AT MOST 1048576: true; the input reads as it did. -/
def fnExactHeapsLastUptoRow : OpenClaim := { program := "ytogfnegopdejfaa", sum := "c42355300f968da27c0a2171dd6427fbbdd985be60fe93eb033a4444e05d22dd", func := "loop.example/ordinalhydras/laws.FnExactHeapsLast", spec := "fnExactHeapsLast", plainKeys := false, apart := false, narrowed := true }
def FnExactHeapsLastUptoSaid : Prop := fnExactHeapsLastUptoRow.holds Try.pinned (OpenSpec.upto fnExactHeapsLastSpec)

end Rows
end Go.Proofs.Ytogfnegopdejfaa
