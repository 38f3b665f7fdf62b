-- Written by this session's own program (xprint.py: the kit's printer with changes): not a printed text
import Derived.Test.YtajecpmdagbojaaProg
import Derived.Below
import Derived.Deep.Draws
import Derived.Deep.AppendLies
import Derived.Maps.AppendAt
import Derived.OwnWalk
import Derived.Laws.BytesArg
import Derived.Laws.MakeOwn
import Derived.Laws.OwnMore
import Derived.Deep.OwnRows
import Derived.Tactics
import Derived.Lib.ConvBytes
import Derived.Laws.Slices
import Derived.WalkKit
import Derived.KernelRfl
import Derived.RowKit3
import Derived.Deep.LoopGhost
import Derived.Deep.QuietTactic
import Derived.BigQuiet
import Derived.WideLaws
import Derived.Deep.DeepCutAuto
import Derived.Deep.CutBlock
import Derived.Deep.RegionHeld3
import Derived.Laws.Rows
import Derived.Lib.AppendStr
import Derived.ArgAppend
import Derived.Laws.IdiomCopy
import Derived.OrdersHeld
import Derived.Laws.BitsLemmas
import Derived.RowKit
import Derived.Test.YtajecpmdagbojaaWWords
import Derived.Test.YtajecpmdagbojaaWLast
import Derived.Test.YtajecpmdagbojaaWTab
import Derived.Test.YtajecpmdagbojaaWFour
import Derived.Test.YtajecpmdagbojaaWQPut
import Derived.Test.YtajecpmdagbojaaWApart
import Derived.Test.YtajecpmdagbojaaWArr
import Derived.Test.YtajecpmdagbojaaWZeros
import Derived.Test.YtajecpmdagbojaaWFoot
import Derived.Test.YtajecpmdagbojaaWKept
import Derived.Test.YtajecpmdagbojaaWShare
import Derived.Test.YtajecpmdagbojaaWN
import Derived.Test.YtajecpmdagbojaaWFootNe
import Derived.Test.YtajecpmdagbojaaWAt
import Derived.Test.YtajecpmdagbojaaWEqStruct
import Derived.Test.YtajecpmdagbojaaWRepsOne
import Derived.Test.YtajecpmdagbojaaWInv
import Derived.Test.YtajecpmdagbojaaWInvWords
import Derived.Test.YtajecpmdagbojaaWGuard
import Derived.Test.YtajecpmdagbojaaWNEv
import Derived.Test.YtajecpmdagbojaaWMore
namespace Go.Proofs.Ytajecpmdagbojaa.PFnExactTradeDo
open Go.RowKit Go.Proofs.YtajecpmdagbojaaW.PrintWords Go.Proofs.YtajecpmdagbojaaW.PrintLast Go.Proofs.YtajecpmdagbojaaW.PrintMore
attribute [local go_sem] max2_int min2_int max_two min_two max_three min_three max_four min_four   -- for this text's walks alone
set_option linter.unusedVariables false
set_option linter.unusedSimpArgs false



def errW : Option Int → Value
  | none => .nilIface
  | some c => .iface 0 (.int .i64 c)
theorem errW_none : errW none = .nilIface := rfl
theorem errW_some (c : Int) : errW (some c) = .iface 0 (.int .i64 c) := rfl

theorem info3 : (Try.prog.info? 3).map (fun i => (i.zero, i.size, i.bytes)) = some (some (.int .i64 0), 1, 8) := by kernel_rfl
-- the values' own types

end Go.Proofs.Ytajecpmdagbojaa.PFnExactTradeDo
