/- Functions that a law reaches, as Lean functions, and that the Go text's calls come to just these; no condition but that the Lean function's value is told. (Written by the kit's print.py over contracts of this session.) -/
import Derived.Test.YtgahdlmflnpihaaProg
import Derived.Below
import Derived.Deep.Draws
import Derived.Deep.AppendLies
import Derived.Maps.AppendAt
import Derived.OwnWalk
import Derived.Laws.BytesArg
import Derived.Laws.MakeOwn
import Derived.Laws.OwnMore
import Derived.Deep.OwnRows
import Derived.Tactics
import Derived.Lib.ConvBytes
import Derived.Laws.Slices
import Derived.WalkKit
import Derived.KernelRfl
import Derived.RowKit3
import Derived.Deep.LoopGhost
import Derived.Deep.QuietTactic
import Derived.BigQuiet
import Derived.WideLaws
import Derived.Deep.DeepCutAuto
import Derived.Deep.CutBlock
import Derived.Deep.RegionHeld3
import Derived.Laws.Rows
import Derived.Lib.AppendStr
import Derived.ArgAppend
import Derived.Laws.IdiomCopy
import Derived.OrdersHeld
import Derived.Laws.BitsLemmas
import Derived.RowKit
import Derived.Test.YtgahdlmflnpihaaExt
import Derived.Test.YtgahdlmflnpihaaExtCompare
import Derived.Test.YtgahdlmflnpihaaWWords
import Derived.Test.YtgahdlmflnpihaaWLast
import Derived.Test.YtgahdlmflnpihaaWTab
import Derived.Test.YtgahdlmflnpihaaWFour
import Derived.Test.YtgahdlmflnpihaaWQPut
import Derived.Test.YtgahdlmflnpihaaWApart
import Derived.Test.YtgahdlmflnpihaaWArr
import Derived.Test.YtgahdlmflnpihaaWZeros
import Derived.Test.YtgahdlmflnpihaaWFoot
import Derived.Test.YtgahdlmflnpihaaWKept
import Derived.Test.YtgahdlmflnpihaaWShare
import Derived.Test.YtgahdlmflnpihaaWN
import Derived.Test.YtgahdlmflnpihaaWFootNe
import Derived.Test.YtgahdlmflnpihaaWAt
import Derived.Test.YtgahdlmflnpihaaWEqStruct
import Derived.Test.YtgahdlmflnpihaaWRepsOne
import Derived.Test.YtgahdlmflnpihaaWInv
import Derived.Test.YtgahdlmflnpihaaWInvWords
import Derived.Test.YtgahdlmflnpihaaWGuard
import Derived.Test.YtgahdlmflnpihaaWNEv
import Derived.Test.YtgahdlmflnpihaaWMore
namespace Go.Proofs.Ytgahdlmflnpihaa.PFnWide
open Go.RowKit Go.Proofs.Ytgahdlmflnpihaa.Ext Go.Proofs.YtgahdlmflnpihaaW.PrintWords Go.Proofs.YtgahdlmflnpihaaW.PrintLast Go.Proofs.YtgahdlmflnpihaaW.PrintMore
attribute [local go_sem] max2_int min2_int max_two min_two max_three min_three max_four min_four   -- for this text's walks alone
set_option linter.unusedVariables false
set_option linter.unusedSimpArgs false



def errW : Option Int → Value
  | none => .nilIface
  | some c => .iface 0 (.int .i64 c)
theorem errW_none : errW none = .nilIface := rfl
theorem errW_some (c : Int) : errW (some c) = .iface 0 (.int .i64 c) := rfl

theorem info2 : (Try.prog.info? 2).map (fun i => (i.zero, i.size, i.bytes)) = some (some (.int .i64 0), 1, 8) := by kernel_rfl
-- the values' own types

end Go.Proofs.Ytgahdlmflnpihaa.PFnWide
