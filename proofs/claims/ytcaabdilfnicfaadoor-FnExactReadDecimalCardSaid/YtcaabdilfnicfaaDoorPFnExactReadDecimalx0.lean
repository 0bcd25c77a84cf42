/- Functions that a law reaches, as Lean functions, and that the Go text's calls come to just these; no condition but that the Lean function's value is told. (Written by the kit's print.py over contracts of this session.) -/
import Derived.Test.YtcaabdilfnicfaaDoorProg
import Derived.Below
import Derived.Deep.Draws
import Derived.Deep.AppendLies
import Derived.Maps.AppendAt
import Derived.OwnWalk
import Derived.Laws.BytesArg
import Derived.Laws.MakeOwn
import Derived.Laws.OwnMore
import Derived.Deep.OwnRows
import Derived.Tactics
import Derived.Lib.ConvBytes
import Derived.Laws.Slices
import Derived.WalkKit
import Derived.KernelRfl
import Derived.RowKit3
import Derived.Deep.LoopGhost
import Derived.Deep.QuietTactic
import Derived.BigQuiet
import Derived.WideLaws
import Derived.Deep.DeepCutAuto
import Derived.Deep.CutBlock
import Derived.Deep.RegionHeld3
import Derived.Laws.Rows
import Derived.Lib.AppendStr
import Derived.ArgAppend
import Derived.Laws.IdiomCopy
import Derived.OrdersHeld
import Derived.Laws.BitsLemmas
import Derived.RowKit
import Derived.Test.YtcaabdilfnicfaaDoorExt
import Derived.Test.YtcaabdilfnicfaaDoorExtErr
import Derived.Test.YtcaabdilfnicfaaDoorWWords
import Derived.Test.YtcaabdilfnicfaaDoorWLast
import Derived.Test.YtcaabdilfnicfaaDoorWTab
import Derived.Test.YtcaabdilfnicfaaDoorWFour
import Derived.Test.YtcaabdilfnicfaaDoorWQPut
import Derived.Test.YtcaabdilfnicfaaDoorWApart
import Derived.Test.YtcaabdilfnicfaaDoorWArr
import Derived.Test.YtcaabdilfnicfaaDoorWZeros
import Derived.Test.YtcaabdilfnicfaaDoorWFoot
import Derived.Test.YtcaabdilfnicfaaDoorWKept
import Derived.Test.YtcaabdilfnicfaaDoorWShare
import Derived.Test.YtcaabdilfnicfaaDoorWN
import Derived.Test.YtcaabdilfnicfaaDoorWFootNe
import Derived.Test.YtcaabdilfnicfaaDoorWAt
import Derived.Test.YtcaabdilfnicfaaDoorWEqStruct
import Derived.Test.YtcaabdilfnicfaaDoorWRepsOne
import Derived.Test.YtcaabdilfnicfaaDoorWInv
import Derived.Test.YtcaabdilfnicfaaDoorWInvWords
import Derived.Test.YtcaabdilfnicfaaDoorWGuard
import Derived.Test.YtcaabdilfnicfaaDoorWNEv
import Derived.Test.YtcaabdilfnicfaaDoorWMore
namespace Go.Proofs.YtcaabdilfnicfaaDoor.PFnExactReadDecimal
open Go.RowKit Go.Proofs.YtcaabdilfnicfaaDoor.Ext Go.Proofs.YtcaabdilfnicfaaDoorW.PrintWords Go.Proofs.YtcaabdilfnicfaaDoorW.PrintLast Go.Proofs.YtcaabdilfnicfaaDoorW.PrintMore
attribute [local go_sem] max2_int min2_int max_two min_two max_three min_three max_four min_four   -- for this text's walks alone
set_option linter.unusedVariables false
set_option linter.unusedSimpArgs false



def errW : Option Int → Value
  | none => .nilIface
  | some c => .iface 0 (.int .i64 c)
theorem errW_none : errW none = .nilIface := rfl
theorem errW_some (c : Int) : errW (some c) = .iface 0 (.int .i64 c) := rfl

theorem info5 : (Tryd.prog.info? 5).map (fun i => (i.zero, i.size, i.bytes)) = some (some (.int .u8 0), 1, 1) := by kernel_rfl
-- the values' own types

end Go.Proofs.YtcaabdilfnicfaaDoor.PFnExactReadDecimal
