/- Functions that a law reaches, as Lean functions, and that the Go text's calls come to just these; no condition but that the Lean function's value is told. (Written by the kit's print.py over contracts of this session.) -/
import Derived.Test.YtcaabdilfnicfaaGreatDoorProg
import Derived.Below
import Derived.Deep.Draws
import Derived.Deep.AppendLies
import Derived.Maps.AppendAt
import Derived.OwnWalk
import Derived.Laws.BytesArg
import Derived.Laws.MakeOwn
import Derived.Laws.OwnMore
import Derived.Deep.OwnRows
import Derived.Tactics
import Derived.Lib.ConvBytes
import Derived.Laws.Slices
import Derived.WalkKit
import Derived.KernelRfl
import Derived.RowKit3
import Derived.Deep.LoopGhost
import Derived.Deep.QuietTactic
import Derived.BigQuiet
import Derived.WideLaws
import Derived.Deep.DeepCutAuto
import Derived.Deep.CutBlock
import Derived.Deep.RegionHeld3
import Derived.Laws.Rows
import Derived.Lib.AppendStr
import Derived.ArgAppend
import Derived.Laws.IdiomCopy
import Derived.OrdersHeld
import Derived.Laws.BitsLemmas
import Derived.RowKit
import Derived.Test.YtcaabdilfnicfaaGreatDoorExt
import Derived.Test.YtcaabdilfnicfaaGreatDoorExtCut
import Derived.Test.YtcaabdilfnicfaaGreatDoorWWords
import Derived.Test.YtcaabdilfnicfaaGreatDoorWLast
import Derived.Test.YtcaabdilfnicfaaGreatDoorWTab
import Derived.Test.YtcaabdilfnicfaaGreatDoorWFour
import Derived.Test.YtcaabdilfnicfaaGreatDoorWQPut
import Derived.Test.YtcaabdilfnicfaaGreatDoorWApart
import Derived.Test.YtcaabdilfnicfaaGreatDoorWArr
import Derived.Test.YtcaabdilfnicfaaGreatDoorWZeros
import Derived.Test.YtcaabdilfnicfaaGreatDoorWFoot
import Derived.Test.YtcaabdilfnicfaaGreatDoorWKept
import Derived.Test.YtcaabdilfnicfaaGreatDoorWShare
import Derived.Test.YtcaabdilfnicfaaGreatDoorWN
import Derived.Test.YtcaabdilfnicfaaGreatDoorWFootNe
import Derived.Test.YtcaabdilfnicfaaGreatDoorWAt
import Derived.Test.YtcaabdilfnicfaaGreatDoorWEqStruct
import Derived.Test.YtcaabdilfnicfaaGreatDoorWRepsOne
import Derived.Test.YtcaabdilfnicfaaGreatDoorWInv
import Derived.Test.YtcaabdilfnicfaaGreatDoorWInvWords
import Derived.Test.YtcaabdilfnicfaaGreatDoorWGuard
import Derived.Test.YtcaabdilfnicfaaGreatDoorWNEv
import Derived.Test.YtcaabdilfnicfaaGreatDoorWMore
namespace Go.Proofs.YtcaabdilfnicfaaGreatDoor.PFnExactReadFix
open Go.RowKit Go.Proofs.YtcaabdilfnicfaaGreatDoor.Ext Go.Proofs.YtcaabdilfnicfaaGreatDoorW.PrintWords Go.Proofs.YtcaabdilfnicfaaGreatDoorW.PrintLast Go.Proofs.YtcaabdilfnicfaaGreatDoorW.PrintMore
attribute [local go_sem] max2_int min2_int max_two min_two max_three min_three max_four min_four   -- for this text's walks alone
set_option linter.unusedVariables false
set_option linter.unusedSimpArgs false



def errW : Option Int → Value
  | none => .nilIface
  | some c => .iface 0 (.int .i64 c)
theorem errW_none : errW none = .nilIface := rfl
theorem errW_some (c : Int) : errW (some c) = .iface 0 (.int .i64 c) := rfl

theorem info5 : (Tryz.prog.info? 5).map (fun i => (i.zero, i.size, i.bytes)) = some (some (.int .u8 0), 1, 1) := by kernel_rfl
-- the values' own types

end Go.Proofs.YtcaabdilfnicfaaGreatDoor.PFnExactReadFix
