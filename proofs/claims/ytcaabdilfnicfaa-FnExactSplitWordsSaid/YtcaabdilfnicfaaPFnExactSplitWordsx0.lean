/- Functions that a law reaches, as Lean functions, and that the Go text's calls come to just these; no condition but that the Lean function's value is told. (Written by the kit's print.py over contracts of this session.) -/
import Derived.Test.YtcaabdilfnicfaaProg
import Derived.Below
import Derived.Deep.Draws
import Derived.Deep.AppendLies
import Derived.Maps.AppendAt
import Derived.OwnWalk
import Derived.Laws.BytesArg
import Derived.Laws.MakeOwn
import Derived.Laws.OwnMore
import Derived.Deep.OwnRows
import Derived.Tactics
import Derived.Lib.ConvBytes
import Derived.Laws.Slices
import Derived.WalkKit
import Derived.KernelRfl
import Derived.RowKit3
import Derived.Deep.LoopGhost
import Derived.Deep.QuietTactic
import Derived.BigQuiet
import Derived.WideLaws
import Derived.Deep.DeepCutAuto
import Derived.Deep.CutBlock
import Derived.Deep.RegionHeld3
import Derived.Laws.Rows
import Derived.Lib.AppendStr
import Derived.ArgAppend
import Derived.Laws.IdiomCopy
import Derived.OrdersHeld
import Derived.Laws.BitsLemmas
import Derived.RowKit
import Derived.Test.YtcaabdilfnicfaaExt
import Derived.Test.YtcaabdilfnicfaaExtSplit
import Derived.Test.YtcaabdilfnicfaaWWords
import Derived.Test.YtcaabdilfnicfaaWLast
import Derived.Test.YtcaabdilfnicfaaWTab
import Derived.Test.YtcaabdilfnicfaaWFour
import Derived.Test.YtcaabdilfnicfaaWQPut
import Derived.Test.YtcaabdilfnicfaaWApart
import Derived.Test.YtcaabdilfnicfaaWArr
import Derived.Test.YtcaabdilfnicfaaWZeros
import Derived.Test.YtcaabdilfnicfaaWFoot
import Derived.Test.YtcaabdilfnicfaaWKept
import Derived.Test.YtcaabdilfnicfaaWShare
import Derived.Test.YtcaabdilfnicfaaWN
import Derived.Test.YtcaabdilfnicfaaWFootNe
import Derived.Test.YtcaabdilfnicfaaWAt
import Derived.Test.YtcaabdilfnicfaaWEqStruct
import Derived.Test.YtcaabdilfnicfaaWRepsOne
import Derived.Test.YtcaabdilfnicfaaWInv
import Derived.Test.YtcaabdilfnicfaaWInvWords
import Derived.Test.YtcaabdilfnicfaaWGuard
import Derived.Test.YtcaabdilfnicfaaWNEv
import Derived.Test.YtcaabdilfnicfaaWMore
namespace Go.Proofs.Ytcaabdilfnicfaa.PFnExactSplitWords
open Go.RowKit Go.Proofs.Ytcaabdilfnicfaa.Ext Go.Proofs.YtcaabdilfnicfaaW.PrintWords Go.Proofs.YtcaabdilfnicfaaW.PrintLast Go.Proofs.YtcaabdilfnicfaaW.PrintMore
attribute [local go_sem] max2_int min2_int max_two min_two max_three min_three max_four min_four   -- for this text's walks alone
set_option linter.unusedVariables false
set_option linter.unusedSimpArgs false



def errW : Option Int → Value
  | none => .nilIface
  | some c => .iface 0 (.int .i64 c)
theorem errW_none : errW none = .nilIface := rfl
theorem errW_some (c : Int) : errW (some c) = .iface 0 (.int .i64 c) := rfl

theorem info5 : (Try.prog.info? 5).map (fun i => (i.zero, i.size, i.bytes)) = some (some (.int .u8 0), 1, 1) := by kernel_rfl
theorem info9 : (Try.prog.info? 9).map (fun i => (i.zero, i.size, i.bytes)) = some (some (.string ⟨#[]⟩), 1, 16) := by kernel_rfl
-- the values' own types

end Go.Proofs.Ytcaabdilfnicfaa.PFnExactSplitWords
