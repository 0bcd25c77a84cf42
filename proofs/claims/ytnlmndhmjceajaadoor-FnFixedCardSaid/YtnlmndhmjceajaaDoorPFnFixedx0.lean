/- Functions that a law reaches, as Lean functions, and that the Go text's calls come to just these; no condition but that the Lean function's value is told. (Written by the kit's print.py over contracts of this session.) -/
import Derived.Test.YtnlmndhmjceajaaDoorProg
import Derived.Below
import Derived.Deep.Draws
import Derived.Deep.AppendLies
import Derived.Maps.AppendAt
import Derived.OwnWalk
import Derived.Laws.BytesArg
import Derived.Laws.MakeOwn
import Derived.Laws.OwnMore
import Derived.Deep.OwnRows
import Derived.Tactics
import Derived.Lib.ConvBytes
import Derived.Laws.Slices
import Derived.WalkKit
import Derived.KernelRfl
import Derived.RowKit3
import Derived.Deep.LoopGhost
import Derived.Deep.QuietTactic
import Derived.BigQuiet
import Derived.WideLaws
import Derived.Deep.DeepCutAuto
import Derived.Deep.CutBlock
import Derived.Deep.RegionHeld3
import Derived.Laws.Rows
import Derived.Lib.AppendStr
import Derived.ArgAppend
import Derived.Laws.IdiomCopy
import Derived.OrdersHeld
import Derived.Laws.BitsLemmas
import Derived.RowKit
import Derived.Test.YtnlmndhmjceajaaDoorExt
import Derived.Test.YtnlmndhmjceajaaDoorExtCut
import Derived.Test.YtnlmndhmjceajaaDoorWWords
import Derived.Test.YtnlmndhmjceajaaDoorWLast
import Derived.Test.YtnlmndhmjceajaaDoorWTab
import Derived.Test.YtnlmndhmjceajaaDoorWFour
import Derived.Test.YtnlmndhmjceajaaDoorWQPut
import Derived.Test.YtnlmndhmjceajaaDoorWApart
import Derived.Test.YtnlmndhmjceajaaDoorWArr
import Derived.Test.YtnlmndhmjceajaaDoorWZeros
import Derived.Test.YtnlmndhmjceajaaDoorWFoot
import Derived.Test.YtnlmndhmjceajaaDoorWKept
import Derived.Test.YtnlmndhmjceajaaDoorWShare
import Derived.Test.YtnlmndhmjceajaaDoorWN
import Derived.Test.YtnlmndhmjceajaaDoorWFootNe
import Derived.Test.YtnlmndhmjceajaaDoorWAt
import Derived.Test.YtnlmndhmjceajaaDoorWEqStruct
import Derived.Test.YtnlmndhmjceajaaDoorWRepsOne
import Derived.Test.YtnlmndhmjceajaaDoorWInv
import Derived.Test.YtnlmndhmjceajaaDoorWInvWords
import Derived.Test.YtnlmndhmjceajaaDoorWGuard
import Derived.Test.YtnlmndhmjceajaaDoorWNEv
import Derived.Test.YtnlmndhmjceajaaDoorWMore
namespace Go.Proofs.YtnlmndhmjceajaaDoor.PFnFixed
open Go.RowKit Go.Proofs.YtnlmndhmjceajaaDoor.Ext Go.Proofs.YtnlmndhmjceajaaDoorW.PrintWords Go.Proofs.YtnlmndhmjceajaaDoorW.PrintLast Go.Proofs.YtnlmndhmjceajaaDoorW.PrintMore
attribute [local go_sem] max2_int min2_int max_two min_two max_three min_three max_four min_four   -- for this text's walks alone
set_option linter.unusedVariables false
set_option linter.unusedSimpArgs false



def errW : Option Int → Value
  | none => .nilIface
  | some c => .iface 0 (.int .i64 c)
theorem errW_none : errW none = .nilIface := rfl
theorem errW_some (c : Int) : errW (some c) = .iface 0 (.int .i64 c) := rfl

theorem info2 : (Tryd.prog.info? 2).map (fun i => (i.zero, i.size, i.bytes)) = some (some (.int .i64 0), 1, 8) := by kernel_rfl
-- the values' own types

end Go.Proofs.YtnlmndhmjceajaaDoor.PFnFixed
