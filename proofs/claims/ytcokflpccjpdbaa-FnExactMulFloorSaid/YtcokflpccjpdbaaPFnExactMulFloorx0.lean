-- PRINTED BY print.sh 35421559b90ae4d0a3588c463048766b98c2df88dd9212a6774a882060cdf62d: not written by this session
import Derived.Test.YtcokflpccjpdbaaProg
import Derived.Below
import Derived.Deep.Draws
import Derived.Deep.AppendLies
import Derived.Maps.AppendAt
import Derived.OwnWalk
import Derived.Laws.BytesArg
import Derived.Laws.MakeOwn
import Derived.Laws.OwnMore
import Derived.Deep.OwnRows
import Derived.Tactics
import Derived.Lib.ConvBytes
import Derived.Laws.Slices
import Derived.WalkKit
import Derived.KernelRfl
import Derived.RowKit3
import Derived.Deep.LoopGhost
import Derived.Deep.QuietTactic
import Derived.BigQuiet
import Derived.WideLaws
import Derived.Deep.DeepCutAuto
import Derived.Deep.CutBlock
import Derived.Deep.RegionHeld3
import Derived.Laws.Rows
import Derived.Lib.AppendStr
import Derived.ArgAppend
import Derived.Laws.IdiomCopy
import Derived.OrdersHeld
import Derived.Laws.BitsLemmas
import Derived.RowKit
import Derived.Test.YtcokflpccjpdbaaWWords
import Derived.Test.YtcokflpccjpdbaaWLast
import Derived.Test.YtcokflpccjpdbaaWTab
import Derived.Test.YtcokflpccjpdbaaWFour
import Derived.Test.YtcokflpccjpdbaaWQPut
import Derived.Test.YtcokflpccjpdbaaWApart
import Derived.Test.YtcokflpccjpdbaaWArr
import Derived.Test.YtcokflpccjpdbaaWZeros
import Derived.Test.YtcokflpccjpdbaaWFoot
import Derived.Test.YtcokflpccjpdbaaWKept
import Derived.Test.YtcokflpccjpdbaaWShare
import Derived.Test.YtcokflpccjpdbaaWN
import Derived.Test.YtcokflpccjpdbaaWFootNe
import Derived.Test.YtcokflpccjpdbaaWAt
import Derived.Test.YtcokflpccjpdbaaWEqStruct
import Derived.Test.YtcokflpccjpdbaaWRepsOne
import Derived.Test.YtcokflpccjpdbaaWInv
import Derived.Test.YtcokflpccjpdbaaWInvWords
import Derived.Test.YtcokflpccjpdbaaWGuard
import Derived.Test.YtcokflpccjpdbaaWNEv
import Derived.Test.YtcokflpccjpdbaaWMore
namespace Go.Proofs.Ytcokflpccjpdbaa.PFnExactMulFloor
open Go.RowKit Go.Proofs.YtcokflpccjpdbaaW.PrintWords Go.Proofs.YtcokflpccjpdbaaW.PrintLast Go.Proofs.YtcokflpccjpdbaaW.PrintMore
attribute [local go_sem] max2_int min2_int max_two min_two max_three min_three max_four min_four   -- for this text's walks alone
set_option linter.unusedVariables false
set_option linter.unusedSimpArgs false



def errW : Option Int → Value
  | none => .nilIface
  | some c => .iface 0 (.int .i64 c)
theorem errW_none : errW none = .nilIface := rfl
theorem errW_some (c : Int) : errW (some c) = .iface 0 (.int .i64 c) := rfl

-- the values' own types

end Go.Proofs.Ytcokflpccjpdbaa.PFnExactMulFloor
