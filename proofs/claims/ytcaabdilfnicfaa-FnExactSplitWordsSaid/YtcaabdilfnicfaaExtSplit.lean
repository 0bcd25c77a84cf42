/- The words of a text (impl.SplitWords): the library's strings.FieldsFunc at the closure that asks for a blank; no condition. -/
import Derived.Test.YtcaabdilfnicfaaExt
import Derived.Test.YtcaabdilfnicfaaShelf
import Derived.Below
import Derived.Deep.Draws
import Derived.Deep.AppendLies
import Derived.Maps.AppendAt
import Derived.OwnWalk
import Derived.Laws.BytesArg
import Derived.Laws.MakeOwn
import Derived.Laws.OwnMore
import Derived.Deep.OwnRows
import Derived.Tactics
import Derived.Lib.ConvBytes
import Derived.Laws.Slices
import Derived.WalkKit
import Derived.KernelRfl
import Derived.RowKit3
import Derived.Deep.LoopGhost
import Derived.Deep.QuietTactic
import Derived.BigQuiet
import Derived.WideLaws
import Derived.Deep.DeepCutAuto
import Derived.Deep.CutBlock
import Derived.Deep.RegionHeld3
import Derived.Laws.Rows
import Derived.Lib.AppendStr
import Derived.ArgAppend
import Derived.Laws.IdiomCopy
import Derived.OrdersHeld
import Derived.Laws.BitsLemmas
import Derived.RowKit
import Derived.Test.YtcaabdilfnicfaaWWords
import Derived.Test.YtcaabdilfnicfaaWLast
import Derived.Test.YtcaabdilfnicfaaWTab
import Derived.Test.YtcaabdilfnicfaaWFour
import Derived.Test.YtcaabdilfnicfaaWQPut
import Derived.Test.YtcaabdilfnicfaaWApart
import Derived.Test.YtcaabdilfnicfaaWArr
import Derived.Test.YtcaabdilfnicfaaWZeros
import Derived.Test.YtcaabdilfnicfaaWFoot
import Derived.Test.YtcaabdilfnicfaaWKept
import Derived.Test.YtcaabdilfnicfaaWShare
import Derived.Test.YtcaabdilfnicfaaWN
import Derived.Test.YtcaabdilfnicfaaWFootNe
import Derived.Test.YtcaabdilfnicfaaWAt
import Derived.Test.YtcaabdilfnicfaaWEqStruct
import Derived.Test.YtcaabdilfnicfaaWRepsOne
import Derived.Test.YtcaabdilfnicfaaWInv
import Derived.Test.YtcaabdilfnicfaaWInvWords
import Derived.Test.YtcaabdilfnicfaaWGuard
import Derived.Test.YtcaabdilfnicfaaWNEv
import Derived.Test.YtcaabdilfnicfaaWMore
namespace Go.Proofs.Ytcaabdilfnicfaa.Ext
open Go.RowKit Go.Proofs Go.Lib Go.Sort Go.Proofs.YtcaabdilfnicfaaW.PrintWords Go.Proofs.YtcaabdilfnicfaaW.PrintLast Go.Proofs.YtcaabdilfnicfaaW.PrintMore
set_option linter.unusedVariables false
set_option linter.unusedSimpArgs false
/-- The closure: is it a blank? -/
theorem blank_is (w : World) : PredAtRunes Try.prog 11 #[] (fun x => x == 32) w := by
  intro W x hx hb
  have e : ((x : Int) == 32) = (x == 32) := by
    rw [Bool.eq_iff_iff, beq_iff_eq, beq_iff_eq]; omega
  show Calls Try.prog 11 #[.int .i32 (x : Int)] W fun e w' => e = .returned (.bool (x == 32)) ∧ ∃ q, w' = W.drewN q
  go_enter Try.func11, Try.ntmps11
  go_wp2
  go_ret
  refine ⟨?_, ?_⟩
  · rfl
  · exact ⟨0, rfl⟩
theorem reps_strings (l : List ByteArray) : Reps (fun x cs => cs = [Value.string x]) 1 l (l.map Value.string) := by
  induction l with
  | nil => exact Reps.none _ _
  | cons a l ih => exact Reps.one rfl ih
/-- The words of a text that is not too long. -/
def impl_SplitWords.f (s : ByteArray) : Option (List ByteArray) := if s.size ≤ 1048576 then some (goFieldsP (fun x => x == 32) s) else none
theorem impl_SplitWords.calls (a0 : ByteArray) (r : List ByteArray) (w : World) (h : impl_SplitWords.f a0 = some r) :
    Calls Try.prog 5 #[.string a0] w fun e w' => ∃ v0_ : Value, e = .returned (v0_) ∧ Kd.R Kd.string 9 w' w.heap.size (fun _ => True) v0_ r ∧ Below w.heap.size w w' := by
  unfold impl_SplitWords.f at h
  split at h
  · rename_i hs
    obtain rfl := Option.some.inj h
    clear h
    go_enter Try.func5, Try.ntmps5
    go_wp2_with (go_at_call 10; (refine (Try.strings_FieldsFunc_runes 11 #[] (enters_of Try.func11 (by kernel_rfl) rfl) _ a0 _ (by omega) (blank_is _)).mono ?_); rintro e w9 ⟨A9, rfl, hA9, ho9, hb9⟩)
    go_ret
    exact ⟨_, rfl, ⟨fun k hk => trivial, _, ho9, reps_strings _⟩, hb9⟩
  · cases h
end Go.Proofs.Ytcaabdilfnicfaa.Ext
