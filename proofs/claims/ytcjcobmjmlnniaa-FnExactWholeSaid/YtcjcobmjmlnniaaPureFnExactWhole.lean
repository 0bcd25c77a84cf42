/- The plain law of FnExactWhole: what the program's function and the reference's compute is the same, for every argument of its kind; no condition. -/
import Derived.Test.YtcjcobmjmlnniaaPFnExactWholex1
import Derived.OpenShut
namespace Go.Proofs.Ytcjcobmjmlnniaa.Pure
open Go.RowKit Go.Proofs.Ytcjcobmjmlnniaa.PFnExactWhole Go.Proofs.YtcjcobmjmlnniaaW.PrintWords Go.Proofs.YtcjcobmjmlnniaaW.PrintLast
theorem FnExactWhole : laws_FnExactWhole.Pure := by
  unfold laws_FnExactWhole.Pure
  rfl
end Go.Proofs.Ytcjcobmjmlnniaa.Pure
