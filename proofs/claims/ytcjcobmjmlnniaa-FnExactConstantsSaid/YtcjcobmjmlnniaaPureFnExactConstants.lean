/- The plain law of FnExactConstants: what the program's function and the reference's compute is the same, for every argument of its kind; no condition. -/
import Derived.Test.YtcjcobmjmlnniaaPFnExactConstantsx1
import Derived.OpenShut
namespace Go.Proofs.Ytcjcobmjmlnniaa.Pure
open Go.RowKit Go.Proofs.Ytcjcobmjmlnniaa.PFnExactConstants Go.Proofs.YtcjcobmjmlnniaaW.PrintWords Go.Proofs.YtcjcobmjmlnniaaW.PrintLast
theorem FnExactConstants : laws_FnExactConstants.Pure := by
  unfold laws_FnExactConstants.Pure
  rfl
end Go.Proofs.Ytcjcobmjmlnniaa.Pure
