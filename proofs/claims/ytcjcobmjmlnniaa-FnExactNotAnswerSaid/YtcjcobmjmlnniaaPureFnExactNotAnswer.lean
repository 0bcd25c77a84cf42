/- The plain law of FnExactNotAnswer: what the program's function and the reference's compute is the same, for every argument of its kind; no condition. -/
import Derived.Test.YtcjcobmjmlnniaaPFnExactNotAnswerx1
import Derived.OpenShut
namespace Go.Proofs.Ytcjcobmjmlnniaa.Pure
open Go.RowKit Go.Proofs.Ytcjcobmjmlnniaa.PFnExactNotAnswer Go.Proofs.YtcjcobmjmlnniaaW.PrintWords Go.Proofs.YtcjcobmjmlnniaaW.PrintLast
theorem FnExactNotAnswer : laws_FnExactNotAnswer.Pure := by
  unfold laws_FnExactNotAnswer.Pure
  intros
  simp only [spec_l01Not.f, spec_NotAnswer.f, impl_NotAnswer.f, laws_FnExactNotAnswer.f]
  (repeat' split) <;> simp_all
end Go.Proofs.Ytcjcobmjmlnniaa.Pure
