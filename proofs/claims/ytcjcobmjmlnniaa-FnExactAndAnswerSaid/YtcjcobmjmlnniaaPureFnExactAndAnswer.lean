/- The plain law of FnExactAndAnswer: what the program's function and the reference's compute is the same, for every argument of its kind; no condition. -/
import Derived.Test.YtcjcobmjmlnniaaPFnExactAndAnswerx1
import Derived.OpenShut
namespace Go.Proofs.Ytcjcobmjmlnniaa.Pure
open Go.RowKit Go.Proofs.Ytcjcobmjmlnniaa.PFnExactAndAnswer Go.Proofs.YtcjcobmjmlnniaaW.PrintWords Go.Proofs.YtcjcobmjmlnniaaW.PrintLast
theorem FnExactAndAnswer : laws_FnExactAndAnswer.Pure := by
  unfold laws_FnExactAndAnswer.Pure
  intro a0 a1 _ _
  refine ⟨1, ?_⟩
  simp only [laws_FnExactAndAnswer.f, spec_AndAnswer.f, spec_l01And.f, impl_AndAnswer.f, spec_l01And.j0, impl_AndAnswer.j0]
  (repeat' split) <;> simp_all
end Go.Proofs.Ytcjcobmjmlnniaa.Pure
