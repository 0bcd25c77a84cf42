/- The plain law of FnExactValidFix: what the program's function and the reference's compute is the same, for every argument of its kind; no condition. -/
import Derived.Test.YtcjcobmjmlnniaaPFnExactValidFixx1
import Derived.OpenShut
namespace Go.Proofs.Ytcjcobmjmlnniaa.Pure
open Go.RowKit Go.Proofs.Ytcjcobmjmlnniaa.PFnExactValidFix Go.Proofs.YtcjcobmjmlnniaaW.PrintWords Go.Proofs.YtcjcobmjmlnniaaW.PrintLast
def ok (a b : Int) : Bool := decide (-1152921504606846976 < a) && (decide (a ≤ b) && decide (b < 1152921504606846976))
theorem ok_iff {a b : Int} : ok a b = true ↔ -1152921504606846976 < a ∧ a ≤ b ∧ b < 1152921504606846976 := by simp [ok]
theorem ok_no {a b : Int} (h : ok a b = false) : ¬ (-1152921504606846976 < a ∧ a ≤ b ∧ b < 1152921504606846976) := by rw [← ok_iff]; simp [h]
def inn (a b c : Int) : Bool := decide (b ≤ a) && decide (a ≤ c)
theorem sIn (a b c : Int) : spec_l00In.f a b c = some (inn a b c) := by unfold spec_l00In.f inn; by_cases h : b ≤ a <;> simp [h]
theorem iIn (a b c : Int) : impl_within.f a b c = some (inn a b c) := by unfold impl_within.f inn; by_cases h : b ≤ a <;> simp [h]
theorem FnExactValidFix : laws_FnExactValidFix.Pure := by
  unfold laws_FnExactValidFix.Pure
  intros
  simp only [spec_l03Ok.f, spec_ValidFix.f, impl_ValidFix.f, laws_FnExactValidFix.f, sIn, iIn, Option.bind_some]
  simp
end Go.Proofs.Ytcjcobmjmlnniaa.Pure
