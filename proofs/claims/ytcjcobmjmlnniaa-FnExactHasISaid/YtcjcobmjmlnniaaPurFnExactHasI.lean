/- The plain law of FnExactHasI: what the program's function and the reference's compute is the same, for every argument of its kind; no condition. -/
import Derived.Test.YtcjcobmjmlnniaaPFnExactHasIx1
import Derived.OpenShut
namespace Go.Proofs.Ytcjcobmjmlnniaa.Pure
open Go.RowKit Go.Proofs.Ytcjcobmjmlnniaa.PFnExactHasI Go.Proofs.YtcjcobmjmlnniaaW.PrintWords Go.Proofs.YtcjcobmjmlnniaaW.PrintLast
def ok (a b : Int) : Bool := decide (-1152921504606846976 < a) && (decide (a ≤ b) && decide (b < 1152921504606846976))
theorem ok_iff {a b : Int} : ok a b = true ↔ -1152921504606846976 < a ∧ a ≤ b ∧ b < 1152921504606846976 := by simp [ok]
theorem ok_no {a b : Int} (h : ok a b = false) : ¬ (-1152921504606846976 < a ∧ a ≤ b ∧ b < 1152921504606846976) := by rw [← ok_iff]; simp [h]
def inn (a b c : Int) : Bool := decide (b ≤ a) && decide (a ≤ c)
theorem sOk (a b : Int) : spec_l04Ok.f a b = some (ok a b) := by unfold spec_l04Ok.f ok; by_cases h : -1152921504606846976 < a <;> by_cases h2 : a ≤ b <;> simp [h, h2]
theorem iOk (a b : Int) : impl_ValidInterval.f a b = some (ok a b) := by unfold impl_ValidInterval.f ok; by_cases h : -1152921504606846976 < a <;> by_cases h2 : a ≤ b <;> simp [h, h2]
theorem sIn (a b c : Int) : spec_l00In.f a b c = some (inn a b c) := by unfold spec_l00In.f inn; by_cases h : b ≤ a <;> simp [h]
theorem iIn (a b c : Int) : impl_within.f a b c = some (inn a b c) := by unfold impl_within.f inn; by_cases h : b ≤ a <;> simp [h]
theorem FnExactHasI : ∀ (a0_0 a0_1 a1 : Int), (Lit.int .i64 a0_0).wf = true → (Lit.int .i64 a0_1).wf = true → (Lit.int .i64 a1).wf = true → laws_FnExactHasI.f a0_0 a0_1 a1 = some true := by
  intro a b
  intros
  simp only [laws_toInterval.f, spec_l04Has.f, spec_HasI.f, impl_IsWhole.f, impl_HasI.f, laws_FnExactHasI.f, sOk, sIn, iOk, iIn, Option.bind_some]
  cases h : ok a b <;> simp
end Go.Proofs.Ytcjcobmjmlnniaa.Pure
