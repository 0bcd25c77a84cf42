/- The plain law of FnExactDoubleI: what the program's function and the reference's compute is the same, for every argument of its kind; no condition. -/
import Derived.Test.YtonmppbmfagcjaaPFnExactDoubleIx1
import Derived.OpenShut
namespace Go.Proofs.Ytonmppbmfagcjaa.Pure
open Go.RowKit Go.Proofs.Ytonmppbmfagcjaa.PFnExactDoubleI Go.Proofs.YtonmppbmfagcjaaW.PrintWords Go.Proofs.YtonmppbmfagcjaaW.PrintLast
def ok (a b : Int) : Bool := decide (-1152921504606846976 < a) && (decide (a ≤ b) && decide (b < 1152921504606846976))
theorem ok_iff {a b : Int} : ok a b = true ↔ -1152921504606846976 < a ∧ a ≤ b ∧ b < 1152921504606846976 := by simp [ok]
theorem ok_no {a b : Int} (h : ok a b = false) : ¬ (-1152921504606846976 < a ∧ a ≤ b ∧ b < 1152921504606846976) := by rw [← ok_iff]; simp [h]
def inn (a b c : Int) : Bool := decide (b ≤ a) && decide (a ≤ c)
theorem sOk (a b : Int) : spec_l04Ok.f a b = some (ok a b) := by unfold spec_l04Ok.f ok; by_cases h : -1152921504606846976 < a <;> by_cases h2 : a ≤ b <;> simp [h, h2]
theorem iOk (a b : Int) : impl_ValidInterval.f a b = some (ok a b) := by unfold impl_ValidInterval.f ok; by_cases h : -1152921504606846976 < a <;> by_cases h2 : a ≤ b <;> simp [h, h2]
theorem FnExactDoubleI : ∀ (a0_0 a0_1 : Int), (Lit.int .i64 a0_0).wf = true → (Lit.int .i64 a0_1).wf = true → laws_FnExactDoubleI.f a0_0 a0_1 = some true := by
  intro a b
  intros
  have e1 : wrap64 (2 * a) = wrap64 (a + a) := by rw [Int.two_mul]
  have e2 : wrap64 (2 * b) = wrap64 (b + b) := by rw [Int.two_mul]
  simp only [laws_toInterval.f, laws_eqInterval.f, spec_l04Whole.f, spec_l04Make.f, spec_DoubleI.f, impl_areBounded.f, impl_Whole.f, impl_bounded.f, impl_AddI.f, impl_DoubleI.f, laws_FnExactDoubleI.f, sOk, iOk, Option.bind_some, e1, e2]
  cases h : ok a b
  · simp
  · cases h3 : ok (wrap64 (a + a)) (wrap64 (b + b)) <;> simp
end Go.Proofs.Ytonmppbmfagcjaa.Pure
