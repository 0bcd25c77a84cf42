/- The plain law of FnExactSubI: what the program's function and the reference's compute is the same, for every argument of its kind; no condition. -/
import Derived.Test.YtonmppbmfagcjaaPFnExactSubIx2
import Derived.OpenShut
namespace Go.Proofs.Ytonmppbmfagcjaa.Pure
open Go.RowKit Go.Proofs.Ytonmppbmfagcjaa.PFnExactSubI Go.Proofs.YtonmppbmfagcjaaW.PrintWords Go.Proofs.YtonmppbmfagcjaaW.PrintLast
def ok (a b : Int) : Bool := decide (-1152921504606846976 < a) && (decide (a ≤ b) && decide (b < 1152921504606846976))
theorem ok_iff {a b : Int} : ok a b = true ↔ -1152921504606846976 < a ∧ a ≤ b ∧ b < 1152921504606846976 := by simp [ok]
theorem ok_no {a b : Int} (h : ok a b = false) : ¬ (-1152921504606846976 < a ∧ a ≤ b ∧ b < 1152921504606846976) := by rw [← ok_iff]; simp [h]
def inn (a b c : Int) : Bool := decide (b ≤ a) && decide (a ≤ c)
theorem sOk (a b : Int) : spec_l04Ok.f a b = some (ok a b) := by unfold spec_l04Ok.f ok; by_cases h : -1152921504606846976 < a <;> by_cases h2 : a ≤ b <;> simp [h, h2]
theorem iOk (a b : Int) : impl_ValidInterval.f a b = some (ok a b) := by unfold impl_ValidInterval.f ok; by_cases h : -1152921504606846976 < a <;> by_cases h2 : a ≤ b <;> simp [h, h2]
theorem wholeNot : ok (-1152921504606846976) 1152921504606846976 = false := by decide
theorem wsub (a b : Int) : wrap64 (a + wrap64 (-b)) = wrap64 (a - b) := by unfold wrap64; omega
theorem FnExactSubI : ∀ (a0_0 a0_1 a1_0 a1_1 : Int), (Lit.int .i64 a0_0).wf = true → (Lit.int .i64 a0_1).wf = true → (Lit.int .i64 a1_0).wf = true → (Lit.int .i64 a1_1).wf = true → ∃ k, laws_FnExactSubI.f k a0_0 a0_1 a1_0 a1_1 = some true := by
  intro a b c d
  intros
  refine ⟨1, ?_⟩
  simp only [laws_toInterval.f, laws_eqInterval.f, spec_l04Whole.f, spec_l04Make.f, spec_SubI.f, impl_IsWhole.f, impl_Whole.f, impl_NegI.f, impl_areBounded.f, impl_bounded.f, impl_AddI.f, impl_SubI.f, laws_FnExactSubI.f, spec_SubI.j0, sOk, iOk, Option.bind_some]
  cases h2 : ok c d
  · cases h : ok a b <;> simp [wholeNot]
  · have e : ok (wrap64 (-d)) (wrap64 (-c)) = true := by rw [ok_iff] at *; unfold wrap64; omega
    cases h : ok a b
    · simp
    · cases h3 : ok (wrap64 (a - d)) (wrap64 (b - c)) <;> simp [e, wsub, h3]
end Go.Proofs.Ytonmppbmfagcjaa.Pure
