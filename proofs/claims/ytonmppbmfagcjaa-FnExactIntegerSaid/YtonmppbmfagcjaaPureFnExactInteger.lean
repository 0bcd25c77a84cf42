/- The plain law of FnExactInteger: what the program's function and the reference's compute is the same, for every argument of its kind; no condition. -/
import Derived.Test.YtonmppbmfagcjaaPFnExactIntegerx1
import Derived.OpenShut
namespace Go.Proofs.Ytonmppbmfagcjaa.Pure
open Go.RowKit Go.Proofs.Ytonmppbmfagcjaa.PFnExactInteger Go.Proofs.YtonmppbmfagcjaaW.PrintWords Go.Proofs.YtonmppbmfagcjaaW.PrintLast
def ok (a b : Int) : Bool := decide (-1152921504606846976 < a) && (decide (a ≤ b) && decide (b < 1152921504606846976))
theorem ok_iff {a b : Int} : ok a b = true ↔ -1152921504606846976 < a ∧ a ≤ b ∧ b < 1152921504606846976 := by simp [ok]
theorem ok_no {a b : Int} (h : ok a b = false) : ¬ (-1152921504606846976 < a ∧ a ≤ b ∧ b < 1152921504606846976) := by rw [← ok_iff]; simp [h]
def inn (a b c : Int) : Bool := decide (b ≤ a) && decide (a ≤ c)
theorem sOk (a b : Int) : spec_l04Ok.f a b = some (ok a b) := by unfold spec_l04Ok.f ok; by_cases h : -1152921504606846976 < a <;> by_cases h2 : a ≤ b <;> simp [h, h2]
theorem iOk (a b : Int) : impl_ValidInterval.f a b = some (ok a b) := by unfold impl_ValidInterval.f ok; by_cases h : -1152921504606846976 < a <;> by_cases h2 : a ≤ b <;> simp [h, h2]
theorem sIn (a b c : Int) : spec_l00In.f a b c = some (inn a b c) := by unfold spec_l00In.f inn; by_cases h : b ≤ a <;> simp [h]
theorem iIn (a b c : Int) : impl_within.f a b c = some (inn a b c) := by unfold impl_within.f inn; by_cases h : b ≤ a <;> simp [h]
theorem FnExactInteger : laws_FnExactInteger.Pure := by
  unfold laws_FnExactInteger.Pure
  intro a ha
  have hb := bounds_i64 ha
  simp only [laws_eqInterval.f, spec_l04Whole.f, spec_l04Make.f, spec_Integer.f, impl_Whole.f, impl_bounded.f, impl_Integer.f, laws_FnExactInteger.f, sOk, sIn, iIn, iOk, Option.bind_some]
  cases h : inn a (-268435455) 268435455
  · cases h2 : inn a (-268435456) 268435456
    · simp
    · have e : ok (wrap64 (a * 4294967296)) (wrap64 (a * 4294967296)) = false := by
        have k1 : ¬ (-268435455 ≤ a ∧ a ≤ 268435455) := by intro hk; simp [inn, hk.1, hk.2] at h
        have k2 : -268435456 ≤ a ∧ a ≤ 268435456 := by simpa [inn] using h2
        cases e2 : ok (wrap64 (a * 4294967296)) (wrap64 (a * 4294967296))
        · rfl
        · rw [ok_iff] at e2; unfold wrap64 at e2; omega
      simp [e]
  · have k1 : -268435455 ≤ a ∧ a ≤ 268435455 := by simpa [inn] using h
    have h2 : inn a (-268435456) 268435456 = true := by simp [inn]; omega
    have e : ok (wrap64 (a * 4294967296)) (wrap64 (a * 4294967296)) = true := by rw [ok_iff]; unfold wrap64; omega
    simp [h2, e]
end Go.Proofs.Ytonmppbmfagcjaa.Pure
