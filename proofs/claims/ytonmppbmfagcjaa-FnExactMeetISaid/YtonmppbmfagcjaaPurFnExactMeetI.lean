/- The plain law of FnExactMeetI: what the program's function and the reference's compute is the same, for every argument of its kind; no condition. -/
import Derived.Test.YtonmppbmfagcjaaMeetWalk
import Derived.OpenShut
namespace Go.Proofs.Ytonmppbmfagcjaa.Pure
open Go.RowKit Go.Proofs.Ytonmppbmfagcjaa.PFnExactMeetI Go.Proofs.YtonmppbmfagcjaaW.PrintWords Go.Proofs.YtonmppbmfagcjaaW.PrintLast
def ok (a b : Int) : Bool := decide (-1152921504606846976 < a) && (decide (a ≤ b) && decide (b < 1152921504606846976))
theorem ok_iff {a b : Int} : ok a b = true ↔ -1152921504606846976 < a ∧ a ≤ b ∧ b < 1152921504606846976 := by simp [ok]
theorem ok_no {a b : Int} (h : ok a b = false) : ¬ (-1152921504606846976 < a ∧ a ≤ b ∧ b < 1152921504606846976) := by rw [← ok_iff]; simp [h]
def inn (a b c : Int) : Bool := decide (b ≤ a) && decide (a ≤ c)
theorem sOk (a b : Int) : spec_l04Ok.f a b = some (ok a b) := by unfold spec_l04Ok.f ok; by_cases h : -1152921504606846976 < a <;> by_cases h2 : a ≤ b <;> simp [h, h2]
theorem iOk (a b : Int) : impl_ValidInterval.f a b = some (ok a b) := by unfold impl_ValidInterval.f ok; by_cases h : -1152921504606846976 < a <;> by_cases h2 : a ≤ b <;> simp [h, h2]
theorem sMx (a b : Int) : spec_l00Max.f a b = some (mx a b) := by unfold spec_l00Max.f mx; (repeat' split) <;> simp <;> omega
theorem sMn (a b : Int) : spec_l00Min.f a b = some (mn a b) := by unfold spec_l00Min.f mn; (repeat' split) <;> simp <;> omega
theorem FnExactMeetI : ∀ (a0_0 a0_1 a1_0 a1_1 : Int), (Lit.int .i64 a0_0).wf = true → (Lit.int .i64 a0_1).wf = true → (Lit.int .i64 a1_0).wf = true → (Lit.int .i64 a1_1).wf = true → ∃ k, laws_FnExactMeetI.f k a0_0 a0_1 a1_0 a1_1 = some true := by
  intro a b c d
  intros
  refine ⟨1, ?_⟩
  simp only [laws_toInterval.f, laws_eqInterval.f, spec_l04Whole.f, spec_MeetI.f, impl_IsWhole.f, impl_Whole.f, impl_MeetI.f, laws_FnExactMeetI.f, spec_MeetI.j0, impl_MeetI.j0, sOk, sMx, sMn, iOk, Option.bind_some]
  cases h : ok a b
  · cases h2 : ok c d <;> simp
  · cases h2 : ok c d
    · simp
    · by_cases h3 : mx a c > mn b d <;> simp [h3]
end Go.Proofs.Ytonmppbmfagcjaa.Pure
