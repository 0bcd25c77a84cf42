/- The plain law of FnExactAnswerName: what the program's function and the reference's compute is the same, for every argument of its kind; no condition. -/
import Derived.Test.YtcjcobmjmlnniaaPFnExactAnswerNamex1
import Derived.OpenShut
namespace Go.Proofs.Ytcjcobmjmlnniaa.Pure
open Go.RowKit Go.Proofs.Ytcjcobmjmlnniaa.PFnExactAnswerName Go.Proofs.YtcjcobmjmlnniaaW.PrintWords Go.Proofs.YtcjcobmjmlnniaaW.PrintLast
def ok (a b : Int) : Bool := decide (-1152921504606846976 < a) && (decide (a ≤ b) && decide (b < 1152921504606846976))
theorem ok_iff {a b : Int} : ok a b = true ↔ -1152921504606846976 < a ∧ a ≤ b ∧ b < 1152921504606846976 := by simp [ok]
theorem ok_no {a b : Int} (h : ok a b = false) : ¬ (-1152921504606846976 < a ∧ a ≤ b ∧ b < 1152921504606846976) := by rw [← ok_iff]; simp [h]
def inn (a b c : Int) : Bool := decide (b ≤ a) && decide (a ≤ c)
theorem sIn (a b c : Int) : spec_l00In.f a b c = some (inn a b c) := by unfold spec_l00In.f inn; by_cases h : b ≤ a <;> simp [h]
theorem iIn (a b c : Int) : impl_within.f a b c = some (inn a b c) := by unfold impl_within.f inn; by_cases h : b ≤ a <;> simp [h]
theorem FnExactAnswerName : laws_FnExactAnswerName.Pure := by
  unfold laws_FnExactAnswerName.Pure
  intro a _
  simp only [spec_AnswerName.f, impl_AnswerName.f, laws_FnExactAnswerName.f, sIn, iIn, Option.bind_some]
  cases h : inn a 0 2
  · simp
  · have h2 : 0 ≤ a ∧ a ≤ 2 := by simpa [inn] using h
    simp only [if_true]
    rw [if_pos h2.1, if_pos (show a < (([(⟨#[110, 111]⟩ : ByteArray), (⟨#[121, 101, 115]⟩ : ByteArray), (⟨#[117, 110, 107, 110, 111, 119, 110]⟩ : ByteArray)] : List ByteArray).length : Int) by simp; omega)]
    simp
end Go.Proofs.Ytcjcobmjmlnniaa.Pure
