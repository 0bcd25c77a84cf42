/- The plain law of FnExactCodeName: what the program's function and the reference's compute is the same, for every argument of its kind; no condition. -/
import Derived.Test.YtcjcobmjmlnniaaPFnExactCodeNamex1
import Derived.OpenShut
namespace Go.Proofs.Ytcjcobmjmlnniaa.Pure
open Go.RowKit Go.Proofs.Ytcjcobmjmlnniaa.PFnExactCodeName Go.Proofs.YtcjcobmjmlnniaaW.PrintWords Go.Proofs.YtcjcobmjmlnniaaW.PrintLast
def ok (a b : Int) : Bool := decide (-1152921504606846976 < a) && (decide (a ≤ b) && decide (b < 1152921504606846976))
theorem ok_iff {a b : Int} : ok a b = true ↔ -1152921504606846976 < a ∧ a ≤ b ∧ b < 1152921504606846976 := by simp [ok]
theorem ok_no {a b : Int} (h : ok a b = false) : ¬ (-1152921504606846976 < a ∧ a ≤ b ∧ b < 1152921504606846976) := by rw [← ok_iff]; simp [h]
def inn (a b c : Int) : Bool := decide (b ≤ a) && decide (a ≤ c)
theorem sIn (a b c : Int) : spec_l00In.f a b c = some (inn a b c) := by unfold spec_l00In.f inn; by_cases h : b ≤ a <;> simp [h]
theorem iIn (a b c : Int) : impl_within.f a b c = some (inn a b c) := by unfold impl_within.f inn; by_cases h : b ≤ a <;> simp [h]
theorem FnExactCodeName : laws_FnExactCodeName.Pure := by
  unfold laws_FnExactCodeName.Pure
  intro a _
  simp only [spec_CodeName.f, impl_CodeName.f, laws_FnExactCodeName.f, sIn, iIn, Option.bind_some]
  have e : wrap64 ((([(⟨#[111, 107]⟩ : ByteArray), (⟨#[105, 110, 118, 97, 108, 105, 100]⟩ : ByteArray), (⟨#[114, 97, 110, 103, 101]⟩ : ByteArray), (⟨#[110, 111, 116, 45, 102, 111, 117, 110, 100]⟩ : ByteArray), (⟨#[101, 120, 105, 115, 116, 115]⟩ : ByteArray), (⟨#[102, 117, 108, 108]⟩ : ByteArray), (⟨#[115, 116, 97, 116, 101]⟩ : ByteArray), (⟨#[115, 121, 110, 116, 97, 120]⟩ : ByteArray), (⟨#[100, 111, 109, 97, 105, 110]⟩ : ByteArray), (⟨#[117, 110, 107, 110, 111, 119, 110]⟩ : ByteArray)] : List ByteArray).length : Int) - 1) = 9 := by simp [wrap64]
  rw [e]
  cases h : inn a 0 9
  · simp
  · have h2 : 0 ≤ a ∧ a ≤ 9 := by simpa [inn] using h
    simp only [if_true]
    rw [if_pos h2.1, if_pos (show a < (([(⟨#[111, 107]⟩ : ByteArray), (⟨#[105, 110, 118, 97, 108, 105, 100]⟩ : ByteArray), (⟨#[114, 97, 110, 103, 101]⟩ : ByteArray), (⟨#[110, 111, 116, 45, 102, 111, 117, 110, 100]⟩ : ByteArray), (⟨#[101, 120, 105, 115, 116, 115]⟩ : ByteArray), (⟨#[102, 117, 108, 108]⟩ : ByteArray), (⟨#[115, 116, 97, 116, 101]⟩ : ByteArray), (⟨#[115, 121, 110, 116, 97, 120]⟩ : ByteArray), (⟨#[100, 111, 109, 97, 105, 110]⟩ : ByteArray), (⟨#[117, 110, 107, 110, 111, 119, 110]⟩ : ByteArray)] : List ByteArray).length : Int) by simp; omega)]
    simp
end Go.Proofs.Ytcjcobmjmlnniaa.Pure
