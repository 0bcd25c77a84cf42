/- The plain law of FnExactOrAnswer: what the program's function and the reference's compute is the same, for every argument of its kind; no condition. -/
import Derived.Test.YtonmppbmfagcjaaPFnExactOrAnswerx1
import Derived.OpenShut
namespace Go.Proofs.Ytonmppbmfagcjaa.Pure
open Go.RowKit Go.Proofs.Ytonmppbmfagcjaa.PFnExactOrAnswer Go.Proofs.YtonmppbmfagcjaaW.PrintWords Go.Proofs.YtonmppbmfagcjaaW.PrintLast
theorem FnExactOrAnswer : laws_FnExactOrAnswer.Pure := by
  unfold laws_FnExactOrAnswer.Pure
  intro a0 a1 _ _
  refine ⟨1, ?_⟩
  by_cases h0 : a0 = 0
  · subst h0; by_cases h2 : a1 = 0
    · subst h2; rfl
    · by_cases h3 : a1 = 1
      · subst h3; rfl
      · simp [spec_l01Not.f, spec_l01And.f, spec_l01Or.f, spec_OrAnswer.f, impl_NotAnswer.f, impl_AndAnswer.f, impl_OrAnswer.f, laws_FnExactOrAnswer.f, spec_l01And.j0, impl_AndAnswer.j0, h2, h3]
  · by_cases h1 : a0 = 1
    · subst h1; by_cases h2 : a1 = 0
      · subst h2; rfl
      · by_cases h3 : a1 = 1
        · subst h3; rfl
        · simp [spec_l01Not.f, spec_l01And.f, spec_l01Or.f, spec_OrAnswer.f, impl_NotAnswer.f, impl_AndAnswer.f, impl_OrAnswer.f, laws_FnExactOrAnswer.f, spec_l01And.j0, impl_AndAnswer.j0, h2, h3]
    · by_cases h2 : a1 = 0
      · subst h2; simp [spec_l01Not.f, spec_l01And.f, spec_l01Or.f, spec_OrAnswer.f, impl_NotAnswer.f, impl_AndAnswer.f, impl_OrAnswer.f, laws_FnExactOrAnswer.f, spec_l01And.j0, impl_AndAnswer.j0, h0, h1]
      · by_cases h3 : a1 = 1
        · subst h3; simp [spec_l01Not.f, spec_l01And.f, spec_l01Or.f, spec_OrAnswer.f, impl_NotAnswer.f, impl_AndAnswer.f, impl_OrAnswer.f, laws_FnExactOrAnswer.f, spec_l01And.j0, impl_AndAnswer.j0, h0, h1]
        · simp [spec_l01Not.f, spec_l01And.f, spec_l01Or.f, spec_OrAnswer.f, impl_NotAnswer.f, impl_AndAnswer.f, impl_OrAnswer.f, laws_FnExactOrAnswer.f, spec_l01And.j0, impl_AndAnswer.j0, h0, h1, h2, h3]
end Go.Proofs.Ytonmppbmfagcjaa.Pure
