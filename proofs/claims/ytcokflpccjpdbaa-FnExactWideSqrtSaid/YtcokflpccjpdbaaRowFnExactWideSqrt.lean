/- The row of FnExactWideSqrt: for every argument the law returns true and leaves its arguments as they were; no condition. -/
import Derived.Test.YtcokflpccjpdbaaRows
import Derived.Test.YtcokflpccjpdbaaPurFnExactWideSqrt
import Derived.WalkKit
import Derived.ProofKit
import Derived.OpenShut
import Derived.ShutString
import Derived.ChangeOld
import Derived.Below
import Derived.SizedLaws
import Derived.Lib.SmallJoins
namespace Go.Proofs.Ytcokflpccjpdbaa.fnExactWideSqrt
open Go.ChangeShapes Go.WideShapes Go.ChangeAt Go.RowKit Go.Joins
set_option linter.unusedVariables false
theorem own : ownKnob Try.prog.godebug = none := by kernel_rfl
theorem cells28 : Try.prog.cellsOf 28 = 2 := by kernel_rfl
theorem reads28 {H : Type} {enc : TypeId × Value → H} {W : World} {sp : Nat → Bool} {a b : Int} (wa : (Lit.int .i64 a).wf = true) (wb : (Lit.int .u64 b).wf = true) :
    DataW.Trod enc Try.prog W 0 sp true 28 (.agg #[.int .i64 a, .int .u64 b]) (.agg [.lit (.int .i64 a), .lit (.int .u64 b)]) [] :=
  shut_agg2 (y0 := (.lit (.int .i64 a), [])) (y1 := (.lit (.int .u64 b), [])) Try.underlying28 (by kernel_rfl) cells28 ⟨1, by simp [DataW.trod, Try.underlying2, wa]⟩ ⟨1, by simp [DataW.trod, Try.underlying22, wb]⟩
set_option maxRecDepth 100000 in
theorem lifted (os : Os) (started : os.Started) (H : Type) (enc : TypeId × Value → H) :
    ReturnsInHanded {} Try.checked os 9 .any (Rows.fnExactWideSqrtSpec.pre6 enc Try.prog Try.f9 Rows.fnExactWideSqrtRow.domain false) (Rows.fnExactWideSqrtSpec.post enc Try.prog Try.f9 false true false false) := by
  refine returnsInHanded_of_change_sized (C := Try.checked) own started (by kernel_rfl) Try.func9
    (ChangeSpec.witness6 (enc := enc) (C := Try.checked) false ⟨#[], #[.agg #[.int .i64 0, .int .u64 0]], []⟩ 8 (by kernel_rfl) (by kernel_rfl) (by kernel_rfl) (by kernel_rfl)) ?_
  intro W base args ds gs before hval0 hW hcnd hsz0 _
  have hval : ∀ (j : Nat) t v, Try.f9.params[j]? = some t → args[j]? = some v → Value.okWide Try.prog W .any base t v := hval0
  have hW' := hW
  obtain ⟨p, q, hA0, hV, rfl, hfz, hnd⟩ := hW
  have hA : DataW.TrodAll enc Try.prog W 0 (fun _ => true) true Try.f9.params.toList args.toList ds p := hA0
  rw [Try.params9] at hA hval
  obtain ⟨v0, vs0, d0, ds0, p0, q0, hargs0, rfl, rfl, h0, r0⟩ := trodAll_cons hA
  obtain ⟨rfl, rfl, rfl⟩ := trodAll_nil r0
  obtain rfl : args = #[v0] := by cases args; simp_all
  obtain ⟨rfl, rfl⟩ := trodVars_none hV
  obtain ⟨c0_0, c0_1, y0_0, y0_1, m0, rfl, rfl, rfl, hy0_0, hy0_1⟩ := open_agg2 Try.underlying28 (by kernel_rfl) cells28 (hval 0 28 v0 rfl rfl) h0
  obtain ⟨a0_0, e0_0, rfl, w0_0⟩ := DataW.trod_int Try.underlying2 hy0_0
  obtain ⟨a0_1, e0_1, rfl, w0_1⟩ := DataW.trod_int Try.underlying22 hy0_1
  simp at e0_0 e0_1
  subst e0_0 e0_1
  clear hA0 hval0 hsz0
  obtain ⟨k, hk⟩ := Pure.FnExactWideSqrt a0_0 a0_1 w0_0 w0_1
  refine (PFnExactWideSqrt.laws_FnExactWideSqrt.calls k a0_0 a0_1 true W hk).mono fun e W' ⟨he, bel⟩ => ?_
  subst he
  exact ⟨_, rfl, _, _, _, [], _, [], hW', trodAll_mk1 (shut_bool Try.underlying4 _), (trodAll_cons_mk (reads28 w0_0 w0_1) trodAll_mk0), rfl, (bel).frame _, fun h => by cases h⟩
theorem over : Rows.fnExactWideSqrtRow.holds Try.pinned (OpenSpec.ofChange Rows.fnExactWideSqrtSpec) :=
  OpenClaim.holds_of_wide 9 Try.f9 rfl rfl rfl rfl rfl rfl rfl ⟨rfl, rfl, rfl, rfl, rfl⟩ rfl rfl rfl rfl rfl (by kernel_rfl) Try.func9 (by kernel_rfl)
    (of_decide_eq_true (by kernel_rfl)) (by unfold Func.isWrapper; first | (rw [if_pos (by decide +kernel)]; kernel_rfl) | (rw [if_neg (by decide +kernel)]; exact ⟨rfl, rfl⟩))
    (fun os started H enc _ => lifted os started H enc)
end Go.Proofs.Ytcokflpccjpdbaa.fnExactWideSqrt
namespace Go.Proofs.Ytcokflpccjpdbaa
/-- The row, under a short name, for the claim. -/
theorem fnExactWideSqrt_holds : Rows.FnExactWideSqrtSaid := fnExactWideSqrt.over
#print axioms fnExactWideSqrt_holds
end Go.Proofs.Ytcokflpccjpdbaa
