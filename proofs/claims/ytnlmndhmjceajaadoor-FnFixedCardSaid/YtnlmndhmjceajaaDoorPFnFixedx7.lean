/- Functions that a law reaches, as Lean functions, and that the Go text's calls come to just these; no condition but that the Lean function's value is told. (Written by the kit's print.py over contracts of this session.) -/
import Derived.Test.YtnlmndhmjceajaaDoorPFnFixedx0
import Derived.Test.YtnlmndhmjceajaaDoorPFnFixedx2
import Derived.Test.YtnlmndhmjceajaaDoorPFnFixedx3
import Derived.Test.YtnlmndhmjceajaaDoorPFnFixedx5
import Derived.Test.YtnlmndhmjceajaaDoorPFnFixedx6
namespace Go.Proofs.YtnlmndhmjceajaaDoor.PFnFixed
open Go.RowKit Go.Proofs.YtnlmndhmjceajaaDoor.Ext Go.Proofs.YtnlmndhmjceajaaDoorW.PrintWords Go.Proofs.YtnlmndhmjceajaaDoorW.PrintLast Go.Proofs.YtnlmndhmjceajaaDoorW.PrintMore
attribute [local go_sem] max2_int min2_int max_two min_two max_three min_three max_four min_four   -- for this text's walks alone
set_option linter.unusedVariables false
set_option linter.unusedSimpArgs false

/-! ### laws_FnFixed: function 3 -/
mutual
def laws_FnFixed.j0 : Nat → List Int → Int → Int → Bool → Option (Bool)
  | 0, _, _, _, _ => none
  | k + 1, x1, x5, x6, x83 => if x83 = true then (some false) else ((impl_DivDown.f k x5 x6).bind fun bt302 => ((impl_DivUp.f k x5 x6).bind fun bt304 => (if bt302.2 = true then (laws_FnFixed.j1 k x1 x5 x6 bt302.1 bt304.1 bt304.2) else (laws_FnFixed.j1 k x1 x5 x6 bt302.1 bt304.1 false))))
def laws_FnFixed.j1 : Nat → List Int → Int → Int → Int → Int → Bool → Option (Bool)
  | 0, _, _, _, _, _, _ => none
  | k + 1, x1, x5, x6, x7, x9, x99 => if x99 = true then (if x7 > x9 then (laws_FnFixed.j2 k x1 x5 x6 x7 x9 true) else (laws_FnFixed.j2 k x1 x5 x6 x7 x9 (decide (x9 > (wrap64 (x7 + 1)))))) else (laws_FnFixed.j3 k x1 x5)
def laws_FnFixed.j3 : Nat → List Int → Int → Option (Bool)
  | 0, _, _ => none
  | k + 1, x1, x5 => (impl_SqrtDown.f k x5).bind fun bt310 => ((impl_SqrtUp.f k x5).bind fun bt312 => (if (bt310.2 != (decide (x5 ≥ 0))) = true then (laws_FnFixed.j4 k x1 x5 bt310.2 bt310.1 bt312.1 true) else (laws_FnFixed.j4 k x1 x5 bt310.2 bt310.1 bt312.1 (bt312.2 != bt310.2))))
def laws_FnFixed.j4 : Nat → List Int → Int → Bool → Int → Int → Bool → Option (Bool)
  | 0, _, _, _, _, _, _ => none
  | k + 1, x1, x5, x8, x17, x18, x186 => if x186 = true then (some false) else (if x8 = true then ((impl_MulDown.f k x17 x17).bind fun bt314 => ((impl_MulUp.f k x18 x18).bind fun bt316 => (if x17 > x18 then (some false) else (if x18 > (wrap64 (x17 + 1)) then (some false) else (if bt314.2 = true then (if bt314.1 > x5 then (some false) else (if bt316.2 = true then (if bt316.1 < x5 then (some false) else (laws_FnFixed.j5 k x1 x5)) else (laws_FnFixed.j5 k x1 x5))) else (if bt316.2 = true then (if bt316.1 < x5 then (some false) else (laws_FnFixed.j5 k x1 x5)) else (laws_FnFixed.j5 k x1 x5))))))) else (laws_FnFixed.j5 k x1 x5))
def laws_FnFixed.j5 : Nat → List Int → Int → Option (Bool)
  | 0, _, _ => none
  | k + 1, x1, x5 => (laws_a2At.f x1 0 10).bind fun t318 => ((impl_TextDown.f k x5 t318).bind fun t319 => ((impl_ReadFix.f k t319).bind fun bt320 => ((impl_TextUp.f k x5 t318).bind fun t323 => ((impl_ReadFix.f k t323).bind fun bt324 => (if bt320.2.2 = true then (if bt324.2.2 = true then (if bt320.1 ≤ x5 then (some (decide (bt324.2.1 ≥ x5))) else (some false)) else (some false)) else (some false))))))
def laws_FnFixed.j2 : Nat → List Int → Int → Int → Int → Int → Bool → Option (Bool)
  | 0, _, _, _, _, _, _ => none
  | k + 1, x1, x5, x6, x7, x9, x108 => if x108 = true then (some false) else ((impl_MulDown.f k x9 x6).bind fun bt306 => ((impl_MulUp.f k x7 x6).bind fun bt308 => (if bt306.2 = true then (if bt308.2 = true then (if x6 > 0 then (if bt308.1 > x5 then (some false) else (if bt306.1 < x5 then (some false) else (if x6 < 0 then (if bt308.1 < x5 then (some false) else (if bt306.1 > x5 then (some false) else (if x7 = x9 then (if bt306.1 = x5 then (if bt308.1 = x5 then (laws_FnFixed.j3 k x1 x5) else (some false)) else (some false)) else (laws_FnFixed.j3 k x1 x5)))) else (if x7 = x9 then (if bt306.1 = x5 then (if bt308.1 = x5 then (laws_FnFixed.j3 k x1 x5) else (some false)) else (some false)) else (laws_FnFixed.j3 k x1 x5))))) else (if x6 < 0 then (if bt308.1 < x5 then (some false) else (if bt306.1 > x5 then (some false) else (if x7 = x9 then (if bt306.1 = x5 then (if bt308.1 = x5 then (laws_FnFixed.j3 k x1 x5) else (some false)) else (some false)) else (laws_FnFixed.j3 k x1 x5)))) else (if x7 = x9 then (if bt306.1 = x5 then (if bt308.1 = x5 then (laws_FnFixed.j3 k x1 x5) else (some false)) else (some false)) else (laws_FnFixed.j3 k x1 x5)))) else (laws_FnFixed.j3 k x1 x5)) else (laws_FnFixed.j3 k x1 x5))))
end
def laws_FnFixed.f (k : Nat) (l0 : List Int) (l1 : List Int) : Option (Bool) := (laws_a2Long.f l0 l1).bind fun t293 => (if t293 = true then (some true) else ((spec_A2Fixes.f k l0).bind fun bt294 => ((impl_MulDown.f k bt294.1 bt294.2).bind fun bt296 => ((impl_MulUp.f k bt294.1 bt294.2).bind fun bt298 => ((impl_MulUp.f k (wrap64 (-bt294.1)) bt294.2).bind fun bt300 => (if bt296.2 = true then (if bt298.2 = true then (if bt296.1 > bt298.1 then (laws_FnFixed.j0 k l1 bt294.1 bt294.2 true) else (if bt298.1 > (wrap64 (bt296.1 + 1)) then (laws_FnFixed.j0 k l1 bt294.1 bt294.2 true) else (if (bt296.2 != bt300.2) = true then (laws_FnFixed.j0 k l1 bt294.1 bt294.2 true) else (laws_FnFixed.j0 k l1 bt294.1 bt294.2 (bt300.1 != (wrap64 (-bt296.1))))))) else (if (bt296.2 != bt300.2) = true then (laws_FnFixed.j0 k l1 bt294.1 bt294.2 true) else (laws_FnFixed.j0 k l1 bt294.1 bt294.2 (bt300.1 != (wrap64 (-bt296.1)))))) else (if (bt296.2 != bt300.2) = true then (laws_FnFixed.j0 k l1 bt294.1 bt294.2 true) else (laws_FnFixed.j0 k l1 bt294.1 bt294.2 false))))))))
theorem laws_FnFixed.mono_l : ∀ k, (∀ y0 y1 y2 y3, LeO (laws_FnFixed.j0 k y0 y1 y2 y3) (laws_FnFixed.j0 (k + 1) y0 y1 y2 y3)) ∧ (∀ y0 y1 y2 y3 y4 y5, LeO (laws_FnFixed.j1 k y0 y1 y2 y3 y4 y5) (laws_FnFixed.j1 (k + 1) y0 y1 y2 y3 y4 y5)) ∧ (∀ y0 y1, LeO (laws_FnFixed.j3 k y0 y1) (laws_FnFixed.j3 (k + 1) y0 y1)) ∧ (∀ y0 y1 y2 y3 y4 y5, LeO (laws_FnFixed.j4 k y0 y1 y2 y3 y4 y5) (laws_FnFixed.j4 (k + 1) y0 y1 y2 y3 y4 y5)) ∧ (∀ y0 y1, LeO (laws_FnFixed.j5 k y0 y1) (laws_FnFixed.j5 (k + 1) y0 y1)) ∧ (∀ y0 y1 y2 y3 y4 y5, LeO (laws_FnFixed.j2 k y0 y1 y2 y3 y4 y5) (laws_FnFixed.j2 (k + 1) y0 y1 y2 y3 y4 y5))
  | 0 => ⟨fun _ _ _ _ r h => by simp [laws_FnFixed.j0] at h, fun _ _ _ _ _ _ r h => by simp [laws_FnFixed.j1] at h, fun _ _ r h => by simp [laws_FnFixed.j3] at h, fun _ _ _ _ _ _ r h => by simp [laws_FnFixed.j4] at h, fun _ _ r h => by simp [laws_FnFixed.j5] at h, fun _ _ _ _ _ _ r h => by simp [laws_FnFixed.j2] at h⟩
  | k + 1 => by
    obtain ⟨ih0, ih1, ih2, ih3, ih4, ih5⟩ := laws_FnFixed.mono_l k
    refine ⟨?_, ?_, ?_, ?_, ?_, ?_⟩
    · intro y0 y1 y2 y3
      unfold laws_FnFixed.j0
      repeat' first
      | (with_reducible exact ih0 _ _ _ _)
      | (with_reducible exact ih1 _ _ _ _ _ _)
      | (with_reducible exact ih2 _ _)
      | (with_reducible exact ih3 _ _ _ _ _ _)
      | (with_reducible exact ih4 _ _)
      | (with_reducible exact ih5 _ _ _ _ _ _)
      | (with_reducible exact impl_DivDown.mono _ _ _)
      | (with_reducible exact impl_DivUp.mono _ _ _)
      | (with_reducible exact impl_MulDown.mono _ _ _)
      | (with_reducible exact impl_MulUp.mono _ _ _)
      | (with_reducible exact impl_ReadFix.mono _ _)
      | (with_reducible exact impl_SqrtDown.mono _ _)
      | (with_reducible exact impl_SqrtUp.mono _ _)
      | (with_reducible exact impl_TextDown.mono _ _ _)
      | (with_reducible exact impl_TextUp.mono _ _ _)
      | (with_reducible exact spec_A2Fixes.mono _ _)
      | (with_reducible exact LeO.refl _)
      | (with_reducible exact LeO.none _)
      | (with_reducible refine LeO.ite ?_ ?_)
      | (with_reducible refine LeO.bind ?_ (fun _ => ?_))
      | exact ih0 _ _ _ _
      | exact ih1 _ _ _ _ _ _
      | exact ih2 _ _
      | exact ih3 _ _ _ _ _ _
      | exact ih4 _ _
      | exact ih5 _ _ _ _ _ _
      | exact impl_DivDown.mono _ _ _
      | exact impl_DivUp.mono _ _ _
      | exact impl_MulDown.mono _ _ _
      | exact impl_MulUp.mono _ _ _
      | exact impl_ReadFix.mono _ _
      | exact impl_SqrtDown.mono _ _
      | exact impl_SqrtUp.mono _ _
      | exact impl_TextDown.mono _ _ _
      | exact impl_TextUp.mono _ _ _
      | exact spec_A2Fixes.mono _ _
      | exact LeO.none _
      | refine LeO.ite ?_ ?_
      | refine LeO.bind ?_ (fun _ => ?_)
    · intro y0 y1 y2 y3 y4 y5
      unfold laws_FnFixed.j1
      repeat' first
      | (with_reducible exact ih0 _ _ _ _)
      | (with_reducible exact ih1 _ _ _ _ _ _)
      | (with_reducible exact ih2 _ _)
      | (with_reducible exact ih3 _ _ _ _ _ _)
      | (with_reducible exact ih4 _ _)
      | (with_reducible exact ih5 _ _ _ _ _ _)
      | (with_reducible exact impl_DivDown.mono _ _ _)
      | (with_reducible exact impl_DivUp.mono _ _ _)
      | (with_reducible exact impl_MulDown.mono _ _ _)
      | (with_reducible exact impl_MulUp.mono _ _ _)
      | (with_reducible exact impl_ReadFix.mono _ _)
      | (with_reducible exact impl_SqrtDown.mono _ _)
      | (with_reducible exact impl_SqrtUp.mono _ _)
      | (with_reducible exact impl_TextDown.mono _ _ _)
      | (with_reducible exact impl_TextUp.mono _ _ _)
      | (with_reducible exact spec_A2Fixes.mono _ _)
      | (with_reducible exact LeO.refl _)
      | (with_reducible exact LeO.none _)
      | (with_reducible refine LeO.ite ?_ ?_)
      | (with_reducible refine LeO.bind ?_ (fun _ => ?_))
      | exact ih0 _ _ _ _
      | exact ih1 _ _ _ _ _ _
      | exact ih2 _ _
      | exact ih3 _ _ _ _ _ _
      | exact ih4 _ _
      | exact ih5 _ _ _ _ _ _
      | exact impl_DivDown.mono _ _ _
      | exact impl_DivUp.mono _ _ _
      | exact impl_MulDown.mono _ _ _
      | exact impl_MulUp.mono _ _ _
      | exact impl_ReadFix.mono _ _
      | exact impl_SqrtDown.mono _ _
      | exact impl_SqrtUp.mono _ _
      | exact impl_TextDown.mono _ _ _
      | exact impl_TextUp.mono _ _ _
      | exact spec_A2Fixes.mono _ _
      | exact LeO.none _
      | refine LeO.ite ?_ ?_
      | refine LeO.bind ?_ (fun _ => ?_)
    · intro y0 y1
      unfold laws_FnFixed.j3
      repeat' first
      | (with_reducible exact ih0 _ _ _ _)
      | (with_reducible exact ih1 _ _ _ _ _ _)
      | (with_reducible exact ih2 _ _)
      | (with_reducible exact ih3 _ _ _ _ _ _)
      | (with_reducible exact ih4 _ _)
      | (with_reducible exact ih5 _ _ _ _ _ _)
      | (with_reducible exact impl_DivDown.mono _ _ _)
      | (with_reducible exact impl_DivUp.mono _ _ _)
      | (with_reducible exact impl_MulDown.mono _ _ _)
      | (with_reducible exact impl_MulUp.mono _ _ _)
      | (with_reducible exact impl_ReadFix.mono _ _)
      | (with_reducible exact impl_SqrtDown.mono _ _)
      | (with_reducible exact impl_SqrtUp.mono _ _)
      | (with_reducible exact impl_TextDown.mono _ _ _)
      | (with_reducible exact impl_TextUp.mono _ _ _)
      | (with_reducible exact spec_A2Fixes.mono _ _)
      | (with_reducible exact LeO.refl _)
      | (with_reducible exact LeO.none _)
      | (with_reducible refine LeO.ite ?_ ?_)
      | (with_reducible refine LeO.bind ?_ (fun _ => ?_))
      | exact ih0 _ _ _ _
      | exact ih1 _ _ _ _ _ _
      | exact ih2 _ _
      | exact ih3 _ _ _ _ _ _
      | exact ih4 _ _
      | exact ih5 _ _ _ _ _ _
      | exact impl_DivDown.mono _ _ _
      | exact impl_DivUp.mono _ _ _
      | exact impl_MulDown.mono _ _ _
      | exact impl_MulUp.mono _ _ _
      | exact impl_ReadFix.mono _ _
      | exact impl_SqrtDown.mono _ _
      | exact impl_SqrtUp.mono _ _
      | exact impl_TextDown.mono _ _ _
      | exact impl_TextUp.mono _ _ _
      | exact spec_A2Fixes.mono _ _
      | exact LeO.none _
      | refine LeO.ite ?_ ?_
      | refine LeO.bind ?_ (fun _ => ?_)
    · intro y0 y1 y2 y3 y4 y5
      unfold laws_FnFixed.j4
      repeat' first
      | (with_reducible exact ih0 _ _ _ _)
      | (with_reducible exact ih1 _ _ _ _ _ _)
      | (with_reducible exact ih2 _ _)
      | (with_reducible exact ih3 _ _ _ _ _ _)
      | (with_reducible exact ih4 _ _)
      | (with_reducible exact ih5 _ _ _ _ _ _)
      | (with_reducible exact impl_DivDown.mono _ _ _)
      | (with_reducible exact impl_DivUp.mono _ _ _)
      | (with_reducible exact impl_MulDown.mono _ _ _)
      | (with_reducible exact impl_MulUp.mono _ _ _)
      | (with_reducible exact impl_ReadFix.mono _ _)
      | (with_reducible exact impl_SqrtDown.mono _ _)
      | (with_reducible exact impl_SqrtUp.mono _ _)
      | (with_reducible exact impl_TextDown.mono _ _ _)
      | (with_reducible exact impl_TextUp.mono _ _ _)
      | (with_reducible exact spec_A2Fixes.mono _ _)
      | (with_reducible exact LeO.refl _)
      | (with_reducible exact LeO.none _)
      | (with_reducible refine LeO.ite ?_ ?_)
      | (with_reducible refine LeO.bind ?_ (fun _ => ?_))
      | exact ih0 _ _ _ _
      | exact ih1 _ _ _ _ _ _
      | exact ih2 _ _
      | exact ih3 _ _ _ _ _ _
      | exact ih4 _ _
      | exact ih5 _ _ _ _ _ _
      | exact impl_DivDown.mono _ _ _
      | exact impl_DivUp.mono _ _ _
      | exact impl_MulDown.mono _ _ _
      | exact impl_MulUp.mono _ _ _
      | exact impl_ReadFix.mono _ _
      | exact impl_SqrtDown.mono _ _
      | exact impl_SqrtUp.mono _ _
      | exact impl_TextDown.mono _ _ _
      | exact impl_TextUp.mono _ _ _
      | exact spec_A2Fixes.mono _ _
      | exact LeO.none _
      | refine LeO.ite ?_ ?_
      | refine LeO.bind ?_ (fun _ => ?_)
    · intro y0 y1
      unfold laws_FnFixed.j5
      repeat' first
      | (with_reducible exact ih0 _ _ _ _)
      | (with_reducible exact ih1 _ _ _ _ _ _)
      | (with_reducible exact ih2 _ _)
      | (with_reducible exact ih3 _ _ _ _ _ _)
      | (with_reducible exact ih4 _ _)
      | (with_reducible exact ih5 _ _ _ _ _ _)
      | (with_reducible exact impl_DivDown.mono _ _ _)
      | (with_reducible exact impl_DivUp.mono _ _ _)
      | (with_reducible exact impl_MulDown.mono _ _ _)
      | (with_reducible exact impl_MulUp.mono _ _ _)
      | (with_reducible exact impl_ReadFix.mono _ _)
      | (with_reducible exact impl_SqrtDown.mono _ _)
      | (with_reducible exact impl_SqrtUp.mono _ _)
      | (with_reducible exact impl_TextDown.mono _ _ _)
      | (with_reducible exact impl_TextUp.mono _ _ _)
      | (with_reducible exact spec_A2Fixes.mono _ _)
      | (with_reducible exact LeO.refl _)
      | (with_reducible exact LeO.none _)
      | (with_reducible refine LeO.ite ?_ ?_)
      | (with_reducible refine LeO.bind ?_ (fun _ => ?_))
      | exact ih0 _ _ _ _
      | exact ih1 _ _ _ _ _ _
      | exact ih2 _ _
      | exact ih3 _ _ _ _ _ _
      | exact ih4 _ _
      | exact ih5 _ _ _ _ _ _
      | exact impl_DivDown.mono _ _ _
      | exact impl_DivUp.mono _ _ _
      | exact impl_MulDown.mono _ _ _
      | exact impl_MulUp.mono _ _ _
      | exact impl_ReadFix.mono _ _
      | exact impl_SqrtDown.mono _ _
      | exact impl_SqrtUp.mono _ _
      | exact impl_TextDown.mono _ _ _
      | exact impl_TextUp.mono _ _ _
      | exact spec_A2Fixes.mono _ _
      | exact LeO.none _
      | refine LeO.ite ?_ ?_
      | refine LeO.bind ?_ (fun _ => ?_)
    · intro y0 y1 y2 y3 y4 y5
      unfold laws_FnFixed.j2
      repeat' first
      | (with_reducible exact ih0 _ _ _ _)
      | (with_reducible exact ih1 _ _ _ _ _ _)
      | (with_reducible exact ih2 _ _)
      | (with_reducible exact ih3 _ _ _ _ _ _)
      | (with_reducible exact ih4 _ _)
      | (with_reducible exact ih5 _ _ _ _ _ _)
      | (with_reducible exact impl_DivDown.mono _ _ _)
      | (with_reducible exact impl_DivUp.mono _ _ _)
      | (with_reducible exact impl_MulDown.mono _ _ _)
      | (with_reducible exact impl_MulUp.mono _ _ _)
      | (with_reducible exact impl_ReadFix.mono _ _)
      | (with_reducible exact impl_SqrtDown.mono _ _)
      | (with_reducible exact impl_SqrtUp.mono _ _)
      | (with_reducible exact impl_TextDown.mono _ _ _)
      | (with_reducible exact impl_TextUp.mono _ _ _)
      | (with_reducible exact spec_A2Fixes.mono _ _)
      | (with_reducible exact LeO.refl _)
      | (with_reducible exact LeO.none _)
      | (with_reducible refine LeO.ite ?_ ?_)
      | (with_reducible refine LeO.bind ?_ (fun _ => ?_))
      | exact ih0 _ _ _ _
      | exact ih1 _ _ _ _ _ _
      | exact ih2 _ _
      | exact ih3 _ _ _ _ _ _
      | exact ih4 _ _
      | exact ih5 _ _ _ _ _ _
      | exact impl_DivDown.mono _ _ _
      | exact impl_DivUp.mono _ _ _
      | exact impl_MulDown.mono _ _ _
      | exact impl_MulUp.mono _ _ _
      | exact impl_ReadFix.mono _ _
      | exact impl_SqrtDown.mono _ _
      | exact impl_SqrtUp.mono _ _
      | exact impl_TextDown.mono _ _ _
      | exact impl_TextUp.mono _ _ _
      | exact spec_A2Fixes.mono _ _
      | exact LeO.none _
      | refine LeO.ite ?_ ?_
      | refine LeO.bind ?_ (fun _ => ?_)
theorem laws_FnFixed.mono : ∀ a0 a1 k, LeO (laws_FnFixed.f k a0 a1) (laws_FnFixed.f (k + 1) a0 a1) := by
  intro a0 a1 k
  obtain ⟨ih0, ih1, ih2, ih3, ih4, ih5⟩ := laws_FnFixed.mono_l k
  unfold laws_FnFixed.f
  repeat' first
      | (with_reducible exact ih0 _ _ _ _)
      | (with_reducible exact ih1 _ _ _ _ _ _)
      | (with_reducible exact ih2 _ _)
      | (with_reducible exact ih3 _ _ _ _ _ _)
      | (with_reducible exact ih4 _ _)
      | (with_reducible exact ih5 _ _ _ _ _ _)
      | (with_reducible exact impl_DivDown.mono _ _ _)
      | (with_reducible exact impl_DivUp.mono _ _ _)
      | (with_reducible exact impl_MulDown.mono _ _ _)
      | (with_reducible exact impl_MulUp.mono _ _ _)
      | (with_reducible exact impl_ReadFix.mono _ _)
      | (with_reducible exact impl_SqrtDown.mono _ _)
      | (with_reducible exact impl_SqrtUp.mono _ _)
      | (with_reducible exact impl_TextDown.mono _ _ _)
      | (with_reducible exact impl_TextUp.mono _ _ _)
      | (with_reducible exact spec_A2Fixes.mono _ _)
      | (with_reducible exact LeO.refl _)
      | (with_reducible exact LeO.none _)
      | (with_reducible refine LeO.ite ?_ ?_)
      | (with_reducible refine LeO.bind ?_ (fun _ => ?_))
      | exact ih0 _ _ _ _
      | exact ih1 _ _ _ _ _ _
      | exact ih2 _ _
      | exact ih3 _ _ _ _ _ _
      | exact ih4 _ _
      | exact ih5 _ _ _ _ _ _
      | exact impl_DivDown.mono _ _ _
      | exact impl_DivUp.mono _ _ _
      | exact impl_MulDown.mono _ _ _
      | exact impl_MulUp.mono _ _ _
      | exact impl_ReadFix.mono _ _
      | exact impl_SqrtDown.mono _ _
      | exact impl_SqrtUp.mono _ _
      | exact impl_TextDown.mono _ _ _
      | exact impl_TextUp.mono _ _ _
      | exact spec_A2Fixes.mono _ _
      | exact LeO.none _
      | refine LeO.ite ?_ ?_
      | refine LeO.bind ?_ (fun _ => ?_)
def laws_FnFixed.Pure : Prop := ∀ (l0 : List Int) (l1 : List Int), l0.length ≤ maxLen → l0.length * 1 ≤ 140737488351232 → (∀ x ∈ l0, (Lit.int .u8 x).wf = true) → l1.length ≤ maxLen → l1.length * 1 ≤ 140737488351232 → (∀ x ∈ l1, (Lit.int .u8 x).wf = true) → ∃ k, laws_FnFixed.f k l0 l1 = some true

end Go.Proofs.YtnlmndhmjceajaaDoor.PFnFixed
