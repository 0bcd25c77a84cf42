/- Functions that a law reaches, as Lean functions, and that the Go text's calls come to just these; no condition but that the Lean function's value is told. (Written by the kit's print.py over contracts of this session.) -/
import Derived.Test.YtnlmndhmjceajaaDoorPFnFixedx0
import Derived.Test.YtnlmndhmjceajaaDoorPFnFixedx2
import Derived.Test.YtnlmndhmjceajaaDoorPFnFixedx3
import Derived.Test.YtnlmndhmjceajaaDoorPFnFixedx5
import Derived.Test.YtnlmndhmjceajaaDoorPFnFixedx6
import Derived.Test.YtnlmndhmjceajaaDoorPFnFixedx7
namespace Go.Proofs.YtnlmndhmjceajaaDoor.PFnFixed
open Go.RowKit Go.Proofs.YtnlmndhmjceajaaDoor.Ext Go.Proofs.YtnlmndhmjceajaaDoorW.PrintWords Go.Proofs.YtnlmndhmjceajaaDoorW.PrintLast Go.Proofs.YtnlmndhmjceajaaDoorW.PrintMore
attribute [local go_sem] max2_int min2_int max_two min_two max_three min_three max_four min_four   -- for this text's walks alone
set_option linter.unusedVariables false
set_option linter.unusedSimpArgs false

set_option maxHeartbeats 8000000 in
set_option maxRecDepth 100000 in
theorem laws_FnFixed.calls (k : Nat) (A0 : Option Addr) (c0 : Nat) (l0 : List Int) (A1 : Option Addr) (c1 : Nat) (l1 : List Int) (w : World) (HT : Hid (LaidC w)) (hr0 : Kd.C (Kd.int .u8) w A0 l0.length l0) (hc0 : l0.length ≤ c0) (hr1 : Kd.C (Kd.int .u8) w A1 l1.length l1) (hc1 : l1.length ≤ c1) (h : laws_FnFixed.f k l0 l1 = some true) :
    Calls Tryd.prog 3 #[.slice A0 l0.length c0, .slice A1 l1.length c1] w fun e w' => e = .returned (.bool true) ∧ Below w.heap.size w w' := by
  have HR0 := Aside0.mk hr0
  have HC0 := Aside0.mk hc0
  clear hr0 hc0
  have HR1 := Aside0.mk hr1
  have HC1 := Aside0.mk hc1
  clear hr1 hc1
  have HB := Aside0.mk (Below.refl w.heap.size w)
  have H : ((laws_a2Long.f l0 l1).bind fun t293 => (if t293 = true then (some true) else ((spec_A2Fixes.f k l0).bind fun bt294 => ((impl_MulDown.f k bt294.1 bt294.2).bind fun bt296 => ((impl_MulUp.f k bt294.1 bt294.2).bind fun bt298 => ((impl_MulUp.f k (wrap64 (-bt294.1)) bt294.2).bind fun bt300 => (if bt296.2 = true then (if bt298.2 = true then (if bt296.1 > bt298.1 then (laws_FnFixed.j0 k l1 bt294.1 bt294.2 true) else (if bt298.1 > (wrap64 (bt296.1 + 1)) then (laws_FnFixed.j0 k l1 bt294.1 bt294.2 true) else (if (bt296.2 != bt300.2) = true then (laws_FnFixed.j0 k l1 bt294.1 bt294.2 true) else (laws_FnFixed.j0 k l1 bt294.1 bt294.2 (bt300.1 != (wrap64 (-bt296.1))))))) else (if (bt296.2 != bt300.2) = true then (laws_FnFixed.j0 k l1 bt294.1 bt294.2 true) else (laws_FnFixed.j0 k l1 bt294.1 bt294.2 (bt300.1 != (wrap64 (-bt296.1)))))) else (if (bt296.2 != bt300.2) = true then (laws_FnFixed.j0 k l1 bt294.1 bt294.2 true) else (laws_FnFixed.j0 k l1 bt294.1 bt294.2 false))))))))) = some true := h
  clear h
  replace H := Option.bind_eq_some_iff.mp H
  obtain ⟨t293, A30, H⟩ := H
  replace H : (if t293 = true then (some true) else ((spec_A2Fixes.f k l0).bind fun bt294 => ((impl_MulDown.f k bt294.1 bt294.2).bind fun bt296 => ((impl_MulUp.f k bt294.1 bt294.2).bind fun bt298 => ((impl_MulUp.f k (wrap64 (-bt294.1)) bt294.2).bind fun bt300 => (if bt296.2 = true then (if bt298.2 = true then (if bt296.1 > bt298.1 then (laws_FnFixed.j0 k l1 bt294.1 bt294.2 true) else (if bt298.1 > (wrap64 (bt296.1 + 1)) then (laws_FnFixed.j0 k l1 bt294.1 bt294.2 true) else (if (bt296.2 != bt300.2) = true then (laws_FnFixed.j0 k l1 bt294.1 bt294.2 true) else (laws_FnFixed.j0 k l1 bt294.1 bt294.2 (bt300.1 != (wrap64 (-bt296.1))))))) else (if (bt296.2 != bt300.2) = true then (laws_FnFixed.j0 k l1 bt294.1 bt294.2 true) else (laws_FnFixed.j0 k l1 bt294.1 bt294.2 (bt300.1 != (wrap64 (-bt296.1)))))) else (if (bt296.2 != bt300.2) = true then (laws_FnFixed.j0 k l1 bt294.1 bt294.2 true) else (laws_FnFixed.j0 k l1 bt294.1 bt294.2 false)))))))) = some true := H
  have A3 := Aside0.mk A30
  clear A30
  by_cases c4 : t293 = true
  · subst c4
    have H1 : (some true) = some true := rfl
    clear H
    have H := H1
    clear H1
    first
    | exact absurd (Option.some.inj H) (by decide)
    | (have hr_ := Option.some.inj H
       clear H
       go_enter Tryd.func3, Tryd.ntmps3
       go_wp2_with (first | ((with_reducible refine gate_callee (f := 4) rfl ?_); refine goesL_ (some 30) rfl rfl Tryd.func4 (by kernel_rfl) rfl #[.slice A0 l0.length c0, .slice A1 l1.length c1] rfl (by (try simp only [List.map_toArray, List.map_cons, List.map_nil]); first | done | rfl | (simp only [List.length_drop, List.length_take]; rfl)) ?_; (with_reducible refine (laws_a2Long.calls _ _ l0 _ _ l1 true _ ?side1 ?side2 ?side3 ?side4 A3.out).mono ?_); (case side1 => repeat (first | exact HR0.out | (with_reducible refine Kd.C_alloc ?_ _) | (with_reducible refine Kd.C_drewN ?_ _) | (with_reducible refine Kd.C_drew ?_))); (case side2 => exact HC0.out); (case side3 => repeat (first | exact HR1.out | (with_reducible refine Kd.C_alloc ?_ _) | (with_reducible refine Kd.C_drewN ?_ _) | (with_reducible refine Kd.C_drew ?_))); (case side4 => exact HC1.out); rintro e w' ⟨rfl, ⟨nd, rfl⟩⟩; refine ⟨_, rfl, ?_⟩))
       go_ret
       exact ⟨by first | rfl | (simp [errW_none, errW_some] <;> rfl) | (simp [*, errW_none, errW_some] <;> rfl), by repeat (first | (with_reducible first | exact HB.out | apply below_alloc | apply pw_below_drewN | apply below_drew1) | exact HB.out)⟩)
  · replace c4 := Bool.eq_false_iff.mpr c4
    subst c4
    have H1 : ((spec_A2Fixes.f k l0).bind fun bt294 => ((impl_MulDown.f k bt294.1 bt294.2).bind fun bt296 => ((impl_MulUp.f k bt294.1 bt294.2).bind fun bt298 => ((impl_MulUp.f k (wrap64 (-bt294.1)) bt294.2).bind fun bt300 => (if bt296.2 = true then (if bt298.2 = true then (if bt296.1 > bt298.1 then (laws_FnFixed.j0 k l1 bt294.1 bt294.2 true) else (if bt298.1 > (wrap64 (bt296.1 + 1)) then (laws_FnFixed.j0 k l1 bt294.1 bt294.2 true) else (if (bt296.2 != bt300.2) = true then (laws_FnFixed.j0 k l1 bt294.1 bt294.2 true) else (laws_FnFixed.j0 k l1 bt294.1 bt294.2 (bt300.1 != (wrap64 (-bt296.1))))))) else (if (bt296.2 != bt300.2) = true then (laws_FnFixed.j0 k l1 bt294.1 bt294.2 true) else (laws_FnFixed.j0 k l1 bt294.1 bt294.2 (bt300.1 != (wrap64 (-bt296.1)))))) else (if (bt296.2 != bt300.2) = true then (laws_FnFixed.j0 k l1 bt294.1 bt294.2 true) else (laws_FnFixed.j0 k l1 bt294.1 bt294.2 false))))))) = some true := by rw [if_neg (show ¬ (false = true) by decide)] at H; exact H
    clear H
    have H := H1
    clear H1
    replace H := Option.bind_eq_some_iff.mp H
    obtain ⟨⟨t294, t295⟩, A50, H⟩ := H
    replace H : ((impl_MulDown.f k t294 t295).bind fun bt296 => ((impl_MulUp.f k t294 t295).bind fun bt298 => ((impl_MulUp.f k (wrap64 (-t294)) t295).bind fun bt300 => (if bt296.2 = true then (if bt298.2 = true then (if bt296.1 > bt298.1 then (laws_FnFixed.j0 k l1 t294 t295 true) else (if bt298.1 > (wrap64 (bt296.1 + 1)) then (laws_FnFixed.j0 k l1 t294 t295 true) else (if (bt296.2 != bt300.2) = true then (laws_FnFixed.j0 k l1 t294 t295 true) else (laws_FnFixed.j0 k l1 t294 t295 (bt300.1 != (wrap64 (-bt296.1))))))) else (if (bt296.2 != bt300.2) = true then (laws_FnFixed.j0 k l1 t294 t295 true) else (laws_FnFixed.j0 k l1 t294 t295 (bt300.1 != (wrap64 (-bt296.1)))))) else (if (bt296.2 != bt300.2) = true then (laws_FnFixed.j0 k l1 t294 t295 true) else (laws_FnFixed.j0 k l1 t294 t295 false)))))) = some true := H
    have A5 := Aside0.mk A50
    clear A50
    replace H := Option.bind_eq_some_iff.mp H
    obtain ⟨⟨t296, t297⟩, A60, H⟩ := H
    replace H : ((impl_MulUp.f k t294 t295).bind fun bt298 => ((impl_MulUp.f k (wrap64 (-t294)) t295).bind fun bt300 => (if t297 = true then (if bt298.2 = true then (if t296 > bt298.1 then (laws_FnFixed.j0 k l1 t294 t295 true) else (if bt298.1 > (wrap64 (t296 + 1)) then (laws_FnFixed.j0 k l1 t294 t295 true) else (if (t297 != bt300.2) = true then (laws_FnFixed.j0 k l1 t294 t295 true) else (laws_FnFixed.j0 k l1 t294 t295 (bt300.1 != (wrap64 (-t296))))))) else (if (t297 != bt300.2) = true then (laws_FnFixed.j0 k l1 t294 t295 true) else (laws_FnFixed.j0 k l1 t294 t295 (bt300.1 != (wrap64 (-t296)))))) else (if (t297 != bt300.2) = true then (laws_FnFixed.j0 k l1 t294 t295 true) else (laws_FnFixed.j0 k l1 t294 t295 false))))) = some true := H
    have A6 := Aside0.mk A60
    clear A60
    replace H := Option.bind_eq_some_iff.mp H
    obtain ⟨⟨t298, t299⟩, A70, H⟩ := H
    replace H : ((impl_MulUp.f k (wrap64 (-t294)) t295).bind fun bt300 => (if t297 = true then (if t299 = true then (if t296 > t298 then (laws_FnFixed.j0 k l1 t294 t295 true) else (if t298 > (wrap64 (t296 + 1)) then (laws_FnFixed.j0 k l1 t294 t295 true) else (if (t297 != bt300.2) = true then (laws_FnFixed.j0 k l1 t294 t295 true) else (laws_FnFixed.j0 k l1 t294 t295 (bt300.1 != (wrap64 (-t296))))))) else (if (t297 != bt300.2) = true then (laws_FnFixed.j0 k l1 t294 t295 true) else (laws_FnFixed.j0 k l1 t294 t295 (bt300.1 != (wrap64 (-t296)))))) else (if (t297 != bt300.2) = true then (laws_FnFixed.j0 k l1 t294 t295 true) else (laws_FnFixed.j0 k l1 t294 t295 false)))) = some true := H
    have A7 := Aside0.mk A70
    clear A70
    replace H := Option.bind_eq_some_iff.mp H
    obtain ⟨⟨t300, t301⟩, A80, H⟩ := H
    replace H : (if t297 = true then (if t299 = true then (if t296 > t298 then (laws_FnFixed.j0 k l1 t294 t295 true) else (if t298 > (wrap64 (t296 + 1)) then (laws_FnFixed.j0 k l1 t294 t295 true) else (if (t297 != t301) = true then (laws_FnFixed.j0 k l1 t294 t295 true) else (laws_FnFixed.j0 k l1 t294 t295 (t300 != (wrap64 (-t296))))))) else (if (t297 != t301) = true then (laws_FnFixed.j0 k l1 t294 t295 true) else (laws_FnFixed.j0 k l1 t294 t295 (t300 != (wrap64 (-t296)))))) else (if (t297 != t301) = true then (laws_FnFixed.j0 k l1 t294 t295 true) else (laws_FnFixed.j0 k l1 t294 t295 false))) = some true := H
    have A8 := Aside0.mk A80
    clear A80
    have HC9 := Aside0.mk H
    clear H
    go_enter Tryd.func3, Tryd.ntmps3
    go_upto_region 7 with (first | ((with_reducible refine gate_callee (f := 4) rfl ?_); refine goesL_ (some 30) rfl rfl Tryd.func4 (by kernel_rfl) rfl #[.slice A0 l0.length c0, .slice A1 l1.length c1] rfl (by (try simp only [List.map_toArray, List.map_cons, List.map_nil]); first | done | rfl | (simp only [List.length_drop, List.length_take]; rfl)) ?_; (with_reducible refine (laws_a2Long.calls _ _ l0 _ _ l1 false _ ?side1 ?side2 ?side3 ?side4 A3.out).mono ?_); (case side1 => repeat (first | exact HR0.out | (with_reducible refine Kd.C_alloc ?_ _) | (with_reducible refine Kd.C_drewN ?_ _) | (with_reducible refine Kd.C_drew ?_))); (case side2 => exact HC0.out); (case side3 => repeat (first | exact HR1.out | (with_reducible refine Kd.C_alloc ?_ _) | (with_reducible refine Kd.C_drewN ?_ _) | (with_reducible refine Kd.C_drew ?_))); (case side4 => exact HC1.out); rintro e w' ⟨rfl, ⟨nd, rfl⟩⟩; refine ⟨_, rfl, ?_⟩) | ((with_reducible refine gate_callee (f := 5) rfl ?_); refine goesL_ (some 33) rfl rfl Tryd.func5 (by kernel_rfl) rfl #[.slice A0 l0.length c0] rfl (by (try simp only [List.map_toArray, List.map_cons, List.map_nil]); first | done | rfl | (simp only [List.length_drop, List.length_take]; rfl)) ?_; (with_reducible refine (spec_A2Fixes.calls k _ _ l0 t294 t295 _ ?side1 ?side2 A5.out).mono ?_); (case side1 => repeat (first | exact HR0.out | (with_reducible refine Kd.C_alloc ?_ _) | (with_reducible refine Kd.C_drewN ?_ _) | (with_reducible refine Kd.C_drew ?_))); (case side2 => exact HC0.out); rintro e w10 ⟨rfl, hb⟩; refine ⟨_, rfl, ?_⟩; have n0_ := Aside0.mk (below_step (by repeat (first | (with_reducible first | exact HB.out | apply below_alloc | apply pw_below_drewN | apply below_drew1) | exact HB.out)) hb); clear HB; have HB := n0_; clear n0_; (try clear hb); (try clear hb2); (try clear hk); (try clear hi)) | ((with_reducible refine gate_callee (f := 6) rfl ?_); refine goesL_ (some 39) rfl rfl Tryd.func6 (by kernel_rfl) rfl #[.int .i64 t294, .int .i64 t295] rfl (by (try simp only [List.map_toArray, List.map_cons, List.map_nil]); first | done | rfl | (simp only [List.length_drop, List.length_take]; rfl)) ?_; (with_reducible refine (impl_MulDown.calls k t294 t295 t296 t297 _ A6.out).mono ?_); rintro e w11 ⟨rfl, hb⟩; refine ⟨_, rfl, ?_⟩; have n0_ := Aside0.mk (below_step (by repeat (first | (with_reducible first | exact HB.out | apply below_alloc | apply pw_below_drewN | apply below_drew1) | exact HB.out)) hb); clear HB; have HB := n0_; clear n0_; (try clear hb); (try clear hb2); (try clear hk); (try clear hi)) | ((with_reducible refine gate_callee (f := 7) rfl ?_); refine goesL_ (some 45) rfl rfl Tryd.func7 (by kernel_rfl) rfl #[.int .i64 t294, .int .i64 t295] rfl (by (try simp only [List.map_toArray, List.map_cons, List.map_nil]); first | done | rfl | (simp only [List.length_drop, List.length_take]; rfl)) ?_; (with_reducible refine (impl_MulUp.calls k t294 t295 t298 t299 _ A7.out).mono ?_); rintro e w12 ⟨rfl, hb⟩; refine ⟨_, rfl, ?_⟩; have n0_ := Aside0.mk (below_step (by repeat (first | (with_reducible first | exact HB.out | apply below_alloc | apply pw_below_drewN | apply below_drew1) | exact HB.out)) hb); clear HB; have HB := n0_; clear n0_; (try clear hb); (try clear hb2); (try clear hk); (try clear hi)) | ((with_reducible refine gate_callee (f := 7) rfl ?_); refine goesL_ (some 52) rfl rfl Tryd.func7 (by kernel_rfl) rfl #[.int .i64 (wrap64 (-t294)), .int .i64 t295] rfl (by (try simp only [List.map_toArray, List.map_cons, List.map_nil]); first | done | rfl | (simp only [List.length_drop, List.length_take]; rfl)) ?_; (with_reducible refine (impl_MulUp.calls k (wrap64 (-t294)) t295 t300 t301 _ A8.out).mono ?_); rintro e w13 ⟨rfl, hb⟩; refine ⟨_, rfl, ?_⟩; have n0_ := Aside0.mk (below_step (by repeat (first | (with_reducible first | exact HB.out | apply below_alloc | apply pw_below_drewN | apply below_drew1) | exact HB.out)) hb); clear HB; have HB := n0_; clear n0_; (try clear hb); (try clear hb2); (try clear hk); (try clear hi)))
    (try simp only [Act.put, List.setIfInBounds_toArray, List.set_cons_zero, List.set_cons_succ])
    go_cut [83] (fun v83 wc => ∃ (kq : Nat) (x83_8 : Bool), v83 = .bool x83_8 ∧ Aside0 (laws_FnFixed.j0 kq l1 t294 t295 x83_8 = some true) ∧ Aside0 (kq ≤ k) ∧ Aside0 (Below w.heap.size w wc))
    case first =>
      as_aux_lemma =>
        have H := HC9.out
        clear HC9
        by_cases c14 : t297 = true
        · subst c14
          have H1 : (if t299 = true then (if t296 > t298 then (laws_FnFixed.j0 k l1 t294 t295 true) else (if t298 > (wrap64 (t296 + 1)) then (laws_FnFixed.j0 k l1 t294 t295 true) else (if (true != t301) = true then (laws_FnFixed.j0 k l1 t294 t295 true) else (laws_FnFixed.j0 k l1 t294 t295 (t300 != (wrap64 (-t296))))))) else (if (true != t301) = true then (laws_FnFixed.j0 k l1 t294 t295 true) else (laws_FnFixed.j0 k l1 t294 t295 (t300 != (wrap64 (-t296)))))) = some true := by rw [if_pos rfl] at H; exact H
          clear H
          have H := H1
          clear H1
          by_cases c15 : t299 = true
          · subst c15
            have H1 : (if t296 > t298 then (laws_FnFixed.j0 k l1 t294 t295 true) else (if t298 > (wrap64 (t296 + 1)) then (laws_FnFixed.j0 k l1 t294 t295 true) else (if (true != t301) = true then (laws_FnFixed.j0 k l1 t294 t295 true) else (laws_FnFixed.j0 k l1 t294 t295 (t300 != (wrap64 (-t296))))))) = some true := by rw [if_pos rfl] at H; exact H
            clear H
            have H := H1
            clear H1
            by_cases c16 : t296 > t298
            · rw [if_pos c16] at H
              have c16b0 : decide (t298 < t296) = true := decide_eq_true c16
              clear c16
              (first | rw [c16b0] | (simp only [i64_w, i32_w]; rw [c16b0]) | skip)
              have H' := Aside0.mk H
              clear H
              as_aux_lemma =>
                go_wp2
                go_meet
                case rel => exact ⟨_, (true), (by first | rfl | (simp; done) | (simp [*]; done)), H', ⟨by first | omega | exact Nat.le_refl _⟩, ⟨by repeat (first | (with_reducible first | exact HB.out | apply below_alloc | apply pw_below_drewN | apply below_drew1) | exact HB.out)⟩⟩
            · rw [if_neg c16] at H
              have c16b0 : decide (t298 < t296) = false := decide_eq_false c16
              clear c16
              (first | rw [c16b0] | (simp only [i64_w, i32_w]; rw [c16b0]) | skip)
              by_cases c17 : t298 > (wrap64 (t296 + 1))
              · rw [if_pos c17] at H
                have c17b0 : decide ((wrap64 (t296 + 1)) < t298) = true := decide_eq_true c17
                clear c17
                have H' := Aside0.mk H
                clear H
                as_aux_lemma =>
                  go_wp2
                  go_meet
                  case rel => exact ⟨_, (true), (by first | rfl | (simp; done) | (simp [*]; done)), H', ⟨by first | omega | exact Nat.le_refl _⟩, ⟨by repeat (first | (with_reducible first | exact HB.out | apply below_alloc | apply pw_below_drewN | apply below_drew1) | exact HB.out)⟩⟩
              · rw [if_neg c17] at H
                have c17b0 : decide ((wrap64 (t296 + 1)) < t298) = false := decide_eq_false c17
                clear c17
                by_cases c18 : (true != t301) = true
                · rw [if_pos c18] at H
                  have c18b0 : (true != t301) = true := c18
                  (try (have c18b1 : decide (true = t301) = false := by simpa using c18))
                  (try (have c18b2 : (true == t301) = false := by simpa using c18))
                  (try (have c18b3 : ¬ (true = t301) := by simpa using c18))
                  clear c18
                  have H' := Aside0.mk H
                  clear H
                  as_aux_lemma =>
                    go_wp2
                    go_meet
                    case rel => exact ⟨_, (true), (by first | rfl | (simp; done) | (simp [*]; done)), H', ⟨by first | omega | exact Nat.le_refl _⟩, ⟨by repeat (first | (with_reducible first | exact HB.out | apply below_alloc | apply pw_below_drewN | apply below_drew1) | exact HB.out)⟩⟩
                · rw [if_neg c18] at H
                  have c18b0 : (true != t301) = false := by simpa using c18
                  (try (have c18b1 : decide (true = t301) = true := by simpa using c18))
                  (try (have c18b2 : (true == t301) = true := by simpa using c18))
                  clear c18
                  have H' := Aside0.mk H
                  clear H
                  as_aux_lemma =>
                    go_wp2
                    go_meet
                    case rel => exact ⟨_, ((t300 != (wrap64 (-t296)))), (by first | rfl | (simp; done) | (simp [*]; done)), H', ⟨by first | omega | exact Nat.le_refl _⟩, ⟨by repeat (first | (with_reducible first | exact HB.out | apply below_alloc | apply pw_below_drewN | apply below_drew1) | exact HB.out)⟩⟩
          · replace c15 := Bool.eq_false_iff.mpr c15
            subst c15
            have H1 : (if (true != t301) = true then (laws_FnFixed.j0 k l1 t294 t295 true) else (laws_FnFixed.j0 k l1 t294 t295 (t300 != (wrap64 (-t296))))) = some true := by rw [if_neg (show ¬ (false = true) by decide)] at H; exact H
            clear H
            have H := H1
            clear H1
            by_cases c19 : (true != t301) = true
            · rw [if_pos c19] at H
              have c19b0 : (true != t301) = true := c19
              (try (have c19b1 : decide (true = t301) = false := by simpa using c19))
              (try (have c19b2 : (true == t301) = false := by simpa using c19))
              (try (have c19b3 : ¬ (true = t301) := by simpa using c19))
              clear c19
              have H' := Aside0.mk H
              clear H
              as_aux_lemma =>
                go_wp2
                go_meet
                case rel => exact ⟨_, (true), (by first | rfl | (simp; done) | (simp [*]; done)), H', ⟨by first | omega | exact Nat.le_refl _⟩, ⟨by repeat (first | (with_reducible first | exact HB.out | apply below_alloc | apply pw_below_drewN | apply below_drew1) | exact HB.out)⟩⟩
            · rw [if_neg c19] at H
              have c19b0 : (true != t301) = false := by simpa using c19
              (try (have c19b1 : decide (true = t301) = true := by simpa using c19))
              (try (have c19b2 : (true == t301) = true := by simpa using c19))
              clear c19
              have H' := Aside0.mk H
              clear H
              as_aux_lemma =>
                go_wp2
                go_meet
                case rel => exact ⟨_, ((t300 != (wrap64 (-t296)))), (by first | rfl | (simp; done) | (simp [*]; done)), H', ⟨by first | omega | exact Nat.le_refl _⟩, ⟨by repeat (first | (with_reducible first | exact HB.out | apply below_alloc | apply pw_below_drewN | apply below_drew1) | exact HB.out)⟩⟩
        · replace c14 := Bool.eq_false_iff.mpr c14
          subst c14
          have H1 : (if (false != t301) = true then (laws_FnFixed.j0 k l1 t294 t295 true) else (laws_FnFixed.j0 k l1 t294 t295 false)) = some true := by rw [if_neg (show ¬ (false = true) by decide)] at H; exact H
          clear H
          have H := H1
          clear H1
          by_cases c20 : (false != t301) = true
          · rw [if_pos c20] at H
            have c20b0 : (false != t301) = true := c20
            (try (have c20b1 : decide (false = t301) = false := by simpa using c20))
            (try (have c20b2 : (false == t301) = false := by simpa using c20))
            (try (have c20b3 : ¬ (false = t301) := by simpa using c20))
            clear c20
            have H' := Aside0.mk H
            clear H
            as_aux_lemma =>
              go_wp2
              go_meet
              case rel => exact ⟨_, (true), (by first | rfl | (simp; done) | (simp [*]; done)), H', ⟨by first | omega | exact Nat.le_refl _⟩, ⟨by repeat (first | (with_reducible first | exact HB.out | apply below_alloc | apply pw_below_drewN | apply below_drew1) | exact HB.out)⟩⟩
          · rw [if_neg c20] at H
            have c20b0 : (false != t301) = false := by simpa using c20
            (try (have c20b1 : decide (false = t301) = true := by simpa using c20))
            (try (have c20b2 : (false == t301) = true := by simpa using c20))
            clear c20
            have H' := Aside0.mk H
            clear H
            as_aux_lemma =>
              go_wp2
              go_meet
              case rel => exact ⟨_, (false), (by first | rfl | (simp; done) | (simp [*]; done)), H', ⟨by first | omega | exact Nat.le_refl _⟩, ⟨by repeat (first | (with_reducible first | exact HB.out | apply below_alloc | apply pw_below_drewN | apply below_drew1) | exact HB.out)⟩⟩
    case rest =>
      as_aux_lemma =>
        clear HC9
        try clear c1
        try clear c2
        try clear p2
        try clear c3
        try clear c4
        try clear c5
        try clear c6
        try clear p6
        try clear c7
        try clear c14
        try clear c15
        try clear c16
        try clear c16b0
        try clear c17
        try clear c17b0
        try clear c18
        try clear c18b0
        try clear c18b1
        try clear c18b2
        try clear c19
        try clear c19b0
        try clear c19b1
        try clear c19b2
        try clear c20
        try clear c20b0
        try clear c20b1
        try clear c20b2
        obtain ⟨kq, x83_8, rfl, HA, HJ8, HB⟩ := hcut
        cases kq with
        | zero => exact absurd HA.out (by simp [laws_FnFixed.j0])
        | succ kj8 =>
          have H := HA.out
          clear HA
          simp only [laws_FnFixed.j0] at H
          by_cases c21 : x83_8 = true
          · subst c21
            have H1 : (some false) = some true := by rw [if_pos rfl] at H; exact H
            clear H
            have H := H1
            clear H1
            first
            | exact absurd (Option.some.inj H) (by decide)
            | (have hr_ := Option.some.inj H
               clear H
               go_wp2
               go_ret
               exact ⟨by first | rfl | (simp [errW_none, errW_some] <;> rfl) | (simp [*, errW_none, errW_some] <;> rfl), by repeat (first | (with_reducible first | exact HB.out | apply below_alloc | apply pw_below_drewN | apply below_drew1) | exact HB.out)⟩)
          · replace c21 := Bool.eq_false_iff.mpr c21
            subst c21
            have H1 : ((impl_DivDown.f kj8 t294 t295).bind fun bt302 => ((impl_DivUp.f kj8 t294 t295).bind fun bt304 => (if bt302.2 = true then (laws_FnFixed.j1 kj8 l1 t294 t295 bt302.1 bt304.1 bt304.2) else (laws_FnFixed.j1 kj8 l1 t294 t295 bt302.1 bt304.1 false)))) = some true := by rw [if_neg (show ¬ (false = true) by decide)] at H; exact H
            clear H
            have H := H1
            clear H1
            replace H := Option.bind_eq_some_iff.mp H
            obtain ⟨⟨t302, t303⟩, A220, H⟩ := H
            replace H : ((impl_DivUp.f kj8 t294 t295).bind fun bt304 => (if t303 = true then (laws_FnFixed.j1 kj8 l1 t294 t295 t302 bt304.1 bt304.2) else (laws_FnFixed.j1 kj8 l1 t294 t295 t302 bt304.1 false))) = some true := H
            have A22 := Aside0.mk A220
            clear A220
            replace H := Option.bind_eq_some_iff.mp H
            obtain ⟨⟨t304, t305⟩, A230, H⟩ := H
            replace H : (if t303 = true then (laws_FnFixed.j1 kj8 l1 t294 t295 t302 t304 t305) else (laws_FnFixed.j1 kj8 l1 t294 t295 t302 t304 false)) = some true := H
            have A23 := Aside0.mk A230
            clear A230
            have HC24 := Aside0.mk H
            clear H
            go_upto_region 11 with (first | ((with_reducible refine gate_callee (f := 8) rfl ?_); refine goesL_ (some 87) rfl rfl Tryd.func8 (by kernel_rfl) rfl #[.int .i64 t294, .int .i64 t295] rfl (by (try simp only [List.map_toArray, List.map_cons, List.map_nil]); first | done | rfl | (simp only [List.length_drop, List.length_take]; rfl)) ?_; (with_reducible refine (impl_DivDown.calls kj8 t294 t295 t302 t303 _ A22.out).mono ?_); rintro e w25 ⟨rfl, hb⟩; refine ⟨_, rfl, ?_⟩; have n0_ := Aside0.mk (below_step (by repeat (first | (with_reducible first | exact HB.out | apply below_alloc | apply pw_below_drewN | apply below_drew1) | exact HB.out)) hb); clear HB; have HB := n0_; clear n0_; (try clear hb); (try clear hb2); (try clear hk); (try clear hi)) | ((with_reducible refine gate_callee (f := 9) rfl ?_); refine goesL_ (some 93) rfl rfl Tryd.func9 (by kernel_rfl) rfl #[.int .i64 t294, .int .i64 t295] rfl (by (try simp only [List.map_toArray, List.map_cons, List.map_nil]); first | done | rfl | (simp only [List.length_drop, List.length_take]; rfl)) ?_; (with_reducible refine (impl_DivUp.calls kj8 t294 t295 t304 t305 _ A23.out).mono ?_); rintro e w26 ⟨rfl, hb⟩; refine ⟨_, rfl, ?_⟩; have n0_ := Aside0.mk (below_step (by repeat (first | (with_reducible first | exact HB.out | apply below_alloc | apply pw_below_drewN | apply below_drew1) | exact HB.out)) hb); clear HB; have HB := n0_; clear n0_; (try clear hb); (try clear hb2); (try clear hk); (try clear hi)))
            (try simp only [Act.put, List.setIfInBounds_toArray, List.set_cons_zero, List.set_cons_succ])
            go_cut [99] (fun v99 wc => ∃ (kq : Nat) (x99_23 : Bool), v99 = .bool x99_23 ∧ Aside0 (laws_FnFixed.j1 kq l1 t294 t295 t302 t304 x99_23 = some true) ∧ Aside0 (kq ≤ kj8) ∧ Aside0 (Below w.heap.size w wc))
            case first =>
              as_aux_lemma =>
                have H := HC24.out
                clear HC24
                by_cases c27 : t303 = true
                · subst c27
                  have H1 : (laws_FnFixed.j1 kj8 l1 t294 t295 t302 t304 t305) = some true := by rw [if_pos rfl] at H; exact H
                  clear H
                  have H := H1
                  clear H1
                  have H' := Aside0.mk H
                  clear H
                  as_aux_lemma =>
                    go_wp2
                    go_meet
                    case rel => exact ⟨_, (t305), (by first | rfl | (simp; done) | (simp [*]; done)), H', ⟨by have := HJ8.out; first | omega | exact Nat.le_refl _⟩, ⟨by repeat (first | (with_reducible first | exact HB.out | apply below_alloc | apply pw_below_drewN | apply below_drew1) | exact HB.out)⟩⟩
                · replace c27 := Bool.eq_false_iff.mpr c27
                  subst c27
                  have H1 : (laws_FnFixed.j1 kj8 l1 t294 t295 t302 t304 false) = some true := by rw [if_neg (show ¬ (false = true) by decide)] at H; exact H
                  clear H
                  have H := H1
                  clear H1
                  have H' := Aside0.mk H
                  clear H
                  as_aux_lemma =>
                    go_wp2
                    go_meet
                    case rel => exact ⟨_, (false), (by first | rfl | (simp; done) | (simp [*]; done)), H', ⟨by have := HJ8.out; first | omega | exact Nat.le_refl _⟩, ⟨by repeat (first | (with_reducible first | exact HB.out | apply below_alloc | apply pw_below_drewN | apply below_drew1) | exact HB.out)⟩⟩
            case rest =>
              as_aux_lemma =>
                clear HC24
                try clear c1
                try clear c2
                try clear p2
                try clear c3
                try clear c4
                try clear c5
                try clear c6
                try clear p6
                try clear c7
                try clear c8
                try clear c9
                try clear c14
                try clear c15
                try clear c16
                try clear c16b0
                try clear c17
                try clear c17b0
                try clear c18
                try clear c18b0
                try clear c18b1
                try clear c18b2
                try clear c19
                try clear c19b0
                try clear c19b1
                try clear c19b2
                try clear c20
                try clear c20b0
                try clear c20b1
                try clear c20b2
                try clear c21
                try clear c27
                try clear p2
                try clear p6
                obtain ⟨kq, x99_23, rfl, HA, HJ23, HB⟩ := hcut
                cases kq with
                | zero => exact absurd HA.out (by simp [laws_FnFixed.j1])
                | succ kj23 =>
                  have H := HA.out
                  clear HA
                  simp only [laws_FnFixed.j1] at H
                  have HC28 := Aside0.mk H
                  clear H
                  go_upto_if 99 with (fail)
                  go_cut [] (fun wc => ∃ (kq : Nat), Aside0 (laws_FnFixed.j3 kq l1 t294 = some true) ∧ Aside0 (kq ≤ kj23) ∧ Aside0 (Below w.heap.size w wc))
                  case first =>
                    as_aux_lemma =>
                      have H := HC28.out
                      clear HC28
                      by_cases c29 : x99_23 = true
                      · subst c29
                        have H1 : (if t302 > t304 then (laws_FnFixed.j2 kj23 l1 t294 t295 t302 t304 true) else (laws_FnFixed.j2 kj23 l1 t294 t295 t302 t304 (decide (t304 > (wrap64 (t302 + 1)))))) = some true := by rw [if_pos rfl] at H; exact H
                        clear H
                        have H := H1
                        clear H1
                        have HC30 := Aside0.mk H
                        clear H
                        go_upto_region 12 with (fail)
                        go_cut [108] (fun v108 wc => ∃ (kq : Nat) (x108_29 : Bool), v108 = .bool x108_29 ∧ Aside0 (laws_FnFixed.j2 kq l1 t294 t295 t302 t304 x108_29 = some true) ∧ Aside0 (kq ≤ kj23) ∧ Aside0 (Below w.heap.size w wc))
                        case first =>
                          as_aux_lemma =>
                            have H := HC30.out
                            clear HC30
                            by_cases c31 : t302 > t304
                            · rw [if_pos c31] at H
                              have c31b0 : decide (t304 < t302) = true := decide_eq_true c31
                              clear c31
                              (first | rw [c31b0] | (simp only [i64_w, i32_w]; rw [c31b0]) | skip)
                              have H' := Aside0.mk H
                              clear H
                              as_aux_lemma =>
                                go_wp2
                                go_meet
                                case rel => exact ⟨_, (true), (by first | rfl | (simp; done) | (simp [*]; done)), H', ⟨by have := HJ8.out; have := HJ23.out; first | omega | exact Nat.le_refl _⟩, ⟨by repeat (first | (with_reducible first | exact HB.out | apply below_alloc | apply pw_below_drewN | apply below_drew1) | exact HB.out)⟩⟩
                            · rw [if_neg c31] at H
                              have c31b0 : decide (t304 < t302) = false := decide_eq_false c31
                              clear c31
                              (first | rw [c31b0] | (simp only [i64_w, i32_w]; rw [c31b0]) | skip)
                              have H' := Aside0.mk H
                              clear H
                              as_aux_lemma =>
                                go_wp2
                                go_meet
                                case rel => exact ⟨_, (decide (t304 > (wrap64 (t302 + 1)))), (by first | rfl | (simp; done) | (simp [*]; done)), H', ⟨by have := HJ8.out; have := HJ23.out; first | omega | exact Nat.le_refl _⟩, ⟨by repeat (first | (with_reducible first | exact HB.out | apply below_alloc | apply pw_below_drewN | apply below_drew1) | exact HB.out)⟩⟩
                        case rest =>
                          as_aux_lemma =>
                            clear HC30
                            try clear c1
                            try clear c2
                            try clear p2
                            try clear c3
                            try clear c4
                            try clear c5
                            try clear c6
                            try clear p6
                            try clear c7
                            try clear c8
                            try clear c9
                            try clear c14
                            try clear c15
                            try clear c16
                            try clear c16b0
                            try clear c17
                            try clear c17b0
                            try clear c18
                            try clear c18b0
                            try clear c18b1
                            try clear c18b2
                            try clear c19
                            try clear c19b0
                            try clear c19b1
                            try clear c19b2
                            try clear c20
                            try clear c20b0
                            try clear c20b1
                            try clear c20b2
                            try clear c21
                            try clear c27
                            try clear c29
                            try clear c31
                            try clear c31b0
                            try clear p2
                            try clear p6
                            obtain ⟨kq, x108_29, rfl, HA, HJ29, HB⟩ := hcut
                            cases kq with
                            | zero => exact absurd HA.out (by simp [laws_FnFixed.j2])
                            | succ kj29 =>
                              have H := HA.out
                              clear HA
                              simp only [laws_FnFixed.j2] at H
                              by_cases c32 : x108_29 = true
                              · subst c32
                                have H1 : (some false) = some true := by rw [if_pos rfl] at H; exact H
                                clear H
                                have H := H1
                                clear H1
                                first
                                | exact absurd (Option.some.inj H) (by decide)
                                | (have hr_ := Option.some.inj H
                                   clear H
                                   go_wp2
                                   go_ret
                                   exact ⟨by first | rfl | (simp [errW_none, errW_some] <;> rfl) | (simp [*, errW_none, errW_some] <;> rfl), by repeat (first | (with_reducible first | exact HB.out | apply below_alloc | apply pw_below_drewN | apply below_drew1) | exact HB.out)⟩)
                              · replace c32 := Bool.eq_false_iff.mpr c32
                                subst c32
                                have H1 : ((impl_MulDown.f kj29 t304 t295).bind fun bt306 => ((impl_MulUp.f kj29 t302 t295).bind fun bt308 => (if bt306.2 = true then (if bt308.2 = true then (if t295 > 0 then (if bt308.1 > t294 then (some false) else (if bt306.1 < t294 then (some false) else (if t295 < 0 then (if bt308.1 < t294 then (some false) else (if bt306.1 > t294 then (some false) else (if t302 = t304 then (if bt306.1 = t294 then (if bt308.1 = t294 then (laws_FnFixed.j3 kj29 l1 t294) else (some false)) else (some false)) else (laws_FnFixed.j3 kj29 l1 t294)))) else (if t302 = t304 then (if bt306.1 = t294 then (if bt308.1 = t294 then (laws_FnFixed.j3 kj29 l1 t294) else (some false)) else (some false)) else (laws_FnFixed.j3 kj29 l1 t294))))) else (if t295 < 0 then (if bt308.1 < t294 then (some false) else (if bt306.1 > t294 then (some false) else (if t302 = t304 then (if bt306.1 = t294 then (if bt308.1 = t294 then (laws_FnFixed.j3 kj29 l1 t294) else (some false)) else (some false)) else (laws_FnFixed.j3 kj29 l1 t294)))) else (if t302 = t304 then (if bt306.1 = t294 then (if bt308.1 = t294 then (laws_FnFixed.j3 kj29 l1 t294) else (some false)) else (some false)) else (laws_FnFixed.j3 kj29 l1 t294)))) else (laws_FnFixed.j3 kj29 l1 t294)) else (laws_FnFixed.j3 kj29 l1 t294)))) = some true := by rw [if_neg (show ¬ (false = true) by decide)] at H; exact H
                                clear H
                                have H := H1
                                clear H1
                                replace H := Option.bind_eq_some_iff.mp H
                                obtain ⟨⟨t306, t307⟩, A330, H⟩ := H
                                replace H : ((impl_MulUp.f kj29 t302 t295).bind fun bt308 => (if t307 = true then (if bt308.2 = true then (if t295 > 0 then (if bt308.1 > t294 then (some false) else (if t306 < t294 then (some false) else (if t295 < 0 then (if bt308.1 < t294 then (some false) else (if t306 > t294 then (some false) else (if t302 = t304 then (if t306 = t294 then (if bt308.1 = t294 then (laws_FnFixed.j3 kj29 l1 t294) else (some false)) else (some false)) else (laws_FnFixed.j3 kj29 l1 t294)))) else (if t302 = t304 then (if t306 = t294 then (if bt308.1 = t294 then (laws_FnFixed.j3 kj29 l1 t294) else (some false)) else (some false)) else (laws_FnFixed.j3 kj29 l1 t294))))) else (if t295 < 0 then (if bt308.1 < t294 then (some false) else (if t306 > t294 then (some false) else (if t302 = t304 then (if t306 = t294 then (if bt308.1 = t294 then (laws_FnFixed.j3 kj29 l1 t294) else (some false)) else (some false)) else (laws_FnFixed.j3 kj29 l1 t294)))) else (if t302 = t304 then (if t306 = t294 then (if bt308.1 = t294 then (laws_FnFixed.j3 kj29 l1 t294) else (some false)) else (some false)) else (laws_FnFixed.j3 kj29 l1 t294)))) else (laws_FnFixed.j3 kj29 l1 t294)) else (laws_FnFixed.j3 kj29 l1 t294))) = some true := H
                                have A33 := Aside0.mk A330
                                clear A330
                                replace H := Option.bind_eq_some_iff.mp H
                                obtain ⟨⟨t308, t309⟩, A340, H⟩ := H
                                replace H : (if t307 = true then (if t309 = true then (if t295 > 0 then (if t308 > t294 then (some false) else (if t306 < t294 then (some false) else (if t295 < 0 then (if t308 < t294 then (some false) else (if t306 > t294 then (some false) else (if t302 = t304 then (if t306 = t294 then (if t308 = t294 then (laws_FnFixed.j3 kj29 l1 t294) else (some false)) else (some false)) else (laws_FnFixed.j3 kj29 l1 t294)))) else (if t302 = t304 then (if t306 = t294 then (if t308 = t294 then (laws_FnFixed.j3 kj29 l1 t294) else (some false)) else (some false)) else (laws_FnFixed.j3 kj29 l1 t294))))) else (if t295 < 0 then (if t308 < t294 then (some false) else (if t306 > t294 then (some false) else (if t302 = t304 then (if t306 = t294 then (if t308 = t294 then (laws_FnFixed.j3 kj29 l1 t294) else (some false)) else (some false)) else (laws_FnFixed.j3 kj29 l1 t294)))) else (if t302 = t304 then (if t306 = t294 then (if t308 = t294 then (laws_FnFixed.j3 kj29 l1 t294) else (some false)) else (some false)) else (laws_FnFixed.j3 kj29 l1 t294)))) else (laws_FnFixed.j3 kj29 l1 t294)) else (laws_FnFixed.j3 kj29 l1 t294)) = some true := H
                                have A34 := Aside0.mk A340
                                clear A340
                                by_cases c35 : t307 = true
                                · subst c35
                                  have H1 : (if t309 = true then (if t295 > 0 then (if t308 > t294 then (some false) else (if t306 < t294 then (some false) else (if t295 < 0 then (if t308 < t294 then (some false) else (if t306 > t294 then (some false) else (if t302 = t304 then (if t306 = t294 then (if t308 = t294 then (laws_FnFixed.j3 kj29 l1 t294) else (some false)) else (some false)) else (laws_FnFixed.j3 kj29 l1 t294)))) else (if t302 = t304 then (if t306 = t294 then (if t308 = t294 then (laws_FnFixed.j3 kj29 l1 t294) else (some false)) else (some false)) else (laws_FnFixed.j3 kj29 l1 t294))))) else (if t295 < 0 then (if t308 < t294 then (some false) else (if t306 > t294 then (some false) else (if t302 = t304 then (if t306 = t294 then (if t308 = t294 then (laws_FnFixed.j3 kj29 l1 t294) else (some false)) else (some false)) else (laws_FnFixed.j3 kj29 l1 t294)))) else (if t302 = t304 then (if t306 = t294 then (if t308 = t294 then (laws_FnFixed.j3 kj29 l1 t294) else (some false)) else (some false)) else (laws_FnFixed.j3 kj29 l1 t294)))) else (laws_FnFixed.j3 kj29 l1 t294)) = some true := by rw [if_pos rfl] at H; exact H
                                  clear H
                                  have H := H1
                                  clear H1
                                  by_cases c36 : t309 = true
                                  · subst c36
                                    have H1 : (if t295 > 0 then (if t308 > t294 then (some false) else (if t306 < t294 then (some false) else (if t295 < 0 then (if t308 < t294 then (some false) else (if t306 > t294 then (some false) else (if t302 = t304 then (if t306 = t294 then (if t308 = t294 then (laws_FnFixed.j3 kj29 l1 t294) else (some false)) else (some false)) else (laws_FnFixed.j3 kj29 l1 t294)))) else (if t302 = t304 then (if t306 = t294 then (if t308 = t294 then (laws_FnFixed.j3 kj29 l1 t294) else (some false)) else (some false)) else (laws_FnFixed.j3 kj29 l1 t294))))) else (if t295 < 0 then (if t308 < t294 then (some false) else (if t306 > t294 then (some false) else (if t302 = t304 then (if t306 = t294 then (if t308 = t294 then (laws_FnFixed.j3 kj29 l1 t294) else (some false)) else (some false)) else (laws_FnFixed.j3 kj29 l1 t294)))) else (if t302 = t304 then (if t306 = t294 then (if t308 = t294 then (laws_FnFixed.j3 kj29 l1 t294) else (some false)) else (some false)) else (laws_FnFixed.j3 kj29 l1 t294)))) = some true := by rw [if_pos rfl] at H; exact H
                                    clear H
                                    have H := H1
                                    clear H1
                                    by_cases c37 : t295 > 0
                                    · rw [if_pos c37] at H
                                      have c37b0 : decide (0 < t295) = true := decide_eq_true c37
                                      clear c37
                                      by_cases c38 : t308 > t294
                                      · rw [if_pos c38] at H
                                        have c38b0 : decide (t294 < t308) = true := decide_eq_true c38
                                        clear c38
                                        first
                                        | exact absurd (Option.some.inj H) (by decide)
                                        | (have hr_ := Option.some.inj H
                                           clear H
                                           go_wp2_with (first | ((with_reducible refine gate_callee (f := 6) rfl ?_); refine goesL_ (some 112) rfl rfl Tryd.func6 (by kernel_rfl) rfl #[.int .i64 t304, .int .i64 t295] rfl (by (try simp only [List.map_toArray, List.map_cons, List.map_nil]); first | done | rfl | (simp only [List.length_drop, List.length_take]; rfl)) ?_; (with_reducible refine (impl_MulDown.calls kj29 t304 t295 t306 true _ A33.out).mono ?_); rintro e w39 ⟨rfl, hb⟩; refine ⟨_, rfl, ?_⟩; have n0_ := Aside0.mk (below_step (by repeat (first | (with_reducible first | exact HB.out | apply below_alloc | apply pw_below_drewN | apply below_drew1) | exact HB.out)) hb); clear HB; have HB := n0_; clear n0_; (try clear hb); (try clear hb2); (try clear hk); (try clear hi)) | ((with_reducible refine gate_callee (f := 7) rfl ?_); refine goesL_ (some 118) rfl rfl Tryd.func7 (by kernel_rfl) rfl #[.int .i64 t302, .int .i64 t295] rfl (by (try simp only [List.map_toArray, List.map_cons, List.map_nil]); first | done | rfl | (simp only [List.length_drop, List.length_take]; rfl)) ?_; (with_reducible refine (impl_MulUp.calls kj29 t302 t295 t308 true _ A34.out).mono ?_); rintro e w40 ⟨rfl, hb⟩; refine ⟨_, rfl, ?_⟩; have n0_ := Aside0.mk (below_step (by repeat (first | (with_reducible first | exact HB.out | apply below_alloc | apply pw_below_drewN | apply below_drew1) | exact HB.out)) hb); clear HB; have HB := n0_; clear n0_; (try clear hb); (try clear hb2); (try clear hk); (try clear hi)))
                                           go_ret
                                           exact ⟨by first | rfl | (simp [errW_none, errW_some] <;> rfl) | (simp [*, errW_none, errW_some] <;> rfl), by repeat (first | (with_reducible first | exact HB.out | apply below_alloc | apply pw_below_drewN | apply below_drew1) | exact HB.out)⟩)
                                      · rw [if_neg c38] at H
                                        have c38b0 : decide (t294 < t308) = false := decide_eq_false c38
                                        clear c38
                                        by_cases c41 : t306 < t294
                                        · rw [if_pos c41] at H
                                          have c41b0 : decide (t306 < t294) = true := decide_eq_true c41
                                          clear c41
                                          first
                                          | exact absurd (Option.some.inj H) (by decide)
                                          | (have hr_ := Option.some.inj H
                                             clear H
                                             go_wp2_with (first | ((with_reducible refine gate_callee (f := 6) rfl ?_); refine goesL_ (some 112) rfl rfl Tryd.func6 (by kernel_rfl) rfl #[.int .i64 t304, .int .i64 t295] rfl (by (try simp only [List.map_toArray, List.map_cons, List.map_nil]); first | done | rfl | (simp only [List.length_drop, List.length_take]; rfl)) ?_; (with_reducible refine (impl_MulDown.calls kj29 t304 t295 t306 true _ A33.out).mono ?_); rintro e w42 ⟨rfl, hb⟩; refine ⟨_, rfl, ?_⟩; have n0_ := Aside0.mk (below_step (by repeat (first | (with_reducible first | exact HB.out | apply below_alloc | apply pw_below_drewN | apply below_drew1) | exact HB.out)) hb); clear HB; have HB := n0_; clear n0_; (try clear hb); (try clear hb2); (try clear hk); (try clear hi)) | ((with_reducible refine gate_callee (f := 7) rfl ?_); refine goesL_ (some 118) rfl rfl Tryd.func7 (by kernel_rfl) rfl #[.int .i64 t302, .int .i64 t295] rfl (by (try simp only [List.map_toArray, List.map_cons, List.map_nil]); first | done | rfl | (simp only [List.length_drop, List.length_take]; rfl)) ?_; (with_reducible refine (impl_MulUp.calls kj29 t302 t295 t308 true _ A34.out).mono ?_); rintro e w43 ⟨rfl, hb⟩; refine ⟨_, rfl, ?_⟩; have n0_ := Aside0.mk (below_step (by repeat (first | (with_reducible first | exact HB.out | apply below_alloc | apply pw_below_drewN | apply below_drew1) | exact HB.out)) hb); clear HB; have HB := n0_; clear n0_; (try clear hb); (try clear hb2); (try clear hk); (try clear hi)))
                                             go_ret
                                             exact ⟨by first | rfl | (simp [errW_none, errW_some] <;> rfl) | (simp [*, errW_none, errW_some] <;> rfl), by repeat (first | (with_reducible first | exact HB.out | apply below_alloc | apply pw_below_drewN | apply below_drew1) | exact HB.out)⟩)
                                        · rw [if_neg c41] at H
                                          have c41b0 : decide (t306 < t294) = false := decide_eq_false c41
                                          clear c41
                                          by_cases c44 : t295 < 0
                                          · rw [if_pos c44] at H
                                            have c44b0 : decide (t295 < 0) = true := decide_eq_true c44
                                            clear c44
                                            by_cases c45 : t308 < t294
                                            · rw [if_pos c45] at H
                                              have c45b0 : decide (t308 < t294) = true := decide_eq_true c45
                                              clear c45
                                              first
                                              | exact absurd (Option.some.inj H) (by decide)
                                              | (have hr_ := Option.some.inj H
                                                 clear H
                                                 go_wp2_with (first | ((with_reducible refine gate_callee (f := 6) rfl ?_); refine goesL_ (some 112) rfl rfl Tryd.func6 (by kernel_rfl) rfl #[.int .i64 t304, .int .i64 t295] rfl (by (try simp only [List.map_toArray, List.map_cons, List.map_nil]); first | done | rfl | (simp only [List.length_drop, List.length_take]; rfl)) ?_; (with_reducible refine (impl_MulDown.calls kj29 t304 t295 t306 true _ A33.out).mono ?_); rintro e w46 ⟨rfl, hb⟩; refine ⟨_, rfl, ?_⟩; have n0_ := Aside0.mk (below_step (by repeat (first | (with_reducible first | exact HB.out | apply below_alloc | apply pw_below_drewN | apply below_drew1) | exact HB.out)) hb); clear HB; have HB := n0_; clear n0_; (try clear hb); (try clear hb2); (try clear hk); (try clear hi)) | ((with_reducible refine gate_callee (f := 7) rfl ?_); refine goesL_ (some 118) rfl rfl Tryd.func7 (by kernel_rfl) rfl #[.int .i64 t302, .int .i64 t295] rfl (by (try simp only [List.map_toArray, List.map_cons, List.map_nil]); first | done | rfl | (simp only [List.length_drop, List.length_take]; rfl)) ?_; (with_reducible refine (impl_MulUp.calls kj29 t302 t295 t308 true _ A34.out).mono ?_); rintro e w47 ⟨rfl, hb⟩; refine ⟨_, rfl, ?_⟩; have n0_ := Aside0.mk (below_step (by repeat (first | (with_reducible first | exact HB.out | apply below_alloc | apply pw_below_drewN | apply below_drew1) | exact HB.out)) hb); clear HB; have HB := n0_; clear n0_; (try clear hb); (try clear hb2); (try clear hk); (try clear hi)))
                                                 go_ret
                                                 exact ⟨by first | rfl | (simp [errW_none, errW_some] <;> rfl) | (simp [*, errW_none, errW_some] <;> rfl), by repeat (first | (with_reducible first | exact HB.out | apply below_alloc | apply pw_below_drewN | apply below_drew1) | exact HB.out)⟩)
                                            · rw [if_neg c45] at H
                                              have c45b0 : decide (t308 < t294) = false := decide_eq_false c45
                                              clear c45
                                              by_cases c48 : t306 > t294
                                              · rw [if_pos c48] at H
                                                have c48b0 : decide (t294 < t306) = true := decide_eq_true c48
                                                clear c48
                                                first
                                                | exact absurd (Option.some.inj H) (by decide)
                                                | (have hr_ := Option.some.inj H
                                                   clear H
                                                   go_wp2_with (first | ((with_reducible refine gate_callee (f := 6) rfl ?_); refine goesL_ (some 112) rfl rfl Tryd.func6 (by kernel_rfl) rfl #[.int .i64 t304, .int .i64 t295] rfl (by (try simp only [List.map_toArray, List.map_cons, List.map_nil]); first | done | rfl | (simp only [List.length_drop, List.length_take]; rfl)) ?_; (with_reducible refine (impl_MulDown.calls kj29 t304 t295 t306 true _ A33.out).mono ?_); rintro e w49 ⟨rfl, hb⟩; refine ⟨_, rfl, ?_⟩; have n0_ := Aside0.mk (below_step (by repeat (first | (with_reducible first | exact HB.out | apply below_alloc | apply pw_below_drewN | apply below_drew1) | exact HB.out)) hb); clear HB; have HB := n0_; clear n0_; (try clear hb); (try clear hb2); (try clear hk); (try clear hi)) | ((with_reducible refine gate_callee (f := 7) rfl ?_); refine goesL_ (some 118) rfl rfl Tryd.func7 (by kernel_rfl) rfl #[.int .i64 t302, .int .i64 t295] rfl (by (try simp only [List.map_toArray, List.map_cons, List.map_nil]); first | done | rfl | (simp only [List.length_drop, List.length_take]; rfl)) ?_; (with_reducible refine (impl_MulUp.calls kj29 t302 t295 t308 true _ A34.out).mono ?_); rintro e w50 ⟨rfl, hb⟩; refine ⟨_, rfl, ?_⟩; have n0_ := Aside0.mk (below_step (by repeat (first | (with_reducible first | exact HB.out | apply below_alloc | apply pw_below_drewN | apply below_drew1) | exact HB.out)) hb); clear HB; have HB := n0_; clear n0_; (try clear hb); (try clear hb2); (try clear hk); (try clear hi)))
                                                   go_ret
                                                   exact ⟨by first | rfl | (simp [errW_none, errW_some] <;> rfl) | (simp [*, errW_none, errW_some] <;> rfl), by repeat (first | (with_reducible first | exact HB.out | apply below_alloc | apply pw_below_drewN | apply below_drew1) | exact HB.out)⟩)
                                              · rw [if_neg c48] at H
                                                have c48b0 : decide (t294 < t306) = false := decide_eq_false c48
                                                clear c48
                                                by_cases c51 : t302 = t304
                                                · rw [if_pos c51] at H
                                                  have c51b0 : (t302 == t304) = true := beq_iff_eq.mpr c51
                                                  have c51b1 : (t302 != t304) = false := bne_eq_false_iff_eq.mpr c51
                                                  clear c51
                                                  by_cases c52 : t306 = t294
                                                  · rw [if_pos c52] at H
                                                    have c52b0 : (t306 == t294) = true := beq_iff_eq.mpr c52
                                                    have c52b1 : (t306 != t294) = false := bne_eq_false_iff_eq.mpr c52
                                                    clear c52
                                                    by_cases c53 : t308 = t294
                                                    · rw [if_pos c53] at H
                                                      have c53b0 : (t308 == t294) = true := beq_iff_eq.mpr c53
                                                      have c53b1 : (t308 != t294) = false := bne_eq_false_iff_eq.mpr c53
                                                      clear c53
                                                      have H' := Aside0.mk H
                                                      clear H
                                                      as_aux_lemma =>
                                                        go_wp2_with (first | ((with_reducible refine gate_callee (f := 6) rfl ?_); refine goesL_ (some 112) rfl rfl Tryd.func6 (by kernel_rfl) rfl #[.int .i64 t304, .int .i64 t295] rfl (by (try simp only [List.map_toArray, List.map_cons, List.map_nil]); first | done | rfl | (simp only [List.length_drop, List.length_take]; rfl)) ?_; (with_reducible refine (impl_MulDown.calls kj29 t304 t295 t306 true _ A33.out).mono ?_); rintro e w54 ⟨rfl, hb⟩; refine ⟨_, rfl, ?_⟩; have n0_ := Aside0.mk (below_step (by repeat (first | (with_reducible first | exact HB.out | apply below_alloc | apply pw_below_drewN | apply below_drew1) | exact HB.out)) hb); clear HB; have HB := n0_; clear n0_; (try clear hb); (try clear hb2); (try clear hk); (try clear hi)) | ((with_reducible refine gate_callee (f := 7) rfl ?_); refine goesL_ (some 118) rfl rfl Tryd.func7 (by kernel_rfl) rfl #[.int .i64 t302, .int .i64 t295] rfl (by (try simp only [List.map_toArray, List.map_cons, List.map_nil]); first | done | rfl | (simp only [List.length_drop, List.length_take]; rfl)) ?_; (with_reducible refine (impl_MulUp.calls kj29 t302 t295 t308 true _ A34.out).mono ?_); rintro e w55 ⟨rfl, hb⟩; refine ⟨_, rfl, ?_⟩; have n0_ := Aside0.mk (below_step (by repeat (first | (with_reducible first | exact HB.out | apply below_alloc | apply pw_below_drewN | apply below_drew1) | exact HB.out)) hb); clear HB; have HB := n0_; clear n0_; (try clear hb); (try clear hb2); (try clear hk); (try clear hi)))
                                                        go_meet
                                                        case rel => exact ⟨_, H', ⟨by have := HJ8.out; have := HJ23.out; have := HJ29.out; first | omega | exact Nat.le_refl _⟩, ⟨by repeat (first | (with_reducible first | exact HB.out | apply below_alloc | apply pw_below_drewN | apply below_drew1) | exact HB.out)⟩⟩
                                                    · rw [if_neg c53] at H
                                                      have c53b0 : (t308 == t294) = false := beq_eq_false_iff_ne.mpr c53
                                                      have c53b1 : (t308 != t294) = true := bne_iff_ne.mpr c53
                                                      first
                                                      | exact absurd (Option.some.inj H) (by decide)
                                                      | (have hr_ := Option.some.inj H
                                                         clear H
                                                         go_wp2_with (first | ((with_reducible refine gate_callee (f := 6) rfl ?_); refine goesL_ (some 112) rfl rfl Tryd.func6 (by kernel_rfl) rfl #[.int .i64 t304, .int .i64 t295] rfl (by (try simp only [List.map_toArray, List.map_cons, List.map_nil]); first | done | rfl | (simp only [List.length_drop, List.length_take]; rfl)) ?_; (with_reducible refine (impl_MulDown.calls kj29 t304 t295 t306 true _ A33.out).mono ?_); rintro e w56 ⟨rfl, hb⟩; refine ⟨_, rfl, ?_⟩; have n0_ := Aside0.mk (below_step (by repeat (first | (with_reducible first | exact HB.out | apply below_alloc | apply pw_below_drewN | apply below_drew1) | exact HB.out)) hb); clear HB; have HB := n0_; clear n0_; (try clear hb); (try clear hb2); (try clear hk); (try clear hi)) | ((with_reducible refine gate_callee (f := 7) rfl ?_); refine goesL_ (some 118) rfl rfl Tryd.func7 (by kernel_rfl) rfl #[.int .i64 t302, .int .i64 t295] rfl (by (try simp only [List.map_toArray, List.map_cons, List.map_nil]); first | done | rfl | (simp only [List.length_drop, List.length_take]; rfl)) ?_; (with_reducible refine (impl_MulUp.calls kj29 t302 t295 t308 true _ A34.out).mono ?_); rintro e w57 ⟨rfl, hb⟩; refine ⟨_, rfl, ?_⟩; have n0_ := Aside0.mk (below_step (by repeat (first | (with_reducible first | exact HB.out | apply below_alloc | apply pw_below_drewN | apply below_drew1) | exact HB.out)) hb); clear HB; have HB := n0_; clear n0_; (try clear hb); (try clear hb2); (try clear hk); (try clear hi)))
                                                         go_ret
                                                         exact ⟨by first | rfl | (simp [errW_none, errW_some] <;> rfl) | (simp [*, errW_none, errW_some] <;> rfl), by repeat (first | (with_reducible first | exact HB.out | apply below_alloc | apply pw_below_drewN | apply below_drew1) | exact HB.out)⟩)
                                                  · rw [if_neg c52] at H
                                                    have c52b0 : (t306 == t294) = false := beq_eq_false_iff_ne.mpr c52
                                                    have c52b1 : (t306 != t294) = true := bne_iff_ne.mpr c52
                                                    first
                                                    | exact absurd (Option.some.inj H) (by decide)
                                                    | (have hr_ := Option.some.inj H
                                                       clear H
                                                       go_wp2_with (first | ((with_reducible refine gate_callee (f := 6) rfl ?_); refine goesL_ (some 112) rfl rfl Tryd.func6 (by kernel_rfl) rfl #[.int .i64 t304, .int .i64 t295] rfl (by (try simp only [List.map_toArray, List.map_cons, List.map_nil]); first | done | rfl | (simp only [List.length_drop, List.length_take]; rfl)) ?_; (with_reducible refine (impl_MulDown.calls kj29 t304 t295 t306 true _ A33.out).mono ?_); rintro e w58 ⟨rfl, hb⟩; refine ⟨_, rfl, ?_⟩; have n0_ := Aside0.mk (below_step (by repeat (first | (with_reducible first | exact HB.out | apply below_alloc | apply pw_below_drewN | apply below_drew1) | exact HB.out)) hb); clear HB; have HB := n0_; clear n0_; (try clear hb); (try clear hb2); (try clear hk); (try clear hi)) | ((with_reducible refine gate_callee (f := 7) rfl ?_); refine goesL_ (some 118) rfl rfl Tryd.func7 (by kernel_rfl) rfl #[.int .i64 t302, .int .i64 t295] rfl (by (try simp only [List.map_toArray, List.map_cons, List.map_nil]); first | done | rfl | (simp only [List.length_drop, List.length_take]; rfl)) ?_; (with_reducible refine (impl_MulUp.calls kj29 t302 t295 t308 true _ A34.out).mono ?_); rintro e w59 ⟨rfl, hb⟩; refine ⟨_, rfl, ?_⟩; have n0_ := Aside0.mk (below_step (by repeat (first | (with_reducible first | exact HB.out | apply below_alloc | apply pw_below_drewN | apply below_drew1) | exact HB.out)) hb); clear HB; have HB := n0_; clear n0_; (try clear hb); (try clear hb2); (try clear hk); (try clear hi)))
                                                       go_ret
                                                       exact ⟨by first | rfl | (simp [errW_none, errW_some] <;> rfl) | (simp [*, errW_none, errW_some] <;> rfl), by repeat (first | (with_reducible first | exact HB.out | apply below_alloc | apply pw_below_drewN | apply below_drew1) | exact HB.out)⟩)
                                                · rw [if_neg c51] at H
                                                  have c51b0 : (t302 == t304) = false := beq_eq_false_iff_ne.mpr c51
                                                  have c51b1 : (t302 != t304) = true := bne_iff_ne.mpr c51
                                                  have H' := Aside0.mk H
                                                  clear H
                                                  as_aux_lemma =>
                                                    go_wp2_with (first | ((with_reducible refine gate_callee (f := 6) rfl ?_); refine goesL_ (some 112) rfl rfl Tryd.func6 (by kernel_rfl) rfl #[.int .i64 t304, .int .i64 t295] rfl (by (try simp only [List.map_toArray, List.map_cons, List.map_nil]); first | done | rfl | (simp only [List.length_drop, List.length_take]; rfl)) ?_; (with_reducible refine (impl_MulDown.calls kj29 t304 t295 t306 true _ A33.out).mono ?_); rintro e w60 ⟨rfl, hb⟩; refine ⟨_, rfl, ?_⟩; have n0_ := Aside0.mk (below_step (by repeat (first | (with_reducible first | exact HB.out | apply below_alloc | apply pw_below_drewN | apply below_drew1) | exact HB.out)) hb); clear HB; have HB := n0_; clear n0_; (try clear hb); (try clear hb2); (try clear hk); (try clear hi)) | ((with_reducible refine gate_callee (f := 7) rfl ?_); refine goesL_ (some 118) rfl rfl Tryd.func7 (by kernel_rfl) rfl #[.int .i64 t302, .int .i64 t295] rfl (by (try simp only [List.map_toArray, List.map_cons, List.map_nil]); first | done | rfl | (simp only [List.length_drop, List.length_take]; rfl)) ?_; (with_reducible refine (impl_MulUp.calls kj29 t302 t295 t308 true _ A34.out).mono ?_); rintro e w61 ⟨rfl, hb⟩; refine ⟨_, rfl, ?_⟩; have n0_ := Aside0.mk (below_step (by repeat (first | (with_reducible first | exact HB.out | apply below_alloc | apply pw_below_drewN | apply below_drew1) | exact HB.out)) hb); clear HB; have HB := n0_; clear n0_; (try clear hb); (try clear hb2); (try clear hk); (try clear hi)))
                                                    go_meet
                                                    case rel => exact ⟨_, H', ⟨by have := HJ8.out; have := HJ23.out; have := HJ29.out; first | omega | exact Nat.le_refl _⟩, ⟨by repeat (first | (with_reducible first | exact HB.out | apply below_alloc | apply pw_below_drewN | apply below_drew1) | exact HB.out)⟩⟩
                                          · rw [if_neg c44] at H
                                            have c44b0 : decide (t295 < 0) = false := decide_eq_false c44
                                            clear c44
                                            by_cases c62 : t302 = t304
                                            · rw [if_pos c62] at H
                                              have c62b0 : (t302 == t304) = true := beq_iff_eq.mpr c62
                                              have c62b1 : (t302 != t304) = false := bne_eq_false_iff_eq.mpr c62
                                              clear c62
                                              by_cases c63 : t306 = t294
                                              · rw [if_pos c63] at H
                                                have c63b0 : (t306 == t294) = true := beq_iff_eq.mpr c63
                                                have c63b1 : (t306 != t294) = false := bne_eq_false_iff_eq.mpr c63
                                                clear c63
                                                by_cases c64 : t308 = t294
                                                · rw [if_pos c64] at H
                                                  have c64b0 : (t308 == t294) = true := beq_iff_eq.mpr c64
                                                  have c64b1 : (t308 != t294) = false := bne_eq_false_iff_eq.mpr c64
                                                  clear c64
                                                  have H' := Aside0.mk H
                                                  clear H
                                                  as_aux_lemma =>
                                                    go_wp2_with (first | ((with_reducible refine gate_callee (f := 6) rfl ?_); refine goesL_ (some 112) rfl rfl Tryd.func6 (by kernel_rfl) rfl #[.int .i64 t304, .int .i64 t295] rfl (by (try simp only [List.map_toArray, List.map_cons, List.map_nil]); first | done | rfl | (simp only [List.length_drop, List.length_take]; rfl)) ?_; (with_reducible refine (impl_MulDown.calls kj29 t304 t295 t306 true _ A33.out).mono ?_); rintro e w65 ⟨rfl, hb⟩; refine ⟨_, rfl, ?_⟩; have n0_ := Aside0.mk (below_step (by repeat (first | (with_reducible first | exact HB.out | apply below_alloc | apply pw_below_drewN | apply below_drew1) | exact HB.out)) hb); clear HB; have HB := n0_; clear n0_; (try clear hb); (try clear hb2); (try clear hk); (try clear hi)) | ((with_reducible refine gate_callee (f := 7) rfl ?_); refine goesL_ (some 118) rfl rfl Tryd.func7 (by kernel_rfl) rfl #[.int .i64 t302, .int .i64 t295] rfl (by (try simp only [List.map_toArray, List.map_cons, List.map_nil]); first | done | rfl | (simp only [List.length_drop, List.length_take]; rfl)) ?_; (with_reducible refine (impl_MulUp.calls kj29 t302 t295 t308 true _ A34.out).mono ?_); rintro e w66 ⟨rfl, hb⟩; refine ⟨_, rfl, ?_⟩; have n0_ := Aside0.mk (below_step (by repeat (first | (with_reducible first | exact HB.out | apply below_alloc | apply pw_below_drewN | apply below_drew1) | exact HB.out)) hb); clear HB; have HB := n0_; clear n0_; (try clear hb); (try clear hb2); (try clear hk); (try clear hi)))
                                                    go_meet
                                                    case rel => exact ⟨_, H', ⟨by have := HJ8.out; have := HJ23.out; have := HJ29.out; first | omega | exact Nat.le_refl _⟩, ⟨by repeat (first | (with_reducible first | exact HB.out | apply below_alloc | apply pw_below_drewN | apply below_drew1) | exact HB.out)⟩⟩
                                                · rw [if_neg c64] at H
                                                  have c64b0 : (t308 == t294) = false := beq_eq_false_iff_ne.mpr c64
                                                  have c64b1 : (t308 != t294) = true := bne_iff_ne.mpr c64
                                                  first
                                                  | exact absurd (Option.some.inj H) (by decide)
                                                  | (have hr_ := Option.some.inj H
                                                     clear H
                                                     go_wp2_with (first | ((with_reducible refine gate_callee (f := 6) rfl ?_); refine goesL_ (some 112) rfl rfl Tryd.func6 (by kernel_rfl) rfl #[.int .i64 t304, .int .i64 t295] rfl (by (try simp only [List.map_toArray, List.map_cons, List.map_nil]); first | done | rfl | (simp only [List.length_drop, List.length_take]; rfl)) ?_; (with_reducible refine (impl_MulDown.calls kj29 t304 t295 t306 true _ A33.out).mono ?_); rintro e w67 ⟨rfl, hb⟩; refine ⟨_, rfl, ?_⟩; have n0_ := Aside0.mk (below_step (by repeat (first | (with_reducible first | exact HB.out | apply below_alloc | apply pw_below_drewN | apply below_drew1) | exact HB.out)) hb); clear HB; have HB := n0_; clear n0_; (try clear hb); (try clear hb2); (try clear hk); (try clear hi)) | ((with_reducible refine gate_callee (f := 7) rfl ?_); refine goesL_ (some 118) rfl rfl Tryd.func7 (by kernel_rfl) rfl #[.int .i64 t302, .int .i64 t295] rfl (by (try simp only [List.map_toArray, List.map_cons, List.map_nil]); first | done | rfl | (simp only [List.length_drop, List.length_take]; rfl)) ?_; (with_reducible refine (impl_MulUp.calls kj29 t302 t295 t308 true _ A34.out).mono ?_); rintro e w68 ⟨rfl, hb⟩; refine ⟨_, rfl, ?_⟩; have n0_ := Aside0.mk (below_step (by repeat (first | (with_reducible first | exact HB.out | apply below_alloc | apply pw_below_drewN | apply below_drew1) | exact HB.out)) hb); clear HB; have HB := n0_; clear n0_; (try clear hb); (try clear hb2); (try clear hk); (try clear hi)))
                                                     go_ret
                                                     exact ⟨by first | rfl | (simp [errW_none, errW_some] <;> rfl) | (simp [*, errW_none, errW_some] <;> rfl), by repeat (first | (with_reducible first | exact HB.out | apply below_alloc | apply pw_below_drewN | apply below_drew1) | exact HB.out)⟩)
                                              · rw [if_neg c63] at H
                                                have c63b0 : (t306 == t294) = false := beq_eq_false_iff_ne.mpr c63
                                                have c63b1 : (t306 != t294) = true := bne_iff_ne.mpr c63
                                                first
                                                | exact absurd (Option.some.inj H) (by decide)
                                                | (have hr_ := Option.some.inj H
                                                   clear H
                                                   go_wp2_with (first | ((with_reducible refine gate_callee (f := 6) rfl ?_); refine goesL_ (some 112) rfl rfl Tryd.func6 (by kernel_rfl) rfl #[.int .i64 t304, .int .i64 t295] rfl (by (try simp only [List.map_toArray, List.map_cons, List.map_nil]); first | done | rfl | (simp only [List.length_drop, List.length_take]; rfl)) ?_; (with_reducible refine (impl_MulDown.calls kj29 t304 t295 t306 true _ A33.out).mono ?_); rintro e w69 ⟨rfl, hb⟩; refine ⟨_, rfl, ?_⟩; have n0_ := Aside0.mk (below_step (by repeat (first | (with_reducible first | exact HB.out | apply below_alloc | apply pw_below_drewN | apply below_drew1) | exact HB.out)) hb); clear HB; have HB := n0_; clear n0_; (try clear hb); (try clear hb2); (try clear hk); (try clear hi)) | ((with_reducible refine gate_callee (f := 7) rfl ?_); refine goesL_ (some 118) rfl rfl Tryd.func7 (by kernel_rfl) rfl #[.int .i64 t302, .int .i64 t295] rfl (by (try simp only [List.map_toArray, List.map_cons, List.map_nil]); first | done | rfl | (simp only [List.length_drop, List.length_take]; rfl)) ?_; (with_reducible refine (impl_MulUp.calls kj29 t302 t295 t308 true _ A34.out).mono ?_); rintro e w70 ⟨rfl, hb⟩; refine ⟨_, rfl, ?_⟩; have n0_ := Aside0.mk (below_step (by repeat (first | (with_reducible first | exact HB.out | apply below_alloc | apply pw_below_drewN | apply below_drew1) | exact HB.out)) hb); clear HB; have HB := n0_; clear n0_; (try clear hb); (try clear hb2); (try clear hk); (try clear hi)))
                                                   go_ret
                                                   exact ⟨by first | rfl | (simp [errW_none, errW_some] <;> rfl) | (simp [*, errW_none, errW_some] <;> rfl), by repeat (first | (with_reducible first | exact HB.out | apply below_alloc | apply pw_below_drewN | apply below_drew1) | exact HB.out)⟩)
                                            · rw [if_neg c62] at H
                                              have c62b0 : (t302 == t304) = false := beq_eq_false_iff_ne.mpr c62
                                              have c62b1 : (t302 != t304) = true := bne_iff_ne.mpr c62
                                              have H' := Aside0.mk H
                                              clear H
                                              as_aux_lemma =>
                                                go_wp2_with (first | ((with_reducible refine gate_callee (f := 6) rfl ?_); refine goesL_ (some 112) rfl rfl Tryd.func6 (by kernel_rfl) rfl #[.int .i64 t304, .int .i64 t295] rfl (by (try simp only [List.map_toArray, List.map_cons, List.map_nil]); first | done | rfl | (simp only [List.length_drop, List.length_take]; rfl)) ?_; (with_reducible refine (impl_MulDown.calls kj29 t304 t295 t306 true _ A33.out).mono ?_); rintro e w71 ⟨rfl, hb⟩; refine ⟨_, rfl, ?_⟩; have n0_ := Aside0.mk (below_step (by repeat (first | (with_reducible first | exact HB.out | apply below_alloc | apply pw_below_drewN | apply below_drew1) | exact HB.out)) hb); clear HB; have HB := n0_; clear n0_; (try clear hb); (try clear hb2); (try clear hk); (try clear hi)) | ((with_reducible refine gate_callee (f := 7) rfl ?_); refine goesL_ (some 118) rfl rfl Tryd.func7 (by kernel_rfl) rfl #[.int .i64 t302, .int .i64 t295] rfl (by (try simp only [List.map_toArray, List.map_cons, List.map_nil]); first | done | rfl | (simp only [List.length_drop, List.length_take]; rfl)) ?_; (with_reducible refine (impl_MulUp.calls kj29 t302 t295 t308 true _ A34.out).mono ?_); rintro e w72 ⟨rfl, hb⟩; refine ⟨_, rfl, ?_⟩; have n0_ := Aside0.mk (below_step (by repeat (first | (with_reducible first | exact HB.out | apply below_alloc | apply pw_below_drewN | apply below_drew1) | exact HB.out)) hb); clear HB; have HB := n0_; clear n0_; (try clear hb); (try clear hb2); (try clear hk); (try clear hi)))
                                                go_meet
                                                case rel => exact ⟨_, H', ⟨by have := HJ8.out; have := HJ23.out; have := HJ29.out; first | omega | exact Nat.le_refl _⟩, ⟨by repeat (first | (with_reducible first | exact HB.out | apply below_alloc | apply pw_below_drewN | apply below_drew1) | exact HB.out)⟩⟩
                                    · rw [if_neg c37] at H
                                      have c37b0 : decide (0 < t295) = false := decide_eq_false c37
                                      clear c37
                                      by_cases c73 : t295 < 0
                                      · rw [if_pos c73] at H
                                        have c73b0 : decide (t295 < 0) = true := decide_eq_true c73
                                        clear c73
                                        by_cases c74 : t308 < t294
                                        · rw [if_pos c74] at H
                                          have c74b0 : decide (t308 < t294) = true := decide_eq_true c74
                                          clear c74
                                          first
                                          | exact absurd (Option.some.inj H) (by decide)
                                          | (have hr_ := Option.some.inj H
                                             clear H
                                             go_wp2_with (first | ((with_reducible refine gate_callee (f := 6) rfl ?_); refine goesL_ (some 112) rfl rfl Tryd.func6 (by kernel_rfl) rfl #[.int .i64 t304, .int .i64 t295] rfl (by (try simp only [List.map_toArray, List.map_cons, List.map_nil]); first | done | rfl | (simp only [List.length_drop, List.length_take]; rfl)) ?_; (with_reducible refine (impl_MulDown.calls kj29 t304 t295 t306 true _ A33.out).mono ?_); rintro e w75 ⟨rfl, hb⟩; refine ⟨_, rfl, ?_⟩; have n0_ := Aside0.mk (below_step (by repeat (first | (with_reducible first | exact HB.out | apply below_alloc | apply pw_below_drewN | apply below_drew1) | exact HB.out)) hb); clear HB; have HB := n0_; clear n0_; (try clear hb); (try clear hb2); (try clear hk); (try clear hi)) | ((with_reducible refine gate_callee (f := 7) rfl ?_); refine goesL_ (some 118) rfl rfl Tryd.func7 (by kernel_rfl) rfl #[.int .i64 t302, .int .i64 t295] rfl (by (try simp only [List.map_toArray, List.map_cons, List.map_nil]); first | done | rfl | (simp only [List.length_drop, List.length_take]; rfl)) ?_; (with_reducible refine (impl_MulUp.calls kj29 t302 t295 t308 true _ A34.out).mono ?_); rintro e w76 ⟨rfl, hb⟩; refine ⟨_, rfl, ?_⟩; have n0_ := Aside0.mk (below_step (by repeat (first | (with_reducible first | exact HB.out | apply below_alloc | apply pw_below_drewN | apply below_drew1) | exact HB.out)) hb); clear HB; have HB := n0_; clear n0_; (try clear hb); (try clear hb2); (try clear hk); (try clear hi)))
                                             go_ret
                                             exact ⟨by first | rfl | (simp [errW_none, errW_some] <;> rfl) | (simp [*, errW_none, errW_some] <;> rfl), by repeat (first | (with_reducible first | exact HB.out | apply below_alloc | apply pw_below_drewN | apply below_drew1) | exact HB.out)⟩)
                                        · rw [if_neg c74] at H
                                          have c74b0 : decide (t308 < t294) = false := decide_eq_false c74
                                          clear c74
                                          by_cases c77 : t306 > t294
                                          · rw [if_pos c77] at H
                                            have c77b0 : decide (t294 < t306) = true := decide_eq_true c77
                                            clear c77
                                            first
                                            | exact absurd (Option.some.inj H) (by decide)
                                            | (have hr_ := Option.some.inj H
                                               clear H
                                               go_wp2_with (first | ((with_reducible refine gate_callee (f := 6) rfl ?_); refine goesL_ (some 112) rfl rfl Tryd.func6 (by kernel_rfl) rfl #[.int .i64 t304, .int .i64 t295] rfl (by (try simp only [List.map_toArray, List.map_cons, List.map_nil]); first | done | rfl | (simp only [List.length_drop, List.length_take]; rfl)) ?_; (with_reducible refine (impl_MulDown.calls kj29 t304 t295 t306 true _ A33.out).mono ?_); rintro e w78 ⟨rfl, hb⟩; refine ⟨_, rfl, ?_⟩; have n0_ := Aside0.mk (below_step (by repeat (first | (with_reducible first | exact HB.out | apply below_alloc | apply pw_below_drewN | apply below_drew1) | exact HB.out)) hb); clear HB; have HB := n0_; clear n0_; (try clear hb); (try clear hb2); (try clear hk); (try clear hi)) | ((with_reducible refine gate_callee (f := 7) rfl ?_); refine goesL_ (some 118) rfl rfl Tryd.func7 (by kernel_rfl) rfl #[.int .i64 t302, .int .i64 t295] rfl (by (try simp only [List.map_toArray, List.map_cons, List.map_nil]); first | done | rfl | (simp only [List.length_drop, List.length_take]; rfl)) ?_; (with_reducible refine (impl_MulUp.calls kj29 t302 t295 t308 true _ A34.out).mono ?_); rintro e w79 ⟨rfl, hb⟩; refine ⟨_, rfl, ?_⟩; have n0_ := Aside0.mk (below_step (by repeat (first | (with_reducible first | exact HB.out | apply below_alloc | apply pw_below_drewN | apply below_drew1) | exact HB.out)) hb); clear HB; have HB := n0_; clear n0_; (try clear hb); (try clear hb2); (try clear hk); (try clear hi)))
                                               go_ret
                                               exact ⟨by first | rfl | (simp [errW_none, errW_some] <;> rfl) | (simp [*, errW_none, errW_some] <;> rfl), by repeat (first | (with_reducible first | exact HB.out | apply below_alloc | apply pw_below_drewN | apply below_drew1) | exact HB.out)⟩)
                                          · rw [if_neg c77] at H
                                            have c77b0 : decide (t294 < t306) = false := decide_eq_false c77
                                            clear c77
                                            by_cases c80 : t302 = t304
                                            · rw [if_pos c80] at H
                                              have c80b0 : (t302 == t304) = true := beq_iff_eq.mpr c80
                                              have c80b1 : (t302 != t304) = false := bne_eq_false_iff_eq.mpr c80
                                              clear c80
                                              by_cases c81 : t306 = t294
                                              · rw [if_pos c81] at H
                                                have c81b0 : (t306 == t294) = true := beq_iff_eq.mpr c81
                                                have c81b1 : (t306 != t294) = false := bne_eq_false_iff_eq.mpr c81
                                                clear c81
                                                by_cases c82 : t308 = t294
                                                · rw [if_pos c82] at H
                                                  have c82b0 : (t308 == t294) = true := beq_iff_eq.mpr c82
                                                  have c82b1 : (t308 != t294) = false := bne_eq_false_iff_eq.mpr c82
                                                  clear c82
                                                  have H' := Aside0.mk H
                                                  clear H
                                                  as_aux_lemma =>
                                                    go_wp2_with (first | ((with_reducible refine gate_callee (f := 6) rfl ?_); refine goesL_ (some 112) rfl rfl Tryd.func6 (by kernel_rfl) rfl #[.int .i64 t304, .int .i64 t295] rfl (by (try simp only [List.map_toArray, List.map_cons, List.map_nil]); first | done | rfl | (simp only [List.length_drop, List.length_take]; rfl)) ?_; (with_reducible refine (impl_MulDown.calls kj29 t304 t295 t306 true _ A33.out).mono ?_); rintro e w83 ⟨rfl, hb⟩; refine ⟨_, rfl, ?_⟩; have n0_ := Aside0.mk (below_step (by repeat (first | (with_reducible first | exact HB.out | apply below_alloc | apply pw_below_drewN | apply below_drew1) | exact HB.out)) hb); clear HB; have HB := n0_; clear n0_; (try clear hb); (try clear hb2); (try clear hk); (try clear hi)) | ((with_reducible refine gate_callee (f := 7) rfl ?_); refine goesL_ (some 118) rfl rfl Tryd.func7 (by kernel_rfl) rfl #[.int .i64 t302, .int .i64 t295] rfl (by (try simp only [List.map_toArray, List.map_cons, List.map_nil]); first | done | rfl | (simp only [List.length_drop, List.length_take]; rfl)) ?_; (with_reducible refine (impl_MulUp.calls kj29 t302 t295 t308 true _ A34.out).mono ?_); rintro e w84 ⟨rfl, hb⟩; refine ⟨_, rfl, ?_⟩; have n0_ := Aside0.mk (below_step (by repeat (first | (with_reducible first | exact HB.out | apply below_alloc | apply pw_below_drewN | apply below_drew1) | exact HB.out)) hb); clear HB; have HB := n0_; clear n0_; (try clear hb); (try clear hb2); (try clear hk); (try clear hi)))
                                                    go_meet
                                                    case rel => exact ⟨_, H', ⟨by have := HJ8.out; have := HJ23.out; have := HJ29.out; first | omega | exact Nat.le_refl _⟩, ⟨by repeat (first | (with_reducible first | exact HB.out | apply below_alloc | apply pw_below_drewN | apply below_drew1) | exact HB.out)⟩⟩
                                                · rw [if_neg c82] at H
                                                  have c82b0 : (t308 == t294) = false := beq_eq_false_iff_ne.mpr c82
                                                  have c82b1 : (t308 != t294) = true := bne_iff_ne.mpr c82
                                                  first
                                                  | exact absurd (Option.some.inj H) (by decide)
                                                  | (have hr_ := Option.some.inj H
                                                     clear H
                                                     go_wp2_with (first | ((with_reducible refine gate_callee (f := 6) rfl ?_); refine goesL_ (some 112) rfl rfl Tryd.func6 (by kernel_rfl) rfl #[.int .i64 t304, .int .i64 t295] rfl (by (try simp only [List.map_toArray, List.map_cons, List.map_nil]); first | done | rfl | (simp only [List.length_drop, List.length_take]; rfl)) ?_; (with_reducible refine (impl_MulDown.calls kj29 t304 t295 t306 true _ A33.out).mono ?_); rintro e w85 ⟨rfl, hb⟩; refine ⟨_, rfl, ?_⟩; have n0_ := Aside0.mk (below_step (by repeat (first | (with_reducible first | exact HB.out | apply below_alloc | apply pw_below_drewN | apply below_drew1) | exact HB.out)) hb); clear HB; have HB := n0_; clear n0_; (try clear hb); (try clear hb2); (try clear hk); (try clear hi)) | ((with_reducible refine gate_callee (f := 7) rfl ?_); refine goesL_ (some 118) rfl rfl Tryd.func7 (by kernel_rfl) rfl #[.int .i64 t302, .int .i64 t295] rfl (by (try simp only [List.map_toArray, List.map_cons, List.map_nil]); first | done | rfl | (simp only [List.length_drop, List.length_take]; rfl)) ?_; (with_reducible refine (impl_MulUp.calls kj29 t302 t295 t308 true _ A34.out).mono ?_); rintro e w86 ⟨rfl, hb⟩; refine ⟨_, rfl, ?_⟩; have n0_ := Aside0.mk (below_step (by repeat (first | (with_reducible first | exact HB.out | apply below_alloc | apply pw_below_drewN | apply below_drew1) | exact HB.out)) hb); clear HB; have HB := n0_; clear n0_; (try clear hb); (try clear hb2); (try clear hk); (try clear hi)))
                                                     go_ret
                                                     exact ⟨by first | rfl | (simp [errW_none, errW_some] <;> rfl) | (simp [*, errW_none, errW_some] <;> rfl), by repeat (first | (with_reducible first | exact HB.out | apply below_alloc | apply pw_below_drewN | apply below_drew1) | exact HB.out)⟩)
                                              · rw [if_neg c81] at H
                                                have c81b0 : (t306 == t294) = false := beq_eq_false_iff_ne.mpr c81
                                                have c81b1 : (t306 != t294) = true := bne_iff_ne.mpr c81
                                                first
                                                | exact absurd (Option.some.inj H) (by decide)
                                                | (have hr_ := Option.some.inj H
                                                   clear H
                                                   go_wp2_with (first | ((with_reducible refine gate_callee (f := 6) rfl ?_); refine goesL_ (some 112) rfl rfl Tryd.func6 (by kernel_rfl) rfl #[.int .i64 t304, .int .i64 t295] rfl (by (try simp only [List.map_toArray, List.map_cons, List.map_nil]); first | done | rfl | (simp only [List.length_drop, List.length_take]; rfl)) ?_; (with_reducible refine (impl_MulDown.calls kj29 t304 t295 t306 true _ A33.out).mono ?_); rintro e w87 ⟨rfl, hb⟩; refine ⟨_, rfl, ?_⟩; have n0_ := Aside0.mk (below_step (by repeat (first | (with_reducible first | exact HB.out | apply below_alloc | apply pw_below_drewN | apply below_drew1) | exact HB.out)) hb); clear HB; have HB := n0_; clear n0_; (try clear hb); (try clear hb2); (try clear hk); (try clear hi)) | ((with_reducible refine gate_callee (f := 7) rfl ?_); refine goesL_ (some 118) rfl rfl Tryd.func7 (by kernel_rfl) rfl #[.int .i64 t302, .int .i64 t295] rfl (by (try simp only [List.map_toArray, List.map_cons, List.map_nil]); first | done | rfl | (simp only [List.length_drop, List.length_take]; rfl)) ?_; (with_reducible refine (impl_MulUp.calls kj29 t302 t295 t308 true _ A34.out).mono ?_); rintro e w88 ⟨rfl, hb⟩; refine ⟨_, rfl, ?_⟩; have n0_ := Aside0.mk (below_step (by repeat (first | (with_reducible first | exact HB.out | apply below_alloc | apply pw_below_drewN | apply below_drew1) | exact HB.out)) hb); clear HB; have HB := n0_; clear n0_; (try clear hb); (try clear hb2); (try clear hk); (try clear hi)))
                                                   go_ret
                                                   exact ⟨by first | rfl | (simp [errW_none, errW_some] <;> rfl) | (simp [*, errW_none, errW_some] <;> rfl), by repeat (first | (with_reducible first | exact HB.out | apply below_alloc | apply pw_below_drewN | apply below_drew1) | exact HB.out)⟩)
                                            · rw [if_neg c80] at H
                                              have c80b0 : (t302 == t304) = false := beq_eq_false_iff_ne.mpr c80
                                              have c80b1 : (t302 != t304) = true := bne_iff_ne.mpr c80
                                              have H' := Aside0.mk H
                                              clear H
                                              as_aux_lemma =>
                                                go_wp2_with (first | ((with_reducible refine gate_callee (f := 6) rfl ?_); refine goesL_ (some 112) rfl rfl Tryd.func6 (by kernel_rfl) rfl #[.int .i64 t304, .int .i64 t295] rfl (by (try simp only [List.map_toArray, List.map_cons, List.map_nil]); first | done | rfl | (simp only [List.length_drop, List.length_take]; rfl)) ?_; (with_reducible refine (impl_MulDown.calls kj29 t304 t295 t306 true _ A33.out).mono ?_); rintro e w89 ⟨rfl, hb⟩; refine ⟨_, rfl, ?_⟩; have n0_ := Aside0.mk (below_step (by repeat (first | (with_reducible first | exact HB.out | apply below_alloc | apply pw_below_drewN | apply below_drew1) | exact HB.out)) hb); clear HB; have HB := n0_; clear n0_; (try clear hb); (try clear hb2); (try clear hk); (try clear hi)) | ((with_reducible refine gate_callee (f := 7) rfl ?_); refine goesL_ (some 118) rfl rfl Tryd.func7 (by kernel_rfl) rfl #[.int .i64 t302, .int .i64 t295] rfl (by (try simp only [List.map_toArray, List.map_cons, List.map_nil]); first | done | rfl | (simp only [List.length_drop, List.length_take]; rfl)) ?_; (with_reducible refine (impl_MulUp.calls kj29 t302 t295 t308 true _ A34.out).mono ?_); rintro e w90 ⟨rfl, hb⟩; refine ⟨_, rfl, ?_⟩; have n0_ := Aside0.mk (below_step (by repeat (first | (with_reducible first | exact HB.out | apply below_alloc | apply pw_below_drewN | apply below_drew1) | exact HB.out)) hb); clear HB; have HB := n0_; clear n0_; (try clear hb); (try clear hb2); (try clear hk); (try clear hi)))
                                                go_meet
                                                case rel => exact ⟨_, H', ⟨by have := HJ8.out; have := HJ23.out; have := HJ29.out; first | omega | exact Nat.le_refl _⟩, ⟨by repeat (first | (with_reducible first | exact HB.out | apply below_alloc | apply pw_below_drewN | apply below_drew1) | exact HB.out)⟩⟩
                                      · rw [if_neg c73] at H
                                        have c73b0 : decide (t295 < 0) = false := decide_eq_false c73
                                        clear c73
                                        by_cases c91 : t302 = t304
                                        · rw [if_pos c91] at H
                                          have c91b0 : (t302 == t304) = true := beq_iff_eq.mpr c91
                                          have c91b1 : (t302 != t304) = false := bne_eq_false_iff_eq.mpr c91
                                          clear c91
                                          by_cases c92 : t306 = t294
                                          · rw [if_pos c92] at H
                                            have c92b0 : (t306 == t294) = true := beq_iff_eq.mpr c92
                                            have c92b1 : (t306 != t294) = false := bne_eq_false_iff_eq.mpr c92
                                            clear c92
                                            by_cases c93 : t308 = t294
                                            · rw [if_pos c93] at H
                                              have c93b0 : (t308 == t294) = true := beq_iff_eq.mpr c93
                                              have c93b1 : (t308 != t294) = false := bne_eq_false_iff_eq.mpr c93
                                              clear c93
                                              have H' := Aside0.mk H
                                              clear H
                                              as_aux_lemma =>
                                                go_wp2_with (first | ((with_reducible refine gate_callee (f := 6) rfl ?_); refine goesL_ (some 112) rfl rfl Tryd.func6 (by kernel_rfl) rfl #[.int .i64 t304, .int .i64 t295] rfl (by (try simp only [List.map_toArray, List.map_cons, List.map_nil]); first | done | rfl | (simp only [List.length_drop, List.length_take]; rfl)) ?_; (with_reducible refine (impl_MulDown.calls kj29 t304 t295 t306 true _ A33.out).mono ?_); rintro e w94 ⟨rfl, hb⟩; refine ⟨_, rfl, ?_⟩; have n0_ := Aside0.mk (below_step (by repeat (first | (with_reducible first | exact HB.out | apply below_alloc | apply pw_below_drewN | apply below_drew1) | exact HB.out)) hb); clear HB; have HB := n0_; clear n0_; (try clear hb); (try clear hb2); (try clear hk); (try clear hi)) | ((with_reducible refine gate_callee (f := 7) rfl ?_); refine goesL_ (some 118) rfl rfl Tryd.func7 (by kernel_rfl) rfl #[.int .i64 t302, .int .i64 t295] rfl (by (try simp only [List.map_toArray, List.map_cons, List.map_nil]); first | done | rfl | (simp only [List.length_drop, List.length_take]; rfl)) ?_; (with_reducible refine (impl_MulUp.calls kj29 t302 t295 t308 true _ A34.out).mono ?_); rintro e w95 ⟨rfl, hb⟩; refine ⟨_, rfl, ?_⟩; have n0_ := Aside0.mk (below_step (by repeat (first | (with_reducible first | exact HB.out | apply below_alloc | apply pw_below_drewN | apply below_drew1) | exact HB.out)) hb); clear HB; have HB := n0_; clear n0_; (try clear hb); (try clear hb2); (try clear hk); (try clear hi)))
                                                go_meet
                                                case rel => exact ⟨_, H', ⟨by have := HJ8.out; have := HJ23.out; have := HJ29.out; first | omega | exact Nat.le_refl _⟩, ⟨by repeat (first | (with_reducible first | exact HB.out | apply below_alloc | apply pw_below_drewN | apply below_drew1) | exact HB.out)⟩⟩
                                            · rw [if_neg c93] at H
                                              have c93b0 : (t308 == t294) = false := beq_eq_false_iff_ne.mpr c93
                                              have c93b1 : (t308 != t294) = true := bne_iff_ne.mpr c93
                                              first
                                              | exact absurd (Option.some.inj H) (by decide)
                                              | (have hr_ := Option.some.inj H
                                                 clear H
                                                 go_wp2_with (first | ((with_reducible refine gate_callee (f := 6) rfl ?_); refine goesL_ (some 112) rfl rfl Tryd.func6 (by kernel_rfl) rfl #[.int .i64 t304, .int .i64 t295] rfl (by (try simp only [List.map_toArray, List.map_cons, List.map_nil]); first | done | rfl | (simp only [List.length_drop, List.length_take]; rfl)) ?_; (with_reducible refine (impl_MulDown.calls kj29 t304 t295 t306 true _ A33.out).mono ?_); rintro e w96 ⟨rfl, hb⟩; refine ⟨_, rfl, ?_⟩; have n0_ := Aside0.mk (below_step (by repeat (first | (with_reducible first | exact HB.out | apply below_alloc | apply pw_below_drewN | apply below_drew1) | exact HB.out)) hb); clear HB; have HB := n0_; clear n0_; (try clear hb); (try clear hb2); (try clear hk); (try clear hi)) | ((with_reducible refine gate_callee (f := 7) rfl ?_); refine goesL_ (some 118) rfl rfl Tryd.func7 (by kernel_rfl) rfl #[.int .i64 t302, .int .i64 t295] rfl (by (try simp only [List.map_toArray, List.map_cons, List.map_nil]); first | done | rfl | (simp only [List.length_drop, List.length_take]; rfl)) ?_; (with_reducible refine (impl_MulUp.calls kj29 t302 t295 t308 true _ A34.out).mono ?_); rintro e w97 ⟨rfl, hb⟩; refine ⟨_, rfl, ?_⟩; have n0_ := Aside0.mk (below_step (by repeat (first | (with_reducible first | exact HB.out | apply below_alloc | apply pw_below_drewN | apply below_drew1) | exact HB.out)) hb); clear HB; have HB := n0_; clear n0_; (try clear hb); (try clear hb2); (try clear hk); (try clear hi)))
                                                 go_ret
                                                 exact ⟨by first | rfl | (simp [errW_none, errW_some] <;> rfl) | (simp [*, errW_none, errW_some] <;> rfl), by repeat (first | (with_reducible first | exact HB.out | apply below_alloc | apply pw_below_drewN | apply below_drew1) | exact HB.out)⟩)
                                          · rw [if_neg c92] at H
                                            have c92b0 : (t306 == t294) = false := beq_eq_false_iff_ne.mpr c92
                                            have c92b1 : (t306 != t294) = true := bne_iff_ne.mpr c92
                                            first
                                            | exact absurd (Option.some.inj H) (by decide)
                                            | (have hr_ := Option.some.inj H
                                               clear H
                                               go_wp2_with (first | ((with_reducible refine gate_callee (f := 6) rfl ?_); refine goesL_ (some 112) rfl rfl Tryd.func6 (by kernel_rfl) rfl #[.int .i64 t304, .int .i64 t295] rfl (by (try simp only [List.map_toArray, List.map_cons, List.map_nil]); first | done | rfl | (simp only [List.length_drop, List.length_take]; rfl)) ?_; (with_reducible refine (impl_MulDown.calls kj29 t304 t295 t306 true _ A33.out).mono ?_); rintro e w98 ⟨rfl, hb⟩; refine ⟨_, rfl, ?_⟩; have n0_ := Aside0.mk (below_step (by repeat (first | (with_reducible first | exact HB.out | apply below_alloc | apply pw_below_drewN | apply below_drew1) | exact HB.out)) hb); clear HB; have HB := n0_; clear n0_; (try clear hb); (try clear hb2); (try clear hk); (try clear hi)) | ((with_reducible refine gate_callee (f := 7) rfl ?_); refine goesL_ (some 118) rfl rfl Tryd.func7 (by kernel_rfl) rfl #[.int .i64 t302, .int .i64 t295] rfl (by (try simp only [List.map_toArray, List.map_cons, List.map_nil]); first | done | rfl | (simp only [List.length_drop, List.length_take]; rfl)) ?_; (with_reducible refine (impl_MulUp.calls kj29 t302 t295 t308 true _ A34.out).mono ?_); rintro e w99 ⟨rfl, hb⟩; refine ⟨_, rfl, ?_⟩; have n0_ := Aside0.mk (below_step (by repeat (first | (with_reducible first | exact HB.out | apply below_alloc | apply pw_below_drewN | apply below_drew1) | exact HB.out)) hb); clear HB; have HB := n0_; clear n0_; (try clear hb); (try clear hb2); (try clear hk); (try clear hi)))
                                               go_ret
                                               exact ⟨by first | rfl | (simp [errW_none, errW_some] <;> rfl) | (simp [*, errW_none, errW_some] <;> rfl), by repeat (first | (with_reducible first | exact HB.out | apply below_alloc | apply pw_below_drewN | apply below_drew1) | exact HB.out)⟩)
                                        · rw [if_neg c91] at H
                                          have c91b0 : (t302 == t304) = false := beq_eq_false_iff_ne.mpr c91
                                          have c91b1 : (t302 != t304) = true := bne_iff_ne.mpr c91
                                          have H' := Aside0.mk H
                                          clear H
                                          as_aux_lemma =>
                                            go_wp2_with (first | ((with_reducible refine gate_callee (f := 6) rfl ?_); refine goesL_ (some 112) rfl rfl Tryd.func6 (by kernel_rfl) rfl #[.int .i64 t304, .int .i64 t295] rfl (by (try simp only [List.map_toArray, List.map_cons, List.map_nil]); first | done | rfl | (simp only [List.length_drop, List.length_take]; rfl)) ?_; (with_reducible refine (impl_MulDown.calls kj29 t304 t295 t306 true _ A33.out).mono ?_); rintro e w100 ⟨rfl, hb⟩; refine ⟨_, rfl, ?_⟩; have n0_ := Aside0.mk (below_step (by repeat (first | (with_reducible first | exact HB.out | apply below_alloc | apply pw_below_drewN | apply below_drew1) | exact HB.out)) hb); clear HB; have HB := n0_; clear n0_; (try clear hb); (try clear hb2); (try clear hk); (try clear hi)) | ((with_reducible refine gate_callee (f := 7) rfl ?_); refine goesL_ (some 118) rfl rfl Tryd.func7 (by kernel_rfl) rfl #[.int .i64 t302, .int .i64 t295] rfl (by (try simp only [List.map_toArray, List.map_cons, List.map_nil]); first | done | rfl | (simp only [List.length_drop, List.length_take]; rfl)) ?_; (with_reducible refine (impl_MulUp.calls kj29 t302 t295 t308 true _ A34.out).mono ?_); rintro e w101 ⟨rfl, hb⟩; refine ⟨_, rfl, ?_⟩; have n0_ := Aside0.mk (below_step (by repeat (first | (with_reducible first | exact HB.out | apply below_alloc | apply pw_below_drewN | apply below_drew1) | exact HB.out)) hb); clear HB; have HB := n0_; clear n0_; (try clear hb); (try clear hb2); (try clear hk); (try clear hi)))
                                            go_meet
                                            case rel => exact ⟨_, H', ⟨by have := HJ8.out; have := HJ23.out; have := HJ29.out; first | omega | exact Nat.le_refl _⟩, ⟨by repeat (first | (with_reducible first | exact HB.out | apply below_alloc | apply pw_below_drewN | apply below_drew1) | exact HB.out)⟩⟩
                                  · replace c36 := Bool.eq_false_iff.mpr c36
                                    subst c36
                                    have H1 : (laws_FnFixed.j3 kj29 l1 t294) = some true := by rw [if_neg (show ¬ (false = true) by decide)] at H; exact H
                                    clear H
                                    have H := H1
                                    clear H1
                                    have H' := Aside0.mk H
                                    clear H
                                    as_aux_lemma =>
                                      go_wp2_with (first | ((with_reducible refine gate_callee (f := 6) rfl ?_); refine goesL_ (some 112) rfl rfl Tryd.func6 (by kernel_rfl) rfl #[.int .i64 t304, .int .i64 t295] rfl (by (try simp only [List.map_toArray, List.map_cons, List.map_nil]); first | done | rfl | (simp only [List.length_drop, List.length_take]; rfl)) ?_; (with_reducible refine (impl_MulDown.calls kj29 t304 t295 t306 true _ A33.out).mono ?_); rintro e w102 ⟨rfl, hb⟩; refine ⟨_, rfl, ?_⟩; have n0_ := Aside0.mk (below_step (by repeat (first | (with_reducible first | exact HB.out | apply below_alloc | apply pw_below_drewN | apply below_drew1) | exact HB.out)) hb); clear HB; have HB := n0_; clear n0_; (try clear hb); (try clear hb2); (try clear hk); (try clear hi)) | ((with_reducible refine gate_callee (f := 7) rfl ?_); refine goesL_ (some 118) rfl rfl Tryd.func7 (by kernel_rfl) rfl #[.int .i64 t302, .int .i64 t295] rfl (by (try simp only [List.map_toArray, List.map_cons, List.map_nil]); first | done | rfl | (simp only [List.length_drop, List.length_take]; rfl)) ?_; (with_reducible refine (impl_MulUp.calls kj29 t302 t295 t308 false _ A34.out).mono ?_); rintro e w103 ⟨rfl, hb⟩; refine ⟨_, rfl, ?_⟩; have n0_ := Aside0.mk (below_step (by repeat (first | (with_reducible first | exact HB.out | apply below_alloc | apply pw_below_drewN | apply below_drew1) | exact HB.out)) hb); clear HB; have HB := n0_; clear n0_; (try clear hb); (try clear hb2); (try clear hk); (try clear hi)))
                                      go_meet
                                      case rel => exact ⟨_, H', ⟨by have := HJ8.out; have := HJ23.out; have := HJ29.out; first | omega | exact Nat.le_refl _⟩, ⟨by repeat (first | (with_reducible first | exact HB.out | apply below_alloc | apply pw_below_drewN | apply below_drew1) | exact HB.out)⟩⟩
                                · replace c35 := Bool.eq_false_iff.mpr c35
                                  subst c35
                                  have H1 : (laws_FnFixed.j3 kj29 l1 t294) = some true := by rw [if_neg (show ¬ (false = true) by decide)] at H; exact H
                                  clear H
                                  have H := H1
                                  clear H1
                                  have H' := Aside0.mk H
                                  clear H
                                  as_aux_lemma =>
                                    go_wp2_with (first | ((with_reducible refine gate_callee (f := 6) rfl ?_); refine goesL_ (some 112) rfl rfl Tryd.func6 (by kernel_rfl) rfl #[.int .i64 t304, .int .i64 t295] rfl (by (try simp only [List.map_toArray, List.map_cons, List.map_nil]); first | done | rfl | (simp only [List.length_drop, List.length_take]; rfl)) ?_; (with_reducible refine (impl_MulDown.calls kj29 t304 t295 t306 false _ A33.out).mono ?_); rintro e w104 ⟨rfl, hb⟩; refine ⟨_, rfl, ?_⟩; have n0_ := Aside0.mk (below_step (by repeat (first | (with_reducible first | exact HB.out | apply below_alloc | apply pw_below_drewN | apply below_drew1) | exact HB.out)) hb); clear HB; have HB := n0_; clear n0_; (try clear hb); (try clear hb2); (try clear hk); (try clear hi)) | ((with_reducible refine gate_callee (f := 7) rfl ?_); refine goesL_ (some 118) rfl rfl Tryd.func7 (by kernel_rfl) rfl #[.int .i64 t302, .int .i64 t295] rfl (by (try simp only [List.map_toArray, List.map_cons, List.map_nil]); first | done | rfl | (simp only [List.length_drop, List.length_take]; rfl)) ?_; (with_reducible refine (impl_MulUp.calls kj29 t302 t295 t308 t309 _ A34.out).mono ?_); rintro e w105 ⟨rfl, hb⟩; refine ⟨_, rfl, ?_⟩; have n0_ := Aside0.mk (below_step (by repeat (first | (with_reducible first | exact HB.out | apply below_alloc | apply pw_below_drewN | apply below_drew1) | exact HB.out)) hb); clear HB; have HB := n0_; clear n0_; (try clear hb); (try clear hb2); (try clear hk); (try clear hi)))
                                    go_meet
                                    case rel => exact ⟨_, H', ⟨by have := HJ8.out; have := HJ23.out; have := HJ29.out; first | omega | exact Nat.le_refl _⟩, ⟨by repeat (first | (with_reducible first | exact HB.out | apply below_alloc | apply pw_below_drewN | apply below_drew1) | exact HB.out)⟩⟩
                      · replace c29 := Bool.eq_false_iff.mpr c29
                        subst c29
                        have H1 : (laws_FnFixed.j3 kj23 l1 t294) = some true := by rw [if_neg (show ¬ (false = true) by decide)] at H; exact H
                        clear H
                        have H := H1
                        clear H1
                        have H' := Aside0.mk H
                        clear H
                        as_aux_lemma =>
                          go_wp2
                          go_meet
                          case rel => exact ⟨_, H', ⟨by have := HJ8.out; have := HJ23.out; first | omega | exact Nat.le_refl _⟩, ⟨by repeat (first | (with_reducible first | exact HB.out | apply below_alloc | apply pw_below_drewN | apply below_drew1) | exact HB.out)⟩⟩
                  case rest =>
                    as_aux_lemma =>
                      clear HC28
                      try clear c1
                      try clear c2
                      try clear p2
                      try clear c3
                      try clear c4
                      try clear c5
                      try clear c6
                      try clear p6
                      try clear c7
                      try clear c8
                      try clear c9
                      try clear c14
                      try clear c15
                      try clear c16
                      try clear c16b0
                      try clear c17
                      try clear c17b0
                      try clear c18
                      try clear c18b0
                      try clear c18b1
                      try clear c18b2
                      try clear c19
                      try clear c19b0
                      try clear c19b1
                      try clear c19b2
                      try clear c20
                      try clear c20b0
                      try clear c20b1
                      try clear c20b2
                      try clear c21
                      try clear c27
                      try clear c29
                      try clear c31
                      try clear c31b0
                      try clear c32
                      try clear c35
                      try clear c36
                      try clear c37
                      try clear c37b0
                      try clear c38
                      try clear c38b0
                      try clear c41
                      try clear c41b0
                      try clear c44
                      try clear c44b0
                      try clear c45
                      try clear c45b0
                      try clear c48
                      try clear c48b0
                      try clear c51
                      try clear c51b0
                      try clear c51b1
                      try clear c52
                      try clear c52b0
                      try clear c52b1
                      try clear c53
                      try clear c53b0
                      try clear c53b1
                      try clear c62
                      try clear c62b0
                      try clear c62b1
                      try clear c63
                      try clear c63b0
                      try clear c63b1
                      try clear c64
                      try clear c64b0
                      try clear c64b1
                      try clear p64
                      try clear c73
                      try clear c73b0
                      try clear c74
                      try clear c74b0
                      try clear c77
                      try clear c77b0
                      try clear c80
                      try clear c80b0
                      try clear c80b1
                      try clear c81
                      try clear c81b0
                      try clear c81b1
                      try clear c82
                      try clear c82b0
                      try clear c82b1
                      try clear c91
                      try clear c91b0
                      try clear c91b1
                      try clear c92
                      try clear c92b0
                      try clear c92b1
                      try clear c93
                      try clear c93b0
                      try clear c93b1
                      try clear p2
                      try clear p6
                      obtain ⟨kq, HA, HJ27, HB⟩ := hcut
                      cases kq with
                      | zero => exact absurd HA.out (by simp [laws_FnFixed.j3])
                      | succ kj27 =>
                        have H := HA.out
                        clear HA
                        simp only [laws_FnFixed.j3] at H
                        replace H := Option.bind_eq_some_iff.mp H
                        obtain ⟨⟨t310, t311⟩, A1060, H⟩ := H
                        replace H : ((impl_SqrtUp.f kj27 t294).bind fun bt312 => (if (t311 != (decide (t294 ≥ 0))) = true then (laws_FnFixed.j4 kj27 l1 t294 t311 t310 bt312.1 true) else (laws_FnFixed.j4 kj27 l1 t294 t311 t310 bt312.1 (bt312.2 != t311)))) = some true := H
                        have A106 := Aside0.mk A1060
                        clear A1060
                        replace H := Option.bind_eq_some_iff.mp H
                        obtain ⟨⟨t312, t313⟩, A1070, H⟩ := H
                        replace H : (if (t311 != (decide (t294 ≥ 0))) = true then (laws_FnFixed.j4 kj27 l1 t294 t311 t310 t312 true) else (laws_FnFixed.j4 kj27 l1 t294 t311 t310 t312 (t313 != t311))) = some true := H
                        have A107 := Aside0.mk A1070
                        clear A1070
                        have HC108 := Aside0.mk H
                        clear H
                        go_upto_region 20 with (first | ((with_reducible refine gate_callee (f := 10) rfl ?_); refine goesL_ (some 170) rfl rfl Tryd.func10 (by kernel_rfl) rfl #[.int .i64 t294] rfl (by (try simp only [List.map_toArray, List.map_cons, List.map_nil]); first | done | rfl | (simp only [List.length_drop, List.length_take]; rfl)) ?_; (with_reducible refine (impl_SqrtDown.calls kj27 t294 t310 t311 _ A106.out).mono ?_); rintro e w109 ⟨rfl, hb⟩; refine ⟨_, rfl, ?_⟩; have n0_ := Aside0.mk (below_step (by repeat (first | (with_reducible first | exact HB.out | apply below_alloc | apply pw_below_drewN | apply below_drew1) | exact HB.out)) hb); clear HB; have HB := n0_; clear n0_; (try clear hb); (try clear hb2); (try clear hk); (try clear hi)) | ((with_reducible refine gate_callee (f := 11) rfl ?_); refine goesL_ (some 175) rfl rfl Tryd.func11 (by kernel_rfl) rfl #[.int .i64 t294] rfl (by (try simp only [List.map_toArray, List.map_cons, List.map_nil]); first | done | rfl | (simp only [List.length_drop, List.length_take]; rfl)) ?_; (with_reducible refine (impl_SqrtUp.calls kj27 t294 t312 t313 _ A107.out).mono ?_); rintro e w110 ⟨rfl, hb⟩; refine ⟨_, rfl, ?_⟩; have n0_ := Aside0.mk (below_step (by repeat (first | (with_reducible first | exact HB.out | apply below_alloc | apply pw_below_drewN | apply below_drew1) | exact HB.out)) hb); clear HB; have HB := n0_; clear n0_; (try clear hb); (try clear hb2); (try clear hk); (try clear hi)))
                        (try simp only [Act.put, List.setIfInBounds_toArray, List.set_cons_zero, List.set_cons_succ])
                        go_cut [186] (fun v186 wc => ∃ (kq : Nat) (x186_107 : Bool), v186 = .bool x186_107 ∧ Aside0 (laws_FnFixed.j4 kq l1 t294 t311 t310 t312 x186_107 = some true) ∧ Aside0 (kq ≤ kj27) ∧ Aside0 (Below w.heap.size w wc))
                        case first =>
                          as_aux_lemma =>
                            have H := HC108.out
                            clear HC108
                            by_cases c111 : (t311 != (decide (t294 ≥ 0))) = true
                            · rw [if_pos c111] at H
                              have c111b0 : (t311 != (decide (t294 ≥ 0))) = true := c111
                              (try (have c111b1 : decide (t311 = (decide (t294 ≥ 0))) = false := by simpa using c111))
                              (try (have c111b2 : (t311 == (decide (t294 ≥ 0))) = false := by simpa using c111))
                              (try (have c111b3 : ¬ (t311 = (decide (t294 ≥ 0))) := by simpa using c111))
                              clear c111
                              (first | rw [c111b0] | (simp only [i64_w, i32_w]; rw [c111b0]) | skip)
                              have H' := Aside0.mk H
                              clear H
                              as_aux_lemma =>
                                go_wp2
                                go_meet
                                case rel => exact ⟨_, (true), (by first | rfl | (simp; done) | (simp [*]; done)), H', ⟨by have := HJ8.out; have := HJ23.out; have := HJ27.out; first | omega | exact Nat.le_refl _⟩, ⟨by repeat (first | (with_reducible first | exact HB.out | apply below_alloc | apply pw_below_drewN | apply below_drew1) | exact HB.out)⟩⟩
                            · rw [if_neg c111] at H
                              have c111b0 : (t311 != (decide (t294 ≥ 0))) = false := by simpa using c111
                              (try (have c111b1 : decide (t311 = (decide (t294 ≥ 0))) = true := by simpa using c111))
                              (try (have c111b2 : (t311 == (decide (t294 ≥ 0))) = true := by simpa using c111))
                              clear c111
                              (first | rw [c111b0] | (simp only [i64_w, i32_w]; rw [c111b0]) | skip)
                              have H' := Aside0.mk H
                              clear H
                              as_aux_lemma =>
                                go_wp2
                                go_meet
                                case rel => exact ⟨_, ((t313 != t311)), (by first | rfl | (simp; done) | (simp [*]; done)), H', ⟨by have := HJ8.out; have := HJ23.out; have := HJ27.out; first | omega | exact Nat.le_refl _⟩, ⟨by repeat (first | (with_reducible first | exact HB.out | apply below_alloc | apply pw_below_drewN | apply below_drew1) | exact HB.out)⟩⟩
                        case rest =>
                          as_aux_lemma =>
                            clear HC108
                            try clear c1
                            try clear c2
                            try clear p2
                            try clear c3
                            try clear c4
                            try clear c5
                            try clear c6
                            try clear p6
                            try clear c7
                            try clear c8
                            try clear c9
                            try clear c10
                            try clear c11
                            try clear c14
                            try clear c15
                            try clear c16
                            try clear c16b0
                            try clear c17
                            try clear c17b0
                            try clear c18
                            try clear c18b0
                            try clear c18b1
                            try clear c18b2
                            try clear c19
                            try clear c19b0
                            try clear c19b1
                            try clear c19b2
                            try clear c20
                            try clear c20b0
                            try clear c20b1
                            try clear c20b2
                            try clear c21
                            try clear c27
                            try clear c29
                            try clear c31
                            try clear c31b0
                            try clear c32
                            try clear c35
                            try clear c36
                            try clear c37
                            try clear c37b0
                            try clear c38
                            try clear c38b0
                            try clear c41
                            try clear c41b0
                            try clear c44
                            try clear c44b0
                            try clear c45
                            try clear c45b0
                            try clear c48
                            try clear c48b0
                            try clear c51
                            try clear c51b0
                            try clear c51b1
                            try clear c52
                            try clear c52b0
                            try clear c52b1
                            try clear c53
                            try clear c53b0
                            try clear c53b1
                            try clear c62
                            try clear c62b0
                            try clear c62b1
                            try clear c63
                            try clear c63b0
                            try clear c63b1
                            try clear c64
                            try clear c64b0
                            try clear c64b1
                            try clear p64
                            try clear c73
                            try clear c73b0
                            try clear c74
                            try clear c74b0
                            try clear c77
                            try clear c77b0
                            try clear c80
                            try clear c80b0
                            try clear c80b1
                            try clear c81
                            try clear c81b0
                            try clear c81b1
                            try clear c82
                            try clear c82b0
                            try clear c82b1
                            try clear c91
                            try clear c91b0
                            try clear c91b1
                            try clear c92
                            try clear c92b0
                            try clear c92b1
                            try clear c93
                            try clear c93b0
                            try clear c93b1
                            try clear c111
                            try clear c111b0
                            try clear c111b1
                            try clear c111b2
                            try clear p2
                            try clear p6
                            try clear p64
                            obtain ⟨kq, x186_107, rfl, HA, HJ107, HB⟩ := hcut
                            cases kq with
                            | zero => exact absurd HA.out (by simp [laws_FnFixed.j4])
                            | succ kj107 =>
                              have H := HA.out
                              clear HA
                              simp only [laws_FnFixed.j4] at H
                              by_cases c112 : x186_107 = true
                              · subst c112
                                have H1 : (some false) = some true := by rw [if_pos rfl] at H; exact H
                                clear H
                                have H := H1
                                clear H1
                                first
                                | exact absurd (Option.some.inj H) (by decide)
                                | (have hr_ := Option.some.inj H
                                   clear H
                                   go_wp2
                                   go_ret
                                   exact ⟨by first | rfl | (simp [errW_none, errW_some] <;> rfl) | (simp [*, errW_none, errW_some] <;> rfl), by repeat (first | (with_reducible first | exact HB.out | apply below_alloc | apply pw_below_drewN | apply below_drew1) | exact HB.out)⟩)
                              · replace c112 := Bool.eq_false_iff.mpr c112
                                subst c112
                                have H1 : (if t311 = true then ((impl_MulDown.f kj107 t310 t310).bind fun bt314 => ((impl_MulUp.f kj107 t312 t312).bind fun bt316 => (if t310 > t312 then (some false) else (if t312 > (wrap64 (t310 + 1)) then (some false) else (if bt314.2 = true then (if bt314.1 > t294 then (some false) else (if bt316.2 = true then (if bt316.1 < t294 then (some false) else (laws_FnFixed.j5 kj107 l1 t294)) else (laws_FnFixed.j5 kj107 l1 t294))) else (if bt316.2 = true then (if bt316.1 < t294 then (some false) else (laws_FnFixed.j5 kj107 l1 t294)) else (laws_FnFixed.j5 kj107 l1 t294))))))) else (laws_FnFixed.j5 kj107 l1 t294)) = some true := by rw [if_neg (show ¬ (false = true) by decide)] at H; exact H
                                clear H
                                have H := H1
                                clear H1
                                have HC113 := Aside0.mk H
                                clear H
                                go_upto_if 187 with (fail)
                                go_cut [] (fun wc => ∃ (kq : Nat), Aside0 (laws_FnFixed.j5 kq l1 t294 = some true) ∧ Aside0 (kq ≤ kj107) ∧ Aside0 (Below w.heap.size w wc))
                                case first =>
                                  as_aux_lemma =>
                                    have H := HC113.out
                                    clear HC113
                                    by_cases c114 : t311 = true
                                    · subst c114
                                      have H1 : ((impl_MulDown.f kj107 t310 t310).bind fun bt314 => ((impl_MulUp.f kj107 t312 t312).bind fun bt316 => (if t310 > t312 then (some false) else (if t312 > (wrap64 (t310 + 1)) then (some false) else (if bt314.2 = true then (if bt314.1 > t294 then (some false) else (if bt316.2 = true then (if bt316.1 < t294 then (some false) else (laws_FnFixed.j5 kj107 l1 t294)) else (laws_FnFixed.j5 kj107 l1 t294))) else (if bt316.2 = true then (if bt316.1 < t294 then (some false) else (laws_FnFixed.j5 kj107 l1 t294)) else (laws_FnFixed.j5 kj107 l1 t294))))))) = some true := by rw [if_pos rfl] at H; exact H
                                      clear H
                                      have H := H1
                                      clear H1
                                      replace H := Option.bind_eq_some_iff.mp H
                                      obtain ⟨⟨t314, t315⟩, A1150, H⟩ := H
                                      replace H : ((impl_MulUp.f kj107 t312 t312).bind fun bt316 => (if t310 > t312 then (some false) else (if t312 > (wrap64 (t310 + 1)) then (some false) else (if t315 = true then (if t314 > t294 then (some false) else (if bt316.2 = true then (if bt316.1 < t294 then (some false) else (laws_FnFixed.j5 kj107 l1 t294)) else (laws_FnFixed.j5 kj107 l1 t294))) else (if bt316.2 = true then (if bt316.1 < t294 then (some false) else (laws_FnFixed.j5 kj107 l1 t294)) else (laws_FnFixed.j5 kj107 l1 t294)))))) = some true := H
                                      have A115 := Aside0.mk A1150
                                      clear A1150
                                      replace H := Option.bind_eq_some_iff.mp H
                                      obtain ⟨⟨t316, t317⟩, A1160, H⟩ := H
                                      replace H : (if t310 > t312 then (some false) else (if t312 > (wrap64 (t310 + 1)) then (some false) else (if t315 = true then (if t314 > t294 then (some false) else (if t317 = true then (if t316 < t294 then (some false) else (laws_FnFixed.j5 kj107 l1 t294)) else (laws_FnFixed.j5 kj107 l1 t294))) else (if t317 = true then (if t316 < t294 then (some false) else (laws_FnFixed.j5 kj107 l1 t294)) else (laws_FnFixed.j5 kj107 l1 t294))))) = some true := H
                                      have A116 := Aside0.mk A1160
                                      clear A1160
                                      by_cases c117 : t310 > t312
                                      · rw [if_pos c117] at H
                                        have c117b0 : decide (t312 < t310) = true := decide_eq_true c117
                                        clear c117
                                        (first | rw [c117b0] | (simp only [i64_w, i32_w]; rw [c117b0]) | skip)
                                        first
                                        | exact absurd (Option.some.inj H) (by decide)
                                        | (have hr_ := Option.some.inj H
                                           clear H
                                           go_wp2_with (first | ((with_reducible refine gate_callee (f := 6) rfl ?_); refine goesL_ (some 191) rfl rfl Tryd.func6 (by kernel_rfl) rfl #[.int .i64 t310, .int .i64 t310] rfl (by (try simp only [List.map_toArray, List.map_cons, List.map_nil]); first | done | rfl | (simp only [List.length_drop, List.length_take]; rfl)) ?_; (with_reducible refine (impl_MulDown.calls kj107 t310 t310 t314 t315 _ A115.out).mono ?_); rintro e w118 ⟨rfl, hb⟩; refine ⟨_, rfl, ?_⟩; have n0_ := Aside0.mk (below_step (by repeat (first | (with_reducible first | exact HB.out | apply below_alloc | apply pw_below_drewN | apply below_drew1) | exact HB.out)) hb); clear HB; have HB := n0_; clear n0_; (try clear hb); (try clear hb2); (try clear hk); (try clear hi)) | ((with_reducible refine gate_callee (f := 7) rfl ?_); refine goesL_ (some 197) rfl rfl Tryd.func7 (by kernel_rfl) rfl #[.int .i64 t312, .int .i64 t312] rfl (by (try simp only [List.map_toArray, List.map_cons, List.map_nil]); first | done | rfl | (simp only [List.length_drop, List.length_take]; rfl)) ?_; (with_reducible refine (impl_MulUp.calls kj107 t312 t312 t316 t317 _ A116.out).mono ?_); rintro e w119 ⟨rfl, hb⟩; refine ⟨_, rfl, ?_⟩; have n0_ := Aside0.mk (below_step (by repeat (first | (with_reducible first | exact HB.out | apply below_alloc | apply pw_below_drewN | apply below_drew1) | exact HB.out)) hb); clear HB; have HB := n0_; clear n0_; (try clear hb); (try clear hb2); (try clear hk); (try clear hi)))
                                           go_ret
                                           exact ⟨by first | rfl | (simp [errW_none, errW_some] <;> rfl) | (simp [*, errW_none, errW_some] <;> rfl), by repeat (first | (with_reducible first | exact HB.out | apply below_alloc | apply pw_below_drewN | apply below_drew1) | exact HB.out)⟩)
                                      · rw [if_neg c117] at H
                                        have c117b0 : decide (t312 < t310) = false := decide_eq_false c117
                                        clear c117
                                        (first | rw [c117b0] | (simp only [i64_w, i32_w]; rw [c117b0]) | skip)
                                        by_cases c120 : t312 > (wrap64 (t310 + 1))
                                        · rw [if_pos c120] at H
                                          have c120b0 : decide ((wrap64 (t310 + 1)) < t312) = true := decide_eq_true c120
                                          clear c120
                                          first
                                          | exact absurd (Option.some.inj H) (by decide)
                                          | (have hr_ := Option.some.inj H
                                             clear H
                                             go_wp2_with (first | ((with_reducible refine gate_callee (f := 6) rfl ?_); refine goesL_ (some 191) rfl rfl Tryd.func6 (by kernel_rfl) rfl #[.int .i64 t310, .int .i64 t310] rfl (by (try simp only [List.map_toArray, List.map_cons, List.map_nil]); first | done | rfl | (simp only [List.length_drop, List.length_take]; rfl)) ?_; (with_reducible refine (impl_MulDown.calls kj107 t310 t310 t314 t315 _ A115.out).mono ?_); rintro e w121 ⟨rfl, hb⟩; refine ⟨_, rfl, ?_⟩; have n0_ := Aside0.mk (below_step (by repeat (first | (with_reducible first | exact HB.out | apply below_alloc | apply pw_below_drewN | apply below_drew1) | exact HB.out)) hb); clear HB; have HB := n0_; clear n0_; (try clear hb); (try clear hb2); (try clear hk); (try clear hi)) | ((with_reducible refine gate_callee (f := 7) rfl ?_); refine goesL_ (some 197) rfl rfl Tryd.func7 (by kernel_rfl) rfl #[.int .i64 t312, .int .i64 t312] rfl (by (try simp only [List.map_toArray, List.map_cons, List.map_nil]); first | done | rfl | (simp only [List.length_drop, List.length_take]; rfl)) ?_; (with_reducible refine (impl_MulUp.calls kj107 t312 t312 t316 t317 _ A116.out).mono ?_); rintro e w122 ⟨rfl, hb⟩; refine ⟨_, rfl, ?_⟩; have n0_ := Aside0.mk (below_step (by repeat (first | (with_reducible first | exact HB.out | apply below_alloc | apply pw_below_drewN | apply below_drew1) | exact HB.out)) hb); clear HB; have HB := n0_; clear n0_; (try clear hb); (try clear hb2); (try clear hk); (try clear hi)))
                                             go_ret
                                             exact ⟨by first | rfl | (simp [errW_none, errW_some] <;> rfl) | (simp [*, errW_none, errW_some] <;> rfl), by repeat (first | (with_reducible first | exact HB.out | apply below_alloc | apply pw_below_drewN | apply below_drew1) | exact HB.out)⟩)
                                        · rw [if_neg c120] at H
                                          have c120b0 : decide ((wrap64 (t310 + 1)) < t312) = false := decide_eq_false c120
                                          clear c120
                                          by_cases c123 : t315 = true
                                          · subst c123
                                            have H1 : (if t314 > t294 then (some false) else (if t317 = true then (if t316 < t294 then (some false) else (laws_FnFixed.j5 kj107 l1 t294)) else (laws_FnFixed.j5 kj107 l1 t294))) = some true := by rw [if_pos rfl] at H; exact H
                                            clear H
                                            have H := H1
                                            clear H1
                                            by_cases c124 : t314 > t294
                                            · rw [if_pos c124] at H
                                              have c124b0 : decide (t294 < t314) = true := decide_eq_true c124
                                              clear c124
                                              first
                                              | exact absurd (Option.some.inj H) (by decide)
                                              | (have hr_ := Option.some.inj H
                                                 clear H
                                                 go_wp2_with (first | ((with_reducible refine gate_callee (f := 6) rfl ?_); refine goesL_ (some 191) rfl rfl Tryd.func6 (by kernel_rfl) rfl #[.int .i64 t310, .int .i64 t310] rfl (by (try simp only [List.map_toArray, List.map_cons, List.map_nil]); first | done | rfl | (simp only [List.length_drop, List.length_take]; rfl)) ?_; (with_reducible refine (impl_MulDown.calls kj107 t310 t310 t314 true _ A115.out).mono ?_); rintro e w125 ⟨rfl, hb⟩; refine ⟨_, rfl, ?_⟩; have n0_ := Aside0.mk (below_step (by repeat (first | (with_reducible first | exact HB.out | apply below_alloc | apply pw_below_drewN | apply below_drew1) | exact HB.out)) hb); clear HB; have HB := n0_; clear n0_; (try clear hb); (try clear hb2); (try clear hk); (try clear hi)) | ((with_reducible refine gate_callee (f := 7) rfl ?_); refine goesL_ (some 197) rfl rfl Tryd.func7 (by kernel_rfl) rfl #[.int .i64 t312, .int .i64 t312] rfl (by (try simp only [List.map_toArray, List.map_cons, List.map_nil]); first | done | rfl | (simp only [List.length_drop, List.length_take]; rfl)) ?_; (with_reducible refine (impl_MulUp.calls kj107 t312 t312 t316 t317 _ A116.out).mono ?_); rintro e w126 ⟨rfl, hb⟩; refine ⟨_, rfl, ?_⟩; have n0_ := Aside0.mk (below_step (by repeat (first | (with_reducible first | exact HB.out | apply below_alloc | apply pw_below_drewN | apply below_drew1) | exact HB.out)) hb); clear HB; have HB := n0_; clear n0_; (try clear hb); (try clear hb2); (try clear hk); (try clear hi)))
                                                 go_ret
                                                 exact ⟨by first | rfl | (simp [errW_none, errW_some] <;> rfl) | (simp [*, errW_none, errW_some] <;> rfl), by repeat (first | (with_reducible first | exact HB.out | apply below_alloc | apply pw_below_drewN | apply below_drew1) | exact HB.out)⟩)
                                            · rw [if_neg c124] at H
                                              have c124b0 : decide (t294 < t314) = false := decide_eq_false c124
                                              clear c124
                                              by_cases c127 : t317 = true
                                              · subst c127
                                                have H1 : (if t316 < t294 then (some false) else (laws_FnFixed.j5 kj107 l1 t294)) = some true := by rw [if_pos rfl] at H; exact H
                                                clear H
                                                have H := H1
                                                clear H1
                                                by_cases c128 : t316 < t294
                                                · rw [if_pos c128] at H
                                                  have c128b0 : decide (t316 < t294) = true := decide_eq_true c128
                                                  clear c128
                                                  first
                                                  | exact absurd (Option.some.inj H) (by decide)
                                                  | (have hr_ := Option.some.inj H
                                                     clear H
                                                     go_wp2_with (first | ((with_reducible refine gate_callee (f := 6) rfl ?_); refine goesL_ (some 191) rfl rfl Tryd.func6 (by kernel_rfl) rfl #[.int .i64 t310, .int .i64 t310] rfl (by (try simp only [List.map_toArray, List.map_cons, List.map_nil]); first | done | rfl | (simp only [List.length_drop, List.length_take]; rfl)) ?_; (with_reducible refine (impl_MulDown.calls kj107 t310 t310 t314 true _ A115.out).mono ?_); rintro e w129 ⟨rfl, hb⟩; refine ⟨_, rfl, ?_⟩; have n0_ := Aside0.mk (below_step (by repeat (first | (with_reducible first | exact HB.out | apply below_alloc | apply pw_below_drewN | apply below_drew1) | exact HB.out)) hb); clear HB; have HB := n0_; clear n0_; (try clear hb); (try clear hb2); (try clear hk); (try clear hi)) | ((with_reducible refine gate_callee (f := 7) rfl ?_); refine goesL_ (some 197) rfl rfl Tryd.func7 (by kernel_rfl) rfl #[.int .i64 t312, .int .i64 t312] rfl (by (try simp only [List.map_toArray, List.map_cons, List.map_nil]); first | done | rfl | (simp only [List.length_drop, List.length_take]; rfl)) ?_; (with_reducible refine (impl_MulUp.calls kj107 t312 t312 t316 true _ A116.out).mono ?_); rintro e w130 ⟨rfl, hb⟩; refine ⟨_, rfl, ?_⟩; have n0_ := Aside0.mk (below_step (by repeat (first | (with_reducible first | exact HB.out | apply below_alloc | apply pw_below_drewN | apply below_drew1) | exact HB.out)) hb); clear HB; have HB := n0_; clear n0_; (try clear hb); (try clear hb2); (try clear hk); (try clear hi)))
                                                     go_ret
                                                     exact ⟨by first | rfl | (simp [errW_none, errW_some] <;> rfl) | (simp [*, errW_none, errW_some] <;> rfl), by repeat (first | (with_reducible first | exact HB.out | apply below_alloc | apply pw_below_drewN | apply below_drew1) | exact HB.out)⟩)
                                                · rw [if_neg c128] at H
                                                  have c128b0 : decide (t316 < t294) = false := decide_eq_false c128
                                                  clear c128
                                                  have H' := Aside0.mk H
                                                  clear H
                                                  as_aux_lemma =>
                                                    go_wp2_with (first | ((with_reducible refine gate_callee (f := 6) rfl ?_); refine goesL_ (some 191) rfl rfl Tryd.func6 (by kernel_rfl) rfl #[.int .i64 t310, .int .i64 t310] rfl (by (try simp only [List.map_toArray, List.map_cons, List.map_nil]); first | done | rfl | (simp only [List.length_drop, List.length_take]; rfl)) ?_; (with_reducible refine (impl_MulDown.calls kj107 t310 t310 t314 true _ A115.out).mono ?_); rintro e w131 ⟨rfl, hb⟩; refine ⟨_, rfl, ?_⟩; have n0_ := Aside0.mk (below_step (by repeat (first | (with_reducible first | exact HB.out | apply below_alloc | apply pw_below_drewN | apply below_drew1) | exact HB.out)) hb); clear HB; have HB := n0_; clear n0_; (try clear hb); (try clear hb2); (try clear hk); (try clear hi)) | ((with_reducible refine gate_callee (f := 7) rfl ?_); refine goesL_ (some 197) rfl rfl Tryd.func7 (by kernel_rfl) rfl #[.int .i64 t312, .int .i64 t312] rfl (by (try simp only [List.map_toArray, List.map_cons, List.map_nil]); first | done | rfl | (simp only [List.length_drop, List.length_take]; rfl)) ?_; (with_reducible refine (impl_MulUp.calls kj107 t312 t312 t316 true _ A116.out).mono ?_); rintro e w132 ⟨rfl, hb⟩; refine ⟨_, rfl, ?_⟩; have n0_ := Aside0.mk (below_step (by repeat (first | (with_reducible first | exact HB.out | apply below_alloc | apply pw_below_drewN | apply below_drew1) | exact HB.out)) hb); clear HB; have HB := n0_; clear n0_; (try clear hb); (try clear hb2); (try clear hk); (try clear hi)))
                                                    go_meet
                                                    case rel => exact ⟨_, H', ⟨by have := HJ8.out; have := HJ23.out; have := HJ27.out; have := HJ107.out; first | omega | exact Nat.le_refl _⟩, ⟨by repeat (first | (with_reducible first | exact HB.out | apply below_alloc | apply pw_below_drewN | apply below_drew1) | exact HB.out)⟩⟩
                                              · replace c127 := Bool.eq_false_iff.mpr c127
                                                subst c127
                                                have H1 : (laws_FnFixed.j5 kj107 l1 t294) = some true := by rw [if_neg (show ¬ (false = true) by decide)] at H; exact H
                                                clear H
                                                have H := H1
                                                clear H1
                                                have H' := Aside0.mk H
                                                clear H
                                                as_aux_lemma =>
                                                  go_wp2_with (first | ((with_reducible refine gate_callee (f := 6) rfl ?_); refine goesL_ (some 191) rfl rfl Tryd.func6 (by kernel_rfl) rfl #[.int .i64 t310, .int .i64 t310] rfl (by (try simp only [List.map_toArray, List.map_cons, List.map_nil]); first | done | rfl | (simp only [List.length_drop, List.length_take]; rfl)) ?_; (with_reducible refine (impl_MulDown.calls kj107 t310 t310 t314 true _ A115.out).mono ?_); rintro e w133 ⟨rfl, hb⟩; refine ⟨_, rfl, ?_⟩; have n0_ := Aside0.mk (below_step (by repeat (first | (with_reducible first | exact HB.out | apply below_alloc | apply pw_below_drewN | apply below_drew1) | exact HB.out)) hb); clear HB; have HB := n0_; clear n0_; (try clear hb); (try clear hb2); (try clear hk); (try clear hi)) | ((with_reducible refine gate_callee (f := 7) rfl ?_); refine goesL_ (some 197) rfl rfl Tryd.func7 (by kernel_rfl) rfl #[.int .i64 t312, .int .i64 t312] rfl (by (try simp only [List.map_toArray, List.map_cons, List.map_nil]); first | done | rfl | (simp only [List.length_drop, List.length_take]; rfl)) ?_; (with_reducible refine (impl_MulUp.calls kj107 t312 t312 t316 false _ A116.out).mono ?_); rintro e w134 ⟨rfl, hb⟩; refine ⟨_, rfl, ?_⟩; have n0_ := Aside0.mk (below_step (by repeat (first | (with_reducible first | exact HB.out | apply below_alloc | apply pw_below_drewN | apply below_drew1) | exact HB.out)) hb); clear HB; have HB := n0_; clear n0_; (try clear hb); (try clear hb2); (try clear hk); (try clear hi)))
                                                  go_meet
                                                  case rel => exact ⟨_, H', ⟨by have := HJ8.out; have := HJ23.out; have := HJ27.out; have := HJ107.out; first | omega | exact Nat.le_refl _⟩, ⟨by repeat (first | (with_reducible first | exact HB.out | apply below_alloc | apply pw_below_drewN | apply below_drew1) | exact HB.out)⟩⟩
                                          · replace c123 := Bool.eq_false_iff.mpr c123
                                            subst c123
                                            have H1 : (if t317 = true then (if t316 < t294 then (some false) else (laws_FnFixed.j5 kj107 l1 t294)) else (laws_FnFixed.j5 kj107 l1 t294)) = some true := by rw [if_neg (show ¬ (false = true) by decide)] at H; exact H
                                            clear H
                                            have H := H1
                                            clear H1
                                            by_cases c135 : t317 = true
                                            · subst c135
                                              have H1 : (if t316 < t294 then (some false) else (laws_FnFixed.j5 kj107 l1 t294)) = some true := by rw [if_pos rfl] at H; exact H
                                              clear H
                                              have H := H1
                                              clear H1
                                              by_cases c136 : t316 < t294
                                              · rw [if_pos c136] at H
                                                have c136b0 : decide (t316 < t294) = true := decide_eq_true c136
                                                clear c136
                                                first
                                                | exact absurd (Option.some.inj H) (by decide)
                                                | (have hr_ := Option.some.inj H
                                                   clear H
                                                   go_wp2_with (first | ((with_reducible refine gate_callee (f := 6) rfl ?_); refine goesL_ (some 191) rfl rfl Tryd.func6 (by kernel_rfl) rfl #[.int .i64 t310, .int .i64 t310] rfl (by (try simp only [List.map_toArray, List.map_cons, List.map_nil]); first | done | rfl | (simp only [List.length_drop, List.length_take]; rfl)) ?_; (with_reducible refine (impl_MulDown.calls kj107 t310 t310 t314 false _ A115.out).mono ?_); rintro e w137 ⟨rfl, hb⟩; refine ⟨_, rfl, ?_⟩; have n0_ := Aside0.mk (below_step (by repeat (first | (with_reducible first | exact HB.out | apply below_alloc | apply pw_below_drewN | apply below_drew1) | exact HB.out)) hb); clear HB; have HB := n0_; clear n0_; (try clear hb); (try clear hb2); (try clear hk); (try clear hi)) | ((with_reducible refine gate_callee (f := 7) rfl ?_); refine goesL_ (some 197) rfl rfl Tryd.func7 (by kernel_rfl) rfl #[.int .i64 t312, .int .i64 t312] rfl (by (try simp only [List.map_toArray, List.map_cons, List.map_nil]); first | done | rfl | (simp only [List.length_drop, List.length_take]; rfl)) ?_; (with_reducible refine (impl_MulUp.calls kj107 t312 t312 t316 true _ A116.out).mono ?_); rintro e w138 ⟨rfl, hb⟩; refine ⟨_, rfl, ?_⟩; have n0_ := Aside0.mk (below_step (by repeat (first | (with_reducible first | exact HB.out | apply below_alloc | apply pw_below_drewN | apply below_drew1) | exact HB.out)) hb); clear HB; have HB := n0_; clear n0_; (try clear hb); (try clear hb2); (try clear hk); (try clear hi)))
                                                   go_ret
                                                   exact ⟨by first | rfl | (simp [errW_none, errW_some] <;> rfl) | (simp [*, errW_none, errW_some] <;> rfl), by repeat (first | (with_reducible first | exact HB.out | apply below_alloc | apply pw_below_drewN | apply below_drew1) | exact HB.out)⟩)
                                              · rw [if_neg c136] at H
                                                have c136b0 : decide (t316 < t294) = false := decide_eq_false c136
                                                clear c136
                                                have H' := Aside0.mk H
                                                clear H
                                                as_aux_lemma =>
                                                  go_wp2_with (first | ((with_reducible refine gate_callee (f := 6) rfl ?_); refine goesL_ (some 191) rfl rfl Tryd.func6 (by kernel_rfl) rfl #[.int .i64 t310, .int .i64 t310] rfl (by (try simp only [List.map_toArray, List.map_cons, List.map_nil]); first | done | rfl | (simp only [List.length_drop, List.length_take]; rfl)) ?_; (with_reducible refine (impl_MulDown.calls kj107 t310 t310 t314 false _ A115.out).mono ?_); rintro e w139 ⟨rfl, hb⟩; refine ⟨_, rfl, ?_⟩; have n0_ := Aside0.mk (below_step (by repeat (first | (with_reducible first | exact HB.out | apply below_alloc | apply pw_below_drewN | apply below_drew1) | exact HB.out)) hb); clear HB; have HB := n0_; clear n0_; (try clear hb); (try clear hb2); (try clear hk); (try clear hi)) | ((with_reducible refine gate_callee (f := 7) rfl ?_); refine goesL_ (some 197) rfl rfl Tryd.func7 (by kernel_rfl) rfl #[.int .i64 t312, .int .i64 t312] rfl (by (try simp only [List.map_toArray, List.map_cons, List.map_nil]); first | done | rfl | (simp only [List.length_drop, List.length_take]; rfl)) ?_; (with_reducible refine (impl_MulUp.calls kj107 t312 t312 t316 true _ A116.out).mono ?_); rintro e w140 ⟨rfl, hb⟩; refine ⟨_, rfl, ?_⟩; have n0_ := Aside0.mk (below_step (by repeat (first | (with_reducible first | exact HB.out | apply below_alloc | apply pw_below_drewN | apply below_drew1) | exact HB.out)) hb); clear HB; have HB := n0_; clear n0_; (try clear hb); (try clear hb2); (try clear hk); (try clear hi)))
                                                  go_meet
                                                  case rel => exact ⟨_, H', ⟨by have := HJ8.out; have := HJ23.out; have := HJ27.out; have := HJ107.out; first | omega | exact Nat.le_refl _⟩, ⟨by repeat (first | (with_reducible first | exact HB.out | apply below_alloc | apply pw_below_drewN | apply below_drew1) | exact HB.out)⟩⟩
                                            · replace c135 := Bool.eq_false_iff.mpr c135
                                              subst c135
                                              have H1 : (laws_FnFixed.j5 kj107 l1 t294) = some true := by rw [if_neg (show ¬ (false = true) by decide)] at H; exact H
                                              clear H
                                              have H := H1
                                              clear H1
                                              have H' := Aside0.mk H
                                              clear H
                                              as_aux_lemma =>
                                                go_wp2_with (first | ((with_reducible refine gate_callee (f := 6) rfl ?_); refine goesL_ (some 191) rfl rfl Tryd.func6 (by kernel_rfl) rfl #[.int .i64 t310, .int .i64 t310] rfl (by (try simp only [List.map_toArray, List.map_cons, List.map_nil]); first | done | rfl | (simp only [List.length_drop, List.length_take]; rfl)) ?_; (with_reducible refine (impl_MulDown.calls kj107 t310 t310 t314 false _ A115.out).mono ?_); rintro e w141 ⟨rfl, hb⟩; refine ⟨_, rfl, ?_⟩; have n0_ := Aside0.mk (below_step (by repeat (first | (with_reducible first | exact HB.out | apply below_alloc | apply pw_below_drewN | apply below_drew1) | exact HB.out)) hb); clear HB; have HB := n0_; clear n0_; (try clear hb); (try clear hb2); (try clear hk); (try clear hi)) | ((with_reducible refine gate_callee (f := 7) rfl ?_); refine goesL_ (some 197) rfl rfl Tryd.func7 (by kernel_rfl) rfl #[.int .i64 t312, .int .i64 t312] rfl (by (try simp only [List.map_toArray, List.map_cons, List.map_nil]); first | done | rfl | (simp only [List.length_drop, List.length_take]; rfl)) ?_; (with_reducible refine (impl_MulUp.calls kj107 t312 t312 t316 false _ A116.out).mono ?_); rintro e w142 ⟨rfl, hb⟩; refine ⟨_, rfl, ?_⟩; have n0_ := Aside0.mk (below_step (by repeat (first | (with_reducible first | exact HB.out | apply below_alloc | apply pw_below_drewN | apply below_drew1) | exact HB.out)) hb); clear HB; have HB := n0_; clear n0_; (try clear hb); (try clear hb2); (try clear hk); (try clear hi)))
                                                go_meet
                                                case rel => exact ⟨_, H', ⟨by have := HJ8.out; have := HJ23.out; have := HJ27.out; have := HJ107.out; first | omega | exact Nat.le_refl _⟩, ⟨by repeat (first | (with_reducible first | exact HB.out | apply below_alloc | apply pw_below_drewN | apply below_drew1) | exact HB.out)⟩⟩
                                    · replace c114 := Bool.eq_false_iff.mpr c114
                                      subst c114
                                      have H1 : (laws_FnFixed.j5 kj107 l1 t294) = some true := by rw [if_neg (show ¬ (false = true) by decide)] at H; exact H
                                      clear H
                                      have H := H1
                                      clear H1
                                      have H' := Aside0.mk H
                                      clear H
                                      as_aux_lemma =>
                                        go_wp2
                                        go_meet
                                        case rel => exact ⟨_, H', ⟨by have := HJ8.out; have := HJ23.out; have := HJ27.out; have := HJ107.out; first | omega | exact Nat.le_refl _⟩, ⟨by repeat (first | (with_reducible first | exact HB.out | apply below_alloc | apply pw_below_drewN | apply below_drew1) | exact HB.out)⟩⟩
                                case rest =>
                                  as_aux_lemma =>
                                    clear HC113
                                    try clear c1
                                    try clear c2
                                    try clear p2
                                    try clear c3
                                    try clear c4
                                    try clear c5
                                    try clear c6
                                    try clear p6
                                    try clear c7
                                    try clear c8
                                    try clear c9
                                    try clear c10
                                    try clear c11
                                    try clear c12
                                    try clear c13
                                    try clear c14
                                    try clear c15
                                    try clear c16
                                    try clear c16b0
                                    try clear c17
                                    try clear c17b0
                                    try clear c18
                                    try clear c18b0
                                    try clear c18b1
                                    try clear c18b2
                                    try clear c19
                                    try clear c19b0
                                    try clear c19b1
                                    try clear c19b2
                                    try clear c20
                                    try clear c20b0
                                    try clear c20b1
                                    try clear c20b2
                                    try clear c21
                                    try clear c27
                                    try clear c29
                                    try clear c31
                                    try clear c31b0
                                    try clear c32
                                    try clear c35
                                    try clear c36
                                    try clear c37
                                    try clear c37b0
                                    try clear c38
                                    try clear c38b0
                                    try clear c41
                                    try clear c41b0
                                    try clear c44
                                    try clear c44b0
                                    try clear c45
                                    try clear c45b0
                                    try clear c48
                                    try clear c48b0
                                    try clear c51
                                    try clear c51b0
                                    try clear c51b1
                                    try clear c52
                                    try clear c52b0
                                    try clear c52b1
                                    try clear c53
                                    try clear c53b0
                                    try clear c53b1
                                    try clear c62
                                    try clear c62b0
                                    try clear c62b1
                                    try clear c63
                                    try clear c63b0
                                    try clear c63b1
                                    try clear c64
                                    try clear c64b0
                                    try clear c64b1
                                    try clear p64
                                    try clear c73
                                    try clear c73b0
                                    try clear c74
                                    try clear c74b0
                                    try clear c77
                                    try clear c77b0
                                    try clear c80
                                    try clear c80b0
                                    try clear c80b1
                                    try clear c81
                                    try clear c81b0
                                    try clear c81b1
                                    try clear c82
                                    try clear c82b0
                                    try clear c82b1
                                    try clear c91
                                    try clear c91b0
                                    try clear c91b1
                                    try clear c92
                                    try clear c92b0
                                    try clear c92b1
                                    try clear c93
                                    try clear c93b0
                                    try clear c93b1
                                    try clear c111
                                    try clear c111b0
                                    try clear c111b1
                                    try clear c111b2
                                    try clear c112
                                    try clear c114
                                    try clear c117
                                    try clear c117b0
                                    try clear c120
                                    try clear c120b0
                                    try clear c123
                                    try clear c124
                                    try clear c124b0
                                    try clear c127
                                    try clear c128
                                    try clear c128b0
                                    try clear c135
                                    try clear c136
                                    try clear c136b0
                                    try clear p2
                                    try clear p6
                                    try clear p64
                                    obtain ⟨kq, HA, HJ112, HB⟩ := hcut
                                    cases kq with
                                    | zero => exact absurd HA.out (by simp [laws_FnFixed.j5])
                                    | succ kj112 =>
                                      have H := HA.out
                                      clear HA
                                      simp only [laws_FnFixed.j5] at H
                                      replace H := Option.bind_eq_some_iff.mp H
                                      obtain ⟨t318, A1430, H⟩ := H
                                      replace H : ((impl_TextDown.f kj112 t294 t318).bind fun t319 => ((impl_ReadFix.f kj112 t319).bind fun bt320 => ((impl_TextUp.f kj112 t294 t318).bind fun t323 => ((impl_ReadFix.f kj112 t323).bind fun bt324 => (if bt320.2.2 = true then (if bt324.2.2 = true then (if bt320.1 ≤ t294 then (some (decide (bt324.2.1 ≥ t294))) else (some false)) else (some false)) else (some false)))))) = some true := H
                                      have A143 := Aside0.mk A1430
                                      clear A1430
                                      replace H := Option.bind_eq_some_iff.mp H
                                      obtain ⟨t319, A1440, H⟩ := H
                                      replace H : ((impl_ReadFix.f kj112 t319).bind fun bt320 => ((impl_TextUp.f kj112 t294 t318).bind fun t323 => ((impl_ReadFix.f kj112 t323).bind fun bt324 => (if bt320.2.2 = true then (if bt324.2.2 = true then (if bt320.1 ≤ t294 then (some (decide (bt324.2.1 ≥ t294))) else (some false)) else (some false)) else (some false))))) = some true := H
                                      have A144 := Aside0.mk A1440
                                      clear A1440
                                      replace H := Option.bind_eq_some_iff.mp H
                                      obtain ⟨⟨t320, t321, t322⟩, A1450, H⟩ := H
                                      replace H : ((impl_TextUp.f kj112 t294 t318).bind fun t323 => ((impl_ReadFix.f kj112 t323).bind fun bt324 => (if t322 = true then (if bt324.2.2 = true then (if t320 ≤ t294 then (some (decide (bt324.2.1 ≥ t294))) else (some false)) else (some false)) else (some false)))) = some true := H
                                      have A145 := Aside0.mk A1450
                                      clear A1450
                                      replace H := Option.bind_eq_some_iff.mp H
                                      obtain ⟨t323, A1460, H⟩ := H
                                      replace H : ((impl_ReadFix.f kj112 t323).bind fun bt324 => (if t322 = true then (if bt324.2.2 = true then (if t320 ≤ t294 then (some (decide (bt324.2.1 ≥ t294))) else (some false)) else (some false)) else (some false))) = some true := H
                                      have A146 := Aside0.mk A1460
                                      clear A1460
                                      replace H := Option.bind_eq_some_iff.mp H
                                      obtain ⟨⟨t324, t325, t326⟩, A1470, H⟩ := H
                                      replace H : (if t322 = true then (if t326 = true then (if t320 ≤ t294 then (some (decide (t325 ≥ t294))) else (some false)) else (some false)) else (some false)) = some true := H
                                      have A147 := Aside0.mk A1470
                                      clear A1470
                                      by_cases c148 : t322 = true
                                      · subst c148
                                        have H1 : (if t326 = true then (if t320 ≤ t294 then (some (decide (t325 ≥ t294))) else (some false)) else (some false)) = some true := by rw [if_pos rfl] at H; exact H
                                        clear H
                                        have H := H1
                                        clear H1
                                        by_cases c149 : t326 = true
                                        · subst c149
                                          have H1 : (if t320 ≤ t294 then (some (decide (t325 ≥ t294))) else (some false)) = some true := by rw [if_pos rfl] at H; exact H
                                          clear H
                                          have H := H1
                                          clear H1
                                          by_cases c150 : t320 ≤ t294
                                          · rw [if_pos c150] at H
                                            have c150b0 : decide (t320 ≤ t294) = true := decide_eq_true c150
                                            clear c150
                                            first
                                            | exact absurd (Option.some.inj H) (by decide)
                                            | (have hr_ := Option.some.inj H
                                               clear H
                                               go_wp2_with (first | ((with_reducible refine gate_callee (f := 12) rfl ?_); refine goesL_ (some 226) rfl rfl Tryd.func12 (by kernel_rfl) rfl #[.slice A1 l1.length c1, .int .i64 0, .int .i64 10] rfl (by (try simp only [List.map_toArray, List.map_cons, List.map_nil]); first | done | rfl | (simp only [List.length_drop, List.length_take]; rfl)) ?_; (with_reducible refine (laws_a2At.calls _ _ l1 0 10 t318 _ ?side1 ?side2 A143.out).mono ?_); (case side1 => repeat (first | exact (Kd.C_below HR1.out HB.out) | (with_reducible refine Kd.C_alloc ?_ _) | (with_reducible refine Kd.C_drewN ?_ _) | (with_reducible refine Kd.C_drew ?_))); (case side2 => exact HC1.out); rintro e w' ⟨rfl, ⟨nd, rfl⟩⟩; refine ⟨_, rfl, ?_⟩) | ((with_reducible refine gate_callee (f := 14) rfl ?_); refine goesL_ (some 230) rfl rfl Tryd.func14 (by kernel_rfl) rfl #[.int .i64 t294, .int .i64 t318] rfl (by (try simp only [List.map_toArray, List.map_cons, List.map_nil]); first | done | rfl | (simp only [List.length_drop, List.length_take]; rfl)) ?_; (with_reducible refine (impl_TextDown.calls kj112 t294 t318 t319 _ (laidC_b HT.out (by repeat (first | (with_reducible first | exact HB.out | apply below_alloc | apply pw_below_drewN | apply below_drew1) | exact HB.out))) A144.out).mono ?_); rintro e w151 ⟨rfl, hb⟩; refine ⟨_, rfl, ?_⟩; have n0_ := Aside0.mk (below_step (by repeat (first | (with_reducible first | exact HB.out | apply below_alloc | apply pw_below_drewN | apply below_drew1) | exact HB.out)) hb); clear HB; have HB := n0_; clear n0_; (try clear hb); (try clear hb2); (try clear hk); (try clear hi)) | ((with_reducible refine gate_callee (f := 13) rfl ?_); refine goesL_ (some 231) rfl rfl Tryd.func13 (by kernel_rfl) rfl #[.string t319] rfl (by (try simp only [List.map_toArray, List.map_cons, List.map_nil]); first | done | rfl | (simp only [List.length_drop, List.length_take]; rfl)) ?_; (with_reducible refine (impl_ReadFix.calls kj112 t319 t320 t321 true _ (laidC_b HT.out (by repeat (first | (with_reducible first | exact HB.out | apply below_alloc | apply pw_below_drewN | apply below_drew1) | exact HB.out))) A145.out).mono ?_); rintro e w152 ⟨rfl, hb⟩; refine ⟨_, rfl, ?_⟩; have n0_ := Aside0.mk (below_step (by repeat (first | (with_reducible first | exact HB.out | apply below_alloc | apply pw_below_drewN | apply below_drew1) | exact HB.out)) hb); clear HB; have HB := n0_; clear n0_; (try clear hb); (try clear hb2); (try clear hk); (try clear hi)) | ((with_reducible refine gate_callee (f := 15) rfl ?_); refine goesL_ (some 238) rfl rfl Tryd.func15 (by kernel_rfl) rfl #[.int .i64 t294, .int .i64 t318] rfl (by (try simp only [List.map_toArray, List.map_cons, List.map_nil]); first | done | rfl | (simp only [List.length_drop, List.length_take]; rfl)) ?_; (with_reducible refine (impl_TextUp.calls kj112 t294 t318 t323 _ (laidC_b HT.out (by repeat (first | (with_reducible first | exact HB.out | apply below_alloc | apply pw_below_drewN | apply below_drew1) | exact HB.out))) A146.out).mono ?_); rintro e w153 ⟨rfl, hb⟩; refine ⟨_, rfl, ?_⟩; have n0_ := Aside0.mk (below_step (by repeat (first | (with_reducible first | exact HB.out | apply below_alloc | apply pw_below_drewN | apply below_drew1) | exact HB.out)) hb); clear HB; have HB := n0_; clear n0_; (try clear hb); (try clear hb2); (try clear hk); (try clear hi)) | ((with_reducible refine gate_callee (f := 13) rfl ?_); refine goesL_ (some 239) rfl rfl Tryd.func13 (by kernel_rfl) rfl #[.string t323] rfl (by (try simp only [List.map_toArray, List.map_cons, List.map_nil]); first | done | rfl | (simp only [List.length_drop, List.length_take]; rfl)) ?_; (with_reducible refine (impl_ReadFix.calls kj112 t323 t324 t325 true _ (laidC_b HT.out (by repeat (first | (with_reducible first | exact HB.out | apply below_alloc | apply pw_below_drewN | apply below_drew1) | exact HB.out))) A147.out).mono ?_); rintro e w154 ⟨rfl, hb⟩; refine ⟨_, rfl, ?_⟩; have n0_ := Aside0.mk (below_step (by repeat (first | (with_reducible first | exact HB.out | apply below_alloc | apply pw_below_drewN | apply below_drew1) | exact HB.out)) hb); clear HB; have HB := n0_; clear n0_; (try clear hb); (try clear hb2); (try clear hk); (try clear hi)))
                                               go_ret
                                               exact ⟨by first | rfl | (simp [errW_none, errW_some] <;> rfl) | (simp [*, errW_none, errW_some] <;> rfl), by repeat (first | (with_reducible first | exact HB.out | apply below_alloc | apply pw_below_drewN | apply below_drew1) | exact HB.out)⟩)
                                          · rw [if_neg c150] at H
                                            have c150b0 : decide (t320 ≤ t294) = false := decide_eq_false c150
                                            clear c150
                                            first
                                            | exact absurd (Option.some.inj H) (by decide)
                                            | (have hr_ := Option.some.inj H
                                               clear H
                                               go_wp2_with (first | ((with_reducible refine gate_callee (f := 12) rfl ?_); refine goesL_ (some 226) rfl rfl Tryd.func12 (by kernel_rfl) rfl #[.slice A1 l1.length c1, .int .i64 0, .int .i64 10] rfl (by (try simp only [List.map_toArray, List.map_cons, List.map_nil]); first | done | rfl | (simp only [List.length_drop, List.length_take]; rfl)) ?_; (with_reducible refine (laws_a2At.calls _ _ l1 0 10 t318 _ ?side1 ?side2 A143.out).mono ?_); (case side1 => repeat (first | exact (Kd.C_below HR1.out HB.out) | (with_reducible refine Kd.C_alloc ?_ _) | (with_reducible refine Kd.C_drewN ?_ _) | (with_reducible refine Kd.C_drew ?_))); (case side2 => exact HC1.out); rintro e w' ⟨rfl, ⟨nd, rfl⟩⟩; refine ⟨_, rfl, ?_⟩) | ((with_reducible refine gate_callee (f := 14) rfl ?_); refine goesL_ (some 230) rfl rfl Tryd.func14 (by kernel_rfl) rfl #[.int .i64 t294, .int .i64 t318] rfl (by (try simp only [List.map_toArray, List.map_cons, List.map_nil]); first | done | rfl | (simp only [List.length_drop, List.length_take]; rfl)) ?_; (with_reducible refine (impl_TextDown.calls kj112 t294 t318 t319 _ (laidC_b HT.out (by repeat (first | (with_reducible first | exact HB.out | apply below_alloc | apply pw_below_drewN | apply below_drew1) | exact HB.out))) A144.out).mono ?_); rintro e w155 ⟨rfl, hb⟩; refine ⟨_, rfl, ?_⟩; have n0_ := Aside0.mk (below_step (by repeat (first | (with_reducible first | exact HB.out | apply below_alloc | apply pw_below_drewN | apply below_drew1) | exact HB.out)) hb); clear HB; have HB := n0_; clear n0_; (try clear hb); (try clear hb2); (try clear hk); (try clear hi)) | ((with_reducible refine gate_callee (f := 13) rfl ?_); refine goesL_ (some 231) rfl rfl Tryd.func13 (by kernel_rfl) rfl #[.string t319] rfl (by (try simp only [List.map_toArray, List.map_cons, List.map_nil]); first | done | rfl | (simp only [List.length_drop, List.length_take]; rfl)) ?_; (with_reducible refine (impl_ReadFix.calls kj112 t319 t320 t321 true _ (laidC_b HT.out (by repeat (first | (with_reducible first | exact HB.out | apply below_alloc | apply pw_below_drewN | apply below_drew1) | exact HB.out))) A145.out).mono ?_); rintro e w156 ⟨rfl, hb⟩; refine ⟨_, rfl, ?_⟩; have n0_ := Aside0.mk (below_step (by repeat (first | (with_reducible first | exact HB.out | apply below_alloc | apply pw_below_drewN | apply below_drew1) | exact HB.out)) hb); clear HB; have HB := n0_; clear n0_; (try clear hb); (try clear hb2); (try clear hk); (try clear hi)) | ((with_reducible refine gate_callee (f := 15) rfl ?_); refine goesL_ (some 238) rfl rfl Tryd.func15 (by kernel_rfl) rfl #[.int .i64 t294, .int .i64 t318] rfl (by (try simp only [List.map_toArray, List.map_cons, List.map_nil]); first | done | rfl | (simp only [List.length_drop, List.length_take]; rfl)) ?_; (with_reducible refine (impl_TextUp.calls kj112 t294 t318 t323 _ (laidC_b HT.out (by repeat (first | (with_reducible first | exact HB.out | apply below_alloc | apply pw_below_drewN | apply below_drew1) | exact HB.out))) A146.out).mono ?_); rintro e w157 ⟨rfl, hb⟩; refine ⟨_, rfl, ?_⟩; have n0_ := Aside0.mk (below_step (by repeat (first | (with_reducible first | exact HB.out | apply below_alloc | apply pw_below_drewN | apply below_drew1) | exact HB.out)) hb); clear HB; have HB := n0_; clear n0_; (try clear hb); (try clear hb2); (try clear hk); (try clear hi)) | ((with_reducible refine gate_callee (f := 13) rfl ?_); refine goesL_ (some 239) rfl rfl Tryd.func13 (by kernel_rfl) rfl #[.string t323] rfl (by (try simp only [List.map_toArray, List.map_cons, List.map_nil]); first | done | rfl | (simp only [List.length_drop, List.length_take]; rfl)) ?_; (with_reducible refine (impl_ReadFix.calls kj112 t323 t324 t325 true _ (laidC_b HT.out (by repeat (first | (with_reducible first | exact HB.out | apply below_alloc | apply pw_below_drewN | apply below_drew1) | exact HB.out))) A147.out).mono ?_); rintro e w158 ⟨rfl, hb⟩; refine ⟨_, rfl, ?_⟩; have n0_ := Aside0.mk (below_step (by repeat (first | (with_reducible first | exact HB.out | apply below_alloc | apply pw_below_drewN | apply below_drew1) | exact HB.out)) hb); clear HB; have HB := n0_; clear n0_; (try clear hb); (try clear hb2); (try clear hk); (try clear hi)))
                                               go_ret
                                               exact ⟨by first | rfl | (simp [errW_none, errW_some] <;> rfl) | (simp [*, errW_none, errW_some] <;> rfl), by repeat (first | (with_reducible first | exact HB.out | apply below_alloc | apply pw_below_drewN | apply below_drew1) | exact HB.out)⟩)
                                        · replace c149 := Bool.eq_false_iff.mpr c149
                                          subst c149
                                          have H1 : (some false) = some true := by rw [if_neg (show ¬ (false = true) by decide)] at H; exact H
                                          clear H
                                          have H := H1
                                          clear H1
                                          first
                                          | exact absurd (Option.some.inj H) (by decide)
                                          | (have hr_ := Option.some.inj H
                                             clear H
                                             go_wp2_with (first | ((with_reducible refine gate_callee (f := 12) rfl ?_); refine goesL_ (some 226) rfl rfl Tryd.func12 (by kernel_rfl) rfl #[.slice A1 l1.length c1, .int .i64 0, .int .i64 10] rfl (by (try simp only [List.map_toArray, List.map_cons, List.map_nil]); first | done | rfl | (simp only [List.length_drop, List.length_take]; rfl)) ?_; (with_reducible refine (laws_a2At.calls _ _ l1 0 10 t318 _ ?side1 ?side2 A143.out).mono ?_); (case side1 => repeat (first | exact (Kd.C_below HR1.out HB.out) | (with_reducible refine Kd.C_alloc ?_ _) | (with_reducible refine Kd.C_drewN ?_ _) | (with_reducible refine Kd.C_drew ?_))); (case side2 => exact HC1.out); rintro e w' ⟨rfl, ⟨nd, rfl⟩⟩; refine ⟨_, rfl, ?_⟩) | ((with_reducible refine gate_callee (f := 14) rfl ?_); refine goesL_ (some 230) rfl rfl Tryd.func14 (by kernel_rfl) rfl #[.int .i64 t294, .int .i64 t318] rfl (by (try simp only [List.map_toArray, List.map_cons, List.map_nil]); first | done | rfl | (simp only [List.length_drop, List.length_take]; rfl)) ?_; (with_reducible refine (impl_TextDown.calls kj112 t294 t318 t319 _ (laidC_b HT.out (by repeat (first | (with_reducible first | exact HB.out | apply below_alloc | apply pw_below_drewN | apply below_drew1) | exact HB.out))) A144.out).mono ?_); rintro e w159 ⟨rfl, hb⟩; refine ⟨_, rfl, ?_⟩; have n0_ := Aside0.mk (below_step (by repeat (first | (with_reducible first | exact HB.out | apply below_alloc | apply pw_below_drewN | apply below_drew1) | exact HB.out)) hb); clear HB; have HB := n0_; clear n0_; (try clear hb); (try clear hb2); (try clear hk); (try clear hi)) | ((with_reducible refine gate_callee (f := 13) rfl ?_); refine goesL_ (some 231) rfl rfl Tryd.func13 (by kernel_rfl) rfl #[.string t319] rfl (by (try simp only [List.map_toArray, List.map_cons, List.map_nil]); first | done | rfl | (simp only [List.length_drop, List.length_take]; rfl)) ?_; (with_reducible refine (impl_ReadFix.calls kj112 t319 t320 t321 true _ (laidC_b HT.out (by repeat (first | (with_reducible first | exact HB.out | apply below_alloc | apply pw_below_drewN | apply below_drew1) | exact HB.out))) A145.out).mono ?_); rintro e w160 ⟨rfl, hb⟩; refine ⟨_, rfl, ?_⟩; have n0_ := Aside0.mk (below_step (by repeat (first | (with_reducible first | exact HB.out | apply below_alloc | apply pw_below_drewN | apply below_drew1) | exact HB.out)) hb); clear HB; have HB := n0_; clear n0_; (try clear hb); (try clear hb2); (try clear hk); (try clear hi)) | ((with_reducible refine gate_callee (f := 15) rfl ?_); refine goesL_ (some 238) rfl rfl Tryd.func15 (by kernel_rfl) rfl #[.int .i64 t294, .int .i64 t318] rfl (by (try simp only [List.map_toArray, List.map_cons, List.map_nil]); first | done | rfl | (simp only [List.length_drop, List.length_take]; rfl)) ?_; (with_reducible refine (impl_TextUp.calls kj112 t294 t318 t323 _ (laidC_b HT.out (by repeat (first | (with_reducible first | exact HB.out | apply below_alloc | apply pw_below_drewN | apply below_drew1) | exact HB.out))) A146.out).mono ?_); rintro e w161 ⟨rfl, hb⟩; refine ⟨_, rfl, ?_⟩; have n0_ := Aside0.mk (below_step (by repeat (first | (with_reducible first | exact HB.out | apply below_alloc | apply pw_below_drewN | apply below_drew1) | exact HB.out)) hb); clear HB; have HB := n0_; clear n0_; (try clear hb); (try clear hb2); (try clear hk); (try clear hi)) | ((with_reducible refine gate_callee (f := 13) rfl ?_); refine goesL_ (some 239) rfl rfl Tryd.func13 (by kernel_rfl) rfl #[.string t323] rfl (by (try simp only [List.map_toArray, List.map_cons, List.map_nil]); first | done | rfl | (simp only [List.length_drop, List.length_take]; rfl)) ?_; (with_reducible refine (impl_ReadFix.calls kj112 t323 t324 t325 false _ (laidC_b HT.out (by repeat (first | (with_reducible first | exact HB.out | apply below_alloc | apply pw_below_drewN | apply below_drew1) | exact HB.out))) A147.out).mono ?_); rintro e w162 ⟨rfl, hb⟩; refine ⟨_, rfl, ?_⟩; have n0_ := Aside0.mk (below_step (by repeat (first | (with_reducible first | exact HB.out | apply below_alloc | apply pw_below_drewN | apply below_drew1) | exact HB.out)) hb); clear HB; have HB := n0_; clear n0_; (try clear hb); (try clear hb2); (try clear hk); (try clear hi)))
                                             go_ret
                                             exact ⟨by first | rfl | (simp [errW_none, errW_some] <;> rfl) | (simp [*, errW_none, errW_some] <;> rfl), by repeat (first | (with_reducible first | exact HB.out | apply below_alloc | apply pw_below_drewN | apply below_drew1) | exact HB.out)⟩)
                                      · replace c148 := Bool.eq_false_iff.mpr c148
                                        subst c148
                                        have H1 : (some false) = some true := by rw [if_neg (show ¬ (false = true) by decide)] at H; exact H
                                        clear H
                                        have H := H1
                                        clear H1
                                        first
                                        | exact absurd (Option.some.inj H) (by decide)
                                        | (have hr_ := Option.some.inj H
                                           clear H
                                           go_wp2_with (first | ((with_reducible refine gate_callee (f := 12) rfl ?_); refine goesL_ (some 226) rfl rfl Tryd.func12 (by kernel_rfl) rfl #[.slice A1 l1.length c1, .int .i64 0, .int .i64 10] rfl (by (try simp only [List.map_toArray, List.map_cons, List.map_nil]); first | done | rfl | (simp only [List.length_drop, List.length_take]; rfl)) ?_; (with_reducible refine (laws_a2At.calls _ _ l1 0 10 t318 _ ?side1 ?side2 A143.out).mono ?_); (case side1 => repeat (first | exact (Kd.C_below HR1.out HB.out) | (with_reducible refine Kd.C_alloc ?_ _) | (with_reducible refine Kd.C_drewN ?_ _) | (with_reducible refine Kd.C_drew ?_))); (case side2 => exact HC1.out); rintro e w' ⟨rfl, ⟨nd, rfl⟩⟩; refine ⟨_, rfl, ?_⟩) | ((with_reducible refine gate_callee (f := 14) rfl ?_); refine goesL_ (some 230) rfl rfl Tryd.func14 (by kernel_rfl) rfl #[.int .i64 t294, .int .i64 t318] rfl (by (try simp only [List.map_toArray, List.map_cons, List.map_nil]); first | done | rfl | (simp only [List.length_drop, List.length_take]; rfl)) ?_; (with_reducible refine (impl_TextDown.calls kj112 t294 t318 t319 _ (laidC_b HT.out (by repeat (first | (with_reducible first | exact HB.out | apply below_alloc | apply pw_below_drewN | apply below_drew1) | exact HB.out))) A144.out).mono ?_); rintro e w163 ⟨rfl, hb⟩; refine ⟨_, rfl, ?_⟩; have n0_ := Aside0.mk (below_step (by repeat (first | (with_reducible first | exact HB.out | apply below_alloc | apply pw_below_drewN | apply below_drew1) | exact HB.out)) hb); clear HB; have HB := n0_; clear n0_; (try clear hb); (try clear hb2); (try clear hk); (try clear hi)) | ((with_reducible refine gate_callee (f := 13) rfl ?_); refine goesL_ (some 231) rfl rfl Tryd.func13 (by kernel_rfl) rfl #[.string t319] rfl (by (try simp only [List.map_toArray, List.map_cons, List.map_nil]); first | done | rfl | (simp only [List.length_drop, List.length_take]; rfl)) ?_; (with_reducible refine (impl_ReadFix.calls kj112 t319 t320 t321 false _ (laidC_b HT.out (by repeat (first | (with_reducible first | exact HB.out | apply below_alloc | apply pw_below_drewN | apply below_drew1) | exact HB.out))) A145.out).mono ?_); rintro e w164 ⟨rfl, hb⟩; refine ⟨_, rfl, ?_⟩; have n0_ := Aside0.mk (below_step (by repeat (first | (with_reducible first | exact HB.out | apply below_alloc | apply pw_below_drewN | apply below_drew1) | exact HB.out)) hb); clear HB; have HB := n0_; clear n0_; (try clear hb); (try clear hb2); (try clear hk); (try clear hi)) | ((with_reducible refine gate_callee (f := 15) rfl ?_); refine goesL_ (some 238) rfl rfl Tryd.func15 (by kernel_rfl) rfl #[.int .i64 t294, .int .i64 t318] rfl (by (try simp only [List.map_toArray, List.map_cons, List.map_nil]); first | done | rfl | (simp only [List.length_drop, List.length_take]; rfl)) ?_; (with_reducible refine (impl_TextUp.calls kj112 t294 t318 t323 _ (laidC_b HT.out (by repeat (first | (with_reducible first | exact HB.out | apply below_alloc | apply pw_below_drewN | apply below_drew1) | exact HB.out))) A146.out).mono ?_); rintro e w165 ⟨rfl, hb⟩; refine ⟨_, rfl, ?_⟩; have n0_ := Aside0.mk (below_step (by repeat (first | (with_reducible first | exact HB.out | apply below_alloc | apply pw_below_drewN | apply below_drew1) | exact HB.out)) hb); clear HB; have HB := n0_; clear n0_; (try clear hb); (try clear hb2); (try clear hk); (try clear hi)) | ((with_reducible refine gate_callee (f := 13) rfl ?_); refine goesL_ (some 239) rfl rfl Tryd.func13 (by kernel_rfl) rfl #[.string t323] rfl (by (try simp only [List.map_toArray, List.map_cons, List.map_nil]); first | done | rfl | (simp only [List.length_drop, List.length_take]; rfl)) ?_; (with_reducible refine (impl_ReadFix.calls kj112 t323 t324 t325 t326 _ (laidC_b HT.out (by repeat (first | (with_reducible first | exact HB.out | apply below_alloc | apply pw_below_drewN | apply below_drew1) | exact HB.out))) A147.out).mono ?_); rintro e w166 ⟨rfl, hb⟩; refine ⟨_, rfl, ?_⟩; have n0_ := Aside0.mk (below_step (by repeat (first | (with_reducible first | exact HB.out | apply below_alloc | apply pw_below_drewN | apply below_drew1) | exact HB.out)) hb); clear HB; have HB := n0_; clear n0_; (try clear hb); (try clear hb2); (try clear hk); (try clear hi)))
                                           go_ret
                                           exact ⟨by first | rfl | (simp [errW_none, errW_some] <;> rfl) | (simp [*, errW_none, errW_some] <;> rfl), by repeat (first | (with_reducible first | exact HB.out | apply below_alloc | apply pw_below_drewN | apply below_drew1) | exact HB.out)⟩)
          
/-- THE ONE PURE STATEMENT of laws_FnFixed: yours. -/
theorem laws_FnFixed.walk (P : laws_FnFixed.Pure) (a0 : Option Addr) (len0 cap0 : Nat) (z0 : List Int) (a1 : Option Addr) (len1 cap1 : Nat) (z1 : List Int) (w : World) (HT : Hid (LaidC w)) (w0 : (a0 = none ∧ len0 = 0 ∧ cap0 = 0 ∧ z0 = []) ∨ ∃ x, a0 = some x ∧ len0 ≤ cap0 ∧ cap0 ≤ maxLen ∧ z0.length = cap0 ∧ (∀ i, i < z0.length → w.cell? (x.add i) = some (.int .u8 (z0.getD i 0))) ∧ ∀ n ∈ z0, (Lit.int .u8 n).wf = true) (y0 : len0 * 1 ≤ 140737488351232) (w1 : (a1 = none ∧ len1 = 0 ∧ cap1 = 0 ∧ z1 = []) ∨ ∃ x, a1 = some x ∧ len1 ≤ cap1 ∧ cap1 ≤ maxLen ∧ z1.length = cap1 ∧ (∀ i, i < z1.length → w.cell? (x.add i) = some (.int .u8 (z1.getD i 0))) ∧ ∀ n ∈ z1, (Lit.int .u8 n).wf = true) (y1 : len1 * 1 ≤ 140737488351232) :
    Calls Tryd.prog 3 #[.slice a0 len0 cap0, .slice a1 len1 cap1] w fun e w' => e = .returned (.bool true) ∧ Below w.heap.size w w' := by
  obtain ⟨l0, rfl, hr0, hm0, hw0, hc0⟩ := ReadsInt.ofRowC w0
  obtain ⟨l1, rfl, hr1, hm1, hw1, hc1⟩ := ReadsInt.ofRowC w1
  obtain ⟨k, h⟩ := P l0 l1 hm0 y0 hw0 hm1 y1 hw1
  refine (laws_FnFixed.calls k _ _ l0 _ _ l1 w HT (Kd.C_of_reads (d := (0 : Int)) (h1 := fun _ => rfl) hr0) hc0 (Kd.C_of_reads (d := (0 : Int)) (h1 := fun _ => rfl) hr1) hc1 h).mono ?_
  rintro e w' ⟨rfl, hd⟩
  exact ⟨rfl, hd⟩

end Go.Proofs.YtnlmndhmjceajaaDoor.PFnFixed
