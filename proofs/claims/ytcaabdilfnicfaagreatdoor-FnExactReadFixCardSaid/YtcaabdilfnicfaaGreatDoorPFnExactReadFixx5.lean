/- Functions that a law reaches, as Lean functions, and that the Go text's calls come to just these; no condition but that the Lean function's value is told. (Written by the kit's print.py over contracts of this session.) -/
import Derived.Test.YtcaabdilfnicfaaGreatDoorPFnExactReadFixx0
import Derived.Test.YtcaabdilfnicfaaGreatDoorPFnExactReadFixx2
import Derived.Test.YtcaabdilfnicfaaGreatDoorPFnExactReadFixx3
import Derived.Test.YtcaabdilfnicfaaGreatDoorPFnExactReadFixx4
namespace Go.Proofs.YtcaabdilfnicfaaGreatDoor.PFnExactReadFix
open Go.RowKit Go.Proofs.YtcaabdilfnicfaaGreatDoor.Ext Go.Proofs.YtcaabdilfnicfaaGreatDoorW.PrintWords Go.Proofs.YtcaabdilfnicfaaGreatDoorW.PrintLast Go.Proofs.YtcaabdilfnicfaaGreatDoorW.PrintMore
attribute [local go_sem] max2_int min2_int max_two min_two max_three min_three max_four min_four   -- for this text's walks alone
set_option linter.unusedVariables false
set_option linter.unusedSimpArgs false

/-! ### spec_l03Floor: function 12 -/
def spec_l03Floor.f (k : Nat) (a0 : Int) (a1 : Int) : Option (Int × Bool) := if a1 ≤ 0 then (some (0, false)) else ((spec_MulDivFloor.f k a0 4294967296 a1).bind fun bt168 => ((spec_l03End.f bt168.1 bt168.2).bind fun bt170 => (some (bt170.1, bt170.2))))
theorem spec_l03Floor.mono : ∀ a0 a1 k, LeO (spec_l03Floor.f k a0 a1) (spec_l03Floor.f (k + 1) a0 a1) := by
  intro a0 a1 k
  unfold spec_l03Floor.f
  repeat' first
      | (with_reducible exact spec_MulDivFloor.mono _ _ _ _)
      | (with_reducible exact LeO.refl _)
      | (with_reducible exact LeO.none _)
      | (with_reducible refine LeO.ite ?_ ?_)
      | (with_reducible refine LeO.bind ?_ (fun _ => ?_))
      | exact spec_MulDivFloor.mono _ _ _ _
      | exact LeO.none _
      | refine LeO.ite ?_ ?_
      | refine LeO.bind ?_ (fun _ => ?_)
set_option maxHeartbeats 8000000 in
set_option maxRecDepth 100000 in
theorem spec_l03Floor.calls (k : Nat) (a0 : Int) (a1 : Int) (r1 : Int) (r2 : Bool) (w : World) (h : spec_l03Floor.f k a0 a1 = some (r1, r2)) :
    Calls Tryz.prog 12 #[.int .i64 a0, .int .i64 a1] w fun e w' => e = .returned (.tuple #[.int .i64 r1, .bool r2]) ∧ Below w.heap.size w w' := by
  have HB := Aside0.mk (Below.refl w.heap.size w)
  have H : (if a1 ≤ 0 then (some (0, false)) else ((spec_MulDivFloor.f k a0 4294967296 a1).bind fun bt168 => ((spec_l03End.f bt168.1 bt168.2).bind fun bt170 => (some (bt170.1, bt170.2))))) = some (r1, r2) := h
  clear h
  by_cases c3 : a1 ≤ 0
  · rw [if_pos c3] at H
    have c3b0 : decide (a1 ≤ 0) = true := decide_eq_true c3
    clear c3
    simp only [Option.some.injEq, Prod.mk.injEq] at H
    obtain ⟨rfl, rfl⟩ := H
    go_enter Tryz.func12, Tryz.ntmps12
    go_wp2
    go_ret2
    exact ⟨by first | rfl | (simp [errW_none, errW_some] <;> rfl) | (simp [*, errW_none, errW_some] <;> rfl), by repeat (first | (with_reducible first | exact HB.out | apply below_alloc | apply pw_below_drewN | apply below_drew1) | exact HB.out)⟩
  · rw [if_neg c3] at H
    have c3b0 : decide (a1 ≤ 0) = false := decide_eq_false c3
    clear c3
    replace H := Option.bind_eq_some_iff.mp H
    obtain ⟨⟨t168, t169⟩, A40, H⟩ := H
    replace H : ((spec_l03End.f t168 t169).bind fun bt170 => (some (bt170.1, bt170.2))) = some (r1, r2) := H
    have A4 := Aside0.mk A40
    clear A40
    replace H := Option.bind_eq_some_iff.mp H
    obtain ⟨⟨t170, t171⟩, A50, H⟩ := H
    replace H : (some (t170, t171)) = some (r1, r2) := H
    have A5 := Aside0.mk A50
    clear A50
    simp only [Option.some.injEq, Prod.mk.injEq] at H
    obtain ⟨rfl, rfl⟩ := H
    go_enter Tryz.func12, Tryz.ntmps12
    go_wp2_with (first | ((with_reducible refine gate_callee (f := 25) rfl ?_); refine goesL_ (some 13) rfl rfl Tryz.func25 (by kernel_rfl) rfl #[.int .i64 a0, .int .i64 4294967296, .int .i64 a1] rfl (by (try simp only [List.map_toArray, List.map_cons, List.map_nil]); first | done | rfl | (simp only [List.length_drop, List.length_take]; rfl)) ?_; (with_reducible refine (spec_MulDivFloor.calls k a0 4294967296 a1 t168 t169 _ A4.out).mono ?_); rintro e w6 ⟨rfl, hb⟩; refine ⟨_, rfl, ?_⟩; have n0_ := Aside0.mk (below_step (by repeat (first | (with_reducible first | exact HB.out | apply below_alloc | apply pw_below_drewN | apply below_drew1) | exact HB.out)) hb); clear HB; have HB := n0_; clear n0_; (try clear hb); (try clear hb2); (try clear hk); (try clear hi)) | ((with_reducible refine gate_callee (f := 26) rfl ?_); refine goesL_ (some 18) rfl rfl Tryz.func26 (by kernel_rfl) rfl #[.int .i64 t168, .bool t169] rfl (by (try simp only [List.map_toArray, List.map_cons, List.map_nil]); first | done | rfl | (simp only [List.length_drop, List.length_take]; rfl)) ?_; (with_reducible refine (spec_l03End.calls t168 t169 t170 t171 _ A5.out).mono ?_); rintro e w' ⟨rfl, ⟨nd, rfl⟩⟩; refine ⟨_, rfl, ?_⟩))
    go_ret2
    exact ⟨by first | rfl | (simp [errW_none, errW_some] <;> rfl) | (simp [*, errW_none, errW_some] <;> rfl), by repeat (first | (with_reducible first | exact HB.out | apply below_alloc | apply pw_below_drewN | apply below_drew1) | exact HB.out)⟩

/-! ### spec_l03Ceil: function 14 -/
def spec_l03Ceil.f (k : Nat) (a0 : Int) (a1 : Int) : Option (Int × Bool) := if a1 ≤ 0 then (some (0, false)) else ((spec_MulDivFloor.f k a0 4294967296 a1).bind fun bt172 => (if bt172.2 = true then (if (wrap64 (bt172.1 * a1)) = (wrap64 (a0 * 4294967296)) then ((spec_l03End.f bt172.1 true).bind fun bt174 => (some (bt174.1, bt174.2))) else ((spec_l03End.f (wrap64 (bt172.1 + 1)) true).bind fun bt176 => (some (bt176.1, bt176.2)))) else (some (0, false))))
theorem spec_l03Ceil.mono : ∀ a0 a1 k, LeO (spec_l03Ceil.f k a0 a1) (spec_l03Ceil.f (k + 1) a0 a1) := by
  intro a0 a1 k
  unfold spec_l03Ceil.f
  repeat' first
      | (with_reducible exact spec_MulDivFloor.mono _ _ _ _)
      | (with_reducible exact LeO.refl _)
      | (with_reducible exact LeO.none _)
      | (with_reducible refine LeO.ite ?_ ?_)
      | (with_reducible refine LeO.bind ?_ (fun _ => ?_))
      | exact spec_MulDivFloor.mono _ _ _ _
      | exact LeO.none _
      | refine LeO.ite ?_ ?_
      | refine LeO.bind ?_ (fun _ => ?_)
set_option maxHeartbeats 8000000 in
set_option maxRecDepth 100000 in
theorem spec_l03Ceil.calls (k : Nat) (a0 : Int) (a1 : Int) (r1 : Int) (r2 : Bool) (w : World) (h : spec_l03Ceil.f k a0 a1 = some (r1, r2)) :
    Calls Tryz.prog 14 #[.int .i64 a0, .int .i64 a1] w fun e w' => e = .returned (.tuple #[.int .i64 r1, .bool r2]) ∧ Below w.heap.size w w' := by
  have HB := Aside0.mk (Below.refl w.heap.size w)
  have H : (if a1 ≤ 0 then (some (0, false)) else ((spec_MulDivFloor.f k a0 4294967296 a1).bind fun bt172 => (if bt172.2 = true then (if (wrap64 (bt172.1 * a1)) = (wrap64 (a0 * 4294967296)) then ((spec_l03End.f bt172.1 true).bind fun bt174 => (some (bt174.1, bt174.2))) else ((spec_l03End.f (wrap64 (bt172.1 + 1)) true).bind fun bt176 => (some (bt176.1, bt176.2)))) else (some (0, false))))) = some (r1, r2) := h
  clear h
  by_cases c3 : a1 ≤ 0
  · rw [if_pos c3] at H
    have c3b0 : decide (a1 ≤ 0) = true := decide_eq_true c3
    clear c3
    simp only [Option.some.injEq, Prod.mk.injEq] at H
    obtain ⟨rfl, rfl⟩ := H
    go_enter Tryz.func14, Tryz.ntmps14
    go_wp2
    go_ret2
    exact ⟨by first | rfl | (simp [errW_none, errW_some] <;> rfl) | (simp [*, errW_none, errW_some] <;> rfl), by repeat (first | (with_reducible first | exact HB.out | apply below_alloc | apply pw_below_drewN | apply below_drew1) | exact HB.out)⟩
  · rw [if_neg c3] at H
    have c3b0 : decide (a1 ≤ 0) = false := decide_eq_false c3
    clear c3
    replace H := Option.bind_eq_some_iff.mp H
    obtain ⟨⟨t172, t173⟩, A40, H⟩ := H
    replace H : (if t173 = true then (if (wrap64 (t172 * a1)) = (wrap64 (a0 * 4294967296)) then ((spec_l03End.f t172 true).bind fun bt174 => (some (bt174.1, bt174.2))) else ((spec_l03End.f (wrap64 (t172 + 1)) true).bind fun bt176 => (some (bt176.1, bt176.2)))) else (some (0, false))) = some (r1, r2) := H
    have A4 := Aside0.mk A40
    clear A40
    by_cases c5 : t173 = true
    · subst c5
      have H1 : (if (wrap64 (t172 * a1)) = (wrap64 (a0 * 4294967296)) then ((spec_l03End.f t172 true).bind fun bt174 => (some (bt174.1, bt174.2))) else ((spec_l03End.f (wrap64 (t172 + 1)) true).bind fun bt176 => (some (bt176.1, bt176.2)))) = some (r1, r2) := by rw [if_pos rfl] at H; exact H
      clear H
      have H := H1
      clear H1
      by_cases c6 : (wrap64 (t172 * a1)) = (wrap64 (a0 * 4294967296))
      · rw [if_pos c6] at H
        have c6b0 : ((wrap64 (t172 * a1)) == (wrap64 (a0 * 4294967296))) = true := beq_iff_eq.mpr c6
        have c6b1 : ((wrap64 (t172 * a1)) != (wrap64 (a0 * 4294967296))) = false := bne_eq_false_iff_eq.mpr c6
        clear c6
        replace H := Option.bind_eq_some_iff.mp H
        obtain ⟨⟨t174, t175⟩, A70, H⟩ := H
        replace H : (some (t174, t175)) = some (r1, r2) := H
        have A7 := Aside0.mk A70
        clear A70
        simp only [Option.some.injEq, Prod.mk.injEq] at H
        obtain ⟨rfl, rfl⟩ := H
        go_enter Tryz.func14, Tryz.ntmps14
        go_wp2_with (first | ((with_reducible refine gate_callee (f := 25) rfl ?_); refine goesL_ (some 13) rfl rfl Tryz.func25 (by kernel_rfl) rfl #[.int .i64 a0, .int .i64 4294967296, .int .i64 a1] rfl (by (try simp only [List.map_toArray, List.map_cons, List.map_nil]); first | done | rfl | (simp only [List.length_drop, List.length_take]; rfl)) ?_; (with_reducible refine (spec_MulDivFloor.calls k a0 4294967296 a1 t172 true _ A4.out).mono ?_); rintro e w8 ⟨rfl, hb⟩; refine ⟨_, rfl, ?_⟩; have n0_ := Aside0.mk (below_step (by repeat (first | (with_reducible first | exact HB.out | apply below_alloc | apply pw_below_drewN | apply below_drew1) | exact HB.out)) hb); clear HB; have HB := n0_; clear n0_; (try clear hb); (try clear hb2); (try clear hk); (try clear hi)) | ((with_reducible refine gate_callee (f := 26) rfl ?_); refine goesL_ (some 27) rfl rfl Tryz.func26 (by kernel_rfl) rfl #[.int .i64 t172, .bool true] rfl (by (try simp only [List.map_toArray, List.map_cons, List.map_nil]); first | done | rfl | (simp only [List.length_drop, List.length_take]; rfl)) ?_; (with_reducible refine (spec_l03End.calls t172 true t174 t175 _ A7.out).mono ?_); rintro e w' ⟨rfl, ⟨nd, rfl⟩⟩; refine ⟨_, rfl, ?_⟩))
        go_ret2
        exact ⟨by first | rfl | (simp [errW_none, errW_some] <;> rfl) | (simp [*, errW_none, errW_some] <;> rfl), by repeat (first | (with_reducible first | exact HB.out | apply below_alloc | apply pw_below_drewN | apply below_drew1) | exact HB.out)⟩
      · rw [if_neg c6] at H
        have c6b0 : ((wrap64 (t172 * a1)) == (wrap64 (a0 * 4294967296))) = false := beq_eq_false_iff_ne.mpr c6
        have c6b1 : ((wrap64 (t172 * a1)) != (wrap64 (a0 * 4294967296))) = true := bne_iff_ne.mpr c6
        replace H := Option.bind_eq_some_iff.mp H
        obtain ⟨⟨t176, t177⟩, A90, H⟩ := H
        replace H : (some (t176, t177)) = some (r1, r2) := H
        have A9 := Aside0.mk A90
        clear A90
        simp only [Option.some.injEq, Prod.mk.injEq] at H
        obtain ⟨rfl, rfl⟩ := H
        go_enter Tryz.func14, Tryz.ntmps14
        go_wp2_with (first | ((with_reducible refine gate_callee (f := 25) rfl ?_); refine goesL_ (some 13) rfl rfl Tryz.func25 (by kernel_rfl) rfl #[.int .i64 a0, .int .i64 4294967296, .int .i64 a1] rfl (by (try simp only [List.map_toArray, List.map_cons, List.map_nil]); first | done | rfl | (simp only [List.length_drop, List.length_take]; rfl)) ?_; (with_reducible refine (spec_MulDivFloor.calls k a0 4294967296 a1 t172 true _ A4.out).mono ?_); rintro e w10 ⟨rfl, hb⟩; refine ⟨_, rfl, ?_⟩; have n0_ := Aside0.mk (below_step (by repeat (first | (with_reducible first | exact HB.out | apply below_alloc | apply pw_below_drewN | apply below_drew1) | exact HB.out)) hb); clear HB; have HB := n0_; clear n0_; (try clear hb); (try clear hb2); (try clear hk); (try clear hi)) | ((with_reducible refine gate_callee (f := 26) rfl ?_); refine goesL_ (some 27) rfl rfl Tryz.func26 (by kernel_rfl) rfl #[.int .i64 (wrap64 (t172 + 1)), .bool true] rfl (by (try simp only [List.map_toArray, List.map_cons, List.map_nil]); first | done | rfl | (simp only [List.length_drop, List.length_take]; rfl)) ?_; (with_reducible refine (spec_l03End.calls (wrap64 (t172 + 1)) true t176 t177 _ A9.out).mono ?_); rintro e w' ⟨rfl, ⟨nd, rfl⟩⟩; refine ⟨_, rfl, ?_⟩))
        go_ret2
        exact ⟨by first | rfl | (simp [errW_none, errW_some] <;> rfl) | (simp [*, errW_none, errW_some] <;> rfl), by repeat (first | (with_reducible first | exact HB.out | apply below_alloc | apply pw_below_drewN | apply below_drew1) | exact HB.out)⟩
    · replace c5 := Bool.eq_false_iff.mpr c5
      subst c5
      have H1 : (some (0, false)) = some (r1, r2) := by rw [if_neg (show ¬ (false = true) by decide)] at H; exact H
      clear H
      have H := H1
      clear H1
      simp only [Option.some.injEq, Prod.mk.injEq] at H
      obtain ⟨rfl, rfl⟩ := H
      go_enter Tryz.func14, Tryz.ntmps14
      go_wp2_with (first | ((with_reducible refine gate_callee (f := 25) rfl ?_); refine goesL_ (some 13) rfl rfl Tryz.func25 (by kernel_rfl) rfl #[.int .i64 a0, .int .i64 4294967296, .int .i64 a1] rfl (by (try simp only [List.map_toArray, List.map_cons, List.map_nil]); first | done | rfl | (simp only [List.length_drop, List.length_take]; rfl)) ?_; (with_reducible refine (spec_MulDivFloor.calls k a0 4294967296 a1 t172 false _ A4.out).mono ?_); rintro e w11 ⟨rfl, hb⟩; refine ⟨_, rfl, ?_⟩; have n0_ := Aside0.mk (below_step (by repeat (first | (with_reducible first | exact HB.out | apply below_alloc | apply pw_below_drewN | apply below_drew1) | exact HB.out)) hb); clear HB; have HB := n0_; clear n0_; (try clear hb); (try clear hb2); (try clear hk); (try clear hi)))
      go_ret2
      exact ⟨by first | rfl | (simp [errW_none, errW_some] <;> rfl) | (simp [*, errW_none, errW_some] <;> rfl), by repeat (first | (with_reducible first | exact HB.out | apply below_alloc | apply pw_below_drewN | apply below_drew1) | exact HB.out)⟩

/-! ### spec_l03ReadFix: function 6 -/
def spec_l03ReadFix.f (k : Nat) (a0 : ByteArray) : Option (Int × Int × Bool) := (spec_l03Read.f k a0).bind fun bt178 => (if bt178.2.2 = true then ((spec_l03Power.f k bt178.2.1).bind fun t181 => ((spec_l03Floor.f k bt178.1 t181).bind fun bt182 => ((spec_l03Power.f k bt178.2.1).bind fun t184 => ((spec_l03Ceil.f k bt178.1 t184).bind fun bt185 => (if bt182.2 = true then (if bt185.2 = true then (some (bt182.1, bt185.1, true)) else (some (0, 0, false))) else (some (0, 0, false))))))) else (some (0, 0, false)))
theorem spec_l03ReadFix.mono : ∀ a0 k, LeO (spec_l03ReadFix.f k a0) (spec_l03ReadFix.f (k + 1) a0) := by
  intro a0 k
  unfold spec_l03ReadFix.f
  repeat' first
      | (with_reducible exact spec_l03Ceil.mono _ _ _)
      | (with_reducible exact spec_l03Floor.mono _ _ _)
      | (with_reducible exact spec_l03Power.mono _ _)
      | (with_reducible exact spec_l03Read.mono _ _)
      | (with_reducible exact LeO.refl _)
      | (with_reducible exact LeO.none _)
      | (with_reducible refine LeO.ite ?_ ?_)
      | (with_reducible refine LeO.bind ?_ (fun _ => ?_))
      | exact spec_l03Ceil.mono _ _ _
      | exact spec_l03Floor.mono _ _ _
      | exact spec_l03Power.mono _ _
      | exact spec_l03Read.mono _ _
      | exact LeO.none _
      | refine LeO.ite ?_ ?_
      | refine LeO.bind ?_ (fun _ => ?_)
set_option maxHeartbeats 8000000 in
set_option maxRecDepth 100000 in
theorem spec_l03ReadFix.calls (k : Nat) (a0 : ByteArray) (r1 : Int) (r2 : Int) (r3 : Bool) (w : World) (h : spec_l03ReadFix.f k a0 = some (r1, r2, r3)) :
    Calls Tryz.prog 6 #[.string a0] w fun e w' => e = .returned (.tuple #[.int .i64 r1, .int .i64 r2, .bool r3]) ∧ Below w.heap.size w w' := by
  have HB := Aside0.mk (Below.refl w.heap.size w)
  have H : ((spec_l03Read.f k a0).bind fun bt178 => (if bt178.2.2 = true then ((spec_l03Power.f k bt178.2.1).bind fun t181 => ((spec_l03Floor.f k bt178.1 t181).bind fun bt182 => ((spec_l03Power.f k bt178.2.1).bind fun t184 => ((spec_l03Ceil.f k bt178.1 t184).bind fun bt185 => (if bt182.2 = true then (if bt185.2 = true then (some (bt182.1, bt185.1, true)) else (some (0, 0, false))) else (some (0, 0, false))))))) else (some (0, 0, false)))) = some (r1, r2, r3) := h
  clear h
  replace H := Option.bind_eq_some_iff.mp H
  obtain ⟨⟨t178, t179, t180⟩, A20, H⟩ := H
  replace H : (if t180 = true then ((spec_l03Power.f k t179).bind fun t181 => ((spec_l03Floor.f k t178 t181).bind fun bt182 => ((spec_l03Power.f k t179).bind fun t184 => ((spec_l03Ceil.f k t178 t184).bind fun bt185 => (if bt182.2 = true then (if bt185.2 = true then (some (bt182.1, bt185.1, true)) else (some (0, 0, false))) else (some (0, 0, false))))))) else (some (0, 0, false))) = some (r1, r2, r3) := H
  have A2 := Aside0.mk A20
  clear A20
  by_cases c3 : t180 = true
  · subst c3
    have H1 : ((spec_l03Power.f k t179).bind fun t181 => ((spec_l03Floor.f k t178 t181).bind fun bt182 => ((spec_l03Power.f k t179).bind fun t184 => ((spec_l03Ceil.f k t178 t184).bind fun bt185 => (if bt182.2 = true then (if bt185.2 = true then (some (bt182.1, bt185.1, true)) else (some (0, 0, false))) else (some (0, 0, false))))))) = some (r1, r2, r3) := by rw [if_pos rfl] at H; exact H
    clear H
    have H := H1
    clear H1
    replace H := Option.bind_eq_some_iff.mp H
    obtain ⟨t181, A40, H⟩ := H
    replace H : ((spec_l03Floor.f k t178 t181).bind fun bt182 => ((spec_l03Power.f k t179).bind fun t184 => ((spec_l03Ceil.f k t178 t184).bind fun bt185 => (if bt182.2 = true then (if bt185.2 = true then (some (bt182.1, bt185.1, true)) else (some (0, 0, false))) else (some (0, 0, false)))))) = some (r1, r2, r3) := H
    have A4 := Aside0.mk A40
    clear A40
    replace H := Option.bind_eq_some_iff.mp H
    obtain ⟨⟨t182, t183⟩, A50, H⟩ := H
    replace H : ((spec_l03Power.f k t179).bind fun t184 => ((spec_l03Ceil.f k t178 t184).bind fun bt185 => (if t183 = true then (if bt185.2 = true then (some (t182, bt185.1, true)) else (some (0, 0, false))) else (some (0, 0, false))))) = some (r1, r2, r3) := H
    have A5 := Aside0.mk A50
    clear A50
    replace H := Option.bind_eq_some_iff.mp H
    obtain ⟨t184, A60, H⟩ := H
    replace H : ((spec_l03Ceil.f k t178 t184).bind fun bt185 => (if t183 = true then (if bt185.2 = true then (some (t182, bt185.1, true)) else (some (0, 0, false))) else (some (0, 0, false)))) = some (r1, r2, r3) := H
    have A6 := Aside0.mk A60
    clear A60
    replace H := Option.bind_eq_some_iff.mp H
    obtain ⟨⟨t185, t186⟩, A70, H⟩ := H
    replace H : (if t183 = true then (if t186 = true then (some (t182, t185, true)) else (some (0, 0, false))) else (some (0, 0, false))) = some (r1, r2, r3) := H
    have A7 := Aside0.mk A70
    clear A70
    by_cases c8 : t183 = true
    · subst c8
      have H1 : (if t186 = true then (some (t182, t185, true)) else (some (0, 0, false))) = some (r1, r2, r3) := by rw [if_pos rfl] at H; exact H
      clear H
      have H := H1
      clear H1
      by_cases c9 : t186 = true
      · subst c9
        have H1 : (some (t182, t185, true)) = some (r1, r2, r3) := by rw [if_pos rfl] at H; exact H
        clear H
        have H := H1
        clear H1
        simp only [Option.some.injEq, Prod.mk.injEq] at H
        obtain ⟨rfl, rfl, rfl⟩ := H
        go_enter Tryz.func6, Tryz.ntmps6
        go_wp2_with (first | ((with_reducible refine gate_callee (f := 11) rfl ?_); refine goesL_ (some 14) rfl rfl Tryz.func11 (by kernel_rfl) rfl #[.string a0] rfl (by (try simp only [List.map_toArray, List.map_cons, List.map_nil]); first | done | rfl | (simp only [List.length_drop, List.length_take]; rfl)) ?_; (with_reducible refine (spec_l03Read.calls k a0 t178 t179 true _ A2.out).mono ?_); rintro e w10 ⟨rfl, hb⟩; refine ⟨_, rfl, ?_⟩; have n0_ := Aside0.mk (below_step (by repeat (first | (with_reducible first | exact HB.out | apply below_alloc | apply pw_below_drewN | apply below_drew1) | exact HB.out)) hb); clear HB; have HB := n0_; clear n0_; (try clear hb); (try clear hb2); (try clear hk); (try clear hi)) | ((with_reducible refine gate_callee (f := 13) rfl ?_); refine goesL_ (some 23) rfl rfl Tryz.func13 (by kernel_rfl) rfl #[.int .i64 t179] rfl (by (try simp only [List.map_toArray, List.map_cons, List.map_nil]); first | done | rfl | (simp only [List.length_drop, List.length_take]; rfl)) ?_; (with_reducible refine (spec_l03Power.calls k t179 t181 _ A4.out).mono ?_); rintro e w' ⟨rfl, ⟨nd, rfl⟩⟩; refine ⟨_, rfl, ?_⟩) | ((with_reducible refine gate_callee (f := 12) rfl ?_); refine goesL_ (some 24) rfl rfl Tryz.func12 (by kernel_rfl) rfl #[.int .i64 t178, .int .i64 t181] rfl (by (try simp only [List.map_toArray, List.map_cons, List.map_nil]); first | done | rfl | (simp only [List.length_drop, List.length_take]; rfl)) ?_; (with_reducible refine (spec_l03Floor.calls k t178 t181 t182 true _ A5.out).mono ?_); rintro e w11 ⟨rfl, hb⟩; refine ⟨_, rfl, ?_⟩; have n0_ := Aside0.mk (below_step (by repeat (first | (with_reducible first | exact HB.out | apply below_alloc | apply pw_below_drewN | apply below_drew1) | exact HB.out)) hb); clear HB; have HB := n0_; clear n0_; (try clear hb); (try clear hb2); (try clear hk); (try clear hi)) | ((with_reducible refine gate_callee (f := 13) rfl ?_); refine goesL_ (some 30) rfl rfl Tryz.func13 (by kernel_rfl) rfl #[.int .i64 t179] rfl (by (try simp only [List.map_toArray, List.map_cons, List.map_nil]); first | done | rfl | (simp only [List.length_drop, List.length_take]; rfl)) ?_; (with_reducible refine (spec_l03Power.calls k t179 t184 _ A6.out).mono ?_); rintro e w' ⟨rfl, ⟨nd, rfl⟩⟩; refine ⟨_, rfl, ?_⟩) | ((with_reducible refine gate_callee (f := 14) rfl ?_); refine goesL_ (some 31) rfl rfl Tryz.func14 (by kernel_rfl) rfl #[.int .i64 t178, .int .i64 t184] rfl (by (try simp only [List.map_toArray, List.map_cons, List.map_nil]); first | done | rfl | (simp only [List.length_drop, List.length_take]; rfl)) ?_; (with_reducible refine (spec_l03Ceil.calls k t178 t184 t185 true _ A7.out).mono ?_); rintro e w12 ⟨rfl, hb⟩; refine ⟨_, rfl, ?_⟩; have n0_ := Aside0.mk (below_step (by repeat (first | (with_reducible first | exact HB.out | apply below_alloc | apply pw_below_drewN | apply below_drew1) | exact HB.out)) hb); clear HB; have HB := n0_; clear n0_; (try clear hb); (try clear hb2); (try clear hk); (try clear hi)))
        go_ret3
        exact ⟨by first | rfl | (simp [errW_none, errW_some] <;> rfl) | (simp [*, errW_none, errW_some] <;> rfl), by repeat (first | (with_reducible first | exact HB.out | apply below_alloc | apply pw_below_drewN | apply below_drew1) | exact HB.out)⟩
      · replace c9 := Bool.eq_false_iff.mpr c9
        subst c9
        have H1 : (some (0, 0, false)) = some (r1, r2, r3) := by rw [if_neg (show ¬ (false = true) by decide)] at H; exact H
        clear H
        have H := H1
        clear H1
        simp only [Option.some.injEq, Prod.mk.injEq] at H
        obtain ⟨rfl, rfl, rfl⟩ := H
        go_enter Tryz.func6, Tryz.ntmps6
        go_wp2_with (first | ((with_reducible refine gate_callee (f := 11) rfl ?_); refine goesL_ (some 14) rfl rfl Tryz.func11 (by kernel_rfl) rfl #[.string a0] rfl (by (try simp only [List.map_toArray, List.map_cons, List.map_nil]); first | done | rfl | (simp only [List.length_drop, List.length_take]; rfl)) ?_; (with_reducible refine (spec_l03Read.calls k a0 t178 t179 true _ A2.out).mono ?_); rintro e w13 ⟨rfl, hb⟩; refine ⟨_, rfl, ?_⟩; have n0_ := Aside0.mk (below_step (by repeat (first | (with_reducible first | exact HB.out | apply below_alloc | apply pw_below_drewN | apply below_drew1) | exact HB.out)) hb); clear HB; have HB := n0_; clear n0_; (try clear hb); (try clear hb2); (try clear hk); (try clear hi)) | ((with_reducible refine gate_callee (f := 13) rfl ?_); refine goesL_ (some 23) rfl rfl Tryz.func13 (by kernel_rfl) rfl #[.int .i64 t179] rfl (by (try simp only [List.map_toArray, List.map_cons, List.map_nil]); first | done | rfl | (simp only [List.length_drop, List.length_take]; rfl)) ?_; (with_reducible refine (spec_l03Power.calls k t179 t181 _ A4.out).mono ?_); rintro e w' ⟨rfl, ⟨nd, rfl⟩⟩; refine ⟨_, rfl, ?_⟩) | ((with_reducible refine gate_callee (f := 12) rfl ?_); refine goesL_ (some 24) rfl rfl Tryz.func12 (by kernel_rfl) rfl #[.int .i64 t178, .int .i64 t181] rfl (by (try simp only [List.map_toArray, List.map_cons, List.map_nil]); first | done | rfl | (simp only [List.length_drop, List.length_take]; rfl)) ?_; (with_reducible refine (spec_l03Floor.calls k t178 t181 t182 true _ A5.out).mono ?_); rintro e w14 ⟨rfl, hb⟩; refine ⟨_, rfl, ?_⟩; have n0_ := Aside0.mk (below_step (by repeat (first | (with_reducible first | exact HB.out | apply below_alloc | apply pw_below_drewN | apply below_drew1) | exact HB.out)) hb); clear HB; have HB := n0_; clear n0_; (try clear hb); (try clear hb2); (try clear hk); (try clear hi)) | ((with_reducible refine gate_callee (f := 13) rfl ?_); refine goesL_ (some 30) rfl rfl Tryz.func13 (by kernel_rfl) rfl #[.int .i64 t179] rfl (by (try simp only [List.map_toArray, List.map_cons, List.map_nil]); first | done | rfl | (simp only [List.length_drop, List.length_take]; rfl)) ?_; (with_reducible refine (spec_l03Power.calls k t179 t184 _ A6.out).mono ?_); rintro e w' ⟨rfl, ⟨nd, rfl⟩⟩; refine ⟨_, rfl, ?_⟩) | ((with_reducible refine gate_callee (f := 14) rfl ?_); refine goesL_ (some 31) rfl rfl Tryz.func14 (by kernel_rfl) rfl #[.int .i64 t178, .int .i64 t184] rfl (by (try simp only [List.map_toArray, List.map_cons, List.map_nil]); first | done | rfl | (simp only [List.length_drop, List.length_take]; rfl)) ?_; (with_reducible refine (spec_l03Ceil.calls k t178 t184 t185 false _ A7.out).mono ?_); rintro e w15 ⟨rfl, hb⟩; refine ⟨_, rfl, ?_⟩; have n0_ := Aside0.mk (below_step (by repeat (first | (with_reducible first | exact HB.out | apply below_alloc | apply pw_below_drewN | apply below_drew1) | exact HB.out)) hb); clear HB; have HB := n0_; clear n0_; (try clear hb); (try clear hb2); (try clear hk); (try clear hi)))
        go_ret3
        exact ⟨by first | rfl | (simp [errW_none, errW_some] <;> rfl) | (simp [*, errW_none, errW_some] <;> rfl), by repeat (first | (with_reducible first | exact HB.out | apply below_alloc | apply pw_below_drewN | apply below_drew1) | exact HB.out)⟩
    · replace c8 := Bool.eq_false_iff.mpr c8
      subst c8
      have H1 : (some (0, 0, false)) = some (r1, r2, r3) := by rw [if_neg (show ¬ (false = true) by decide)] at H; exact H
      clear H
      have H := H1
      clear H1
      simp only [Option.some.injEq, Prod.mk.injEq] at H
      obtain ⟨rfl, rfl, rfl⟩ := H
      go_enter Tryz.func6, Tryz.ntmps6
      go_wp2_with (first | ((with_reducible refine gate_callee (f := 11) rfl ?_); refine goesL_ (some 14) rfl rfl Tryz.func11 (by kernel_rfl) rfl #[.string a0] rfl (by (try simp only [List.map_toArray, List.map_cons, List.map_nil]); first | done | rfl | (simp only [List.length_drop, List.length_take]; rfl)) ?_; (with_reducible refine (spec_l03Read.calls k a0 t178 t179 true _ A2.out).mono ?_); rintro e w16 ⟨rfl, hb⟩; refine ⟨_, rfl, ?_⟩; have n0_ := Aside0.mk (below_step (by repeat (first | (with_reducible first | exact HB.out | apply below_alloc | apply pw_below_drewN | apply below_drew1) | exact HB.out)) hb); clear HB; have HB := n0_; clear n0_; (try clear hb); (try clear hb2); (try clear hk); (try clear hi)) | ((with_reducible refine gate_callee (f := 13) rfl ?_); refine goesL_ (some 23) rfl rfl Tryz.func13 (by kernel_rfl) rfl #[.int .i64 t179] rfl (by (try simp only [List.map_toArray, List.map_cons, List.map_nil]); first | done | rfl | (simp only [List.length_drop, List.length_take]; rfl)) ?_; (with_reducible refine (spec_l03Power.calls k t179 t181 _ A4.out).mono ?_); rintro e w' ⟨rfl, ⟨nd, rfl⟩⟩; refine ⟨_, rfl, ?_⟩) | ((with_reducible refine gate_callee (f := 12) rfl ?_); refine goesL_ (some 24) rfl rfl Tryz.func12 (by kernel_rfl) rfl #[.int .i64 t178, .int .i64 t181] rfl (by (try simp only [List.map_toArray, List.map_cons, List.map_nil]); first | done | rfl | (simp only [List.length_drop, List.length_take]; rfl)) ?_; (with_reducible refine (spec_l03Floor.calls k t178 t181 t182 false _ A5.out).mono ?_); rintro e w17 ⟨rfl, hb⟩; refine ⟨_, rfl, ?_⟩; have n0_ := Aside0.mk (below_step (by repeat (first | (with_reducible first | exact HB.out | apply below_alloc | apply pw_below_drewN | apply below_drew1) | exact HB.out)) hb); clear HB; have HB := n0_; clear n0_; (try clear hb); (try clear hb2); (try clear hk); (try clear hi)) | ((with_reducible refine gate_callee (f := 13) rfl ?_); refine goesL_ (some 30) rfl rfl Tryz.func13 (by kernel_rfl) rfl #[.int .i64 t179] rfl (by (try simp only [List.map_toArray, List.map_cons, List.map_nil]); first | done | rfl | (simp only [List.length_drop, List.length_take]; rfl)) ?_; (with_reducible refine (spec_l03Power.calls k t179 t184 _ A6.out).mono ?_); rintro e w' ⟨rfl, ⟨nd, rfl⟩⟩; refine ⟨_, rfl, ?_⟩) | ((with_reducible refine gate_callee (f := 14) rfl ?_); refine goesL_ (some 31) rfl rfl Tryz.func14 (by kernel_rfl) rfl #[.int .i64 t178, .int .i64 t184] rfl (by (try simp only [List.map_toArray, List.map_cons, List.map_nil]); first | done | rfl | (simp only [List.length_drop, List.length_take]; rfl)) ?_; (with_reducible refine (spec_l03Ceil.calls k t178 t184 t185 t186 _ A7.out).mono ?_); rintro e w18 ⟨rfl, hb⟩; refine ⟨_, rfl, ?_⟩; have n0_ := Aside0.mk (below_step (by repeat (first | (with_reducible first | exact HB.out | apply below_alloc | apply pw_below_drewN | apply below_drew1) | exact HB.out)) hb); clear HB; have HB := n0_; clear n0_; (try clear hb); (try clear hb2); (try clear hk); (try clear hi)))
      go_ret3
      exact ⟨by first | rfl | (simp [errW_none, errW_some] <;> rfl) | (simp [*, errW_none, errW_some] <;> rfl), by repeat (first | (with_reducible first | exact HB.out | apply below_alloc | apply pw_below_drewN | apply below_drew1) | exact HB.out)⟩
  · replace c3 := Bool.eq_false_iff.mpr c3
    subst c3
    have H1 : (some (0, 0, false)) = some (r1, r2, r3) := by rw [if_neg (show ¬ (false = true) by decide)] at H; exact H
    clear H
    have H := H1
    clear H1
    simp only [Option.some.injEq, Prod.mk.injEq] at H
    obtain ⟨rfl, rfl, rfl⟩ := H
    go_enter Tryz.func6, Tryz.ntmps6
    go_wp2_with (first | ((with_reducible refine gate_callee (f := 11) rfl ?_); refine goesL_ (some 14) rfl rfl Tryz.func11 (by kernel_rfl) rfl #[.string a0] rfl (by (try simp only [List.map_toArray, List.map_cons, List.map_nil]); first | done | rfl | (simp only [List.length_drop, List.length_take]; rfl)) ?_; (with_reducible refine (spec_l03Read.calls k a0 t178 t179 false _ A2.out).mono ?_); rintro e w19 ⟨rfl, hb⟩; refine ⟨_, rfl, ?_⟩; have n0_ := Aside0.mk (below_step (by repeat (first | (with_reducible first | exact HB.out | apply below_alloc | apply pw_below_drewN | apply below_drew1) | exact HB.out)) hb); clear HB; have HB := n0_; clear n0_; (try clear hb); (try clear hb2); (try clear hk); (try clear hi)))
    go_ret3
    exact ⟨by first | rfl | (simp [errW_none, errW_some] <;> rfl) | (simp [*, errW_none, errW_some] <;> rfl), by repeat (first | (with_reducible first | exact HB.out | apply below_alloc | apply pw_below_drewN | apply below_drew1) | exact HB.out)⟩

/-! ### spec_ReadFix: function 4 -/
def spec_ReadFix.f (k : Nat) (a0 : ByteArray) : Option (Int × Int × Bool) := (spec_l03ReadFix.f k a0).bind fun bt187 => (some (bt187.1, bt187.2.1, bt187.2.2))
theorem spec_ReadFix.mono : ∀ a0 k, LeO (spec_ReadFix.f k a0) (spec_ReadFix.f (k + 1) a0) := by
  intro a0 k
  unfold spec_ReadFix.f
  repeat' first
      | (with_reducible exact spec_l03ReadFix.mono _ _)
      | (with_reducible exact LeO.refl _)
      | (with_reducible exact LeO.none _)
      | (with_reducible refine LeO.ite ?_ ?_)
      | (with_reducible refine LeO.bind ?_ (fun _ => ?_))
      | exact spec_l03ReadFix.mono _ _
      | exact LeO.none _
      | refine LeO.ite ?_ ?_
      | refine LeO.bind ?_ (fun _ => ?_)
set_option maxHeartbeats 8000000 in
set_option maxRecDepth 100000 in
theorem spec_ReadFix.calls (k : Nat) (a0 : ByteArray) (r1 : Int) (r2 : Int) (r3 : Bool) (w : World) (h : spec_ReadFix.f k a0 = some (r1, r2, r3)) :
    Calls Tryz.prog 4 #[.string a0] w fun e w' => e = .returned (.tuple #[.int .i64 r1, .int .i64 r2, .bool r3]) ∧ Below w.heap.size w w' := by
  have HB := Aside0.mk (Below.refl w.heap.size w)
  have H : ((spec_l03ReadFix.f k a0).bind fun bt187 => (some (bt187.1, bt187.2.1, bt187.2.2))) = some (r1, r2, r3) := h
  clear h
  replace H := Option.bind_eq_some_iff.mp H
  obtain ⟨⟨t187, t188, t189⟩, A20, H⟩ := H
  replace H : (some (t187, t188, t189)) = some (r1, r2, r3) := H
  have A2 := Aside0.mk A20
  clear A20
  simp only [Option.some.injEq, Prod.mk.injEq] at H
  obtain ⟨rfl, rfl, rfl⟩ := H
  go_enter Tryz.func4, Tryz.ntmps4
  go_wp2_with (first | ((with_reducible refine gate_callee (f := 6) rfl ?_); refine goesL_ (some 6) rfl rfl Tryz.func6 (by kernel_rfl) rfl #[.string a0] rfl (by (try simp only [List.map_toArray, List.map_cons, List.map_nil]); first | done | rfl | (simp only [List.length_drop, List.length_take]; rfl)) ?_; (with_reducible refine (spec_l03ReadFix.calls k a0 t187 t188 t189 _ A2.out).mono ?_); rintro e w3 ⟨rfl, hb⟩; refine ⟨_, rfl, ?_⟩; have n0_ := Aside0.mk (below_step (by repeat (first | (with_reducible first | exact HB.out | apply below_alloc | apply pw_below_drewN | apply below_drew1) | exact HB.out)) hb); clear HB; have HB := n0_; clear n0_; (try clear hb); (try clear hb2); (try clear hk); (try clear hi)))
  go_ret3
  exact ⟨by first | rfl | (simp [errW_none, errW_some] <;> rfl) | (simp [*, errW_none, errW_some] <;> rfl), by repeat (first | (with_reducible first | exact HB.out | apply below_alloc | apply pw_below_drewN | apply below_drew1) | exact HB.out)⟩

/-! ### impl_within: function 17 -/
def impl_within.f (a0 : Int) (a1 : Int) (a2 : Int) : Option (Bool) := if a0 ≥ a1 then (some (decide (a0 ≤ a2))) else (some false)
set_option maxHeartbeats 8000000 in
set_option maxRecDepth 100000 in
theorem impl_within.calls (a0 : Int) (a1 : Int) (a2 : Int) (r : Bool) (w : World) (h : impl_within.f a0 a1 a2 = some r) :
    Calls Tryz.prog 17 #[.int .i64 a0, .int .i64 a1, .int .i64 a2] w fun e w' => e = .returned (.bool r) ∧ Drawn0 w w' := by
  have H : (if a0 ≥ a1 then (some (decide (a0 ≤ a2))) else (some false)) = some r := h
  clear h
  by_cases c4 : a0 ≥ a1
  · rw [if_pos c4] at H
    have c4b0 : decide (a1 ≤ a0) = true := decide_eq_true c4
    clear c4
    obtain rfl := Option.some.inj H
    go_enter Tryz.func17, Tryz.ntmps17
    go_wp2
    go_ret
    exact ⟨by first | rfl | (simp; done) | (simp [*]; done), by repeat (first | exact Drawn0.refl _ | apply Drawn0.step)⟩
  · rw [if_neg c4] at H
    have c4b0 : decide (a1 ≤ a0) = false := decide_eq_false c4
    clear c4
    obtain rfl := Option.some.inj H
    go_enter Tryz.func17, Tryz.ntmps17
    go_wp2
    go_ret
    exact ⟨by first | rfl | (simp; done) | (simp [*]; done), by repeat (first | exact Drawn0.refl _ | apply Drawn0.step)⟩

/-! ### impl_powerOfTen: function 9 -/
def impl_powerOfTen.l0 : Nat → Int → Int → Int → Option (Int)
  | 0, _, _, _ => none
  | k + 1, x3, x4, x5 => if x5 < x4 then (impl_powerOfTen.l0 k (wrap64 (x3 * 10)) x4 (wrap64 (x5 + 1))) else (some x3)
def impl_powerOfTen.f (k : Nat) (a0 : Int) : Option (Int) := impl_powerOfTen.l0 k 1 a0 0
theorem impl_powerOfTen.mono_l : ∀ k, (∀ y0 y1 y2, LeO (impl_powerOfTen.l0 k y0 y1 y2) (impl_powerOfTen.l0 (k + 1) y0 y1 y2))
  | 0 => fun _ _ _ r h => by simp [impl_powerOfTen.l0] at h
  | k + 1 => by
    have ih0 := impl_powerOfTen.mono_l k
    · intro y0 y1 y2
      unfold impl_powerOfTen.l0
      repeat' first
      | (with_reducible exact ih0 _ _ _)
      | (with_reducible exact LeO.refl _)
      | (with_reducible exact LeO.none _)
      | (with_reducible refine LeO.ite ?_ ?_)
      | (with_reducible refine LeO.bind ?_ (fun _ => ?_))
      | exact ih0 _ _ _
      | exact LeO.none _
      | refine LeO.ite ?_ ?_
      | refine LeO.bind ?_ (fun _ => ?_)
theorem impl_powerOfTen.mono : ∀ a0 k, LeO (impl_powerOfTen.f k a0) (impl_powerOfTen.f (k + 1) a0) := by
  intro a0 k
  have ih0 := impl_powerOfTen.mono_l k
  unfold impl_powerOfTen.f
  repeat' first
      | (with_reducible exact ih0 _ _ _)
      | (with_reducible exact LeO.refl _)
      | (with_reducible exact LeO.none _)
      | (with_reducible refine LeO.ite ?_ ?_)
      | (with_reducible refine LeO.bind ?_ (fun _ => ?_))
      | exact ih0 _ _ _
      | exact LeO.none _
      | refine LeO.ite ?_ ?_
      | refine LeO.bind ?_ (fun _ => ?_)
set_option maxHeartbeats 8000000 in
set_option maxRecDepth 100000 in
theorem impl_powerOfTen.calls (k : Nat) (a0 : Int) (r : Int) (w : World) (h : impl_powerOfTen.f k a0 = some r) :
    Calls Tryz.prog 9 #[.int .i64 a0] w fun e w' => e = .returned (.int .i64 r) ∧ Drawn0 w w' := by
  have H : (impl_powerOfTen.l0 k 1 a0 0) = some r := h
  clear h
  have H' := Aside0.mk H
  clear H
  go_enter Tryz.func9, Tryz.ntmps9
  go_wp2
  go_loopg [3, 5] k (fun kq v3 v5 w' => ∃ (x3_1 : Int) (x5_1 : Int), v3 = .int .i64 x3_1 ∧ v5 = .int .i64 x5_1 ∧ Aside0 (impl_powerOfTen.l0 kq x3_1 a0 x5_1 = some r) ∧ Aside0 (kq ≤ k) ∧ Drawn0 w w')
  case atStart => exact ⟨(1), (0), (by first | rfl | (simp; done) | (simp [*]; done)), (by first | rfl | (simp; done) | (simp [*]; done)), H', ⟨Nat.le_refl _⟩, by repeat (first | exact Drawn0.refl _ | apply Drawn0.step)⟩
  case round =>
    clear H'
    obtain ⟨x3_1, x5_1, rfl, rfl, HA, HK1, ⟨m1, rfl⟩⟩ := hrel
    cases gk with
    | zero => exact absurd HA.out (by simp [impl_powerOfTen.l0])
    | succ k1 =>
      have H := HA.out
      clear HA
      simp only [impl_powerOfTen.l0] at H
      by_cases c2 : x5_1 < a0
      · rw [if_pos c2] at H
        have c2b0 : decide (x5_1 < a0) = true := decide_eq_true c2
        clear c2
        have H' := Aside0.mk H
        clear H
        go_wp2
        go_roundg k1
        case measure => have := HK1.out; omega
        case rel => exact ⟨(wrap64 (x3_1 * 10)), (wrap64 (x5_1 + 1)), (by first | rfl | (simp; done) | (simp [*]; done)), (by first | rfl | (simp; done) | (simp [*]; done)), H', ⟨by have := HK1.out; omega⟩, by repeat (first | exact Drawn0.refl _ | apply Drawn0.step)⟩
      · rw [if_neg c2] at H
        have c2b0 : decide (x5_1 < a0) = false := decide_eq_false c2
        clear c2
        obtain rfl := Option.some.inj H
        go_wp2
        go_ret
        exact ⟨by first | rfl | (simp; done) | (simp [*]; done), by repeat (first | exact Drawn0.refl _ | apply Drawn0.step)⟩

/-! ### impl_Decimal: function 36 -/
def impl_Decimal.f (a0 : Int) : Option (ByteArray) := (strconv_FormatInt.f a0 10).bind fun t190 => (some t190)
set_option maxHeartbeats 8000000 in
set_option maxRecDepth 100000 in
theorem impl_Decimal.calls (a0 : Int) (r : ByteArray) (w : World) (HT : Hid (LaidC w)) (h : impl_Decimal.f a0 = some r) :
    Calls Tryz.prog 36 #[.int .i64 a0] w fun e w' => e = .returned (.string r) ∧ Below w.heap.size w w' := by
  have HB := Aside0.mk (Below.refl w.heap.size w)
  have H : ((strconv_FormatInt.f a0 10).bind fun t190 => (some t190)) = some r := h
  clear h
  replace H := Option.bind_eq_some_iff.mp H
  obtain ⟨t190, A20, H⟩ := H
  replace H : (some t190) = some r := H
  have A2 := Aside0.mk A20
  clear A20
  obtain rfl := Option.some.inj H
  go_enter Tryz.func36, Tryz.ntmps36
  go_wp2_with (first | ((with_reducible refine gate_callee (f := 53) rfl ?_); refine goesL_ (some 4) rfl rfl Tryz.func53 (by kernel_rfl) rfl #[.int .i64 a0, .int .i64 10] rfl (by (try simp only [List.map_toArray, List.map_cons, List.map_nil]); first | done | rfl | (simp only [List.length_drop, List.length_take]; rfl)) ?_; (with_reducible refine (strconv_FormatInt.callsC a0 10 t190 _ (laidC_b HT.out (by repeat (first | (with_reducible first | exact HB.out | apply below_alloc | apply pw_below_drewN | apply below_drew1) | exact HB.out))) A2.out).mono ?_); rintro e w3 ⟨rfl, hb⟩; refine ⟨_, rfl, ?_⟩; have n0_ := Aside0.mk (below_step (by repeat (first | (with_reducible first | exact HB.out | apply below_alloc | apply pw_below_drewN | apply below_drew1) | exact HB.out)) hb); clear HB; have HB := n0_; clear n0_; (try clear hb); (try clear hb2); (try clear hk); (try clear hi)))
  go_ret
  exact ⟨by first | rfl | (simp [errW_none, errW_some] <;> rfl) | (simp [*, errW_none, errW_some] <;> rfl), by repeat (first | (with_reducible first | exact HB.out | apply below_alloc | apply pw_below_drewN | apply below_drew1) | exact HB.out)⟩

/-! ### impl_digitsText: function 19 -/
def impl_digitsText.j0 : Nat → Int → Int → ByteArray → Option (ByteArray)
  | 0, _, _, _ => none
  | k + 1, x0, x1, x5 => (impl_powerOfTen.f k x1).bind fun t191 => (if t191 = 0 then (none) else ((impl_Decimal.f (wrap64 (Int.tdiv x0 t191))).bind fun t192 => (if x5.size + t192.size ≤ 9223372036854775807 then (if x1 = 0 then (some (x5 ++ t192)) else ((impl_Decimal.f (Int.tmod x0 t191)).bind fun t193 => (if (x5 ++ t192).size + 1 ≤ 9223372036854775807 then ((strings_Repeat.f (⟨#[48]⟩ : ByteArray) (wrap64 (x1 - (t193.size : Int)))).bind fun t194 => (if ((x5 ++ t192) ++ (⟨#[46]⟩ : ByteArray)).size + t194.size ≤ 9223372036854775807 then (if (((x5 ++ t192) ++ (⟨#[46]⟩ : ByteArray)) ++ t194).size + t193.size ≤ 9223372036854775807 then (some ((((x5 ++ t192) ++ (⟨#[46]⟩ : ByteArray)) ++ t194) ++ t193)) else (none)) else (none))) else (none)))) else (none))))
def impl_digitsText.f (k : Nat) (a0 : Int) (a1 : Int) : Option (ByteArray) := if a0 < 0 then (impl_digitsText.j0 k (wrap64 (-a0)) a1 (⟨#[45]⟩ : ByteArray)) else (impl_digitsText.j0 k a0 a1 (⟨#[]⟩ : ByteArray))
theorem impl_digitsText.mono_l : ∀ k, (∀ y0 y1 y2, LeO (impl_digitsText.j0 k y0 y1 y2) (impl_digitsText.j0 (k + 1) y0 y1 y2))
  | 0 => fun _ _ _ r h => by simp [impl_digitsText.j0] at h
  | k + 1 => by
    have ih0 := impl_digitsText.mono_l k
    · intro y0 y1 y2
      unfold impl_digitsText.j0
      repeat' first
      | (with_reducible exact ih0 _ _ _)
      | (with_reducible exact impl_powerOfTen.mono _ _)
      | (with_reducible exact LeO.refl _)
      | (with_reducible exact LeO.none _)
      | (with_reducible refine LeO.ite ?_ ?_)
      | (with_reducible refine LeO.bind ?_ (fun _ => ?_))
      | exact ih0 _ _ _
      | exact impl_powerOfTen.mono _ _
      | exact LeO.none _
      | refine LeO.ite ?_ ?_
      | refine LeO.bind ?_ (fun _ => ?_)
theorem impl_digitsText.mono : ∀ a0 a1 k, LeO (impl_digitsText.f k a0 a1) (impl_digitsText.f (k + 1) a0 a1) := by
  intro a0 a1 k
  have ih0 := impl_digitsText.mono_l k
  unfold impl_digitsText.f
  repeat' first
      | (with_reducible exact ih0 _ _ _)
      | (with_reducible exact impl_powerOfTen.mono _ _)
      | (with_reducible exact LeO.refl _)
      | (with_reducible exact LeO.none _)
      | (with_reducible refine LeO.ite ?_ ?_)
      | (with_reducible refine LeO.bind ?_ (fun _ => ?_))
      | exact ih0 _ _ _
      | exact impl_powerOfTen.mono _ _
      | exact LeO.none _
      | refine LeO.ite ?_ ?_
      | refine LeO.bind ?_ (fun _ => ?_)
set_option maxHeartbeats 8000000 in
set_option maxRecDepth 100000 in
theorem impl_digitsText.calls (k : Nat) (a0 : Int) (a1 : Int) (r : ByteArray) (w : World) (HT : Hid (LaidC w)) (h : impl_digitsText.f k a0 a1 = some r) :
    Calls Tryz.prog 19 #[.int .i64 a0, .int .i64 a1] w fun e w' => e = .returned (.string r) ∧ Below w.heap.size w w' := by
  have HB := Aside0.mk (Below.refl w.heap.size w)
  have H : (if a0 < 0 then (impl_digitsText.j0 k (wrap64 (-a0)) a1 (⟨#[45]⟩ : ByteArray)) else (impl_digitsText.j0 k a0 a1 (⟨#[]⟩ : ByteArray))) = some r := h
  clear h
  have HC3 := Aside0.mk H
  clear H
  go_enter Tryz.func19, Tryz.ntmps19
  go_upto_if 10 with (fail)
  go_cut [0, 5] (fun v0 v5 wc => ∃ (kq : Nat) (x0_2 : Int) (x5_2 : ByteArray), v0 = .int .i64 x0_2 ∧ v5 = .string x5_2 ∧ Aside0 (impl_digitsText.j0 kq x0_2 a1 x5_2 = some r) ∧ Aside0 (kq ≤ k) ∧ Aside0 (Below w.heap.size w wc))
  case first =>
    have H := HC3.out
    clear HC3
    by_cases c4 : a0 < 0
    · rw [if_pos c4] at H
      have c4b0 : decide (a0 < 0) = true := decide_eq_true c4
      clear c4
      (first | rw [c4b0] | (simp only [i64_w, i32_w]; rw [c4b0]) | skip)
      have H' := Aside0.mk H
      clear H
      go_wp2
      go_meet
      case rel => exact ⟨_, (wrap64 (-a0)), ((⟨#[45]⟩ : ByteArray)), (by first | rfl | (simp; done) | (simp [*]; done)), (by first | rfl | (simp; done) | (simp [*]; done)), H', ⟨by first | omega | exact Nat.le_refl _⟩, ⟨by repeat (first | (with_reducible first | exact HB.out | apply below_alloc | apply pw_below_drewN | apply below_drew1) | exact HB.out)⟩⟩
    · rw [if_neg c4] at H
      have c4b0 : decide (a0 < 0) = false := decide_eq_false c4
      clear c4
      (first | rw [c4b0] | (simp only [i64_w, i32_w]; rw [c4b0]) | skip)
      have H' := Aside0.mk H
      clear H
      go_wp2
      go_meet
      case rel => exact ⟨_, (a0), ((⟨#[]⟩ : ByteArray)), (by first | rfl | (simp; done) | (simp [*]; done)), (by first | rfl | (simp; done) | (simp [*]; done)), H', ⟨by first | omega | exact Nat.le_refl _⟩, ⟨by repeat (first | (with_reducible first | exact HB.out | apply below_alloc | apply pw_below_drewN | apply below_drew1) | exact HB.out)⟩⟩
  case rest =>
    clear HC3
    try clear c1
    try clear p2
    try clear c4
    try clear c4b0
    obtain ⟨kq, x0_2, x5_2, rfl, rfl, HA, HJ2, HB⟩ := hcut
    cases kq with
    | zero => exact absurd HA.out (by simp [impl_digitsText.j0])
    | succ kj2 =>
      have H := HA.out
      clear HA
      simp only [impl_digitsText.j0] at H
      replace H := Option.bind_eq_some_iff.mp H
      obtain ⟨t191, A50, H⟩ := H
      replace H : (if t191 = 0 then (none) else ((impl_Decimal.f (wrap64 (Int.tdiv x0_2 t191))).bind fun t192 => (if x5_2.size + t192.size ≤ 9223372036854775807 then (if a1 = 0 then (some (x5_2 ++ t192)) else ((impl_Decimal.f (Int.tmod x0_2 t191)).bind fun t193 => (if (x5_2 ++ t192).size + 1 ≤ 9223372036854775807 then ((strings_Repeat.f (⟨#[48]⟩ : ByteArray) (wrap64 (a1 - (t193.size : Int)))).bind fun t194 => (if ((x5_2 ++ t192) ++ (⟨#[46]⟩ : ByteArray)).size + t194.size ≤ 9223372036854775807 then (if (((x5_2 ++ t192) ++ (⟨#[46]⟩ : ByteArray)) ++ t194).size + t193.size ≤ 9223372036854775807 then (some ((((x5_2 ++ t192) ++ (⟨#[46]⟩ : ByteArray)) ++ t194) ++ t193)) else (none)) else (none))) else (none)))) else (none)))) = some r := H
      have A5 := Aside0.mk A50
      clear A50
      by_cases c6 : t191 = 0
      · rw [if_pos c6] at H
        exact absurd H (by simp)
      · rw [if_neg c6] at H
        have c6b0 : (t191 == 0) = false := beq_eq_false_iff_ne.mpr c6
        have c6b1 : (t191 != 0) = true := bne_iff_ne.mpr c6
        replace H := Option.bind_eq_some_iff.mp H
        obtain ⟨t192, A70, H⟩ := H
        replace H : (if x5_2.size + t192.size ≤ 9223372036854775807 then (if a1 = 0 then (some (x5_2 ++ t192)) else ((impl_Decimal.f (Int.tmod x0_2 t191)).bind fun t193 => (if (x5_2 ++ t192).size + 1 ≤ 9223372036854775807 then ((strings_Repeat.f (⟨#[48]⟩ : ByteArray) (wrap64 (a1 - (t193.size : Int)))).bind fun t194 => (if ((x5_2 ++ t192) ++ (⟨#[46]⟩ : ByteArray)).size + t194.size ≤ 9223372036854775807 then (if (((x5_2 ++ t192) ++ (⟨#[46]⟩ : ByteArray)) ++ t194).size + t193.size ≤ 9223372036854775807 then (some ((((x5_2 ++ t192) ++ (⟨#[46]⟩ : ByteArray)) ++ t194) ++ t193)) else (none)) else (none))) else (none)))) else (none)) = some r := H
        have A7 := Aside0.mk A70
        clear A70
        by_cases c8 : x5_2.size + t192.size ≤ 9223372036854775807
        · rw [if_pos c8] at H
          have c8b0 := eq_true c8
          have c8b1 : decide (x5_2.size + t192.size ≤ 9223372036854775807) = true := decide_eq_true c8
          try have c8b2 : (9223372036854775807 < x5_2.size + t192.size) = False := eq_false (Nat.not_lt.2 c8)
          by_cases c9 : a1 = 0
          · rw [if_pos c9] at H
            have c9b0 : (a1 == 0) = true := beq_iff_eq.mpr c9
            have c9b1 : (a1 != 0) = false := bne_eq_false_iff_eq.mpr c9
            clear c9
            obtain rfl := Option.some.inj H
            go_wp2_with (first | ((with_reducible refine gate_callee (f := 9) rfl ?_); refine goesL_ (some 14) rfl rfl Tryz.func9 (by kernel_rfl) rfl #[.int .i64 a1] rfl (by (try simp only [List.map_toArray, List.map_cons, List.map_nil]); first | done | rfl | (simp only [List.length_drop, List.length_take]; rfl)) ?_; (with_reducible refine (impl_powerOfTen.calls kj2 a1 t191 _ A5.out).mono ?_); rintro e w' ⟨rfl, ⟨nd, rfl⟩⟩; refine ⟨_, rfl, ?_⟩) | ((with_reducible refine gate_callee (f := 36) rfl ?_); refine goesL_ (some 19) rfl rfl Tryz.func36 (by kernel_rfl) rfl #[.int .i64 (wrap64 (Int.tdiv x0_2 t191))] rfl (by (try simp only [List.map_toArray, List.map_cons, List.map_nil]); first | done | rfl | (simp only [List.length_drop, List.length_take]; rfl)) ?_; (with_reducible refine (impl_Decimal.calls (wrap64 (Int.tdiv x0_2 t191)) t192 _ (laidC_b HT.out (by repeat (first | (with_reducible first | exact HB.out | apply below_alloc | apply pw_below_drewN | apply below_drew1) | exact HB.out))) A7.out).mono ?_); rintro e w10 ⟨rfl, hb⟩; refine ⟨_, rfl, ?_⟩; have n0_ := Aside0.mk (below_step (by repeat (first | (with_reducible first | exact HB.out | apply below_alloc | apply pw_below_drewN | apply below_drew1) | exact HB.out)) hb); clear HB; have HB := n0_; clear n0_; (try clear hb); (try clear hb2); (try clear hk); (try clear hi)))
            go_ret
            exact ⟨by first | rfl | (simp [errW_none, errW_some] <;> rfl) | (simp [*, errW_none, errW_some] <;> rfl), by repeat (first | (with_reducible first | exact HB.out | apply below_alloc | apply pw_below_drewN | apply below_drew1) | exact HB.out)⟩
          · rw [if_neg c9] at H
            have c9b0 : (a1 == 0) = false := beq_eq_false_iff_ne.mpr c9
            have c9b1 : (a1 != 0) = true := bne_iff_ne.mpr c9
            replace H := Option.bind_eq_some_iff.mp H
            obtain ⟨t193, A110, H⟩ := H
            replace H : (if (x5_2 ++ t192).size + 1 ≤ 9223372036854775807 then ((strings_Repeat.f (⟨#[48]⟩ : ByteArray) (wrap64 (a1 - (t193.size : Int)))).bind fun t194 => (if ((x5_2 ++ t192) ++ (⟨#[46]⟩ : ByteArray)).size + t194.size ≤ 9223372036854775807 then (if (((x5_2 ++ t192) ++ (⟨#[46]⟩ : ByteArray)) ++ t194).size + t193.size ≤ 9223372036854775807 then (some ((((x5_2 ++ t192) ++ (⟨#[46]⟩ : ByteArray)) ++ t194) ++ t193)) else (none)) else (none))) else (none)) = some r := H
            have A11 := Aside0.mk A110
            clear A110
            by_cases c12 : (x5_2 ++ t192).size + 1 ≤ 9223372036854775807
            · rw [if_pos c12] at H
              have c12b0 := eq_true c12
              have c12b1 : decide ((x5_2 ++ t192).size + 1 ≤ 9223372036854775807) = true := decide_eq_true c12
              try have c12b2 : (9223372036854775807 < (x5_2 ++ t192).size + 1) = False := eq_false (Nat.not_lt.2 c12)
              try (have c12d := c12; simp only [ByteArray.size_append] at c12d; have c12d0 := eq_true c12d; have c12d1 := eq_false (Nat.not_lt.2 c12d))
              try (have c12e := c12; simp only [ByteArray.size_append, size1, size0, Nat.zero_add, Nat.add_zero] at c12e; have c12e0 := eq_true c12e; have c12e1 := eq_false (Nat.not_lt.2 c12e))
              replace H := Option.bind_eq_some_iff.mp H
              obtain ⟨t194, A130, H⟩ := H
              replace H : (if ((x5_2 ++ t192) ++ (⟨#[46]⟩ : ByteArray)).size + t194.size ≤ 9223372036854775807 then (if (((x5_2 ++ t192) ++ (⟨#[46]⟩ : ByteArray)) ++ t194).size + t193.size ≤ 9223372036854775807 then (some ((((x5_2 ++ t192) ++ (⟨#[46]⟩ : ByteArray)) ++ t194) ++ t193)) else (none)) else (none)) = some r := H
              have A13 := Aside0.mk A130
              clear A130
              by_cases c14 : ((x5_2 ++ t192) ++ (⟨#[46]⟩ : ByteArray)).size + t194.size ≤ 9223372036854775807
              · rw [if_pos c14] at H
                have c14b0 := eq_true c14
                have c14b1 : decide (((x5_2 ++ t192) ++ (⟨#[46]⟩ : ByteArray)).size + t194.size ≤ 9223372036854775807) = true := decide_eq_true c14
                try have c14b2 : (9223372036854775807 < ((x5_2 ++ t192) ++ (⟨#[46]⟩ : ByteArray)).size + t194.size) = False := eq_false (Nat.not_lt.2 c14)
                try (have c14d := c14; simp only [ByteArray.size_append] at c14d; have c14d0 := eq_true c14d; have c14d1 := eq_false (Nat.not_lt.2 c14d))
                try (have c14e := c14; simp only [ByteArray.size_append, size1, size0, Nat.zero_add, Nat.add_zero] at c14e; have c14e0 := eq_true c14e; have c14e1 := eq_false (Nat.not_lt.2 c14e))
                by_cases c15 : (((x5_2 ++ t192) ++ (⟨#[46]⟩ : ByteArray)) ++ t194).size + t193.size ≤ 9223372036854775807
                · rw [if_pos c15] at H
                  have c15b0 := eq_true c15
                  have c15b1 : decide ((((x5_2 ++ t192) ++ (⟨#[46]⟩ : ByteArray)) ++ t194).size + t193.size ≤ 9223372036854775807) = true := decide_eq_true c15
                  try have c15b2 : (9223372036854775807 < (((x5_2 ++ t192) ++ (⟨#[46]⟩ : ByteArray)) ++ t194).size + t193.size) = False := eq_false (Nat.not_lt.2 c15)
                  try (have c15d := c15; simp only [ByteArray.size_append] at c15d; have c15d0 := eq_true c15d; have c15d1 := eq_false (Nat.not_lt.2 c15d))
                  try (have c15e := c15; simp only [ByteArray.size_append, size1, size0, Nat.zero_add, Nat.add_zero] at c15e; have c15e0 := eq_true c15e; have c15e1 := eq_false (Nat.not_lt.2 c15e))
                  obtain rfl := Option.some.inj H
                  go_wp2_with (first | ((with_reducible refine gate_callee (f := 9) rfl ?_); refine goesL_ (some 14) rfl rfl Tryz.func9 (by kernel_rfl) rfl #[.int .i64 a1] rfl (by (try simp only [List.map_toArray, List.map_cons, List.map_nil]); first | done | rfl | (simp only [List.length_drop, List.length_take]; rfl)) ?_; (with_reducible refine (impl_powerOfTen.calls kj2 a1 t191 _ A5.out).mono ?_); rintro e w' ⟨rfl, ⟨nd, rfl⟩⟩; refine ⟨_, rfl, ?_⟩) | ((with_reducible refine gate_callee (f := 36) rfl ?_); refine goesL_ (some 19) rfl rfl Tryz.func36 (by kernel_rfl) rfl #[.int .i64 (wrap64 (Int.tdiv x0_2 t191))] rfl (by (try simp only [List.map_toArray, List.map_cons, List.map_nil]); first | done | rfl | (simp only [List.length_drop, List.length_take]; rfl)) ?_; (with_reducible refine (impl_Decimal.calls (wrap64 (Int.tdiv x0_2 t191)) t192 _ (laidC_b HT.out (by repeat (first | (with_reducible first | exact HB.out | apply below_alloc | apply pw_below_drewN | apply below_drew1) | exact HB.out))) A7.out).mono ?_); rintro e w16 ⟨rfl, hb⟩; refine ⟨_, rfl, ?_⟩; have n0_ := Aside0.mk (below_step (by repeat (first | (with_reducible first | exact HB.out | apply below_alloc | apply pw_below_drewN | apply below_drew1) | exact HB.out)) hb); clear HB; have HB := n0_; clear n0_; (try clear hb); (try clear hb2); (try clear hk); (try clear hi)) | ((with_reducible refine gate_callee (f := 36) rfl ?_); refine goesL_ (some 27) rfl rfl Tryz.func36 (by kernel_rfl) rfl #[.int .i64 (Int.tmod x0_2 t191)] rfl (by (try simp only [List.map_toArray, List.map_cons, List.map_nil]); first | done | rfl | (simp only [List.length_drop, List.length_take]; rfl)) ?_; (with_reducible refine (impl_Decimal.calls (Int.tmod x0_2 t191) t193 _ (laidC_b HT.out (by repeat (first | (with_reducible first | exact HB.out | apply below_alloc | apply pw_below_drewN | apply below_drew1) | exact HB.out))) A11.out).mono ?_); rintro e w17 ⟨rfl, hb⟩; refine ⟨_, rfl, ?_⟩; have n0_ := Aside0.mk (below_step (by repeat (first | (with_reducible first | exact HB.out | apply below_alloc | apply pw_below_drewN | apply below_drew1) | exact HB.out)) hb); clear HB; have HB := n0_; clear n0_; (try clear hb); (try clear hb2); (try clear hk); (try clear hi)) | ((with_reducible refine gate_callee (f := 37) rfl ?_); refine goesL_ (some 34) rfl rfl Tryz.func37 (by kernel_rfl) rfl #[.string (⟨#[48]⟩ : ByteArray), .int .i64 (wrap64 (a1 - (t193.size : Int)))] rfl (by (try simp only [List.map_toArray, List.map_cons, List.map_nil]); first | done | rfl | (simp only [List.length_drop, List.length_take]; rfl)) ?_; (with_reducible refine (strings_Repeat.calls (⟨#[48]⟩ : ByteArray) (wrap64 (a1 - (t193.size : Int))) t194 _ A13.out).mono ?_); rintro e w18 ⟨rfl, hb⟩; refine ⟨_, rfl, ?_⟩; have n0_ := Aside0.mk (below_step (by repeat (first | (with_reducible first | exact HB.out | apply below_alloc | apply pw_below_drewN | apply below_drew1) | exact HB.out)) hb); clear HB; have HB := n0_; clear n0_; (try clear hb); (try clear hb2); (try clear hk); (try clear hi)))
                  go_ret
                  exact ⟨by first | rfl | (simp [errW_none, errW_some] <;> rfl) | (simp [*, errW_none, errW_some] <;> rfl), by repeat (first | (with_reducible first | exact HB.out | apply below_alloc | apply pw_below_drewN | apply below_drew1) | exact HB.out)⟩
                · rw [if_neg c15] at H
                  exact absurd H (by simp)
              · rw [if_neg c14] at H
                exact absurd H (by simp)
            · rw [if_neg c12] at H
              exact absurd H (by simp)
        · rw [if_neg c8] at H
          exact absurd H (by simp)

/-! ### impl_readDigits: walked by hand (the kit's print knows no []byte(..) of a text) -/
def rdLoop (l : List UInt8) (acc : Int) : Int := l.foldl (fun a c => wrap64 (wrap64 (10 * a) + ((c.toNat : Int) - 48) % 256)) acc
theorem ba_inj {a b : ByteArray} (h : a.toList = b.toList) : a = b := by
  rw [ByteArray.toList_eq, ByteArray.toList_eq] at h
  cases a; cases b; congr 1; exact Array.toList_inj.1 h
set_option maxHeartbeats 2000000 in
set_option maxRecDepth 100000 in
theorem impl_readDigits.pathA1 (s t0 t1 u : ByteArray) (w : World) (HT : Hid (LaidC w)) (h1 : strings_Cut.f s ⟨#[46]⟩ = some (t0, t1, true)) (h2 : strings_TrimPrefix.f t0 ⟨#[45]⟩ = some u) (z : (0 < t1.size) = False) :
    Calls Tryz.prog 7 #[.string s] w fun e w' => e = .returned (.tuple #[.int .i64 0, .int .i64 0, .bool false]) ∧ Below w.heap.size w w' := by
  have HB := Aside0.mk (Below.refl w.heap.size w)
  have A1 := Aside0.mk h1
  have A2 := Aside0.mk h2
  clear h1 h2
  go_enter Tryz.func7, Tryz.ntmps7
  go_wp2_with (first | (go_at_call 15; refine (strings_Cut.calls s ⟨#[46]⟩ t0 t1 true _ (laidC_b HT.out HB.out) A1.out).mono ?_; rintro e w1 ⟨rfl, hb⟩; have n0_ := Aside0.mk (below_step HB.out hb); clear HB; have HB := n0_; clear n0_; clear hb) | (go_at_call 16; refine (strings_TrimPrefix.calls t0 ⟨#[45]⟩ u _ A2.out).mono ?_; rintro e w2 ⟨rfl, hb⟩; have n0_ := Aside0.mk (below_step HB.out hb); clear HB; have HB := n0_; clear n0_; clear hb))
  go_ret3
  exact ⟨rfl, by repeat (first | (with_reducible first | exact HB.out | apply below_alloc | apply pw_below_drewN | apply below_drew1) | exact HB.out)⟩
set_option maxHeartbeats 2000000 in
set_option maxRecDepth 100000 in
theorem impl_readDigits.pathA2 (s t0 t1 u : ByteArray) (w : World) (HT : Hid (LaidC w)) (h1 : strings_Cut.f s ⟨#[46]⟩ = some (t0, t1, false)) (h2 : strings_TrimPrefix.f t0 ⟨#[45]⟩ = some u) (z : (0 < t1.size) = True) :
    Calls Tryz.prog 7 #[.string s] w fun e w' => e = .returned (.tuple #[.int .i64 0, .int .i64 0, .bool false]) ∧ Below w.heap.size w w' := by
  have HB := Aside0.mk (Below.refl w.heap.size w)
  have A1 := Aside0.mk h1
  have A2 := Aside0.mk h2
  clear h1 h2
  go_enter Tryz.func7, Tryz.ntmps7
  go_wp2_with (first | (go_at_call 15; refine (strings_Cut.calls s ⟨#[46]⟩ t0 t1 false _ (laidC_b HT.out HB.out) A1.out).mono ?_; rintro e w1 ⟨rfl, hb⟩; have n0_ := Aside0.mk (below_step HB.out hb); clear HB; have HB := n0_; clear n0_; clear hb) | (go_at_call 16; refine (strings_TrimPrefix.calls t0 ⟨#[45]⟩ u _ A2.out).mono ?_; rintro e w2 ⟨rfl, hb⟩; have n0_ := Aside0.mk (below_step HB.out hb); clear HB; have HB := n0_; clear n0_; clear hb))
  go_ret3
  exact ⟨rfl, by repeat (first | (with_reducible first | exact HB.out | apply below_alloc | apply pw_below_drewN | apply below_drew1) | exact HB.out)⟩
set_option maxHeartbeats 2000000 in
set_option maxRecDepth 100000 in
theorem impl_readDigits.pathB (s t0 t1 u : ByteArray) (w : World) (HT : Hid (LaidC w)) (h1 : strings_Cut.f s ⟨#[46]⟩ = some (t0, t1, true)) (h2 : strings_TrimPrefix.f t0 ⟨#[45]⟩ = some u) (z : (0 < t1.size) = True) (h9 : decide ((9 : Int) < (t1.size : Int)) = true) :
    Calls Tryz.prog 7 #[.string s] w fun e w' => e = .returned (.tuple #[.int .i64 0, .int .i64 0, .bool false]) ∧ Below w.heap.size w w' := by
  have HB := Aside0.mk (Below.refl w.heap.size w)
  have A1 := Aside0.mk h1
  have A2 := Aside0.mk h2
  clear h1 h2
  go_enter Tryz.func7, Tryz.ntmps7
  go_wp2_with (first | (go_at_call 15; refine (strings_Cut.calls s ⟨#[46]⟩ t0 t1 true _ (laidC_b HT.out HB.out) A1.out).mono ?_; rintro e w1 ⟨rfl, hb⟩; have n0_ := Aside0.mk (below_step HB.out hb); clear HB; have HB := n0_; clear n0_; clear hb) | (go_at_call 16; refine (strings_TrimPrefix.calls t0 ⟨#[45]⟩ u _ A2.out).mono ?_; rintro e w2 ⟨rfl, hb⟩; have n0_ := Aside0.mk (below_step HB.out hb); clear HB; have HB := n0_; clear n0_; clear hb))
  go_ret3
  exact ⟨rfl, by repeat (first | (with_reducible first | exact HB.out | apply below_alloc | apply pw_below_drewN | apply below_drew1) | exact HB.out)⟩
set_option maxHeartbeats 2000000 in
set_option maxRecDepth 100000 in
theorem impl_readDigits.pathCfalse (s t0 t1 u : ByteArray) (w : World) (HT : Hid (LaidC w)) (h1 : strings_Cut.f s ⟨#[46]⟩ = some (t0, t1, false)) (h2 : strings_TrimPrefix.f t0 ⟨#[45]⟩ = some u) (z : (0 < t1.size) = False) (h9 : decide ((9 : Int) < (t1.size : Int)) = false) (h3 : impl_within.f (u.size : Int) 1 9 = some false) :
    Calls Tryz.prog 7 #[.string s] w fun e w' => e = .returned (.tuple #[.int .i64 0, .int .i64 0, .bool false]) ∧ Below w.heap.size w w' := by
  have HB := Aside0.mk (Below.refl w.heap.size w)
  have A1 := Aside0.mk h1
  have A2 := Aside0.mk h2
  clear h1 h2
  have A3 := Aside0.mk h3
  clear h3
  go_enter Tryz.func7, Tryz.ntmps7
  go_wp2_with (first | (go_at_call 15; refine (strings_Cut.calls s ⟨#[46]⟩ t0 t1 false _ (laidC_b HT.out HB.out) A1.out).mono ?_; rintro e w1 ⟨rfl, hb⟩; have n0_ := Aside0.mk (below_step HB.out hb); clear HB; have HB := n0_; clear n0_; clear hb) | (go_at_call 16; refine (strings_TrimPrefix.calls t0 ⟨#[45]⟩ u _ A2.out).mono ?_; rintro e w2 ⟨rfl, hb⟩; have n0_ := Aside0.mk (below_step HB.out hb); clear HB; have HB := n0_; clear n0_; clear hb) | (go_at_call 17; refine (impl_within.calls (u.size : Int) 1 9 false _ A3.out).mono ?_; rintro e w' ⟨rfl, ⟨nd, rfl⟩⟩))
  go_ret3
  exact ⟨rfl, by repeat (first | (with_reducible first | exact HB.out | apply below_alloc | apply pw_below_drewN | apply below_drew1) | exact HB.out)⟩
set_option maxHeartbeats 2000000 in
set_option maxRecDepth 100000 in
theorem impl_readDigits.pathDfalse (s t0 t1 u : ByteArray) (w : World) (HT : Hid (LaidC w)) (h1 : strings_Cut.f s ⟨#[46]⟩ = some (t0, t1, false)) (h2 : strings_TrimPrefix.f t0 ⟨#[45]⟩ = some u) (z : (0 < t1.size) = False) (h9 : decide ((9 : Int) < (t1.size : Int)) = false) (h3 : impl_within.f (u.size : Int) 1 9 = some true) (v : ByteArray) (hs : u.size + t1.size ≤ 9223372036854775807) (h4 : strings_Trim.f (u ++ t1) ⟨#[48, 49, 50, 51, 52, 53, 54, 55, 56, 57]⟩ = some v) (hv : v.toList.isEmpty = false) :
    Calls Tryz.prog 7 #[.string s] w fun e w' => e = .returned (.tuple #[.int .i64 0, .int .i64 0, .bool false]) ∧ Below w.heap.size w w' := by
  have HB := Aside0.mk (Below.refl w.heap.size w)
  have A1 := Aside0.mk h1
  have A2 := Aside0.mk h2
  clear h1 h2
  have A3 := Aside0.mk h3
  have A4 := Aside0.mk h4
  clear h3 h4
  have sz0 : u.size + t1.size ≤ 9223372036854775807 := hs
  have sz1 := eq_true sz0
  have sz2 := eq_false (Nat.not_lt.2 sz0)
  clear sz0 hs
  go_enter Tryz.func7, Tryz.ntmps7
  go_wp2_with (first | (go_at_call 15; refine (strings_Cut.calls s ⟨#[46]⟩ t0 t1 false _ (laidC_b HT.out HB.out) A1.out).mono ?_; rintro e w1 ⟨rfl, hb⟩; have n0_ := Aside0.mk (below_step HB.out hb); clear HB; have HB := n0_; clear n0_; clear hb) | (go_at_call 16; refine (strings_TrimPrefix.calls t0 ⟨#[45]⟩ u _ A2.out).mono ?_; rintro e w2 ⟨rfl, hb⟩; have n0_ := Aside0.mk (below_step HB.out hb); clear HB; have HB := n0_; clear n0_; clear hb) | (go_at_call 17; refine (impl_within.calls (u.size : Int) 1 9 true _ A3.out).mono ?_; rintro e w' ⟨rfl, ⟨nd, rfl⟩⟩) | (go_at_call 18; refine (strings_Trim.calls (u ++ t1) ⟨#[48, 49, 50, 51, 52, 53, 54, 55, 56, 57]⟩ v _ A4.out).mono ?_; rintro e w3 ⟨rfl, hb⟩; have n0_ := Aside0.mk (below_step (by repeat (first | (with_reducible first | exact HB.out | apply below_alloc | apply pw_below_drewN | apply below_drew1) | exact HB.out)) hb); clear HB; have HB := n0_; clear n0_; clear hb))
  go_ret3
  exact ⟨rfl, by repeat (first | (with_reducible first | exact HB.out | apply below_alloc | apply pw_below_drewN | apply below_drew1) | exact HB.out)⟩
set_option maxHeartbeats 2000000 in
set_option maxRecDepth 100000 in
theorem impl_readDigits.pathEfalse (s t0 t1 u : ByteArray) (w : World) (HT : Hid (LaidC w)) (h1 : strings_Cut.f s ⟨#[46]⟩ = some (t0, t1, false)) (h2 : strings_TrimPrefix.f t0 ⟨#[45]⟩ = some u) (z : (0 < t1.size) = False) (h9 : decide ((9 : Int) < (t1.size : Int)) = false) (h3 : impl_within.f (u.size : Int) 1 9 = some true) (v : ByteArray) (hs : u.size + t1.size ≤ 9223372036854775807) (h4 : strings_Trim.f (u ++ t1) ⟨#[48, 49, 50, 51, 52, 53, 54, 55, 56, 57]⟩ = some v) (hv : v.toList.isEmpty = true) (m : Int) (hm : m = if u = t0 then rdLoop (u ++ t1).data.toList 0 else wrap64 (-(rdLoop (u ++ t1).data.toList 0))) (x : ByteArray) (hx : impl_digitsText.f 40 m (t1.size : Int) = some x) :
    Calls Tryz.prog 7 #[.string s] w fun e w' => e = .returned (.tuple #[.int .i64 m, .int .i64 (t1.size : Int), .bool (x.toList == s.toList)]) ∧ Below w.heap.size w w' := by
  have HB := Aside0.mk (Below.refl w.heap.size w)
  have A1 := Aside0.mk h1
  have A2 := Aside0.mk h2
  clear h1 h2
  have A3 := Aside0.mk h3
  have A4 := Aside0.mk h4
  have A5 := Aside0.mk hx
  have A6 := Aside0.mk hm
  clear h3 h4 hx hm
  have sz0 : u.size + t1.size ≤ 9223372036854775807 := hs
  have sz1 := eq_true sz0
  have sz2 := eq_false (Nat.not_lt.2 sz0)
  clear sz0 hs
  go_enter Tryz.func7, Tryz.ntmps7
  go_upto_region 7 with (first | (go_at_call 15; refine (strings_Cut.calls s ⟨#[46]⟩ t0 t1 false _ (laidC_b HT.out HB.out) A1.out).mono ?_; rintro e w1 ⟨rfl, hb⟩; have n0_ := Aside0.mk (below_step HB.out hb); clear HB; have HB := n0_; clear n0_; clear hb) | (go_at_call 16; refine (strings_TrimPrefix.calls t0 ⟨#[45]⟩ u _ A2.out).mono ?_; rintro e w2 ⟨rfl, hb⟩; have n0_ := Aside0.mk (below_step HB.out hb); clear HB; have HB := n0_; clear n0_; clear hb) | (go_at_call 17; refine (impl_within.calls (u.size : Int) 1 9 true _ A3.out).mono ?_; rintro e w' ⟨rfl, ⟨nd, rfl⟩⟩) | (go_at_call 18; refine (strings_Trim.calls (u ++ t1) ⟨#[48, 49, 50, 51, 52, 53, 54, 55, 56, 57]⟩ v _ A4.out).mono ?_; rintro e w3 ⟨rfl, hb⟩; have n0_ := Aside0.mk (below_step (by repeat (first | (with_reducible first | exact HB.out | apply below_alloc | apply pw_below_drewN | apply below_drew1) | exact HB.out)) hb); clear HB; have HB := n0_; clear n0_; clear hb))
  clear A1 A2 A3 A4 z h9 hv
  have hcv := Lib.run_convert_string_bytes (P := Tryz.prog) w3 9 32 5 (u ++ t1) (u := .string) Tryz.underlying9 Tryz.underlying32 Tryz.underlying5
  have hB : ∀ j, j < (u ++ t1).size → (Lib.bytesWorld w3 5 (u ++ t1)).cell? ⟨w3.heap.size, j, none⟩ = some (.int .u8 ((u ++ t1).data.toList.getD j 0).toNat) := fun j hj => Lib.bytesWorld_cell w3 5 (u ++ t1) j hj
  have n0_ := Aside0.mk (bytes_below HB.out HB.out.size 5 (u ++ t1))
  clear HB
  have HB := n0_
  clear n0_
  obtain ⟨W1, hW1⟩ : ∃ W1, W1 = Lib.bytesWorld w3 5 (u ++ t1) := ⟨_, rfl⟩
  rw [← hW1] at hcv hB HB
  clear hW1
  obtain ⟨bs, hL⟩ : ∃ bs, bs = (u ++ t1).data.toList := ⟨_, rfl⟩
  have hLn : bs.length = (u ++ t1).size := by rw [hL]; rfl
  have hLm : (u ++ t1).size = u.size + t1.size := ByteArray.size_append
  rw [← hL] at hB A6
  clear hL
  go_wp2_with fail
  go_loop [10, 49] (fun vm vi => ∃ (k : Nat) (a : Int), vm = .int .i64 a ∧ vi = .int .i64 k ∧ k ≤ bs.length ∧ Hid (rdLoop bs 0 = rdLoop (bs.drop k) a))
    (fun _ vi => bs.length - (intOf vi).toNat)
  case atStart => exact ⟨0, 0, rfl, rfl, by omega, rfl⟩
  case round =>
    obtain ⟨k, a, rfl, rfl, hk, hh⟩ := hrel
    by_cases hkn : k < bs.length
    · have hc := hB k (by omega)
      have hdrop : bs.drop k = bs[k]'(by omega) :: bs.drop (k + 1) := List.drop_eq_getElem_cons (by omega)
      have hget : bs.getD k 0 = bs[k]'(by omega) := by simp [List.getD, List.getElem?_eq_getElem (show k < bs.length by omega)]
      have hd := hh.out
      rw [hdrop] at hd
      rw [hget] at hc
      generalize bs[k]'(by omega) = c at hc hd
      have hc256 : c.toNat < 256 := c.toNat_lt
      have HN : Hid (rdLoop bs 0 = rdLoop (bs.drop (k + 1)) (wrap64 (wrap64 (10 * a) + ((c.toNat : Int) - 48) % 256))) := hd
      clear hB hdrop hget hd
      have hlt0 : (k : Int) < (u.size : Int) + (t1.size : Int) := by omega
      have hw1 : wrap64 ((k : Int) + 1) = ((k + 1 : Nat) : Int) := by have := of_eq_true sz1; unfold wrap64; omega
      go_wp2_with fail
      refine ⟨⟨k + 1, _, rfl, (by rw [hw1]), by omega, HN⟩, ?_⟩
      rw [hw1]
      simp [intOf]
      omega
    · have hd := hh.out
      rw [List.drop_eq_nil_of_le (by omega)] at hd
      have hlt0 : ¬ (k : Int) < (u.size : Int) + (t1.size : Int) := by omega
      have e0 : rdLoop bs 0 = a := hd
      have hm := A6.out
      rw [e0] at hm
      clear A6 hB hd e0 hh
      go_upto_region 12 with fail
      by_cases c : u = t0
      · rw [if_pos c] at hm
        subst hm
        go_wp2_with (go_at_call 19; with_reducible refine (impl_digitsText.calls 40 m (t1.size : Int) x _ (laidC_b HT.out (by repeat (first | (with_reducible first | exact HB.out | apply below_alloc | apply pw_below_drewN | apply below_drew1) | exact HB.out))) A5.out).mono ?_; rintro e w9 ⟨rfl, hb⟩; have n0_ := Aside0.mk (below_step (by repeat (first | (with_reducible first | exact HB.out | apply below_alloc | apply pw_below_drewN | apply below_drew1) | exact HB.out)) hb); clear HB; have HB := n0_; clear n0_; clear hb)
        go_ret3
        exact ⟨rfl, by repeat (first | (with_reducible first | exact HB.out | apply below_alloc | apply pw_below_drewN | apply below_drew1) | exact HB.out)⟩
      · rw [if_neg c] at hm
        subst hm
        have c2 : (u.toList == t0.toList) = false := beq_eq_false_iff_ne.2 (fun h => c (ba_inj h))
        have c3 : (u.toList != t0.toList) = true := by rw [bne, c2]; rfl
        have c4 : ¬ u.toList = t0.toList := beq_eq_false_iff_ne.1 c2
        clear c
        go_wp2_with (go_at_call 19; with_reducible refine (impl_digitsText.calls 40 (wrap64 (-a)) (t1.size : Int) x _ (laidC_b HT.out (by repeat (first | (with_reducible first | exact HB.out | apply below_alloc | apply pw_below_drewN | apply below_drew1) | exact HB.out))) A5.out).mono ?_; rintro e w9 ⟨rfl, hb⟩; have n0_ := Aside0.mk (below_step (by repeat (first | (with_reducible first | exact HB.out | apply below_alloc | apply pw_below_drewN | apply below_drew1) | exact HB.out)) hb); clear HB; have HB := n0_; clear n0_; clear hb)
        go_ret3
        exact ⟨rfl, by repeat (first | (with_reducible first | exact HB.out | apply below_alloc | apply pw_below_drewN | apply below_drew1) | exact HB.out)⟩
set_option maxHeartbeats 2000000 in
set_option maxRecDepth 100000 in
theorem impl_readDigits.pathCtrue (s t0 t1 u : ByteArray) (w : World) (HT : Hid (LaidC w)) (h1 : strings_Cut.f s ⟨#[46]⟩ = some (t0, t1, true)) (h2 : strings_TrimPrefix.f t0 ⟨#[45]⟩ = some u) (z : (0 < t1.size) = True) (h9 : decide ((9 : Int) < (t1.size : Int)) = false) (h3 : impl_within.f (u.size : Int) 1 9 = some false) :
    Calls Tryz.prog 7 #[.string s] w fun e w' => e = .returned (.tuple #[.int .i64 0, .int .i64 0, .bool false]) ∧ Below w.heap.size w w' := by
  have HB := Aside0.mk (Below.refl w.heap.size w)
  have A1 := Aside0.mk h1
  have A2 := Aside0.mk h2
  clear h1 h2
  have A3 := Aside0.mk h3
  clear h3
  go_enter Tryz.func7, Tryz.ntmps7
  go_wp2_with (first | (go_at_call 15; refine (strings_Cut.calls s ⟨#[46]⟩ t0 t1 true _ (laidC_b HT.out HB.out) A1.out).mono ?_; rintro e w1 ⟨rfl, hb⟩; have n0_ := Aside0.mk (below_step HB.out hb); clear HB; have HB := n0_; clear n0_; clear hb) | (go_at_call 16; refine (strings_TrimPrefix.calls t0 ⟨#[45]⟩ u _ A2.out).mono ?_; rintro e w2 ⟨rfl, hb⟩; have n0_ := Aside0.mk (below_step HB.out hb); clear HB; have HB := n0_; clear n0_; clear hb) | (go_at_call 17; refine (impl_within.calls (u.size : Int) 1 9 false _ A3.out).mono ?_; rintro e w' ⟨rfl, ⟨nd, rfl⟩⟩))
  go_ret3
  exact ⟨rfl, by repeat (first | (with_reducible first | exact HB.out | apply below_alloc | apply pw_below_drewN | apply below_drew1) | exact HB.out)⟩
set_option maxHeartbeats 2000000 in
set_option maxRecDepth 100000 in
theorem impl_readDigits.pathDtrue (s t0 t1 u : ByteArray) (w : World) (HT : Hid (LaidC w)) (h1 : strings_Cut.f s ⟨#[46]⟩ = some (t0, t1, true)) (h2 : strings_TrimPrefix.f t0 ⟨#[45]⟩ = some u) (z : (0 < t1.size) = True) (h9 : decide ((9 : Int) < (t1.size : Int)) = false) (h3 : impl_within.f (u.size : Int) 1 9 = some true) (v : ByteArray) (hs : u.size + t1.size ≤ 9223372036854775807) (h4 : strings_Trim.f (u ++ t1) ⟨#[48, 49, 50, 51, 52, 53, 54, 55, 56, 57]⟩ = some v) (hv : v.toList.isEmpty = false) :
    Calls Tryz.prog 7 #[.string s] w fun e w' => e = .returned (.tuple #[.int .i64 0, .int .i64 0, .bool false]) ∧ Below w.heap.size w w' := by
  have HB := Aside0.mk (Below.refl w.heap.size w)
  have A1 := Aside0.mk h1
  have A2 := Aside0.mk h2
  clear h1 h2
  have A3 := Aside0.mk h3
  have A4 := Aside0.mk h4
  clear h3 h4
  have sz0 : u.size + t1.size ≤ 9223372036854775807 := hs
  have sz1 := eq_true sz0
  have sz2 := eq_false (Nat.not_lt.2 sz0)
  clear sz0 hs
  go_enter Tryz.func7, Tryz.ntmps7
  go_wp2_with (first | (go_at_call 15; refine (strings_Cut.calls s ⟨#[46]⟩ t0 t1 true _ (laidC_b HT.out HB.out) A1.out).mono ?_; rintro e w1 ⟨rfl, hb⟩; have n0_ := Aside0.mk (below_step HB.out hb); clear HB; have HB := n0_; clear n0_; clear hb) | (go_at_call 16; refine (strings_TrimPrefix.calls t0 ⟨#[45]⟩ u _ A2.out).mono ?_; rintro e w2 ⟨rfl, hb⟩; have n0_ := Aside0.mk (below_step HB.out hb); clear HB; have HB := n0_; clear n0_; clear hb) | (go_at_call 17; refine (impl_within.calls (u.size : Int) 1 9 true _ A3.out).mono ?_; rintro e w' ⟨rfl, ⟨nd, rfl⟩⟩) | (go_at_call 18; refine (strings_Trim.calls (u ++ t1) ⟨#[48, 49, 50, 51, 52, 53, 54, 55, 56, 57]⟩ v _ A4.out).mono ?_; rintro e w3 ⟨rfl, hb⟩; have n0_ := Aside0.mk (below_step (by repeat (first | (with_reducible first | exact HB.out | apply below_alloc | apply pw_below_drewN | apply below_drew1) | exact HB.out)) hb); clear HB; have HB := n0_; clear n0_; clear hb))
  go_ret3
  exact ⟨rfl, by repeat (first | (with_reducible first | exact HB.out | apply below_alloc | apply pw_below_drewN | apply below_drew1) | exact HB.out)⟩
set_option maxHeartbeats 2000000 in
set_option maxRecDepth 100000 in
theorem impl_readDigits.pathEtrue (s t0 t1 u : ByteArray) (w : World) (HT : Hid (LaidC w)) (h1 : strings_Cut.f s ⟨#[46]⟩ = some (t0, t1, true)) (h2 : strings_TrimPrefix.f t0 ⟨#[45]⟩ = some u) (z : (0 < t1.size) = True) (h9 : decide ((9 : Int) < (t1.size : Int)) = false) (h3 : impl_within.f (u.size : Int) 1 9 = some true) (v : ByteArray) (hs : u.size + t1.size ≤ 9223372036854775807) (h4 : strings_Trim.f (u ++ t1) ⟨#[48, 49, 50, 51, 52, 53, 54, 55, 56, 57]⟩ = some v) (hv : v.toList.isEmpty = true) (m : Int) (hm : m = if u = t0 then rdLoop (u ++ t1).data.toList 0 else wrap64 (-(rdLoop (u ++ t1).data.toList 0))) (x : ByteArray) (hx : impl_digitsText.f 40 m (t1.size : Int) = some x) :
    Calls Tryz.prog 7 #[.string s] w fun e w' => e = .returned (.tuple #[.int .i64 m, .int .i64 (t1.size : Int), .bool (x.toList == s.toList)]) ∧ Below w.heap.size w w' := by
  have HB := Aside0.mk (Below.refl w.heap.size w)
  have A1 := Aside0.mk h1
  have A2 := Aside0.mk h2
  clear h1 h2
  have A3 := Aside0.mk h3
  have A4 := Aside0.mk h4
  have A5 := Aside0.mk hx
  have A6 := Aside0.mk hm
  clear h3 h4 hx hm
  have sz0 : u.size + t1.size ≤ 9223372036854775807 := hs
  have sz1 := eq_true sz0
  have sz2 := eq_false (Nat.not_lt.2 sz0)
  clear sz0 hs
  go_enter Tryz.func7, Tryz.ntmps7
  go_upto_region 7 with (first | (go_at_call 15; refine (strings_Cut.calls s ⟨#[46]⟩ t0 t1 true _ (laidC_b HT.out HB.out) A1.out).mono ?_; rintro e w1 ⟨rfl, hb⟩; have n0_ := Aside0.mk (below_step HB.out hb); clear HB; have HB := n0_; clear n0_; clear hb) | (go_at_call 16; refine (strings_TrimPrefix.calls t0 ⟨#[45]⟩ u _ A2.out).mono ?_; rintro e w2 ⟨rfl, hb⟩; have n0_ := Aside0.mk (below_step HB.out hb); clear HB; have HB := n0_; clear n0_; clear hb) | (go_at_call 17; refine (impl_within.calls (u.size : Int) 1 9 true _ A3.out).mono ?_; rintro e w' ⟨rfl, ⟨nd, rfl⟩⟩) | (go_at_call 18; refine (strings_Trim.calls (u ++ t1) ⟨#[48, 49, 50, 51, 52, 53, 54, 55, 56, 57]⟩ v _ A4.out).mono ?_; rintro e w3 ⟨rfl, hb⟩; have n0_ := Aside0.mk (below_step (by repeat (first | (with_reducible first | exact HB.out | apply below_alloc | apply pw_below_drewN | apply below_drew1) | exact HB.out)) hb); clear HB; have HB := n0_; clear n0_; clear hb))
  clear A1 A2 A3 A4 z h9 hv
  have hcv := Lib.run_convert_string_bytes (P := Tryz.prog) w3 9 32 5 (u ++ t1) (u := .string) Tryz.underlying9 Tryz.underlying32 Tryz.underlying5
  have hB : ∀ j, j < (u ++ t1).size → (Lib.bytesWorld w3 5 (u ++ t1)).cell? ⟨w3.heap.size, j, none⟩ = some (.int .u8 ((u ++ t1).data.toList.getD j 0).toNat) := fun j hj => Lib.bytesWorld_cell w3 5 (u ++ t1) j hj
  have n0_ := Aside0.mk (bytes_below HB.out HB.out.size 5 (u ++ t1))
  clear HB
  have HB := n0_
  clear n0_
  obtain ⟨W1, hW1⟩ : ∃ W1, W1 = Lib.bytesWorld w3 5 (u ++ t1) := ⟨_, rfl⟩
  rw [← hW1] at hcv hB HB
  clear hW1
  obtain ⟨bs, hL⟩ : ∃ bs, bs = (u ++ t1).data.toList := ⟨_, rfl⟩
  have hLn : bs.length = (u ++ t1).size := by rw [hL]; rfl
  have hLm : (u ++ t1).size = u.size + t1.size := ByteArray.size_append
  rw [← hL] at hB A6
  clear hL
  go_wp2_with fail
  go_loop [10, 49] (fun vm vi => ∃ (k : Nat) (a : Int), vm = .int .i64 a ∧ vi = .int .i64 k ∧ k ≤ bs.length ∧ Hid (rdLoop bs 0 = rdLoop (bs.drop k) a))
    (fun _ vi => bs.length - (intOf vi).toNat)
  case atStart => exact ⟨0, 0, rfl, rfl, by omega, rfl⟩
  case round =>
    obtain ⟨k, a, rfl, rfl, hk, hh⟩ := hrel
    by_cases hkn : k < bs.length
    · have hc := hB k (by omega)
      have hdrop : bs.drop k = bs[k]'(by omega) :: bs.drop (k + 1) := List.drop_eq_getElem_cons (by omega)
      have hget : bs.getD k 0 = bs[k]'(by omega) := by simp [List.getD, List.getElem?_eq_getElem (show k < bs.length by omega)]
      have hd := hh.out
      rw [hdrop] at hd
      rw [hget] at hc
      generalize bs[k]'(by omega) = c at hc hd
      have hc256 : c.toNat < 256 := c.toNat_lt
      have HN : Hid (rdLoop bs 0 = rdLoop (bs.drop (k + 1)) (wrap64 (wrap64 (10 * a) + ((c.toNat : Int) - 48) % 256))) := hd
      clear hB hdrop hget hd
      have hlt0 : (k : Int) < (u.size : Int) + (t1.size : Int) := by omega
      have hw1 : wrap64 ((k : Int) + 1) = ((k + 1 : Nat) : Int) := by have := of_eq_true sz1; unfold wrap64; omega
      go_wp2_with fail
      refine ⟨⟨k + 1, _, rfl, (by rw [hw1]), by omega, HN⟩, ?_⟩
      rw [hw1]
      simp [intOf]
      omega
    · have hd := hh.out
      rw [List.drop_eq_nil_of_le (by omega)] at hd
      have hlt0 : ¬ (k : Int) < (u.size : Int) + (t1.size : Int) := by omega
      have e0 : rdLoop bs 0 = a := hd
      have hm := A6.out
      rw [e0] at hm
      clear A6 hB hd e0 hh
      go_upto_region 12 with fail
      by_cases c : u = t0
      · rw [if_pos c] at hm
        subst hm
        go_wp2_with (go_at_call 19; with_reducible refine (impl_digitsText.calls 40 m (t1.size : Int) x _ (laidC_b HT.out (by repeat (first | (with_reducible first | exact HB.out | apply below_alloc | apply pw_below_drewN | apply below_drew1) | exact HB.out))) A5.out).mono ?_; rintro e w9 ⟨rfl, hb⟩; have n0_ := Aside0.mk (below_step (by repeat (first | (with_reducible first | exact HB.out | apply below_alloc | apply pw_below_drewN | apply below_drew1) | exact HB.out)) hb); clear HB; have HB := n0_; clear n0_; clear hb)
        go_ret3
        exact ⟨rfl, by repeat (first | (with_reducible first | exact HB.out | apply below_alloc | apply pw_below_drewN | apply below_drew1) | exact HB.out)⟩
      · rw [if_neg c] at hm
        subst hm
        have c2 : (u.toList == t0.toList) = false := beq_eq_false_iff_ne.2 (fun h => c (ba_inj h))
        have c3 : (u.toList != t0.toList) = true := by rw [bne, c2]; rfl
        have c4 : ¬ u.toList = t0.toList := beq_eq_false_iff_ne.1 c2
        clear c
        go_wp2_with (go_at_call 19; with_reducible refine (impl_digitsText.calls 40 (wrap64 (-a)) (t1.size : Int) x _ (laidC_b HT.out (by repeat (first | (with_reducible first | exact HB.out | apply below_alloc | apply pw_below_drewN | apply below_drew1) | exact HB.out))) A5.out).mono ?_; rintro e w9 ⟨rfl, hb⟩; have n0_ := Aside0.mk (below_step (by repeat (first | (with_reducible first | exact HB.out | apply below_alloc | apply pw_below_drewN | apply below_drew1) | exact HB.out)) hb); clear HB; have HB := n0_; clear n0_; clear hb)
        go_ret3
        exact ⟨rfl, by repeat (first | (with_reducible first | exact HB.out | apply below_alloc | apply pw_below_drewN | apply below_drew1) | exact HB.out)⟩
/-- What readDigits gives: the number without its point, how many digits lie behind it, whether the text is its number's own. -/
def rdM (t0 t1 u : ByteArray) : Int := if u = t0 then rdLoop (u ++ t1).data.toList 0 else wrap64 (-(rdLoop (u ++ t1).data.toList 0))
def impl_readDigits.f (s : ByteArray) : Option (Int × Int × Bool) := (strings_Cut.f s ⟨#[46]⟩).bind fun p => (strings_TrimPrefix.f p.1 ⟨#[45]⟩).bind fun u => if p.2.2 = decide (0 < p.2.1.size) then (if p.2.1.size ≤ 9 then (if 1 ≤ u.size ∧ u.size ≤ 9 then ((strings_Trim.f (u ++ p.2.1) ⟨#[48, 49, 50, 51, 52, 53, 54, 55, 56, 57]⟩).bind fun v => if v.toList.isEmpty = true then ((impl_digitsText.f 40 (rdM p.1 p.2.1 u) (p.2.1.size : Int)).bind fun x => some (rdM p.1 p.2.1 u, (p.2.1.size : Int), x.toList == s.toList)) else some (0, 0, false)) else some (0, 0, false)) else some (0, 0, false)) else some (0, 0, false)
theorem impl_readDigits.calls (s : ByteArray) (r0 r1 : Int) (r2 : Bool) (w : World) (HT : Hid (LaidC w)) (h : impl_readDigits.f s = some (r0, r1, r2)) :
    Calls Tryz.prog 7 #[.string s] w fun e w' => e = .returned (.tuple #[.int .i64 r0, .int .i64 r1, .bool r2]) ∧ Below w.heap.size w w' := by
  unfold impl_readDigits.f at h
  obtain ⟨⟨t0, t1, pt⟩, h1, h⟩ := Option.bind_eq_some_iff.mp h
  obtain ⟨u, h2, h⟩ := Option.bind_eq_some_iff.mp h
  simp only [] at h
  by_cases z : 0 < t1.size
  · have zt := eq_true z
    rw [decide_eq_true z] at h
    cases pt with
    | false =>
      rw [if_neg (by decide)] at h
      simp only [Option.some.injEq, Prod.mk.injEq] at h
      obtain ⟨rfl, rfl, rfl⟩ := h
      exact impl_readDigits.pathA2 s t0 t1 u w HT h1 h2 zt
    | true =>
      rw [if_pos rfl] at h
      by_cases h9 : t1.size ≤ 9
      · rw [if_pos h9] at h
        have d9 : decide ((9 : Int) < (t1.size : Int)) = false := decide_eq_false (by omega)
        by_cases hu : 1 ≤ u.size ∧ u.size ≤ 9
        · rw [if_pos hu] at h
          have h3 : impl_within.f (u.size : Int) 1 9 = some true := by unfold impl_within.f; rw [if_pos (by omega), decide_eq_true (by omega)]
          obtain ⟨v, h4, h⟩ := Option.bind_eq_some_iff.mp h
          by_cases hv : v.toList.isEmpty = true
          · rw [if_pos hv] at h
            obtain ⟨x, h5, h⟩ := Option.bind_eq_some_iff.mp h
            simp only [Option.some.injEq, Prod.mk.injEq] at h
            obtain ⟨rfl, rfl, rfl⟩ := h
            exact impl_readDigits.pathEtrue s t0 t1 u w HT h1 h2 zt d9 h3 v (by omega) h4 hv _ rfl x h5
          · rw [if_neg hv] at h
            simp only [Option.some.injEq, Prod.mk.injEq] at h
            obtain ⟨rfl, rfl, rfl⟩ := h
            exact impl_readDigits.pathDtrue s t0 t1 u w HT h1 h2 zt d9 h3 v (by omega) h4 (Bool.eq_false_iff.2 hv)
        · rw [if_neg hu] at h
          have h3 : impl_within.f (u.size : Int) 1 9 = some false := by
            unfold impl_within.f
            by_cases c : (u.size : Int) ≥ 1
            · rw [if_pos c, decide_eq_false (by omega)]
            · rw [if_neg c]
          simp only [Option.some.injEq, Prod.mk.injEq] at h
          obtain ⟨rfl, rfl, rfl⟩ := h
          exact impl_readDigits.pathCtrue s t0 t1 u w HT h1 h2 zt d9 h3
      · rw [if_neg h9] at h
        simp only [Option.some.injEq, Prod.mk.injEq] at h
        obtain ⟨rfl, rfl, rfl⟩ := h
        exact impl_readDigits.pathB s t0 t1 u w HT h1 h2 zt (decide_eq_true (by omega))
  · have zt := eq_false z
    rw [decide_eq_false z] at h
    cases pt with
    | true =>
      rw [if_neg (by decide)] at h
      simp only [Option.some.injEq, Prod.mk.injEq] at h
      obtain ⟨rfl, rfl, rfl⟩ := h
      exact impl_readDigits.pathA1 s t0 t1 u w HT h1 h2 zt
    | false =>
      rw [if_pos rfl, if_pos (by omega)] at h
      have d9 : decide ((9 : Int) < (t1.size : Int)) = false := decide_eq_false (by omega)
      by_cases hu : 1 ≤ u.size ∧ u.size ≤ 9
      · rw [if_pos hu] at h
        have h3 : impl_within.f (u.size : Int) 1 9 = some true := by unfold impl_within.f; rw [if_pos (by omega), decide_eq_true (by omega)]
        obtain ⟨v, h4, h⟩ := Option.bind_eq_some_iff.mp h
        by_cases hv : v.toList.isEmpty = true
        · rw [if_pos hv] at h
          obtain ⟨x, h5, h⟩ := Option.bind_eq_some_iff.mp h
          simp only [Option.some.injEq, Prod.mk.injEq] at h
          obtain ⟨rfl, rfl, rfl⟩ := h
          exact impl_readDigits.pathEfalse s t0 t1 u w HT h1 h2 zt d9 h3 v (by omega) h4 hv _ rfl x h5
        · rw [if_neg hv] at h
          simp only [Option.some.injEq, Prod.mk.injEq] at h
          obtain ⟨rfl, rfl, rfl⟩ := h
          exact impl_readDigits.pathDfalse s t0 t1 u w HT h1 h2 zt d9 h3 v (by omega) h4 (Bool.eq_false_iff.2 hv)
      · rw [if_neg hu] at h
        have h3 : impl_within.f (u.size : Int) 1 9 = some false := by
          unfold impl_within.f
          by_cases c : (u.size : Int) ≥ 1
          · rw [if_pos c, decide_eq_false (by omega)]
          · rw [if_neg c]
        simp only [Option.some.injEq, Prod.mk.injEq] at h
        obtain ⟨rfl, rfl, rfl⟩ := h
        exact impl_readDigits.pathCfalse s t0 t1 u w HT h1 h2 zt d9 h3

/-! ### impl_ValidFix: function 38 -/
def impl_ValidFix.f (a0 : Int) : Option (Bool) := (impl_within.f a0 (-1152921504606846976) 1152921504606846976).bind fun t195 => (some t195)
set_option maxHeartbeats 8000000 in
set_option maxRecDepth 100000 in
theorem impl_ValidFix.calls (a0 : Int) (r : Bool) (w : World) (h : impl_ValidFix.f a0 = some r) :
    Calls Tryz.prog 38 #[.int .i64 a0] w fun e w' => e = .returned (.bool r) ∧ Drawn0 w w' := by
  have H : ((impl_within.f a0 (-1152921504606846976) 1152921504606846976).bind fun t195 => (some t195)) = some r := h
  clear h
  replace H := Option.bind_eq_some_iff.mp H
  obtain ⟨t195, A20, H⟩ := H
  replace H : (some t195) = some r := H
  have A2 := Aside0.mk A20
  clear A20
  obtain rfl := Option.some.inj H
  go_enter Tryz.func38, Tryz.ntmps38
  go_wp2_with (first | ((with_reducible refine gate_callee (f := 17) rfl ?_); refine goesL_ (some 4) rfl rfl Tryz.func17 (by kernel_rfl) rfl #[.int .i64 a0, .int .i64 (-1152921504606846976), .int .i64 1152921504606846976] rfl (by (try simp only [List.map_toArray, List.map_cons, List.map_nil]); first | done | rfl | (simp only [List.length_drop, List.length_take]; rfl)) ?_; (with_reducible refine (impl_within.calls a0 (-1152921504606846976) 1152921504606846976 t195 _ A2.out).mono ?_); rintro e w' ⟨rfl, ⟨nd, rfl⟩⟩; refine ⟨_, rfl, ?_⟩))
  go_ret
  exact ⟨by first | rfl | (simp; done) | (simp [*]; done), by repeat (first | exact Drawn0.refl _ | apply Drawn0.step)⟩

/-! ### impl_fixed: function 20 -/
def impl_fixed.f (a0 : Int) (a1 : Bool) : Option (Int × Bool) := if a1 = true then ((impl_ValidFix.f a0).bind fun t196 => (if t196 = true then (some (a0, true)) else (some (0, false)))) else (some (0, false))
set_option maxHeartbeats 8000000 in
set_option maxRecDepth 100000 in
theorem impl_fixed.calls (a0 : Int) (a1 : Bool) (r1 : Int) (r2 : Bool) (w : World) (h : impl_fixed.f a0 a1 = some (r1, r2)) :
    Calls Tryz.prog 20 #[.int .i64 a0, .bool a1] w fun e w' => e = .returned (.tuple #[.int .i64 r1, .bool r2]) ∧ Drawn0 w w' := by
  have H : (if a1 = true then ((impl_ValidFix.f a0).bind fun t196 => (if t196 = true then (some (a0, true)) else (some (0, false)))) else (some (0, false))) = some (r1, r2) := h
  clear h
  by_cases c3 : a1 = true
  · subst c3
    have H1 : ((impl_ValidFix.f a0).bind fun t196 => (if t196 = true then (some (a0, true)) else (some (0, false)))) = some (r1, r2) := by rw [if_pos rfl] at H; exact H
    clear H
    have H := H1
    clear H1
    replace H := Option.bind_eq_some_iff.mp H
    obtain ⟨t196, A40, H⟩ := H
    replace H : (if t196 = true then (some (a0, true)) else (some (0, false))) = some (r1, r2) := H
    have A4 := Aside0.mk A40
    clear A40
    by_cases c5 : t196 = true
    · subst c5
      have H1 : (some (a0, true)) = some (r1, r2) := by rw [if_pos rfl] at H; exact H
      clear H
      have H := H1
      clear H1
      simp only [Option.some.injEq, Prod.mk.injEq] at H
      obtain ⟨rfl, rfl⟩ := H
      go_enter Tryz.func20, Tryz.ntmps20
      go_wp2_with (first | (go_at_call 38; (with_reducible refine (impl_ValidFix.calls a0 true _ A4.out).mono ?_); rintro e w' ⟨rfl, ⟨nd, rfl⟩⟩))
      go_ret2
      exact ⟨by first | rfl | (simp; done) | (simp [*]; done), by repeat (first | exact Drawn0.refl _ | apply Drawn0.step)⟩
    · replace c5 := Bool.eq_false_iff.mpr c5
      subst c5
      have H1 : (some (0, false)) = some (r1, r2) := by rw [if_neg (show ¬ (false = true) by decide)] at H; exact H
      clear H
      have H := H1
      clear H1
      simp only [Option.some.injEq, Prod.mk.injEq] at H
      obtain ⟨rfl, rfl⟩ := H
      go_enter Tryz.func20, Tryz.ntmps20
      go_wp2_with (first | (go_at_call 38; (with_reducible refine (impl_ValidFix.calls a0 false _ A4.out).mono ?_); rintro e w' ⟨rfl, ⟨nd, rfl⟩⟩))
      go_ret2
      exact ⟨by first | rfl | (simp; done) | (simp [*]; done), by repeat (first | exact Drawn0.refl _ | apply Drawn0.step)⟩
  · replace c3 := Bool.eq_false_iff.mpr c3
    subst c3
    have H1 : (some (0, false)) = some (r1, r2) := by rw [if_neg (show ¬ (false = true) by decide)] at H; exact H
    clear H
    have H := H1
    clear H1
    simp only [Option.some.injEq, Prod.mk.injEq] at H
    obtain ⟨rfl, rfl⟩ := H
    go_enter Tryz.func20, Tryz.ntmps20
    go_wp2
    go_ret2
    exact ⟨by first | rfl | (simp; done) | (simp [*]; done), by repeat (first | exact Drawn0.refl _ | apply Drawn0.step)⟩

end Go.Proofs.YtcaabdilfnicfaaGreatDoor.PFnExactReadFix
