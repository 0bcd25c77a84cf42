/- Functions that a law reaches, as Lean functions, and that the Go text's calls come to just these; no condition but that the Lean function's value is told. (Written by the kit's print.py over contracts of this session.) -/
import Derived.Test.YtnlmndhmjceajaaDoorPFnFixedx0
import Derived.Test.YtnlmndhmjceajaaDoorPFnFixedx2
import Derived.Test.YtnlmndhmjceajaaDoorPFnFixedx3
import Derived.Test.YtnlmndhmjceajaaDoorPFnFixedx4
import Derived.Test.YtnlmndhmjceajaaDoorPFnFixedx5
namespace Go.Proofs.YtnlmndhmjceajaaDoor.PFnFixed
open Go.RowKit Go.Proofs.YtnlmndhmjceajaaDoor.Ext Go.Proofs.YtnlmndhmjceajaaDoorW.PrintWords Go.Proofs.YtnlmndhmjceajaaDoorW.PrintLast Go.Proofs.YtnlmndhmjceajaaDoorW.PrintMore
attribute [local go_sem] max2_int min2_int max_two min_two max_three min_three max_four min_four   -- for this text's walks alone
set_option linter.unusedVariables false
set_option linter.unusedSimpArgs false

/-! ### impl_digitsText: function 29 -/
def impl_digitsText.j0 : Nat → Int → Int → ByteArray → Option (ByteArray)
  | 0, _, _, _ => none
  | k + 1, x0, x1, x5 => (impl_powerOfTen.f k x1).bind fun t251 => (if t251 = 0 then (none) else ((impl_Decimal.f (wrap64 (Int.tdiv x0 t251))).bind fun t252 => (if x5.size + t252.size ≤ 9223372036854775807 then (if x1 = 0 then (some (x5 ++ t252)) else ((impl_Decimal.f (Int.tmod x0 t251)).bind fun t253 => (if (x5 ++ t252).size + 1 ≤ 9223372036854775807 then ((strings_Repeat.f (⟨#[48]⟩ : ByteArray) (wrap64 (x1 - (t253.size : Int)))).bind fun t254 => (if ((x5 ++ t252) ++ (⟨#[46]⟩ : ByteArray)).size + t254.size ≤ 9223372036854775807 then (if (((x5 ++ t252) ++ (⟨#[46]⟩ : ByteArray)) ++ t254).size + t253.size ≤ 9223372036854775807 then (some ((((x5 ++ t252) ++ (⟨#[46]⟩ : ByteArray)) ++ t254) ++ t253)) else (none)) else (none))) else (none)))) else (none))))
def impl_digitsText.f (k : Nat) (a0 : Int) (a1 : Int) : Option (ByteArray) := if a0 < 0 then (impl_digitsText.j0 k (wrap64 (-a0)) a1 (⟨#[45]⟩ : ByteArray)) else (impl_digitsText.j0 k a0 a1 (⟨#[]⟩ : ByteArray))
theorem impl_digitsText.mono_l : ∀ k, (∀ y0 y1 y2, LeO (impl_digitsText.j0 k y0 y1 y2) (impl_digitsText.j0 (k + 1) y0 y1 y2))
  | 0 => fun _ _ _ r h => by simp [impl_digitsText.j0] at h
  | k + 1 => by
    have ih0 := impl_digitsText.mono_l k
    · intro y0 y1 y2
      unfold impl_digitsText.j0
      repeat' first
      | (with_reducible exact ih0 _ _ _)
      | (with_reducible exact impl_powerOfTen.mono _ _)
      | (with_reducible exact LeO.refl _)
      | (with_reducible exact LeO.none _)
      | (with_reducible refine LeO.ite ?_ ?_)
      | (with_reducible refine LeO.bind ?_ (fun _ => ?_))
      | exact ih0 _ _ _
      | exact impl_powerOfTen.mono _ _
      | exact LeO.none _
      | refine LeO.ite ?_ ?_
      | refine LeO.bind ?_ (fun _ => ?_)
theorem impl_digitsText.mono : ∀ a0 a1 k, LeO (impl_digitsText.f k a0 a1) (impl_digitsText.f (k + 1) a0 a1) := by
  intro a0 a1 k
  have ih0 := impl_digitsText.mono_l k
  unfold impl_digitsText.f
  repeat' first
      | (with_reducible exact ih0 _ _ _)
      | (with_reducible exact impl_powerOfTen.mono _ _)
      | (with_reducible exact LeO.refl _)
      | (with_reducible exact LeO.none _)
      | (with_reducible refine LeO.ite ?_ ?_)
      | (with_reducible refine LeO.bind ?_ (fun _ => ?_))
      | exact ih0 _ _ _
      | exact impl_powerOfTen.mono _ _
      | exact LeO.none _
      | refine LeO.ite ?_ ?_
      | refine LeO.bind ?_ (fun _ => ?_)
set_option maxHeartbeats 8000000 in
set_option maxRecDepth 100000 in
theorem impl_digitsText.calls (k : Nat) (a0 : Int) (a1 : Int) (r : ByteArray) (w : World) (HT : Hid (LaidC w)) (h : impl_digitsText.f k a0 a1 = some r) :
    Calls Tryd.prog 29 #[.int .i64 a0, .int .i64 a1] w fun e w' => e = .returned (.string r) ∧ Below w.heap.size w w' := by
  have HB := Aside0.mk (Below.refl w.heap.size w)
  have H : (if a0 < 0 then (impl_digitsText.j0 k (wrap64 (-a0)) a1 (⟨#[45]⟩ : ByteArray)) else (impl_digitsText.j0 k a0 a1 (⟨#[]⟩ : ByteArray))) = some r := h
  clear h
  have HC3 := Aside0.mk H
  clear H
  go_enter Tryd.func29, Tryd.ntmps29
  go_upto_if 10 with (fail)
  go_cut [0, 5] (fun v0 v5 wc => ∃ (kq : Nat) (x0_2 : Int) (x5_2 : ByteArray), v0 = .int .i64 x0_2 ∧ v5 = .string x5_2 ∧ Aside0 (impl_digitsText.j0 kq x0_2 a1 x5_2 = some r) ∧ Aside0 (kq ≤ k) ∧ Aside0 (Below w.heap.size w wc))
  case first =>
    have H := HC3.out
    clear HC3
    by_cases c4 : a0 < 0
    · rw [if_pos c4] at H
      have c4b0 : decide (a0 < 0) = true := decide_eq_true c4
      clear c4
      (first | rw [c4b0] | (simp only [i64_w, i32_w]; rw [c4b0]) | skip)
      have H' := Aside0.mk H
      clear H
      go_wp2
      go_meet
      case rel => exact ⟨_, (wrap64 (-a0)), ((⟨#[45]⟩ : ByteArray)), (by first | rfl | (simp; done) | (simp [*]; done)), (by first | rfl | (simp; done) | (simp [*]; done)), H', ⟨by first | omega | exact Nat.le_refl _⟩, ⟨by repeat (first | (with_reducible first | exact HB.out | apply below_alloc | apply pw_below_drewN | apply below_drew1) | exact HB.out)⟩⟩
    · rw [if_neg c4] at H
      have c4b0 : decide (a0 < 0) = false := decide_eq_false c4
      clear c4
      (first | rw [c4b0] | (simp only [i64_w, i32_w]; rw [c4b0]) | skip)
      have H' := Aside0.mk H
      clear H
      go_wp2
      go_meet
      case rel => exact ⟨_, (a0), ((⟨#[]⟩ : ByteArray)), (by first | rfl | (simp; done) | (simp [*]; done)), (by first | rfl | (simp; done) | (simp [*]; done)), H', ⟨by first | omega | exact Nat.le_refl _⟩, ⟨by repeat (first | (with_reducible first | exact HB.out | apply below_alloc | apply pw_below_drewN | apply below_drew1) | exact HB.out)⟩⟩
  case rest =>
    clear HC3
    try clear c2
    try clear p2
    try clear c4
    try clear c4b0
    obtain ⟨kq, x0_2, x5_2, rfl, rfl, HA, HJ2, HB⟩ := hcut
    cases kq with
    | zero => exact absurd HA.out (by simp [impl_digitsText.j0])
    | succ kj2 =>
      have H := HA.out
      clear HA
      simp only [impl_digitsText.j0] at H
      replace H := Option.bind_eq_some_iff.mp H
      obtain ⟨t251, A50, H⟩ := H
      replace H : (if t251 = 0 then (none) else ((impl_Decimal.f (wrap64 (Int.tdiv x0_2 t251))).bind fun t252 => (if x5_2.size + t252.size ≤ 9223372036854775807 then (if a1 = 0 then (some (x5_2 ++ t252)) else ((impl_Decimal.f (Int.tmod x0_2 t251)).bind fun t253 => (if (x5_2 ++ t252).size + 1 ≤ 9223372036854775807 then ((strings_Repeat.f (⟨#[48]⟩ : ByteArray) (wrap64 (a1 - (t253.size : Int)))).bind fun t254 => (if ((x5_2 ++ t252) ++ (⟨#[46]⟩ : ByteArray)).size + t254.size ≤ 9223372036854775807 then (if (((x5_2 ++ t252) ++ (⟨#[46]⟩ : ByteArray)) ++ t254).size + t253.size ≤ 9223372036854775807 then (some ((((x5_2 ++ t252) ++ (⟨#[46]⟩ : ByteArray)) ++ t254) ++ t253)) else (none)) else (none))) else (none)))) else (none)))) = some r := H
      have A5 := Aside0.mk A50
      clear A50
      by_cases c6 : t251 = 0
      · rw [if_pos c6] at H
        exact absurd H (by simp)
      · rw [if_neg c6] at H
        have c6b0 : (t251 == 0) = false := beq_eq_false_iff_ne.mpr c6
        have c6b1 : (t251 != 0) = true := bne_iff_ne.mpr c6
        replace H := Option.bind_eq_some_iff.mp H
        obtain ⟨t252, A70, H⟩ := H
        replace H : (if x5_2.size + t252.size ≤ 9223372036854775807 then (if a1 = 0 then (some (x5_2 ++ t252)) else ((impl_Decimal.f (Int.tmod x0_2 t251)).bind fun t253 => (if (x5_2 ++ t252).size + 1 ≤ 9223372036854775807 then ((strings_Repeat.f (⟨#[48]⟩ : ByteArray) (wrap64 (a1 - (t253.size : Int)))).bind fun t254 => (if ((x5_2 ++ t252) ++ (⟨#[46]⟩ : ByteArray)).size + t254.size ≤ 9223372036854775807 then (if (((x5_2 ++ t252) ++ (⟨#[46]⟩ : ByteArray)) ++ t254).size + t253.size ≤ 9223372036854775807 then (some ((((x5_2 ++ t252) ++ (⟨#[46]⟩ : ByteArray)) ++ t254) ++ t253)) else (none)) else (none))) else (none)))) else (none)) = some r := H
        have A7 := Aside0.mk A70
        clear A70
        by_cases c8 : x5_2.size + t252.size ≤ 9223372036854775807
        · rw [if_pos c8] at H
          have c8b0 := eq_true c8
          have c8b1 : decide (x5_2.size + t252.size ≤ 9223372036854775807) = true := decide_eq_true c8
          try have c8b2 : (9223372036854775807 < x5_2.size + t252.size) = False := eq_false (Nat.not_lt.2 c8)
          by_cases c9 : a1 = 0
          · rw [if_pos c9] at H
            have c9b0 : (a1 == 0) = true := beq_iff_eq.mpr c9
            have c9b1 : (a1 != 0) = false := bne_eq_false_iff_eq.mpr c9
            clear c9
            obtain rfl := Option.some.inj H
            go_wp2_with (first | ((with_reducible refine gate_callee (f := 26) rfl ?_); refine goesL_ (some 14) rfl rfl Tryd.func26 (by kernel_rfl) rfl #[.int .i64 a1] rfl (by (try simp only [List.map_toArray, List.map_cons, List.map_nil]); first | done | rfl | (simp only [List.length_drop, List.length_take]; rfl)) ?_; (with_reducible refine (impl_powerOfTen.calls kj2 a1 t251 _ A5.out).mono ?_); rintro e w' ⟨rfl, ⟨nd, rfl⟩⟩; refine ⟨_, rfl, ?_⟩) | ((with_reducible refine gate_callee (f := 42) rfl ?_); refine goesL_ (some 19) rfl rfl Tryd.func42 (by kernel_rfl) rfl #[.int .i64 (wrap64 (Int.tdiv x0_2 t251))] rfl (by (try simp only [List.map_toArray, List.map_cons, List.map_nil]); first | done | rfl | (simp only [List.length_drop, List.length_take]; rfl)) ?_; (with_reducible refine (impl_Decimal.calls (wrap64 (Int.tdiv x0_2 t251)) t252 _ (laidC_b HT.out (by repeat (first | (with_reducible first | exact HB.out | apply below_alloc | apply pw_below_drewN | apply below_drew1) | exact HB.out))) A7.out).mono ?_); rintro e w10 ⟨rfl, hb⟩; refine ⟨_, rfl, ?_⟩; have n0_ := Aside0.mk (below_step (by repeat (first | (with_reducible first | exact HB.out | apply below_alloc | apply pw_below_drewN | apply below_drew1) | exact HB.out)) hb); clear HB; have HB := n0_; clear n0_; (try clear hb); (try clear hb2); (try clear hk); (try clear hi)))
            go_ret
            exact ⟨by first | rfl | (simp [errW_none, errW_some] <;> rfl) | (simp [*, errW_none, errW_some] <;> rfl), by repeat (first | (with_reducible first | exact HB.out | apply below_alloc | apply pw_below_drewN | apply below_drew1) | exact HB.out)⟩
          · rw [if_neg c9] at H
            have c9b0 : (a1 == 0) = false := beq_eq_false_iff_ne.mpr c9
            have c9b1 : (a1 != 0) = true := bne_iff_ne.mpr c9
            replace H := Option.bind_eq_some_iff.mp H
            obtain ⟨t253, A110, H⟩ := H
            replace H : (if (x5_2 ++ t252).size + 1 ≤ 9223372036854775807 then ((strings_Repeat.f (⟨#[48]⟩ : ByteArray) (wrap64 (a1 - (t253.size : Int)))).bind fun t254 => (if ((x5_2 ++ t252) ++ (⟨#[46]⟩ : ByteArray)).size + t254.size ≤ 9223372036854775807 then (if (((x5_2 ++ t252) ++ (⟨#[46]⟩ : ByteArray)) ++ t254).size + t253.size ≤ 9223372036854775807 then (some ((((x5_2 ++ t252) ++ (⟨#[46]⟩ : ByteArray)) ++ t254) ++ t253)) else (none)) else (none))) else (none)) = some r := H
            have A11 := Aside0.mk A110
            clear A110
            by_cases c12 : (x5_2 ++ t252).size + 1 ≤ 9223372036854775807
            · rw [if_pos c12] at H
              have c12b0 := eq_true c12
              have c12b1 : decide ((x5_2 ++ t252).size + 1 ≤ 9223372036854775807) = true := decide_eq_true c12
              try have c12b2 : (9223372036854775807 < (x5_2 ++ t252).size + 1) = False := eq_false (Nat.not_lt.2 c12)
              try (have c12d := c12; simp only [ByteArray.size_append] at c12d; have c12d0 := eq_true c12d; have c12d1 := eq_false (Nat.not_lt.2 c12d))
              try (have c12e := c12; simp only [ByteArray.size_append, size1, size0, Nat.zero_add, Nat.add_zero] at c12e; have c12e0 := eq_true c12e; have c12e1 := eq_false (Nat.not_lt.2 c12e))
              replace H := Option.bind_eq_some_iff.mp H
              obtain ⟨t254, A130, H⟩ := H
              replace H : (if ((x5_2 ++ t252) ++ (⟨#[46]⟩ : ByteArray)).size + t254.size ≤ 9223372036854775807 then (if (((x5_2 ++ t252) ++ (⟨#[46]⟩ : ByteArray)) ++ t254).size + t253.size ≤ 9223372036854775807 then (some ((((x5_2 ++ t252) ++ (⟨#[46]⟩ : ByteArray)) ++ t254) ++ t253)) else (none)) else (none)) = some r := H
              have A13 := Aside0.mk A130
              clear A130
              by_cases c14 : ((x5_2 ++ t252) ++ (⟨#[46]⟩ : ByteArray)).size + t254.size ≤ 9223372036854775807
              · rw [if_pos c14] at H
                have c14b0 := eq_true c14
                have c14b1 : decide (((x5_2 ++ t252) ++ (⟨#[46]⟩ : ByteArray)).size + t254.size ≤ 9223372036854775807) = true := decide_eq_true c14
                try have c14b2 : (9223372036854775807 < ((x5_2 ++ t252) ++ (⟨#[46]⟩ : ByteArray)).size + t254.size) = False := eq_false (Nat.not_lt.2 c14)
                try (have c14d := c14; simp only [ByteArray.size_append] at c14d; have c14d0 := eq_true c14d; have c14d1 := eq_false (Nat.not_lt.2 c14d))
                try (have c14e := c14; simp only [ByteArray.size_append, size1, size0, Nat.zero_add, Nat.add_zero] at c14e; have c14e0 := eq_true c14e; have c14e1 := eq_false (Nat.not_lt.2 c14e))
                by_cases c15 : (((x5_2 ++ t252) ++ (⟨#[46]⟩ : ByteArray)) ++ t254).size + t253.size ≤ 9223372036854775807
                · rw [if_pos c15] at H
                  have c15b0 := eq_true c15
                  have c15b1 : decide ((((x5_2 ++ t252) ++ (⟨#[46]⟩ : ByteArray)) ++ t254).size + t253.size ≤ 9223372036854775807) = true := decide_eq_true c15
                  try have c15b2 : (9223372036854775807 < (((x5_2 ++ t252) ++ (⟨#[46]⟩ : ByteArray)) ++ t254).size + t253.size) = False := eq_false (Nat.not_lt.2 c15)
                  try (have c15d := c15; simp only [ByteArray.size_append] at c15d; have c15d0 := eq_true c15d; have c15d1 := eq_false (Nat.not_lt.2 c15d))
                  try (have c15e := c15; simp only [ByteArray.size_append, size1, size0, Nat.zero_add, Nat.add_zero] at c15e; have c15e0 := eq_true c15e; have c15e1 := eq_false (Nat.not_lt.2 c15e))
                  obtain rfl := Option.some.inj H
                  go_wp2_with (first | ((with_reducible refine gate_callee (f := 26) rfl ?_); refine goesL_ (some 14) rfl rfl Tryd.func26 (by kernel_rfl) rfl #[.int .i64 a1] rfl (by (try simp only [List.map_toArray, List.map_cons, List.map_nil]); first | done | rfl | (simp only [List.length_drop, List.length_take]; rfl)) ?_; (with_reducible refine (impl_powerOfTen.calls kj2 a1 t251 _ A5.out).mono ?_); rintro e w' ⟨rfl, ⟨nd, rfl⟩⟩; refine ⟨_, rfl, ?_⟩) | ((with_reducible refine gate_callee (f := 42) rfl ?_); refine goesL_ (some 19) rfl rfl Tryd.func42 (by kernel_rfl) rfl #[.int .i64 (wrap64 (Int.tdiv x0_2 t251))] rfl (by (try simp only [List.map_toArray, List.map_cons, List.map_nil]); first | done | rfl | (simp only [List.length_drop, List.length_take]; rfl)) ?_; (with_reducible refine (impl_Decimal.calls (wrap64 (Int.tdiv x0_2 t251)) t252 _ (laidC_b HT.out (by repeat (first | (with_reducible first | exact HB.out | apply below_alloc | apply pw_below_drewN | apply below_drew1) | exact HB.out))) A7.out).mono ?_); rintro e w16 ⟨rfl, hb⟩; refine ⟨_, rfl, ?_⟩; have n0_ := Aside0.mk (below_step (by repeat (first | (with_reducible first | exact HB.out | apply below_alloc | apply pw_below_drewN | apply below_drew1) | exact HB.out)) hb); clear HB; have HB := n0_; clear n0_; (try clear hb); (try clear hb2); (try clear hk); (try clear hi)) | ((with_reducible refine gate_callee (f := 42) rfl ?_); refine goesL_ (some 27) rfl rfl Tryd.func42 (by kernel_rfl) rfl #[.int .i64 (Int.tmod x0_2 t251)] rfl (by (try simp only [List.map_toArray, List.map_cons, List.map_nil]); first | done | rfl | (simp only [List.length_drop, List.length_take]; rfl)) ?_; (with_reducible refine (impl_Decimal.calls (Int.tmod x0_2 t251) t253 _ (laidC_b HT.out (by repeat (first | (with_reducible first | exact HB.out | apply below_alloc | apply pw_below_drewN | apply below_drew1) | exact HB.out))) A11.out).mono ?_); rintro e w17 ⟨rfl, hb⟩; refine ⟨_, rfl, ?_⟩; have n0_ := Aside0.mk (below_step (by repeat (first | (with_reducible first | exact HB.out | apply below_alloc | apply pw_below_drewN | apply below_drew1) | exact HB.out)) hb); clear HB; have HB := n0_; clear n0_; (try clear hb); (try clear hb2); (try clear hk); (try clear hi)) | ((with_reducible refine gate_callee (f := 43) rfl ?_); refine goesL_ (some 34) rfl rfl Tryd.func43 (by kernel_rfl) rfl #[.string (⟨#[48]⟩ : ByteArray), .int .i64 (wrap64 (a1 - (t253.size : Int)))] rfl (by (try simp only [List.map_toArray, List.map_cons, List.map_nil]); first | done | rfl | (simp only [List.length_drop, List.length_take]; rfl)) ?_; (with_reducible refine (strings_Repeat.calls (⟨#[48]⟩ : ByteArray) (wrap64 (a1 - (t253.size : Int))) t254 _ A13.out).mono ?_); rintro e w18 ⟨rfl, hb⟩; refine ⟨_, rfl, ?_⟩; have n0_ := Aside0.mk (below_step (by repeat (first | (with_reducible first | exact HB.out | apply below_alloc | apply pw_below_drewN | apply below_drew1) | exact HB.out)) hb); clear HB; have HB := n0_; clear n0_; (try clear hb); (try clear hb2); (try clear hk); (try clear hi)))
                  go_ret
                  exact ⟨by first | rfl | (simp [errW_none, errW_some] <;> rfl) | (simp [*, errW_none, errW_some] <;> rfl), by repeat (first | (with_reducible first | exact HB.out | apply below_alloc | apply pw_below_drewN | apply below_drew1) | exact HB.out)⟩
                · rw [if_neg c15] at H
                  exact absurd H (by simp)
              · rw [if_neg c14] at H
                exact absurd H (by simp)
            · rw [if_neg c12] at H
              exact absurd H (by simp)
        · rw [if_neg c8] at H
          exact absurd H (by simp)

/-! ### impl_readDigits: walked by hand (the kit's print knows no []byte(..) of a text) -/
def rdLoop (l : List UInt8) (acc : Int) : Int := l.foldl (fun a c => wrap64 (wrap64 (10 * a) + ((c.toNat : Int) - 48) % 256)) acc
theorem ba_inj {a b : ByteArray} (h : a.toList = b.toList) : a = b := by
  rw [ByteArray.toList_eq, ByteArray.toList_eq] at h
  cases a; cases b; congr 1; exact Array.toList_inj.1 h
set_option maxHeartbeats 2000000 in
set_option maxRecDepth 100000 in
theorem impl_readDigits.pathA1 (s t0 t1 u : ByteArray) (w : World) (HT : Hid (LaidC w)) (h1 : strings_Cut.f s ⟨#[46]⟩ = some (t0, t1, true)) (h2 : strings_TrimPrefix.f t0 ⟨#[45]⟩ = some u) (z : (0 < t1.size) = False) :
    Calls Tryd.prog 24 #[.string s] w fun e w' => e = .returned (.tuple #[.int .i64 0, .int .i64 0, .bool false]) ∧ Below w.heap.size w w' := by
  have HB := Aside0.mk (Below.refl w.heap.size w)
  have A1 := Aside0.mk h1
  have A2 := Aside0.mk h2
  clear h1 h2
  go_enter Tryd.func24, Tryd.ntmps24
  go_wp2_with (first | (go_at_call 38; refine (strings_Cut.calls s ⟨#[46]⟩ t0 t1 true _ (laidC_b HT.out HB.out) A1.out).mono ?_; rintro e w1 ⟨rfl, hb⟩; have n0_ := Aside0.mk (below_step HB.out hb); clear HB; have HB := n0_; clear n0_; clear hb) | (go_at_call 39; refine (strings_TrimPrefix.calls t0 ⟨#[45]⟩ u _ A2.out).mono ?_; rintro e w2 ⟨rfl, hb⟩; have n0_ := Aside0.mk (below_step HB.out hb); clear HB; have HB := n0_; clear n0_; clear hb))
  go_ret3
  exact ⟨rfl, by repeat (first | (with_reducible first | exact HB.out | apply below_alloc | apply pw_below_drewN | apply below_drew1) | exact HB.out)⟩
set_option maxHeartbeats 2000000 in
set_option maxRecDepth 100000 in
theorem impl_readDigits.pathA2 (s t0 t1 u : ByteArray) (w : World) (HT : Hid (LaidC w)) (h1 : strings_Cut.f s ⟨#[46]⟩ = some (t0, t1, false)) (h2 : strings_TrimPrefix.f t0 ⟨#[45]⟩ = some u) (z : (0 < t1.size) = True) :
    Calls Tryd.prog 24 #[.string s] w fun e w' => e = .returned (.tuple #[.int .i64 0, .int .i64 0, .bool false]) ∧ Below w.heap.size w w' := by
  have HB := Aside0.mk (Below.refl w.heap.size w)
  have A1 := Aside0.mk h1
  have A2 := Aside0.mk h2
  clear h1 h2
  go_enter Tryd.func24, Tryd.ntmps24
  go_wp2_with (first | (go_at_call 38; refine (strings_Cut.calls s ⟨#[46]⟩ t0 t1 false _ (laidC_b HT.out HB.out) A1.out).mono ?_; rintro e w1 ⟨rfl, hb⟩; have n0_ := Aside0.mk (below_step HB.out hb); clear HB; have HB := n0_; clear n0_; clear hb) | (go_at_call 39; refine (strings_TrimPrefix.calls t0 ⟨#[45]⟩ u _ A2.out).mono ?_; rintro e w2 ⟨rfl, hb⟩; have n0_ := Aside0.mk (below_step HB.out hb); clear HB; have HB := n0_; clear n0_; clear hb))
  go_ret3
  exact ⟨rfl, by repeat (first | (with_reducible first | exact HB.out | apply below_alloc | apply pw_below_drewN | apply below_drew1) | exact HB.out)⟩
set_option maxHeartbeats 2000000 in
set_option maxRecDepth 100000 in
theorem impl_readDigits.pathB (s t0 t1 u : ByteArray) (w : World) (HT : Hid (LaidC w)) (h1 : strings_Cut.f s ⟨#[46]⟩ = some (t0, t1, true)) (h2 : strings_TrimPrefix.f t0 ⟨#[45]⟩ = some u) (z : (0 < t1.size) = True) (h9 : decide ((9 : Int) < (t1.size : Int)) = true) :
    Calls Tryd.prog 24 #[.string s] w fun e w' => e = .returned (.tuple #[.int .i64 0, .int .i64 0, .bool false]) ∧ Below w.heap.size w w' := by
  have HB := Aside0.mk (Below.refl w.heap.size w)
  have A1 := Aside0.mk h1
  have A2 := Aside0.mk h2
  clear h1 h2
  go_enter Tryd.func24, Tryd.ntmps24
  go_wp2_with (first | (go_at_call 38; refine (strings_Cut.calls s ⟨#[46]⟩ t0 t1 true _ (laidC_b HT.out HB.out) A1.out).mono ?_; rintro e w1 ⟨rfl, hb⟩; have n0_ := Aside0.mk (below_step HB.out hb); clear HB; have HB := n0_; clear n0_; clear hb) | (go_at_call 39; refine (strings_TrimPrefix.calls t0 ⟨#[45]⟩ u _ A2.out).mono ?_; rintro e w2 ⟨rfl, hb⟩; have n0_ := Aside0.mk (below_step HB.out hb); clear HB; have HB := n0_; clear n0_; clear hb))
  go_ret3
  exact ⟨rfl, by repeat (first | (with_reducible first | exact HB.out | apply below_alloc | apply pw_below_drewN | apply below_drew1) | exact HB.out)⟩
set_option maxHeartbeats 2000000 in
set_option maxRecDepth 100000 in
theorem impl_readDigits.pathCfalse (s t0 t1 u : ByteArray) (w : World) (HT : Hid (LaidC w)) (h1 : strings_Cut.f s ⟨#[46]⟩ = some (t0, t1, false)) (h2 : strings_TrimPrefix.f t0 ⟨#[45]⟩ = some u) (z : (0 < t1.size) = False) (h9 : decide ((9 : Int) < (t1.size : Int)) = false) (h3 : impl_within.f (u.size : Int) 1 9 = some false) :
    Calls Tryd.prog 24 #[.string s] w fun e w' => e = .returned (.tuple #[.int .i64 0, .int .i64 0, .bool false]) ∧ Below w.heap.size w w' := by
  have HB := Aside0.mk (Below.refl w.heap.size w)
  have A1 := Aside0.mk h1
  have A2 := Aside0.mk h2
  clear h1 h2
  have A3 := Aside0.mk h3
  clear h3
  go_enter Tryd.func24, Tryd.ntmps24
  go_wp2_with (first | (go_at_call 38; refine (strings_Cut.calls s ⟨#[46]⟩ t0 t1 false _ (laidC_b HT.out HB.out) A1.out).mono ?_; rintro e w1 ⟨rfl, hb⟩; have n0_ := Aside0.mk (below_step HB.out hb); clear HB; have HB := n0_; clear n0_; clear hb) | (go_at_call 39; refine (strings_TrimPrefix.calls t0 ⟨#[45]⟩ u _ A2.out).mono ?_; rintro e w2 ⟨rfl, hb⟩; have n0_ := Aside0.mk (below_step HB.out hb); clear HB; have HB := n0_; clear n0_; clear hb) | (go_at_call 28; refine (impl_within.calls (u.size : Int) 1 9 false _ A3.out).mono ?_; rintro e w' ⟨rfl, ⟨nd, rfl⟩⟩))
  go_ret3
  exact ⟨rfl, by repeat (first | (with_reducible first | exact HB.out | apply below_alloc | apply pw_below_drewN | apply below_drew1) | exact HB.out)⟩
set_option maxHeartbeats 2000000 in
set_option maxRecDepth 100000 in
theorem impl_readDigits.pathDfalse (s t0 t1 u : ByteArray) (w : World) (HT : Hid (LaidC w)) (h1 : strings_Cut.f s ⟨#[46]⟩ = some (t0, t1, false)) (h2 : strings_TrimPrefix.f t0 ⟨#[45]⟩ = some u) (z : (0 < t1.size) = False) (h9 : decide ((9 : Int) < (t1.size : Int)) = false) (h3 : impl_within.f (u.size : Int) 1 9 = some true) (v : ByteArray) (hs : u.size + t1.size ≤ 9223372036854775807) (h4 : strings_Trim.f (u ++ t1) ⟨#[48, 49, 50, 51, 52, 53, 54, 55, 56, 57]⟩ = some v) (hv : v.toList.isEmpty = false) :
    Calls Tryd.prog 24 #[.string s] w fun e w' => e = .returned (.tuple #[.int .i64 0, .int .i64 0, .bool false]) ∧ Below w.heap.size w w' := by
  have HB := Aside0.mk (Below.refl w.heap.size w)
  have A1 := Aside0.mk h1
  have A2 := Aside0.mk h2
  clear h1 h2
  have A3 := Aside0.mk h3
  have A4 := Aside0.mk h4
  clear h3 h4
  have sz0 : u.size + t1.size ≤ 9223372036854775807 := hs
  have sz1 := eq_true sz0
  have sz2 := eq_false (Nat.not_lt.2 sz0)
  clear sz0 hs
  go_enter Tryd.func24, Tryd.ntmps24
  go_wp2_with (first | (go_at_call 38; refine (strings_Cut.calls s ⟨#[46]⟩ t0 t1 false _ (laidC_b HT.out HB.out) A1.out).mono ?_; rintro e w1 ⟨rfl, hb⟩; have n0_ := Aside0.mk (below_step HB.out hb); clear HB; have HB := n0_; clear n0_; clear hb) | (go_at_call 39; refine (strings_TrimPrefix.calls t0 ⟨#[45]⟩ u _ A2.out).mono ?_; rintro e w2 ⟨rfl, hb⟩; have n0_ := Aside0.mk (below_step HB.out hb); clear HB; have HB := n0_; clear n0_; clear hb) | (go_at_call 28; refine (impl_within.calls (u.size : Int) 1 9 true _ A3.out).mono ?_; rintro e w' ⟨rfl, ⟨nd, rfl⟩⟩) | (go_at_call 40; refine (strings_Trim.calls (u ++ t1) ⟨#[48, 49, 50, 51, 52, 53, 54, 55, 56, 57]⟩ v _ A4.out).mono ?_; rintro e w3 ⟨rfl, hb⟩; have n0_ := Aside0.mk (below_step (by repeat (first | (with_reducible first | exact HB.out | apply below_alloc | apply pw_below_drewN | apply below_drew1) | exact HB.out)) hb); clear HB; have HB := n0_; clear n0_; clear hb))
  go_ret3
  exact ⟨rfl, by repeat (first | (with_reducible first | exact HB.out | apply below_alloc | apply pw_below_drewN | apply below_drew1) | exact HB.out)⟩
set_option maxHeartbeats 2000000 in
set_option maxRecDepth 100000 in
theorem impl_readDigits.pathEfalse (s t0 t1 u : ByteArray) (w : World) (HT : Hid (LaidC w)) (h1 : strings_Cut.f s ⟨#[46]⟩ = some (t0, t1, false)) (h2 : strings_TrimPrefix.f t0 ⟨#[45]⟩ = some u) (z : (0 < t1.size) = False) (h9 : decide ((9 : Int) < (t1.size : Int)) = false) (h3 : impl_within.f (u.size : Int) 1 9 = some true) (v : ByteArray) (hs : u.size + t1.size ≤ 9223372036854775807) (h4 : strings_Trim.f (u ++ t1) ⟨#[48, 49, 50, 51, 52, 53, 54, 55, 56, 57]⟩ = some v) (hv : v.toList.isEmpty = true) (m : Int) (hm : m = if u = t0 then rdLoop (u ++ t1).data.toList 0 else wrap64 (-(rdLoop (u ++ t1).data.toList 0))) (x : ByteArray) (hx : impl_digitsText.f 40 m (t1.size : Int) = some x) :
    Calls Tryd.prog 24 #[.string s] w fun e w' => e = .returned (.tuple #[.int .i64 m, .int .i64 (t1.size : Int), .bool (x.toList == s.toList)]) ∧ Below w.heap.size w w' := by
  have HB := Aside0.mk (Below.refl w.heap.size w)
  have A1 := Aside0.mk h1
  have A2 := Aside0.mk h2
  clear h1 h2
  have A3 := Aside0.mk h3
  have A4 := Aside0.mk h4
  have A5 := Aside0.mk hx
  have A6 := Aside0.mk hm
  clear h3 h4 hx hm
  have sz0 : u.size + t1.size ≤ 9223372036854775807 := hs
  have sz1 := eq_true sz0
  have sz2 := eq_false (Nat.not_lt.2 sz0)
  clear sz0 hs
  go_enter Tryd.func24, Tryd.ntmps24
  go_upto_region 7 with (first | (go_at_call 38; refine (strings_Cut.calls s ⟨#[46]⟩ t0 t1 false _ (laidC_b HT.out HB.out) A1.out).mono ?_; rintro e w1 ⟨rfl, hb⟩; have n0_ := Aside0.mk (below_step HB.out hb); clear HB; have HB := n0_; clear n0_; clear hb) | (go_at_call 39; refine (strings_TrimPrefix.calls t0 ⟨#[45]⟩ u _ A2.out).mono ?_; rintro e w2 ⟨rfl, hb⟩; have n0_ := Aside0.mk (below_step HB.out hb); clear HB; have HB := n0_; clear n0_; clear hb) | (go_at_call 28; refine (impl_within.calls (u.size : Int) 1 9 true _ A3.out).mono ?_; rintro e w' ⟨rfl, ⟨nd, rfl⟩⟩) | (go_at_call 40; refine (strings_Trim.calls (u ++ t1) ⟨#[48, 49, 50, 51, 52, 53, 54, 55, 56, 57]⟩ v _ A4.out).mono ?_; rintro e w3 ⟨rfl, hb⟩; have n0_ := Aside0.mk (below_step (by repeat (first | (with_reducible first | exact HB.out | apply below_alloc | apply pw_below_drewN | apply below_drew1) | exact HB.out)) hb); clear HB; have HB := n0_; clear n0_; clear hb))
  clear A1 A2 A3 A4 z h9 hv
  have hcv := Lib.run_convert_string_bytes (P := Tryd.prog) w3 9 22 5 (u ++ t1) (u := .string) Tryd.underlying9 Tryd.underlying22 Tryd.underlying5
  have hB : ∀ j, j < (u ++ t1).size → (Lib.bytesWorld w3 5 (u ++ t1)).cell? ⟨w3.heap.size, j, none⟩ = some (.int .u8 ((u ++ t1).data.toList.getD j 0).toNat) := fun j hj => Lib.bytesWorld_cell w3 5 (u ++ t1) j hj
  have n0_ := Aside0.mk (bytes_below HB.out HB.out.size 5 (u ++ t1))
  clear HB
  have HB := n0_
  clear n0_
  obtain ⟨W1, hW1⟩ : ∃ W1, W1 = Lib.bytesWorld w3 5 (u ++ t1) := ⟨_, rfl⟩
  rw [← hW1] at hcv hB HB
  clear hW1
  obtain ⟨bs, hL⟩ : ∃ bs, bs = (u ++ t1).data.toList := ⟨_, rfl⟩
  have hLn : bs.length = (u ++ t1).size := by rw [hL]; rfl
  have hLm : (u ++ t1).size = u.size + t1.size := ByteArray.size_append
  rw [← hL] at hB A6
  clear hL
  go_wp2_with fail
  go_loop [10, 49] (fun vm vi => ∃ (k : Nat) (a : Int), vm = .int .i64 a ∧ vi = .int .i64 k ∧ k ≤ bs.length ∧ Hid (rdLoop bs 0 = rdLoop (bs.drop k) a))
    (fun _ vi => bs.length - (intOf vi).toNat)
  case atStart => exact ⟨0, 0, rfl, rfl, by omega, rfl⟩
  case round =>
    obtain ⟨k, a, rfl, rfl, hk, hh⟩ := hrel
    by_cases hkn : k < bs.length
    · have hc := hB k (by omega)
      have hdrop : bs.drop k = bs[k]'(by omega) :: bs.drop (k + 1) := List.drop_eq_getElem_cons (by omega)
      have hget : bs.getD k 0 = bs[k]'(by omega) := by simp [List.getD, List.getElem?_eq_getElem (show k < bs.length by omega)]
      have hd := hh.out
      rw [hdrop] at hd
      rw [hget] at hc
      generalize bs[k]'(by omega) = c at hc hd
      have hc256 : c.toNat < 256 := c.toNat_lt
      have HN : Hid (rdLoop bs 0 = rdLoop (bs.drop (k + 1)) (wrap64 (wrap64 (10 * a) + ((c.toNat : Int) - 48) % 256))) := hd
      clear hB hdrop hget hd
      have hlt0 : (k : Int) < (u.size : Int) + (t1.size : Int) := by omega
      have hw1 : wrap64 ((k : Int) + 1) = ((k + 1 : Nat) : Int) := by have := of_eq_true sz1; unfold wrap64; omega
      go_wp2_with fail
      refine ⟨⟨k + 1, _, rfl, (by rw [hw1]), by omega, HN⟩, ?_⟩
      rw [hw1]
      simp [intOf]
      omega
    · have hd := hh.out
      rw [List.drop_eq_nil_of_le (by omega)] at hd
      have hlt0 : ¬ (k : Int) < (u.size : Int) + (t1.size : Int) := by omega
      have e0 : rdLoop bs 0 = a := hd
      have hm := A6.out
      rw [e0] at hm
      clear A6 hB hd e0 hh
      go_upto_region 12 with fail
      by_cases c : u = t0
      · rw [if_pos c] at hm
        subst hm
        go_wp2_with (go_at_call 29; with_reducible refine (impl_digitsText.calls 40 m (t1.size : Int) x _ (laidC_b HT.out (by repeat (first | (with_reducible first | exact HB.out | apply below_alloc | apply pw_below_drewN | apply below_drew1) | exact HB.out))) A5.out).mono ?_; rintro e w9 ⟨rfl, hb⟩; have n0_ := Aside0.mk (below_step (by repeat (first | (with_reducible first | exact HB.out | apply below_alloc | apply pw_below_drewN | apply below_drew1) | exact HB.out)) hb); clear HB; have HB := n0_; clear n0_; clear hb)
        go_ret3
        exact ⟨rfl, by repeat (first | (with_reducible first | exact HB.out | apply below_alloc | apply pw_below_drewN | apply below_drew1) | exact HB.out)⟩
      · rw [if_neg c] at hm
        subst hm
        have c2 : (u.toList == t0.toList) = false := beq_eq_false_iff_ne.2 (fun h => c (ba_inj h))
        have c3 : (u.toList != t0.toList) = true := by rw [bne, c2]; rfl
        have c4 : ¬ u.toList = t0.toList := beq_eq_false_iff_ne.1 c2
        clear c
        go_wp2_with (go_at_call 29; with_reducible refine (impl_digitsText.calls 40 (wrap64 (-a)) (t1.size : Int) x _ (laidC_b HT.out (by repeat (first | (with_reducible first | exact HB.out | apply below_alloc | apply pw_below_drewN | apply below_drew1) | exact HB.out))) A5.out).mono ?_; rintro e w9 ⟨rfl, hb⟩; have n0_ := Aside0.mk (below_step (by repeat (first | (with_reducible first | exact HB.out | apply below_alloc | apply pw_below_drewN | apply below_drew1) | exact HB.out)) hb); clear HB; have HB := n0_; clear n0_; clear hb)
        go_ret3
        exact ⟨rfl, by repeat (first | (with_reducible first | exact HB.out | apply below_alloc | apply pw_below_drewN | apply below_drew1) | exact HB.out)⟩
set_option maxHeartbeats 2000000 in
set_option maxRecDepth 100000 in
theorem impl_readDigits.pathCtrue (s t0 t1 u : ByteArray) (w : World) (HT : Hid (LaidC w)) (h1 : strings_Cut.f s ⟨#[46]⟩ = some (t0, t1, true)) (h2 : strings_TrimPrefix.f t0 ⟨#[45]⟩ = some u) (z : (0 < t1.size) = True) (h9 : decide ((9 : Int) < (t1.size : Int)) = false) (h3 : impl_within.f (u.size : Int) 1 9 = some false) :
    Calls Tryd.prog 24 #[.string s] w fun e w' => e = .returned (.tuple #[.int .i64 0, .int .i64 0, .bool false]) ∧ Below w.heap.size w w' := by
  have HB := Aside0.mk (Below.refl w.heap.size w)
  have A1 := Aside0.mk h1
  have A2 := Aside0.mk h2
  clear h1 h2
  have A3 := Aside0.mk h3
  clear h3
  go_enter Tryd.func24, Tryd.ntmps24
  go_wp2_with (first | (go_at_call 38; refine (strings_Cut.calls s ⟨#[46]⟩ t0 t1 true _ (laidC_b HT.out HB.out) A1.out).mono ?_; rintro e w1 ⟨rfl, hb⟩; have n0_ := Aside0.mk (below_step HB.out hb); clear HB; have HB := n0_; clear n0_; clear hb) | (go_at_call 39; refine (strings_TrimPrefix.calls t0 ⟨#[45]⟩ u _ A2.out).mono ?_; rintro e w2 ⟨rfl, hb⟩; have n0_ := Aside0.mk (below_step HB.out hb); clear HB; have HB := n0_; clear n0_; clear hb) | (go_at_call 28; refine (impl_within.calls (u.size : Int) 1 9 false _ A3.out).mono ?_; rintro e w' ⟨rfl, ⟨nd, rfl⟩⟩))
  go_ret3
  exact ⟨rfl, by repeat (first | (with_reducible first | exact HB.out | apply below_alloc | apply pw_below_drewN | apply below_drew1) | exact HB.out)⟩
set_option maxHeartbeats 2000000 in
set_option maxRecDepth 100000 in
theorem impl_readDigits.pathDtrue (s t0 t1 u : ByteArray) (w : World) (HT : Hid (LaidC w)) (h1 : strings_Cut.f s ⟨#[46]⟩ = some (t0, t1, true)) (h2 : strings_TrimPrefix.f t0 ⟨#[45]⟩ = some u) (z : (0 < t1.size) = True) (h9 : decide ((9 : Int) < (t1.size : Int)) = false) (h3 : impl_within.f (u.size : Int) 1 9 = some true) (v : ByteArray) (hs : u.size + t1.size ≤ 9223372036854775807) (h4 : strings_Trim.f (u ++ t1) ⟨#[48, 49, 50, 51, 52, 53, 54, 55, 56, 57]⟩ = some v) (hv : v.toList.isEmpty = false) :
    Calls Tryd.prog 24 #[.string s] w fun e w' => e = .returned (.tuple #[.int .i64 0, .int .i64 0, .bool false]) ∧ Below w.heap.size w w' := by
  have HB := Aside0.mk (Below.refl w.heap.size w)
  have A1 := Aside0.mk h1
  have A2 := Aside0.mk h2
  clear h1 h2
  have A3 := Aside0.mk h3
  have A4 := Aside0.mk h4
  clear h3 h4
  have sz0 : u.size + t1.size ≤ 9223372036854775807 := hs
  have sz1 := eq_true sz0
  have sz2 := eq_false (Nat.not_lt.2 sz0)
  clear sz0 hs
  go_enter Tryd.func24, Tryd.ntmps24
  go_wp2_with (first | (go_at_call 38; refine (strings_Cut.calls s ⟨#[46]⟩ t0 t1 true _ (laidC_b HT.out HB.out) A1.out).mono ?_; rintro e w1 ⟨rfl, hb⟩; have n0_ := Aside0.mk (below_step HB.out hb); clear HB; have HB := n0_; clear n0_; clear hb) | (go_at_call 39; refine (strings_TrimPrefix.calls t0 ⟨#[45]⟩ u _ A2.out).mono ?_; rintro e w2 ⟨rfl, hb⟩; have n0_ := Aside0.mk (below_step HB.out hb); clear HB; have HB := n0_; clear n0_; clear hb) | (go_at_call 28; refine (impl_within.calls (u.size : Int) 1 9 true _ A3.out).mono ?_; rintro e w' ⟨rfl, ⟨nd, rfl⟩⟩) | (go_at_call 40; refine (strings_Trim.calls (u ++ t1) ⟨#[48, 49, 50, 51, 52, 53, 54, 55, 56, 57]⟩ v _ A4.out).mono ?_; rintro e w3 ⟨rfl, hb⟩; have n0_ := Aside0.mk (below_step (by repeat (first | (with_reducible first | exact HB.out | apply below_alloc | apply pw_below_drewN | apply below_drew1) | exact HB.out)) hb); clear HB; have HB := n0_; clear n0_; clear hb))
  go_ret3
  exact ⟨rfl, by repeat (first | (with_reducible first | exact HB.out | apply below_alloc | apply pw_below_drewN | apply below_drew1) | exact HB.out)⟩
set_option maxHeartbeats 2000000 in
set_option maxRecDepth 100000 in
theorem impl_readDigits.pathEtrue (s t0 t1 u : ByteArray) (w : World) (HT : Hid (LaidC w)) (h1 : strings_Cut.f s ⟨#[46]⟩ = some (t0, t1, true)) (h2 : strings_TrimPrefix.f t0 ⟨#[45]⟩ = some u) (z : (0 < t1.size) = True) (h9 : decide ((9 : Int) < (t1.size : Int)) = false) (h3 : impl_within.f (u.size : Int) 1 9 = some true) (v : ByteArray) (hs : u.size + t1.size ≤ 9223372036854775807) (h4 : strings_Trim.f (u ++ t1) ⟨#[48, 49, 50, 51, 52, 53, 54, 55, 56, 57]⟩ = some v) (hv : v.toList.isEmpty = true) (m : Int) (hm : m = if u = t0 then rdLoop (u ++ t1).data.toList 0 else wrap64 (-(rdLoop (u ++ t1).data.toList 0))) (x : ByteArray) (hx : impl_digitsText.f 40 m (t1.size : Int) = some x) :
    Calls Tryd.prog 24 #[.string s] w fun e w' => e = .returned (.tuple #[.int .i64 m, .int .i64 (t1.size : Int), .bool (x.toList == s.toList)]) ∧ Below w.heap.size w w' := by
  have HB := Aside0.mk (Below.refl w.heap.size w)
  have A1 := Aside0.mk h1
  have A2 := Aside0.mk h2
  clear h1 h2
  have A3 := Aside0.mk h3
  have A4 := Aside0.mk h4
  have A5 := Aside0.mk hx
  have A6 := Aside0.mk hm
  clear h3 h4 hx hm
  have sz0 : u.size + t1.size ≤ 9223372036854775807 := hs
  have sz1 := eq_true sz0
  have sz2 := eq_false (Nat.not_lt.2 sz0)
  clear sz0 hs
  go_enter Tryd.func24, Tryd.ntmps24
  go_upto_region 7 with (first | (go_at_call 38; refine (strings_Cut.calls s ⟨#[46]⟩ t0 t1 true _ (laidC_b HT.out HB.out) A1.out).mono ?_; rintro e w1 ⟨rfl, hb⟩; have n0_ := Aside0.mk (below_step HB.out hb); clear HB; have HB := n0_; clear n0_; clear hb) | (go_at_call 39; refine (strings_TrimPrefix.calls t0 ⟨#[45]⟩ u _ A2.out).mono ?_; rintro e w2 ⟨rfl, hb⟩; have n0_ := Aside0.mk (below_step HB.out hb); clear HB; have HB := n0_; clear n0_; clear hb) | (go_at_call 28; refine (impl_within.calls (u.size : Int) 1 9 true _ A3.out).mono ?_; rintro e w' ⟨rfl, ⟨nd, rfl⟩⟩) | (go_at_call 40; refine (strings_Trim.calls (u ++ t1) ⟨#[48, 49, 50, 51, 52, 53, 54, 55, 56, 57]⟩ v _ A4.out).mono ?_; rintro e w3 ⟨rfl, hb⟩; have n0_ := Aside0.mk (below_step (by repeat (first | (with_reducible first | exact HB.out | apply below_alloc | apply pw_below_drewN | apply below_drew1) | exact HB.out)) hb); clear HB; have HB := n0_; clear n0_; clear hb))
  clear A1 A2 A3 A4 z h9 hv
  have hcv := Lib.run_convert_string_bytes (P := Tryd.prog) w3 9 22 5 (u ++ t1) (u := .string) Tryd.underlying9 Tryd.underlying22 Tryd.underlying5
  have hB : ∀ j, j < (u ++ t1).size → (Lib.bytesWorld w3 5 (u ++ t1)).cell? ⟨w3.heap.size, j, none⟩ = some (.int .u8 ((u ++ t1).data.toList.getD j 0).toNat) := fun j hj => Lib.bytesWorld_cell w3 5 (u ++ t1) j hj
  have n0_ := Aside0.mk (bytes_below HB.out HB.out.size 5 (u ++ t1))
  clear HB
  have HB := n0_
  clear n0_
  obtain ⟨W1, hW1⟩ : ∃ W1, W1 = Lib.bytesWorld w3 5 (u ++ t1) := ⟨_, rfl⟩
  rw [← hW1] at hcv hB HB
  clear hW1
  obtain ⟨bs, hL⟩ : ∃ bs, bs = (u ++ t1).data.toList := ⟨_, rfl⟩
  have hLn : bs.length = (u ++ t1).size := by rw [hL]; rfl
  have hLm : (u ++ t1).size = u.size + t1.size := ByteArray.size_append
  rw [← hL] at hB A6
  clear hL
  go_wp2_with fail
  go_loop [10, 49] (fun vm vi => ∃ (k : Nat) (a : Int), vm = .int .i64 a ∧ vi = .int .i64 k ∧ k ≤ bs.length ∧ Hid (rdLoop bs 0 = rdLoop (bs.drop k) a))
    (fun _ vi => bs.length - (intOf vi).toNat)
  case atStart => exact ⟨0, 0, rfl, rfl, by omega, rfl⟩
  case round =>
    obtain ⟨k, a, rfl, rfl, hk, hh⟩ := hrel
    by_cases hkn : k < bs.length
    · have hc := hB k (by omega)
      have hdrop : bs.drop k = bs[k]'(by omega) :: bs.drop (k + 1) := List.drop_eq_getElem_cons (by omega)
      have hget : bs.getD k 0 = bs[k]'(by omega) := by simp [List.getD, List.getElem?_eq_getElem (show k < bs.length by omega)]
      have hd := hh.out
      rw [hdrop] at hd
      rw [hget] at hc
      generalize bs[k]'(by omega) = c at hc hd
      have hc256 : c.toNat < 256 := c.toNat_lt
      have HN : Hid (rdLoop bs 0 = rdLoop (bs.drop (k + 1)) (wrap64 (wrap64 (10 * a) + ((c.toNat : Int) - 48) % 256))) := hd
      clear hB hdrop hget hd
      have hlt0 : (k : Int) < (u.size : Int) + (t1.size : Int) := by omega
      have hw1 : wrap64 ((k : Int) + 1) = ((k + 1 : Nat) : Int) := by have := of_eq_true sz1; unfold wrap64; omega
      go_wp2_with fail
      refine ⟨⟨k + 1, _, rfl, (by rw [hw1]), by omega, HN⟩, ?_⟩
      rw [hw1]
      simp [intOf]
      omega
    · have hd := hh.out
      rw [List.drop_eq_nil_of_le (by omega)] at hd
      have hlt0 : ¬ (k : Int) < (u.size : Int) + (t1.size : Int) := by omega
      have e0 : rdLoop bs 0 = a := hd
      have hm := A6.out
      rw [e0] at hm
      clear A6 hB hd e0 hh
      go_upto_region 12 with fail
      by_cases c : u = t0
      · rw [if_pos c] at hm
        subst hm
        go_wp2_with (go_at_call 29; with_reducible refine (impl_digitsText.calls 40 m (t1.size : Int) x _ (laidC_b HT.out (by repeat (first | (with_reducible first | exact HB.out | apply below_alloc | apply pw_below_drewN | apply below_drew1) | exact HB.out))) A5.out).mono ?_; rintro e w9 ⟨rfl, hb⟩; have n0_ := Aside0.mk (below_step (by repeat (first | (with_reducible first | exact HB.out | apply below_alloc | apply pw_below_drewN | apply below_drew1) | exact HB.out)) hb); clear HB; have HB := n0_; clear n0_; clear hb)
        go_ret3
        exact ⟨rfl, by repeat (first | (with_reducible first | exact HB.out | apply below_alloc | apply pw_below_drewN | apply below_drew1) | exact HB.out)⟩
      · rw [if_neg c] at hm
        subst hm
        have c2 : (u.toList == t0.toList) = false := beq_eq_false_iff_ne.2 (fun h => c (ba_inj h))
        have c3 : (u.toList != t0.toList) = true := by rw [bne, c2]; rfl
        have c4 : ¬ u.toList = t0.toList := beq_eq_false_iff_ne.1 c2
        clear c
        go_wp2_with (go_at_call 29; with_reducible refine (impl_digitsText.calls 40 (wrap64 (-a)) (t1.size : Int) x _ (laidC_b HT.out (by repeat (first | (with_reducible first | exact HB.out | apply below_alloc | apply pw_below_drewN | apply below_drew1) | exact HB.out))) A5.out).mono ?_; rintro e w9 ⟨rfl, hb⟩; have n0_ := Aside0.mk (below_step (by repeat (first | (with_reducible first | exact HB.out | apply below_alloc | apply pw_below_drewN | apply below_drew1) | exact HB.out)) hb); clear HB; have HB := n0_; clear n0_; clear hb)
        go_ret3
        exact ⟨rfl, by repeat (first | (with_reducible first | exact HB.out | apply below_alloc | apply pw_below_drewN | apply below_drew1) | exact HB.out)⟩
/-- What readDigits gives: the number without its point, how many digits lie behind it, whether the text is its number's own. -/
def rdM (t0 t1 u : ByteArray) : Int := if u = t0 then rdLoop (u ++ t1).data.toList 0 else wrap64 (-(rdLoop (u ++ t1).data.toList 0))
def impl_readDigits.f (s : ByteArray) : Option (Int × Int × Bool) := (strings_Cut.f s ⟨#[46]⟩).bind fun p => (strings_TrimPrefix.f p.1 ⟨#[45]⟩).bind fun u => if p.2.2 = decide (0 < p.2.1.size) then (if p.2.1.size ≤ 9 then (if 1 ≤ u.size ∧ u.size ≤ 9 then ((strings_Trim.f (u ++ p.2.1) ⟨#[48, 49, 50, 51, 52, 53, 54, 55, 56, 57]⟩).bind fun v => if v.toList.isEmpty = true then ((impl_digitsText.f 40 (rdM p.1 p.2.1 u) (p.2.1.size : Int)).bind fun x => some (rdM p.1 p.2.1 u, (p.2.1.size : Int), x.toList == s.toList)) else some (0, 0, false)) else some (0, 0, false)) else some (0, 0, false)) else some (0, 0, false)
theorem impl_readDigits.calls (s : ByteArray) (r0 r1 : Int) (r2 : Bool) (w : World) (HT : Hid (LaidC w)) (h : impl_readDigits.f s = some (r0, r1, r2)) :
    Calls Tryd.prog 24 #[.string s] w fun e w' => e = .returned (.tuple #[.int .i64 r0, .int .i64 r1, .bool r2]) ∧ Below w.heap.size w w' := by
  unfold impl_readDigits.f at h
  obtain ⟨⟨t0, t1, pt⟩, h1, h⟩ := Option.bind_eq_some_iff.mp h
  obtain ⟨u, h2, h⟩ := Option.bind_eq_some_iff.mp h
  simp only [] at h
  by_cases z : 0 < t1.size
  · have zt := eq_true z
    rw [decide_eq_true z] at h
    cases pt with
    | false =>
      rw [if_neg (by decide)] at h
      simp only [Option.some.injEq, Prod.mk.injEq] at h
      obtain ⟨rfl, rfl, rfl⟩ := h
      exact impl_readDigits.pathA2 s t0 t1 u w HT h1 h2 zt
    | true =>
      rw [if_pos rfl] at h
      by_cases h9 : t1.size ≤ 9
      · rw [if_pos h9] at h
        have d9 : decide ((9 : Int) < (t1.size : Int)) = false := decide_eq_false (by omega)
        by_cases hu : 1 ≤ u.size ∧ u.size ≤ 9
        · rw [if_pos hu] at h
          have h3 : impl_within.f (u.size : Int) 1 9 = some true := by unfold impl_within.f; rw [if_pos (by omega), decide_eq_true (by omega)]
          obtain ⟨v, h4, h⟩ := Option.bind_eq_some_iff.mp h
          by_cases hv : v.toList.isEmpty = true
          · rw [if_pos hv] at h
            obtain ⟨x, h5, h⟩ := Option.bind_eq_some_iff.mp h
            simp only [Option.some.injEq, Prod.mk.injEq] at h
            obtain ⟨rfl, rfl, rfl⟩ := h
            exact impl_readDigits.pathEtrue s t0 t1 u w HT h1 h2 zt d9 h3 v (by omega) h4 hv _ rfl x h5
          · rw [if_neg hv] at h
            simp only [Option.some.injEq, Prod.mk.injEq] at h
            obtain ⟨rfl, rfl, rfl⟩ := h
            exact impl_readDigits.pathDtrue s t0 t1 u w HT h1 h2 zt d9 h3 v (by omega) h4 (Bool.eq_false_iff.2 hv)
        · rw [if_neg hu] at h
          have h3 : impl_within.f (u.size : Int) 1 9 = some false := by
            unfold impl_within.f
            by_cases c : (u.size : Int) ≥ 1
            · rw [if_pos c, decide_eq_false (by omega)]
            · rw [if_neg c]
          simp only [Option.some.injEq, Prod.mk.injEq] at h
          obtain ⟨rfl, rfl, rfl⟩ := h
          exact impl_readDigits.pathCtrue s t0 t1 u w HT h1 h2 zt d9 h3
      · rw [if_neg h9] at h
        simp only [Option.some.injEq, Prod.mk.injEq] at h
        obtain ⟨rfl, rfl, rfl⟩ := h
        exact impl_readDigits.pathB s t0 t1 u w HT h1 h2 zt (decide_eq_true (by omega))
  · have zt := eq_false z
    rw [decide_eq_false z] at h
    cases pt with
    | true =>
      rw [if_neg (by decide)] at h
      simp only [Option.some.injEq, Prod.mk.injEq] at h
      obtain ⟨rfl, rfl, rfl⟩ := h
      exact impl_readDigits.pathA1 s t0 t1 u w HT h1 h2 zt
    | false =>
      rw [if_pos rfl, if_pos (by omega)] at h
      have d9 : decide ((9 : Int) < (t1.size : Int)) = false := decide_eq_false (by omega)
      by_cases hu : 1 ≤ u.size ∧ u.size ≤ 9
      · rw [if_pos hu] at h
        have h3 : impl_within.f (u.size : Int) 1 9 = some true := by unfold impl_within.f; rw [if_pos (by omega), decide_eq_true (by omega)]
        obtain ⟨v, h4, h⟩ := Option.bind_eq_some_iff.mp h
        by_cases hv : v.toList.isEmpty = true
        · rw [if_pos hv] at h
          obtain ⟨x, h5, h⟩ := Option.bind_eq_some_iff.mp h
          simp only [Option.some.injEq, Prod.mk.injEq] at h
          obtain ⟨rfl, rfl, rfl⟩ := h
          exact impl_readDigits.pathEfalse s t0 t1 u w HT h1 h2 zt d9 h3 v (by omega) h4 hv _ rfl x h5
        · rw [if_neg hv] at h
          simp only [Option.some.injEq, Prod.mk.injEq] at h
          obtain ⟨rfl, rfl, rfl⟩ := h
          exact impl_readDigits.pathDfalse s t0 t1 u w HT h1 h2 zt d9 h3 v (by omega) h4 (Bool.eq_false_iff.2 hv)
      · rw [if_neg hu] at h
        have h3 : impl_within.f (u.size : Int) 1 9 = some false := by
          unfold impl_within.f
          by_cases c : (u.size : Int) ≥ 1
          · rw [if_pos c, decide_eq_false (by omega)]
          · rw [if_neg c]
        simp only [Option.some.injEq, Prod.mk.injEq] at h
        obtain ⟨rfl, rfl, rfl⟩ := h
        exact impl_readDigits.pathCfalse s t0 t1 u w HT h1 h2 zt d9 h3

/-! ### impl_FixFloor: function 25 -/
def impl_FixFloor.f (k : Nat) (a0 : Int) (a1 : Int) : Option (Int × Bool) := (impl_MulDivFloor.f k a0 4294967296 a1).bind fun bt255 => ((impl_fixed.f bt255.1 bt255.2).bind fun bt257 => (some (bt257.1, bt257.2)))
theorem impl_FixFloor.mono : ∀ a0 a1 k, LeO (impl_FixFloor.f k a0 a1) (impl_FixFloor.f (k + 1) a0 a1) := by
  intro a0 a1 k
  unfold impl_FixFloor.f
  repeat' first
      | (with_reducible exact impl_MulDivFloor.mono _ _ _ _)
      | (with_reducible exact LeO.refl _)
      | (with_reducible exact LeO.none _)
      | (with_reducible refine LeO.ite ?_ ?_)
      | (with_reducible refine LeO.bind ?_ (fun _ => ?_))
      | exact impl_MulDivFloor.mono _ _ _ _
      | exact LeO.none _
      | refine LeO.ite ?_ ?_
      | refine LeO.bind ?_ (fun _ => ?_)
set_option maxHeartbeats 8000000 in
set_option maxRecDepth 100000 in
theorem impl_FixFloor.calls (k : Nat) (a0 : Int) (a1 : Int) (r1 : Int) (r2 : Bool) (w : World) (h : impl_FixFloor.f k a0 a1 = some (r1, r2)) :
    Calls Tryd.prog 25 #[.int .i64 a0, .int .i64 a1] w fun e w' => e = .returned (.tuple #[.int .i64 r1, .bool r2]) ∧ Below w.heap.size w w' := by
  have HB := Aside0.mk (Below.refl w.heap.size w)
  have H : ((impl_MulDivFloor.f k a0 4294967296 a1).bind fun bt255 => ((impl_fixed.f bt255.1 bt255.2).bind fun bt257 => (some (bt257.1, bt257.2)))) = some (r1, r2) := h
  clear h
  replace H := Option.bind_eq_some_iff.mp H
  obtain ⟨⟨t255, t256⟩, A30, H⟩ := H
  replace H : ((impl_fixed.f t255 t256).bind fun bt257 => (some (bt257.1, bt257.2))) = some (r1, r2) := H
  have A3 := Aside0.mk A30
  clear A30
  replace H := Option.bind_eq_some_iff.mp H
  obtain ⟨⟨t257, t258⟩, A40, H⟩ := H
  replace H : (some (t257, t258)) = some (r1, r2) := H
  have A4 := Aside0.mk A40
  clear A40
  simp only [Option.some.injEq, Prod.mk.injEq] at H
  obtain ⟨rfl, rfl⟩ := H
  go_enter Tryd.func25, Tryd.ntmps25
  go_wp2_with (first | ((with_reducible refine gate_callee (f := 21) rfl ?_); refine goesL_ (some 8) rfl rfl Tryd.func21 (by kernel_rfl) rfl #[.int .i64 a0, .int .i64 4294967296, .int .i64 a1] rfl (by (try simp only [List.map_toArray, List.map_cons, List.map_nil]); first | done | rfl | (simp only [List.length_drop, List.length_take]; rfl)) ?_; (with_reducible refine (impl_MulDivFloor.calls k a0 4294967296 a1 t255 t256 _ A3.out).mono ?_); rintro e w5 ⟨rfl, hb⟩; refine ⟨_, rfl, ?_⟩; have n0_ := Aside0.mk (below_step (by repeat (first | (with_reducible first | exact HB.out | apply below_alloc | apply pw_below_drewN | apply below_drew1) | exact HB.out)) hb); clear HB; have HB := n0_; clear n0_; (try clear hb); (try clear hb2); (try clear hk); (try clear hi)) | ((with_reducible refine gate_callee (f := 19) rfl ?_); refine goesL_ (some 11) rfl rfl Tryd.func19 (by kernel_rfl) rfl #[.int .i64 t255, .bool t256] rfl (by (try simp only [List.map_toArray, List.map_cons, List.map_nil]); first | done | rfl | (simp only [List.length_drop, List.length_take]; rfl)) ?_; (with_reducible refine (impl_fixed.calls t255 t256 t257 t258 _ A4.out).mono ?_); rintro e w' ⟨rfl, ⟨nd, rfl⟩⟩; refine ⟨_, rfl, ?_⟩))
  go_ret2
  exact ⟨by first | rfl | (simp [errW_none, errW_some] <;> rfl) | (simp [*, errW_none, errW_some] <;> rfl), by repeat (first | (with_reducible first | exact HB.out | apply below_alloc | apply pw_below_drewN | apply below_drew1) | exact HB.out)⟩

/-! ### impl_mulDivCeil: function 41 -/
def impl_mulDivCeil.j0 : Nat → Int → Int → Bool → Option (Int × Bool)
  | 0, _, _, _ => none
  | k + 1, x9, x11, x28 => if x28 = true then (some (0, false)) else (if x9 > 0 then (some (wrap64 (x11 + 1), true)) else (some (x11, true)))
def impl_mulDivCeil.f (k : Nat) (a0 : Int) (a1 : Int) (a2 : Int) : Option (Int × Bool) := (impl_WideMul.f a0 a1).bind fun bt259 => ((impl_WideDiv.f k bt259.1 bt259.2 a2).bind fun bt261 => (if bt261.2.2.2 = true then ((impl_WideInt.f bt261.1 bt261.2.1).bind fun bt266 => (if bt266.2 = true then (if bt261.2.2.1 > 0 then (impl_mulDivCeil.j0 k bt261.2.2.1 bt266.1 (bt266.1 == 9223372036854775807)) else (impl_mulDivCeil.j0 k bt261.2.2.1 bt266.1 false)) else (impl_mulDivCeil.j0 k bt261.2.2.1 bt266.1 true))) else (some (0, false))))
theorem impl_mulDivCeil.mono_l : ∀ k, (∀ y0 y1 y2, LeO (impl_mulDivCeil.j0 k y0 y1 y2) (impl_mulDivCeil.j0 (k + 1) y0 y1 y2))
  | 0 => fun _ _ _ r h => by simp [impl_mulDivCeil.j0] at h
  | k + 1 => by
    have ih0 := impl_mulDivCeil.mono_l k
    · intro y0 y1 y2
      unfold impl_mulDivCeil.j0
      repeat' first
      | (with_reducible exact ih0 _ _ _)
      | (with_reducible exact impl_WideDiv.mono _ _ _ _)
      | (with_reducible exact LeO.refl _)
      | (with_reducible exact LeO.none _)
      | (with_reducible refine LeO.ite ?_ ?_)
      | (with_reducible refine LeO.bind ?_ (fun _ => ?_))
      | exact ih0 _ _ _
      | exact impl_WideDiv.mono _ _ _ _
      | exact LeO.none _
      | refine LeO.ite ?_ ?_
      | refine LeO.bind ?_ (fun _ => ?_)
theorem impl_mulDivCeil.mono : ∀ a0 a1 a2 k, LeO (impl_mulDivCeil.f k a0 a1 a2) (impl_mulDivCeil.f (k + 1) a0 a1 a2) := by
  intro a0 a1 a2 k
  have ih0 := impl_mulDivCeil.mono_l k
  unfold impl_mulDivCeil.f
  repeat' first
      | (with_reducible exact ih0 _ _ _)
      | (with_reducible exact impl_WideDiv.mono _ _ _ _)
      | (with_reducible exact LeO.refl _)
      | (with_reducible exact LeO.none _)
      | (with_reducible refine LeO.ite ?_ ?_)
      | (with_reducible refine LeO.bind ?_ (fun _ => ?_))
      | exact ih0 _ _ _
      | exact impl_WideDiv.mono _ _ _ _
      | exact LeO.none _
      | refine LeO.ite ?_ ?_
      | refine LeO.bind ?_ (fun _ => ?_)
set_option maxHeartbeats 8000000 in
set_option maxRecDepth 100000 in
theorem impl_mulDivCeil.calls (k : Nat) (a0 : Int) (a1 : Int) (a2 : Int) (r1 : Int) (r2 : Bool) (w : World) (h : impl_mulDivCeil.f k a0 a1 a2 = some (r1, r2)) :
    Calls Tryd.prog 41 #[.int .i64 a0, .int .i64 a1, .int .i64 a2] w fun e w' => e = .returned (.tuple #[.int .i64 r1, .bool r2]) ∧ Below w.heap.size w w' := by
  have hu41 := Tryd.underlying41
  have HB := Aside0.mk (Below.refl w.heap.size w)
  have H : ((impl_WideMul.f a0 a1).bind fun bt259 => ((impl_WideDiv.f k bt259.1 bt259.2 a2).bind fun bt261 => (if bt261.2.2.2 = true then ((impl_WideInt.f bt261.1 bt261.2.1).bind fun bt266 => (if bt266.2 = true then (if bt261.2.2.1 > 0 then (impl_mulDivCeil.j0 k bt261.2.2.1 bt266.1 (bt266.1 == 9223372036854775807)) else (impl_mulDivCeil.j0 k bt261.2.2.1 bt266.1 false)) else (impl_mulDivCeil.j0 k bt261.2.2.1 bt266.1 true))) else (some (0, false))))) = some (r1, r2) := h
  clear h
  replace H := Option.bind_eq_some_iff.mp H
  obtain ⟨⟨t259, t260⟩, A40, H⟩ := H
  replace H : ((impl_WideDiv.f k t259 t260 a2).bind fun bt261 => (if bt261.2.2.2 = true then ((impl_WideInt.f bt261.1 bt261.2.1).bind fun bt266 => (if bt266.2 = true then (if bt261.2.2.1 > 0 then (impl_mulDivCeil.j0 k bt261.2.2.1 bt266.1 (bt266.1 == 9223372036854775807)) else (impl_mulDivCeil.j0 k bt261.2.2.1 bt266.1 false)) else (impl_mulDivCeil.j0 k bt261.2.2.1 bt266.1 true))) else (some (0, false)))) = some (r1, r2) := H
  have A4 := Aside0.mk A40
  clear A40
  replace H := Option.bind_eq_some_iff.mp H
  obtain ⟨⟨t261, t262, t263, t264⟩, A50, H⟩ := H
  replace H : (if t264 = true then ((impl_WideInt.f t261 t262).bind fun bt266 => (if bt266.2 = true then (if t263 > 0 then (impl_mulDivCeil.j0 k t263 bt266.1 (bt266.1 == 9223372036854775807)) else (impl_mulDivCeil.j0 k t263 bt266.1 false)) else (impl_mulDivCeil.j0 k t263 bt266.1 true))) else (some (0, false))) = some (r1, r2) := H
  have A5 := Aside0.mk A50
  clear A50
  by_cases c6 : t264 = true
  · subst c6
    have H1 : ((impl_WideInt.f t261 t262).bind fun bt266 => (if bt266.2 = true then (if t263 > 0 then (impl_mulDivCeil.j0 k t263 bt266.1 (bt266.1 == 9223372036854775807)) else (impl_mulDivCeil.j0 k t263 bt266.1 false)) else (impl_mulDivCeil.j0 k t263 bt266.1 true))) = some (r1, r2) := by rw [if_pos rfl] at H; exact H
    clear H
    have H := H1
    clear H1
    replace H := Option.bind_eq_some_iff.mp H
    obtain ⟨⟨t266, t267⟩, A70, H⟩ := H
    replace H : (if t267 = true then (if t263 > 0 then (impl_mulDivCeil.j0 k t263 t266 (t266 == 9223372036854775807)) else (impl_mulDivCeil.j0 k t263 t266 false)) else (impl_mulDivCeil.j0 k t263 t266 true)) = some (r1, r2) := H
    have A7 := Aside0.mk A70
    clear A70
    have HC8 := Aside0.mk H
    clear H
    go_enter Tryd.func41, Tryd.ntmps41
    go_upto_region 5 with (first | ((with_reducible refine gate_callee (f := 23) rfl ?_); refine goesL_ (some 15) rfl rfl Tryd.func23 (by kernel_rfl) rfl #[.int .i64 a0, .int .i64 a1] rfl (by (try simp only [List.map_toArray, List.map_cons, List.map_nil]); first | done | rfl | (simp only [List.length_drop, List.length_take]; rfl)) ?_; (with_reducible refine (impl_WideMul.calls a0 a1 t259 t260 _ A4.out).mono ?_); rintro e w9 ⟨rfl, hb⟩; refine ⟨_, rfl, ?_⟩; have n0_ := Aside0.mk (below_step (by repeat (first | (with_reducible first | exact HB.out | apply below_alloc | apply pw_below_drewN | apply below_drew1) | exact HB.out)) hb); clear HB; have HB := n0_; clear n0_; (try clear hb); (try clear hb2); (try clear hk); (try clear hi)) | ((with_reducible refine gate_callee (f := 35) rfl ?_); refine goesL_ (some 17) rfl rfl Tryd.func35 (by kernel_rfl) rfl #[.agg #[.int .i64 t259, .int .u64 t260], .int .i64 a2] rfl (by (try simp only [List.map_toArray, List.map_cons, List.map_nil]); first | done | rfl | (simp only [List.length_drop, List.length_take]; rfl)) ?_; (with_reducible refine (impl_WideDiv.calls k t259 t260 a2 t261 t262 t263 true _ A5.out).mono ?_); rintro e w10 ⟨rfl, hb⟩; refine ⟨_, rfl, ?_⟩; have n0_ := Aside0.mk (below_step (by repeat (first | (with_reducible first | exact HB.out | apply below_alloc | apply pw_below_drewN | apply below_drew1) | exact HB.out)) hb); clear HB; have HB := n0_; clear n0_; (try clear hb); (try clear hb2); (try clear hk); (try clear hi)) | ((with_reducible refine gate_dst (N := 8) rfl ?_); refine box_event ?hg (N := 8) ?hd (cs := #[.int .i64 0, .int .u64 0]) (t := 41) ?hr ?_; (case hd => rfl); (case hg => rfl); (case hr => first | (go_simp; done) | (go_simp; rfl)); intro gb265 hg w11 hbox hb; have n0_ := Aside0.mk (below_step (by repeat (first | (with_reducible first | exact HB.out | apply below_alloc | apply pw_below_drewN | apply below_drew1) | exact HB.out)) hb); have n1_ := Aside0.mk (hbox); have n2_ := Aside0.mk ((by rw [hg]; exact (below_size (by repeat (first | (with_reducible first | exact HB.out | apply below_alloc | apply pw_below_drewN | apply below_drew1) | exact HB.out))) : w.heap.size ≤ gb265)); have n3_ := Aside0.mk ((by rw [hg]; exact (below_size (by repeat (first | (with_reducible first | exact HB.out | apply below_alloc | apply pw_below_drewN | apply below_drew1) | exact HB.out))) : w.heap.size ≤ gb265)); clear HB; have HB := n0_; have BK265 := n1_; have GW265 := n2_; have GE265 := n3_; clear n0_ n1_ n2_ n3_; clear hb hbox hg; have hcz12_0 : w11.cell? ⟨gb265, 0, none⟩ = some (.int .i64 0) := (blk_cell BK265.out 0).trans rfl; have hcz12_1 : w11.cell? ⟨gb265, 1, none⟩ = some (.int .u64 0) := (blk_cell BK265.out 1).trans rfl; have hfz12_0 := blk_frozen BK265.out 0; have hfz12_1 := blk_frozen BK265.out 1) | ((with_reducible refine gate_callee (f := 33) rfl ?_); refine goesL_ (some 25) rfl rfl Tryd.func33 (by kernel_rfl) rfl #[.agg #[.int .i64 t261, .int .u64 t262]] rfl (by (try simp only [List.map_toArray, List.map_cons, List.map_nil]); first | done | rfl | (simp only [List.length_drop, List.length_take]; rfl)) ?_; (with_reducible refine (impl_WideInt.calls t261 t262 t266 t267 _ A7.out).mono ?_); rintro e w13 ⟨rfl, hb⟩; refine ⟨_, rfl, ?_⟩; have n0_ := Aside0.mk (blk_below (g := gb265) (o := .cells #[.int .i64 t261, .int .u64 t262] 41 (0, 0)) (by (with_reducible repeat (first | refine blk_drewN ?_ _ | refine blk_drew ?_ | refine blk_alloc ?_ _)); refine blk_put (cs := #[.int .i64 t261, .int .u64 0]) ?_ 1 _ rfl; (with_reducible repeat (first | refine blk_drewN ?_ _ | refine blk_drew ?_ | refine blk_alloc ?_ _)); refine blk_put (cs := #[.int .i64 0, .int .u64 0]) ?_ 0 _ rfl; (with_reducible repeat (first | refine blk_drewN ?_ _ | refine blk_drew ?_ | refine blk_alloc ?_ _)); exact BK265.out) hb); have n1_ := Aside0.mk (below_step (by repeat (first | (with_reducible first | exact HB.out | apply below_alloc | apply pw_below_drewN | apply below_drew1 | refine below_set ?_ GE265.out) | exact HB.out)) hb); clear BK265; clear HB; have BK265 := n0_; have HB := n1_; clear n0_ n1_; (try clear hb); (try clear hb2); (try clear hk); (try clear hi)))
    (try simp only [Act.put, List.setIfInBounds_toArray, List.set_cons_zero, List.set_cons_succ])
    go_cut [28] (fun v28 wc => ∃ (kq : Nat) (x28_7 : Bool), v28 = .bool x28_7 ∧ Aside0 (impl_mulDivCeil.j0 kq t263 t266 x28_7 = some (r1, r2)) ∧ Aside0 (kq ≤ k) ∧ Aside0 (wc.heap[gb265]? = some (.cells #[.int .i64 t261, .int .u64 t262] 41 (0, 0))) ∧ Aside0 (Below w.heap.size w wc))
    case first =>
      have H := HC8.out
      clear HC8
      by_cases c14 : t267 = true
      · subst c14
        have H1 : (if t263 > 0 then (impl_mulDivCeil.j0 k t263 t266 (t266 == 9223372036854775807)) else (impl_mulDivCeil.j0 k t263 t266 false)) = some (r1, r2) := by rw [if_pos rfl] at H; exact H
        clear H
        have H := H1
        clear H1
        by_cases c15 : t263 > 0
        · rw [if_pos c15] at H
          have c15b0 : decide (0 < t263) = true := decide_eq_true c15
          clear c15
          (first | rw [c15b0] | (simp only [i64_w, i32_w]; rw [c15b0]) | skip)
          have H' := Aside0.mk H
          clear H
          go_wp2
          go_meet
          case rel => exact ⟨_, ((t266 == 9223372036854775807)), (by first | rfl | (simp; done) | (simp [*]; done)), H', ⟨by first | omega | exact Nat.le_refl _⟩, ⟨by (with_reducible repeat (first | refine blk_drewN ?_ _ | refine blk_drew ?_ | refine blk_alloc ?_ _)); exact BK265.out⟩, ⟨by repeat (first | (with_reducible first | exact HB.out | apply below_alloc | apply pw_below_drewN | apply below_drew1 | refine below_set ?_ GE265.out) | exact HB.out)⟩⟩
        · rw [if_neg c15] at H
          have c15b0 : decide (0 < t263) = false := decide_eq_false c15
          clear c15
          (first | rw [c15b0] | (simp only [i64_w, i32_w]; rw [c15b0]) | skip)
          have H' := Aside0.mk H
          clear H
          go_wp2
          go_meet
          case rel => exact ⟨_, (false), (by first | rfl | (simp; done) | (simp [*]; done)), H', ⟨by first | omega | exact Nat.le_refl _⟩, ⟨by (with_reducible repeat (first | refine blk_drewN ?_ _ | refine blk_drew ?_ | refine blk_alloc ?_ _)); exact BK265.out⟩, ⟨by repeat (first | (with_reducible first | exact HB.out | apply below_alloc | apply pw_below_drewN | apply below_drew1 | refine below_set ?_ GE265.out) | exact HB.out)⟩⟩
      · replace c14 := Bool.eq_false_iff.mpr c14
        subst c14
        have H1 : (impl_mulDivCeil.j0 k t263 t266 true) = some (r1, r2) := by rw [if_neg (show ¬ (false = true) by decide)] at H; exact H
        clear H
        have H := H1
        clear H1
        have H' := Aside0.mk H
        clear H
        go_wp2
        go_meet
        case rel => exact ⟨_, (true), (by first | rfl | (simp; done) | (simp [*]; done)), H', ⟨by first | omega | exact Nat.le_refl _⟩, ⟨by (with_reducible repeat (first | refine blk_drewN ?_ _ | refine blk_drew ?_ | refine blk_alloc ?_ _)); exact BK265.out⟩, ⟨by repeat (first | (with_reducible first | exact HB.out | apply below_alloc | apply pw_below_drewN | apply below_drew1 | refine below_set ?_ GE265.out) | exact HB.out)⟩⟩
    case rest =>
      clear HC8
      try clear c1
      try clear c2
      try clear p2
      try clear c3
      try clear c4
      try clear c6
      try clear c14
      try clear c15
      try clear c15b0
      try clear hcz12_0
      try clear hcz12_1
      try clear hfz12_0
      try clear hfz12_1
      obtain ⟨kq, x28_7, rfl, HA, HJ7, BK265, HB⟩ := hcut
      cases kq with
      | zero => exact absurd HA.out (by simp [impl_mulDivCeil.j0])
      | succ kj7 =>
        have H := HA.out
        clear HA
        simp only [impl_mulDivCeil.j0] at H
        by_cases c16 : x28_7 = true
        · subst c16
          have H1 : (some (0, false)) = some (r1, r2) := by rw [if_pos rfl] at H; exact H
          clear H
          have H := H1
          clear H1
          simp only [Option.some.injEq, Prod.mk.injEq] at H
          obtain ⟨rfl, rfl⟩ := H
          go_wp2
          go_ret2
          exact ⟨by first | rfl | (simp [errW_none, errW_some] <;> rfl) | (simp [*, errW_none, errW_some] <;> rfl), by repeat (first | (with_reducible first | exact HB.out | apply below_alloc | apply pw_below_drewN | apply below_drew1 | refine below_set ?_ GE265.out) | exact HB.out)⟩
        · replace c16 := Bool.eq_false_iff.mpr c16
          subst c16
          have H1 : (if t263 > 0 then (some (wrap64 (t266 + 1), true)) else (some (t266, true))) = some (r1, r2) := by rw [if_neg (show ¬ (false = true) by decide)] at H; exact H
          clear H
          have H := H1
          clear H1
          by_cases c17 : t263 > 0
          · rw [if_pos c17] at H
            have c17b0 : decide (0 < t263) = true := decide_eq_true c17
            clear c17
            simp only [Option.some.injEq, Prod.mk.injEq] at H
            obtain ⟨rfl, rfl⟩ := H
            go_wp2
            go_ret2
            exact ⟨by first | rfl | (simp [errW_none, errW_some] <;> rfl) | (simp [*, errW_none, errW_some] <;> rfl), by repeat (first | (with_reducible first | exact HB.out | apply below_alloc | apply pw_below_drewN | apply below_drew1 | refine below_set ?_ GE265.out) | exact HB.out)⟩
          · rw [if_neg c17] at H
            have c17b0 : decide (0 < t263) = false := decide_eq_false c17
            clear c17
            simp only [Option.some.injEq, Prod.mk.injEq] at H
            obtain ⟨rfl, rfl⟩ := H
            go_wp2
            go_ret2
            exact ⟨by first | rfl | (simp [errW_none, errW_some] <;> rfl) | (simp [*, errW_none, errW_some] <;> rfl), by repeat (first | (with_reducible first | exact HB.out | apply below_alloc | apply pw_below_drewN | apply below_drew1 | refine below_set ?_ GE265.out) | exact HB.out)⟩
  · replace c6 := Bool.eq_false_iff.mpr c6
    subst c6
    have H1 : (some (0, false)) = some (r1, r2) := by rw [if_neg (show ¬ (false = true) by decide)] at H; exact H
    clear H
    have H := H1
    clear H1
    simp only [Option.some.injEq, Prod.mk.injEq] at H
    obtain ⟨rfl, rfl⟩ := H
    go_enter Tryd.func41, Tryd.ntmps41
    go_wp2_with (first | ((with_reducible refine gate_callee (f := 23) rfl ?_); refine goesL_ (some 15) rfl rfl Tryd.func23 (by kernel_rfl) rfl #[.int .i64 a0, .int .i64 a1] rfl (by (try simp only [List.map_toArray, List.map_cons, List.map_nil]); first | done | rfl | (simp only [List.length_drop, List.length_take]; rfl)) ?_; (with_reducible refine (impl_WideMul.calls a0 a1 t259 t260 _ A4.out).mono ?_); rintro e w18 ⟨rfl, hb⟩; refine ⟨_, rfl, ?_⟩; have n0_ := Aside0.mk (below_step (by repeat (first | (with_reducible first | exact HB.out | apply below_alloc | apply pw_below_drewN | apply below_drew1) | exact HB.out)) hb); clear HB; have HB := n0_; clear n0_; (try clear hb); (try clear hb2); (try clear hk); (try clear hi)) | ((with_reducible refine gate_callee (f := 35) rfl ?_); refine goesL_ (some 17) rfl rfl Tryd.func35 (by kernel_rfl) rfl #[.agg #[.int .i64 t259, .int .u64 t260], .int .i64 a2] rfl (by (try simp only [List.map_toArray, List.map_cons, List.map_nil]); first | done | rfl | (simp only [List.length_drop, List.length_take]; rfl)) ?_; (with_reducible refine (impl_WideDiv.calls k t259 t260 a2 t261 t262 t263 false _ A5.out).mono ?_); rintro e w19 ⟨rfl, hb⟩; refine ⟨_, rfl, ?_⟩; have n0_ := Aside0.mk (below_step (by repeat (first | (with_reducible first | exact HB.out | apply below_alloc | apply pw_below_drewN | apply below_drew1) | exact HB.out)) hb); clear HB; have HB := n0_; clear n0_; (try clear hb); (try clear hb2); (try clear hk); (try clear hi)) | ((with_reducible refine gate_dst (N := 8) rfl ?_); refine box_event ?hg (N := 8) ?hd (cs := #[.int .i64 0, .int .u64 0]) (t := 41) ?hr ?_; (case hd => rfl); (case hg => rfl); (case hr => first | (go_simp; done) | (go_simp; rfl)); intro gb265 hg w20 hbox hb; have n0_ := Aside0.mk (below_step (by repeat (first | (with_reducible first | exact HB.out | apply below_alloc | apply pw_below_drewN | apply below_drew1) | exact HB.out)) hb); have n1_ := Aside0.mk (hbox); have n2_ := Aside0.mk ((by rw [hg]; exact (below_size (by repeat (first | (with_reducible first | exact HB.out | apply below_alloc | apply pw_below_drewN | apply below_drew1) | exact HB.out))) : w.heap.size ≤ gb265)); have n3_ := Aside0.mk ((by rw [hg]; exact (below_size (by repeat (first | (with_reducible first | exact HB.out | apply below_alloc | apply pw_below_drewN | apply below_drew1) | exact HB.out))) : w.heap.size ≤ gb265)); clear HB; have HB := n0_; have BK265 := n1_; have GW265 := n2_; have GE265 := n3_; clear n0_ n1_ n2_ n3_; clear hb hbox hg; have hcz21_0 : w20.cell? ⟨gb265, 0, none⟩ = some (.int .i64 0) := (blk_cell BK265.out 0).trans rfl; have hcz21_1 : w20.cell? ⟨gb265, 1, none⟩ = some (.int .u64 0) := (blk_cell BK265.out 1).trans rfl; have hfz21_0 := blk_frozen BK265.out 0; have hfz21_1 := blk_frozen BK265.out 1))
    go_ret2
    exact ⟨by first | rfl | (simp [errW_none, errW_some] <;> rfl) | (simp [*, errW_none, errW_some] <;> rfl), by repeat (first | (with_reducible first | exact HB.out | apply below_alloc | apply pw_below_drewN | apply below_drew1 | refine below_set ?_ GE265.out) | exact HB.out)⟩

/-! ### impl_FixCeil: function 27 -/
def impl_FixCeil.f (k : Nat) (a0 : Int) (a1 : Int) : Option (Int × Bool) := (impl_mulDivCeil.f k a0 4294967296 a1).bind fun bt268 => ((impl_fixed.f bt268.1 bt268.2).bind fun bt270 => (some (bt270.1, bt270.2)))
theorem impl_FixCeil.mono : ∀ a0 a1 k, LeO (impl_FixCeil.f k a0 a1) (impl_FixCeil.f (k + 1) a0 a1) := by
  intro a0 a1 k
  unfold impl_FixCeil.f
  repeat' first
      | (with_reducible exact impl_mulDivCeil.mono _ _ _ _)
      | (with_reducible exact LeO.refl _)
      | (with_reducible exact LeO.none _)
      | (with_reducible refine LeO.ite ?_ ?_)
      | (with_reducible refine LeO.bind ?_ (fun _ => ?_))
      | exact impl_mulDivCeil.mono _ _ _ _
      | exact LeO.none _
      | refine LeO.ite ?_ ?_
      | refine LeO.bind ?_ (fun _ => ?_)
set_option maxHeartbeats 8000000 in
set_option maxRecDepth 100000 in
theorem impl_FixCeil.calls (k : Nat) (a0 : Int) (a1 : Int) (r1 : Int) (r2 : Bool) (w : World) (h : impl_FixCeil.f k a0 a1 = some (r1, r2)) :
    Calls Tryd.prog 27 #[.int .i64 a0, .int .i64 a1] w fun e w' => e = .returned (.tuple #[.int .i64 r1, .bool r2]) ∧ Below w.heap.size w w' := by
  have HB := Aside0.mk (Below.refl w.heap.size w)
  have H : ((impl_mulDivCeil.f k a0 4294967296 a1).bind fun bt268 => ((impl_fixed.f bt268.1 bt268.2).bind fun bt270 => (some (bt270.1, bt270.2)))) = some (r1, r2) := h
  clear h
  replace H := Option.bind_eq_some_iff.mp H
  obtain ⟨⟨t268, t269⟩, A30, H⟩ := H
  replace H : ((impl_fixed.f t268 t269).bind fun bt270 => (some (bt270.1, bt270.2))) = some (r1, r2) := H
  have A3 := Aside0.mk A30
  clear A30
  replace H := Option.bind_eq_some_iff.mp H
  obtain ⟨⟨t270, t271⟩, A40, H⟩ := H
  replace H : (some (t270, t271)) = some (r1, r2) := H
  have A4 := Aside0.mk A40
  clear A40
  simp only [Option.some.injEq, Prod.mk.injEq] at H
  obtain ⟨rfl, rfl⟩ := H
  go_enter Tryd.func27, Tryd.ntmps27
  go_wp2_with (first | ((with_reducible refine gate_callee (f := 41) rfl ?_); refine goesL_ (some 8) rfl rfl Tryd.func41 (by kernel_rfl) rfl #[.int .i64 a0, .int .i64 4294967296, .int .i64 a1] rfl (by (try simp only [List.map_toArray, List.map_cons, List.map_nil]); first | done | rfl | (simp only [List.length_drop, List.length_take]; rfl)) ?_; (with_reducible refine (impl_mulDivCeil.calls k a0 4294967296 a1 t268 t269 _ A3.out).mono ?_); rintro e w5 ⟨rfl, hb⟩; refine ⟨_, rfl, ?_⟩; have n0_ := Aside0.mk (below_step (by repeat (first | (with_reducible first | exact HB.out | apply below_alloc | apply pw_below_drewN | apply below_drew1) | exact HB.out)) hb); clear HB; have HB := n0_; clear n0_; (try clear hb); (try clear hb2); (try clear hk); (try clear hi)) | ((with_reducible refine gate_callee (f := 19) rfl ?_); refine goesL_ (some 11) rfl rfl Tryd.func19 (by kernel_rfl) rfl #[.int .i64 t268, .bool t269] rfl (by (try simp only [List.map_toArray, List.map_cons, List.map_nil]); first | done | rfl | (simp only [List.length_drop, List.length_take]; rfl)) ?_; (with_reducible refine (impl_fixed.calls t268 t269 t270 t271 _ A4.out).mono ?_); rintro e w' ⟨rfl, ⟨nd, rfl⟩⟩; refine ⟨_, rfl, ?_⟩))
  go_ret2
  exact ⟨by first | rfl | (simp [errW_none, errW_some] <;> rfl) | (simp [*, errW_none, errW_some] <;> rfl), by repeat (first | (with_reducible first | exact HB.out | apply below_alloc | apply pw_below_drewN | apply below_drew1) | exact HB.out)⟩

/-! ### impl_ReadFix: function 13 -/
def impl_ReadFix.f (k : Nat) (a0 : ByteArray) : Option (Int × Int × Bool) := (impl_readDigits.f a0).bind fun bt272 => (if bt272.2.2 = true then ((impl_powerOfTen.f k bt272.2.1).bind fun t275 => ((impl_FixFloor.f k bt272.1 t275).bind fun bt276 => ((impl_powerOfTen.f k bt272.2.1).bind fun t278 => ((impl_FixCeil.f k bt272.1 t278).bind fun bt279 => (if bt276.2 = true then (if bt279.2 = true then (some (bt276.1, bt279.1, true)) else (some (0, 0, false))) else (some (0, 0, false))))))) else (some (0, 0, false)))
theorem impl_ReadFix.mono : ∀ a0 k, LeO (impl_ReadFix.f k a0) (impl_ReadFix.f (k + 1) a0) := by
  intro a0 k
  unfold impl_ReadFix.f
  repeat' first
      | (with_reducible exact impl_FixCeil.mono _ _ _)
      | (with_reducible exact impl_FixFloor.mono _ _ _)
      | (with_reducible exact impl_powerOfTen.mono _ _)
      | (with_reducible exact LeO.refl _)
      | (with_reducible exact LeO.none _)
      | (with_reducible refine LeO.ite ?_ ?_)
      | (with_reducible refine LeO.bind ?_ (fun _ => ?_))
      | exact impl_FixCeil.mono _ _ _
      | exact impl_FixFloor.mono _ _ _
      | exact impl_powerOfTen.mono _ _
      | exact LeO.none _
      | refine LeO.ite ?_ ?_
      | refine LeO.bind ?_ (fun _ => ?_)
set_option maxHeartbeats 8000000 in
set_option maxRecDepth 100000 in
theorem impl_ReadFix.calls (k : Nat) (a0 : ByteArray) (r1 : Int) (r2 : Int) (r3 : Bool) (w : World) (HT : Hid (LaidC w)) (h : impl_ReadFix.f k a0 = some (r1, r2, r3)) :
    Calls Tryd.prog 13 #[.string a0] w fun e w' => e = .returned (.tuple #[.int .i64 r1, .int .i64 r2, .bool r3]) ∧ Below w.heap.size w w' := by
  have HB := Aside0.mk (Below.refl w.heap.size w)
  have H : ((impl_readDigits.f a0).bind fun bt272 => (if bt272.2.2 = true then ((impl_powerOfTen.f k bt272.2.1).bind fun t275 => ((impl_FixFloor.f k bt272.1 t275).bind fun bt276 => ((impl_powerOfTen.f k bt272.2.1).bind fun t278 => ((impl_FixCeil.f k bt272.1 t278).bind fun bt279 => (if bt276.2 = true then (if bt279.2 = true then (some (bt276.1, bt279.1, true)) else (some (0, 0, false))) else (some (0, 0, false))))))) else (some (0, 0, false)))) = some (r1, r2, r3) := h
  clear h
  replace H := Option.bind_eq_some_iff.mp H
  obtain ⟨⟨t272, t273, t274⟩, A20, H⟩ := H
  replace H : (if t274 = true then ((impl_powerOfTen.f k t273).bind fun t275 => ((impl_FixFloor.f k t272 t275).bind fun bt276 => ((impl_powerOfTen.f k t273).bind fun t278 => ((impl_FixCeil.f k t272 t278).bind fun bt279 => (if bt276.2 = true then (if bt279.2 = true then (some (bt276.1, bt279.1, true)) else (some (0, 0, false))) else (some (0, 0, false))))))) else (some (0, 0, false))) = some (r1, r2, r3) := H
  have A2 := Aside0.mk A20
  clear A20
  by_cases c3 : t274 = true
  · subst c3
    have H1 : ((impl_powerOfTen.f k t273).bind fun t275 => ((impl_FixFloor.f k t272 t275).bind fun bt276 => ((impl_powerOfTen.f k t273).bind fun t278 => ((impl_FixCeil.f k t272 t278).bind fun bt279 => (if bt276.2 = true then (if bt279.2 = true then (some (bt276.1, bt279.1, true)) else (some (0, 0, false))) else (some (0, 0, false))))))) = some (r1, r2, r3) := by rw [if_pos rfl] at H; exact H
    clear H
    have H := H1
    clear H1
    replace H := Option.bind_eq_some_iff.mp H
    obtain ⟨t275, A40, H⟩ := H
    replace H : ((impl_FixFloor.f k t272 t275).bind fun bt276 => ((impl_powerOfTen.f k t273).bind fun t278 => ((impl_FixCeil.f k t272 t278).bind fun bt279 => (if bt276.2 = true then (if bt279.2 = true then (some (bt276.1, bt279.1, true)) else (some (0, 0, false))) else (some (0, 0, false)))))) = some (r1, r2, r3) := H
    have A4 := Aside0.mk A40
    clear A40
    replace H := Option.bind_eq_some_iff.mp H
    obtain ⟨⟨t276, t277⟩, A50, H⟩ := H
    replace H : ((impl_powerOfTen.f k t273).bind fun t278 => ((impl_FixCeil.f k t272 t278).bind fun bt279 => (if t277 = true then (if bt279.2 = true then (some (t276, bt279.1, true)) else (some (0, 0, false))) else (some (0, 0, false))))) = some (r1, r2, r3) := H
    have A5 := Aside0.mk A50
    clear A50
    replace H := Option.bind_eq_some_iff.mp H
    obtain ⟨t278, A60, H⟩ := H
    replace H : ((impl_FixCeil.f k t272 t278).bind fun bt279 => (if t277 = true then (if bt279.2 = true then (some (t276, bt279.1, true)) else (some (0, 0, false))) else (some (0, 0, false)))) = some (r1, r2, r3) := H
    have A6 := Aside0.mk A60
    clear A60
    replace H := Option.bind_eq_some_iff.mp H
    obtain ⟨⟨t279, t280⟩, A70, H⟩ := H
    replace H : (if t277 = true then (if t280 = true then (some (t276, t279, true)) else (some (0, 0, false))) else (some (0, 0, false))) = some (r1, r2, r3) := H
    have A7 := Aside0.mk A70
    clear A70
    by_cases c8 : t277 = true
    · subst c8
      have H1 : (if t280 = true then (some (t276, t279, true)) else (some (0, 0, false))) = some (r1, r2, r3) := by rw [if_pos rfl] at H; exact H
      clear H
      have H := H1
      clear H1
      by_cases c9 : t280 = true
      · subst c9
        have H1 : (some (t276, t279, true)) = some (r1, r2, r3) := by rw [if_pos rfl] at H; exact H
        clear H
        have H := H1
        clear H1
        simp only [Option.some.injEq, Prod.mk.injEq] at H
        obtain ⟨rfl, rfl, rfl⟩ := H
        go_enter Tryd.func13, Tryd.ntmps13
        go_wp2_with (first | ((with_reducible refine gate_callee (f := 24) rfl ?_); refine goesL_ (some 14) rfl rfl Tryd.func24 (by kernel_rfl) rfl #[.string a0] rfl (by (try simp only [List.map_toArray, List.map_cons, List.map_nil]); first | done | rfl | (simp only [List.length_drop, List.length_take]; rfl)) ?_; (with_reducible refine (impl_readDigits.calls a0 t272 t273 true _ (laidC_b HT.out (by repeat (first | (with_reducible first | exact HB.out | apply below_alloc | apply pw_below_drewN | apply below_drew1) | exact HB.out))) A2.out).mono ?_); rintro e w10 ⟨rfl, hb⟩; refine ⟨_, rfl, ?_⟩; have n0_ := Aside0.mk (below_step (by repeat (first | (with_reducible first | exact HB.out | apply below_alloc | apply pw_below_drewN | apply below_drew1) | exact HB.out)) hb); clear HB; have HB := n0_; clear n0_; (try clear hb); (try clear hb2); (try clear hk); (try clear hi)) | ((with_reducible refine gate_callee (f := 26) rfl ?_); refine goesL_ (some 23) rfl rfl Tryd.func26 (by kernel_rfl) rfl #[.int .i64 t273] rfl (by (try simp only [List.map_toArray, List.map_cons, List.map_nil]); first | done | rfl | (simp only [List.length_drop, List.length_take]; rfl)) ?_; (with_reducible refine (impl_powerOfTen.calls k t273 t275 _ A4.out).mono ?_); rintro e w' ⟨rfl, ⟨nd, rfl⟩⟩; refine ⟨_, rfl, ?_⟩) | ((with_reducible refine gate_callee (f := 25) rfl ?_); refine goesL_ (some 24) rfl rfl Tryd.func25 (by kernel_rfl) rfl #[.int .i64 t272, .int .i64 t275] rfl (by (try simp only [List.map_toArray, List.map_cons, List.map_nil]); first | done | rfl | (simp only [List.length_drop, List.length_take]; rfl)) ?_; (with_reducible refine (impl_FixFloor.calls k t272 t275 t276 true _ A5.out).mono ?_); rintro e w11 ⟨rfl, hb⟩; refine ⟨_, rfl, ?_⟩; have n0_ := Aside0.mk (below_step (by repeat (first | (with_reducible first | exact HB.out | apply below_alloc | apply pw_below_drewN | apply below_drew1) | exact HB.out)) hb); clear HB; have HB := n0_; clear n0_; (try clear hb); (try clear hb2); (try clear hk); (try clear hi)) | ((with_reducible refine gate_callee (f := 26) rfl ?_); refine goesL_ (some 30) rfl rfl Tryd.func26 (by kernel_rfl) rfl #[.int .i64 t273] rfl (by (try simp only [List.map_toArray, List.map_cons, List.map_nil]); first | done | rfl | (simp only [List.length_drop, List.length_take]; rfl)) ?_; (with_reducible refine (impl_powerOfTen.calls k t273 t278 _ A6.out).mono ?_); rintro e w' ⟨rfl, ⟨nd, rfl⟩⟩; refine ⟨_, rfl, ?_⟩) | ((with_reducible refine gate_callee (f := 27) rfl ?_); refine goesL_ (some 31) rfl rfl Tryd.func27 (by kernel_rfl) rfl #[.int .i64 t272, .int .i64 t278] rfl (by (try simp only [List.map_toArray, List.map_cons, List.map_nil]); first | done | rfl | (simp only [List.length_drop, List.length_take]; rfl)) ?_; (with_reducible refine (impl_FixCeil.calls k t272 t278 t279 true _ A7.out).mono ?_); rintro e w12 ⟨rfl, hb⟩; refine ⟨_, rfl, ?_⟩; have n0_ := Aside0.mk (below_step (by repeat (first | (with_reducible first | exact HB.out | apply below_alloc | apply pw_below_drewN | apply below_drew1) | exact HB.out)) hb); clear HB; have HB := n0_; clear n0_; (try clear hb); (try clear hb2); (try clear hk); (try clear hi)))
        go_ret3
        exact ⟨by first | rfl | (simp [errW_none, errW_some] <;> rfl) | (simp [*, errW_none, errW_some] <;> rfl), by repeat (first | (with_reducible first | exact HB.out | apply below_alloc | apply pw_below_drewN | apply below_drew1) | exact HB.out)⟩
      · replace c9 := Bool.eq_false_iff.mpr c9
        subst c9
        have H1 : (some (0, 0, false)) = some (r1, r2, r3) := by rw [if_neg (show ¬ (false = true) by decide)] at H; exact H
        clear H
        have H := H1
        clear H1
        simp only [Option.some.injEq, Prod.mk.injEq] at H
        obtain ⟨rfl, rfl, rfl⟩ := H
        go_enter Tryd.func13, Tryd.ntmps13
        go_wp2_with (first | ((with_reducible refine gate_callee (f := 24) rfl ?_); refine goesL_ (some 14) rfl rfl Tryd.func24 (by kernel_rfl) rfl #[.string a0] rfl (by (try simp only [List.map_toArray, List.map_cons, List.map_nil]); first | done | rfl | (simp only [List.length_drop, List.length_take]; rfl)) ?_; (with_reducible refine (impl_readDigits.calls a0 t272 t273 true _ (laidC_b HT.out (by repeat (first | (with_reducible first | exact HB.out | apply below_alloc | apply pw_below_drewN | apply below_drew1) | exact HB.out))) A2.out).mono ?_); rintro e w13 ⟨rfl, hb⟩; refine ⟨_, rfl, ?_⟩; have n0_ := Aside0.mk (below_step (by repeat (first | (with_reducible first | exact HB.out | apply below_alloc | apply pw_below_drewN | apply below_drew1) | exact HB.out)) hb); clear HB; have HB := n0_; clear n0_; (try clear hb); (try clear hb2); (try clear hk); (try clear hi)) | ((with_reducible refine gate_callee (f := 26) rfl ?_); refine goesL_ (some 23) rfl rfl Tryd.func26 (by kernel_rfl) rfl #[.int .i64 t273] rfl (by (try simp only [List.map_toArray, List.map_cons, List.map_nil]); first | done | rfl | (simp only [List.length_drop, List.length_take]; rfl)) ?_; (with_reducible refine (impl_powerOfTen.calls k t273 t275 _ A4.out).mono ?_); rintro e w' ⟨rfl, ⟨nd, rfl⟩⟩; refine ⟨_, rfl, ?_⟩) | ((with_reducible refine gate_callee (f := 25) rfl ?_); refine goesL_ (some 24) rfl rfl Tryd.func25 (by kernel_rfl) rfl #[.int .i64 t272, .int .i64 t275] rfl (by (try simp only [List.map_toArray, List.map_cons, List.map_nil]); first | done | rfl | (simp only [List.length_drop, List.length_take]; rfl)) ?_; (with_reducible refine (impl_FixFloor.calls k t272 t275 t276 true _ A5.out).mono ?_); rintro e w14 ⟨rfl, hb⟩; refine ⟨_, rfl, ?_⟩; have n0_ := Aside0.mk (below_step (by repeat (first | (with_reducible first | exact HB.out | apply below_alloc | apply pw_below_drewN | apply below_drew1) | exact HB.out)) hb); clear HB; have HB := n0_; clear n0_; (try clear hb); (try clear hb2); (try clear hk); (try clear hi)) | ((with_reducible refine gate_callee (f := 26) rfl ?_); refine goesL_ (some 30) rfl rfl Tryd.func26 (by kernel_rfl) rfl #[.int .i64 t273] rfl (by (try simp only [List.map_toArray, List.map_cons, List.map_nil]); first | done | rfl | (simp only [List.length_drop, List.length_take]; rfl)) ?_; (with_reducible refine (impl_powerOfTen.calls k t273 t278 _ A6.out).mono ?_); rintro e w' ⟨rfl, ⟨nd, rfl⟩⟩; refine ⟨_, rfl, ?_⟩) | ((with_reducible refine gate_callee (f := 27) rfl ?_); refine goesL_ (some 31) rfl rfl Tryd.func27 (by kernel_rfl) rfl #[.int .i64 t272, .int .i64 t278] rfl (by (try simp only [List.map_toArray, List.map_cons, List.map_nil]); first | done | rfl | (simp only [List.length_drop, List.length_take]; rfl)) ?_; (with_reducible refine (impl_FixCeil.calls k t272 t278 t279 false _ A7.out).mono ?_); rintro e w15 ⟨rfl, hb⟩; refine ⟨_, rfl, ?_⟩; have n0_ := Aside0.mk (below_step (by repeat (first | (with_reducible first | exact HB.out | apply below_alloc | apply pw_below_drewN | apply below_drew1) | exact HB.out)) hb); clear HB; have HB := n0_; clear n0_; (try clear hb); (try clear hb2); (try clear hk); (try clear hi)))
        go_ret3
        exact ⟨by first | rfl | (simp [errW_none, errW_some] <;> rfl) | (simp [*, errW_none, errW_some] <;> rfl), by repeat (first | (with_reducible first | exact HB.out | apply below_alloc | apply pw_below_drewN | apply below_drew1) | exact HB.out)⟩
    · replace c8 := Bool.eq_false_iff.mpr c8
      subst c8
      have H1 : (some (0, 0, false)) = some (r1, r2, r3) := by rw [if_neg (show ¬ (false = true) by decide)] at H; exact H
      clear H
      have H := H1
      clear H1
      simp only [Option.some.injEq, Prod.mk.injEq] at H
      obtain ⟨rfl, rfl, rfl⟩ := H
      go_enter Tryd.func13, Tryd.ntmps13
      go_wp2_with (first | ((with_reducible refine gate_callee (f := 24) rfl ?_); refine goesL_ (some 14) rfl rfl Tryd.func24 (by kernel_rfl) rfl #[.string a0] rfl (by (try simp only [List.map_toArray, List.map_cons, List.map_nil]); first | done | rfl | (simp only [List.length_drop, List.length_take]; rfl)) ?_; (with_reducible refine (impl_readDigits.calls a0 t272 t273 true _ (laidC_b HT.out (by repeat (first | (with_reducible first | exact HB.out | apply below_alloc | apply pw_below_drewN | apply below_drew1) | exact HB.out))) A2.out).mono ?_); rintro e w16 ⟨rfl, hb⟩; refine ⟨_, rfl, ?_⟩; have n0_ := Aside0.mk (below_step (by repeat (first | (with_reducible first | exact HB.out | apply below_alloc | apply pw_below_drewN | apply below_drew1) | exact HB.out)) hb); clear HB; have HB := n0_; clear n0_; (try clear hb); (try clear hb2); (try clear hk); (try clear hi)) | ((with_reducible refine gate_callee (f := 26) rfl ?_); refine goesL_ (some 23) rfl rfl Tryd.func26 (by kernel_rfl) rfl #[.int .i64 t273] rfl (by (try simp only [List.map_toArray, List.map_cons, List.map_nil]); first | done | rfl | (simp only [List.length_drop, List.length_take]; rfl)) ?_; (with_reducible refine (impl_powerOfTen.calls k t273 t275 _ A4.out).mono ?_); rintro e w' ⟨rfl, ⟨nd, rfl⟩⟩; refine ⟨_, rfl, ?_⟩) | ((with_reducible refine gate_callee (f := 25) rfl ?_); refine goesL_ (some 24) rfl rfl Tryd.func25 (by kernel_rfl) rfl #[.int .i64 t272, .int .i64 t275] rfl (by (try simp only [List.map_toArray, List.map_cons, List.map_nil]); first | done | rfl | (simp only [List.length_drop, List.length_take]; rfl)) ?_; (with_reducible refine (impl_FixFloor.calls k t272 t275 t276 false _ A5.out).mono ?_); rintro e w17 ⟨rfl, hb⟩; refine ⟨_, rfl, ?_⟩; have n0_ := Aside0.mk (below_step (by repeat (first | (with_reducible first | exact HB.out | apply below_alloc | apply pw_below_drewN | apply below_drew1) | exact HB.out)) hb); clear HB; have HB := n0_; clear n0_; (try clear hb); (try clear hb2); (try clear hk); (try clear hi)) | ((with_reducible refine gate_callee (f := 26) rfl ?_); refine goesL_ (some 30) rfl rfl Tryd.func26 (by kernel_rfl) rfl #[.int .i64 t273] rfl (by (try simp only [List.map_toArray, List.map_cons, List.map_nil]); first | done | rfl | (simp only [List.length_drop, List.length_take]; rfl)) ?_; (with_reducible refine (impl_powerOfTen.calls k t273 t278 _ A6.out).mono ?_); rintro e w' ⟨rfl, ⟨nd, rfl⟩⟩; refine ⟨_, rfl, ?_⟩) | ((with_reducible refine gate_callee (f := 27) rfl ?_); refine goesL_ (some 31) rfl rfl Tryd.func27 (by kernel_rfl) rfl #[.int .i64 t272, .int .i64 t278] rfl (by (try simp only [List.map_toArray, List.map_cons, List.map_nil]); first | done | rfl | (simp only [List.length_drop, List.length_take]; rfl)) ?_; (with_reducible refine (impl_FixCeil.calls k t272 t278 t279 t280 _ A7.out).mono ?_); rintro e w18 ⟨rfl, hb⟩; refine ⟨_, rfl, ?_⟩; have n0_ := Aside0.mk (below_step (by repeat (first | (with_reducible first | exact HB.out | apply below_alloc | apply pw_below_drewN | apply below_drew1) | exact HB.out)) hb); clear HB; have HB := n0_; clear n0_; (try clear hb); (try clear hb2); (try clear hk); (try clear hi)))
      go_ret3
      exact ⟨by first | rfl | (simp [errW_none, errW_some] <;> rfl) | (simp [*, errW_none, errW_some] <;> rfl), by repeat (first | (with_reducible first | exact HB.out | apply below_alloc | apply pw_below_drewN | apply below_drew1) | exact HB.out)⟩
  · replace c3 := Bool.eq_false_iff.mpr c3
    subst c3
    have H1 : (some (0, 0, false)) = some (r1, r2, r3) := by rw [if_neg (show ¬ (false = true) by decide)] at H; exact H
    clear H
    have H := H1
    clear H1
    simp only [Option.some.injEq, Prod.mk.injEq] at H
    obtain ⟨rfl, rfl, rfl⟩ := H
    go_enter Tryd.func13, Tryd.ntmps13
    go_wp2_with (first | ((with_reducible refine gate_callee (f := 24) rfl ?_); refine goesL_ (some 14) rfl rfl Tryd.func24 (by kernel_rfl) rfl #[.string a0] rfl (by (try simp only [List.map_toArray, List.map_cons, List.map_nil]); first | done | rfl | (simp only [List.length_drop, List.length_take]; rfl)) ?_; (with_reducible refine (impl_readDigits.calls a0 t272 t273 false _ (laidC_b HT.out (by repeat (first | (with_reducible first | exact HB.out | apply below_alloc | apply pw_below_drewN | apply below_drew1) | exact HB.out))) A2.out).mono ?_); rintro e w19 ⟨rfl, hb⟩; refine ⟨_, rfl, ?_⟩; have n0_ := Aside0.mk (below_step (by repeat (first | (with_reducible first | exact HB.out | apply below_alloc | apply pw_below_drewN | apply below_drew1) | exact HB.out)) hb); clear HB; have HB := n0_; clear n0_; (try clear hb); (try clear hb2); (try clear hk); (try clear hi)))
    go_ret3
    exact ⟨by first | rfl | (simp [errW_none, errW_some] <;> rfl) | (simp [*, errW_none, errW_some] <;> rfl), by repeat (first | (with_reducible first | exact HB.out | apply below_alloc | apply pw_below_drewN | apply below_drew1) | exact HB.out)⟩

/-! ### impl_TextDown: function 14 -/
def impl_TextDown.j0 : Nat → Int → Int → Bool → Option (ByteArray)
  | 0, _, _, _ => none
  | k + 1, x0, x1, x14 => if x14 = true then (some (⟨#[]⟩ : ByteArray)) else ((impl_powerOfTen.f k x1).bind fun t283 => ((impl_MulFloor.f x0 t283 32).bind fun bt284 => ((impl_digitsText.f k bt284.1 x1).bind fun t286 => (some t286))))
def impl_TextDown.f (k : Nat) (a0 : Int) (a1 : Int) : Option (ByteArray) := (impl_ValidFix.f a0).bind fun t281 => (if t281 = true then ((impl_within.f a1 0 9).bind fun t282 => (impl_TextDown.j0 k a0 a1 (!t282))) else (impl_TextDown.j0 k a0 a1 true))
theorem impl_TextDown.mono_l : ∀ k, (∀ y0 y1 y2, LeO (impl_TextDown.j0 k y0 y1 y2) (impl_TextDown.j0 (k + 1) y0 y1 y2))
  | 0 => fun _ _ _ r h => by simp [impl_TextDown.j0] at h
  | k + 1 => by
    have ih0 := impl_TextDown.mono_l k
    · intro y0 y1 y2
      unfold impl_TextDown.j0
      repeat' first
      | (with_reducible exact ih0 _ _ _)
      | (with_reducible exact impl_digitsText.mono _ _ _)
      | (with_reducible exact impl_powerOfTen.mono _ _)
      | (with_reducible exact LeO.refl _)
      | (with_reducible exact LeO.none _)
      | (with_reducible refine LeO.ite ?_ ?_)
      | (with_reducible refine LeO.bind ?_ (fun _ => ?_))
      | exact ih0 _ _ _
      | exact impl_digitsText.mono _ _ _
      | exact impl_powerOfTen.mono _ _
      | exact LeO.none _
      | refine LeO.ite ?_ ?_
      | refine LeO.bind ?_ (fun _ => ?_)
theorem impl_TextDown.mono : ∀ a0 a1 k, LeO (impl_TextDown.f k a0 a1) (impl_TextDown.f (k + 1) a0 a1) := by
  intro a0 a1 k
  have ih0 := impl_TextDown.mono_l k
  unfold impl_TextDown.f
  repeat' first
      | (with_reducible exact ih0 _ _ _)
      | (with_reducible exact impl_digitsText.mono _ _ _)
      | (with_reducible exact impl_powerOfTen.mono _ _)
      | (with_reducible exact LeO.refl _)
      | (with_reducible exact LeO.none _)
      | (with_reducible refine LeO.ite ?_ ?_)
      | (with_reducible refine LeO.bind ?_ (fun _ => ?_))
      | exact ih0 _ _ _
      | exact impl_digitsText.mono _ _ _
      | exact impl_powerOfTen.mono _ _
      | exact LeO.none _
      | refine LeO.ite ?_ ?_
      | refine LeO.bind ?_ (fun _ => ?_)
set_option maxHeartbeats 8000000 in
set_option maxRecDepth 100000 in
theorem impl_TextDown.calls (k : Nat) (a0 : Int) (a1 : Int) (r : ByteArray) (w : World) (HT : Hid (LaidC w)) (h : impl_TextDown.f k a0 a1 = some r) :
    Calls Tryd.prog 14 #[.int .i64 a0, .int .i64 a1] w fun e w' => e = .returned (.string r) ∧ Below w.heap.size w w' := by
  have HB := Aside0.mk (Below.refl w.heap.size w)
  have H : ((impl_ValidFix.f a0).bind fun t281 => (if t281 = true then ((impl_within.f a1 0 9).bind fun t282 => (impl_TextDown.j0 k a0 a1 (!t282))) else (impl_TextDown.j0 k a0 a1 true))) = some r := h
  clear h
  have HC3 := Aside0.mk H
  clear H
  go_enter Tryd.func14, Tryd.ntmps14
  go_upto_region 1 with (fail)
  go_cut [14] (fun v14 wc => ∃ (kq : Nat) (x14_2 : Bool), v14 = .bool x14_2 ∧ Aside0 (impl_TextDown.j0 kq a0 a1 x14_2 = some r) ∧ Aside0 (kq ≤ k) ∧ Aside0 (Below w.heap.size w wc))
  case first =>
    have H := HC3.out
    clear HC3
    replace H := Option.bind_eq_some_iff.mp H
    obtain ⟨t281, A40, H⟩ := H
    replace H : (if t281 = true then ((impl_within.f a1 0 9).bind fun t282 => (impl_TextDown.j0 k a0 a1 (!t282))) else (impl_TextDown.j0 k a0 a1 true)) = some r := H
    have A4 := Aside0.mk A40
    clear A40
    by_cases c5 : t281 = true
    · subst c5
      have H1 : ((impl_within.f a1 0 9).bind fun t282 => (impl_TextDown.j0 k a0 a1 (!t282))) = some r := by rw [if_pos rfl] at H; exact H
      clear H
      have H := H1
      clear H1
      replace H := Option.bind_eq_some_iff.mp H
      obtain ⟨t282, A60, H⟩ := H
      replace H : (impl_TextDown.j0 k a0 a1 (!t282)) = some r := H
      have A6 := Aside0.mk A60
      clear A60
      have H' := Aside0.mk H
      clear H
      go_wp2_with (first | ((with_reducible refine gate_callee (f := 18) rfl ?_); refine goesL_ (some 8) rfl rfl Tryd.func18 (by kernel_rfl) rfl #[.int .i64 a0] rfl (by (try simp only [List.map_toArray, List.map_cons, List.map_nil]); first | done | rfl | (simp only [List.length_drop, List.length_take]; rfl)) ?_; (with_reducible refine (impl_ValidFix.calls a0 true _ A4.out).mono ?_); rintro e w' ⟨rfl, ⟨nd, rfl⟩⟩; refine ⟨_, rfl, ?_⟩) | (go_at_call 28; (with_reducible refine (impl_within.calls a1 0 9 t282 _ A6.out).mono ?_); rintro e w' ⟨rfl, ⟨nd, rfl⟩⟩))
      go_meet
      case rel => exact ⟨_, (!t282), (by first | rfl | (simp; done) | (simp [*]; done)), H', ⟨by first | omega | exact Nat.le_refl _⟩, ⟨by repeat (first | (with_reducible first | exact HB.out | apply below_alloc | apply pw_below_drewN | apply below_drew1) | exact HB.out)⟩⟩
    · replace c5 := Bool.eq_false_iff.mpr c5
      subst c5
      have H1 : (impl_TextDown.j0 k a0 a1 true) = some r := by rw [if_neg (show ¬ (false = true) by decide)] at H; exact H
      clear H
      have H := H1
      clear H1
      have H' := Aside0.mk H
      clear H
      go_wp2_with (first | ((with_reducible refine gate_callee (f := 18) rfl ?_); refine goesL_ (some 8) rfl rfl Tryd.func18 (by kernel_rfl) rfl #[.int .i64 a0] rfl (by (try simp only [List.map_toArray, List.map_cons, List.map_nil]); first | done | rfl | (simp only [List.length_drop, List.length_take]; rfl)) ?_; (with_reducible refine (impl_ValidFix.calls a0 false _ A4.out).mono ?_); rintro e w' ⟨rfl, ⟨nd, rfl⟩⟩; refine ⟨_, rfl, ?_⟩))
      go_meet
      case rel => exact ⟨_, (true), (by first | rfl | (simp; done) | (simp [*]; done)), H', ⟨by first | omega | exact Nat.le_refl _⟩, ⟨by repeat (first | (with_reducible first | exact HB.out | apply below_alloc | apply pw_below_drewN | apply below_drew1) | exact HB.out)⟩⟩
  case rest =>
    clear HC3
    try clear c1
    try clear p2
    try clear c5
    obtain ⟨kq, x14_2, rfl, HA, HJ2, HB⟩ := hcut
    cases kq with
    | zero => exact absurd HA.out (by simp [impl_TextDown.j0])
    | succ kj2 =>
      have H := HA.out
      clear HA
      simp only [impl_TextDown.j0] at H
      by_cases c7 : x14_2 = true
      · subst c7
        have H1 : (some (⟨#[]⟩ : ByteArray)) = some r := by rw [if_pos rfl] at H; exact H
        clear H
        have H := H1
        clear H1
        obtain rfl := Option.some.inj H
        go_wp2
        go_ret
        exact ⟨by first | rfl | (simp [errW_none, errW_some] <;> rfl) | (simp [*, errW_none, errW_some] <;> rfl), by repeat (first | (with_reducible first | exact HB.out | apply below_alloc | apply pw_below_drewN | apply below_drew1) | exact HB.out)⟩
      · replace c7 := Bool.eq_false_iff.mpr c7
        subst c7
        have H1 : ((impl_powerOfTen.f kj2 a1).bind fun t283 => ((impl_MulFloor.f a0 t283 32).bind fun bt284 => ((impl_digitsText.f kj2 bt284.1 a1).bind fun t286 => (some t286)))) = some r := by rw [if_neg (show ¬ (false = true) by decide)] at H; exact H
        clear H
        have H := H1
        clear H1
        replace H := Option.bind_eq_some_iff.mp H
        obtain ⟨t283, A80, H⟩ := H
        replace H : ((impl_MulFloor.f a0 t283 32).bind fun bt284 => ((impl_digitsText.f kj2 bt284.1 a1).bind fun t286 => (some t286))) = some r := H
        have A8 := Aside0.mk A80
        clear A80
        replace H := Option.bind_eq_some_iff.mp H
        obtain ⟨⟨t284, t285⟩, A90, H⟩ := H
        replace H : ((impl_digitsText.f kj2 t284 a1).bind fun t286 => (some t286)) = some r := H
        have A9 := Aside0.mk A90
        clear A90
        replace H := Option.bind_eq_some_iff.mp H
        obtain ⟨t286, A100, H⟩ := H
        replace H : (some t286) = some r := H
        have A10 := Aside0.mk A100
        clear A100
        obtain rfl := Option.some.inj H
        go_wp2_with (first | ((with_reducible refine gate_callee (f := 26) rfl ?_); refine goesL_ (some 18) rfl rfl Tryd.func26 (by kernel_rfl) rfl #[.int .i64 a1] rfl (by (try simp only [List.map_toArray, List.map_cons, List.map_nil]); first | done | rfl | (simp only [List.length_drop, List.length_take]; rfl)) ?_; (with_reducible refine (impl_powerOfTen.calls kj2 a1 t283 _ A8.out).mono ?_); rintro e w' ⟨rfl, ⟨nd, rfl⟩⟩; refine ⟨_, rfl, ?_⟩) | ((with_reducible refine gate_callee (f := 20) rfl ?_); refine goesL_ (some 19) rfl rfl Tryd.func20 (by kernel_rfl) rfl #[.int .i64 a0, .int .i64 t283, .int .i64 32] rfl (by (try simp only [List.map_toArray, List.map_cons, List.map_nil]); first | done | rfl | (simp only [List.length_drop, List.length_take]; rfl)) ?_; (with_reducible refine (impl_MulFloor.calls a0 t283 32 t284 t285 _ A9.out).mono ?_); rintro e w11 ⟨rfl, hb⟩; refine ⟨_, rfl, ?_⟩; have n0_ := Aside0.mk (below_step (by repeat (first | (with_reducible first | exact HB.out | apply below_alloc | apply pw_below_drewN | apply below_drew1) | exact HB.out)) hb); clear HB; have HB := n0_; clear n0_; (try clear hb); (try clear hb2); (try clear hk); (try clear hi)) | ((with_reducible refine gate_callee (f := 29) rfl ?_); refine goesL_ (some 24) rfl rfl Tryd.func29 (by kernel_rfl) rfl #[.int .i64 t284, .int .i64 a1] rfl (by (try simp only [List.map_toArray, List.map_cons, List.map_nil]); first | done | rfl | (simp only [List.length_drop, List.length_take]; rfl)) ?_; (with_reducible refine (impl_digitsText.calls kj2 t284 a1 t286 _ (laidC_b HT.out (by repeat (first | (with_reducible first | exact HB.out | apply below_alloc | apply pw_below_drewN | apply below_drew1) | exact HB.out))) A10.out).mono ?_); rintro e w12 ⟨rfl, hb⟩; refine ⟨_, rfl, ?_⟩; have n0_ := Aside0.mk (below_step (by repeat (first | (with_reducible first | exact HB.out | apply below_alloc | apply pw_below_drewN | apply below_drew1) | exact HB.out)) hb); clear HB; have HB := n0_; clear n0_; (try clear hb); (try clear hb2); (try clear hk); (try clear hi)))
        go_ret
        exact ⟨by first | rfl | (simp [errW_none, errW_some] <;> rfl) | (simp [*, errW_none, errW_some] <;> rfl), by repeat (first | (with_reducible first | exact HB.out | apply below_alloc | apply pw_below_drewN | apply below_drew1) | exact HB.out)⟩

/-! ### impl_TextUp: function 15 -/
def impl_TextUp.j0 : Nat → Int → Int → Bool → Option (ByteArray)
  | 0, _, _, _ => none
  | k + 1, x0, x1, x14 => if x14 = true then (some (⟨#[]⟩ : ByteArray)) else ((impl_powerOfTen.f k x1).bind fun t289 => ((impl_MulFloor.f (wrap64 (-x0)) t289 32).bind fun bt290 => ((impl_digitsText.f k (wrap64 (-bt290.1)) x1).bind fun t292 => (some t292))))
def impl_TextUp.f (k : Nat) (a0 : Int) (a1 : Int) : Option (ByteArray) := (impl_ValidFix.f a0).bind fun t287 => (if t287 = true then ((impl_within.f a1 0 9).bind fun t288 => (impl_TextUp.j0 k a0 a1 (!t288))) else (impl_TextUp.j0 k a0 a1 true))
theorem impl_TextUp.mono_l : ∀ k, (∀ y0 y1 y2, LeO (impl_TextUp.j0 k y0 y1 y2) (impl_TextUp.j0 (k + 1) y0 y1 y2))
  | 0 => fun _ _ _ r h => by simp [impl_TextUp.j0] at h
  | k + 1 => by
    have ih0 := impl_TextUp.mono_l k
    · intro y0 y1 y2
      unfold impl_TextUp.j0
      repeat' first
      | (with_reducible exact ih0 _ _ _)
      | (with_reducible exact impl_digitsText.mono _ _ _)
      | (with_reducible exact impl_powerOfTen.mono _ _)
      | (with_reducible exact LeO.refl _)
      | (with_reducible exact LeO.none _)
      | (with_reducible refine LeO.ite ?_ ?_)
      | (with_reducible refine LeO.bind ?_ (fun _ => ?_))
      | exact ih0 _ _ _
      | exact impl_digitsText.mono _ _ _
      | exact impl_powerOfTen.mono _ _
      | exact LeO.none _
      | refine LeO.ite ?_ ?_
      | refine LeO.bind ?_ (fun _ => ?_)
theorem impl_TextUp.mono : ∀ a0 a1 k, LeO (impl_TextUp.f k a0 a1) (impl_TextUp.f (k + 1) a0 a1) := by
  intro a0 a1 k
  have ih0 := impl_TextUp.mono_l k
  unfold impl_TextUp.f
  repeat' first
      | (with_reducible exact ih0 _ _ _)
      | (with_reducible exact impl_digitsText.mono _ _ _)
      | (with_reducible exact impl_powerOfTen.mono _ _)
      | (with_reducible exact LeO.refl _)
      | (with_reducible exact LeO.none _)
      | (with_reducible refine LeO.ite ?_ ?_)
      | (with_reducible refine LeO.bind ?_ (fun _ => ?_))
      | exact ih0 _ _ _
      | exact impl_digitsText.mono _ _ _
      | exact impl_powerOfTen.mono _ _
      | exact LeO.none _
      | refine LeO.ite ?_ ?_
      | refine LeO.bind ?_ (fun _ => ?_)
set_option maxHeartbeats 8000000 in
set_option maxRecDepth 100000 in
theorem impl_TextUp.calls (k : Nat) (a0 : Int) (a1 : Int) (r : ByteArray) (w : World) (HT : Hid (LaidC w)) (h : impl_TextUp.f k a0 a1 = some r) :
    Calls Tryd.prog 15 #[.int .i64 a0, .int .i64 a1] w fun e w' => e = .returned (.string r) ∧ Below w.heap.size w w' := by
  have HB := Aside0.mk (Below.refl w.heap.size w)
  have H : ((impl_ValidFix.f a0).bind fun t287 => (if t287 = true then ((impl_within.f a1 0 9).bind fun t288 => (impl_TextUp.j0 k a0 a1 (!t288))) else (impl_TextUp.j0 k a0 a1 true))) = some r := h
  clear h
  have HC3 := Aside0.mk H
  clear H
  go_enter Tryd.func15, Tryd.ntmps15
  go_upto_region 1 with (fail)
  go_cut [14] (fun v14 wc => ∃ (kq : Nat) (x14_2 : Bool), v14 = .bool x14_2 ∧ Aside0 (impl_TextUp.j0 kq a0 a1 x14_2 = some r) ∧ Aside0 (kq ≤ k) ∧ Aside0 (Below w.heap.size w wc))
  case first =>
    have H := HC3.out
    clear HC3
    replace H := Option.bind_eq_some_iff.mp H
    obtain ⟨t287, A40, H⟩ := H
    replace H : (if t287 = true then ((impl_within.f a1 0 9).bind fun t288 => (impl_TextUp.j0 k a0 a1 (!t288))) else (impl_TextUp.j0 k a0 a1 true)) = some r := H
    have A4 := Aside0.mk A40
    clear A40
    by_cases c5 : t287 = true
    · subst c5
      have H1 : ((impl_within.f a1 0 9).bind fun t288 => (impl_TextUp.j0 k a0 a1 (!t288))) = some r := by rw [if_pos rfl] at H; exact H
      clear H
      have H := H1
      clear H1
      replace H := Option.bind_eq_some_iff.mp H
      obtain ⟨t288, A60, H⟩ := H
      replace H : (impl_TextUp.j0 k a0 a1 (!t288)) = some r := H
      have A6 := Aside0.mk A60
      clear A60
      have H' := Aside0.mk H
      clear H
      go_wp2_with (first | ((with_reducible refine gate_callee (f := 18) rfl ?_); refine goesL_ (some 8) rfl rfl Tryd.func18 (by kernel_rfl) rfl #[.int .i64 a0] rfl (by (try simp only [List.map_toArray, List.map_cons, List.map_nil]); first | done | rfl | (simp only [List.length_drop, List.length_take]; rfl)) ?_; (with_reducible refine (impl_ValidFix.calls a0 true _ A4.out).mono ?_); rintro e w' ⟨rfl, ⟨nd, rfl⟩⟩; refine ⟨_, rfl, ?_⟩) | (go_at_call 28; (with_reducible refine (impl_within.calls a1 0 9 t288 _ A6.out).mono ?_); rintro e w' ⟨rfl, ⟨nd, rfl⟩⟩))
      go_meet
      case rel => exact ⟨_, (!t288), (by first | rfl | (simp; done) | (simp [*]; done)), H', ⟨by first | omega | exact Nat.le_refl _⟩, ⟨by repeat (first | (with_reducible first | exact HB.out | apply below_alloc | apply pw_below_drewN | apply below_drew1) | exact HB.out)⟩⟩
    · replace c5 := Bool.eq_false_iff.mpr c5
      subst c5
      have H1 : (impl_TextUp.j0 k a0 a1 true) = some r := by rw [if_neg (show ¬ (false = true) by decide)] at H; exact H
      clear H
      have H := H1
      clear H1
      have H' := Aside0.mk H
      clear H
      go_wp2_with (first | ((with_reducible refine gate_callee (f := 18) rfl ?_); refine goesL_ (some 8) rfl rfl Tryd.func18 (by kernel_rfl) rfl #[.int .i64 a0] rfl (by (try simp only [List.map_toArray, List.map_cons, List.map_nil]); first | done | rfl | (simp only [List.length_drop, List.length_take]; rfl)) ?_; (with_reducible refine (impl_ValidFix.calls a0 false _ A4.out).mono ?_); rintro e w' ⟨rfl, ⟨nd, rfl⟩⟩; refine ⟨_, rfl, ?_⟩))
      go_meet
      case rel => exact ⟨_, (true), (by first | rfl | (simp; done) | (simp [*]; done)), H', ⟨by first | omega | exact Nat.le_refl _⟩, ⟨by repeat (first | (with_reducible first | exact HB.out | apply below_alloc | apply pw_below_drewN | apply below_drew1) | exact HB.out)⟩⟩
  case rest =>
    clear HC3
    try clear c1
    try clear p2
    try clear c5
    obtain ⟨kq, x14_2, rfl, HA, HJ2, HB⟩ := hcut
    cases kq with
    | zero => exact absurd HA.out (by simp [impl_TextUp.j0])
    | succ kj2 =>
      have H := HA.out
      clear HA
      simp only [impl_TextUp.j0] at H
      by_cases c7 : x14_2 = true
      · subst c7
        have H1 : (some (⟨#[]⟩ : ByteArray)) = some r := by rw [if_pos rfl] at H; exact H
        clear H
        have H := H1
        clear H1
        obtain rfl := Option.some.inj H
        go_wp2
        go_ret
        exact ⟨by first | rfl | (simp [errW_none, errW_some] <;> rfl) | (simp [*, errW_none, errW_some] <;> rfl), by repeat (first | (with_reducible first | exact HB.out | apply below_alloc | apply pw_below_drewN | apply below_drew1) | exact HB.out)⟩
      · replace c7 := Bool.eq_false_iff.mpr c7
        subst c7
        have H1 : ((impl_powerOfTen.f kj2 a1).bind fun t289 => ((impl_MulFloor.f (wrap64 (-a0)) t289 32).bind fun bt290 => ((impl_digitsText.f kj2 (wrap64 (-bt290.1)) a1).bind fun t292 => (some t292)))) = some r := by rw [if_neg (show ¬ (false = true) by decide)] at H; exact H
        clear H
        have H := H1
        clear H1
        replace H := Option.bind_eq_some_iff.mp H
        obtain ⟨t289, A80, H⟩ := H
        replace H : ((impl_MulFloor.f (wrap64 (-a0)) t289 32).bind fun bt290 => ((impl_digitsText.f kj2 (wrap64 (-bt290.1)) a1).bind fun t292 => (some t292))) = some r := H
        have A8 := Aside0.mk A80
        clear A80
        replace H := Option.bind_eq_some_iff.mp H
        obtain ⟨⟨t290, t291⟩, A90, H⟩ := H
        replace H : ((impl_digitsText.f kj2 (wrap64 (-t290)) a1).bind fun t292 => (some t292)) = some r := H
        have A9 := Aside0.mk A90
        clear A90
        replace H := Option.bind_eq_some_iff.mp H
        obtain ⟨t292, A100, H⟩ := H
        replace H : (some t292) = some r := H
        have A10 := Aside0.mk A100
        clear A100
        obtain rfl := Option.some.inj H
        go_wp2_with (first | ((with_reducible refine gate_callee (f := 26) rfl ?_); refine goesL_ (some 19) rfl rfl Tryd.func26 (by kernel_rfl) rfl #[.int .i64 a1] rfl (by (try simp only [List.map_toArray, List.map_cons, List.map_nil]); first | done | rfl | (simp only [List.length_drop, List.length_take]; rfl)) ?_; (with_reducible refine (impl_powerOfTen.calls kj2 a1 t289 _ A8.out).mono ?_); rintro e w' ⟨rfl, ⟨nd, rfl⟩⟩; refine ⟨_, rfl, ?_⟩) | ((with_reducible refine gate_callee (f := 20) rfl ?_); refine goesL_ (some 20) rfl rfl Tryd.func20 (by kernel_rfl) rfl #[.int .i64 (wrap64 (-a0)), .int .i64 t289, .int .i64 32] rfl (by (try simp only [List.map_toArray, List.map_cons, List.map_nil]); first | done | rfl | (simp only [List.length_drop, List.length_take]; rfl)) ?_; (with_reducible refine (impl_MulFloor.calls (wrap64 (-a0)) t289 32 t290 t291 _ A9.out).mono ?_); rintro e w11 ⟨rfl, hb⟩; refine ⟨_, rfl, ?_⟩; have n0_ := Aside0.mk (below_step (by repeat (first | (with_reducible first | exact HB.out | apply below_alloc | apply pw_below_drewN | apply below_drew1) | exact HB.out)) hb); clear HB; have HB := n0_; clear n0_; (try clear hb); (try clear hb2); (try clear hk); (try clear hi)) | ((with_reducible refine gate_callee (f := 29) rfl ?_); refine goesL_ (some 26) rfl rfl Tryd.func29 (by kernel_rfl) rfl #[.int .i64 (wrap64 (-t290)), .int .i64 a1] rfl (by (try simp only [List.map_toArray, List.map_cons, List.map_nil]); first | done | rfl | (simp only [List.length_drop, List.length_take]; rfl)) ?_; (with_reducible refine (impl_digitsText.calls kj2 (wrap64 (-t290)) a1 t292 _ (laidC_b HT.out (by repeat (first | (with_reducible first | exact HB.out | apply below_alloc | apply pw_below_drewN | apply below_drew1) | exact HB.out))) A10.out).mono ?_); rintro e w12 ⟨rfl, hb⟩; refine ⟨_, rfl, ?_⟩; have n0_ := Aside0.mk (below_step (by repeat (first | (with_reducible first | exact HB.out | apply below_alloc | apply pw_below_drewN | apply below_drew1) | exact HB.out)) hb); clear HB; have HB := n0_; clear n0_; (try clear hb); (try clear hb2); (try clear hk); (try clear hi)))
        go_ret
        exact ⟨by first | rfl | (simp [errW_none, errW_some] <;> rfl) | (simp [*, errW_none, errW_some] <;> rfl), by repeat (first | (with_reducible first | exact HB.out | apply below_alloc | apply pw_below_drewN | apply below_drew1) | exact HB.out)⟩

end Go.Proofs.YtnlmndhmjceajaaDoor.PFnFixed
