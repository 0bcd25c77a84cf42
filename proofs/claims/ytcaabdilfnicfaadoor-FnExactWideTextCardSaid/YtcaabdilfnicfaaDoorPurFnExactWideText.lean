/- The plain law of FnExactWideText: what the program's function and the reference's compute is the same, for every argument of its kind; no condition. -/
import Derived.Test.YtcaabdilfnicfaaDoorPFnExactWideTextx3
import Derived.OpenShut
import Derived.Lib.BitFns
import Derived.Laws.Bits64
import Derived.Laws.BitsLemmas
namespace Go.Proofs.YtcaabdilfnicfaaDoor.Pure
open Go.RowKit Go.Proofs.YtcaabdilfnicfaaDoor.PFnExactWideText Go.Proofs.YtcaabdilfnicfaaDoorW.PrintWords Go.Proofs.YtcaabdilfnicfaaDoorW.PrintLast Go.Proofs.YtcaabdilfnicfaaDoor.Ext
theorem uw (n : Int) : IntKind.u64.wrap n = n % 18446744073709551616 := IntKind.wrap_u64 n
theorem wraps_u64 (n : Int) (h₀ : 0 ≤ n) (h₁ : n < 2 ^ 64) : IntKind.u64.wrap n = n := by rw [uw]; omega
theorem lo32 {x : Int} (h₀ : 0 ≤ x) (h₁ : x < 18446744073709551616) : Go.bits .and .u64 x 4294967295 = x % 4294967296 := bits_mask .u64 64 (by decide) wraps_u64 32 (by decide) x h₀ (by omega)
theorem not64 (x : Int) (h₀ : -9223372036854775808 ≤ x) (h₁ : x ≤ 9223372036854775807) : Go.bits .xor .i64 (-1) x = -1 - x := by
  have e1 : (BitVec.ofInt 64 (-1)) = BitVec.allOnes 64 := by decide
  show IntKind.i64.wrap (((BitVec.ofInt 64 (-1)) ^^^ BitVec.ofInt 64 x).toNat : Int) = _
  rw [e1, BitVec.allOnes_xor, BitVec.toNat_not, BitVec.toNat_ofInt, IntKind.wrap_i64]
  omega
theorem wrap_neg {n : Nat} (h : n < 18446744073709551616) : IntKind.i64.wrap (n : Int) < 0 ↔ 9223372036854775808 ≤ n := by rw [IntKind.wrap_i64]; omega
theorem msb_of (x : Int) (h₀ : -9223372036854775808 ≤ x) (h₁ : x ≤ 9223372036854775807) : (BitVec.ofInt 64 x).msb = decide (x < 0) := by
  rw [BitVec.msb_eq_decide, BitVec.toNat_ofInt]
  congr 1
  simp only [eq_iff_iff]
  omega
theorem neg_msb (b : BitVec 64) : IntKind.i64.wrap (b.toNat : Int) < 0 ↔ b.msb = true := by
  rw [wrap_neg b.isLt, BitVec.msb_eq_decide]; simp
theorem toInt_wrap (b : BitVec 64) : IntKind.i64.wrap (b.toNat : Int) = b.toInt := by
  rw [IntKind.wrap_i64, BitVec.toInt_eq_toNat_cond]; have := b.isLt; split <;> omega
/-- the sign test of an addition -/
theorem sign_test (a b h : Int) (ha₀ : -9223372036854775808 ≤ a) (ha₁ : a ≤ 9223372036854775807) (hb₀ : -9223372036854775808 ≤ b) (hb₁ : b ≤ 9223372036854775807) (hh₀ : -9223372036854775808 ≤ h) (hh₁ : h ≤ 9223372036854775807) :
    Go.bits .and .i64 (Go.bits .xor .i64 a h) (Go.bits .xor .i64 b h) < 0 ↔ ((a < 0) ↔ ¬ (h < 0)) ∧ ((b < 0) ↔ ¬ (h < 0)) := by
  show IntKind.i64.wrap (((BitVec.ofInt 64 (IntKind.i64.wrap ((BitVec.ofInt 64 a ^^^ BitVec.ofInt 64 h).toNat : Int))) &&& (BitVec.ofInt 64 (IntKind.i64.wrap ((BitVec.ofInt 64 b ^^^ BitVec.ofInt 64 h).toNat : Int)))).toNat : Int) < 0 ↔ _
  rw [neg_msb, BitVec.msb_and, toInt_wrap, toInt_wrap, BitVec.ofInt_toInt, BitVec.ofInt_toInt, BitVec.msb_xor, BitVec.msb_xor, msb_of a ha₀ ha₁, msb_of b hb₀ hb₁, msb_of h hh₀ hh₁]
  by_cases p : a < 0 <;> by_cases q : b < 0 <;> by_cases r : h < 0 <;> simp [p, q, r]
theorem prod4 (x y : Int) : x * y = (x / 4294967296) * (y / 4294967296) * 18446744073709551616 + ((x / 4294967296) * (y % 4294967296) + (x % 4294967296) * (y / 4294967296)) * 4294967296 + (x % 4294967296) * (y % 4294967296) := by
  have hx : x = 4294967296 * (x / 4294967296) + x % 4294967296 := by omega
  have hy : y = 4294967296 * (y / 4294967296) + y % 4294967296 := by omega
  generalize x / 4294967296 = a at *
  generalize x % 4294967296 = b at *
  generalize y / 4294967296 = c at *
  generalize y % 4294967296 = d at *
  subst hx hy
  grind
theorem mul_bd {a b m n : Int} (ha : 0 ≤ a) (ha' : a ≤ m) (hb : 0 ≤ b) (hb' : b ≤ n) : 0 ≤ a * b ∧ a * b ≤ m * n :=
  ⟨Int.mul_nonneg ha hb, Int.mul_le_mul ha' hb' hb (Int.le_trans ha ha')⟩
theorem times_hi (x y : Int) (hx : 0 ≤ x) (hx' : x < 18446744073709551616) (hy : 0 ≤ y) (hy' : y < 18446744073709551616) :
    (((x / 4294967296) * (y / 4294967296) % 18446744073709551616 + (((x / 4294967296) * (y % 4294967296) % 18446744073709551616 + ((x % 4294967296) * (y % 4294967296) % 18446744073709551616) / 4294967296) % 18446744073709551616) / 4294967296) % 18446744073709551616 + (((x % 4294967296) * (y / 4294967296) % 18446744073709551616 + (((x / 4294967296) * (y % 4294967296) % 18446744073709551616 + ((x % 4294967296) * (y % 4294967296) % 18446744073709551616) / 4294967296) % 18446744073709551616) % 4294967296) % 18446744073709551616) / 4294967296) % 18446744073709551616 = x * y / 18446744073709551616 := by
  rw [prod4 x y]
  have a1 : 0 ≤ x / 4294967296 ∧ x / 4294967296 ≤ 4294967295 := by omega
  have a2 : 0 ≤ y / 4294967296 ∧ y / 4294967296 ≤ 4294967295 := by omega
  have a3 : 0 ≤ x % 4294967296 ∧ x % 4294967296 ≤ 4294967295 := by omega
  have a4 : 0 ≤ y % 4294967296 ∧ y % 4294967296 ≤ 4294967295 := by omega
  have b1 := mul_bd a1.1 a1.2 a2.1 a2.2
  have b2 := mul_bd a1.1 a1.2 a4.1 a4.2
  have b3 := mul_bd a3.1 a3.2 a2.1 a2.2
  have b4 := mul_bd a3.1 a3.2 a4.1 a4.2
  generalize (x / 4294967296) * (y / 4294967296) = p at *
  generalize (x / 4294967296) * (y % 4294967296) = q at *
  generalize (x % 4294967296) * (y / 4294967296) = r at *
  generalize (x % 4294967296) * (y % 4294967296) = s at *
  clear a1 a2 a3 a4 hx hx' hy hy'
  simp only [Int.reduceMul] at b1 b2 b3 b4
  have e1 : p % 18446744073709551616 = p := by omega
  have e2 : q % 18446744073709551616 = q := by omega
  have e3 : r % 18446744073709551616 = r := by omega
  have e4 : s % 18446744073709551616 = s := by omega
  rw [e1, e2, e3, e4]
  have e5 : (q + s / 4294967296) % 18446744073709551616 = q + s / 4294967296 := by omega
  rw [e5]
  omega
theorem lo32m (z : Int) : Go.bits .and .u64 (z % 18446744073709551616) 4294967295 = z % 18446744073709551616 % 4294967296 := lo32 (by omega) (by omega)
theorem lo1 {x : Int} (h₀ : 0 ≤ x) (h₁ : x < 18446744073709551616) : Go.bits .and .u64 x 1 = x % 2 := bits_mask .u64 64 (by decide) wraps_u64 1 (by decide) x h₀ (by omega)
theorem times_hi2 (x y : Int) (hx : 0 ≤ x) (hx' : x < 18446744073709551616) (hy : 0 ≤ y) (hy' : y < 18446744073709551616) :
    (((x / 4294967296) * (y / 4294967296) % 18446744073709551616 + (((x / 4294967296) * (y % 4294967296) % 18446744073709551616 + ((x % 4294967296) * (y % 4294967296) % 18446744073709551616) / 4294967296) % 18446744073709551616) / 4294967296) % 18446744073709551616 + (((((x / 4294967296) * (y % 4294967296) % 18446744073709551616 + ((x % 4294967296) * (y % 4294967296) % 18446744073709551616) / 4294967296) % 18446744073709551616) % 4294967296 + (x % 4294967296) * (y / 4294967296) % 18446744073709551616) % 18446744073709551616) / 4294967296) % 18446744073709551616 = x * y / 18446744073709551616 := by
  rw [← times_hi x y hx hx' hy hy', Int.add_comm ((((x / 4294967296) * (y % 4294967296) % 18446744073709551616 + ((x % 4294967296) * (y % 4294967296) % 18446744073709551616) / 4294967296) % 18446744073709551616) % 4294967296)]
/-- A number of 64 bits as a wide one. -/
def ofN (n : Int) : Int × Int := (n / 9223372036854775808, n % 18446744073709551616)
/-- The number that two halves stand for, and its halves. -/
def ofV (v : Int) : Int × Int := (v / 18446744073709551616, v % 18446744073709551616)
/-- The negative, modulo 2^128. -/
def neg (h l : Int) : Int × Int := if l = 0 then (wrap64 (-h), 0) else (-1 - h, 18446744073709551616 - l)
def plusW (h1 l1 h2 l2 : Int) : Int × Int := (wrap64 (h1 + h2 + (l1 + l2) / 18446744073709551616), (l1 + l2) % 18446744073709551616)
def I64 (n : Int) : Prop := -9223372036854775808 ≤ n ∧ n ≤ 9223372036854775807
def U64 (n : Int) : Prop := 0 ≤ n ∧ n < 18446744073709551616
theorem wrapI (n : Int) : I64 (wrap64 n) := by unfold I64 wrap64; omega
theorem modU (n : Int) : U64 (n % 18446744073709551616) := by unfold U64; omega
theorem neg_ofV (p : Int) (h0 : 0 ≤ p) (h1 : p ≤ 85070591730234615865843651857942052864) : neg (p / 18446744073709551616) (p % 18446744073709551616) = ofV (-p) := by
  unfold neg ofV wrap64
  split <;> simp only [Prod.mk.injEq] <;> omega
theorem prod_bd {a b : Int} (ha : I64 a) (hb : I64 b) (ha' : 0 ≤ a) (hb' : 0 ≤ b) : 0 ≤ a * b ∧ a * b ≤ 85070591730234615865843651857942052864 := by
  have h := mul_bd ha' (show a ≤ 9223372036854775808 by have := ha.2; omega) hb' (show b ≤ 9223372036854775808 by have := hb.2; omega)
  simpa using h
/-- The number of two halves. -/
def val (h l : Int) : Int := h * 18446744073709551616 + l
theorem pe {α β : Type} (p : α × β) : (p.1, p.2) = p := rfl
theorem toW (a b : Int) : laws_toWide.f a b = some (a, b) := rfl
theorem sMinus {h l : Int} (hh : I64 h) (hl : U64 l) : spec_l02Minus.f h l = some (neg h l) := by
  obtain ⟨h0, h1⟩ := hh
  obtain ⟨l0, l1⟩ := hl
  unfold spec_l02Minus.f neg
  rw [uw, not64 h h0 h1]
  split <;> simp only [Option.some.injEq, Prod.mk.injEq, true_and] <;> omega
theorem iNeg {h l : Int} (hh : I64 h) (hl : U64 l) : impl_Wide_negative.f h l = some (neg h l) := by
  obtain ⟨h0, h1⟩ := hh
  obtain ⟨l0, l1⟩ := hl
  unfold impl_Wide_negative.f neg bits_Sub64.f
  rw [uw, if_pos (by omega)]
  simp only [Option.bind_some]
  by_cases e : l = 0
  · subst e
    rw [if_neg (show ¬ ((0 : Int) < 0 + 0) by omega), if_pos (by omega), if_pos rfl]
    simp only [Option.bind_some, Option.some.injEq, Prod.mk.injEq]
    unfold wrap64; omega
  · rw [if_pos (show (0 : Int) < l + 0 by omega), if_pos (by omega), if_neg e]
    simp only [Option.bind_some, Option.some.injEq, Prod.mk.injEq]
    unfold wrap64; omega
/-- One step of the long division by words. -/
theorem step_hi {u y d q yh yl r K : Int} (hK : 0 < K) (hy : y = yh * K + yl) (hyp : 0 < y) (hdK : d < K) (huy : u < y) (hr : r = u - q * yh) (hq : q ≥ (u * K + d) / y) (h : q ≥ K ∨ q * yl > K * r + d) : q - 1 ≥ (u * K + d) / y := by
  have hlt : (u * K + d) / y < q := by
    apply (Int.ediv_lt_iff_lt_mul hyp).2
    rcases h with h | h
    · have h1 : u * K + d < y * K := by
        have : u * K ≤ (y - 1) * K := Int.mul_le_mul_of_nonneg_right (by omega) (by omega)
        have e : (y - 1) * K = y * K - K := by grind
        omega
      have h2 : y * K ≤ q * y := by rw [Int.mul_comm y K]; exact Int.mul_le_mul_of_nonneg_right h (by omega)
      omega
    · have e : q * y = K * (u - r) + q * yl := by subst hr hy; grind
      have e2 : K * (u - r) = u * K - K * r := by grind
      omega
  omega
theorem step_done {u y d q yh yl r K : Int} (hy : y = yh * K + yl) (hyp : 0 < y) (hr : r = u - q * yh) (hq : q ≥ (u * K + d) / y) (h : q * yl ≤ K * r + d) : q = (u * K + d) / y := by
  have : q ≤ (u * K + d) / y := by
    apply (Int.le_ediv_iff_mul_le hyp).2
    have e : q * y = K * (u - r) + q * yl := by subst hr hy; grind
    have e2 : K * (u - r) = u * K - K * r := by grind
    omega
  omega
theorem bl_aux : ∀ (f x : Nat), x < 2 ^ f → (x = 0 → Lib.bitLenAux f x = 0) ∧ (0 < x → 1 ≤ Lib.bitLenAux f x ∧ Lib.bitLenAux f x ≤ f ∧ 2 ^ (Lib.bitLenAux f x - 1) ≤ x ∧ x < 2 ^ (Lib.bitLenAux f x)) := by
  intro f
  induction f with
  | zero => intro x h; exact ⟨fun _ => rfl, fun h0 => by simp at h; omega⟩
  | succ f ih =>
    intro x h
    refine ⟨fun h0 => by simp [Lib.bitLenAux, h0], fun h0 => ?_⟩
    have e : Lib.bitLenAux (f + 1) x = 1 + Lib.bitLenAux f (x / 2) := by simp only [Lib.bitLenAux]; rw [if_neg (by omega)]
    rw [e]
    have h2 : x / 2 < 2 ^ f := by rw [Nat.pow_succ] at h; omega
    obtain ⟨i0, i1⟩ := ih (x / 2) h2
    rcases Nat.eq_zero_or_pos (x / 2) with z | z
    · rw [i0 z]; refine ⟨by omega, by omega, ?_, ?_⟩ <;> simp <;> omega
    · obtain ⟨a, b, c, d⟩ := i1 z
      generalize Lib.bitLenAux f (x / 2) = L at *
      obtain ⟨L, rfl⟩ : ∃ m, L = m + 1 := ⟨L - 1, by omega⟩
      refine ⟨by omega, by omega, ?_, ?_⟩
      · rw [show 1 + (L + 1) - 1 = L + 1 by omega, Nat.pow_succ]; simp at c; omega
      · rw [show 1 + (L + 1) = L + 1 + 1 by omega, Nat.pow_succ]; omega
/-- The shift that brings a number's first one to the front. -/
theorem norm_shift {y : Int} (h0 : 0 < y) (h1 : y < 18446744073709551616) : ∃ s : Nat, (64 - (Lib.bitLen y.toNat : Int)) = s ∧ s ≤ 63 ∧ 9223372036854775808 ≤ y * 2 ^ s ∧ y * 2 ^ s < 18446744073709551616 := by
  obtain ⟨n, rfl⟩ := Int.eq_ofNat_of_zero_le (Int.le_of_lt h0)
  obtain ⟨_, i1⟩ := bl_aux 64 n (by omega)
  obtain ⟨a, b, c, d⟩ := i1 (by omega)
  refine ⟨64 - Lib.bitLen n, ?_, ?_, ?_, ?_⟩
  · simp only [Int.toNat_natCast]; unfold Lib.bitLen; omega
  · unfold Lib.bitLen; omega
  · have e : 2 ^ (Lib.bitLenAux 64 n - 1) * 2 ^ (64 - Lib.bitLenAux 64 n) = 9223372036854775808 := by rw [← Nat.pow_add, show Lib.bitLenAux 64 n - 1 + (64 - Lib.bitLenAux 64 n) = 63 by omega]
    have := Nat.mul_le_mul_right (2 ^ (64 - Lib.bitLenAux 64 n)) c
    unfold Lib.bitLen
    rw [show ((n : Int) * 2 ^ (64 - Lib.bitLenAux 64 n)) = ((n * 2 ^ (64 - Lib.bitLenAux 64 n) : Nat) : Int) by simp]
    generalize n * 2 ^ (64 - Lib.bitLenAux 64 n) = z at *
    omega
  · have e : 2 ^ (Lib.bitLenAux 64 n) * 2 ^ (64 - Lib.bitLenAux 64 n) = 18446744073709551616 := by rw [← Nat.pow_add, show Lib.bitLenAux 64 n + (64 - Lib.bitLenAux 64 n) = 64 by omega]
    have := (Nat.mul_lt_mul_right (Nat.two_pow_pos (64 - Lib.bitLenAux 64 n))).2 d
    unfold Lib.bitLen
    rw [show ((n : Int) * 2 ^ (64 - Lib.bitLenAux 64 n)) = ((n * 2 ^ (64 - Lib.bitLenAux 64 n) : Nat) : Int) by simp]
    generalize n * 2 ^ (64 - Lib.bitLenAux 64 n) = z at *
    omega
theorem two_digit (W Y K d0 : Int) (hY : 0 < Y) : (W * K + d0) / Y = (W / Y) * K + ((W % Y) * K + d0) / Y ∧ (W * K + d0) % Y = ((W % Y) * K + d0) % Y := by
  have e : W * K + d0 = ((W % Y) * K + d0) + Y * ((W / Y) * K) := by
    have := Int.emod_add_mul_ediv W Y
    generalize W % Y = a at *
    generalize W / Y = b at *
    subst this
    grind
  constructor
  · rw [e, Int.add_mul_ediv_left _ _ (by omega)]; omega
  · conv => lhs; rw [e]
    rw [Int.add_mul_emod_self_left]
/-- A number cut at a shift. -/
theorem cut_shift {lo P R : Int} (hP : 0 < P) (hR : 0 < R) (hPR : P * R = 18446744073709551616) (_hl : 0 ≤ lo) : lo * P % 18446744073709551616 = (lo % R) * P ∧ lo * P = (lo / R) * 18446744073709551616 + (lo % R) * P ∧ 0 ≤ (lo % R) * P ∧ (lo % R) * P < 18446744073709551616 := by
  have h1 := Int.emod_lt_of_pos lo hR
  have h0 := Int.emod_nonneg lo (show R ≠ 0 by omega)
  have e := Int.emod_add_mul_ediv lo R
  generalize lo % R = a at *
  generalize lo / R = b at *
  have h2 : 0 ≤ a * P := Int.mul_nonneg h0 (by omega)
  have h3 : a * P < 18446744073709551616 := by
    have : a * P ≤ (R - 1) * P := Int.mul_le_mul_of_nonneg_right (by omega) (by omega)
    have : (R - 1) * P = 18446744073709551616 - P := by rw [← hPR]; grind
    omega
  have h4 : lo * P = b * 18446744073709551616 + a * P := by rw [← hPR]; subst e; grind
  refine ⟨?_, h4, h2, h3⟩
  rw [h4]
  omega
theorem first_guess {U Y d yh yl : Int} (hy : Y = yh * 4294967296 + yl) (hyl : 0 ≤ yl) (hyl' : yl < 4294967296) (hyh : 2147483648 ≤ yh) (hd0 : 0 ≤ d) (hd : d < 4294967296) (hU : 0 ≤ U) (hu : U < Y) : (U * 4294967296 + d) / Y ≤ U / yh ∧ U / yh ≤ 4294967297 := by
  constructor
  · apply (Int.le_ediv_iff_mul_le (by omega)).2
    have h := Int.ediv_mul_le (U * 4294967296 + d) (show Y ≠ 0 by omega)
    have hq : 0 ≤ (U * 4294967296 + d) / Y := Int.ediv_nonneg (by omega) (by omega)
    generalize (U * 4294967296 + d) / Y = q at *
    have e : q * Y = q * yh * 4294967296 + q * yl := by subst hy; grind
    have := Int.mul_nonneg hq hyl
    omega
  · have : U / yh < 4294967298 := by
      apply (Int.ediv_lt_iff_lt_mul (by omega)).2
      omega
    omega
theorem div_nn {a b : Int} (ha : 0 ≤ a) : Int.tdiv a b = a / b := Int.tdiv_eq_ediv_of_nonneg ha
theorem mod_nn {a b : Int} (ha : 0 ≤ a) : Int.tmod a b = a % b := Int.tmod_eq_emod_of_nonneg ha
theorem l1_tells {y s yh yl d q1 u : Int} (hs : 0 ≤ s) (hy : y = yh * 4294967296 + yl) (hyl : 0 ≤ yl) (hyl' : yl < 4294967296) (hyh : 2147483648 ≤ yh) (hyh' : yh < 4294967296) (hd : 0 ≤ d) (hd' : d < 4294967296) (hu : 0 ≤ u) (huy : u < y) :
    ∀ (n : Nat) (q r : Int) (k : Nat), 4294967296 ≤ r + n * 2147483648 → 2 * n ≤ k → (u * 4294967296 + d) / y ≤ q → q ≤ 4294967297 → r = u - q * yh → 0 ≤ r → r < 4294967296 →
    bits_Div64.l1 k y s yh yl d q1 r u q = some ((q1 * 4294967296 + (u * 4294967296 + d) / y) % 18446744073709551616, shr .u64 ((u * 4294967296 + d) % y) s) := by
  have hyp : 0 < y := by omega
  have hQ0 : 0 ≤ (u * 4294967296 + d) / y := Int.ediv_nonneg (by omega) (by omega)
  have hQK : (u * 4294967296 + d) / y < 4294967296 := by
    apply (Int.ediv_lt_iff_lt_mul hyp).2
    omega
  have hrem : u * 4294967296 + d - (u * 4294967296 + d) / y * y = (u * 4294967296 + d) % y := by
    have := Int.emod_add_mul_ediv (u * 4294967296 + d) y
    rw [Int.mul_comm y] at this
    omega
  have hremb := Int.emod_lt_of_pos (u * 4294967296 + d) hyp
  have hrem0 := Int.emod_nonneg (u * 4294967296 + d) (show y ≠ 0 by omega)
  have fin : ∀ q, q = (u * 4294967296 + d) / y → ((u * 4294967296 % 18446744073709551616 + d) % 18446744073709551616 - q * y % 18446744073709551616) % 18446744073709551616 = (u * 4294967296 + d) % y := by
    intro q hq
    subst hq
    generalize (u * 4294967296 + d) / y * y = p at *
    omega
  intro n
  induction n with
  | zero => intro q r k h1; omega
  | succ n ih =>
    intro q r k h1 hk hq hqK hr hr0 hrK
    obtain ⟨k, rfl⟩ : ∃ m, k = m + 1 + 1 := ⟨k - 2, by omega⟩
    have hql := mul_bd (show 0 ≤ q by omega) hqK hyl (show yl ≤ 4294967295 by omega)
    simp only [Int.reduceMul] at hql
    have more : (4294967296 ≤ q ∨ q * yl > 4294967296 * r + d) → bits_Div64.j4 (k + 1) y s yh yl d q1 r u q true = some ((q1 * 4294967296 + (u * 4294967296 + d) / y) % 18446744073709551616, shr .u64 ((u * 4294967296 + d) % y) s) := by
      intro hc
      have hs1 := step_hi (by decide) hy hyp hd' huy hr hq hc
      have hr' : r + yh = u - (q - 1) * yh := by rw [hr, Int.sub_mul]; omega
      simp only [bits_Div64.j4, uw, if_true]
      rw [show (r + yh) % 18446744073709551616 = r + yh by omega, show (q - 1) % 18446744073709551616 = q - 1 by omega]
      by_cases hb : r + yh ≥ 4294967296
      · have e := step_done hy hyp hr' hs1 (by
          have := mul_bd (show 0 ≤ q - 1 by omega) (show q - 1 ≤ 4294967296 by omega) hyl (show yl ≤ 4294967295 by omega)
          simp only [Int.reduceMul] at this
          omega)
        rw [if_pos hb, if_pos hs, fin _ e]
        rw [show (q1 * 4294967296 % 18446744073709551616 + (q - 1)) % 18446744073709551616 = (q1 * 4294967296 + (q - 1)) % 18446744073709551616 by omega, e]
      · rw [if_neg hb]
        exact ih (q - 1) (r + yh) k (by omega) (by omega) hs1 (by omega) hr' (by omega) (by omega)
    rw [bits_Div64.l1]
    by_cases hc : q ≥ 4294967296
    · rw [if_pos hc]
      exact more (.inl hc)
    · rw [if_neg hc]
      simp only [uw]
      rw [show (4294967296 * r % 18446744073709551616 + d) % 18446744073709551616 = 4294967296 * r + d by omega, show q * yl % 18446744073709551616 = q * yl by omega]
      by_cases hc2 : q * yl > 4294967296 * r + d
      · rw [decide_eq_true hc2]
        exact more (.inr hc2)
      · rw [decide_eq_false hc2]
        have e := step_done hy hyp hr hq (by omega)
        simp only [bits_Div64.j4, uw, Bool.false_eq_true, if_false]
        rw [if_pos hs, fin _ e, show (q1 * 4294967296 % 18446744073709551616 + q) % 18446744073709551616 = (q1 * 4294967296 + q) % 18446744073709551616 by omega, e]
theorem l0_tells {y s yh yl u d d0 : Int} (hy : y = yh * 4294967296 + yl) (hyl : 0 ≤ yl) (hyl' : yl < 4294967296) (hyh : 2147483648 ≤ yh) (hyh' : yh < 4294967296) (hd : 0 ≤ d) (hd' : d < 4294967296) (hu : 0 ≤ u) (huy : u < y) :
    ∀ (n : Nat) (q r : Int) (k : Nat), 4294967296 ≤ r + n * 2147483648 → 2 * n ≤ k → (u * 4294967296 + d) / y ≤ q → q ≤ 4294967297 → r = u - q * yh → 0 ≤ r → r < 4294967296 →
    ∃ k', k ≤ k' + 2 * n ∧ bits_Div64.l0 k y s yh yl u d d0 q r = bits_Div64.j2 k' y s yh yl u d d0 ((u * 4294967296 + d) / y) := by
  have hyp : 0 < y := by omega
  have hQ0 : 0 ≤ (u * 4294967296 + d) / y := Int.ediv_nonneg (by omega) (by omega)
  intro n
  induction n with
  | zero => intro q r k h1; omega
  | succ n ih =>
    intro q r k h1 hk hq hqK hr hr0 hrK
    obtain ⟨k, rfl⟩ : ∃ m, k = m + 1 + 1 := ⟨k - 2, by omega⟩
    have hql := mul_bd (show 0 ≤ q by omega) hqK hyl (show yl ≤ 4294967295 by omega)
    simp only [Int.reduceMul] at hql
    have more : (4294967296 ≤ q ∨ q * yl > 4294967296 * r + d) → ∃ k', k + 1 + 1 ≤ k' + 2 * (n + 1) ∧ bits_Div64.j1 (k + 1) y s yh yl u d d0 q r true = bits_Div64.j2 k' y s yh yl u d d0 ((u * 4294967296 + d) / y) := by
      intro hc
      have hs1 := step_hi (by decide) hy hyp hd' huy hr hq hc
      have hr' : r + yh = u - (q - 1) * yh := by rw [hr, Int.sub_mul]; omega
      simp only [bits_Div64.j1, uw, if_true]
      rw [show (r + yh) % 18446744073709551616 = r + yh by omega, show (q - 1) % 18446744073709551616 = q - 1 by omega]
      by_cases hb : r + yh ≥ 4294967296
      · have e := step_done hy hyp hr' hs1 (by
          have := mul_bd (show 0 ≤ q - 1 by omega) (show q - 1 ≤ 4294967296 by omega) hyl (show yl ≤ 4294967295 by omega)
          simp only [Int.reduceMul] at this
          omega)
        rw [if_pos hb, ← e]
        exact ⟨k, by omega, rfl⟩
      · rw [if_neg hb]
        obtain ⟨k', h1', h2'⟩ := ih (q - 1) (r + yh) k (by omega) (by omega) hs1 (by omega) hr' (by omega) (by omega)
        exact ⟨k', by omega, h2'⟩
    rw [bits_Div64.l0]
    by_cases hc : q ≥ 4294967296
    · rw [if_pos hc]
      exact more (.inl hc)
    · rw [if_neg hc]
      simp only [uw]
      rw [show (4294967296 * r % 18446744073709551616 + d) % 18446744073709551616 = 4294967296 * r + d by omega, show q * yl % 18446744073709551616 = q * yl by omega]
      by_cases hc2 : q * yl > 4294967296 * r + d
      · rw [decide_eq_true hc2]
        exact more (.inr hc2)
      · rw [decide_eq_false hc2]
        have e := step_done hy hyp hr hq (by omega)
        simp only [bits_Div64.j1, Bool.false_eq_true, if_false]
        rw [← e]
        exact ⟨k, by omega, rfl⟩
theorem shl_eq (x : Int) {s : Nat} (h : s ≤ 64) : shl .u64 x (s : Int) = x * 2 ^ s % 18446744073709551616 := by
  unfold shl
  rw [uw, show min (s : Int).toNat IntKind.u64.bits = s by simp [IntKind.bits]; omega]
theorem shr_eq (x : Int) {s : Nat} (h : s ≤ 64) : shr .u64 x (s : Int) = x / 2 ^ s := by
  unfold shr
  rw [show min (s : Int).toNat IntKind.u64.bits = s by simp [IntKind.bits]; omega]
theorem iDiv64 {hi lo y : Int} (h0 : 0 ≤ hi) (hlt : hi < y) (hl : U64 lo) (hy : y < 18446744073709551616) (k : Nat) (hk : 16 ≤ k) : bits_Div64.f k hi lo y = some ((hi * 18446744073709551616 + lo) / y, (hi * 18446744073709551616 + lo) % y) := by
  obtain ⟨l0, l1⟩ := hl
  unfold bits_Div64.f
  rw [if_neg (by omega), if_neg (by omega)]
  by_cases z : hi = 0
  · subst z
    rw [if_pos rfl, div_nn l0, mod_nn l0, uw]
    have e1 : lo / y ≤ lo := Int.ediv_le_self _ l0
    have e2 : 0 ≤ lo / y := Int.ediv_nonneg l0 (by omega)
    rw [show (0 : Int) * 18446744073709551616 + lo = lo by omega, show lo / y % 18446744073709551616 = lo / y by omega]
  · rw [if_neg z]
    unfold bits_LeadingZeros64.f
    rw [if_pos (by omega)]
    obtain ⟨s, hs, hs63, n1, n2⟩ := norm_shift (show 0 < y by omega) hy
    rw [hs]
    have es : IntKind.u64.wrap (s : Int) = s := by rw [uw]; omega
    have es2 : IntKind.u64.wrap (64 - (s : Int)) = ((64 - s : Nat) : Int) := by rw [uw]; omega
    simp only [Option.bind_some, es, es2]
    rw [if_pos (by omega), if_pos (by omega)]
    have hP : (0 : Int) < 2 ^ s := Int.pow_pos (by decide)
    have hR : (0 : Int) < 2 ^ (64 - s) := Int.pow_pos (by decide)
    have hPR : (2 : Int) ^ s * 2 ^ (64 - s) = 18446744073709551616 := by rw [← Int.pow_add, show s + (64 - s) = 64 by omega]; rfl
    simp only [shl_eq _ (show s ≤ 64 by omega), shr_eq _ (show 64 - s ≤ 64 by omega)]
    obtain ⟨c1, c2, c3, c4⟩ := cut_shift hP hR hPR l0
    have hhi : hi * 2 ^ s + 2 ^ s ≤ y * 2 ^ s := by
      have := Int.mul_le_mul_of_nonneg_right (show hi + 1 ≤ y by omega) (Int.le_of_lt hP)
      rw [Int.add_mul] at this; omega
    have hhi0 : 0 ≤ hi * 2 ^ s := Int.mul_nonneg h0 (by omega)
    have hq0 : 0 ≤ lo / 2 ^ (64 - s) := Int.ediv_nonneg l0 (by omega)
    have hqP : lo / 2 ^ (64 - s) < 2 ^ s := by
      apply (Int.ediv_lt_iff_lt_mul hR).2
      omega
    rw [show y * 2 ^ s % 18446744073709551616 = y * 2 ^ s by omega, show hi * 2 ^ s % 18446744073709551616 = hi * 2 ^ s by omega, c1]
    rw [bits_join .u64 64 (by decide) wraps_u64 s (hi * 2 ^ s) (lo / 2 ^ (64 - s)) hhi0 (Int.mul_emod_left _ _) (by omega) hq0 hqP (by omega)]
    have eN : (hi * 18446744073709551616 + lo) * 2 ^ s = (hi * 2 ^ s + lo / 2 ^ (64 - s)) * 18446744073709551616 + (lo % 2 ^ (64 - s)) * 2 ^ s := by rw [Int.add_mul, c2]; grind
    have eD : (hi * 18446744073709551616 + lo) / y = ((hi * 18446744073709551616 + lo) * 2 ^ s) / (y * 2 ^ s) := (Int.mul_ediv_mul_of_pos_left _ _ hP).symm
    have eM : ((hi * 18446744073709551616 + lo) * 2 ^ s) % (y * 2 ^ s) = ((hi * 18446744073709551616 + lo) % y) * 2 ^ s := by rw [Int.mul_comm _ (2 ^ s), Int.mul_comm y, Int.mul_emod_mul_of_pos _ _ hP, Int.mul_comm]
    have eMs : (hi * 18446744073709551616 + lo) % y = (((hi * 18446744073709551616 + lo) * 2 ^ s) % (y * 2 ^ s)) / 2 ^ s := by rw [eM, Int.mul_ediv_cancel _ (by omega)]
    have hNlt : (hi * 18446744073709551616 + lo) / y < 18446744073709551616 := by
      apply (Int.ediv_lt_iff_lt_mul (by omega)).2
      omega
    have hN0 : 0 ≤ (hi * 18446744073709551616 + lo) / y := Int.ediv_nonneg (by omega) (by omega)
    rw [eMs]
    rw [eD] at hNlt hN0 ⊢
    rw [eN] at hNlt hN0 ⊢
    clear eN eD eM eMs c1 c2
    have hUY : hi * 2 ^ s + lo / 2 ^ (64 - s) < y * 2 ^ s := by omega
    have hU0 : 0 ≤ hi * 2 ^ s + lo / 2 ^ (64 - s) := by omega
    generalize hi * 2 ^ s + lo / 2 ^ (64 - s) = U at *
    generalize (lo % 2 ^ (64 - s)) * 2 ^ s = V at *
    generalize y * 2 ^ s = Y at *
    clear hPR hP hR hhi hhi0 hq0 hqP
    have eyh : Y = Y / 4294967296 * 4294967296 + Y % 4294967296 := by omega
    have yh0 : 2147483648 ≤ Y / 4294967296 := by omega
    have yh1 : Y / 4294967296 < 4294967296 := by omega
    rw [if_neg (by omega), lo32 (show 0 ≤ Y by omega) n2, lo32 c3 c4]
    have gu := first_guess eyh (by omega) (by omega) yh0 (show 0 ≤ V / 4294967296 by omega) (by omega) hU0 hUY
    have hq := Int.emod_add_mul_ediv U (Y / 4294967296)
    have hr1 := Int.emod_lt_of_pos U (show 0 < Y / 4294967296 by omega)
    have hr0 := Int.emod_nonneg U (show Y / 4294967296 ≠ 0 by omega)
    have hq0 : 0 ≤ U / (Y / 4294967296) := Int.ediv_nonneg hU0 (by omega)
    simp only [uw, div_nn hU0]
    rw [Int.mul_comm] at hq
    rw [show U / (Y / 4294967296) % 18446744073709551616 = U / (Y / 4294967296) by omega]
    rw [show (U - U / (Y / 4294967296) * (Y / 4294967296) % 18446744073709551616) % 18446744073709551616 = U - U / (Y / 4294967296) * (Y / 4294967296) by generalize U / (Y / 4294967296) * (Y / 4294967296) = w at *; omega]
    obtain ⟨k', hk', e1⟩ := l0_tells (s := s) (d0 := V % 4294967296) eyh (by omega) (by omega) yh0 yh1 (show 0 ≤ V / 4294967296 by omega) (by omega) hU0 hUY 2 (U / (Y / 4294967296)) (U - U / (Y / 4294967296) * (Y / 4294967296)) k (by omega) (by omega) gu.1 gu.2 rfl (by omega) (by omega)
    rw [e1]
    obtain ⟨m, rfl⟩ : ∃ m, k' = m + 1 := ⟨k' - 1, by omega⟩
    rw [bits_Div64.j2, if_neg (by omega)]
    simp only [uw]
    clear e1 hq hr1 hr0 hq0 gu
    have td := two_digit (U * 4294967296 + V / 4294967296) Y 4294967296 (V % 4294967296) (by omega)
    rw [show (U * 4294967296 + V / 4294967296) * 4294967296 + V % 4294967296 = U * 18446744073709551616 + V by omega] at td
    have em := Int.emod_add_mul_ediv (U * 4294967296 + V / 4294967296) Y
    have em1 := Int.emod_lt_of_pos (U * 4294967296 + V / 4294967296) (show 0 < Y by omega)
    have em0 := Int.emod_nonneg (U * 4294967296 + V / 4294967296) (show Y ≠ 0 by omega)
    rw [show ((U * 4294967296 % 18446744073709551616 + V / 4294967296) % 18446744073709551616 - (U * 4294967296 + V / 4294967296) / Y * Y % 18446744073709551616) % 18446744073709551616 = (U * 4294967296 + V / 4294967296) % Y by
      rw [Int.mul_comm Y] at em
      generalize (U * 4294967296 + V / 4294967296) / Y * Y = w at *
      omega]
    clear em
    generalize (U * 4294967296 + V / 4294967296) / Y = Q at *
    generalize (U * 4294967296 + V / 4294967296) % Y = W at *
    have gu := first_guess eyh (by omega) (by omega) yh0 (show 0 ≤ V % 4294967296 by omega) (by omega) em0 em1
    have hq := Int.emod_add_mul_ediv W (Y / 4294967296)
    have hr1 := Int.emod_lt_of_pos W (show 0 < Y / 4294967296 by omega)
    have hr0 := Int.emod_nonneg W (show Y / 4294967296 ≠ 0 by omega)
    have hq0 : 0 ≤ W / (Y / 4294967296) := Int.ediv_nonneg em0 (by omega)
    simp only [div_nn em0]
    rw [Int.mul_comm] at hq
    rw [show W / (Y / 4294967296) % 18446744073709551616 = W / (Y / 4294967296) by omega]
    rw [show (W - W / (Y / 4294967296) * (Y / 4294967296) % 18446744073709551616) % 18446744073709551616 = W - W / (Y / 4294967296) * (Y / 4294967296) by generalize W / (Y / 4294967296) * (Y / 4294967296) = w at *; omega]
    rw [l1_tells (s := s) (q1 := Q) (by omega) eyh (by omega) (by omega) yh0 yh1 (show 0 ≤ V % 4294967296 by omega) (by omega) em0 em1 2 (W / (Y / 4294967296)) (W - W / (Y / 4294967296) * (Y / 4294967296)) m (by omega) (by omega) gu.1 gu.2 rfl (by omega) (by omega)]
    rw [shr_eq _ (show s ≤ 64 by omega), td.2, ← td.1]
    rw [show (U * 18446744073709551616 + V) / Y % 18446744073709551616 = (U * 18446744073709551616 + V) / Y by omega]
theorem iDivided {hi lo d : Int} (hh : U64 hi) (hl : U64 lo) (hd : 0 < d) (hd' : d < 18446744073709551616) (k : Nat) (hk : 16 ≤ k) : impl_divided.f k hi lo d = some (hi / d, (hi % d * 18446744073709551616 + lo) / d, (hi % d * 18446744073709551616 + lo) % d) := by
  unfold impl_divided.f
  have e0 : 0 ≤ hi / d := Int.ediv_nonneg hh.1 (by omega)
  have e1 : hi / d ≤ hi := Int.ediv_le_self _ hh.1
  have e2 := hh.2
  rw [if_neg (by omega), div_nn hh.1, mod_nn hh.1, iDiv64 (Int.emod_nonneg _ (by omega)) (Int.emod_lt_of_pos _ hd) hl hd' k hk, uw, show hi / d % 18446744073709551616 = hi / d by omega]
  rfl
theorem bit_of (lo : Int) (n : Nat) : lo % 2 ^ (n + 1) = (lo / 2 ^ n % 2) * 2 ^ n + lo % 2 ^ n := by
  have hp : (0 : Int) < 2 ^ n := Int.pow_pos (by decide)
  rw [Int.pow_succ]
  have r0 := Int.emod_nonneg lo (show (2 : Int) ^ n ≠ 0 by omega)
  have r1 := Int.emod_lt_of_pos lo hp
  have e := Int.emod_add_mul_ediv lo (2 ^ n)
  have b0 : 0 ≤ lo / 2 ^ n % 2 := by omega
  have b1 : lo / 2 ^ n % 2 ≤ 1 := by omega
  have e2 : lo / 2 ^ n = 2 * (lo / 2 ^ n / 2) + lo / 2 ^ n % 2 := by omega
  generalize lo / 2 ^ n % 2 = b at *
  generalize lo / 2 ^ n / 2 = c at *
  generalize lo % 2 ^ n = r at *
  generalize lo / 2 ^ n = a at *
  generalize (2 : Int) ^ n = P at *
  have h0 := Int.mul_nonneg b0 (Int.le_of_lt hp)
  have h1 : b * P ≤ 1 * P := Int.mul_le_mul_of_nonneg_right b1 (Int.le_of_lt hp)
  have e3 : lo = (b * P + r) + (P * 2) * c := by subst e2; subst e; grind
  rw [e3, Int.add_mul_emod_self_left, Int.emod_eq_of_lt (by omega) (by omega)]
theorem l02_tells {lo d qhi : Int} (hl : U64 lo) (hd : 0 < d) (hd' : d < 18446744073709551616) :
    ∀ (n : Nat) (rest q : Int) (k : Nat), n ≤ 64 → n < k → 0 ≤ rest → rest < d → 0 ≤ q → (q + 1) * 2 ^ n ≤ 18446744073709551616 →
    spec_l02Divide.l0 k lo d qhi rest q ((n : Int) - 1) = some (qhi, q * 2 ^ n + (rest * 2 ^ n + lo % 2 ^ n) / d, (rest * 2 ^ n + lo % 2 ^ n) % d) := by
  obtain ⟨lo0, lo1⟩ := hl
  intro n
  induction n with
  | zero =>
    intro rest q k _ hk h0 h1 _ _
    obtain ⟨k, rfl⟩ : ∃ m, k = m + 1 := ⟨k - 1, by omega⟩
    rw [spec_l02Divide.l0, if_neg (by omega)]
    simp only [Int.pow_zero, Int.mul_one, Int.emod_one, Int.add_zero]
    rw [Int.ediv_eq_zero_of_lt h0 h1, Int.emod_eq_of_lt h0 h1, Int.add_zero]
  | succ n ih =>
    intro rest q k hn hk h0 h1 hq hqn
    obtain ⟨k, rfl⟩ : ∃ m, k = m + 1 := ⟨k - 1, by omega⟩
    have hp : (0 : Int) < 2 ^ n := Int.pow_pos (by decide)
    have ew : IntKind.u64.wrap (((n + 1 : Nat) : Int) - 1) = (n : Int) := by rw [uw]; omega
    have ei : wrap64 ((((n + 1 : Nat) : Int) - 1) - 1) = (n : Int) - 1 := by unfold wrap64; omega
    have hd0 : 0 ≤ lo / 2 ^ n := Int.ediv_nonneg lo0 (by omega)
    have hd1 : lo / 2 ^ n < 18446744073709551616 := Int.lt_of_le_of_lt (Int.ediv_le_self _ lo0) lo1
    rw [spec_l02Divide.l0, if_pos (by omega), ew, if_pos (by omega), shr_eq lo (show n ≤ 64 by omega), Pure.lo1 hd0 hd1, ei]
    simp only [uw]
    rw [bits_join .u64 64 (by decide) wraps_u64 1 (rest * 2 % 18446744073709551616) (lo / 2 ^ n % 2) (by omega) (by omega) (by omega) (by omega) (by omega) (by omega)]
    have eb := bit_of lo n
    have eq2 : (q + 1) * 2 ^ (n + 1) = (2 * q + 2) * 2 ^ n := by rw [Int.pow_succ]; grind
    have hq2 : 2 * q + 2 ≤ 18446744073709551616 := by
      have : (2 * q + 2) * 1 ≤ (2 * q + 2) * 2 ^ n := Int.mul_le_mul_of_nonneg_left (by omega) (by omega)
      omega
    rw [eb]
    have hb0 : 0 ≤ lo / 2 ^ n % 2 := by omega
    have hb1 : lo / 2 ^ n % 2 ≤ 1 := by omega
    generalize lo / 2 ^ n % 2 = b at *
    have er : rest * 2 ^ (n + 1) + (b * 2 ^ n + lo % 2 ^ n) = (2 * rest + b) * 2 ^ n + lo % 2 ^ n := by rw [Int.pow_succ]; grind
    have eq1 : q * 2 ^ (n + 1) = (2 * q) * 2 ^ n := by rw [Int.pow_succ]; grind
    rw [er, eq1]
    have big : 2 * rest + b ≥ d → spec_l02Divide.l0 k lo d qhi (2 * rest + b - d) (2 * q + 1) ((n : Int) - 1) = some (qhi, 2 * q * 2 ^ n + ((2 * rest + b) * 2 ^ n + lo % 2 ^ n) / d, ((2 * rest + b) * 2 ^ n + lo % 2 ^ n) % d) := by
      intro hb
      rw [ih (2 * rest + b - d) (2 * q + 1) k (by omega) (by omega) (by omega) (by omega) (by omega) (by rw [show 2 * q + 1 + 1 = 2 * q + 2 by omega]; omega)]
      have e : (2 * rest + b) * 2 ^ n + lo % 2 ^ n = ((2 * rest + b - d) * 2 ^ n + lo % 2 ^ n) + d * 2 ^ n := by grind
      rw [e, Int.add_mul_ediv_left _ _ (by omega), Int.add_mul_emod_self_left]
      rw [show (2 * q + 1) * 2 ^ n = 2 * q * 2 ^ n + 2 ^ n by grind]
      generalize ((2 * rest + b - d) * 2 ^ n + lo % 2 ^ n) / d = w
      rw [show 2 * q * 2 ^ n + 2 ^ n + w = 2 * q * 2 ^ n + (w + 2 ^ n) by omega]
    have e3 : Go.bits .or .u64 (q * 2 % 18446744073709551616) 1 = 2 * q + 1 := by
      rw [bits_join .u64 64 (by decide) wraps_u64 1 (q * 2 % 18446744073709551616) 1 (by omega) (by omega) (by omega) (by omega) (by omega) (by omega)]; omega
    by_cases ht : rest / 9223372036854775808 = 1
    · rw [if_pos ht, e3, show (rest * 2 % 18446744073709551616 + b - d) % 18446744073709551616 = 2 * rest + b - d by omega]
      exact big (by omega)
    · rw [if_neg ht]
      rw [show rest * 2 % 18446744073709551616 + b = 2 * rest + b by omega]
      by_cases hb : 2 * rest + b ≥ d
      · rw [if_pos hb, e3, show (2 * rest + b - d) % 18446744073709551616 = 2 * rest + b - d by omega]
        exact big hb
      · rw [if_neg hb, show q * 2 % 18446744073709551616 = 2 * q by omega]
        exact ih (2 * rest + b) (2 * q) k (by omega) (by omega) (by omega) (by omega) (by omega) (by
          have : (2 * q + 1) * 2 ^ n ≤ (2 * q + 2) * 2 ^ n := Int.mul_le_mul_of_nonneg_right (by omega) (by omega)
          omega)
theorem sDivide {hi lo d : Int} (hh : U64 hi) (hl : U64 lo) (hd : 0 < d) (hd' : d < 18446744073709551616) (k : Nat) (hk : 65 ≤ k) : spec_l02Divide.f k hi lo d = some (hi / d, (hi % d * 18446744073709551616 + lo) / d, (hi % d * 18446744073709551616 + lo) % d) := by
  unfold spec_l02Divide.f
  have e0 : 0 ≤ hi / d := Int.ediv_nonneg hh.1 (by omega)
  have e1 : hi / d ≤ hi := Int.ediv_le_self _ hh.1
  have e2 := hh.2
  rw [if_neg (by omega), div_nn hh.1, mod_nn hh.1, uw, show hi / d % 18446744073709551616 = hi / d by omega]
  have h := l02_tells (qhi := hi / d) hl hd hd' 64 (hi % d) 0 k (by omega) (by omega) (Int.emod_nonneg _ (by omega)) (Int.emod_lt_of_pos _ hd) (by omega) (by decide)
  rw [show ((64 : Nat) : Int) - 1 = 63 by decide] at h
  rw [h, show (2 : Int) ^ 64 = 18446744073709551616 by decide, Int.emod_eq_of_lt hl.1 hl.2, Int.zero_mul, Int.zero_add]
/-- The quotient of a wide number, rounded down, and the rest. -/
def divV (v d : Int) : Int × Int × Int := ((ofV (v / d)).1, (ofV (v / d)).2, v % d)
theorem val_neg {h l : Int} (hh : I64 h) (hl : U64 l) : (neg h l).1 % 18446744073709551616 * 18446744073709551616 + (neg h l).2 = (-(val h l)) % 340282366920938463463374607431768211456 ∧ I64 (neg h l).1 ∧ U64 (neg h l).2 := by
  obtain ⟨h0, h1⟩ := hh
  obtain ⟨l0, l1⟩ := hl
  unfold neg val I64 U64
  split
  · simp only []
    unfold wrap64
    omega
  · simp only []
    omega
/-- Quotients by halves are quotients of the number. -/
theorem div_halves {hi lo d : Int} (hd : 0 < d) : (hi / d) * 18446744073709551616 + (hi % d * 18446744073709551616 + lo) / d = (hi * 18446744073709551616 + lo) / d ∧ (hi % d * 18446744073709551616 + lo) % d = (hi * 18446744073709551616 + lo) % d := by
  have := two_digit hi d 18446744073709551616 lo hd
  exact ⟨this.1.symm, this.2.symm⟩
theorem low_half {r lo d : Int} (hr : 0 ≤ r) (hrd : r < d) (hl : U64 lo) : U64 ((r * 18446744073709551616 + lo) / d) := by
  obtain ⟨l0, l1⟩ := hl
  refine ⟨Int.ediv_nonneg (by omega) (by omega), ?_⟩
  apply (Int.ediv_lt_iff_lt_mul (by omega)).2
  omega
/-- the decimal text of a number -/
def dec (n : Int) : ByteArray := ⟨(Go.Lib.itoa n).toArray⟩
theorem fmt_is {n : Int} (hn : I64 n) : strconv_FormatInt.f n 10 = some (dec n) := by
  unfold strconv_FormatInt.f
  rw [if_pos ⟨hn.1, hn.2, rfl⟩]
  rfl
/-- the digits of a number as whole numbers; none for 0 -/
def dz (u : Nat) : List Int := if u = 0 then [] else (Go.Lib.decDigits u).map fun b => (b.toNat : Int)
theorem dz_step {u : Nat} (h : u ≠ 0) : dz u = dz (u / 10) ++ [((48 + u % 10 : Nat) : Int)] := by
  unfold dz
  rw [if_neg h]
  by_cases c : u < 10
  · rw [Go.Lib.decDigits_one c, if_pos (show u / 10 = 0 by omega)]
    have e : (UInt8.ofNat (48 + u)).toNat = 48 + u := by simp; omega
    simp only [List.map_cons, List.map_nil, List.nil_append, e]
    rw [show u % 10 = u by omega]
  · rw [Go.Lib.decDigits, dif_neg c, if_neg (show ¬ u / 10 = 0 by omega)]
    have e : (UInt8.ofNat (48 + u % 10)).toNat = 48 + u % 10 := by simp; omega
    simp only [List.map_append, List.map_cons, List.map_nil, e]
theorem dz_len {u : Nat} (h : u ≠ 0) : (dz u).length = Go.Lib.nDigits u := by
  unfold dz
  rw [if_neg h, List.length_map, Go.Lib.decDigits_length]
theorem dz_str {u : Nat} (h : u ≠ 0) : Go.strOfNums (dz u) = ⟨(Go.Lib.decDigits u).toArray⟩ := by
  unfold dz Go.strOfNums
  rw [if_neg h, List.map_map]
  congr 2
  conv => rhs; rw [← List.map_id (Go.Lib.decDigits u)]
  apply List.map_congr_left
  intro b _
  simp
theorem nDigits_le (u : Nat) : ∀ m, u < 10 ^ m → Go.Lib.nDigits u ≤ m + 1 := by
  induction u using Nat.strongRecOn with
  | _ u ih =>
    intro m hm
    by_cases c : u < 10
    · rw [Go.Lib.nDigits_small c]; omega
    · cases m with
      | zero => simp at hm; omega
      | succ m =>
        rw [Go.Lib.nDigits_big c]
        have := ih (u / 10) (by omega) m (by rw [Nat.pow_succ] at hm; omega)
        omega
theorem ba_ext {a b : ByteArray} (h : a.data.toList = b.data.toList) : a = b := by
  cases a; cases b; congr 1; exact Array.toList_inj.1 h
theorem iDec {n : Int} (hn : I64 n) : impl_Decimal.f n = some (dec n) := by unfold impl_Decimal.f; rw [fmt_is hn, Option.bind_some]
theorem nDigits_lt (u : Nat) : ∀ m, 1 ≤ m → u < 10 ^ m → Go.Lib.nDigits u ≤ m := by
  induction u using Nat.strongRecOn with
  | _ u ih =>
    intro m h1 hm
    by_cases c : u < 10
    · rw [Go.Lib.nDigits_small c]; omega
    · rw [Go.Lib.nDigits_big c]
      obtain ⟨m, rfl⟩ : ∃ n, m = n + 1 := ⟨m - 1, by omega⟩
      cases m with
      | zero => simp at hm; omega
      | succ m =>
        have := ih (u / 10) (by omega) (m + 1) (by omega) (by rw [Nat.pow_succ] at hm; omega)
        omega
theorem dec_size {n : Int} (hn : I64 n) : (dec n).size ≤ 21 := by
  have hle := nDigits_le n.natAbs 19 (by obtain ⟨h0, h1⟩ := hn; omega)
  have e : (dec n).size = (Go.Lib.itoa n).length := rfl
  rw [e]
  unfold Go.Lib.itoa
  split
  · rw [List.length_cons, Go.Lib.decDigits_length]; omega
  · rw [Go.Lib.decDigits_length, show n.toNat = n.natAbs by omega]; omega
theorem ten {d : Int} (h0 : 0 ≤ d) (h1 : d ≤ 9) : d = 0 ∨ d = 1 ∨ d = 2 ∨ d = 3 ∨ d = 4 ∨ d = 5 ∨ d = 6 ∨ d = 7 ∨ d = 8 ∨ d = 9 := by omega
theorem pow_bd {d : Int} (h0 : 0 ≤ d) (h1 : d ≤ 9) : 1 ≤ (10 : Int) ^ d.toNat ∧ (10 : Int) ^ d.toNat ≤ 1000000000 := by
  rcases ten h0 h1 with rfl | rfl | rfl | rfl | rfl | rfl | rfl | rfl | rfl | rfl <;> decide
theorem dec_part {t d : Int} (h0 : 0 ≤ t) (hd : 1 ≤ d) (h1 : t < 10 ^ d.toNat) : ((dec t).size : Int) ≤ d := by
  have e : (dec t).size = (Go.Lib.itoa t).length := rfl
  have hc : ((10 ^ d.toNat : Nat) : Int) = (10 : Int) ^ d.toNat := by simp
  have hn := nDigits_lt t.toNat d.toNat (by omega) (by rw [← hc] at h1; omega)
  rw [e]
  unfold Go.Lib.itoa
  rw [if_neg (by omega), Go.Lib.decDigits_length]
  omega
/-- so many zeros -/
def zs (n : Nat) : ByteArray := ⟨(List.replicate n 48).toArray⟩
theorem zs_size (n : Nat) : (zs n).size = n := by
  show (List.replicate n (48 : UInt8)).toArray.size = n
  rw [List.size_toArray, List.length_replicate]
/-- The text of a number of units of the d-th digit, behind its sign. -/
def body (sg : ByteArray) (a d : Int) : ByteArray := if d = 0 then sg ++ dec (a / 10 ^ d.toNat) else sg ++ dec (a / 10 ^ d.toNat) ++ (⟨#[46]⟩ : ByteArray) ++ zs (d - ((dec (a % 10 ^ d.toNat)).size : Int)).toNat ++ dec (a % 10 ^ d.toNat)
def units (x d : Int) : ByteArray := if x < 0 then body ⟨#[45]⟩ (-x) d else body ⟨#[]⟩ x d
theorem div_i {a p : Int} (h0 : 0 ≤ a) (h1 : a ≤ 4611686018427387904) (hp : 1 ≤ p) : 0 ≤ a / p ∧ a / p ≤ a ∧ I64 (a / p) ∧ 0 ≤ a % p ∧ a % p < p := by
  have q0 := Int.ediv_nonneg h0 (show 0 ≤ p by omega)
  have q1 := Int.ediv_le_self p h0
  exact ⟨q0, q1, ⟨by omega, by omega⟩, Int.emod_nonneg _ (by omega), Int.emod_lt_of_pos _ (by omega)⟩
/-- n digits of a number, zeros ahead -/
def padN : Nat → Nat → List UInt8
  | 0, _ => []
  | n + 1, r => padN n (r / 10) ++ [UInt8.ofNat (48 + r % 10)]
theorem dec_split : ∀ (n u : Nat), 10 ^ n ≤ u → Go.Lib.decDigits u = Go.Lib.decDigits (u / 10 ^ n) ++ padN n (u % 10 ^ n) := by
  intro n
  induction n with
  | zero => intro u _; simp [padN]
  | succ n ih =>
    intro u hu
    have hp : 1 ≤ 10 ^ n := Nat.one_le_pow _ _ (by omega)
    rw [Nat.pow_succ] at hu
    rw [Go.Lib.decDigits, dif_neg (by omega), ih (u / 10) (by omega), Nat.div_div_eq_div_mul, Nat.pow_succ, Nat.mul_comm (10 ^ n) 10, padN, Nat.mod_mul_right_div_self, Nat.mod_mul_right_mod, List.append_assoc]
theorem padN_zero (n : Nat) : padN n 0 = List.replicate n 48 := by
  induction n with
  | zero => rfl
  | succ n ih => rw [padN, List.replicate_succ', ih]; rfl
theorem padN_is : ∀ (n r : Nat), 1 ≤ n → r < 10 ^ n → padN n r = List.replicate (n - Go.Lib.nDigits r) 48 ++ Go.Lib.decDigits r := by
  intro n
  induction n with
  | zero => intro r h; omega
  | succ n ih =>
    intro r _ hr
    by_cases c : r < 10
    · rw [padN, show r / 10 = 0 by omega, padN_zero, Go.Lib.nDigits_small c, Go.Lib.decDigits_one c, show r % 10 = r by omega, Nat.add_sub_cancel]
    · cases n with
      | zero => simp at hr; omega
      | succ n =>
        rw [padN, ih (r / 10) (by omega) (by rw [Nat.pow_succ] at hr; omega), Go.Lib.nDigits_big c, Nat.add_sub_add_right, List.append_assoc]
        congr 1
        rw [Go.Lib.decDigits.eq_1 r, dif_neg c]
def db (u : Nat) : ByteArray := if u = 0 then ⟨#[]⟩ else ⟨(Go.Lib.decDigits u).toArray⟩
theorem ba_nil (x : ByteArray) : (⟨#[]⟩ : ByteArray) ++ x = x := by apply ba_ext; simp
theorem ba_assoc (x y z : ByteArray) : x ++ y ++ z = x ++ (y ++ z) := by apply ba_ext; simp
theorem db_step {u : Nat} (h : u ≠ 0) : db u = db (u / 10) ++ (⟨#[UInt8.ofNat (48 + u % 10)]⟩ : ByteArray) := by
  unfold db
  rw [if_neg h]
  by_cases c : u < 10
  · rw [if_pos (show u / 10 = 0 by omega), ba_nil, Go.Lib.decDigits_one c, show u % 10 = u by omega]
  · rw [if_neg (show ¬ u / 10 = 0 by omega), Go.Lib.decDigits.eq_1 u, dif_neg c]
    apply ba_ext
    simp
/-- what the reference gives at the end -/
def finW (a : Int) (x : ByteArray) : Option ByteArray := if x.toList = ([] : List UInt8) then (some (⟨#[48]⟩ : ByteArray)) else (if a < 0 then (if 1 + x.size ≤ 9223372036854775807 then (some ((⟨#[45]⟩ : ByteArray) ++ x)) else (none)) else (some x))
set_option maxHeartbeats 4000000 in
theorem sLoop (a b : Int) : ∀ (m : Nat) (v : Int) (out : ByteArray) (k : Nat), 0 ≤ v → v < 340282366920938463463374607431768211456 → v < 10 ^ m → out.size + m ≤ 1000 → 65 + m < k → spec_WideText.l0 k out (v / 18446744073709551616) (v % 18446744073709551616) a b = finW a (db v.toNat ++ out) := by
  intro m
  induction m with
  | zero =>
    intro v out k h0 _ hm _ hk
    obtain ⟨k, rfl⟩ : ∃ n, k = n + 1 := ⟨k - 1, by omega⟩
    have e : v = 0 := by simp at hm; omega
    subst e
    rw [spec_WideText.l0, if_neg (by decide), if_neg (by decide), show db (Int.toNat 0) = ⟨#[]⟩ from rfl, ba_nil]
    rfl
  | succ m ih =>
    intro v out k h0 h1 hm hs hk
    obtain ⟨k, rfl⟩ : ∃ n, k = n + 1 := ⟨k - 1, by omega⟩
    rw [spec_WideText.l0]
    by_cases z : v = 0
    · subst z
      rw [if_neg (by decide), if_neg (by decide), show db (Int.toNat 0) = ⟨#[]⟩ from rfl, ba_nil]
      rfl
    · have hv : v / 10 < 10 ^ m := by
        apply (Int.ediv_lt_iff_lt_mul (by decide)).2
        rw [Int.pow_succ] at hm
        exact hm
      have go : ((spec_l02Divide.f k (v / 18446744073709551616) (v % 18446744073709551616) 10).bind fun bt108 => ((some (([(IntKind.u64.wrap (48 + bt108.2.2)) % 256] : List Int) : List Int)).bind fun y111 => (if (strOfNums y111).size + out.size ≤ 9223372036854775807 then (spec_WideText.l0 k ((strOfNums y111) ++ out) bt108.1 bt108.2.1 a b) else (none)))) = finW a (db v.toNat ++ out) := by
        rw [sDivide ⟨by omega, by omega⟩ ⟨by omega, by omega⟩ (by decide) (by decide) k (by omega), Option.bind_some, Option.bind_some]
        simp -implicitDefEqProofs only [uw]
        have e1 : v / 18446744073709551616 / 10 = v / 10 / 18446744073709551616 := by omega
        have e2 : (v / 18446744073709551616 % 10 * 18446744073709551616 + v % 18446744073709551616) / 10 = v / 10 % 18446744073709551616 := by omega
        have e3 : (48 + (v / 18446744073709551616 % 10 * 18446744073709551616 + v % 18446744073709551616) % 10) % 18446744073709551616 % 256 = ((48 + v.toNat % 10 : Nat) : Int) := by omega
        have e4 : strOfNums [((48 + v.toNat % 10 : Nat) : Int)] = (⟨#[UInt8.ofNat (48 + v.toNat % 10)]⟩ : ByteArray) := rfl
        have e5 : (⟨#[UInt8.ofNat (48 + v.toNat % 10)]⟩ : ByteArray).size = 1 := rfl
        rw [e1, e2, e3, e4, db_step (show v.toNat ≠ 0 by omega), ba_assoc, show v.toNat / 10 = (v / 10).toNat by omega]
        generalize (⟨#[UInt8.ofNat (48 + v.toNat % 10)]⟩ : ByteArray) = c at *
        clear e4
        have e6 : c.size + out.size ≤ 9223372036854775807 := by omega
        have e7 : (c ++ out).size + m ≤ 1000 := by rw [ByteArray.size_append]; omega
        rw [if_pos e6]
        exact ih (v / 10) (c ++ out) k (by omega) (by omega) hv e7 (by omega)
      by_cases c : v / 18446744073709551616 > 0
      · rw [if_pos c]; exact go
      · rw [if_neg c, if_pos (by omega)]; exact go
theorem len_nat {v : Int} {m : Nat} (h0 : 0 ≤ v) (h1 : v < 10 ^ m) (hm : 1 ≤ m) : Go.Lib.nDigits v.toNat ≤ m := by
  have hc : ((10 ^ m : Nat) : Int) = (10 : Int) ^ m := by simp
  exact nDigits_lt _ m hm (by rw [← hc] at h1; omega)
set_option maxHeartbeats 4000000 in
theorem iLoop (sg : ByteArray) (hs : sg.size ≤ 1) : ∀ (m : Nat) (v : Int) (t : ByteArray) (k : Nat), 0 ≤ v → v < 1000000000000000000 * 1000000000000000000 ^ m → v < 340282366920938463463374607431768211456 → t.size + 18 * m ≤ 1000 → 20 + 2 * m < k → impl_WideText.l0 k sg (v / 18446744073709551616) (v % 18446744073709551616) t = some (sg ++ ⟨(Go.Lib.decDigits v.toNat).toArray⟩ ++ t) := by
  intro m
  have last : ∀ (v : Int) (t : ByteArray) (k : Nat), 0 ≤ v → v < 1000000000000000000 → t.size ≤ 1000 → 2 < k → impl_WideText.l0 k sg (v / 18446744073709551616) (v % 18446744073709551616) t = some (sg ++ ⟨(Go.Lib.decDigits v.toNat).toArray⟩ ++ t) := by
    intro v t k h0 h1 ht hk
    obtain ⟨k, rfl⟩ : ∃ n, k = n + 1 + 1 := ⟨k - 2, by omega⟩
    have hv : I64 v := ⟨by omega, by omega⟩
    have z := dec_size hv
    rw [impl_WideText.l0, if_neg (by omega), decide_eq_false (by omega), impl_WideText.j2, if_neg (by simp), show wrap64 (v % 18446744073709551616) = v by unfold wrap64; omega, iDec hv, Option.bind_some, if_pos (by omega), if_pos (by rw [ByteArray.size_append]; omega)]
    unfold dec Go.Lib.itoa
    rw [if_neg (by omega)]
  induction m with
  | zero =>
    intro v t k h0 h1 _ ht hk
    exact last v t k h0 (by simp at h1; exact h1) (by omega) (by omega)
  | succ m ih =>
    intro v t k h0 h1 h2 ht hk
    by_cases c : v < 1000000000000000000
    · exact last v t k h0 c (by omega) (by omega)
    · obtain ⟨k, rfl⟩ : ∃ n, k = n + 1 + 1 := ⟨k - 2, by omega⟩
      have hv : v / 1000000000000000000 < 1000000000000000000 * 1000000000000000000 ^ m := by
        apply (Int.ediv_lt_iff_lt_mul (by decide)).2
        rw [Int.pow_succ] at h1
        rw [Int.mul_assoc]
        exact h1
      have e0 : impl_WideText.l0 (k + 1 + 1) sg (v / 18446744073709551616) (v % 18446744073709551616) t = impl_WideText.j2 (k + 1) sg (v / 18446744073709551616) (v % 18446744073709551616) t true := by
        rw [impl_WideText.l0]
        by_cases c2 : v / 18446744073709551616 > 0
        · rw [if_pos c2]
        · rw [if_neg c2, decide_eq_true (by omega)]
      have r0 : 0 ≤ v % 1000000000000000000 ∧ v % 1000000000000000000 < 1000000000000000000 := by omega
      have ri : I64 (v % 1000000000000000000) := ⟨by omega, by omega⟩
      have e1 : v / 18446744073709551616 / 1000000000000000000 = v / 1000000000000000000 / 18446744073709551616 := by omega
      have e2 : (v / 18446744073709551616 % 1000000000000000000 * 18446744073709551616 + v % 18446744073709551616) / 1000000000000000000 = v / 1000000000000000000 % 18446744073709551616 := by omega
      have e3 : (v / 18446744073709551616 % 1000000000000000000 * 18446744073709551616 + v % 18446744073709551616) % 1000000000000000000 = v % 1000000000000000000 := by omega
      have es : (dec (v % 1000000000000000000)).size = Go.Lib.nDigits (v % 1000000000000000000).toNat := by
        show (Go.Lib.itoa (v % 1000000000000000000)).length = _
        unfold Go.Lib.itoa
        rw [if_neg (by omega), Go.Lib.decDigits_length]
      have en : Go.Lib.nDigits (v % 1000000000000000000).toNat ≤ 18 := len_nat (m := 18) r0.1 r0.2 (by decide)
      have ep := Go.Lib.nDigits_pos (v % 1000000000000000000).toNat
      have er : strings_Repeat.f ⟨#[48]⟩ (18 - ((dec (v % 1000000000000000000)).size : Int)) = some (zs (18 - Go.Lib.nDigits (v % 1000000000000000000).toNat)) := by
        unfold strings_Repeat.f zs
        rw [if_pos ⟨by omega, by omega, by decide⟩]
        have e := Go.Lib.repeatL_replicate 48 1 (18 - Go.Lib.nDigits (v % 1000000000000000000).toNat)
        rw [Nat.mul_one] at e
        rw [← e, es, show (18 - (Go.Lib.nDigits (v % 1000000000000000000).toNat : Int)).toNat = 18 - Go.Lib.nDigits (v % 1000000000000000000).toNat by omega]
        rfl
      have zz := zs_size (18 - Go.Lib.nDigits (v % 1000000000000000000).toNat)
      rw [e0, impl_WideText.j2, if_pos rfl, iDivided ⟨by omega, by omega⟩ ⟨by omega, by omega⟩ (by decide) (by decide) k (by omega), Option.bind_some]
      simp -implicitDefEqProofs only []
      rw [e1, e2, e3, show wrap64 (v % 1000000000000000000) = v % 1000000000000000000 by unfold wrap64; omega, iDec ri, Option.bind_some, show wrap64 (18 - ((dec (v % 1000000000000000000)).size : Int)) = 18 - ((dec (v % 1000000000000000000)).size : Int) by unfold wrap64; omega, er, Option.bind_some, if_pos (by omega), if_pos (by rw [ByteArray.size_append]; omega), ih (v / 1000000000000000000) _ k (by omega) hv (by omega) (by rw [ByteArray.size_append, ByteArray.size_append]; omega) (by omega)]
      have ed := dec_split 18 v.toNat (by omega)
      rw [padN_is 18 _ (by decide) (Nat.mod_lt _ (by decide))] at ed
      have e6 : (v / 1000000000000000000).toNat = v.toNat / 10 ^ 18 := by omega
      have e7 : (v % 1000000000000000000).toNat = v.toNat % 10 ^ 18 := by omega
      rw [ed, e6, e7]
      congr 1
      apply ba_ext
      have e8 : (dec (v % 1000000000000000000)).data.toList = Go.Lib.decDigits (v.toNat % 10 ^ 18) := by
        show (Go.Lib.itoa (v % 1000000000000000000)) = _
        unfold Go.Lib.itoa
        rw [if_neg (by omega), e7]
      simp only [ByteArray.data_append, Array.toList_append, e8, zs, List.append_assoc]
theorem db_pos {u : Nat} (h : u ≠ 0) : db u = ⟨(Go.Lib.decDigits u).toArray⟩ := by unfold db; rw [if_neg h]
theorem finW_is (a v : Int) (h0 : 0 ≤ v) (h1 : v < 340282366920938463463374607431768211456) (hz : v = 0 → 0 ≤ a) : finW a (db v.toNat ++ ⟨#[]⟩) = some ((if a < 0 then (⟨#[45]⟩ : ByteArray) else ⟨#[]⟩) ++ ⟨(Go.Lib.decDigits v.toNat).toArray⟩ ++ ⟨#[]⟩) := by
  have er : ∀ x : ByteArray, x ++ (⟨#[]⟩ : ByteArray) = x := fun x => by apply ba_ext; simp
  rw [er, er]
  unfold finW
  by_cases z : v = 0
  · subst z
    have := hz rfl
    rw [show db (Int.toNat 0) = ⟨#[]⟩ from rfl, if_pos (by rw [ByteArray.toList_eq]), if_neg (by omega), ba_nil, show Int.toNat 0 = 0 from rfl, Go.Lib.decDigits_one (by decide)]
    rfl
  · have hn : Go.Lib.nDigits v.toNat ≤ 39 := len_nat (m := 39) h0 (by omega) (by decide)
    have hp := Go.Lib.nDigits_pos v.toNat
    have es : ((⟨(Go.Lib.decDigits v.toNat).toArray⟩ : ByteArray)).size = Go.Lib.nDigits v.toNat := by
      show (Go.Lib.decDigits v.toNat).length = _
      rw [Go.Lib.decDigits_length]
    rw [db_pos (by omega), if_neg (by
      intro e
      rw [ByteArray.toList_eq] at e
      have e2 := congrArg List.length e
      rw [show ((⟨(Go.Lib.decDigits v.toNat).toArray⟩ : ByteArray)).data.toList = Go.Lib.decDigits v.toNat from rfl, Go.Lib.decDigits_length] at e2
      simp only [List.length_nil] at e2
      omega)]
    by_cases s : a < 0
    · rw [if_pos s, if_pos s, if_pos (by omega)]
    · rw [if_neg s, if_neg s, ba_nil]
theorem FnExactWideText : ∀ (a0_0 a0_1 : Int), (Lit.int .i64 a0_0).wf = true → (Lit.int .u64 a0_1).wf = true → ∃ k, laws_FnExactWideText.f k a0_0 a0_1 = some true := by
  intro h l hh hl
  have hh : I64 h := bounds_i64 hh
  have hl : U64 l := by have := bounds_u64 hl; exact ⟨this.1, by omega⟩
  refine ⟨200, ?_⟩
  have vh := val_neg hh hl
  obtain ⟨h0, h1⟩ := hh
  obtain ⟨l0, l1⟩ := hl
  unfold laws_FnExactWideText.f spec_WideText.f impl_WideText.f
  rw [toW, Option.bind_some]
  simp -implicitDefEqProofs only []
  by_cases s : h < 0
  · obtain ⟨vn, ⟨n0, n1⟩, ⟨m0, m1⟩⟩ := vh
    have hv : val h l = h * 18446744073709551616 + l := rfl
    have g : ∀ (a b : Int) (x : ByteArray), spec_WideText.j0 200 x a b h l = spec_WideText.l0 199 x a b h l := fun a b x => by rw [spec_WideText.j0]
    have g2 : ∀ (a b : Int) (x : ByteArray), impl_WideText.j0 200 x a b = impl_WideText.l0 199 x (IntKind.u64.wrap a) b ⟨#[]⟩ := fun a b x => by rw [impl_WideText.j0]
    rw [if_pos s, sMinus ⟨h0, h1⟩ ⟨l0, l1⟩, Option.bind_some, g, uw]
    have e1 : (neg h l).1 % 18446744073709551616 = (-(val h l)) / 18446744073709551616 := by omega
    have e2 : (neg h l).2 = (-(val h l)) % 18446744073709551616 := by omega
    rw [e1, e2, sLoop h l 39 (-(val h l)) ⟨#[]⟩ 199 (by omega) (by omega) (by omega) (by decide) (by decide), finW_is h _ (by omega) (by omega) (by omega), if_pos s, Option.bind_some, Option.bind_some]
    simp -implicitDefEqProofs only []
    rw [if_pos s, iNeg ⟨h0, h1⟩ ⟨l0, l1⟩, Option.bind_some, g2, uw, e1, e2, iLoop ⟨#[45]⟩ (by decide) 2 (-(val h l)) ⟨#[]⟩ 199 (by omega) (by omega) (by omega) (by decide) (by decide), Option.bind_some, if_pos rfl]
  · have hv : val h l = h * 18446744073709551616 + l := rfl
    have g : ∀ (a b : Int) (x : ByteArray), spec_WideText.j0 200 x a b h l = spec_WideText.l0 199 x a b h l := fun a b x => by rw [spec_WideText.j0]
    have g2 : ∀ (a b : Int) (x : ByteArray), impl_WideText.j0 200 x a b = impl_WideText.l0 199 x (IntKind.u64.wrap a) b ⟨#[]⟩ := fun a b x => by rw [impl_WideText.j0]
    rw [if_neg s, g, uw]
    have e1 : h % 18446744073709551616 = (val h l) / 18446744073709551616 := by omega
    have e2 : l = (val h l) % 18446744073709551616 := by omega
    have e3 : ∀ x y : Int, x = y → spec_WideText.l0 199 ⟨#[]⟩ (val h l / 18446744073709551616) x h l = spec_WideText.l0 199 ⟨#[]⟩ (val h l / 18446744073709551616) y h l := fun x y e => by rw [e]
    have e4 : ∀ x y : Int, x = y → impl_WideText.l0 199 ⟨#[]⟩ (val h l / 18446744073709551616) x ⟨#[]⟩ = impl_WideText.l0 199 ⟨#[]⟩ (val h l / 18446744073709551616) y ⟨#[]⟩ := fun x y e => by rw [e]
    rw [e1, e3 _ _ e2, sLoop h l 39 (val h l) ⟨#[]⟩ 199 (by omega) (by omega) (by omega) (by decide) (by decide), finW_is h _ (by omega) (by omega) (by omega), if_neg s, Option.bind_some, Option.bind_some]
    simp -implicitDefEqProofs only []
    rw [if_neg s, g2, uw, e1, e4 _ _ e2, iLoop ⟨#[]⟩ (by decide) 2 (val h l) ⟨#[]⟩ 199 (by omega) (by omega) (by omega) (by decide) (by decide), Option.bind_some, if_pos rfl]
end Go.Proofs.YtcaabdilfnicfaaDoor.Pure
