/- The plain law of FnExactWideShift: what the program's function and the reference's compute is the same, for every argument of its kind; no condition. -/
import Derived.Test.YtcokflpccjpdbaaPFnExactWideShiftx1
import Derived.OpenShut
import Derived.Laws.Bits64
import Derived.Laws.BitsLemmas
namespace Go.Proofs.Ytcokflpccjpdbaa.Pure
open Go.RowKit Go.Proofs.Ytcokflpccjpdbaa.PFnExactWideShift Go.Proofs.YtcokflpccjpdbaaW.PrintWords Go.Proofs.YtcokflpccjpdbaaW.PrintLast
theorem uw (n : Int) : IntKind.u64.wrap n = n % 18446744073709551616 := IntKind.wrap_u64 n
theorem wraps_u64 (n : Int) (h₀ : 0 ≤ n) (h₁ : n < 2 ^ 64) : IntKind.u64.wrap n = n := by rw [uw]; omega
theorem lo32 {x : Int} (h₀ : 0 ≤ x) (h₁ : x < 18446744073709551616) : Go.bits .and .u64 x 4294967295 = x % 4294967296 := bits_mask .u64 64 (by decide) wraps_u64 32 (by decide) x h₀ (by omega)
theorem not64 (x : Int) (h₀ : -9223372036854775808 ≤ x) (h₁ : x ≤ 9223372036854775807) : Go.bits .xor .i64 (-1) x = -1 - x := by
  have e1 : (BitVec.ofInt 64 (-1)) = BitVec.allOnes 64 := by decide
  show IntKind.i64.wrap (((BitVec.ofInt 64 (-1)) ^^^ BitVec.ofInt 64 x).toNat : Int) = _
  rw [e1, BitVec.allOnes_xor, BitVec.toNat_not, BitVec.toNat_ofInt, IntKind.wrap_i64]
  omega
theorem wrap_neg {n : Nat} (h : n < 18446744073709551616) : IntKind.i64.wrap (n : Int) < 0 ↔ 9223372036854775808 ≤ n := by rw [IntKind.wrap_i64]; omega
theorem msb_of (x : Int) (h₀ : -9223372036854775808 ≤ x) (h₁ : x ≤ 9223372036854775807) : (BitVec.ofInt 64 x).msb = decide (x < 0) := by
  rw [BitVec.msb_eq_decide, BitVec.toNat_ofInt]
  congr 1
  simp only [eq_iff_iff]
  omega
theorem neg_msb (b : BitVec 64) : IntKind.i64.wrap (b.toNat : Int) < 0 ↔ b.msb = true := by
  rw [wrap_neg b.isLt, BitVec.msb_eq_decide]; simp
theorem toInt_wrap (b : BitVec 64) : IntKind.i64.wrap (b.toNat : Int) = b.toInt := by
  rw [IntKind.wrap_i64, BitVec.toInt_eq_toNat_cond]; have := b.isLt; split <;> omega
/-- the sign test of an addition -/
theorem sign_test (a b h : Int) (ha₀ : -9223372036854775808 ≤ a) (ha₁ : a ≤ 9223372036854775807) (hb₀ : -9223372036854775808 ≤ b) (hb₁ : b ≤ 9223372036854775807) (hh₀ : -9223372036854775808 ≤ h) (hh₁ : h ≤ 9223372036854775807) :
    Go.bits .and .i64 (Go.bits .xor .i64 a h) (Go.bits .xor .i64 b h) < 0 ↔ ((a < 0) ↔ ¬ (h < 0)) ∧ ((b < 0) ↔ ¬ (h < 0)) := by
  show IntKind.i64.wrap (((BitVec.ofInt 64 (IntKind.i64.wrap ((BitVec.ofInt 64 a ^^^ BitVec.ofInt 64 h).toNat : Int))) &&& (BitVec.ofInt 64 (IntKind.i64.wrap ((BitVec.ofInt 64 b ^^^ BitVec.ofInt 64 h).toNat : Int)))).toNat : Int) < 0 ↔ _
  rw [neg_msb, BitVec.msb_and, toInt_wrap, toInt_wrap, BitVec.ofInt_toInt, BitVec.ofInt_toInt, BitVec.msb_xor, BitVec.msb_xor, msb_of a ha₀ ha₁, msb_of b hb₀ hb₁, msb_of h hh₀ hh₁]
  by_cases p : a < 0 <;> by_cases q : b < 0 <;> by_cases r : h < 0 <;> simp [p, q, r]
theorem prod4 (x y : Int) : x * y = (x / 4294967296) * (y / 4294967296) * 18446744073709551616 + ((x / 4294967296) * (y % 4294967296) + (x % 4294967296) * (y / 4294967296)) * 4294967296 + (x % 4294967296) * (y % 4294967296) := by
  have hx : x = 4294967296 * (x / 4294967296) + x % 4294967296 := by omega
  have hy : y = 4294967296 * (y / 4294967296) + y % 4294967296 := by omega
  generalize x / 4294967296 = a at *
  generalize x % 4294967296 = b at *
  generalize y / 4294967296 = c at *
  generalize y % 4294967296 = d at *
  subst hx hy
  grind
theorem mul_bd {a b m n : Int} (ha : 0 ≤ a) (ha' : a ≤ m) (hb : 0 ≤ b) (hb' : b ≤ n) : 0 ≤ a * b ∧ a * b ≤ m * n :=
  ⟨Int.mul_nonneg ha hb, Int.mul_le_mul ha' hb' hb (Int.le_trans ha ha')⟩
theorem times_hi (x y : Int) (hx : 0 ≤ x) (hx' : x < 18446744073709551616) (hy : 0 ≤ y) (hy' : y < 18446744073709551616) :
    (((x / 4294967296) * (y / 4294967296) % 18446744073709551616 + (((x / 4294967296) * (y % 4294967296) % 18446744073709551616 + ((x % 4294967296) * (y % 4294967296) % 18446744073709551616) / 4294967296) % 18446744073709551616) / 4294967296) % 18446744073709551616 + (((x % 4294967296) * (y / 4294967296) % 18446744073709551616 + (((x / 4294967296) * (y % 4294967296) % 18446744073709551616 + ((x % 4294967296) * (y % 4294967296) % 18446744073709551616) / 4294967296) % 18446744073709551616) % 4294967296) % 18446744073709551616) / 4294967296) % 18446744073709551616 = x * y / 18446744073709551616 := by
  rw [prod4 x y]
  have a1 : 0 ≤ x / 4294967296 ∧ x / 4294967296 ≤ 4294967295 := by omega
  have a2 : 0 ≤ y / 4294967296 ∧ y / 4294967296 ≤ 4294967295 := by omega
  have a3 : 0 ≤ x % 4294967296 ∧ x % 4294967296 ≤ 4294967295 := by omega
  have a4 : 0 ≤ y % 4294967296 ∧ y % 4294967296 ≤ 4294967295 := by omega
  have b1 := mul_bd a1.1 a1.2 a2.1 a2.2
  have b2 := mul_bd a1.1 a1.2 a4.1 a4.2
  have b3 := mul_bd a3.1 a3.2 a2.1 a2.2
  have b4 := mul_bd a3.1 a3.2 a4.1 a4.2
  generalize (x / 4294967296) * (y / 4294967296) = p at *
  generalize (x / 4294967296) * (y % 4294967296) = q at *
  generalize (x % 4294967296) * (y / 4294967296) = r at *
  generalize (x % 4294967296) * (y % 4294967296) = s at *
  clear a1 a2 a3 a4 hx hx' hy hy'
  simp only [Int.reduceMul] at b1 b2 b3 b4
  have e1 : p % 18446744073709551616 = p := by omega
  have e2 : q % 18446744073709551616 = q := by omega
  have e3 : r % 18446744073709551616 = r := by omega
  have e4 : s % 18446744073709551616 = s := by omega
  rw [e1, e2, e3, e4]
  have e5 : (q + s / 4294967296) % 18446744073709551616 = q + s / 4294967296 := by omega
  rw [e5]
  omega
theorem lo32m (z : Int) : Go.bits .and .u64 (z % 18446744073709551616) 4294967295 = z % 18446744073709551616 % 4294967296 := lo32 (by omega) (by omega)
theorem lo1 {x : Int} (h₀ : 0 ≤ x) (h₁ : x < 18446744073709551616) : Go.bits .and .u64 x 1 = x % 2 := bits_mask .u64 64 (by decide) wraps_u64 1 (by decide) x h₀ (by omega)
theorem times_hi2 (x y : Int) (hx : 0 ≤ x) (hx' : x < 18446744073709551616) (hy : 0 ≤ y) (hy' : y < 18446744073709551616) :
    (((x / 4294967296) * (y / 4294967296) % 18446744073709551616 + (((x / 4294967296) * (y % 4294967296) % 18446744073709551616 + ((x % 4294967296) * (y % 4294967296) % 18446744073709551616) / 4294967296) % 18446744073709551616) / 4294967296) % 18446744073709551616 + (((((x / 4294967296) * (y % 4294967296) % 18446744073709551616 + ((x % 4294967296) * (y % 4294967296) % 18446744073709551616) / 4294967296) % 18446744073709551616) % 4294967296 + (x % 4294967296) * (y / 4294967296) % 18446744073709551616) % 18446744073709551616) / 4294967296) % 18446744073709551616 = x * y / 18446744073709551616 := by
  rw [← times_hi x y hx hx' hy hy', Int.add_comm ((((x / 4294967296) * (y % 4294967296) % 18446744073709551616 + ((x % 4294967296) * (y % 4294967296) % 18446744073709551616) / 4294967296) % 18446744073709551616) % 4294967296)]
/-- A number of 64 bits as a wide one. -/
def ofN (n : Int) : Int × Int := (n / 9223372036854775808, n % 18446744073709551616)
/-- The number that two halves stand for, and its halves. -/
def ofV (v : Int) : Int × Int := (v / 18446744073709551616, v % 18446744073709551616)
/-- The negative, modulo 2^128. -/
def neg (h l : Int) : Int × Int := if l = 0 then (wrap64 (-h), 0) else (-1 - h, 18446744073709551616 - l)
def plusW (h1 l1 h2 l2 : Int) : Int × Int := (wrap64 (h1 + h2 + (l1 + l2) / 18446744073709551616), (l1 + l2) % 18446744073709551616)
def I64 (n : Int) : Prop := -9223372036854775808 ≤ n ∧ n ≤ 9223372036854775807
def U64 (n : Int) : Prop := 0 ≤ n ∧ n < 18446744073709551616
theorem wrapI (n : Int) : I64 (wrap64 n) := by unfold I64 wrap64; omega
theorem modU (n : Int) : U64 (n % 18446744073709551616) := by unfold U64; omega
theorem neg_ofV (p : Int) (h0 : 0 ≤ p) (h1 : p ≤ 85070591730234615865843651857942052864) : neg (p / 18446744073709551616) (p % 18446744073709551616) = ofV (-p) := by
  unfold neg ofV wrap64
  split <;> simp only [Prod.mk.injEq] <;> omega
theorem prod_bd {a b : Int} (ha : I64 a) (hb : I64 b) (ha' : 0 ≤ a) (hb' : 0 ≤ b) : 0 ≤ a * b ∧ a * b ≤ 85070591730234615865843651857942052864 := by
  have h := mul_bd ha' (show a ≤ 9223372036854775808 by have := ha.2; omega) hb' (show b ≤ 9223372036854775808 by have := hb.2; omega)
  simpa using h
theorem sIn (a b c : Int) : spec_l00In.f a b c = some (decide (b ≤ a) && decide (a ≤ c)) := by unfold spec_l00In.f; by_cases h : b ≤ a <;> simp [h]
theorem iIn (a b c : Int) : impl_within.f a b c = some (decide (b ≤ a) && decide (a ≤ c)) := by unfold impl_within.f; by_cases h : b ≤ a <;> simp [h]
theorem toW (a b : Int) : laws_toWide.f a b = some (a, b) := rfl
theorem eqW (a b : Int) : laws_eqWide.f a b a b = some true := by simp [laws_eqWide.f]
theorem or_zero {x : Int} (hx : U64 x) : Go.bits .or .u64 x 0 = x := by
  have := bits_join .u64 64 (by decide) wraps_u64 0 x 0 hx.1 (by simp) hx.2 (by omega) (by decide) (by decide)
  rw [this]; omega
theorem FnExactWideShift : ∀ (a0_0 a0_1 a1 : Int), (Lit.int .i64 a0_0).wf = true → (Lit.int .u64 a0_1).wf = true → (Lit.int .i64 a1).wf = true → laws_FnExactWideShift.f a0_0 a0_1 a1 = some true := by
  intro h l n hh hl hn
  have hl : U64 l := by have := bounds_u64 hl; exact ⟨this.1, by omega⟩
  have hb := bounds_i64 hn
  simp only [laws_FnExactWideShift.f, toW, spec_WideShift.f, spec_l02Shift.f, impl_WideShift.f, sIn, iIn, Option.bind_some]
  by_cases c : 0 ≤ n ∧ n ≤ 127
  · have e : (decide (0 ≤ n) && decide (n ≤ 127)) = true := by simp [c.1, c.2]
    rw [e]
    simp only [if_true]
    by_cases z : n = 0
    · subst z
      have e1 : wrap64 (64 - 0) = 64 := by unfold wrap64; omega
      have e2 : shr .i64 h 0 = h := by unfold shr; simp
      have e3 : shr .u64 l 0 = l := by unfold shr; simp
      have e4 : shl .u64 (IntKind.u64.wrap h) 64 = 0 := by unfold shl; simp only [uw]; rw [show min (64 : Int).toNat IntKind.u64.bits = 64 by decide]; omega
      rw [e1, e2, e3, e4, or_zero hl]
      simp [eqW]
    · by_cases m : n < 64
      · have e1 : IntKind.u64.wrap n = n := by rw [uw]; omega
        have e2 : wrap64 (64 - n) = 64 - n := by unfold wrap64; omega
        have e3 : IntKind.u64.wrap (64 - n) = 64 - n := by rw [uw]; omega
        rw [if_neg z, if_pos m, if_neg (show ¬ n ≥ 64 by omega), e1, e2, e3, if_pos c.1, if_pos (by omega)]
        simp [eqW]
      · have e2 : wrap64 (n - 64) = n - 64 := by unfold wrap64; omega
        have e3 : IntKind.u64.wrap (n - 64) = n - 64 := by rw [uw]; omega
        rw [if_neg z, if_neg m, if_pos (show n ≥ 64 by omega), e2, e3, if_pos (by omega)]
        simp [eqW]
  · have e : (decide (0 ≤ n) && decide (n ≤ 127)) = false := by simpa using c
    rw [e]
    simp [eqW]
end Go.Proofs.Ytcokflpccjpdbaa.Pure
