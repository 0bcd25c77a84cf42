/- The plain law of FnExactMulUp: what the program's function and the reference's compute is the same, for every argument of its kind; no condition. -/
import Derived.Test.YtgahdlmflnpihaaPFnExactMulUpx4
import Derived.OpenShut
import Derived.Laws.Bits64
import Derived.Laws.BitsLemmas
namespace Go.Proofs.Ytgahdlmflnpihaa.Pure
open Go.RowKit Go.Proofs.Ytgahdlmflnpihaa.PFnExactMulUp Go.Proofs.YtgahdlmflnpihaaW.PrintWords Go.Proofs.YtgahdlmflnpihaaW.PrintLast Go.Proofs.Ytgahdlmflnpihaa.Ext
theorem uw (n : Int) : IntKind.u64.wrap n = n % 18446744073709551616 := IntKind.wrap_u64 n
theorem wraps_u64 (n : Int) (h₀ : 0 ≤ n) (h₁ : n < 2 ^ 64) : IntKind.u64.wrap n = n := by rw [uw]; omega
theorem lo32 {x : Int} (h₀ : 0 ≤ x) (h₁ : x < 18446744073709551616) : Go.bits .and .u64 x 4294967295 = x % 4294967296 := bits_mask .u64 64 (by decide) wraps_u64 32 (by decide) x h₀ (by omega)
theorem not64 (x : Int) (h₀ : -9223372036854775808 ≤ x) (h₁ : x ≤ 9223372036854775807) : Go.bits .xor .i64 (-1) x = -1 - x := by
  have e1 : (BitVec.ofInt 64 (-1)) = BitVec.allOnes 64 := by decide
  show IntKind.i64.wrap (((BitVec.ofInt 64 (-1)) ^^^ BitVec.ofInt 64 x).toNat : Int) = _
  rw [e1, BitVec.allOnes_xor, BitVec.toNat_not, BitVec.toNat_ofInt, IntKind.wrap_i64]
  omega
theorem wrap_neg {n : Nat} (h : n < 18446744073709551616) : IntKind.i64.wrap (n : Int) < 0 ↔ 9223372036854775808 ≤ n := by rw [IntKind.wrap_i64]; omega
theorem msb_of (x : Int) (h₀ : -9223372036854775808 ≤ x) (h₁ : x ≤ 9223372036854775807) : (BitVec.ofInt 64 x).msb = decide (x < 0) := by
  rw [BitVec.msb_eq_decide, BitVec.toNat_ofInt]
  congr 1
  simp only [eq_iff_iff]
  omega
theorem neg_msb (b : BitVec 64) : IntKind.i64.wrap (b.toNat : Int) < 0 ↔ b.msb = true := by
  rw [wrap_neg b.isLt, BitVec.msb_eq_decide]; simp
theorem toInt_wrap (b : BitVec 64) : IntKind.i64.wrap (b.toNat : Int) = b.toInt := by
  rw [IntKind.wrap_i64, BitVec.toInt_eq_toNat_cond]; have := b.isLt; split <;> omega
/-- the sign test of an addition -/
theorem sign_test (a b h : Int) (ha₀ : -9223372036854775808 ≤ a) (ha₁ : a ≤ 9223372036854775807) (hb₀ : -9223372036854775808 ≤ b) (hb₁ : b ≤ 9223372036854775807) (hh₀ : -9223372036854775808 ≤ h) (hh₁ : h ≤ 9223372036854775807) :
    Go.bits .and .i64 (Go.bits .xor .i64 a h) (Go.bits .xor .i64 b h) < 0 ↔ ((a < 0) ↔ ¬ (h < 0)) ∧ ((b < 0) ↔ ¬ (h < 0)) := by
  show IntKind.i64.wrap (((BitVec.ofInt 64 (IntKind.i64.wrap ((BitVec.ofInt 64 a ^^^ BitVec.ofInt 64 h).toNat : Int))) &&& (BitVec.ofInt 64 (IntKind.i64.wrap ((BitVec.ofInt 64 b ^^^ BitVec.ofInt 64 h).toNat : Int)))).toNat : Int) < 0 ↔ _
  rw [neg_msb, BitVec.msb_and, toInt_wrap, toInt_wrap, BitVec.ofInt_toInt, BitVec.ofInt_toInt, BitVec.msb_xor, BitVec.msb_xor, msb_of a ha₀ ha₁, msb_of b hb₀ hb₁, msb_of h hh₀ hh₁]
  by_cases p : a < 0 <;> by_cases q : b < 0 <;> by_cases r : h < 0 <;> simp [p, q, r]
theorem prod4 (x y : Int) : x * y = (x / 4294967296) * (y / 4294967296) * 18446744073709551616 + ((x / 4294967296) * (y % 4294967296) + (x % 4294967296) * (y / 4294967296)) * 4294967296 + (x % 4294967296) * (y % 4294967296) := by
  have hx : x = 4294967296 * (x / 4294967296) + x % 4294967296 := by omega
  have hy : y = 4294967296 * (y / 4294967296) + y % 4294967296 := by omega
  generalize x / 4294967296 = a at *
  generalize x % 4294967296 = b at *
  generalize y / 4294967296 = c at *
  generalize y % 4294967296 = d at *
  subst hx hy
  grind
theorem mul_bd {a b m n : Int} (ha : 0 ≤ a) (ha' : a ≤ m) (hb : 0 ≤ b) (hb' : b ≤ n) : 0 ≤ a * b ∧ a * b ≤ m * n :=
  ⟨Int.mul_nonneg ha hb, Int.mul_le_mul ha' hb' hb (Int.le_trans ha ha')⟩
theorem times_hi (x y : Int) (hx : 0 ≤ x) (hx' : x < 18446744073709551616) (hy : 0 ≤ y) (hy' : y < 18446744073709551616) :
    (((x / 4294967296) * (y / 4294967296) % 18446744073709551616 + (((x / 4294967296) * (y % 4294967296) % 18446744073709551616 + ((x % 4294967296) * (y % 4294967296) % 18446744073709551616) / 4294967296) % 18446744073709551616) / 4294967296) % 18446744073709551616 + (((x % 4294967296) * (y / 4294967296) % 18446744073709551616 + (((x / 4294967296) * (y % 4294967296) % 18446744073709551616 + ((x % 4294967296) * (y % 4294967296) % 18446744073709551616) / 4294967296) % 18446744073709551616) % 4294967296) % 18446744073709551616) / 4294967296) % 18446744073709551616 = x * y / 18446744073709551616 := by
  rw [prod4 x y]
  have a1 : 0 ≤ x / 4294967296 ∧ x / 4294967296 ≤ 4294967295 := by omega
  have a2 : 0 ≤ y / 4294967296 ∧ y / 4294967296 ≤ 4294967295 := by omega
  have a3 : 0 ≤ x % 4294967296 ∧ x % 4294967296 ≤ 4294967295 := by omega
  have a4 : 0 ≤ y % 4294967296 ∧ y % 4294967296 ≤ 4294967295 := by omega
  have b1 := mul_bd a1.1 a1.2 a2.1 a2.2
  have b2 := mul_bd a1.1 a1.2 a4.1 a4.2
  have b3 := mul_bd a3.1 a3.2 a2.1 a2.2
  have b4 := mul_bd a3.1 a3.2 a4.1 a4.2
  generalize (x / 4294967296) * (y / 4294967296) = p at *
  generalize (x / 4294967296) * (y % 4294967296) = q at *
  generalize (x % 4294967296) * (y / 4294967296) = r at *
  generalize (x % 4294967296) * (y % 4294967296) = s at *
  clear a1 a2 a3 a4 hx hx' hy hy'
  simp only [Int.reduceMul] at b1 b2 b3 b4
  have e1 : p % 18446744073709551616 = p := by omega
  have e2 : q % 18446744073709551616 = q := by omega
  have e3 : r % 18446744073709551616 = r := by omega
  have e4 : s % 18446744073709551616 = s := by omega
  rw [e1, e2, e3, e4]
  have e5 : (q + s / 4294967296) % 18446744073709551616 = q + s / 4294967296 := by omega
  rw [e5]
  omega
theorem lo32m (z : Int) : Go.bits .and .u64 (z % 18446744073709551616) 4294967295 = z % 18446744073709551616 % 4294967296 := lo32 (by omega) (by omega)
theorem lo1 {x : Int} (h₀ : 0 ≤ x) (h₁ : x < 18446744073709551616) : Go.bits .and .u64 x 1 = x % 2 := bits_mask .u64 64 (by decide) wraps_u64 1 (by decide) x h₀ (by omega)
theorem times_hi2 (x y : Int) (hx : 0 ≤ x) (hx' : x < 18446744073709551616) (hy : 0 ≤ y) (hy' : y < 18446744073709551616) :
    (((x / 4294967296) * (y / 4294967296) % 18446744073709551616 + (((x / 4294967296) * (y % 4294967296) % 18446744073709551616 + ((x % 4294967296) * (y % 4294967296) % 18446744073709551616) / 4294967296) % 18446744073709551616) / 4294967296) % 18446744073709551616 + (((((x / 4294967296) * (y % 4294967296) % 18446744073709551616 + ((x % 4294967296) * (y % 4294967296) % 18446744073709551616) / 4294967296) % 18446744073709551616) % 4294967296 + (x % 4294967296) * (y / 4294967296) % 18446744073709551616) % 18446744073709551616) / 4294967296) % 18446744073709551616 = x * y / 18446744073709551616 := by
  rw [← times_hi x y hx hx' hy hy', Int.add_comm ((((x / 4294967296) * (y % 4294967296) % 18446744073709551616 + ((x % 4294967296) * (y % 4294967296) % 18446744073709551616) / 4294967296) % 18446744073709551616) % 4294967296)]
/-- A number of 64 bits as a wide one. -/
def ofN (n : Int) : Int × Int := (n / 9223372036854775808, n % 18446744073709551616)
/-- The number that two halves stand for, and its halves. -/
def ofV (v : Int) : Int × Int := (v / 18446744073709551616, v % 18446744073709551616)
/-- The negative, modulo 2^128. -/
def neg (h l : Int) : Int × Int := if l = 0 then (wrap64 (-h), 0) else (-1 - h, 18446744073709551616 - l)
def plusW (h1 l1 h2 l2 : Int) : Int × Int := (wrap64 (h1 + h2 + (l1 + l2) / 18446744073709551616), (l1 + l2) % 18446744073709551616)
def I64 (n : Int) : Prop := -9223372036854775808 ≤ n ∧ n ≤ 9223372036854775807
def U64 (n : Int) : Prop := 0 ≤ n ∧ n < 18446744073709551616
theorem wrapI (n : Int) : I64 (wrap64 n) := by unfold I64 wrap64; omega
theorem modU (n : Int) : U64 (n % 18446744073709551616) := by unfold U64; omega
theorem neg_ofV (p : Int) (h0 : 0 ≤ p) (h1 : p ≤ 85070591730234615865843651857942052864) : neg (p / 18446744073709551616) (p % 18446744073709551616) = ofV (-p) := by
  unfold neg ofV wrap64
  split <;> simp only [Prod.mk.injEq] <;> omega
theorem prod_bd {a b : Int} (ha : I64 a) (hb : I64 b) (ha' : 0 ≤ a) (hb' : 0 ≤ b) : 0 ≤ a * b ∧ a * b ≤ 85070591730234615865843651857942052864 := by
  have h := mul_bd ha' (show a ≤ 9223372036854775808 by have := ha.2; omega) hb' (show b ≤ 9223372036854775808 by have := hb.2; omega)
  simpa using h
/-- The number of two halves. -/
def val (h l : Int) : Int := h * 18446744073709551616 + l
theorem pe {α β : Type} (p : α × β) : (p.1, p.2) = p := rfl
theorem sIn (a b c : Int) : spec_l00In.f a b c = some (decide (b ≤ a) && decide (a ≤ c)) := by unfold spec_l00In.f; by_cases h : b ≤ a <;> simp [h]
theorem iIn (a b c : Int) : impl_within.f a b c = some (decide (b ≤ a) && decide (a ≤ c)) := by unfold impl_within.f; by_cases h : b ≤ a <;> simp [h]
theorem sOf {n : Int} (h : I64 n) : spec_l02Of.f n = some (ofN n) := by
  obtain ⟨h0, h1⟩ := h
  unfold spec_l02Of.f ofN
  rw [uw]
  split <;> simp only [Option.some.injEq, Prod.mk.injEq, and_true] <;> omega
theorem iOf (n : Int) : impl_WideOf.f n = some (ofN n) := by unfold impl_WideOf.f ofN; rw [uw]
theorem iTimes {x y : Int} (hx : U64 x) (hy : U64 y) : bits_Mul64.f x y = some (ofV (x * y)) := by
  unfold bits_Mul64.f ofV
  simp only [uw, lo32 hx.1 hx.2, lo32 hy.1 hy.2, lo32m]
  rw [times_hi2 x y hx.1 hx.2 hy.1 hy.2]
theorem sTimes {x y : Int} (hx : U64 x) (hy : U64 y) : spec_l02Times.f x y = some (ofV (x * y)) := by
  unfold spec_l02Times.f ofV
  simp only [uw, lo32 hx.1 hx.2, lo32 hy.1 hy.2, lo32m]
  rw [times_hi x y hx.1 hx.2 hy.1 hy.2]
theorem sSize {n : Int} (h : I64 n) : spec_l02Size.f n = some (if n < 0 then -n else n) := by
  obtain ⟨h0, h1⟩ := h
  unfold spec_l02Size.f
  rw [uw, uw]
  split <;> simp only [Option.some.injEq] <;> omega
theorem sMinus {h l : Int} (hh : I64 h) (hl : U64 l) : spec_l02Minus.f h l = some (neg h l) := by
  obtain ⟨h0, h1⟩ := hh
  obtain ⟨l0, l1⟩ := hl
  unfold spec_l02Minus.f neg
  rw [uw, not64 h h0 h1]
  split <;> simp only [Option.some.injEq, Prod.mk.injEq, true_and] <;> omega
theorem iMul {a b : Int} (ha : I64 a) (hb : I64 b) : impl_WideMul.f a b = some (ofV (a * b)) := by
  obtain ⟨a0, a1⟩ := ha
  obtain ⟨b0, b1⟩ := hb
  unfold impl_WideMul.f
  simp only [uw]
  rw [iTimes (modU a) (modU b)]
  simp only [Option.bind_some, ofV]
  have bd : a * b ≤ 85070591730234615865843651857942052864 ∧ -85070591730234615865843651857942052864 ≤ a * b := by
    by_cases sa : a < 0 <;> by_cases sb : b < 0
    · have h := mul_bd (show 0 ≤ -a by omega) (show -a ≤ 9223372036854775808 by omega) (show 0 ≤ -b by omega) (show -b ≤ 9223372036854775808 by omega); rw [Int.neg_mul_neg] at h; simp only [Int.reduceMul] at h; omega
    · have h := mul_bd (show 0 ≤ -a by omega) (show -a ≤ 9223372036854775808 by omega) (show 0 ≤ b by omega) (show b ≤ 9223372036854775808 by omega); rw [Int.neg_mul] at h; simp only [Int.reduceMul] at h; omega
    · have h := mul_bd (show 0 ≤ a by omega) (show a ≤ 9223372036854775808 by omega) (show 0 ≤ -b by omega) (show -b ≤ 9223372036854775808 by omega); rw [Int.mul_neg] at h; simp only [Int.reduceMul] at h; omega
    · have h := mul_bd (show 0 ≤ a by omega) (show a ≤ 9223372036854775808 by omega) (show 0 ≤ b by omega) (show b ≤ 9223372036854775808 by omega); simp only [Int.reduceMul] at h; omega
  by_cases sa : a < 0 <;> by_cases sb : b < 0
  · rw [if_pos sa, if_pos sb, show a % 18446744073709551616 = a + 18446744073709551616 by omega, show b % 18446744073709551616 = b + 18446744073709551616 by omega]
    have e : (a + 18446744073709551616) * (b + 18446744073709551616) = a * b + 18446744073709551616 * (a + b + 18446744073709551616) := by grind
    rw [e]; generalize a * b = p at *
    simp only [Option.some.injEq, Prod.mk.injEq]; unfold wrap64; omega
  · rw [if_pos sa, if_neg sb, show a % 18446744073709551616 = a + 18446744073709551616 by omega, show b % 18446744073709551616 = b by omega]
    have e : (a + 18446744073709551616) * b = a * b + 18446744073709551616 * b := by grind
    rw [e]; generalize a * b = p at *
    simp only [Option.some.injEq, Prod.mk.injEq]; unfold wrap64; omega
  · rw [if_neg sa, if_pos sb, show a % 18446744073709551616 = a by omega, show b % 18446744073709551616 = b + 18446744073709551616 by omega]
    have e : a * (b + 18446744073709551616) = a * b + 18446744073709551616 * a := by grind
    rw [e]; generalize a * b = p at *
    simp only [Option.some.injEq, Prod.mk.injEq]; unfold wrap64; omega
  · rw [if_neg sa, if_neg sb, show a % 18446744073709551616 = a by omega, show b % 18446744073709551616 = b by omega]
    generalize a * b = p at *
    simp only [Option.some.injEq, Prod.mk.injEq, and_true]; unfold wrap64; omega
theorem sMul {a b : Int} (ha : I64 a) (hb : I64 b) : spec_l02Mul.f a b = some (ofV (a * b)) := by
  unfold spec_l02Mul.f
  rw [sSize ha, sSize hb]
  obtain ⟨a0, a1⟩ := ha
  obtain ⟨b0, b1⟩ := hb
  simp only [Option.bind_some]
  have key : ∀ p : Int, 0 ≤ p → p ≤ 85070591730234615865843651857942052864 → wrap64 (p / 18446744073709551616) = p / 18446744073709551616 ∧ I64 (p / 18446744073709551616) := by intro p h0 h1; unfold wrap64 I64; omega
  by_cases sa : a < 0 <;> by_cases sb : b < 0
  · rw [if_pos sa, if_pos sb, sTimes ⟨by omega, by omega⟩ ⟨by omega, by omega⟩]
    have h := mul_bd (show 0 ≤ -a by omega) (show -a ≤ 9223372036854775808 by omega) (show 0 ≤ -b by omega) (show -b ≤ 9223372036854775808 by omega)
    simp only [Int.reduceMul, Int.neg_mul_neg] at h
    simp only [Option.bind_some, ofV, sa, sb, decide_true, bne_self_eq_false, Bool.false_eq_true, if_false, Int.neg_mul_neg, (key _ h.1 h.2).1]
  · rw [if_pos sa, if_neg sb, sTimes ⟨by omega, by omega⟩ ⟨by omega, by omega⟩]
    have h := mul_bd (show 0 ≤ -a by omega) (show -a ≤ 9223372036854775808 by omega) (show 0 ≤ b by omega) (show b ≤ 9223372036854775808 by omega)
    simp only [Int.reduceMul] at h
    have e : (decide (a < 0) != decide (b < 0)) = true := by simp [sa, sb]
    simp only [Option.bind_some, ofV]
    rw [if_pos e, (key _ h.1 h.2).1, sMinus (key _ h.1 h.2).2 (modU _), neg_ofV _ h.1 h.2]
    simp only [Option.bind_some, ofV, Int.neg_mul, Int.neg_neg]
  · rw [if_neg sa, if_pos sb, sTimes ⟨by omega, by omega⟩ ⟨by omega, by omega⟩]
    have h := mul_bd (show 0 ≤ a by omega) (show a ≤ 9223372036854775808 by omega) (show 0 ≤ -b by omega) (show -b ≤ 9223372036854775808 by omega)
    simp only [Int.reduceMul] at h
    have e : (decide (a < 0) != decide (b < 0)) = true := by simp [sa, sb]
    simp only [Option.bind_some, ofV]
    rw [if_pos e, (key _ h.1 h.2).1, sMinus (key _ h.1 h.2).2 (modU _), neg_ofV _ h.1 h.2]
    simp only [Option.bind_some, ofV, Int.mul_neg, Int.neg_neg]
  · rw [if_neg sa, if_neg sb, sTimes ⟨by omega, by omega⟩ ⟨by omega, by omega⟩]
    have h := mul_bd (show 0 ≤ a by omega) (show a ≤ 9223372036854775808 by omega) (show 0 ≤ b by omega) (show b ≤ 9223372036854775808 by omega)
    simp only [Int.reduceMul] at h
    simp only [Option.bind_some, ofV, sa, sb, decide_false, bne_self_eq_false, Bool.false_eq_true, if_false, (key _ h.1 h.2).1]
theorem shl_eq (x : Int) {s : Nat} (h : s ≤ 64) : shl .u64 x (s : Int) = x * 2 ^ s % 18446744073709551616 := by
  unfold shl
  rw [uw, show min (s : Int).toNat IntKind.u64.bits = s by simp [IntKind.bits]; omega]
theorem shr_eq (x : Int) {s : Nat} (h : s ≤ 64) : shr .u64 x (s : Int) = x / 2 ^ s := by
  unfold shr
  rw [show min (s : Int).toNat IntKind.u64.bits = s by simp [IntKind.bits]; omega]
theorem ofV_val (v : Int) : val (ofV v).1 (ofV v).2 = v := by unfold val ofV; omega
theorem ofV_u (v : Int) : U64 (ofV v).2 := by unfold ofV U64; omega
theorem ofV_i {v : Int} (h : -170141183460469231731687303715884105728 ≤ v ∧ v < 170141183460469231731687303715884105728) : I64 (ofV v).1 := by unfold ofV I64; omega
theorem prod_all {a b : Int} (ha : I64 a) (hb : I64 b) : -85070591730234615865843651857942052864 ≤ a * b ∧ a * b ≤ 85070591730234615865843651857942052864 := by
  obtain ⟨a0, a1⟩ := ha
  obtain ⟨b0, b1⟩ := hb
  by_cases sa : a < 0 <;> by_cases sb : b < 0
  · have h := mul_bd (show 0 ≤ -a by omega) (show -a ≤ 9223372036854775808 by omega) (show 0 ≤ -b by omega) (show -b ≤ 9223372036854775808 by omega); rw [Int.neg_mul_neg] at h; simp only [Int.reduceMul] at h; omega
  · have h := mul_bd (show 0 ≤ -a by omega) (show -a ≤ 9223372036854775808 by omega) (show 0 ≤ b by omega) (show b ≤ 9223372036854775808 by omega); rw [Int.neg_mul] at h; simp only [Int.reduceMul] at h; omega
  · have h := mul_bd (show 0 ≤ a by omega) (show a ≤ 9223372036854775808 by omega) (show 0 ≤ -b by omega) (show -b ≤ 9223372036854775808 by omega); rw [Int.mul_neg] at h; simp only [Int.reduceMul] at h; omega
  · have h := mul_bd (show 0 ≤ a by omega) (show a ≤ 9223372036854775808 by omega) (show 0 ≤ b by omega) (show b ≤ 9223372036854775808 by omega); simp only [Int.reduceMul] at h; omega
/-- Two halves as a number of 64 bits, if they are one. -/
def wint (h l : Int) : Int × Bool := if (!((ofN (wrap64 l)).1 == h) || !((ofN (wrap64 l)).2 == l)) = true then (0, false) else (wrap64 l, true)
theorem iInt (h l : Int) : impl_WideInt.f h l = some (wint h l) := by
  unfold impl_WideInt.f wint
  rw [iOf]
  simp only [Option.bind_some]
  split <;> rfl
theorem sInt (h l : Int) : spec_l02Int.f h l = some (wint h l) := by
  unfold spec_l02Int.f wint
  rw [sOf (wrapI _)]
  simp only [Option.bind_some]
  split <;> rfl
theorem or_zero {x : Int} (hx : U64 x) : Go.bits .or .u64 x 0 = x := by
  have := bits_join .u64 64 (by decide) wraps_u64 0 x 0 hx.1 (by simp) hx.2 (by omega) (by decide) (by decide)
  rw [this]; omega
/-- A wide number shifted to the right: as the program does it. -/
def shW (h l n : Int) : Int × Int := if n ≥ 64 then (h / 9223372036854775808, IntKind.u64.wrap (shr .i64 h (n - 64))) else (shr .i64 h n, Go.bits .or .u64 (shr .u64 l n) (shl .u64 (IntKind.u64.wrap h) (64 - n)))
theorem iShift (h l : Int) {n : Int} (hn : 0 ≤ n ∧ n ≤ 127) : impl_WideShift.f h l n = some (shW h l n) := by
  have e : (decide (0 ≤ n) && decide (n ≤ 127)) = true := by simp [hn.1, hn.2]
  unfold impl_WideShift.f shW
  rw [iIn, e]
  simp only [Option.bind_some, if_true]
  by_cases m : n ≥ 64
  · have e2 : wrap64 (n - 64) = n - 64 := by unfold wrap64; omega
    rw [if_pos m, if_pos m, e2, if_pos (by omega)]
  · have e2 : wrap64 (64 - n) = 64 - n := by unfold wrap64; omega
    rw [if_neg m, if_neg m, e2, if_pos (by omega), if_pos (by omega)]
theorem sShift (h : Int) {l n : Int} (hl : U64 l) (hn : 0 ≤ n ∧ n ≤ 127) : spec_l02Shift.f h l n = some (shW h l n) := by
  unfold spec_l02Shift.f shW
  by_cases z : n = 0
  · subst z
    have e2 : shr .i64 h 0 = h := by unfold shr; simp
    have e3 : shr .u64 l 0 = l := by unfold shr; simp
    have e4 : shl .u64 (IntKind.u64.wrap h) (64 - 0) = 0 := by unfold shl; simp only [uw]; rw [show min ((64 : Int) - 0).toNat IntKind.u64.bits = 64 by decide]; omega
    rw [if_pos rfl, if_neg (by omega), e2, e3, e4, or_zero hl]
  · by_cases m : n < 64
    · have e1 : IntKind.u64.wrap n = n := by rw [uw]; omega
      have e2 : wrap64 (64 - n) = 64 - n := by unfold wrap64; omega
      have e3 : IntKind.u64.wrap (64 - n) = 64 - n := by rw [uw]; omega
      rw [if_neg z, if_pos m, if_neg (show ¬ n ≥ 64 by omega), e1, e2, e3, if_pos (by omega), if_pos (by omega)]
    · have e2 : wrap64 (n - 64) = n - 64 := by unfold wrap64; omega
      have e3 : IntKind.u64.wrap (n - 64) = n - 64 := by rw [uw]; omega
      rw [if_neg z, if_neg m, if_pos (show n ≥ 64 by omega), e2, e3, if_pos (by omega)]
/-- Is it a fix? -/
def fx (n : Int) : Bool := decide (-1152921504606846976 ≤ n) && decide (n ≤ 1152921504606846976)
theorem fx_iff {n : Int} : fx n = true ↔ -1152921504606846976 ≤ n ∧ n ≤ 1152921504606846976 := by simp [fx]
theorem fx_no {n : Int} : fx n = false ↔ ¬ (-1152921504606846976 ≤ n ∧ n ≤ 1152921504606846976) := by rw [← fx_iff]; simp
def fixd (n : Int) (b : Bool) : Int × Bool := if b = true then (if fx n = true then (n, true) else (0, false)) else (0, false)
theorem wint_ofV (v : Int) : wint (ofV v).1 (ofV v).2 = if -9223372036854775808 ≤ v ∧ v ≤ 9223372036854775807 then (v, true) else (0, false) := by
  unfold wint ofV ofN
  simp only []
  have e : wrap64 (v % 18446744073709551616) = wrap64 v := by unfold wrap64; omega
  rw [e]
  by_cases h : -9223372036854775808 ≤ v ∧ v ≤ 9223372036854775807
  · have e2 : wrap64 v = v := by unfold wrap64; omega
    rw [if_pos h, e2, if_neg]
    have e3 : v / 9223372036854775808 = v / 18446744073709551616 := by omega
    simp [e3]
  · rw [if_neg h, if_pos]
    have e3 : ¬ (wrap64 v / 9223372036854775808 = v / 18446744073709551616) := by unfold wrap64; omega
    simp [e3]
theorem iValid (n : Int) : impl_ValidFix.f n = some (fx n) := by unfold impl_ValidFix.f; rw [iIn]; simp -implicitDefEqProofs only [Option.bind_some, fx]
theorem iFixed (n : Int) (b : Bool) : impl_fixed.f n b = some (fixd n b) := by
  unfold impl_fixed.f fixd
  rw [iValid]
  simp -implicitDefEqProofs only [Option.bind_some]
  cases b <;> cases fx n <;> simp -implicitDefEqProofs
theorem sOkF (n : Int) : spec_l03Ok.f n = some (fx n) := by unfold spec_l03Ok.f; rw [sIn]; simp -implicitDefEqProofs only [Option.bind_some, fx]
theorem sEnd (n : Int) (b : Bool) : spec_l03End.f n b = some (fixd n b) := by
  unfold spec_l03End.f fixd
  rw [sOkF]
  simp -implicitDefEqProofs only [Option.bind_some]
  cases b <;> cases fx n <;> simp -implicitDefEqProofs
theorem fx_i {n : Int} (h : fx n = true) : I64 n := by rw [fx_iff] at h; exact ⟨by omega, by omega⟩
theorem fx_neg {n : Int} (h : fx n = true) : wrap64 (-n) = -n ∧ fx (-n) = true := by rw [fx_iff] at *; unfold wrap64; omega
theorem unit_i : I64 4294967296 := by unfold I64; omega
/-- A product shifted by 32. -/
def mf (a b : Int) : Int × Bool := wint (shW (ofV (a * b)).1 (ofV (a * b)).2 32).1 (shW (ofV (a * b)).1 (ofV (a * b)).2 32).2
theorem iMulFloor {a b : Int} (ha : I64 a) (hb : I64 b) : impl_MulFloor.f a b 32 = some (mf a b) := by
  unfold impl_MulFloor.f mf
  rw [iIn, show (decide ((0 : Int) ≤ 32) && decide ((32 : Int) ≤ 126)) = true by decide, iMul ha hb]
  simp -implicitDefEqProofs only [Option.bind_some, if_true]
  rw [iShift _ _ (by omega)]
  simp -implicitDefEqProofs only [Option.bind_some, iInt, pe]
theorem sMulFloor {a b : Int} (ha : I64 a) (hb : I64 b) : spec_MulFloor.f a b 32 = some (mf a b) := by
  have bd := prod_all ha hb
  unfold spec_MulFloor.f mf
  rw [sIn, show (decide ((0 : Int) ≤ 32) && decide ((32 : Int) ≤ 126)) = true by decide, sMul ha hb]
  simp -implicitDefEqProofs only [Option.bind_some, if_true]
  rw [sShift _ (ofV_u _) (by omega)]
  simp -implicitDefEqProofs only [Option.bind_some, sInt, pe]
/-- The product of two fixes, rounded down. -/
def md (a b : Int) : Int × Bool := if fx a = true then (if fx b = true then fixd (mf a b).1 (mf a b).2 else (0, false)) else (0, false)
theorem iMulDown (a b : Int) (k : Nat) (hk : 1 ≤ k) : impl_MulDown.f k a b = some (md a b) := by
  obtain ⟨k, rfl⟩ : ∃ m, k = m + 1 := ⟨k - 1, by omega⟩
  unfold impl_MulDown.f md
  rw [iValid, iValid]
  simp -implicitDefEqProofs only [Option.bind_some, impl_MulDown.j0]
  cases ha : fx a
  · simp -implicitDefEqProofs
  · cases hb : fx b
    · simp -implicitDefEqProofs
    · simp -implicitDefEqProofs only [if_true, Bool.not_true, Bool.false_eq_true, if_false]
      rw [iMulFloor (fx_i ha) (fx_i hb)]
      simp -implicitDefEqProofs only [Option.bind_some, iFixed, pe]
theorem sMulDown (a b : Int) (k : Nat) (hk : 1 ≤ k) : spec_l03MulDown.f k a b = some (md a b) := by
  obtain ⟨k, rfl⟩ : ∃ m, k = m + 1 := ⟨k - 1, by omega⟩
  unfold spec_l03MulDown.f md
  rw [sOkF, sOkF]
  simp -implicitDefEqProofs only [Option.bind_some, spec_l03MulDown.j0]
  cases ha : fx a
  · simp -implicitDefEqProofs
  · cases hb : fx b
    · simp -implicitDefEqProofs
    · simp -implicitDefEqProofs only [if_true, Bool.not_true, Bool.false_eq_true, if_false]
      rw [sMulFloor (fx_i ha) (fx_i hb)]
      simp -implicitDefEqProofs only [Option.bind_some, sEnd, pe]
/-- The product of two fixes, rounded up. -/
def mu (a b : Int) : Int × Bool := if fx a = true then (if fx b = true then (wrap64 (-(md (-a) b).1), (md (-a) b).2) else (0, false)) else (0, false)
theorem iMulUp (a b : Int) (k : Nat) (hk : 1 ≤ k) : impl_MulUp.f k a b = some (mu a b) := by
  unfold impl_MulUp.f mu
  rw [iValid, iValid]
  simp -implicitDefEqProofs only [Option.bind_some]
  cases ha : fx a
  · simp -implicitDefEqProofs
  · cases hb : fx b
    · simp -implicitDefEqProofs
    · simp -implicitDefEqProofs only [if_true]
      rw [(fx_neg ha).1, iMulDown _ _ k hk]
      simp -implicitDefEqProofs only [Option.bind_some]
theorem fixd_no (n : Int) (b : Bool) (h : (fixd n b).2 = false) : (fixd n b).1 = 0 := by
  unfold fixd at *
  split at h
  · split at h
    · simp at h
    · rename_i h1 h2; simp [h1, h2]
  · rename_i h1; simp [h1]
theorem md_no {a b : Int} (h : (md a b).2 = false) : (md a b).1 = 0 := by
  unfold md at *
  split at h
  · split at h
    · rename_i h1 h2; rw [if_pos h1, if_pos h2]; exact fixd_no _ _ h
    · rename_i h1 h2; rw [if_pos h1, if_neg h2]
  · rename_i h1; rw [if_neg h1]
theorem sMulUp (a b : Int) (k : Nat) (hk : 1 ≤ k) : spec_l03MulUp.f k a b = some (mu a b) := by
  unfold spec_l03MulUp.f mu
  rw [sOkF, sMulDown _ _ k hk]
  simp -implicitDefEqProofs only [Option.bind_some]
  cases ha : fx a
  · simp -implicitDefEqProofs
  · simp -implicitDefEqProofs only [if_true]
    rw [(fx_neg ha).1]
    cases hb : fx b
    · have e : md (-a) b = (0, false) := by unfold md; rw [if_pos (fx_neg ha).2, hb]; simp -implicitDefEqProofs
      rw [e]; simp -implicitDefEqProofs
    · simp -implicitDefEqProofs only [if_true]
      cases hm : (md (-a) b).2
      · rw [md_no hm, show wrap64 (-0) = 0 by unfold wrap64; omega]; simp -implicitDefEqProofs
      · simp -implicitDefEqProofs
theorem FnExactMulUp : laws_FnExactMulUp.Pure := by
  unfold laws_FnExactMulUp.Pure
  intro a b _ _
  refine ⟨1, ?_⟩
  simp -implicitDefEqProofs only [laws_FnExactMulUp.f, spec_MulUp.f, iMulUp a b 1 (by omega), sMulUp a b 1 (by omega), Option.bind_some]
  simp -implicitDefEqProofs
end Go.Proofs.Ytgahdlmflnpihaa.Pure
