/- The plain law of FnExactTextUp: what the program's function and the reference's compute is the same, for every argument of its kind; no condition. -/
import Derived.Test.YtcaabdilfnicfaaDoorPFnExactTextUpx4
import Derived.OpenShut
import Derived.Laws.Bits64
import Derived.Laws.BitsLemmas
namespace Go.Proofs.YtcaabdilfnicfaaDoor.Pure
open Go.RowKit Go.Proofs.YtcaabdilfnicfaaDoor.PFnExactTextUp Go.Proofs.YtcaabdilfnicfaaDoorW.PrintWords Go.Proofs.YtcaabdilfnicfaaDoorW.PrintLast Go.Proofs.YtcaabdilfnicfaaDoor.Ext
theorem uw (n : Int) : IntKind.u64.wrap n = n % 18446744073709551616 := IntKind.wrap_u64 n
theorem wraps_u64 (n : Int) (h₀ : 0 ≤ n) (h₁ : n < 2 ^ 64) : IntKind.u64.wrap n = n := by rw [uw]; omega
theorem lo32 {x : Int} (h₀ : 0 ≤ x) (h₁ : x < 18446744073709551616) : Go.bits .and .u64 x 4294967295 = x % 4294967296 := bits_mask .u64 64 (by decide) wraps_u64 32 (by decide) x h₀ (by omega)
theorem not64 (x : Int) (h₀ : -9223372036854775808 ≤ x) (h₁ : x ≤ 9223372036854775807) : Go.bits .xor .i64 (-1) x = -1 - x := by
  have e1 : (BitVec.ofInt 64 (-1)) = BitVec.allOnes 64 := by decide
  show IntKind.i64.wrap (((BitVec.ofInt 64 (-1)) ^^^ BitVec.ofInt 64 x).toNat : Int) = _
  rw [e1, BitVec.allOnes_xor, BitVec.toNat_not, BitVec.toNat_ofInt, IntKind.wrap_i64]
  omega
theorem wrap_neg {n : Nat} (h : n < 18446744073709551616) : IntKind.i64.wrap (n : Int) < 0 ↔ 9223372036854775808 ≤ n := by rw [IntKind.wrap_i64]; omega
theorem msb_of (x : Int) (h₀ : -9223372036854775808 ≤ x) (h₁ : x ≤ 9223372036854775807) : (BitVec.ofInt 64 x).msb = decide (x < 0) := by
  rw [BitVec.msb_eq_decide, BitVec.toNat_ofInt]
  congr 1
  simp only [eq_iff_iff]
  omega
theorem neg_msb (b : BitVec 64) : IntKind.i64.wrap (b.toNat : Int) < 0 ↔ b.msb = true := by
  rw [wrap_neg b.isLt, BitVec.msb_eq_decide]; simp
theorem toInt_wrap (b : BitVec 64) : IntKind.i64.wrap (b.toNat : Int) = b.toInt := by
  rw [IntKind.wrap_i64, BitVec.toInt_eq_toNat_cond]; have := b.isLt; split <;> omega
/-- the sign test of an addition -/
theorem sign_test (a b h : Int) (ha₀ : -9223372036854775808 ≤ a) (ha₁ : a ≤ 9223372036854775807) (hb₀ : -9223372036854775808 ≤ b) (hb₁ : b ≤ 9223372036854775807) (hh₀ : -9223372036854775808 ≤ h) (hh₁ : h ≤ 9223372036854775807) :
    Go.bits .and .i64 (Go.bits .xor .i64 a h) (Go.bits .xor .i64 b h) < 0 ↔ ((a < 0) ↔ ¬ (h < 0)) ∧ ((b < 0) ↔ ¬ (h < 0)) := by
  show IntKind.i64.wrap (((BitVec.ofInt 64 (IntKind.i64.wrap ((BitVec.ofInt 64 a ^^^ BitVec.ofInt 64 h).toNat : Int))) &&& (BitVec.ofInt 64 (IntKind.i64.wrap ((BitVec.ofInt 64 b ^^^ BitVec.ofInt 64 h).toNat : Int)))).toNat : Int) < 0 ↔ _
  rw [neg_msb, BitVec.msb_and, toInt_wrap, toInt_wrap, BitVec.ofInt_toInt, BitVec.ofInt_toInt, BitVec.msb_xor, BitVec.msb_xor, msb_of a ha₀ ha₁, msb_of b hb₀ hb₁, msb_of h hh₀ hh₁]
  by_cases p : a < 0 <;> by_cases q : b < 0 <;> by_cases r : h < 0 <;> simp [p, q, r]
theorem prod4 (x y : Int) : x * y = (x / 4294967296) * (y / 4294967296) * 18446744073709551616 + ((x / 4294967296) * (y % 4294967296) + (x % 4294967296) * (y / 4294967296)) * 4294967296 + (x % 4294967296) * (y % 4294967296) := by
  have hx : x = 4294967296 * (x / 4294967296) + x % 4294967296 := by omega
  have hy : y = 4294967296 * (y / 4294967296) + y % 4294967296 := by omega
  generalize x / 4294967296 = a at *
  generalize x % 4294967296 = b at *
  generalize y / 4294967296 = c at *
  generalize y % 4294967296 = d at *
  subst hx hy
  grind
theorem mul_bd {a b m n : Int} (ha : 0 ≤ a) (ha' : a ≤ m) (hb : 0 ≤ b) (hb' : b ≤ n) : 0 ≤ a * b ∧ a * b ≤ m * n :=
  ⟨Int.mul_nonneg ha hb, Int.mul_le_mul ha' hb' hb (Int.le_trans ha ha')⟩
theorem times_hi (x y : Int) (hx : 0 ≤ x) (hx' : x < 18446744073709551616) (hy : 0 ≤ y) (hy' : y < 18446744073709551616) :
    (((x / 4294967296) * (y / 4294967296) % 18446744073709551616 + (((x / 4294967296) * (y % 4294967296) % 18446744073709551616 + ((x % 4294967296) * (y % 4294967296) % 18446744073709551616) / 4294967296) % 18446744073709551616) / 4294967296) % 18446744073709551616 + (((x % 4294967296) * (y / 4294967296) % 18446744073709551616 + (((x / 4294967296) * (y % 4294967296) % 18446744073709551616 + ((x % 4294967296) * (y % 4294967296) % 18446744073709551616) / 4294967296) % 18446744073709551616) % 4294967296) % 18446744073709551616) / 4294967296) % 18446744073709551616 = x * y / 18446744073709551616 := by
  rw [prod4 x y]
  have a1 : 0 ≤ x / 4294967296 ∧ x / 4294967296 ≤ 4294967295 := by omega
  have a2 : 0 ≤ y / 4294967296 ∧ y / 4294967296 ≤ 4294967295 := by omega
  have a3 : 0 ≤ x % 4294967296 ∧ x % 4294967296 ≤ 4294967295 := by omega
  have a4 : 0 ≤ y % 4294967296 ∧ y % 4294967296 ≤ 4294967295 := by omega
  have b1 := mul_bd a1.1 a1.2 a2.1 a2.2
  have b2 := mul_bd a1.1 a1.2 a4.1 a4.2
  have b3 := mul_bd a3.1 a3.2 a2.1 a2.2
  have b4 := mul_bd a3.1 a3.2 a4.1 a4.2
  generalize (x / 4294967296) * (y / 4294967296) = p at *
  generalize (x / 4294967296) * (y % 4294967296) = q at *
  generalize (x % 4294967296) * (y / 4294967296) = r at *
  generalize (x % 4294967296) * (y % 4294967296) = s at *
  clear a1 a2 a3 a4 hx hx' hy hy'
  simp only [Int.reduceMul] at b1 b2 b3 b4
  have e1 : p % 18446744073709551616 = p := by omega
  have e2 : q % 18446744073709551616 = q := by omega
  have e3 : r % 18446744073709551616 = r := by omega
  have e4 : s % 18446744073709551616 = s := by omega
  rw [e1, e2, e3, e4]
  have e5 : (q + s / 4294967296) % 18446744073709551616 = q + s / 4294967296 := by omega
  rw [e5]
  omega
theorem lo32m (z : Int) : Go.bits .and .u64 (z % 18446744073709551616) 4294967295 = z % 18446744073709551616 % 4294967296 := lo32 (by omega) (by omega)
theorem lo1 {x : Int} (h₀ : 0 ≤ x) (h₁ : x < 18446744073709551616) : Go.bits .and .u64 x 1 = x % 2 := bits_mask .u64 64 (by decide) wraps_u64 1 (by decide) x h₀ (by omega)
theorem times_hi2 (x y : Int) (hx : 0 ≤ x) (hx' : x < 18446744073709551616) (hy : 0 ≤ y) (hy' : y < 18446744073709551616) :
    (((x / 4294967296) * (y / 4294967296) % 18446744073709551616 + (((x / 4294967296) * (y % 4294967296) % 18446744073709551616 + ((x % 4294967296) * (y % 4294967296) % 18446744073709551616) / 4294967296) % 18446744073709551616) / 4294967296) % 18446744073709551616 + (((((x / 4294967296) * (y % 4294967296) % 18446744073709551616 + ((x % 4294967296) * (y % 4294967296) % 18446744073709551616) / 4294967296) % 18446744073709551616) % 4294967296 + (x % 4294967296) * (y / 4294967296) % 18446744073709551616) % 18446744073709551616) / 4294967296) % 18446744073709551616 = x * y / 18446744073709551616 := by
  rw [← times_hi x y hx hx' hy hy', Int.add_comm ((((x / 4294967296) * (y % 4294967296) % 18446744073709551616 + ((x % 4294967296) * (y % 4294967296) % 18446744073709551616) / 4294967296) % 18446744073709551616) % 4294967296)]
/-- A number of 64 bits as a wide one. -/
def ofN (n : Int) : Int × Int := (n / 9223372036854775808, n % 18446744073709551616)
/-- The number that two halves stand for, and its halves. -/
def ofV (v : Int) : Int × Int := (v / 18446744073709551616, v % 18446744073709551616)
/-- The negative, modulo 2^128. -/
def neg (h l : Int) : Int × Int := if l = 0 then (wrap64 (-h), 0) else (-1 - h, 18446744073709551616 - l)
def plusW (h1 l1 h2 l2 : Int) : Int × Int := (wrap64 (h1 + h2 + (l1 + l2) / 18446744073709551616), (l1 + l2) % 18446744073709551616)
def I64 (n : Int) : Prop := -9223372036854775808 ≤ n ∧ n ≤ 9223372036854775807
def U64 (n : Int) : Prop := 0 ≤ n ∧ n < 18446744073709551616
theorem wrapI (n : Int) : I64 (wrap64 n) := by unfold I64 wrap64; omega
theorem modU (n : Int) : U64 (n % 18446744073709551616) := by unfold U64; omega
theorem neg_ofV (p : Int) (h0 : 0 ≤ p) (h1 : p ≤ 85070591730234615865843651857942052864) : neg (p / 18446744073709551616) (p % 18446744073709551616) = ofV (-p) := by
  unfold neg ofV wrap64
  split <;> simp only [Prod.mk.injEq] <;> omega
theorem prod_bd {a b : Int} (ha : I64 a) (hb : I64 b) (ha' : 0 ≤ a) (hb' : 0 ≤ b) : 0 ≤ a * b ∧ a * b ≤ 85070591730234615865843651857942052864 := by
  have h := mul_bd ha' (show a ≤ 9223372036854775808 by have := ha.2; omega) hb' (show b ≤ 9223372036854775808 by have := hb.2; omega)
  simpa using h
/-- The number of two halves. -/
def val (h l : Int) : Int := h * 18446744073709551616 + l
theorem pe {α β : Type} (p : α × β) : (p.1, p.2) = p := rfl
theorem sIn (a b c : Int) : spec_l00In.f a b c = some (decide (b ≤ a) && decide (a ≤ c)) := by unfold spec_l00In.f; by_cases h : b ≤ a <;> simp [h]
theorem iIn (a b c : Int) : impl_within.f a b c = some (decide (b ≤ a) && decide (a ≤ c)) := by unfold impl_within.f; by_cases h : b ≤ a <;> simp [h]
theorem sOf {n : Int} (h : I64 n) : spec_l02Of.f n = some (ofN n) := by
  obtain ⟨h0, h1⟩ := h
  unfold spec_l02Of.f ofN
  rw [uw]
  split <;> simp only [Option.some.injEq, Prod.mk.injEq, and_true] <;> omega
theorem iOf (n : Int) : impl_WideOf.f n = some (ofN n) := by unfold impl_WideOf.f ofN; rw [uw]
theorem iTimes {x y : Int} (hx : U64 x) (hy : U64 y) : bits_Mul64.f x y = some (ofV (x * y)) := by
  unfold bits_Mul64.f ofV
  simp only [uw, lo32 hx.1 hx.2, lo32 hy.1 hy.2, lo32m]
  rw [times_hi2 x y hx.1 hx.2 hy.1 hy.2]
theorem sTimes {x y : Int} (hx : U64 x) (hy : U64 y) : spec_l02Times.f x y = some (ofV (x * y)) := by
  unfold spec_l02Times.f ofV
  simp only [uw, lo32 hx.1 hx.2, lo32 hy.1 hy.2, lo32m]
  rw [times_hi x y hx.1 hx.2 hy.1 hy.2]
theorem sSize {n : Int} (h : I64 n) : spec_l02Size.f n = some (if n < 0 then -n else n) := by
  obtain ⟨h0, h1⟩ := h
  unfold spec_l02Size.f
  rw [uw, uw]
  split <;> simp only [Option.some.injEq] <;> omega
theorem sMinus {h l : Int} (hh : I64 h) (hl : U64 l) : spec_l02Minus.f h l = some (neg h l) := by
  obtain ⟨h0, h1⟩ := hh
  obtain ⟨l0, l1⟩ := hl
  unfold spec_l02Minus.f neg
  rw [uw, not64 h h0 h1]
  split <;> simp only [Option.some.injEq, Prod.mk.injEq, true_and] <;> omega
theorem iMul {a b : Int} (ha : I64 a) (hb : I64 b) : impl_WideMul.f a b = some (ofV (a * b)) := by
  obtain ⟨a0, a1⟩ := ha
  obtain ⟨b0, b1⟩ := hb
  unfold impl_WideMul.f
  simp only [uw]
  rw [iTimes (modU a) (modU b)]
  simp only [Option.bind_some, ofV]
  have bd : a * b ≤ 85070591730234615865843651857942052864 ∧ -85070591730234615865843651857942052864 ≤ a * b := by
    by_cases sa : a < 0 <;> by_cases sb : b < 0
    · have h := mul_bd (show 0 ≤ -a by omega) (show -a ≤ 9223372036854775808 by omega) (show 0 ≤ -b by omega) (show -b ≤ 9223372036854775808 by omega); rw [Int.neg_mul_neg] at h; simp only [Int.reduceMul] at h; omega
    · have h := mul_bd (show 0 ≤ -a by omega) (show -a ≤ 9223372036854775808 by omega) (show 0 ≤ b by omega) (show b ≤ 9223372036854775808 by omega); rw [Int.neg_mul] at h; simp only [Int.reduceMul] at h; omega
    · have h := mul_bd (show 0 ≤ a by omega) (show a ≤ 9223372036854775808 by omega) (show 0 ≤ -b by omega) (show -b ≤ 9223372036854775808 by omega); rw [Int.mul_neg] at h; simp only [Int.reduceMul] at h; omega
    · have h := mul_bd (show 0 ≤ a by omega) (show a ≤ 9223372036854775808 by omega) (show 0 ≤ b by omega) (show b ≤ 9223372036854775808 by omega); simp only [Int.reduceMul] at h; omega
  by_cases sa : a < 0 <;> by_cases sb : b < 0
  · rw [if_pos sa, if_pos sb, show a % 18446744073709551616 = a + 18446744073709551616 by omega, show b % 18446744073709551616 = b + 18446744073709551616 by omega]
    have e : (a + 18446744073709551616) * (b + 18446744073709551616) = a * b + 18446744073709551616 * (a + b + 18446744073709551616) := by grind
    rw [e]; generalize a * b = p at *
    simp only [Option.some.injEq, Prod.mk.injEq]; unfold wrap64; omega
  · rw [if_pos sa, if_neg sb, show a % 18446744073709551616 = a + 18446744073709551616 by omega, show b % 18446744073709551616 = b by omega]
    have e : (a + 18446744073709551616) * b = a * b + 18446744073709551616 * b := by grind
    rw [e]; generalize a * b = p at *
    simp only [Option.some.injEq, Prod.mk.injEq]; unfold wrap64; omega
  · rw [if_neg sa, if_pos sb, show a % 18446744073709551616 = a by omega, show b % 18446744073709551616 = b + 18446744073709551616 by omega]
    have e : a * (b + 18446744073709551616) = a * b + 18446744073709551616 * a := by grind
    rw [e]; generalize a * b = p at *
    simp only [Option.some.injEq, Prod.mk.injEq]; unfold wrap64; omega
  · rw [if_neg sa, if_neg sb, show a % 18446744073709551616 = a by omega, show b % 18446744073709551616 = b by omega]
    generalize a * b = p at *
    simp only [Option.some.injEq, Prod.mk.injEq, and_true]; unfold wrap64; omega
theorem sMul {a b : Int} (ha : I64 a) (hb : I64 b) : spec_l02Mul.f a b = some (ofV (a * b)) := by
  unfold spec_l02Mul.f
  rw [sSize ha, sSize hb]
  obtain ⟨a0, a1⟩ := ha
  obtain ⟨b0, b1⟩ := hb
  simp only [Option.bind_some]
  have key : ∀ p : Int, 0 ≤ p → p ≤ 85070591730234615865843651857942052864 → wrap64 (p / 18446744073709551616) = p / 18446744073709551616 ∧ I64 (p / 18446744073709551616) := by intro p h0 h1; unfold wrap64 I64; omega
  by_cases sa : a < 0 <;> by_cases sb : b < 0
  · rw [if_pos sa, if_pos sb, sTimes ⟨by omega, by omega⟩ ⟨by omega, by omega⟩]
    have h := mul_bd (show 0 ≤ -a by omega) (show -a ≤ 9223372036854775808 by omega) (show 0 ≤ -b by omega) (show -b ≤ 9223372036854775808 by omega)
    simp only [Int.reduceMul, Int.neg_mul_neg] at h
    simp only [Option.bind_some, ofV, sa, sb, decide_true, bne_self_eq_false, Bool.false_eq_true, if_false, Int.neg_mul_neg, (key _ h.1 h.2).1]
  · rw [if_pos sa, if_neg sb, sTimes ⟨by omega, by omega⟩ ⟨by omega, by omega⟩]
    have h := mul_bd (show 0 ≤ -a by omega) (show -a ≤ 9223372036854775808 by omega) (show 0 ≤ b by omega) (show b ≤ 9223372036854775808 by omega)
    simp only [Int.reduceMul] at h
    have e : (decide (a < 0) != decide (b < 0)) = true := by simp [sa, sb]
    simp only [Option.bind_some, ofV]
    rw [if_pos e, (key _ h.1 h.2).1, sMinus (key _ h.1 h.2).2 (modU _), neg_ofV _ h.1 h.2]
    simp only [Option.bind_some, ofV, Int.neg_mul, Int.neg_neg]
  · rw [if_neg sa, if_pos sb, sTimes ⟨by omega, by omega⟩ ⟨by omega, by omega⟩]
    have h := mul_bd (show 0 ≤ a by omega) (show a ≤ 9223372036854775808 by omega) (show 0 ≤ -b by omega) (show -b ≤ 9223372036854775808 by omega)
    simp only [Int.reduceMul] at h
    have e : (decide (a < 0) != decide (b < 0)) = true := by simp [sa, sb]
    simp only [Option.bind_some, ofV]
    rw [if_pos e, (key _ h.1 h.2).1, sMinus (key _ h.1 h.2).2 (modU _), neg_ofV _ h.1 h.2]
    simp only [Option.bind_some, ofV, Int.mul_neg, Int.neg_neg]
  · rw [if_neg sa, if_neg sb, sTimes ⟨by omega, by omega⟩ ⟨by omega, by omega⟩]
    have h := mul_bd (show 0 ≤ a by omega) (show a ≤ 9223372036854775808 by omega) (show 0 ≤ b by omega) (show b ≤ 9223372036854775808 by omega)
    simp only [Int.reduceMul] at h
    simp only [Option.bind_some, ofV, sa, sb, decide_false, bne_self_eq_false, Bool.false_eq_true, if_false, (key _ h.1 h.2).1]
theorem shl_eq (x : Int) {s : Nat} (h : s ≤ 64) : shl .u64 x (s : Int) = x * 2 ^ s % 18446744073709551616 := by
  unfold shl
  rw [uw, show min (s : Int).toNat IntKind.u64.bits = s by simp [IntKind.bits]; omega]
theorem shr_eq (x : Int) {s : Nat} (h : s ≤ 64) : shr .u64 x (s : Int) = x / 2 ^ s := by
  unfold shr
  rw [show min (s : Int).toNat IntKind.u64.bits = s by simp [IntKind.bits]; omega]
theorem ofV_val (v : Int) : val (ofV v).1 (ofV v).2 = v := by unfold val ofV; omega
theorem ofV_u (v : Int) : U64 (ofV v).2 := by unfold ofV U64; omega
theorem ofV_i {v : Int} (h : -170141183460469231731687303715884105728 ≤ v ∧ v < 170141183460469231731687303715884105728) : I64 (ofV v).1 := by unfold ofV I64; omega
theorem prod_all {a b : Int} (ha : I64 a) (hb : I64 b) : -85070591730234615865843651857942052864 ≤ a * b ∧ a * b ≤ 85070591730234615865843651857942052864 := by
  obtain ⟨a0, a1⟩ := ha
  obtain ⟨b0, b1⟩ := hb
  by_cases sa : a < 0 <;> by_cases sb : b < 0
  · have h := mul_bd (show 0 ≤ -a by omega) (show -a ≤ 9223372036854775808 by omega) (show 0 ≤ -b by omega) (show -b ≤ 9223372036854775808 by omega); rw [Int.neg_mul_neg] at h; simp only [Int.reduceMul] at h; omega
  · have h := mul_bd (show 0 ≤ -a by omega) (show -a ≤ 9223372036854775808 by omega) (show 0 ≤ b by omega) (show b ≤ 9223372036854775808 by omega); rw [Int.neg_mul] at h; simp only [Int.reduceMul] at h; omega
  · have h := mul_bd (show 0 ≤ a by omega) (show a ≤ 9223372036854775808 by omega) (show 0 ≤ -b by omega) (show -b ≤ 9223372036854775808 by omega); rw [Int.mul_neg] at h; simp only [Int.reduceMul] at h; omega
  · have h := mul_bd (show 0 ≤ a by omega) (show a ≤ 9223372036854775808 by omega) (show 0 ≤ b by omega) (show b ≤ 9223372036854775808 by omega); simp only [Int.reduceMul] at h; omega
/-- Two halves as a number of 64 bits, if they are one. -/
def wint (h l : Int) : Int × Bool := if (!((ofN (wrap64 l)).1 == h) || !((ofN (wrap64 l)).2 == l)) = true then (0, false) else (wrap64 l, true)
theorem iInt (h l : Int) : impl_WideInt.f h l = some (wint h l) := by
  unfold impl_WideInt.f wint
  rw [iOf]
  simp only [Option.bind_some]
  split <;> rfl
theorem sInt (h l : Int) : spec_l02Int.f h l = some (wint h l) := by
  unfold spec_l02Int.f wint
  rw [sOf (wrapI _)]
  simp only [Option.bind_some]
  split <;> rfl
theorem or_zero {x : Int} (hx : U64 x) : Go.bits .or .u64 x 0 = x := by
  have := bits_join .u64 64 (by decide) wraps_u64 0 x 0 hx.1 (by simp) hx.2 (by omega) (by decide) (by decide)
  rw [this]; omega
/-- A wide number shifted to the right: as the program does it. -/
def shW (h l n : Int) : Int × Int := if n ≥ 64 then (h / 9223372036854775808, IntKind.u64.wrap (shr .i64 h (n - 64))) else (shr .i64 h n, Go.bits .or .u64 (shr .u64 l n) (shl .u64 (IntKind.u64.wrap h) (64 - n)))
theorem iShift (h l : Int) {n : Int} (hn : 0 ≤ n ∧ n ≤ 127) : impl_WideShift.f h l n = some (shW h l n) := by
  have e : (decide (0 ≤ n) && decide (n ≤ 127)) = true := by simp [hn.1, hn.2]
  unfold impl_WideShift.f shW
  rw [iIn, e]
  simp only [Option.bind_some, if_true]
  by_cases m : n ≥ 64
  · have e2 : wrap64 (n - 64) = n - 64 := by unfold wrap64; omega
    rw [if_pos m, if_pos m, e2, if_pos (by omega)]
  · have e2 : wrap64 (64 - n) = 64 - n := by unfold wrap64; omega
    rw [if_neg m, if_neg m, e2, if_pos (by omega), if_pos (by omega)]
theorem sShift (h : Int) {l n : Int} (hl : U64 l) (hn : 0 ≤ n ∧ n ≤ 127) : spec_l02Shift.f h l n = some (shW h l n) := by
  unfold spec_l02Shift.f shW
  by_cases z : n = 0
  · subst z
    have e2 : shr .i64 h 0 = h := by unfold shr; simp
    have e3 : shr .u64 l 0 = l := by unfold shr; simp
    have e4 : shl .u64 (IntKind.u64.wrap h) (64 - 0) = 0 := by unfold shl; simp only [uw]; rw [show min ((64 : Int) - 0).toNat IntKind.u64.bits = 64 by decide]; omega
    rw [if_pos rfl, if_neg (by omega), e2, e3, e4, or_zero hl]
  · by_cases m : n < 64
    · have e1 : IntKind.u64.wrap n = n := by rw [uw]; omega
      have e2 : wrap64 (64 - n) = 64 - n := by unfold wrap64; omega
      have e3 : IntKind.u64.wrap (64 - n) = 64 - n := by rw [uw]; omega
      rw [if_neg z, if_pos m, if_neg (show ¬ n ≥ 64 by omega), e1, e2, e3, if_pos (by omega), if_pos (by omega)]
    · have e2 : wrap64 (n - 64) = n - 64 := by unfold wrap64; omega
      have e3 : IntKind.u64.wrap (n - 64) = n - 64 := by rw [uw]; omega
      rw [if_neg z, if_neg m, if_pos (show n ≥ 64 by omega), e2, e3, if_pos (by omega)]
theorem or_comm64 (a b : Int) : Go.bits .or .u64 a b = Go.bits .or .u64 b a := by
  show IntKind.u64.wrap ((BitVec.ofInt 64 a ||| BitVec.ofInt 64 b).toNat : Int) = IntKind.u64.wrap ((BitVec.ofInt 64 b ||| BitVec.ofInt 64 a).toNat : Int)
  rw [BitVec.or_comm]
theorem shrI_eq (x : Int) {s : Nat} (h : s ≤ 64) : shr .i64 x (s : Int) = x / 2 ^ s := by
  unfold shr
  rw [show min (s : Int).toNat IntKind.i64.bits = s by simp [IntKind.bits]; omega]
/-- Shifting is dividing by a power of 2. -/
theorem shW_eq (h : Int) {l : Int} (hl : U64 l) (n : Nat) (hn : n < 64) : shW h l (n : Int) = ofV (val h l / 2 ^ n) := by
  obtain ⟨l0, l1⟩ := hl
  unfold shW ofV val
  have hP : (0 : Int) < 2 ^ n := Int.pow_pos (by decide)
  have hR : (0 : Int) < 2 ^ (64 - n) := Int.pow_pos (by decide)
  have hPR : (2 : Int) ^ n * 2 ^ (64 - n) = 18446744073709551616 := by rw [← Int.pow_add, show n + (64 - n) = 64 by omega]; rfl
  rw [if_neg (by omega), shrI_eq h (show n ≤ 64 by omega), shr_eq l (show n ≤ 64 by omega), show (64 - (n : Int)) = ((64 - n : Nat) : Int) by omega, shl_eq _ (show 64 - n ≤ 64 by omega), uw]
  have r0 := Int.emod_nonneg h (show (2 : Int) ^ n ≠ 0 by omega)
  have r1 := Int.emod_lt_of_pos h hP
  have re := Int.emod_add_mul_ediv h (2 ^ n)
  have le := Int.emod_add_mul_ediv l (2 ^ n)
  have q0 := Int.emod_nonneg l (show (2 : Int) ^ n ≠ 0 by omega)
  have q1 := Int.emod_lt_of_pos l hP
  have y0 : 0 ≤ l / 2 ^ n := Int.ediv_nonneg l0 (by omega)
  have y1 : l / 2 ^ n < 2 ^ (64 - n) := by
    apply (Int.ediv_lt_iff_lt_mul hP).2
    rw [Int.mul_comm]; omega
  have eV : (h * 18446744073709551616 + l) / 2 ^ n = h / 2 ^ n * 18446744073709551616 + (h % 2 ^ n * 2 ^ (64 - n) + l / 2 ^ n) := by
    have e : h * 18446744073709551616 + l = l % 2 ^ n + 2 ^ n * (h / 2 ^ n * 18446744073709551616 + (h % 2 ^ n * 2 ^ (64 - n) + l / 2 ^ n)) := by
      generalize h / 2 ^ n = a at *
      generalize h % 2 ^ n = r at *
      generalize l / 2 ^ n = b at *
      generalize l % 2 ^ n = s at *
      generalize (2 : Int) ^ n = P at *
      generalize (2 : Int) ^ (64 - n) = R at *
      subst re le
      rw [← hPR]
      grind
    rw [e, Int.add_mul_ediv_left _ _ (by omega), Int.ediv_eq_zero_of_lt q0 q1]
    omega
  have x0 : 0 ≤ h % 2 ^ n * 2 ^ (64 - n) := Int.mul_nonneg r0 (by omega)
  have x1 : h % 2 ^ n * 2 ^ (64 - n) + 2 ^ (64 - n) ≤ 18446744073709551616 := by
    have : (h % 2 ^ n + 1) * 2 ^ (64 - n) ≤ 2 ^ n * 2 ^ (64 - n) := Int.mul_le_mul_of_nonneg_right (by omega) (by omega)
    rw [Int.add_mul, hPR] at this
    omega
  have eX : h % 18446744073709551616 * 2 ^ (64 - n) % 18446744073709551616 = h % 2 ^ n * 2 ^ (64 - n) := by
    have e1 : h % 18446744073709551616 * 2 ^ (64 - n) % 18446744073709551616 = h * 2 ^ (64 - n) % 18446744073709551616 := by rw [Int.mul_emod, Int.emod_emod_of_dvd _ (Int.dvd_refl _), ← Int.mul_emod]
    have e2 : h * 2 ^ (64 - n) = h % 2 ^ n * 2 ^ (64 - n) + 18446744073709551616 * (h / 2 ^ n) := by
      generalize h / 2 ^ n = a at *
      generalize h % 2 ^ n = r at *
      generalize (2 : Int) ^ n = P at *
      generalize (2 : Int) ^ (64 - n) = R at *
      subst re
      rw [← hPR]
      grind
    rw [e1, e2, Int.add_mul_emod_self_left, Int.emod_eq_of_lt x0 (by omega)]
  rw [eX, eV, or_comm64, bits_join .u64 64 (by decide) wraps_u64 (64 - n) _ _ x0 (Int.mul_emod_left _ _) (by omega) y0 y1 (by omega)]
  generalize h % 2 ^ n * 2 ^ (64 - n) = x at *
  generalize l / 2 ^ n = y at *
  generalize (2 : Int) ^ (64 - n) = R at *
  generalize h / 2 ^ n = a at *
  simp only [Prod.mk.injEq]
  omega
/-- Is it a fix? -/
def fx (n : Int) : Bool := decide (-1152921504606846976 ≤ n) && decide (n ≤ 1152921504606846976)
theorem fx_iff {n : Int} : fx n = true ↔ -1152921504606846976 ≤ n ∧ n ≤ 1152921504606846976 := by simp [fx]
theorem fx_no {n : Int} : fx n = false ↔ ¬ (-1152921504606846976 ≤ n ∧ n ≤ 1152921504606846976) := by rw [← fx_iff]; simp
def fixd (n : Int) (b : Bool) : Int × Bool := if b = true then (if fx n = true then (n, true) else (0, false)) else (0, false)
theorem wint_ofV (v : Int) : wint (ofV v).1 (ofV v).2 = if -9223372036854775808 ≤ v ∧ v ≤ 9223372036854775807 then (v, true) else (0, false) := by
  unfold wint ofV ofN
  simp only []
  have e : wrap64 (v % 18446744073709551616) = wrap64 v := by unfold wrap64; omega
  rw [e]
  by_cases h : -9223372036854775808 ≤ v ∧ v ≤ 9223372036854775807
  · have e2 : wrap64 v = v := by unfold wrap64; omega
    rw [if_pos h, e2, if_neg]
    have e3 : v / 9223372036854775808 = v / 18446744073709551616 := by omega
    simp [e3]
  · rw [if_neg h, if_pos]
    have e3 : ¬ (wrap64 v / 9223372036854775808 = v / 18446744073709551616) := by unfold wrap64; omega
    simp [e3]
theorem iValid (n : Int) : impl_ValidFix.f n = some (fx n) := by unfold impl_ValidFix.f; rw [iIn]; simp -implicitDefEqProofs only [Option.bind_some, fx]
theorem sOkF (n : Int) : spec_l03Ok.f n = some (fx n) := by unfold spec_l03Ok.f; rw [sIn]; simp -implicitDefEqProofs only [Option.bind_some, fx]
theorem fx_i {n : Int} (h : fx n = true) : I64 n := by rw [fx_iff] at h; exact ⟨by omega, by omega⟩
theorem fx_neg {n : Int} (h : fx n = true) : wrap64 (-n) = -n ∧ fx (-n) = true := by rw [fx_iff] at *; unfold wrap64; omega
theorem unit_i : I64 4294967296 := by unfold I64; omega
/-- A product shifted by 32. -/
def mf (a b : Int) : Int × Bool := wint (shW (ofV (a * b)).1 (ofV (a * b)).2 32).1 (shW (ofV (a * b)).1 (ofV (a * b)).2 32).2
theorem iMulFloor {a b : Int} (ha : I64 a) (hb : I64 b) : impl_MulFloor.f a b 32 = some (mf a b) := by
  unfold impl_MulFloor.f mf
  rw [iIn, show (decide ((0 : Int) ≤ 32) && decide ((32 : Int) ≤ 126)) = true by decide, iMul ha hb]
  simp -implicitDefEqProofs only [Option.bind_some, if_true]
  rw [iShift _ _ (by omega)]
  simp -implicitDefEqProofs only [Option.bind_some, iInt, pe]
theorem sMulFloor {a b : Int} (ha : I64 a) (hb : I64 b) : spec_MulFloor.f a b 32 = some (mf a b) := by
  have bd := prod_all ha hb
  unfold spec_MulFloor.f mf
  rw [sIn, show (decide ((0 : Int) ≤ 32) && decide ((32 : Int) ≤ 126)) = true by decide, sMul ha hb]
  simp -implicitDefEqProofs only [Option.bind_some, if_true]
  rw [sShift _ (ofV_u _) (by omega)]
  simp -implicitDefEqProofs only [Option.bind_some, sInt, pe]
/-- The product of two fixes, rounded down. -/
def md (a b : Int) : Int × Bool := if fx a = true then (if fx b = true then fixd (mf a b).1 (mf a b).2 else (0, false)) else (0, false)
/-- The product of two fixes, rounded up. -/
def mu (a b : Int) : Int × Bool := if fx a = true then (if fx b = true then (wrap64 (-(md (-a) b).1), (md (-a) b).2) else (0, false)) else (0, false)
theorem fixd_no (n : Int) (b : Bool) (h : (fixd n b).2 = false) : (fixd n b).1 = 0 := by
  unfold fixd at *
  split at h
  · split at h
    · simp at h
    · rename_i h1 h2; simp [h1, h2]
  · rename_i h1; simp [h1]
theorem md_no {a b : Int} (h : (md a b).2 = false) : (md a b).1 = 0 := by
  unfold md at *
  split at h
  · split at h
    · rename_i h1 h2; rw [if_pos h1, if_pos h2]; exact fixd_no _ _ h
    · rename_i h1 h2; rw [if_pos h1, if_neg h2]
  · rename_i h1; rw [if_neg h1]
/-- A product shifted by 32 is its quotient by 2^32, where that is a number of 64 bits. -/
theorem mf_eq (a b : Int) : mf a b = if -9223372036854775808 ≤ a * b / 4294967296 ∧ a * b / 4294967296 ≤ 9223372036854775807 then (a * b / 4294967296, true) else (0, false) := by
  unfold mf
  have e := shW_eq (ofV (a * b)).1 (ofV_u (a * b)) 32 (by omega)
  rw [ofV_val, show (2 : Int) ^ 32 = 4294967296 by decide, show ((32 : Nat) : Int) = 32 by decide] at e
  rw [e, wint_ofV]
/-- the decimal text of a number -/
def dec (n : Int) : ByteArray := ⟨(Go.Lib.itoa n).toArray⟩
theorem fmt_is {n : Int} (hn : I64 n) : strconv_FormatInt.f n 10 = some (dec n) := by
  unfold strconv_FormatInt.f
  rw [if_pos ⟨hn.1, hn.2, rfl⟩]
  rfl
/-- the digits of a number as whole numbers; none for 0 -/
def dz (u : Nat) : List Int := if u = 0 then [] else (Go.Lib.decDigits u).map fun b => (b.toNat : Int)
theorem dz_step {u : Nat} (h : u ≠ 0) : dz u = dz (u / 10) ++ [((48 + u % 10 : Nat) : Int)] := by
  unfold dz
  rw [if_neg h]
  by_cases c : u < 10
  · rw [Go.Lib.decDigits_one c, if_pos (show u / 10 = 0 by omega)]
    have e : (UInt8.ofNat (48 + u)).toNat = 48 + u := by simp; omega
    simp only [List.map_cons, List.map_nil, List.nil_append, e]
    rw [show u % 10 = u by omega]
  · rw [Go.Lib.decDigits, dif_neg c, if_neg (show ¬ u / 10 = 0 by omega)]
    have e : (UInt8.ofNat (48 + u % 10)).toNat = 48 + u % 10 := by simp; omega
    simp only [List.map_append, List.map_cons, List.map_nil, e]
theorem dz_len {u : Nat} (h : u ≠ 0) : (dz u).length = Go.Lib.nDigits u := by
  unfold dz
  rw [if_neg h, List.length_map, Go.Lib.decDigits_length]
theorem dz_str {u : Nat} (h : u ≠ 0) : Go.strOfNums (dz u) = ⟨(Go.Lib.decDigits u).toArray⟩ := by
  unfold dz Go.strOfNums
  rw [if_neg h, List.map_map]
  congr 2
  conv => rhs; rw [← List.map_id (Go.Lib.decDigits u)]
  apply List.map_congr_left
  intro b _
  simp
theorem nDigits_le (u : Nat) : ∀ m, u < 10 ^ m → Go.Lib.nDigits u ≤ m + 1 := by
  induction u using Nat.strongRecOn with
  | _ u ih =>
    intro m hm
    by_cases c : u < 10
    · rw [Go.Lib.nDigits_small c]; omega
    · cases m with
      | zero => simp at hm; omega
      | succ m =>
        rw [Go.Lib.nDigits_big c]
        have := ih (u / 10) (by omega) m (by rw [Nat.pow_succ] at hm; omega)
        omega
def fin1 (a : Int) (l : List Int) : Option ByteArray := if (l.length : Int) = 0 then (some (⟨#[48]⟩ : ByteArray)) else (if a < 0 then (if 1 + (Go.strOfNums l).size ≤ 9223372036854775807 then (some ((⟨#[45]⟩ : ByteArray) ++ (Go.strOfNums l))) else (none)) else (some (Go.strOfNums l)))
theorem dec_loop (a : Int) : ∀ (m : Nat) (x : Int) (ds : List Int) (k : Nat), I64 x → x.natAbs < 10 ^ m → m < k → ds.length + m ≤ 1000 → spec_l01Dec.l0 k a ds x = fin1 a (dz x.natAbs ++ ds) := by
  intro m
  induction m with
  | zero =>
    intro x ds k _ hm hk _
    obtain ⟨k, rfl⟩ : ∃ n, k = n + 1 := ⟨k - 1, by omega⟩
    have e : x = 0 := by simp at hm; omega
    subst e
    rw [spec_l01Dec.l0, if_pos rfl]
    rfl
  | succ m ih =>
    intro x ds k hx hm hk hl
    obtain ⟨k, rfl⟩ : ∃ n, k = n + 1 := ⟨k - 1, by omega⟩
    rw [spec_l01Dec.l0]
    by_cases z : x = 0
    · subst z
      rw [if_pos rfl]
      rfl
    · rw [if_neg z, dz_step (show x.natAbs ≠ 0 by omega)]
      obtain ⟨h0, h1⟩ := hx
      have hq : (Int.tdiv x 10).natAbs = x.natAbs / 10 := by rw [Int.natAbs_tdiv]; rfl
      have hqq : wrap64 (Int.tdiv x 10) = Int.tdiv x 10 := by unfold wrap64; omega
      have hr : (Int.tmod x 10).natAbs = x.natAbs % 10 := by rw [Int.natAbs_tmod]; rfl
      have hm' : (Int.tdiv x 10).natAbs < 10 ^ m := by rw [hq]; rw [Nat.pow_succ] at hm; omega
      have go : ∀ d : Int, d = ((48 + x.natAbs % 10 : Nat) : Int) → ((some ([d] : List Int)).bind fun y => if y.length + ds.length < 140737488355328 then spec_l01Dec.l0 k a (y ++ ds) (wrap64 (Int.tdiv x 10)) else none) = fin1 a ((dz (x.natAbs / 10) ++ [((48 + x.natAbs % 10 : Nat) : Int)]) ++ ds) := by
        intro d hd
        rw [Option.bind_some, if_pos (by simp; omega), hqq, ih _ _ k (by unfold I64; omega) hm' (by omega) (by simp; omega), hq, hd, List.append_assoc]
      split
      · exact go _ (by unfold wrap64; omega)
      · exact go _ (by unfold wrap64; omega)
theorem ba_ext {a b : ByteArray} (h : a.data.toList = b.data.toList) : a = b := by
  cases a; cases b; congr 1; exact Array.toList_inj.1 h
theorem fin1_is {a : Int} (ha : I64 a) : fin1 a (dz a.natAbs ++ []) = some (dec a) := by
  unfold fin1 dec
  rw [List.append_nil]
  by_cases z : a = 0
  · subst z
    rw [if_pos (by rfl)]
    congr 2
    unfold Go.Lib.itoa
    rw [if_neg (by omega), Go.Lib.decDigits_one (by decide)]
    rfl
  · have zn : a.natAbs ≠ 0 := by omega
    have hl := dz_len zn
    have hp := Go.Lib.nDigits_pos a.natAbs
    have hle := nDigits_le a.natAbs 20 (by obtain ⟨h0, h1⟩ := ha; omega)
    rw [if_neg (by omega)]
    unfold Go.Lib.itoa
    by_cases s : a < 0
    · rw [if_pos s, if_pos s, if_pos (by rw [Go.strOfNums_size]; omega), dz_str zn]
      congr 1
    · rw [if_neg s, if_neg s, dz_str zn, show a.toNat = a.natAbs by omega]
theorem l01_is {a : Int} (ha : I64 a) (k : Nat) (hk : 21 ≤ k) : spec_l01Dec.f k a = some (dec a) := by
  unfold spec_l01Dec.f
  rw [dec_loop a 20 a [] k ha (by obtain ⟨h0, h1⟩ := ha; omega) (by omega) (by simp), fin1_is ha]
theorem iDec {n : Int} (hn : I64 n) : impl_Decimal.f n = some (dec n) := by unfold impl_Decimal.f; rw [fmt_is hn, Option.bind_some]
theorem nDigits_lt (u : Nat) : ∀ m, 1 ≤ m → u < 10 ^ m → Go.Lib.nDigits u ≤ m := by
  induction u using Nat.strongRecOn with
  | _ u ih =>
    intro m h1 hm
    by_cases c : u < 10
    · rw [Go.Lib.nDigits_small c]; omega
    · rw [Go.Lib.nDigits_big c]
      obtain ⟨m, rfl⟩ : ∃ n, m = n + 1 := ⟨m - 1, by omega⟩
      cases m with
      | zero => simp at hm; omega
      | succ m =>
        have := ih (u / 10) (by omega) (m + 1) (by omega) (by rw [Nat.pow_succ] at hm; omega)
        omega
theorem dec_size {n : Int} (hn : I64 n) : (dec n).size ≤ 21 := by
  have hle := nDigits_le n.natAbs 19 (by obtain ⟨h0, h1⟩ := hn; omega)
  have e : (dec n).size = (Go.Lib.itoa n).length := rfl
  rw [e]
  unfold Go.Lib.itoa
  split
  · rw [List.length_cons, Go.Lib.decDigits_length]; omega
  · rw [Go.Lib.decDigits_length, show n.toNat = n.natAbs by omega]; omega
theorem ten {d : Int} (h0 : 0 ≤ d) (h1 : d ≤ 9) : d = 0 ∨ d = 1 ∨ d = 2 ∨ d = 3 ∨ d = 4 ∨ d = 5 ∨ d = 6 ∨ d = 7 ∨ d = 8 ∨ d = 9 := by omega
theorem pow_bd {d : Int} (h0 : 0 ≤ d) (h1 : d ≤ 9) : 1 ≤ (10 : Int) ^ d.toNat ∧ (10 : Int) ^ d.toNat ≤ 1000000000 := by
  rcases ten h0 h1 with rfl | rfl | rfl | rfl | rfl | rfl | rfl | rfl | rfl | rfl <;> decide
theorem dec_part {t d : Int} (h0 : 0 ≤ t) (hd : 1 ≤ d) (h1 : t < 10 ^ d.toNat) : ((dec t).size : Int) ≤ d := by
  have e : (dec t).size = (Go.Lib.itoa t).length := rfl
  have hc : ((10 ^ d.toNat : Nat) : Int) = (10 : Int) ^ d.toNat := by simp
  have hn := nDigits_lt t.toNat d.toNat (by omega) (by rw [← hc] at h1; omega)
  rw [e]
  unfold Go.Lib.itoa
  rw [if_neg (by omega), Go.Lib.decDigits_length]
  omega
set_option maxRecDepth 10000 in
theorem iPow {d : Int} (h0 : 0 ≤ d) (h1 : d ≤ 9) (k : Nat) (hk : 11 ≤ k) : impl_powerOfTen.f k d = some (10 ^ d.toNat) := by
  obtain ⟨m, rfl⟩ : ∃ m, k = m + 11 := ⟨k - 11, by omega⟩
  rcases ten h0 h1 with rfl | rfl | rfl | rfl | rfl | rfl | rfl | rfl | rfl | rfl <;> simp [impl_powerOfTen.f, impl_powerOfTen.l0, wrap64]
set_option maxRecDepth 10000 in
theorem sPow {d : Int} (h0 : 0 ≤ d) (h1 : d ≤ 9) (k : Nat) (hk : 11 ≤ k) : spec_l03Power.f k d = some (10 ^ d.toNat) := by
  obtain ⟨m, rfl⟩ : ∃ m, k = m + 11 := ⟨k - 11, by omega⟩
  rcases ten h0 h1 with rfl | rfl | rfl | rfl | rfl | rfl | rfl | rfl | rfl | rfl <;> simp [spec_l03Power.f, spec_l03Power.l0, wrap64]
/-- so many zeros -/
def zs (n : Nat) : ByteArray := ⟨(List.replicate n 48).toArray⟩
theorem zs_size (n : Nat) : (zs n).size = n := by
  show (List.replicate n (48 : UInt8)).toArray.size = n
  rw [List.size_toArray, List.length_replicate]
/-- The text of a number of units of the d-th digit, behind its sign. -/
def body (sg : ByteArray) (a d : Int) : ByteArray := if d = 0 then sg ++ dec (a / 10 ^ d.toNat) else sg ++ dec (a / 10 ^ d.toNat) ++ (⟨#[46]⟩ : ByteArray) ++ zs (d - ((dec (a % 10 ^ d.toNat)).size : Int)).toNat ++ dec (a % 10 ^ d.toNat)
def units (x d : Int) : ByteArray := if x < 0 then body ⟨#[45]⟩ (-x) d else body ⟨#[]⟩ x d
theorem div_i {a p : Int} (h0 : 0 ≤ a) (h1 : a ≤ 4611686018427387904) (hp : 1 ≤ p) : 0 ≤ a / p ∧ a / p ≤ a ∧ I64 (a / p) ∧ 0 ≤ a % p ∧ a % p < p := by
  have q0 := Int.ediv_nonneg h0 (show 0 ≤ p by omega)
  have q1 := Int.ediv_le_self p h0
  exact ⟨q0, q1, ⟨by omega, by omega⟩, Int.emod_nonneg _ (by omega), Int.emod_lt_of_pos _ (by omega)⟩
theorem iBody {sg : ByteArray} {a d : Int} (hs : sg.size ≤ 1) (h0 : 0 ≤ a) (h1 : a ≤ 4611686018427387904) (d0 : 0 ≤ d) (d1 : d ≤ 9) (k : Nat) (hk : 12 ≤ k) : impl_digitsText.j0 k a d sg = some (body sg a d) := by
  obtain ⟨k, rfl⟩ : ∃ m, k = m + 1 := ⟨k - 1, by omega⟩
  obtain ⟨p0, p1⟩ := pow_bd d0 d1
  obtain ⟨q0, q1, q2, r0, r1⟩ := div_i h0 h1 p0
  have ew : wrap64 (a / 10 ^ d.toNat) = a / 10 ^ d.toNat := by obtain ⟨x, y⟩ := q2; unfold wrap64; omega
  have z1 := dec_size q2
  have ri : I64 (a % 10 ^ d.toNat) := ⟨by omega, by omega⟩
  have z2 := dec_size ri
  rw [impl_digitsText.j0, iPow d0 d1 k (by omega), Option.bind_some, if_neg (by omega), Int.tdiv_eq_ediv_of_nonneg h0, ew, iDec q2, Option.bind_some, if_pos (by omega)]
  unfold body
  by_cases c : d = 0
  · rw [if_pos c, if_pos c]
  · have z3 := dec_part r0 (by omega) r1
    have e1 : wrap64 (d - ((dec (a % 10 ^ d.toNat)).size : Int)) = d - ((dec (a % 10 ^ d.toNat)).size : Int) := by unfold wrap64; omega
    have er : strings_Repeat.f ⟨#[48]⟩ (d - ((dec (a % 10 ^ d.toNat)).size : Int)) = some (zs (d - ((dec (a % 10 ^ d.toNat)).size : Int)).toNat) := by
      unfold strings_Repeat.f zs
      rw [if_pos ⟨by omega, by omega, by decide⟩]
      have e := Go.Lib.repeatL_replicate 48 1 (d - ((dec (a % 10 ^ d.toNat)).size : Int)).toNat
      rw [Nat.mul_one] at e
      rw [← e]
      rfl
    have zz : (zs (d - ((dec (a % 10 ^ d.toNat)).size : Int)).toNat).size = (d - ((dec (a % 10 ^ d.toNat)).size : Int)).toNat := zs_size _
    have s1 : (⟨#[46]⟩ : ByteArray).size = 1 := rfl
    rw [if_neg c, if_neg c, Int.tmod_eq_emod_of_nonneg h0, iDec ri, Option.bind_some, if_pos (by rw [ByteArray.size_append]; omega), e1, er, Option.bind_some, if_pos (by rw [ByteArray.size_append, ByteArray.size_append]; omega), if_pos (by rw [ByteArray.size_append, ByteArray.size_append, ByteArray.size_append]; omega)]
theorem iUnits {x d : Int} (h0 : -4611686018427387904 ≤ x) (h1 : x ≤ 4611686018427387904) (d0 : 0 ≤ d) (d1 : d ≤ 9) (k : Nat) (hk : 12 ≤ k) : impl_digitsText.f k x d = some (units x d) := by
  unfold impl_digitsText.f units
  by_cases c : x < 0
  · rw [if_pos c, if_pos c, show wrap64 (-x) = -x by unfold wrap64; omega]
    exact iBody (by decide) (by omega) (by omega) d0 d1 k hk
  · rw [if_neg c, if_neg c]
    exact iBody (by decide) (by omega) (by omega) d0 d1 k hk
theorem units_loop {d : Int} {x : ByteArray} (hx : x.size ≤ 100) (d1 : d ≤ 9) : ∀ (n : Nat) (t : ByteArray) (k : Nat), (d - (t.size : Int)).toNat = n → t.size ≤ 30 → n < k → spec_l03Units.l0 k d x t = some ((x ++ (⟨#[46]⟩ : ByteArray)) ++ zs n ++ t) := by
  have s1 : (⟨#[46]⟩ : ByteArray).size = 1 := rfl
  have s2 : (⟨#[48]⟩ : ByteArray).size = 1 := rfl
  intro n
  induction n with
  | zero =>
    intro t k hn ht hk
    obtain ⟨k, rfl⟩ : ∃ m, k = m + 1 := ⟨k - 1, by omega⟩
    rw [spec_l03Units.l0, if_neg (by omega), if_pos (by omega), if_pos (by rw [ByteArray.size_append]; omega)]
    congr 1
    apply ba_ext
    simp [zs]
  | succ n ih =>
    intro t k hn ht hk
    obtain ⟨k, rfl⟩ : ∃ m, k = m + 1 := ⟨k - 1, by omega⟩
    rw [spec_l03Units.l0, if_pos (by omega), if_pos (by omega), ih ((⟨#[48]⟩ : ByteArray) ++ t) k (by rw [ByteArray.size_append]; omega) (by rw [ByteArray.size_append]; omega) (by omega)]
    congr 1
    apply ba_ext
    simp [zs, List.replicate_succ']
theorem sBody {sg : ByteArray} {a d : Int} (hs : sg.size ≤ 1) (h0 : 0 ≤ a) (h1 : a ≤ 4611686018427387904) (d0 : 0 ≤ d) (d1 : d ≤ 9) (k : Nat) (hk : 22 ≤ k) : spec_l03Units.j0 k a d sg = some (body sg a d) := by
  obtain ⟨k, rfl⟩ : ∃ m, k = m + 1 := ⟨k - 1, by omega⟩
  obtain ⟨p0, p1⟩ := pow_bd d0 d1
  obtain ⟨q0, q1, q2, r0, r1⟩ := div_i h0 h1 p0
  have ew : wrap64 (a / 10 ^ d.toNat) = a / 10 ^ d.toNat := by obtain ⟨x, y⟩ := q2; unfold wrap64; omega
  have z1 := dec_size q2
  have ri : I64 (a % 10 ^ d.toNat) := ⟨by omega, by omega⟩
  have z2 := dec_size ri
  rw [spec_l03Units.j0, sPow d0 d1 k (by omega), Option.bind_some, if_neg (by omega), Int.tdiv_eq_ediv_of_nonneg h0, ew, l01_is q2 k (by omega), Option.bind_some, if_pos (by omega)]
  unfold body
  by_cases c : d = 0
  · rw [if_pos c, if_pos c]
  · rw [if_neg c, if_neg c, Int.tmod_eq_emod_of_nonneg h0, l01_is ri k (by omega), Option.bind_some]
    exact units_loop (by rw [ByteArray.size_append]; omega) d1 _ _ k rfl (by omega) (by omega)
theorem sUnits {x d : Int} (h0 : -4611686018427387904 ≤ x) (h1 : x ≤ 4611686018427387904) (d0 : 0 ≤ d) (d1 : d ≤ 9) (k : Nat) (hk : 22 ≤ k) : spec_l03Units.f k x d = some (units x d) := by
  unfold spec_l03Units.f units
  by_cases c : x < 0
  · rw [if_pos c, if_pos c, show wrap64 (-x) = -x by unfold wrap64; omega]
    exact sBody (by decide) (by omega) (by omega) d0 d1 k hk
  · rw [if_neg c, if_neg c]
    exact sBody (by decide) (by omega) (by omega) d0 d1 k hk
theorem mf_small {n d : Int} (hn : fx n = true) (d0 : 0 ≤ d) (d1 : d ≤ 9) : -4611686018427387903 ≤ (mf n (10 ^ d.toNat)).1 ∧ (mf n (10 ^ d.toNat)).1 ≤ 4611686018427387903 := by
  rw [fx_iff] at hn
  rw [mf_eq]
  rcases ten d0 d1 with rfl | rfl | rfl | rfl | rfl | rfl | rfl | rfl | rfl | rfl <;> simp -implicitDefEqProofs only [Int.reduceToNat, Int.reducePow] <;> split <;> simp -implicitDefEqProofs only [] <;> omega
/-- The greatest decimal number of d digits that is not greater than a fix; the least that is not less. -/
def td (n d : Int) : ByteArray := if fx n = true then (if 0 ≤ d ∧ d ≤ 9 then units (mf n (10 ^ d.toNat)).1 d else ⟨#[]⟩) else ⟨#[]⟩
def tu (n d : Int) : ByteArray := if fx n = true then (if 0 ≤ d ∧ d ≤ 9 then units (-(mf (-n) (10 ^ d.toNat)).1) d else ⟨#[]⟩) else ⟨#[]⟩
theorem pow_i {d : Int} (d0 : 0 ≤ d) (d1 : d ≤ 9) : I64 (10 ^ d.toNat) := by obtain ⟨a, b⟩ := pow_bd d0 d1; exact ⟨by omega, by omega⟩
theorem iTextUp (n d : Int) (k : Nat) (hk : 13 ≤ k) : impl_TextUp.f k n d = some (tu n d) := by
  obtain ⟨k, rfl⟩ : ∃ m, k = m + 1 := ⟨k - 1, by omega⟩
  unfold impl_TextUp.f tu
  rw [iValid, Option.bind_some]
  by_cases hn : fx n = true
  · rw [if_pos hn, if_pos hn, iIn, Option.bind_some]
    by_cases hd : 0 ≤ d ∧ d ≤ 9
    · obtain ⟨d0, d1⟩ := hd
      obtain ⟨b0, b1⟩ := mf_small (fx_neg hn).2 d0 d1
      rw [if_pos ⟨d0, d1⟩, show (!(decide (0 ≤ d) && decide (d ≤ 9))) = false by simp [d0, d1], impl_TextUp.j0, if_neg (by simp), iPow d0 d1 k (by omega), Option.bind_some, (fx_neg hn).1, iMulFloor (fx_i (fx_neg hn).2) (pow_i d0 d1), Option.bind_some, show wrap64 (-(mf (-n) (10 ^ d.toNat)).1) = -(mf (-n) (10 ^ d.toNat)).1 by unfold wrap64; omega, iUnits (by omega) (by omega) d0 d1 k (by omega), Option.bind_some]
    · rw [if_neg hd, show (!(decide (0 ≤ d) && decide (d ≤ 9))) = true by rw [← Bool.decide_and, decide_eq_false hd]; rfl, impl_TextUp.j0, if_pos rfl]
  · rw [if_neg hn, if_neg hn, impl_TextUp.j0, if_pos rfl]
theorem sText0 (n d : Int) (k : Nat) (hk : 23 ≤ k) : spec_l03Text.f k n d false = some (td n d) := by
  obtain ⟨k, rfl⟩ : ∃ m, k = m + 1 := ⟨k - 1, by omega⟩
  unfold spec_l03Text.f td
  rw [sOkF, Option.bind_some]
  by_cases hn : fx n = true
  · rw [if_pos hn, if_pos hn, sIn, Option.bind_some]
    by_cases hd : 0 ≤ d ∧ d ≤ 9
    · obtain ⟨d0, d1⟩ := hd
      obtain ⟨c0, c1⟩ := mf_small hn d0 d1
      rw [if_pos ⟨d0, d1⟩, show (!(decide (0 ≤ d) && decide (d ≤ 9))) = false by simp [d0, d1], spec_l03Text.j0, if_neg (by simp), if_neg (by simp), sPow d0 d1 k (by omega), Option.bind_some, sMulFloor (fx_i hn) (pow_i d0 d1), Option.bind_some, sUnits (by omega) (by omega) d0 d1 k (by omega), Option.bind_some]
    · rw [if_neg hd, show (!(decide (0 ≤ d) && decide (d ≤ 9))) = true by rw [← Bool.decide_and, decide_eq_false hd]; rfl, spec_l03Text.j0, if_pos rfl]
  · rw [if_neg hn, if_neg hn, spec_l03Text.j0, if_pos rfl]
theorem sText1 (n d : Int) (k : Nat) (hk : 23 ≤ k) : spec_l03Text.f k n d true = some (tu n d) := by
  obtain ⟨k, rfl⟩ : ∃ m, k = m + 1 := ⟨k - 1, by omega⟩
  unfold spec_l03Text.f tu
  rw [sOkF, Option.bind_some]
  by_cases hn : fx n = true
  · rw [if_pos hn, if_pos hn, sIn, Option.bind_some]
    by_cases hd : 0 ≤ d ∧ d ≤ 9
    · obtain ⟨d0, d1⟩ := hd
      obtain ⟨b0, b1⟩ := mf_small (fx_neg hn).2 d0 d1
      rw [if_pos ⟨d0, d1⟩, show (!(decide (0 ≤ d) && decide (d ≤ 9))) = false by simp [d0, d1], spec_l03Text.j0, if_neg (by simp), if_pos rfl, sPow d0 d1 k (by omega), Option.bind_some, (fx_neg hn).1, sMulFloor (fx_i (fx_neg hn).2) (pow_i d0 d1), Option.bind_some, show wrap64 (-(mf (-n) (10 ^ d.toNat)).1) = -(mf (-n) (10 ^ d.toNat)).1 by unfold wrap64; omega, sUnits (by omega) (by omega) d0 d1 k (by omega), Option.bind_some]
    · rw [if_neg hd, show (!(decide (0 ≤ d) && decide (d ≤ 9))) = true by rw [← Bool.decide_and, decide_eq_false hd]; rfl, spec_l03Text.j0, if_pos rfl]
  · rw [if_neg hn, if_neg hn, spec_l03Text.j0, if_pos rfl]
theorem FnExactTextUp : laws_FnExactTextUp.Pure := by
  unfold laws_FnExactTextUp.Pure
  intro n d _ _
  refine ⟨23, ?_⟩
  unfold laws_FnExactTextUp.f spec_TextUp.f
  rw [sText1 n d 23 (by omega), Option.bind_some, Option.bind_some, iTextUp n d 23 (by omega), Option.bind_some]
  simp
end Go.Proofs.YtcaabdilfnicfaaDoor.Pure
