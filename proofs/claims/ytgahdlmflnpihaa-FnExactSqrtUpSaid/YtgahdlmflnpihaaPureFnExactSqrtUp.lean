/- The plain law of FnExactSqrtUp: what the program's function and the reference's compute is the same, for every argument of its kind; no condition. -/
import Derived.Test.YtgahdlmflnpihaaPFnExactSqrtUpx3
import Derived.OpenShut
import Derived.Laws.Bits64
import Derived.Laws.BitsLemmas
namespace Go.Proofs.Ytgahdlmflnpihaa.Pure
open Go.RowKit Go.Proofs.Ytgahdlmflnpihaa.PFnExactSqrtUp Go.Proofs.YtgahdlmflnpihaaW.PrintWords Go.Proofs.YtgahdlmflnpihaaW.PrintLast Go.Proofs.Ytgahdlmflnpihaa.Ext
theorem uw (n : Int) : IntKind.u64.wrap n = n % 18446744073709551616 := IntKind.wrap_u64 n
theorem wraps_u64 (n : Int) (h₀ : 0 ≤ n) (h₁ : n < 2 ^ 64) : IntKind.u64.wrap n = n := by rw [uw]; omega
theorem lo32 {x : Int} (h₀ : 0 ≤ x) (h₁ : x < 18446744073709551616) : Go.bits .and .u64 x 4294967295 = x % 4294967296 := bits_mask .u64 64 (by decide) wraps_u64 32 (by decide) x h₀ (by omega)
theorem not64 (x : Int) (h₀ : -9223372036854775808 ≤ x) (h₁ : x ≤ 9223372036854775807) : Go.bits .xor .i64 (-1) x = -1 - x := by
  have e1 : (BitVec.ofInt 64 (-1)) = BitVec.allOnes 64 := by decide
  show IntKind.i64.wrap (((BitVec.ofInt 64 (-1)) ^^^ BitVec.ofInt 64 x).toNat : Int) = _
  rw [e1, BitVec.allOnes_xor, BitVec.toNat_not, BitVec.toNat_ofInt, IntKind.wrap_i64]
  omega
theorem wrap_neg {n : Nat} (h : n < 18446744073709551616) : IntKind.i64.wrap (n : Int) < 0 ↔ 9223372036854775808 ≤ n := by rw [IntKind.wrap_i64]; omega
theorem msb_of (x : Int) (h₀ : -9223372036854775808 ≤ x) (h₁ : x ≤ 9223372036854775807) : (BitVec.ofInt 64 x).msb = decide (x < 0) := by
  rw [BitVec.msb_eq_decide, BitVec.toNat_ofInt]
  congr 1
  simp only [eq_iff_iff]
  omega
theorem neg_msb (b : BitVec 64) : IntKind.i64.wrap (b.toNat : Int) < 0 ↔ b.msb = true := by
  rw [wrap_neg b.isLt, BitVec.msb_eq_decide]; simp
theorem toInt_wrap (b : BitVec 64) : IntKind.i64.wrap (b.toNat : Int) = b.toInt := by
  rw [IntKind.wrap_i64, BitVec.toInt_eq_toNat_cond]; have := b.isLt; split <;> omega
/-- the sign test of an addition -/
theorem sign_test (a b h : Int) (ha₀ : -9223372036854775808 ≤ a) (ha₁ : a ≤ 9223372036854775807) (hb₀ : -9223372036854775808 ≤ b) (hb₁ : b ≤ 9223372036854775807) (hh₀ : -9223372036854775808 ≤ h) (hh₁ : h ≤ 9223372036854775807) :
    Go.bits .and .i64 (Go.bits .xor .i64 a h) (Go.bits .xor .i64 b h) < 0 ↔ ((a < 0) ↔ ¬ (h < 0)) ∧ ((b < 0) ↔ ¬ (h < 0)) := by
  show IntKind.i64.wrap (((BitVec.ofInt 64 (IntKind.i64.wrap ((BitVec.ofInt 64 a ^^^ BitVec.ofInt 64 h).toNat : Int))) &&& (BitVec.ofInt 64 (IntKind.i64.wrap ((BitVec.ofInt 64 b ^^^ BitVec.ofInt 64 h).toNat : Int)))).toNat : Int) < 0 ↔ _
  rw [neg_msb, BitVec.msb_and, toInt_wrap, toInt_wrap, BitVec.ofInt_toInt, BitVec.ofInt_toInt, BitVec.msb_xor, BitVec.msb_xor, msb_of a ha₀ ha₁, msb_of b hb₀ hb₁, msb_of h hh₀ hh₁]
  by_cases p : a < 0 <;> by_cases q : b < 0 <;> by_cases r : h < 0 <;> simp [p, q, r]
theorem prod4 (x y : Int) : x * y = (x / 4294967296) * (y / 4294967296) * 18446744073709551616 + ((x / 4294967296) * (y % 4294967296) + (x % 4294967296) * (y / 4294967296)) * 4294967296 + (x % 4294967296) * (y % 4294967296) := by
  have hx : x = 4294967296 * (x / 4294967296) + x % 4294967296 := by omega
  have hy : y = 4294967296 * (y / 4294967296) + y % 4294967296 := by omega
  generalize x / 4294967296 = a at *
  generalize x % 4294967296 = b at *
  generalize y / 4294967296 = c at *
  generalize y % 4294967296 = d at *
  subst hx hy
  grind
theorem mul_bd {a b m n : Int} (ha : 0 ≤ a) (ha' : a ≤ m) (hb : 0 ≤ b) (hb' : b ≤ n) : 0 ≤ a * b ∧ a * b ≤ m * n :=
  ⟨Int.mul_nonneg ha hb, Int.mul_le_mul ha' hb' hb (Int.le_trans ha ha')⟩
theorem times_hi (x y : Int) (hx : 0 ≤ x) (hx' : x < 18446744073709551616) (hy : 0 ≤ y) (hy' : y < 18446744073709551616) :
    (((x / 4294967296) * (y / 4294967296) % 18446744073709551616 + (((x / 4294967296) * (y % 4294967296) % 18446744073709551616 + ((x % 4294967296) * (y % 4294967296) % 18446744073709551616) / 4294967296) % 18446744073709551616) / 4294967296) % 18446744073709551616 + (((x % 4294967296) * (y / 4294967296) % 18446744073709551616 + (((x / 4294967296) * (y % 4294967296) % 18446744073709551616 + ((x % 4294967296) * (y % 4294967296) % 18446744073709551616) / 4294967296) % 18446744073709551616) % 4294967296) % 18446744073709551616) / 4294967296) % 18446744073709551616 = x * y / 18446744073709551616 := by
  rw [prod4 x y]
  have a1 : 0 ≤ x / 4294967296 ∧ x / 4294967296 ≤ 4294967295 := by omega
  have a2 : 0 ≤ y / 4294967296 ∧ y / 4294967296 ≤ 4294967295 := by omega
  have a3 : 0 ≤ x % 4294967296 ∧ x % 4294967296 ≤ 4294967295 := by omega
  have a4 : 0 ≤ y % 4294967296 ∧ y % 4294967296 ≤ 4294967295 := by omega
  have b1 := mul_bd a1.1 a1.2 a2.1 a2.2
  have b2 := mul_bd a1.1 a1.2 a4.1 a4.2
  have b3 := mul_bd a3.1 a3.2 a2.1 a2.2
  have b4 := mul_bd a3.1 a3.2 a4.1 a4.2
  generalize (x / 4294967296) * (y / 4294967296) = p at *
  generalize (x / 4294967296) * (y % 4294967296) = q at *
  generalize (x % 4294967296) * (y / 4294967296) = r at *
  generalize (x % 4294967296) * (y % 4294967296) = s at *
  clear a1 a2 a3 a4 hx hx' hy hy'
  simp only [Int.reduceMul] at b1 b2 b3 b4
  have e1 : p % 18446744073709551616 = p := by omega
  have e2 : q % 18446744073709551616 = q := by omega
  have e3 : r % 18446744073709551616 = r := by omega
  have e4 : s % 18446744073709551616 = s := by omega
  rw [e1, e2, e3, e4]
  have e5 : (q + s / 4294967296) % 18446744073709551616 = q + s / 4294967296 := by omega
  rw [e5]
  omega
theorem lo32m (z : Int) : Go.bits .and .u64 (z % 18446744073709551616) 4294967295 = z % 18446744073709551616 % 4294967296 := lo32 (by omega) (by omega)
theorem lo1 {x : Int} (h₀ : 0 ≤ x) (h₁ : x < 18446744073709551616) : Go.bits .and .u64 x 1 = x % 2 := bits_mask .u64 64 (by decide) wraps_u64 1 (by decide) x h₀ (by omega)
theorem times_hi2 (x y : Int) (hx : 0 ≤ x) (hx' : x < 18446744073709551616) (hy : 0 ≤ y) (hy' : y < 18446744073709551616) :
    (((x / 4294967296) * (y / 4294967296) % 18446744073709551616 + (((x / 4294967296) * (y % 4294967296) % 18446744073709551616 + ((x % 4294967296) * (y % 4294967296) % 18446744073709551616) / 4294967296) % 18446744073709551616) / 4294967296) % 18446744073709551616 + (((((x / 4294967296) * (y % 4294967296) % 18446744073709551616 + ((x % 4294967296) * (y % 4294967296) % 18446744073709551616) / 4294967296) % 18446744073709551616) % 4294967296 + (x % 4294967296) * (y / 4294967296) % 18446744073709551616) % 18446744073709551616) / 4294967296) % 18446744073709551616 = x * y / 18446744073709551616 := by
  rw [← times_hi x y hx hx' hy hy', Int.add_comm ((((x / 4294967296) * (y % 4294967296) % 18446744073709551616 + ((x % 4294967296) * (y % 4294967296) % 18446744073709551616) / 4294967296) % 18446744073709551616) % 4294967296)]
/-- A number of 64 bits as a wide one. -/
def ofN (n : Int) : Int × Int := (n / 9223372036854775808, n % 18446744073709551616)
/-- The number that two halves stand for, and its halves. -/
def ofV (v : Int) : Int × Int := (v / 18446744073709551616, v % 18446744073709551616)
/-- The negative, modulo 2^128. -/
def neg (h l : Int) : Int × Int := if l = 0 then (wrap64 (-h), 0) else (-1 - h, 18446744073709551616 - l)
def plusW (h1 l1 h2 l2 : Int) : Int × Int := (wrap64 (h1 + h2 + (l1 + l2) / 18446744073709551616), (l1 + l2) % 18446744073709551616)
def I64 (n : Int) : Prop := -9223372036854775808 ≤ n ∧ n ≤ 9223372036854775807
def U64 (n : Int) : Prop := 0 ≤ n ∧ n < 18446744073709551616
theorem wrapI (n : Int) : I64 (wrap64 n) := by unfold I64 wrap64; omega
theorem modU (n : Int) : U64 (n % 18446744073709551616) := by unfold U64; omega
theorem neg_ofV (p : Int) (h0 : 0 ≤ p) (h1 : p ≤ 85070591730234615865843651857942052864) : neg (p / 18446744073709551616) (p % 18446744073709551616) = ofV (-p) := by
  unfold neg ofV wrap64
  split <;> simp only [Prod.mk.injEq] <;> omega
theorem prod_bd {a b : Int} (ha : I64 a) (hb : I64 b) (ha' : 0 ≤ a) (hb' : 0 ≤ b) : 0 ≤ a * b ∧ a * b ≤ 85070591730234615865843651857942052864 := by
  have h := mul_bd ha' (show a ≤ 9223372036854775808 by have := ha.2; omega) hb' (show b ≤ 9223372036854775808 by have := hb.2; omega)
  simpa using h
/-- The number of two halves. -/
def val (h l : Int) : Int := h * 18446744073709551616 + l
theorem pe {α β : Type} (p : α × β) : (p.1, p.2) = p := rfl
theorem sIn (a b c : Int) : spec_l00In.f a b c = some (decide (b ≤ a) && decide (a ≤ c)) := by unfold spec_l00In.f; by_cases h : b ≤ a <;> simp [h]
theorem iIn (a b c : Int) : impl_within.f a b c = some (decide (b ≤ a) && decide (a ≤ c)) := by unfold impl_within.f; by_cases h : b ≤ a <;> simp [h]
theorem sOf {n : Int} (h : I64 n) : spec_l02Of.f n = some (ofN n) := by
  obtain ⟨h0, h1⟩ := h
  unfold spec_l02Of.f ofN
  rw [uw]
  split <;> simp only [Option.some.injEq, Prod.mk.injEq, and_true] <;> omega
theorem iTimes {x y : Int} (hx : U64 x) (hy : U64 y) : bits_Mul64.f x y = some (ofV (x * y)) := by
  unfold bits_Mul64.f ofV
  simp only [uw, lo32 hx.1 hx.2, lo32 hy.1 hy.2, lo32m]
  rw [times_hi2 x y hx.1 hx.2 hy.1 hy.2]
theorem sTimes {x y : Int} (hx : U64 x) (hy : U64 y) : spec_l02Times.f x y = some (ofV (x * y)) := by
  unfold spec_l02Times.f ofV
  simp only [uw, lo32 hx.1 hx.2, lo32 hy.1 hy.2, lo32m]
  rw [times_hi x y hx.1 hx.2 hy.1 hy.2]
theorem sSize {n : Int} (h : I64 n) : spec_l02Size.f n = some (if n < 0 then -n else n) := by
  obtain ⟨h0, h1⟩ := h
  unfold spec_l02Size.f
  rw [uw, uw]
  split <;> simp only [Option.some.injEq] <;> omega
theorem sMinus {h l : Int} (hh : I64 h) (hl : U64 l) : spec_l02Minus.f h l = some (neg h l) := by
  obtain ⟨h0, h1⟩ := hh
  obtain ⟨l0, l1⟩ := hl
  unfold spec_l02Minus.f neg
  rw [uw, not64 h h0 h1]
  split <;> simp only [Option.some.injEq, Prod.mk.injEq, true_and] <;> omega
theorem iMul {a b : Int} (ha : I64 a) (hb : I64 b) : impl_WideMul.f a b = some (ofV (a * b)) := by
  obtain ⟨a0, a1⟩ := ha
  obtain ⟨b0, b1⟩ := hb
  unfold impl_WideMul.f
  simp only [uw]
  rw [iTimes (modU a) (modU b)]
  simp only [Option.bind_some, ofV]
  have bd : a * b ≤ 85070591730234615865843651857942052864 ∧ -85070591730234615865843651857942052864 ≤ a * b := by
    by_cases sa : a < 0 <;> by_cases sb : b < 0
    · have h := mul_bd (show 0 ≤ -a by omega) (show -a ≤ 9223372036854775808 by omega) (show 0 ≤ -b by omega) (show -b ≤ 9223372036854775808 by omega); rw [Int.neg_mul_neg] at h; simp only [Int.reduceMul] at h; omega
    · have h := mul_bd (show 0 ≤ -a by omega) (show -a ≤ 9223372036854775808 by omega) (show 0 ≤ b by omega) (show b ≤ 9223372036854775808 by omega); rw [Int.neg_mul] at h; simp only [Int.reduceMul] at h; omega
    · have h := mul_bd (show 0 ≤ a by omega) (show a ≤ 9223372036854775808 by omega) (show 0 ≤ -b by omega) (show -b ≤ 9223372036854775808 by omega); rw [Int.mul_neg] at h; simp only [Int.reduceMul] at h; omega
    · have h := mul_bd (show 0 ≤ a by omega) (show a ≤ 9223372036854775808 by omega) (show 0 ≤ b by omega) (show b ≤ 9223372036854775808 by omega); simp only [Int.reduceMul] at h; omega
  by_cases sa : a < 0 <;> by_cases sb : b < 0
  · rw [if_pos sa, if_pos sb, show a % 18446744073709551616 = a + 18446744073709551616 by omega, show b % 18446744073709551616 = b + 18446744073709551616 by omega]
    have e : (a + 18446744073709551616) * (b + 18446744073709551616) = a * b + 18446744073709551616 * (a + b + 18446744073709551616) := by grind
    rw [e]; generalize a * b = p at *
    simp only [Option.some.injEq, Prod.mk.injEq]; unfold wrap64; omega
  · rw [if_pos sa, if_neg sb, show a % 18446744073709551616 = a + 18446744073709551616 by omega, show b % 18446744073709551616 = b by omega]
    have e : (a + 18446744073709551616) * b = a * b + 18446744073709551616 * b := by grind
    rw [e]; generalize a * b = p at *
    simp only [Option.some.injEq, Prod.mk.injEq]; unfold wrap64; omega
  · rw [if_neg sa, if_pos sb, show a % 18446744073709551616 = a by omega, show b % 18446744073709551616 = b + 18446744073709551616 by omega]
    have e : a * (b + 18446744073709551616) = a * b + 18446744073709551616 * a := by grind
    rw [e]; generalize a * b = p at *
    simp only [Option.some.injEq, Prod.mk.injEq]; unfold wrap64; omega
  · rw [if_neg sa, if_neg sb, show a % 18446744073709551616 = a by omega, show b % 18446744073709551616 = b by omega]
    generalize a * b = p at *
    simp only [Option.some.injEq, Prod.mk.injEq, and_true]; unfold wrap64; omega
theorem sMul {a b : Int} (ha : I64 a) (hb : I64 b) : spec_l02Mul.f a b = some (ofV (a * b)) := by
  unfold spec_l02Mul.f
  rw [sSize ha, sSize hb]
  obtain ⟨a0, a1⟩ := ha
  obtain ⟨b0, b1⟩ := hb
  simp only [Option.bind_some]
  have key : ∀ p : Int, 0 ≤ p → p ≤ 85070591730234615865843651857942052864 → wrap64 (p / 18446744073709551616) = p / 18446744073709551616 ∧ I64 (p / 18446744073709551616) := by intro p h0 h1; unfold wrap64 I64; omega
  by_cases sa : a < 0 <;> by_cases sb : b < 0
  · rw [if_pos sa, if_pos sb, sTimes ⟨by omega, by omega⟩ ⟨by omega, by omega⟩]
    have h := mul_bd (show 0 ≤ -a by omega) (show -a ≤ 9223372036854775808 by omega) (show 0 ≤ -b by omega) (show -b ≤ 9223372036854775808 by omega)
    simp only [Int.reduceMul, Int.neg_mul_neg] at h
    simp only [Option.bind_some, ofV, sa, sb, decide_true, bne_self_eq_false, Bool.false_eq_true, if_false, Int.neg_mul_neg, (key _ h.1 h.2).1]
  · rw [if_pos sa, if_neg sb, sTimes ⟨by omega, by omega⟩ ⟨by omega, by omega⟩]
    have h := mul_bd (show 0 ≤ -a by omega) (show -a ≤ 9223372036854775808 by omega) (show 0 ≤ b by omega) (show b ≤ 9223372036854775808 by omega)
    simp only [Int.reduceMul] at h
    have e : (decide (a < 0) != decide (b < 0)) = true := by simp [sa, sb]
    simp only [Option.bind_some, ofV]
    rw [if_pos e, (key _ h.1 h.2).1, sMinus (key _ h.1 h.2).2 (modU _), neg_ofV _ h.1 h.2]
    simp only [Option.bind_some, ofV, Int.neg_mul, Int.neg_neg]
  · rw [if_neg sa, if_pos sb, sTimes ⟨by omega, by omega⟩ ⟨by omega, by omega⟩]
    have h := mul_bd (show 0 ≤ a by omega) (show a ≤ 9223372036854775808 by omega) (show 0 ≤ -b by omega) (show -b ≤ 9223372036854775808 by omega)
    simp only [Int.reduceMul] at h
    have e : (decide (a < 0) != decide (b < 0)) = true := by simp [sa, sb]
    simp only [Option.bind_some, ofV]
    rw [if_pos e, (key _ h.1 h.2).1, sMinus (key _ h.1 h.2).2 (modU _), neg_ofV _ h.1 h.2]
    simp only [Option.bind_some, ofV, Int.mul_neg, Int.neg_neg]
  · rw [if_neg sa, if_neg sb, sTimes ⟨by omega, by omega⟩ ⟨by omega, by omega⟩]
    have h := mul_bd (show 0 ≤ a by omega) (show a ≤ 9223372036854775808 by omega) (show 0 ≤ b by omega) (show b ≤ 9223372036854775808 by omega)
    simp only [Int.reduceMul] at h
    simp only [Option.bind_some, ofV, sa, sb, decide_false, bne_self_eq_false, Bool.false_eq_true, if_false, (key _ h.1 h.2).1]
theorem shl_eq (x : Int) {s : Nat} (h : s ≤ 64) : shl .u64 x (s : Int) = x * 2 ^ s % 18446744073709551616 := by
  unfold shl
  rw [uw, show min (s : Int).toNat IntKind.u64.bits = s by simp [IntKind.bits]; omega]
theorem shr_eq (x : Int) {s : Nat} (h : s ≤ 64) : shr .u64 x (s : Int) = x / 2 ^ s := by
  unfold shr
  rw [show min (s : Int).toNat IntKind.u64.bits = s by simp [IntKind.bits]; omega]
/-- The root of a number, bit by bit: n bits are left. -/
def sq : Nat → Int → Int → Int
  | 0, r, _ => r
  | n + 1, r, v => if (r + 2 ^ n) * (r + 2 ^ n) ≤ v then sq n (r + 2 ^ n) v else sq n r v
theorem sq_is (v : Int) : ∀ (n : Nat) (r : Int), 0 ≤ r → r * r ≤ v → v < (r + 2 ^ n) * (r + 2 ^ n) → 0 ≤ sq n r v ∧ sq n r v * sq n r v ≤ v ∧ v < (sq n r v + 1) * (sq n r v + 1) ∧ sq n r v < r + 2 ^ n := by
  intro n
  induction n with
  | zero => intro r h0 h1 h2; simp only [Int.pow_zero] at h2; exact ⟨h0, h1, h2, by simp only [sq, Int.pow_zero]; omega⟩
  | succ n ih =>
    intro r h0 h1 h2
    have hp : (0 : Int) < 2 ^ n := Int.pow_pos (by decide)
    rw [show (2 : Int) ^ (n + 1) = 2 ^ n + 2 ^ n by rw [Int.pow_succ]; omega] at h2 ⊢
    simp only [sq]
    split
    · rename_i h
      obtain ⟨a, b, c, d⟩ := ih (r + 2 ^ n) (by omega) h (by rw [show r + 2 ^ n + 2 ^ n = r + (2 ^ n + 2 ^ n) by omega]; exact h2)
      exact ⟨a, b, c, by omega⟩
    · rename_i h
      obtain ⟨a, b, c, d⟩ := ih r h0 h1 (by omega)
      exact ⟨a, b, c, by omega⟩
theorem cmp128 {v h l : Int} (hl : U64 l) : ((ofV v).1 < h ∨ ((ofV v).1 = h ∧ (ofV v).2 ≤ l)) ↔ v ≤ h * 18446744073709551616 + l := by
  obtain ⟨l0, l1⟩ := hl
  unfold ofV
  simp only []
  omega
theorem or_bit {r : Int} {n : Nat} (hn : n ≤ 63) (h0 : 0 ≤ r) (hm : r % 2 ^ (n + 1) = 0) (hb : r + 2 ^ (n + 1) ≤ 18446744073709551616) : Go.bits .or .u64 r (shl .u64 1 (n : Int)) = r + 2 ^ n := by
  have hp : (0 : Int) < 2 ^ n := Int.pow_pos (by decide)
  have e : (2 : Int) ^ (n + 1) = 2 ^ n + 2 ^ n := by rw [Int.pow_succ]; omega
  rw [shl_eq 1 (show n ≤ 64 by omega), show (1 * 2 ^ n : Int) % 18446744073709551616 = 2 ^ n by omega]
  exact bits_join .u64 64 (by decide) wraps_u64 (n + 1) r (2 ^ n) h0 hm (by omega) (by omega) (by omega) (by omega)
theorem next_mod {r : Int} {n : Nat} (hm : r % 2 ^ (n + 1) = 0) : r % 2 ^ n = 0 ∧ (r + 2 ^ n) % 2 ^ n = 0 := by
  have h : r % 2 ^ n = 0 := by
    rw [← Int.emod_emod_of_dvd r (show (2 : Int) ^ n ∣ 2 ^ (n + 1) from ⟨2, by rw [Int.pow_succ]⟩), hm, Int.zero_emod]
  exact ⟨h, by rw [Int.add_emod_right, h]⟩
theorem iRoot {h l : Int} (hh : U64 h) (hl : U64 l) : ∀ (n : Nat) (r : Int) (k : Nat), n ≤ 64 → n < k → 0 ≤ r → r % 2 ^ n = 0 → r + 2 ^ n ≤ 18446744073709551616 →
    impl_WideSqrt.l0 k r ((n : Int) - 1) h l = some (sq n r (h * 18446744073709551616 + l), true) := by
  have eh : IntKind.u64.wrap h = h := by rw [uw]; have := hh.1; have := hh.2; omega
  intro n
  induction n with
  | zero =>
    intro r k _ hk _ _ _
    obtain ⟨k, rfl⟩ : ∃ m, k = m + 1 := ⟨k - 1, by omega⟩
    rw [impl_WideSqrt.l0, if_neg (by omega)]
    rfl
  | succ n ih =>
    intro r k hn hk h0 hm hb
    obtain ⟨k, rfl⟩ : ∃ m, k = m + 1 := ⟨k - 1, by omega⟩
    have hp : (0 : Int) < 2 ^ n := Int.pow_pos (by decide)
    have e2 : (2 : Int) ^ (n + 1) = 2 ^ n + 2 ^ n := by rw [Int.pow_succ]; omega
    have en : ((n + 1 : Nat) : Int) - 1 = (n : Int) := by omega
    have ew : wrap64 ((n : Int) - 1) = (n : Int) - 1 := by unfold wrap64; omega
    obtain ⟨m1, m2⟩ := next_mod hm
    have hr : U64 (r + 2 ^ n) := ⟨by omega, by omega⟩
    rw [impl_WideSqrt.l0, en, if_pos (by omega), if_pos (by omega), or_bit (by omega) h0 hm hb, iTimes hr hr, ew, eh]
    simp only [Option.bind_some, sq]
    have cm := cmp128 (v := (r + 2 ^ n) * (r + 2 ^ n)) (h := h) hl
    have yes := ih (r + 2 ^ n) k (by omega) (by omega) (by omega) m2 (by omega)
    have no := ih r k (by omega) (by omega) h0 m1 (by omega)
    by_cases c : (r + 2 ^ n) * (r + 2 ^ n) ≤ h * 18446744073709551616 + l
    · rw [if_pos c]
      rcases cm.2 c with c1 | ⟨c1, c2⟩
      · rw [if_pos c1, yes]
      · rw [if_neg (by omega), if_pos c1, if_pos c2, yes]
    · rw [if_neg c]
      have c' := fun z => c (cm.1 z)
      rw [if_neg (fun z => c' (.inl z))]
      split
      · rename_i c1
        rw [if_neg (fun z => c' (.inr ⟨c1, z⟩)), no]
      · exact no
theorem iSqrt {h l : Int} (hh : I64 h) (hl : U64 l) (k : Nat) (hk : 65 ≤ k) : impl_WideSqrt.f k h l = some (if h < 0 then (0, false) else (sq 64 0 (h * 18446744073709551616 + l), true)) := by
  unfold impl_WideSqrt.f
  split
  · rfl
  · have := hh.2
    have e := iRoot (h := h) (l := l) ⟨by omega, by omega⟩ hl 64 0 k (by omega) (by omega) (by omega) (by simp) (by decide)
    rw [show ((64 : Nat) : Int) - 1 = 63 by decide] at e
    rw [e]
theorem sRoot {h l : Int} (hh : U64 h) (hl : U64 l) : ∀ (n : Nat) (r : Int) (k : Nat), n ≤ 64 → n < k → 0 ≤ r → r % 2 ^ n = 0 → r + 2 ^ n ≤ 18446744073709551616 →
    spec_l02Root.l0 k r ((n : Int) - 1) h l = some (sq n r (h * 18446744073709551616 + l)) := by
  have eh : IntKind.u64.wrap h = h := by rw [uw]; have := hh.1; have := hh.2; omega
  intro n
  induction n with
  | zero =>
    intro r k _ hk _ _ _
    obtain ⟨k, rfl⟩ : ∃ m, k = m + 1 := ⟨k - 1, by omega⟩
    rw [spec_l02Root.l0, if_neg (by omega)]
    rfl
  | succ n ih =>
    intro r k hn hk h0 hm hb
    obtain ⟨k, rfl⟩ : ∃ m, k = m + 1 := ⟨k - 1, by omega⟩
    have hp : (0 : Int) < 2 ^ n := Int.pow_pos (by decide)
    have e2 : (2 : Int) ^ (n + 1) = 2 ^ n + 2 ^ n := by rw [Int.pow_succ]; omega
    have en : ((n + 1 : Nat) : Int) - 1 = (n : Int) := by omega
    have ew : wrap64 ((n : Int) - 1) = (n : Int) - 1 := by unfold wrap64; omega
    have eu : IntKind.u64.wrap (n : Int) = n := by rw [uw]; omega
    obtain ⟨m1, m2⟩ := next_mod hm
    have hr : U64 (r + 2 ^ n) := ⟨by omega, by omega⟩
    rw [spec_l02Root.l0, en, eu, if_pos (by omega), if_pos (by omega), or_bit (by omega) h0 hm hb, sTimes hr hr, ew, eh]
    simp only [Option.bind_some, sq]
    have cm := cmp128 (v := (r + 2 ^ n) * (r + 2 ^ n)) (h := h) hl
    have yes := ih (r + 2 ^ n) k (by omega) (by omega) (by omega) m2 (by omega)
    have no := ih r k (by omega) (by omega) h0 m1 (by omega)
    by_cases c : (r + 2 ^ n) * (r + 2 ^ n) ≤ h * 18446744073709551616 + l
    · rw [if_pos c]
      rcases cm.2 c with c1 | ⟨c1, c2⟩
      · rw [if_pos c1, yes]
      · rw [if_neg (by omega), if_pos c1, if_pos c2, yes]
    · rw [if_neg c]
      have c' := fun z => c (cm.1 z)
      rw [if_neg (fun z => c' (.inl z))]
      split
      · rename_i c1
        rw [if_neg (fun z => c' (.inr ⟨c1, z⟩)), no]
      · exact no
theorem sRootF {h l : Int} (h0 : 0 ≤ h) (hh : I64 h) (hl : U64 l) (k : Nat) (hk : 65 ≤ k) : spec_l02Root.f k h l = some (sq 64 0 (h * 18446744073709551616 + l)) := by
  unfold spec_l02Root.f
  have := hh.2
  have e := sRoot (h := h) (l := l) ⟨by omega, by omega⟩ hl 64 0 k (by omega) (by omega) (by omega) (by simp) (by decide)
  rw [show ((64 : Nat) : Int) - 1 = 63 by decide] at e
  rw [e]
theorem ofV_val (v : Int) : val (ofV v).1 (ofV v).2 = v := by unfold val ofV; omega
theorem ofV_u (v : Int) : U64 (ofV v).2 := by unfold ofV U64; omega
theorem ofV_i {v : Int} (h : -170141183460469231731687303715884105728 ≤ v ∧ v < 170141183460469231731687303715884105728) : I64 (ofV v).1 := by unfold ofV I64; omega
theorem prod_all {a b : Int} (ha : I64 a) (hb : I64 b) : -85070591730234615865843651857942052864 ≤ a * b ∧ a * b ≤ 85070591730234615865843651857942052864 := by
  obtain ⟨a0, a1⟩ := ha
  obtain ⟨b0, b1⟩ := hb
  by_cases sa : a < 0 <;> by_cases sb : b < 0
  · have h := mul_bd (show 0 ≤ -a by omega) (show -a ≤ 9223372036854775808 by omega) (show 0 ≤ -b by omega) (show -b ≤ 9223372036854775808 by omega); rw [Int.neg_mul_neg] at h; simp only [Int.reduceMul] at h; omega
  · have h := mul_bd (show 0 ≤ -a by omega) (show -a ≤ 9223372036854775808 by omega) (show 0 ≤ b by omega) (show b ≤ 9223372036854775808 by omega); rw [Int.neg_mul] at h; simp only [Int.reduceMul] at h; omega
  · have h := mul_bd (show 0 ≤ a by omega) (show a ≤ 9223372036854775808 by omega) (show 0 ≤ -b by omega) (show -b ≤ 9223372036854775808 by omega); rw [Int.mul_neg] at h; simp only [Int.reduceMul] at h; omega
  · have h := mul_bd (show 0 ≤ a by omega) (show a ≤ 9223372036854775808 by omega) (show 0 ≤ b by omega) (show b ≤ 9223372036854775808 by omega); simp only [Int.reduceMul] at h; omega
/-- Two halves as a number of 64 bits, if they are one. -/
def wint (h l : Int) : Int × Bool := if (!((ofN (wrap64 l)).1 == h) || !((ofN (wrap64 l)).2 == l)) = true then (0, false) else (wrap64 l, true)
theorem sInt (h l : Int) : spec_l02Int.f h l = some (wint h l) := by
  unfold spec_l02Int.f wint
  rw [sOf (wrapI _)]
  simp only [Option.bind_some]
  split <;> rfl
theorem or_zero {x : Int} (hx : U64 x) : Go.bits .or .u64 x 0 = x := by
  have := bits_join .u64 64 (by decide) wraps_u64 0 x 0 hx.1 (by simp) hx.2 (by omega) (by decide) (by decide)
  rw [this]; omega
/-- A wide number shifted to the right: as the program does it. -/
def shW (h l n : Int) : Int × Int := if n ≥ 64 then (h / 9223372036854775808, IntKind.u64.wrap (shr .i64 h (n - 64))) else (shr .i64 h n, Go.bits .or .u64 (shr .u64 l n) (shl .u64 (IntKind.u64.wrap h) (64 - n)))
theorem sShift (h : Int) {l n : Int} (hl : U64 l) (hn : 0 ≤ n ∧ n ≤ 127) : spec_l02Shift.f h l n = some (shW h l n) := by
  unfold spec_l02Shift.f shW
  by_cases z : n = 0
  · subst z
    have e2 : shr .i64 h 0 = h := by unfold shr; simp
    have e3 : shr .u64 l 0 = l := by unfold shr; simp
    have e4 : shl .u64 (IntKind.u64.wrap h) (64 - 0) = 0 := by unfold shl; simp only [uw]; rw [show min ((64 : Int) - 0).toNat IntKind.u64.bits = 64 by decide]; omega
    rw [if_pos rfl, if_neg (by omega), e2, e3, e4, or_zero hl]
  · by_cases m : n < 64
    · have e1 : IntKind.u64.wrap n = n := by rw [uw]; omega
      have e2 : wrap64 (64 - n) = 64 - n := by unfold wrap64; omega
      have e3 : IntKind.u64.wrap (64 - n) = 64 - n := by rw [uw]; omega
      rw [if_neg z, if_pos m, if_neg (show ¬ n ≥ 64 by omega), e1, e2, e3, if_pos (by omega), if_pos (by omega)]
    · have e2 : wrap64 (n - 64) = n - 64 := by unfold wrap64; omega
      have e3 : IntKind.u64.wrap (n - 64) = n - 64 := by rw [uw]; omega
      rw [if_neg z, if_neg m, if_pos (show n ≥ 64 by omega), e2, e3, if_pos (by omega)]
theorem or_comm64 (a b : Int) : Go.bits .or .u64 a b = Go.bits .or .u64 b a := by
  show IntKind.u64.wrap ((BitVec.ofInt 64 a ||| BitVec.ofInt 64 b).toNat : Int) = IntKind.u64.wrap ((BitVec.ofInt 64 b ||| BitVec.ofInt 64 a).toNat : Int)
  rw [BitVec.or_comm]
theorem shrI_eq (x : Int) {s : Nat} (h : s ≤ 64) : shr .i64 x (s : Int) = x / 2 ^ s := by
  unfold shr
  rw [show min (s : Int).toNat IntKind.i64.bits = s by simp [IntKind.bits]; omega]
/-- Shifting is dividing by a power of 2. -/
theorem shW_eq (h : Int) {l : Int} (hl : U64 l) (n : Nat) (hn : n < 64) : shW h l (n : Int) = ofV (val h l / 2 ^ n) := by
  obtain ⟨l0, l1⟩ := hl
  unfold shW ofV val
  have hP : (0 : Int) < 2 ^ n := Int.pow_pos (by decide)
  have hR : (0 : Int) < 2 ^ (64 - n) := Int.pow_pos (by decide)
  have hPR : (2 : Int) ^ n * 2 ^ (64 - n) = 18446744073709551616 := by rw [← Int.pow_add, show n + (64 - n) = 64 by omega]; rfl
  rw [if_neg (by omega), shrI_eq h (show n ≤ 64 by omega), shr_eq l (show n ≤ 64 by omega), show (64 - (n : Int)) = ((64 - n : Nat) : Int) by omega, shl_eq _ (show 64 - n ≤ 64 by omega), uw]
  have r0 := Int.emod_nonneg h (show (2 : Int) ^ n ≠ 0 by omega)
  have r1 := Int.emod_lt_of_pos h hP
  have re := Int.emod_add_mul_ediv h (2 ^ n)
  have le := Int.emod_add_mul_ediv l (2 ^ n)
  have q0 := Int.emod_nonneg l (show (2 : Int) ^ n ≠ 0 by omega)
  have q1 := Int.emod_lt_of_pos l hP
  have y0 : 0 ≤ l / 2 ^ n := Int.ediv_nonneg l0 (by omega)
  have y1 : l / 2 ^ n < 2 ^ (64 - n) := by
    apply (Int.ediv_lt_iff_lt_mul hP).2
    rw [Int.mul_comm]; omega
  have eV : (h * 18446744073709551616 + l) / 2 ^ n = h / 2 ^ n * 18446744073709551616 + (h % 2 ^ n * 2 ^ (64 - n) + l / 2 ^ n) := by
    have e : h * 18446744073709551616 + l = l % 2 ^ n + 2 ^ n * (h / 2 ^ n * 18446744073709551616 + (h % 2 ^ n * 2 ^ (64 - n) + l / 2 ^ n)) := by
      generalize h / 2 ^ n = a at *
      generalize h % 2 ^ n = r at *
      generalize l / 2 ^ n = b at *
      generalize l % 2 ^ n = s at *
      generalize (2 : Int) ^ n = P at *
      generalize (2 : Int) ^ (64 - n) = R at *
      subst re le
      rw [← hPR]
      grind
    rw [e, Int.add_mul_ediv_left _ _ (by omega), Int.ediv_eq_zero_of_lt q0 q1]
    omega
  have x0 : 0 ≤ h % 2 ^ n * 2 ^ (64 - n) := Int.mul_nonneg r0 (by omega)
  have x1 : h % 2 ^ n * 2 ^ (64 - n) + 2 ^ (64 - n) ≤ 18446744073709551616 := by
    have : (h % 2 ^ n + 1) * 2 ^ (64 - n) ≤ 2 ^ n * 2 ^ (64 - n) := Int.mul_le_mul_of_nonneg_right (by omega) (by omega)
    rw [Int.add_mul, hPR] at this
    omega
  have eX : h % 18446744073709551616 * 2 ^ (64 - n) % 18446744073709551616 = h % 2 ^ n * 2 ^ (64 - n) := by
    have e1 : h % 18446744073709551616 * 2 ^ (64 - n) % 18446744073709551616 = h * 2 ^ (64 - n) % 18446744073709551616 := by rw [Int.mul_emod, Int.emod_emod_of_dvd _ (Int.dvd_refl _), ← Int.mul_emod]
    have e2 : h * 2 ^ (64 - n) = h % 2 ^ n * 2 ^ (64 - n) + 18446744073709551616 * (h / 2 ^ n) := by
      generalize h / 2 ^ n = a at *
      generalize h % 2 ^ n = r at *
      generalize (2 : Int) ^ n = P at *
      generalize (2 : Int) ^ (64 - n) = R at *
      subst re
      rw [← hPR]
      grind
    rw [e1, e2, Int.add_mul_emod_self_left, Int.emod_eq_of_lt x0 (by omega)]
  rw [eX, eV, or_comm64, bits_join .u64 64 (by decide) wraps_u64 (64 - n) _ _ x0 (Int.mul_emod_left _ _) (by omega) y0 y1 (by omega)]
  generalize h % 2 ^ n * 2 ^ (64 - n) = x at *
  generalize l / 2 ^ n = y at *
  generalize (2 : Int) ^ (64 - n) = R at *
  generalize h / 2 ^ n = a at *
  simp only [Prod.mk.injEq]
  omega
/-- Is it a fix? -/
def fx (n : Int) : Bool := decide (-1152921504606846976 ≤ n) && decide (n ≤ 1152921504606846976)
theorem fx_iff {n : Int} : fx n = true ↔ -1152921504606846976 ≤ n ∧ n ≤ 1152921504606846976 := by simp [fx]
theorem fx_no {n : Int} : fx n = false ↔ ¬ (-1152921504606846976 ≤ n ∧ n ≤ 1152921504606846976) := by rw [← fx_iff]; simp
def fixd (n : Int) (b : Bool) : Int × Bool := if b = true then (if fx n = true then (n, true) else (0, false)) else (0, false)
theorem wint_ofV (v : Int) : wint (ofV v).1 (ofV v).2 = if -9223372036854775808 ≤ v ∧ v ≤ 9223372036854775807 then (v, true) else (0, false) := by
  unfold wint ofV ofN
  simp only []
  have e : wrap64 (v % 18446744073709551616) = wrap64 v := by unfold wrap64; omega
  rw [e]
  by_cases h : -9223372036854775808 ≤ v ∧ v ≤ 9223372036854775807
  · have e2 : wrap64 v = v := by unfold wrap64; omega
    rw [if_pos h, e2, if_neg]
    have e3 : v / 9223372036854775808 = v / 18446744073709551616 := by omega
    simp [e3]
  · rw [if_neg h, if_pos]
    have e3 : ¬ (wrap64 v / 9223372036854775808 = v / 18446744073709551616) := by unfold wrap64; omega
    simp [e3]
theorem iValid (n : Int) : impl_ValidFix.f n = some (fx n) := by unfold impl_ValidFix.f; rw [iIn]; simp -implicitDefEqProofs only [Option.bind_some, fx]
theorem iFixed (n : Int) (b : Bool) : impl_fixed.f n b = some (fixd n b) := by
  unfold impl_fixed.f fixd
  rw [iValid]
  simp -implicitDefEqProofs only [Option.bind_some]
  cases b <;> cases fx n <;> simp -implicitDefEqProofs
theorem fx_i {n : Int} (h : fx n = true) : I64 n := by rw [fx_iff] at h; exact ⟨by omega, by omega⟩
theorem fx_neg {n : Int} (h : fx n = true) : wrap64 (-n) = -n ∧ fx (-n) = true := by rw [fx_iff] at *; unfold wrap64; omega
theorem unit_i : I64 4294967296 := by unfold I64; omega
/-- A product shifted by 32. -/
def mf (a b : Int) : Int × Bool := wint (shW (ofV (a * b)).1 (ofV (a * b)).2 32).1 (shW (ofV (a * b)).1 (ofV (a * b)).2 32).2
theorem sMulFloor {a b : Int} (ha : I64 a) (hb : I64 b) : spec_MulFloor.f a b 32 = some (mf a b) := by
  have bd := prod_all ha hb
  unfold spec_MulFloor.f mf
  rw [sIn, show (decide ((0 : Int) ≤ 32) && decide ((32 : Int) ≤ 126)) = true by decide, sMul ha hb]
  simp -implicitDefEqProofs only [Option.bind_some, if_true]
  rw [sShift _ (ofV_u _) (by omega)]
  simp -implicitDefEqProofs only [Option.bind_some, sInt, pe]
/-- The product of two fixes, rounded down. -/
def md (a b : Int) : Int × Bool := if fx a = true then (if fx b = true then fixd (mf a b).1 (mf a b).2 else (0, false)) else (0, false)
/-- The product of two fixes, rounded up. -/
def mu (a b : Int) : Int × Bool := if fx a = true then (if fx b = true then (wrap64 (-(md (-a) b).1), (md (-a) b).2) else (0, false)) else (0, false)
theorem fixd_no (n : Int) (b : Bool) (h : (fixd n b).2 = false) : (fixd n b).1 = 0 := by
  unfold fixd at *
  split at h
  · split at h
    · simp at h
    · rename_i h1 h2; simp [h1, h2]
  · rename_i h1; simp [h1]
theorem md_no {a b : Int} (h : (md a b).2 = false) : (md a b).1 = 0 := by
  unfold md at *
  split at h
  · split at h
    · rename_i h1 h2; rw [if_pos h1, if_pos h2]; exact fixd_no _ _ h
    · rename_i h1 h2; rw [if_pos h1, if_neg h2]
  · rename_i h1; rw [if_neg h1]
/-- A product shifted by 32 is its quotient by 2^32, where that is a number of 64 bits. -/
theorem mf_eq (a b : Int) : mf a b = if -9223372036854775808 ≤ a * b / 4294967296 ∧ a * b / 4294967296 ≤ 9223372036854775807 then (a * b / 4294967296, true) else (0, false) := by
  unfold mf
  have e := shW_eq (ofV (a * b)).1 (ofV_u (a * b)) 32 (by omega)
  rw [ofV_val, show (2 : Int) ^ 32 = 4294967296 by decide, show ((32 : Nat) : Int) = 32 by decide] at e
  rw [e, wint_ofV]
/-- The root of a product. -/
def sf (a b : Int) : Int × Bool := if a < 0 then (0, false) else (if b < 0 then (0, false) else (wrap64 (sq 64 0 (a * b)), true))
theorem ofV_join (v : Int) : (ofV v).1 * 18446744073709551616 + (ofV v).2 = v := by unfold ofV; simp only []; omega
theorem ofV_pos {v : Int} (h : 0 ≤ v) : ¬ (ofV v).1 < 0 := by unfold ofV; simp only []; omega
theorem iSqrtFloor {a b : Int} (ha : I64 a) (hb : I64 b) (k : Nat) (hk : 66 ≤ k) : impl_SqrtFloor.f k a b = some (sf a b) := by
  obtain ⟨k, rfl⟩ : ∃ m, k = m + 1 := ⟨k - 1, by omega⟩
  have bd := prod_all ha hb
  unfold impl_SqrtFloor.f sf
  rw [impl_SqrtFloor.j0, impl_SqrtFloor.j0]
  by_cases sa : a < 0
  · rw [if_pos sa, if_pos rfl, if_pos sa]
  · rw [if_neg sa, if_neg sa]
    by_cases sb : b < 0
    · rw [if_pos (by simp [sb]), if_pos sb]
    · rw [if_neg (by simp [sb]), if_neg sb, iMul ha hb, Option.bind_some, iSqrt (ofV_i (by omega)) (ofV_u _) k (by omega), if_neg (ofV_pos (Int.mul_nonneg (by omega) (by omega))), Option.bind_some, ofV_join]
theorem sSqrtFloor {a b : Int} (ha : I64 a) (hb : I64 b) (k : Nat) (hk : 66 ≤ k) : spec_SqrtFloor.f k a b = some (sf a b) := by
  obtain ⟨k, rfl⟩ : ∃ m, k = m + 1 := ⟨k - 1, by omega⟩
  have bd := prod_all ha hb
  unfold spec_SqrtFloor.f sf
  rw [spec_SqrtFloor.j0, spec_SqrtFloor.j0]
  by_cases sa : a < 0
  · rw [if_pos sa, if_pos rfl, if_pos sa]
  · rw [if_neg sa, if_neg sa]
    by_cases sb : b < 0
    · rw [if_pos (by simp [sb]), if_pos sb]
    · rw [if_neg (by simp [sb]), if_neg sb, sMul ha hb, Option.bind_some, sRootF (by have := ofV_pos (Int.mul_nonneg (show 0 ≤ a by omega) (show 0 ≤ b by omega)); omega) (ofV_i (by omega)) (ofV_u _) k (by omega), Option.bind_some, ofV_join]
/-- The root of a fix lies between 0 and 2^46. -/
theorem sf_fix {a : Int} (h0 : 0 ≤ a) (h1 : a ≤ 1152921504606846976) : ∃ r, sf a 4294967296 = (r, true) ∧ 0 ≤ r ∧ r ≤ 70368744177664 ∧ r * r ≤ a * 4294967296 ∧ a * 4294967296 < (r + 1) * (r + 1) := by
  obtain ⟨b0, b1, b2, b3⟩ := sq_is (a * 4294967296) 64 0 (by omega) (by omega) (by rw [show (0 : Int) + 2 ^ 64 = 18446744073709551616 by decide]; omega)
  refine ⟨sq 64 0 (a * 4294967296), ?_, b0, ?_, b1, b2⟩
  · unfold sf
    rw [if_neg (by omega), if_neg (by omega)]
    have e : wrap64 (sq 64 0 (a * 4294967296)) = sq 64 0 (a * 4294967296) := by
      have : sq 64 0 (a * 4294967296) < 9223372036854775808 := by
        by_cases z : sq 64 0 (a * 4294967296) < 9223372036854775808
        · exact z
        · have := Int.mul_le_mul (show 9223372036854775808 ≤ sq 64 0 (a * 4294967296) by omega) (show 9223372036854775808 ≤ sq 64 0 (a * 4294967296) by omega) (by omega) (by omega)
          generalize sq 64 0 (a * 4294967296) = z at *
          omega
      generalize sq 64 0 (a * 4294967296) = z at *
      unfold wrap64
      omega
    rw [e]
  · by_cases z : sq 64 0 (a * 4294967296) ≤ 70368744177664
    · exact z
    · have := Int.mul_le_mul (show 70368744177665 ≤ sq 64 0 (a * 4294967296) by omega) (show 70368744177665 ≤ sq 64 0 (a * 4294967296) by omega) (by omega) (by omega)
      generalize sq 64 0 (a * 4294967296) = z at *
      omega
/-- The root of a fix, rounded down. -/
def sd (a : Int) : Int × Bool := if decide (0 ≤ a) && decide (a ≤ 1152921504606846976) then sf a 4294967296 else (0, false)
theorem sSqrtDown (a : Int) (k : Nat) (hk : 66 ≤ k) : spec_l03SqrtDown.f k a = some (sd a) := by
  unfold spec_l03SqrtDown.f sd
  rw [sIn, Option.bind_some]
  split
  · rename_i c
    have hc : 0 ≤ a ∧ a ≤ 1152921504606846976 := by simpa using c
    rw [sSqrtFloor ⟨by omega, by omega⟩ unit_i k hk, Option.bind_some, pe]
  · rfl
theorem iSqrtDown {a : Int} (ha : I64 a) (k : Nat) (hk : 66 ≤ k) : impl_SqrtDown.f k a = some (sd a) := by
  unfold impl_SqrtDown.f sd
  rw [iValid, Option.bind_some, iSqrtFloor ha unit_i k hk, Option.bind_some, iFixed, Option.bind_some, pe]
  by_cases h0 : 0 ≤ a
  · by_cases h1 : a ≤ 1152921504606846976
    · rw [if_pos (fx_iff.2 ⟨by omega, h1⟩), if_pos (by simp [h0, h1])]
      obtain ⟨r, e, r0, r1, _⟩ := sf_fix h0 h1
      rw [e]
      unfold fixd
      rw [if_pos rfl, if_pos (fx_iff.2 ⟨by omega, by omega⟩)]
    · rw [if_neg (by rw [fx_iff]; omega), if_neg (by simp [h1])]
  · rw [show (if (decide (0 ≤ a) && decide (a ≤ 1152921504606846976)) = true then sf a 4294967296 else (0, false)) = (0, false) from if_neg (by simp [h0])]
    split
    · have e : sf a 4294967296 = (0, false) := by unfold sf; rw [if_pos (by omega)]
      rw [e]; unfold fixd; rw [if_neg (by simp)]
    · rfl
theorem lo32I (x : Int) : Go.bits .and .i64 x 4294967295 = x % 4294967296 := by
  have e1 : (BitVec.ofInt 64 4294967295).toNat = 2 ^ 32 - 1 := by decide
  show IntKind.i64.wrap ((BitVec.ofInt 64 x &&& BitVec.ofInt 64 4294967295).toNat : Int) = _
  rw [BitVec.toNat_and, e1, Nat.and_two_pow_sub_one_eq_mod, BitVec.toNat_ofInt, IntKind.wrap_i64]
  omega
theorem sd_fix {a : Int} (h0 : 0 ≤ a) (h1 : a ≤ 1152921504606846976) : sd a = sf a 4294967296 := by unfold sd; rw [if_pos (by simp [h0, h1])]
theorem sd_none {a : Int} (h : ¬ (0 ≤ a ∧ a ≤ 1152921504606846976)) : sd a = (0, false) := by
  unfold sd
  rw [if_neg (by simpa using h)]
/-- The root of a fix, rounded up. -/
def su (a : Int) : Int × Bool := if (sd a).2 = true then (if (sd a).1 * (sd a).1 = a * 4294967296 then ((sd a).1, true) else ((sd a).1 + 1, true)) else (0, false)
theorem ofV_ne (p q : Int) : ((!((ofV p).1 == (ofV q).1) || (!((ofV p).2 == (ofV q).2))) = true) ↔ p ≠ q := by
  have : ofV p = ofV q ↔ p = q := by
    constructor
    · intro h
      have h1 := congrArg (fun z => val z.1 z.2) h
      simpa [ofV_val] using h1
    · intro h; rw [h]
  rw [Ne, ← this, Prod.ext_iff]
  simp only [Bool.or_eq_true, Bool.not_eq_true', beq_eq_false_iff_ne, ne_eq]
  omega
theorem sSqrtUp (a : Int) (k : Nat) (hk : 66 ≤ k) : spec_l03SqrtUp.f k a = some (su a) := by
  unfold spec_l03SqrtUp.f su
  rw [sSqrtDown a k hk, Option.bind_some]
  by_cases h : 0 ≤ a ∧ a ≤ 1152921504606846976
  · rw [sd_fix h.1 h.2]
    obtain ⟨r, e, r0, r1, r2, r3⟩ := sf_fix h.1 h.2
    have hh := h.2
    have rr : r * r ≤ 4951760157141521099596496896 := by omega
    have rr0 : 0 ≤ r * r := Int.mul_nonneg r0 r0
    rw [e, if_pos rfl, if_pos rfl]
    simp -implicitDefEqProofs only []
    rw [sMulFloor ⟨by omega, by omega⟩ ⟨by omega, by omega⟩, Option.bind_some, mf_eq, if_pos (show -9223372036854775808 ≤ r * r / 4294967296 ∧ r * r / 4294967296 ≤ 9223372036854775807 by omega), lo32I]
    simp -implicitDefEqProofs only []
    rw [show wrap64 (r + 1) = r + 1 by unfold wrap64; omega]
    have ew : wrap64 (r * r) % 4294967296 = r * r % 4294967296 := by unfold wrap64; omega
    rw [ew]
    by_cases c : r * r = a * 4294967296
    · rw [if_pos (show r * r / 4294967296 = a by omega), if_pos (show r * r % 4294967296 = 0 by omega), if_pos c]
    · rw [if_neg c]
      split
      · rw [if_neg (show ¬ r * r % 4294967296 = 0 by omega)]
      · rfl
  · rw [sd_none h, if_neg (by simp), if_neg (by simp)]
theorem iSqrtUp {a : Int} (ha : I64 a) (k : Nat) (hk : 66 ≤ k) : impl_SqrtUp.f k a = some (su a) := by
  unfold impl_SqrtUp.f su
  rw [iSqrtDown ha k hk, Option.bind_some]
  by_cases h : 0 ≤ a ∧ a ≤ 1152921504606846976
  · rw [sd_fix h.1 h.2]
    obtain ⟨r, e, r0, r1, r2, r3⟩ := sf_fix h.1 h.2
    rw [e, if_pos rfl, if_pos rfl]
    simp -implicitDefEqProofs only []
    rw [iMul ⟨by omega, by omega⟩ ⟨by omega, by omega⟩, Option.bind_some, iMul ha unit_i, Option.bind_some, show wrap64 (r + 1) = r + 1 by unfold wrap64; omega, iFixed, Option.bind_some, iFixed, Option.bind_some, pe, pe]
    unfold fixd
    rw [if_pos rfl, if_pos rfl, if_pos (fx_iff.2 ⟨by omega, by omega⟩), if_pos (fx_iff.2 ⟨by omega, by omega⟩)]
    by_cases c : r * r = a * 4294967296
    · rw [if_neg (fun z => (ofV_ne _ _).1 z c), if_pos c]
    · rw [if_pos ((ofV_ne _ _).2 c), if_neg c]
  · rw [sd_none h, if_neg (by simp), if_neg (by simp)]
    simp -implicitDefEqProofs only []
    rw [iFixed, Option.bind_some, pe]
    unfold fixd
    rw [if_neg (by simp)]
theorem FnExactSqrtUp : laws_FnExactSqrtUp.Pure := by
  unfold laws_FnExactSqrtUp.Pure
  intro a ha
  refine ⟨66, ?_⟩
  unfold laws_FnExactSqrtUp.f spec_SqrtUp.f
  rw [sSqrtUp a 66 (by omega), iSqrtUp (bounds_i64 ha) 66 (by omega), Option.bind_some, Option.bind_some, Option.bind_some]
  simp -implicitDefEqProofs
end Go.Proofs.Ytgahdlmflnpihaa.Pure
