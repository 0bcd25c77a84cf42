/- The plain law of FnExactDecimal: what the program's function and the reference's compute is the same, for every argument of its kind; no condition. -/
import Derived.Test.YtcaabdilfnicfaaDoorPFnExactDecimalx1
import Derived.OpenShut
namespace Go.Proofs.YtcaabdilfnicfaaDoor.Pure
open Go.RowKit Go.Proofs.YtcaabdilfnicfaaDoor.PFnExactDecimal Go.Proofs.YtcaabdilfnicfaaDoorW.PrintWords Go.Proofs.YtcaabdilfnicfaaDoorW.PrintLast Go.Proofs.YtcaabdilfnicfaaDoor.Ext
theorem uw (n : Int) : IntKind.u64.wrap n = n % 18446744073709551616 := IntKind.wrap_u64 n
theorem wraps_u64 (n : Int) (h₀ : 0 ≤ n) (h₁ : n < 2 ^ 64) : IntKind.u64.wrap n = n := by rw [uw]; omega
theorem lo32 {x : Int} (h₀ : 0 ≤ x) (h₁ : x < 18446744073709551616) : Go.bits .and .u64 x 4294967295 = x % 4294967296 := bits_mask .u64 64 (by decide) wraps_u64 32 (by decide) x h₀ (by omega)
theorem not64 (x : Int) (h₀ : -9223372036854775808 ≤ x) (h₁ : x ≤ 9223372036854775807) : Go.bits .xor .i64 (-1) x = -1 - x := by
  have e1 : (BitVec.ofInt 64 (-1)) = BitVec.allOnes 64 := by decide
  show IntKind.i64.wrap (((BitVec.ofInt 64 (-1)) ^^^ BitVec.ofInt 64 x).toNat : Int) = _
  rw [e1, BitVec.allOnes_xor, BitVec.toNat_not, BitVec.toNat_ofInt, IntKind.wrap_i64]
  omega
theorem wrap_neg {n : Nat} (h : n < 18446744073709551616) : IntKind.i64.wrap (n : Int) < 0 ↔ 9223372036854775808 ≤ n := by rw [IntKind.wrap_i64]; omega
theorem msb_of (x : Int) (h₀ : -9223372036854775808 ≤ x) (h₁ : x ≤ 9223372036854775807) : (BitVec.ofInt 64 x).msb = decide (x < 0) := by
  rw [BitVec.msb_eq_decide, BitVec.toNat_ofInt]
  congr 1
  simp only [eq_iff_iff]
  omega
theorem neg_msb (b : BitVec 64) : IntKind.i64.wrap (b.toNat : Int) < 0 ↔ b.msb = true := by
  rw [wrap_neg b.isLt, BitVec.msb_eq_decide]; simp
theorem toInt_wrap (b : BitVec 64) : IntKind.i64.wrap (b.toNat : Int) = b.toInt := by
  rw [IntKind.wrap_i64, BitVec.toInt_eq_toNat_cond]; have := b.isLt; split <;> omega
/-- the sign test of an addition -/
theorem sign_test (a b h : Int) (ha₀ : -9223372036854775808 ≤ a) (ha₁ : a ≤ 9223372036854775807) (hb₀ : -9223372036854775808 ≤ b) (hb₁ : b ≤ 9223372036854775807) (hh₀ : -9223372036854775808 ≤ h) (hh₁ : h ≤ 9223372036854775807) :
    Go.bits .and .i64 (Go.bits .xor .i64 a h) (Go.bits .xor .i64 b h) < 0 ↔ ((a < 0) ↔ ¬ (h < 0)) ∧ ((b < 0) ↔ ¬ (h < 0)) := by
  show IntKind.i64.wrap (((BitVec.ofInt 64 (IntKind.i64.wrap ((BitVec.ofInt 64 a ^^^ BitVec.ofInt 64 h).toNat : Int))) &&& (BitVec.ofInt 64 (IntKind.i64.wrap ((BitVec.ofInt 64 b ^^^ BitVec.ofInt 64 h).toNat : Int)))).toNat : Int) < 0 ↔ _
  rw [neg_msb, BitVec.msb_and, toInt_wrap, toInt_wrap, BitVec.ofInt_toInt, BitVec.ofInt_toInt, BitVec.msb_xor, BitVec.msb_xor, msb_of a ha₀ ha₁, msb_of b hb₀ hb₁, msb_of h hh₀ hh₁]
  by_cases p : a < 0 <;> by_cases q : b < 0 <;> by_cases r : h < 0 <;> simp [p, q, r]
theorem prod4 (x y : Int) : x * y = (x / 4294967296) * (y / 4294967296) * 18446744073709551616 + ((x / 4294967296) * (y % 4294967296) + (x % 4294967296) * (y / 4294967296)) * 4294967296 + (x % 4294967296) * (y % 4294967296) := by
  have hx : x = 4294967296 * (x / 4294967296) + x % 4294967296 := by omega
  have hy : y = 4294967296 * (y / 4294967296) + y % 4294967296 := by omega
  generalize x / 4294967296 = a at *
  generalize x % 4294967296 = b at *
  generalize y / 4294967296 = c at *
  generalize y % 4294967296 = d at *
  subst hx hy
  grind
theorem mul_bd {a b m n : Int} (ha : 0 ≤ a) (ha' : a ≤ m) (hb : 0 ≤ b) (hb' : b ≤ n) : 0 ≤ a * b ∧ a * b ≤ m * n :=
  ⟨Int.mul_nonneg ha hb, Int.mul_le_mul ha' hb' hb (Int.le_trans ha ha')⟩
theorem times_hi (x y : Int) (hx : 0 ≤ x) (hx' : x < 18446744073709551616) (hy : 0 ≤ y) (hy' : y < 18446744073709551616) :
    (((x / 4294967296) * (y / 4294967296) % 18446744073709551616 + (((x / 4294967296) * (y % 4294967296) % 18446744073709551616 + ((x % 4294967296) * (y % 4294967296) % 18446744073709551616) / 4294967296) % 18446744073709551616) / 4294967296) % 18446744073709551616 + (((x % 4294967296) * (y / 4294967296) % 18446744073709551616 + (((x / 4294967296) * (y % 4294967296) % 18446744073709551616 + ((x % 4294967296) * (y % 4294967296) % 18446744073709551616) / 4294967296) % 18446744073709551616) % 4294967296) % 18446744073709551616) / 4294967296) % 18446744073709551616 = x * y / 18446744073709551616 := by
  rw [prod4 x y]
  have a1 : 0 ≤ x / 4294967296 ∧ x / 4294967296 ≤ 4294967295 := by omega
  have a2 : 0 ≤ y / 4294967296 ∧ y / 4294967296 ≤ 4294967295 := by omega
  have a3 : 0 ≤ x % 4294967296 ∧ x % 4294967296 ≤ 4294967295 := by omega
  have a4 : 0 ≤ y % 4294967296 ∧ y % 4294967296 ≤ 4294967295 := by omega
  have b1 := mul_bd a1.1 a1.2 a2.1 a2.2
  have b2 := mul_bd a1.1 a1.2 a4.1 a4.2
  have b3 := mul_bd a3.1 a3.2 a2.1 a2.2
  have b4 := mul_bd a3.1 a3.2 a4.1 a4.2
  generalize (x / 4294967296) * (y / 4294967296) = p at *
  generalize (x / 4294967296) * (y % 4294967296) = q at *
  generalize (x % 4294967296) * (y / 4294967296) = r at *
  generalize (x % 4294967296) * (y % 4294967296) = s at *
  clear a1 a2 a3 a4 hx hx' hy hy'
  simp only [Int.reduceMul] at b1 b2 b3 b4
  have e1 : p % 18446744073709551616 = p := by omega
  have e2 : q % 18446744073709551616 = q := by omega
  have e3 : r % 18446744073709551616 = r := by omega
  have e4 : s % 18446744073709551616 = s := by omega
  rw [e1, e2, e3, e4]
  have e5 : (q + s / 4294967296) % 18446744073709551616 = q + s / 4294967296 := by omega
  rw [e5]
  omega
theorem lo32m (z : Int) : Go.bits .and .u64 (z % 18446744073709551616) 4294967295 = z % 18446744073709551616 % 4294967296 := lo32 (by omega) (by omega)
theorem lo1 {x : Int} (h₀ : 0 ≤ x) (h₁ : x < 18446744073709551616) : Go.bits .and .u64 x 1 = x % 2 := bits_mask .u64 64 (by decide) wraps_u64 1 (by decide) x h₀ (by omega)
theorem times_hi2 (x y : Int) (hx : 0 ≤ x) (hx' : x < 18446744073709551616) (hy : 0 ≤ y) (hy' : y < 18446744073709551616) :
    (((x / 4294967296) * (y / 4294967296) % 18446744073709551616 + (((x / 4294967296) * (y % 4294967296) % 18446744073709551616 + ((x % 4294967296) * (y % 4294967296) % 18446744073709551616) / 4294967296) % 18446744073709551616) / 4294967296) % 18446744073709551616 + (((((x / 4294967296) * (y % 4294967296) % 18446744073709551616 + ((x % 4294967296) * (y % 4294967296) % 18446744073709551616) / 4294967296) % 18446744073709551616) % 4294967296 + (x % 4294967296) * (y / 4294967296) % 18446744073709551616) % 18446744073709551616) / 4294967296) % 18446744073709551616 = x * y / 18446744073709551616 := by
  rw [← times_hi x y hx hx' hy hy', Int.add_comm ((((x / 4294967296) * (y % 4294967296) % 18446744073709551616 + ((x % 4294967296) * (y % 4294967296) % 18446744073709551616) / 4294967296) % 18446744073709551616) % 4294967296)]
/-- A number of 64 bits as a wide one. -/
def ofN (n : Int) : Int × Int := (n / 9223372036854775808, n % 18446744073709551616)
/-- The number that two halves stand for, and its halves. -/
def ofV (v : Int) : Int × Int := (v / 18446744073709551616, v % 18446744073709551616)
/-- The negative, modulo 2^128. -/
def neg (h l : Int) : Int × Int := if l = 0 then (wrap64 (-h), 0) else (-1 - h, 18446744073709551616 - l)
def plusW (h1 l1 h2 l2 : Int) : Int × Int := (wrap64 (h1 + h2 + (l1 + l2) / 18446744073709551616), (l1 + l2) % 18446744073709551616)
def I64 (n : Int) : Prop := -9223372036854775808 ≤ n ∧ n ≤ 9223372036854775807
def U64 (n : Int) : Prop := 0 ≤ n ∧ n < 18446744073709551616
theorem wrapI (n : Int) : I64 (wrap64 n) := by unfold I64 wrap64; omega
theorem modU (n : Int) : U64 (n % 18446744073709551616) := by unfold U64; omega
theorem neg_ofV (p : Int) (h0 : 0 ≤ p) (h1 : p ≤ 85070591730234615865843651857942052864) : neg (p / 18446744073709551616) (p % 18446744073709551616) = ofV (-p) := by
  unfold neg ofV wrap64
  split <;> simp only [Prod.mk.injEq] <;> omega
theorem prod_bd {a b : Int} (ha : I64 a) (hb : I64 b) (ha' : 0 ≤ a) (hb' : 0 ≤ b) : 0 ≤ a * b ∧ a * b ≤ 85070591730234615865843651857942052864 := by
  have h := mul_bd ha' (show a ≤ 9223372036854775808 by have := ha.2; omega) hb' (show b ≤ 9223372036854775808 by have := hb.2; omega)
  simpa using h
/-- The number of two halves. -/
def val (h l : Int) : Int := h * 18446744073709551616 + l
theorem pe {α β : Type} (p : α × β) : (p.1, p.2) = p := rfl
/-- the decimal text of a number -/
def dec (n : Int) : ByteArray := ⟨(Go.Lib.itoa n).toArray⟩
theorem fmt_is {n : Int} (hn : I64 n) : strconv_FormatInt.f n 10 = some (dec n) := by
  unfold strconv_FormatInt.f
  rw [if_pos ⟨hn.1, hn.2, rfl⟩]
  rfl
/-- the digits of a number as whole numbers; none for 0 -/
def dz (u : Nat) : List Int := if u = 0 then [] else (Go.Lib.decDigits u).map fun b => (b.toNat : Int)
theorem dz_step {u : Nat} (h : u ≠ 0) : dz u = dz (u / 10) ++ [((48 + u % 10 : Nat) : Int)] := by
  unfold dz
  rw [if_neg h]
  by_cases c : u < 10
  · rw [Go.Lib.decDigits_one c, if_pos (show u / 10 = 0 by omega)]
    have e : (UInt8.ofNat (48 + u)).toNat = 48 + u := by simp; omega
    simp only [List.map_cons, List.map_nil, List.nil_append, e]
    rw [show u % 10 = u by omega]
  · rw [Go.Lib.decDigits, dif_neg c, if_neg (show ¬ u / 10 = 0 by omega)]
    have e : (UInt8.ofNat (48 + u % 10)).toNat = 48 + u % 10 := by simp; omega
    simp only [List.map_append, List.map_cons, List.map_nil, e]
theorem dz_len {u : Nat} (h : u ≠ 0) : (dz u).length = Go.Lib.nDigits u := by
  unfold dz
  rw [if_neg h, List.length_map, Go.Lib.decDigits_length]
theorem dz_str {u : Nat} (h : u ≠ 0) : Go.strOfNums (dz u) = ⟨(Go.Lib.decDigits u).toArray⟩ := by
  unfold dz Go.strOfNums
  rw [if_neg h, List.map_map]
  congr 2
  conv => rhs; rw [← List.map_id (Go.Lib.decDigits u)]
  apply List.map_congr_left
  intro b _
  simp
theorem nDigits_le (u : Nat) : ∀ m, u < 10 ^ m → Go.Lib.nDigits u ≤ m + 1 := by
  induction u using Nat.strongRecOn with
  | _ u ih =>
    intro m hm
    by_cases c : u < 10
    · rw [Go.Lib.nDigits_small c]; omega
    · cases m with
      | zero => simp at hm; omega
      | succ m =>
        rw [Go.Lib.nDigits_big c]
        have := ih (u / 10) (by omega) m (by rw [Nat.pow_succ] at hm; omega)
        omega
def fin1 (a : Int) (l : List Int) : Option ByteArray := if (l.length : Int) = 0 then (some (⟨#[48]⟩ : ByteArray)) else (if a < 0 then (if 1 + (Go.strOfNums l).size ≤ 9223372036854775807 then (some ((⟨#[45]⟩ : ByteArray) ++ (Go.strOfNums l))) else (none)) else (some (Go.strOfNums l)))
theorem dec_loop (a : Int) : ∀ (m : Nat) (x : Int) (ds : List Int) (k : Nat), I64 x → x.natAbs < 10 ^ m → m < k → ds.length + m ≤ 1000 → spec_l01Dec.l0 k a ds x = fin1 a (dz x.natAbs ++ ds) := by
  intro m
  induction m with
  | zero =>
    intro x ds k _ hm hk _
    obtain ⟨k, rfl⟩ : ∃ n, k = n + 1 := ⟨k - 1, by omega⟩
    have e : x = 0 := by simp at hm; omega
    subst e
    rw [spec_l01Dec.l0, if_pos rfl]
    rfl
  | succ m ih =>
    intro x ds k hx hm hk hl
    obtain ⟨k, rfl⟩ : ∃ n, k = n + 1 := ⟨k - 1, by omega⟩
    rw [spec_l01Dec.l0]
    by_cases z : x = 0
    · subst z
      rw [if_pos rfl]
      rfl
    · rw [if_neg z, dz_step (show x.natAbs ≠ 0 by omega)]
      obtain ⟨h0, h1⟩ := hx
      have hq : (Int.tdiv x 10).natAbs = x.natAbs / 10 := by rw [Int.natAbs_tdiv]; rfl
      have hqq : wrap64 (Int.tdiv x 10) = Int.tdiv x 10 := by unfold wrap64; omega
      have hr : (Int.tmod x 10).natAbs = x.natAbs % 10 := by rw [Int.natAbs_tmod]; rfl
      have hm' : (Int.tdiv x 10).natAbs < 10 ^ m := by rw [hq]; rw [Nat.pow_succ] at hm; omega
      have go : ∀ d : Int, d = ((48 + x.natAbs % 10 : Nat) : Int) → ((some ([d] : List Int)).bind fun y => if y.length + ds.length < 140737488355328 then spec_l01Dec.l0 k a (y ++ ds) (wrap64 (Int.tdiv x 10)) else none) = fin1 a ((dz (x.natAbs / 10) ++ [((48 + x.natAbs % 10 : Nat) : Int)]) ++ ds) := by
        intro d hd
        rw [Option.bind_some, if_pos (by simp; omega), hqq, ih _ _ k (by unfold I64; omega) hm' (by omega) (by simp; omega), hq, hd, List.append_assoc]
      split
      · exact go _ (by unfold wrap64; omega)
      · exact go _ (by unfold wrap64; omega)
theorem ba_ext {a b : ByteArray} (h : a.data.toList = b.data.toList) : a = b := by
  cases a; cases b; congr 1; exact Array.toList_inj.1 h
theorem fin1_is {a : Int} (ha : I64 a) : fin1 a (dz a.natAbs ++ []) = some (dec a) := by
  unfold fin1 dec
  rw [List.append_nil]
  by_cases z : a = 0
  · subst z
    rw [if_pos (by rfl)]
    congr 2
    unfold Go.Lib.itoa
    rw [if_neg (by omega), Go.Lib.decDigits_one (by decide)]
    rfl
  · have zn : a.natAbs ≠ 0 := by omega
    have hl := dz_len zn
    have hp := Go.Lib.nDigits_pos a.natAbs
    have hle := nDigits_le a.natAbs 20 (by obtain ⟨h0, h1⟩ := ha; omega)
    rw [if_neg (by omega)]
    unfold Go.Lib.itoa
    by_cases s : a < 0
    · rw [if_pos s, if_pos s, if_pos (by rw [Go.strOfNums_size]; omega), dz_str zn]
      congr 1
    · rw [if_neg s, if_neg s, dz_str zn, show a.toNat = a.natAbs by omega]
theorem l01_is {a : Int} (ha : I64 a) (k : Nat) (hk : 21 ≤ k) : spec_l01Dec.f k a = some (dec a) := by
  unfold spec_l01Dec.f
  rw [dec_loop a 20 a [] k ha (by obtain ⟨h0, h1⟩ := ha; omega) (by omega) (by simp), fin1_is ha]
theorem iDec {n : Int} (hn : I64 n) : impl_Decimal.f n = some (dec n) := by unfold impl_Decimal.f; rw [fmt_is hn, Option.bind_some]
theorem FnExactDecimal : laws_FnExactDecimal.Pure := by
  unfold laws_FnExactDecimal.Pure
  intro a ha
  have h := bounds_i64 ha
  refine ⟨21, ?_⟩
  unfold laws_FnExactDecimal.f spec_Decimal.f
  rw [l01_is ⟨h.1, h.2⟩ 21 (by omega), Option.bind_some, Option.bind_some, iDec ⟨h.1, h.2⟩, Option.bind_some, if_pos rfl]
end Go.Proofs.YtcaabdilfnicfaaDoor.Pure
