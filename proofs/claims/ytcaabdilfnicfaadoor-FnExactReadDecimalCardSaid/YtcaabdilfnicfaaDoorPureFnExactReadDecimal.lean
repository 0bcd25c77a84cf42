/- The plain law of FnExactReadDecimal: what the program's function and the reference's compute is the same, for every argument of its kind; no condition. -/
import Derived.Test.YtcaabdilfnicfaaDoorPFnExactReadDecimalx1
import Derived.OpenShut
namespace Go.Proofs.YtcaabdilfnicfaaDoor.Pure
open Go.RowKit Go.Proofs.YtcaabdilfnicfaaDoor.PFnExactReadDecimal Go.Proofs.YtcaabdilfnicfaaDoorW.PrintWords Go.Proofs.YtcaabdilfnicfaaDoorW.PrintLast Go.Proofs.YtcaabdilfnicfaaDoor.Ext
theorem uw (n : Int) : IntKind.u64.wrap n = n % 18446744073709551616 := IntKind.wrap_u64 n
theorem wraps_u64 (n : Int) (h₀ : 0 ≤ n) (h₁ : n < 2 ^ 64) : IntKind.u64.wrap n = n := by rw [uw]; omega
theorem lo32 {x : Int} (h₀ : 0 ≤ x) (h₁ : x < 18446744073709551616) : Go.bits .and .u64 x 4294967295 = x % 4294967296 := bits_mask .u64 64 (by decide) wraps_u64 32 (by decide) x h₀ (by omega)
theorem not64 (x : Int) (h₀ : -9223372036854775808 ≤ x) (h₁ : x ≤ 9223372036854775807) : Go.bits .xor .i64 (-1) x = -1 - x := by
  have e1 : (BitVec.ofInt 64 (-1)) = BitVec.allOnes 64 := by decide
  show IntKind.i64.wrap (((BitVec.ofInt 64 (-1)) ^^^ BitVec.ofInt 64 x).toNat : Int) = _
  rw [e1, BitVec.allOnes_xor, BitVec.toNat_not, BitVec.toNat_ofInt, IntKind.wrap_i64]
  omega
theorem wrap_neg {n : Nat} (h : n < 18446744073709551616) : IntKind.i64.wrap (n : Int) < 0 ↔ 9223372036854775808 ≤ n := by rw [IntKind.wrap_i64]; omega
theorem msb_of (x : Int) (h₀ : -9223372036854775808 ≤ x) (h₁ : x ≤ 9223372036854775807) : (BitVec.ofInt 64 x).msb = decide (x < 0) := by
  rw [BitVec.msb_eq_decide, BitVec.toNat_ofInt]
  congr 1
  simp only [eq_iff_iff]
  omega
theorem neg_msb (b : BitVec 64) : IntKind.i64.wrap (b.toNat : Int) < 0 ↔ b.msb = true := by
  rw [wrap_neg b.isLt, BitVec.msb_eq_decide]; simp
theorem toInt_wrap (b : BitVec 64) : IntKind.i64.wrap (b.toNat : Int) = b.toInt := by
  rw [IntKind.wrap_i64, BitVec.toInt_eq_toNat_cond]; have := b.isLt; split <;> omega
/-- the sign test of an addition -/
theorem sign_test (a b h : Int) (ha₀ : -9223372036854775808 ≤ a) (ha₁ : a ≤ 9223372036854775807) (hb₀ : -9223372036854775808 ≤ b) (hb₁ : b ≤ 9223372036854775807) (hh₀ : -9223372036854775808 ≤ h) (hh₁ : h ≤ 9223372036854775807) :
    Go.bits .and .i64 (Go.bits .xor .i64 a h) (Go.bits .xor .i64 b h) < 0 ↔ ((a < 0) ↔ ¬ (h < 0)) ∧ ((b < 0) ↔ ¬ (h < 0)) := by
  show IntKind.i64.wrap (((BitVec.ofInt 64 (IntKind.i64.wrap ((BitVec.ofInt 64 a ^^^ BitVec.ofInt 64 h).toNat : Int))) &&& (BitVec.ofInt 64 (IntKind.i64.wrap ((BitVec.ofInt 64 b ^^^ BitVec.ofInt 64 h).toNat : Int)))).toNat : Int) < 0 ↔ _
  rw [neg_msb, BitVec.msb_and, toInt_wrap, toInt_wrap, BitVec.ofInt_toInt, BitVec.ofInt_toInt, BitVec.msb_xor, BitVec.msb_xor, msb_of a ha₀ ha₁, msb_of b hb₀ hb₁, msb_of h hh₀ hh₁]
  by_cases p : a < 0 <;> by_cases q : b < 0 <;> by_cases r : h < 0 <;> simp [p, q, r]
theorem prod4 (x y : Int) : x * y = (x / 4294967296) * (y / 4294967296) * 18446744073709551616 + ((x / 4294967296) * (y % 4294967296) + (x % 4294967296) * (y / 4294967296)) * 4294967296 + (x % 4294967296) * (y % 4294967296) := by
  have hx : x = 4294967296 * (x / 4294967296) + x % 4294967296 := by omega
  have hy : y = 4294967296 * (y / 4294967296) + y % 4294967296 := by omega
  generalize x / 4294967296 = a at *
  generalize x % 4294967296 = b at *
  generalize y / 4294967296 = c at *
  generalize y % 4294967296 = d at *
  subst hx hy
  grind
theorem mul_bd {a b m n : Int} (ha : 0 ≤ a) (ha' : a ≤ m) (hb : 0 ≤ b) (hb' : b ≤ n) : 0 ≤ a * b ∧ a * b ≤ m * n :=
  ⟨Int.mul_nonneg ha hb, Int.mul_le_mul ha' hb' hb (Int.le_trans ha ha')⟩
theorem times_hi (x y : Int) (hx : 0 ≤ x) (hx' : x < 18446744073709551616) (hy : 0 ≤ y) (hy' : y < 18446744073709551616) :
    (((x / 4294967296) * (y / 4294967296) % 18446744073709551616 + (((x / 4294967296) * (y % 4294967296) % 18446744073709551616 + ((x % 4294967296) * (y % 4294967296) % 18446744073709551616) / 4294967296) % 18446744073709551616) / 4294967296) % 18446744073709551616 + (((x % 4294967296) * (y / 4294967296) % 18446744073709551616 + (((x / 4294967296) * (y % 4294967296) % 18446744073709551616 + ((x % 4294967296) * (y % 4294967296) % 18446744073709551616) / 4294967296) % 18446744073709551616) % 4294967296) % 18446744073709551616) / 4294967296) % 18446744073709551616 = x * y / 18446744073709551616 := by
  rw [prod4 x y]
  have a1 : 0 ≤ x / 4294967296 ∧ x / 4294967296 ≤ 4294967295 := by omega
  have a2 : 0 ≤ y / 4294967296 ∧ y / 4294967296 ≤ 4294967295 := by omega
  have a3 : 0 ≤ x % 4294967296 ∧ x % 4294967296 ≤ 4294967295 := by omega
  have a4 : 0 ≤ y % 4294967296 ∧ y % 4294967296 ≤ 4294967295 := by omega
  have b1 := mul_bd a1.1 a1.2 a2.1 a2.2
  have b2 := mul_bd a1.1 a1.2 a4.1 a4.2
  have b3 := mul_bd a3.1 a3.2 a2.1 a2.2
  have b4 := mul_bd a3.1 a3.2 a4.1 a4.2
  generalize (x / 4294967296) * (y / 4294967296) = p at *
  generalize (x / 4294967296) * (y % 4294967296) = q at *
  generalize (x % 4294967296) * (y / 4294967296) = r at *
  generalize (x % 4294967296) * (y % 4294967296) = s at *
  clear a1 a2 a3 a4 hx hx' hy hy'
  simp only [Int.reduceMul] at b1 b2 b3 b4
  have e1 : p % 18446744073709551616 = p := by omega
  have e2 : q % 18446744073709551616 = q := by omega
  have e3 : r % 18446744073709551616 = r := by omega
  have e4 : s % 18446744073709551616 = s := by omega
  rw [e1, e2, e3, e4]
  have e5 : (q + s / 4294967296) % 18446744073709551616 = q + s / 4294967296 := by omega
  rw [e5]
  omega
theorem lo32m (z : Int) : Go.bits .and .u64 (z % 18446744073709551616) 4294967295 = z % 18446744073709551616 % 4294967296 := lo32 (by omega) (by omega)
theorem lo1 {x : Int} (h₀ : 0 ≤ x) (h₁ : x < 18446744073709551616) : Go.bits .and .u64 x 1 = x % 2 := bits_mask .u64 64 (by decide) wraps_u64 1 (by decide) x h₀ (by omega)
theorem times_hi2 (x y : Int) (hx : 0 ≤ x) (hx' : x < 18446744073709551616) (hy : 0 ≤ y) (hy' : y < 18446744073709551616) :
    (((x / 4294967296) * (y / 4294967296) % 18446744073709551616 + (((x / 4294967296) * (y % 4294967296) % 18446744073709551616 + ((x % 4294967296) * (y % 4294967296) % 18446744073709551616) / 4294967296) % 18446744073709551616) / 4294967296) % 18446744073709551616 + (((((x / 4294967296) * (y % 4294967296) % 18446744073709551616 + ((x % 4294967296) * (y % 4294967296) % 18446744073709551616) / 4294967296) % 18446744073709551616) % 4294967296 + (x % 4294967296) * (y / 4294967296) % 18446744073709551616) % 18446744073709551616) / 4294967296) % 18446744073709551616 = x * y / 18446744073709551616 := by
  rw [← times_hi x y hx hx' hy hy', Int.add_comm ((((x / 4294967296) * (y % 4294967296) % 18446744073709551616 + ((x % 4294967296) * (y % 4294967296) % 18446744073709551616) / 4294967296) % 18446744073709551616) % 4294967296)]
/-- A number of 64 bits as a wide one. -/
def ofN (n : Int) : Int × Int := (n / 9223372036854775808, n % 18446744073709551616)
/-- The number that two halves stand for, and its halves. -/
def ofV (v : Int) : Int × Int := (v / 18446744073709551616, v % 18446744073709551616)
/-- The negative, modulo 2^128. -/
def neg (h l : Int) : Int × Int := if l = 0 then (wrap64 (-h), 0) else (-1 - h, 18446744073709551616 - l)
def plusW (h1 l1 h2 l2 : Int) : Int × Int := (wrap64 (h1 + h2 + (l1 + l2) / 18446744073709551616), (l1 + l2) % 18446744073709551616)
def I64 (n : Int) : Prop := -9223372036854775808 ≤ n ∧ n ≤ 9223372036854775807
def U64 (n : Int) : Prop := 0 ≤ n ∧ n < 18446744073709551616
theorem wrapI (n : Int) : I64 (wrap64 n) := by unfold I64 wrap64; omega
theorem modU (n : Int) : U64 (n % 18446744073709551616) := by unfold U64; omega
theorem neg_ofV (p : Int) (h0 : 0 ≤ p) (h1 : p ≤ 85070591730234615865843651857942052864) : neg (p / 18446744073709551616) (p % 18446744073709551616) = ofV (-p) := by
  unfold neg ofV wrap64
  split <;> simp only [Prod.mk.injEq] <;> omega
theorem prod_bd {a b : Int} (ha : I64 a) (hb : I64 b) (ha' : 0 ≤ a) (hb' : 0 ≤ b) : 0 ≤ a * b ∧ a * b ≤ 85070591730234615865843651857942052864 := by
  have h := mul_bd ha' (show a ≤ 9223372036854775808 by have := ha.2; omega) hb' (show b ≤ 9223372036854775808 by have := hb.2; omega)
  simpa using h
/-- The number of two halves. -/
def val (h l : Int) : Int := h * 18446744073709551616 + l
theorem pe {α β : Type} (p : α × β) : (p.1, p.2) = p := rfl
/-- the decimal text of a number -/
def dec (n : Int) : ByteArray := ⟨(Go.Lib.itoa n).toArray⟩
theorem fmt_is {n : Int} (hn : I64 n) : strconv_FormatInt.f n 10 = some (dec n) := by
  unfold strconv_FormatInt.f
  rw [if_pos ⟨hn.1, hn.2, rfl⟩]
  rfl
/-- the digits of a number as whole numbers; none for 0 -/
def dz (u : Nat) : List Int := if u = 0 then [] else (Go.Lib.decDigits u).map fun b => (b.toNat : Int)
theorem dz_step {u : Nat} (h : u ≠ 0) : dz u = dz (u / 10) ++ [((48 + u % 10 : Nat) : Int)] := by
  unfold dz
  rw [if_neg h]
  by_cases c : u < 10
  · rw [Go.Lib.decDigits_one c, if_pos (show u / 10 = 0 by omega)]
    have e : (UInt8.ofNat (48 + u)).toNat = 48 + u := by simp; omega
    simp only [List.map_cons, List.map_nil, List.nil_append, e]
    rw [show u % 10 = u by omega]
  · rw [Go.Lib.decDigits, dif_neg c, if_neg (show ¬ u / 10 = 0 by omega)]
    have e : (UInt8.ofNat (48 + u % 10)).toNat = 48 + u % 10 := by simp; omega
    simp only [List.map_append, List.map_cons, List.map_nil, e]
theorem dz_len {u : Nat} (h : u ≠ 0) : (dz u).length = Go.Lib.nDigits u := by
  unfold dz
  rw [if_neg h, List.length_map, Go.Lib.decDigits_length]
theorem dz_str {u : Nat} (h : u ≠ 0) : Go.strOfNums (dz u) = ⟨(Go.Lib.decDigits u).toArray⟩ := by
  unfold dz Go.strOfNums
  rw [if_neg h, List.map_map]
  congr 2
  conv => rhs; rw [← List.map_id (Go.Lib.decDigits u)]
  apply List.map_congr_left
  intro b _
  simp
theorem nDigits_le (u : Nat) : ∀ m, u < 10 ^ m → Go.Lib.nDigits u ≤ m + 1 := by
  induction u using Nat.strongRecOn with
  | _ u ih =>
    intro m hm
    by_cases c : u < 10
    · rw [Go.Lib.nDigits_small c]; omega
    · cases m with
      | zero => simp at hm; omega
      | succ m =>
        rw [Go.Lib.nDigits_big c]
        have := ih (u / 10) (by omega) m (by rw [Nat.pow_succ] at hm; omega)
        omega
def fin1 (a : Int) (l : List Int) : Option ByteArray := if (l.length : Int) = 0 then (some (⟨#[48]⟩ : ByteArray)) else (if a < 0 then (if 1 + (Go.strOfNums l).size ≤ 9223372036854775807 then (some ((⟨#[45]⟩ : ByteArray) ++ (Go.strOfNums l))) else (none)) else (some (Go.strOfNums l)))
theorem dec_loop (a : Int) : ∀ (m : Nat) (x : Int) (ds : List Int) (k : Nat), I64 x → x.natAbs < 10 ^ m → m < k → ds.length + m ≤ 1000 → spec_l01Dec.l0 k a ds x = fin1 a (dz x.natAbs ++ ds) := by
  intro m
  induction m with
  | zero =>
    intro x ds k _ hm hk _
    obtain ⟨k, rfl⟩ : ∃ n, k = n + 1 := ⟨k - 1, by omega⟩
    have e : x = 0 := by simp at hm; omega
    subst e
    rw [spec_l01Dec.l0, if_pos rfl]
    rfl
  | succ m ih =>
    intro x ds k hx hm hk hl
    obtain ⟨k, rfl⟩ : ∃ n, k = n + 1 := ⟨k - 1, by omega⟩
    rw [spec_l01Dec.l0]
    by_cases z : x = 0
    · subst z
      rw [if_pos rfl]
      rfl
    · rw [if_neg z, dz_step (show x.natAbs ≠ 0 by omega)]
      obtain ⟨h0, h1⟩ := hx
      have hq : (Int.tdiv x 10).natAbs = x.natAbs / 10 := by rw [Int.natAbs_tdiv]; rfl
      have hqq : wrap64 (Int.tdiv x 10) = Int.tdiv x 10 := by unfold wrap64; omega
      have hr : (Int.tmod x 10).natAbs = x.natAbs % 10 := by rw [Int.natAbs_tmod]; rfl
      have hm' : (Int.tdiv x 10).natAbs < 10 ^ m := by rw [hq]; rw [Nat.pow_succ] at hm; omega
      have go : ∀ d : Int, d = ((48 + x.natAbs % 10 : Nat) : Int) → ((some ([d] : List Int)).bind fun y => if y.length + ds.length < 140737488355328 then spec_l01Dec.l0 k a (y ++ ds) (wrap64 (Int.tdiv x 10)) else none) = fin1 a ((dz (x.natAbs / 10) ++ [((48 + x.natAbs % 10 : Nat) : Int)]) ++ ds) := by
        intro d hd
        rw [Option.bind_some, if_pos (by simp; omega), hqq, ih _ _ k (by unfold I64; omega) hm' (by omega) (by simp; omega), hq, hd, List.append_assoc]
      split
      · exact go _ (by unfold wrap64; omega)
      · exact go _ (by unfold wrap64; omega)
theorem ba_ext {a b : ByteArray} (h : a.data.toList = b.data.toList) : a = b := by
  cases a; cases b; congr 1; exact Array.toList_inj.1 h
theorem fin1_is {a : Int} (ha : I64 a) : fin1 a (dz a.natAbs ++ []) = some (dec a) := by
  unfold fin1 dec
  rw [List.append_nil]
  by_cases z : a = 0
  · subst z
    rw [if_pos (by rfl)]
    congr 2
    unfold Go.Lib.itoa
    rw [if_neg (by omega), Go.Lib.decDigits_one (by decide)]
    rfl
  · have zn : a.natAbs ≠ 0 := by omega
    have hl := dz_len zn
    have hp := Go.Lib.nDigits_pos a.natAbs
    have hle := nDigits_le a.natAbs 20 (by obtain ⟨h0, h1⟩ := ha; omega)
    rw [if_neg (by omega)]
    unfold Go.Lib.itoa
    by_cases s : a < 0
    · rw [if_pos s, if_pos s, if_pos (by rw [Go.strOfNums_size]; omega), dz_str zn]
      congr 1
    · rw [if_neg s, if_neg s, dz_str zn, show a.toNat = a.natAbs by omega]
theorem l01_is {a : Int} (ha : I64 a) (k : Nat) (hk : 21 ≤ k) : spec_l01Dec.f k a = some (dec a) := by
  unfold spec_l01Dec.f
  rw [dec_loop a 20 a [] k ha (by obtain ⟨h0, h1⟩ := ha; omega) (by omega) (by simp), fin1_is ha]
theorem iDec {n : Int} (hn : I64 n) : impl_Decimal.f n = some (dec n) := by unfold impl_Decimal.f; rw [fmt_is hn, Option.bind_some]
theorem nDigits_lt (u : Nat) : ∀ m, 1 ≤ m → u < 10 ^ m → Go.Lib.nDigits u ≤ m := by
  induction u using Nat.strongRecOn with
  | _ u ih =>
    intro m h1 hm
    by_cases c : u < 10
    · rw [Go.Lib.nDigits_small c]; omega
    · rw [Go.Lib.nDigits_big c]
      obtain ⟨m, rfl⟩ : ∃ n, m = n + 1 := ⟨m - 1, by omega⟩
      cases m with
      | zero => simp at hm; omega
      | succ m =>
        have := ih (u / 10) (by omega) (m + 1) (by omega) (by rw [Nat.pow_succ] at hm; omega)
        omega
def dgB (c : UInt8) : Bool := decide (48 ≤ c.toNat) && decide (c.toNat ≤ 57)
theorem dgB_iff {c : UInt8} : dgB c = true ↔ 48 ≤ c.toNat ∧ c.toNat ≤ 57 := by simp [dgB]
/-- a text without its minus sign; what its digits spell -/
def tl (l : List UInt8) : List UInt8 := if l.head? = some 45 then l.drop 1 else l
def valN (acc : Nat) (l : List UInt8) : Nat := l.foldl (fun a c => a * 10 + (c.toNat - 48)) acc
theorem valN_cons (acc : Nat) (c : UInt8) (r : List UInt8) : valN acc (c :: r) = valN (acc * 10 + (c.toNat - 48)) r := by unfold valN; rw [List.foldl_cons]
theorem small_i {n m : Nat} (h : n < 10 ^ m) (hm : m ≤ 18) : n < 1000000000000000000 := by
  have p : 10 ^ m ≤ 10 ^ 18 := Nat.pow_le_pow_right (by omega) hm
  have q : (10 : Nat) ^ 18 = 1000000000000000000 := by decide
  rw [q] at p
  exact Nat.lt_of_lt_of_le h p
theorem small_j {n m : Nat} (h : n < 10 ^ m) (hm : m ≤ 17) : n < 100000000000000000 := by
  have p : 10 ^ m ≤ 10 ^ 17 := Nat.pow_le_pow_right (by omega) hm
  have q : (10 : Nat) ^ 17 = 100000000000000000 := by decide
  rw [q] at p
  exact Nat.lt_of_lt_of_le h p
theorem pz (M acc : Nat) : Go.Lib.parseUintM M acc [] = .ok acc := by rw [Go.Lib.parseUintM]
theorem valN_nil (acc : Nat) : valN acc [] = acc := by unfold valN; rw [List.foldl_nil]
theorem parse_is : ∀ (t : List UInt8) (acc m : Nat), t.all dgB = true → acc < 10 ^ m → t.length + m ≤ 18 → Go.Lib.parseUintM 18446744073709551615 acc t = .ok (valN acc t) ∧ valN acc t < 10 ^ (t.length + m)
  | [], acc, m, _, h1, _ => ⟨by rw [pz, valN_nil], by rw [valN_nil, List.length_nil, Nat.zero_add]; exact h1⟩
  | c :: r, acc, m, ha, h1, h2 => by
    rw [List.all_cons, Bool.and_eq_true] at ha
    obtain ⟨hc, hr⟩ := ha
    rw [dgB_iff] at hc
    rw [List.length_cons] at h2
    have hp := small_j h1 (by omega)
    have hb : acc * 10 + (c.toNat - 48) < 10 ^ (m + 1) := by
      rw [Nat.pow_succ]
      generalize 10 ^ m = z at *
      omega
    obtain ⟨e1, e2⟩ := parse_is r (acc * 10 + (c.toNat - 48)) (m + 1) hr hb (by omega)
    refine ⟨?_, ?_⟩
    · rw [Go.Lib.parseUintM, if_pos hc, if_neg (by omega), if_neg (by omega), e1, valN_cons]
    · rw [valN_cons, List.length_cons, show r.length + 1 + m = r.length + (m + 1) by omega]
      exact e2
/-- what both give -/
def RD (s : ByteArray) : Int × Bool := if 1 ≤ (tl s.data.toList).length ∧ (tl s.data.toList).length ≤ 18 ∧ (tl s.data.toList).all dgB = true then (if dec (if s.data.toList.head? = some 45 then -(valN 0 (tl s.data.toList) : Int) else (valN 0 (tl s.data.toList) : Int)) = s then ((if s.data.toList.head? = some 45 then -(valN 0 (tl s.data.toList) : Int) else (valN 0 (tl s.data.toList) : Int)), true) else (0, false)) else (0, false)
theorem bt_get {s : ByteArray} {i : Nat} (h : i < s.data.toList.length) : bt s (i : Int) = ((s.data.toList[i]'h).toNat : Int) := by
  unfold bt
  rw [dif_pos (show (i : Int).toNat < s.size from h)]
  rfl
theorem digit_is (b : UInt8) : spec_l01Digit.f (b.toNat : Int) = some (dgB b) := by
  unfold spec_l01Digit.f dgB
  by_cases c : 48 ≤ b.toNat
  · rw [if_pos (by omega), decide_eq_true c, Bool.true_and]
    congr 1
    rw [decide_eq_decide]; omega
  · rw [if_neg (by omega), decide_eq_false c]; rfl
theorem ba_eq {a b : ByteArray} : a.toList = b.toList ↔ a = b := by
  rw [ByteArray.toList_eq, ByteArray.toList_eq]
  exact ⟨ba_ext, fun h => by rw [h]⟩
theorem num_loop (s t : ByteArray) (ht : t.data.toList.length ≤ 18) : ∀ (n i acc k : Nat), t.data.toList.length - i = n → i ≤ t.data.toList.length → acc < 10 ^ i → n + 22 < k →
    spec_l01Number.l0 k s t (acc : Int) (i : Int) = some (if (t.data.toList.drop i).all dgB = true then (if dec (if t.size < s.size then -(valN acc (t.data.toList.drop i) : Int) else (valN acc (t.data.toList.drop i) : Int)) = s then ((if t.size < s.size then -(valN acc (t.data.toList.drop i) : Int) else (valN acc (t.data.toList.drop i) : Int)), true) else (0, false)) else (0, false)) := by
  intro n
  have es : t.size = t.data.toList.length := rfl
  induction n with
  | zero =>
    intro i acc k hn hi ha hk
    obtain ⟨k, rfl⟩ : ∃ m, k = m + 1 := ⟨k - 1, by omega⟩
    have hb := small_i ha (by omega)
    rw [spec_l01Number.l0, if_neg (by omega), List.drop_eq_nil_of_le (by omega), show ([] : List UInt8).all dgB = true from rfl, if_pos rfl]
    rw [valN_nil]
    by_cases c : t.size < s.size
    · rw [if_pos (by omega), if_pos c, show wrap64 (-(acc : Int)) = -(acc : Int) by unfold wrap64; omega, l01_is ⟨by omega, by omega⟩ k (by omega), Option.bind_some]
      by_cases d : dec (-(acc : Int)) = s
      · rw [if_pos (ba_eq.2 d), if_pos d]
      · rw [if_neg (fun h => d (ba_eq.1 h)), if_neg d]
    · rw [if_neg (by omega), if_neg c, l01_is ⟨by omega, by omega⟩ k (by omega), Option.bind_some]
      by_cases d : dec (acc : Int) = s
      · rw [if_pos (ba_eq.2 d), if_pos d]
      · rw [if_neg (fun h => d (ba_eq.1 h)), if_neg d]
  | succ n ih =>
    intro i acc k hn hi ha hk
    obtain ⟨k, rfl⟩ : ∃ m, k = m + 1 := ⟨k - 1, by omega⟩
    have hl : i < t.data.toList.length := by omega
    have hb := small_j ha (by omega)
    rw [spec_l01Number.l0, if_pos (by omega), if_pos (by omega), bt_get hl, digit_is, Option.bind_some, List.drop_eq_getElem_cons hl, List.all_cons]
    generalize t.data.toList[i]'hl = x at *
    by_cases c : dgB x = true
    · have hc := dgB_iff.1 c
      obtain ⟨d, hd⟩ : ∃ d : Nat, x.toNat = 48 + d := ⟨x.toNat - 48, by omega⟩
      have hw : wrap64 (wrap64 (10 * (acc : Int)) + ((x.toNat : Int) - 48) % 256) = ((acc * 10 + (x.toNat - 48) : Nat) : Int) := by
        rw [hd, show ((48 + d : Nat) : Int) - 48 = (d : Int) by omega, show (d : Int) % 256 = d by omega, show wrap64 (10 * (acc : Int)) = 10 * (acc : Int) by unfold wrap64; omega, show 48 + d - 48 = d by omega]
        unfold wrap64
        omega
      rw [if_pos c, hw, show wrap64 ((i : Int) + 1) = ((i + 1 : Nat) : Int) by unfold wrap64; omega, ih (i + 1) _ k (by omega) (by omega) (by rw [Nat.pow_succ]; omega) (by omega), c, Bool.true_and, valN_cons]
    · rw [if_neg c, Bool.eq_false_iff.2 c, Bool.false_and, if_neg (by simp)]
theorem extract_tail (s : ByteArray) : (s.extract 1 s.size).data.toList = s.data.toList.drop 1 := by
  rw [ByteArray.data_extract, Array.toList_extract]
  show (s.data.toList.drop 1).take (s.size - 1) = _
  rw [List.take_of_length_le]
  rw [List.length_drop]
  exact Nat.le_refl _
theorem sRead (s : ByteArray) (hs : s.size ≤ 140737488351232) (k : Nat) (hk : 45 ≤ k) : spec_l01Number.f k s = some (RD s) := by
  have es : s.size = s.data.toList.length := rfl
  have j1 : ∀ (t : ByteArray) (k : Nat), 43 ≤ k → t.data.toList = tl s.data.toList → (t.size < s.size ↔ s.data.toList.head? = some 45) → spec_l01Number.j1 k s t = some (RD s) := by
    intro t k hk ht hsz
    obtain ⟨k, rfl⟩ : ∃ m, k = m + 1 + 1 := ⟨k - 2, by omega⟩
    have et : t.size = (tl s.data.toList).length := by rw [← ht]; rfl
    unfold RD
    rw [spec_l01Number.j1]
    by_cases c : t.size < 1
    · rw [if_pos (by omega), spec_l01Number.j2, if_pos rfl, if_neg (by omega)]
    · rw [if_neg (by omega), spec_l01Number.j2]
      by_cases d : t.size ≤ 18
      · have e := num_loop s t (by rw [ht]; omega) t.data.toList.length 0 0 k (by omega) (by omega) (by decide) (by rw [ht]; omega)
        rw [List.drop_zero, show ((0 : Nat) : Int) = 0 from rfl, ht] at e
        rw [decide_eq_false (by omega), if_neg (by simp), e]
        by_cases a : (tl s.data.toList).all dgB = true
        · have g : 1 ≤ (tl s.data.toList).length ∧ (tl s.data.toList).length ≤ 18 ∧ (tl s.data.toList).all dgB = true := ⟨by omega, by omega, a⟩
          rw [if_pos a, if_pos g]
          by_cases h : s.data.toList.head? = some 45
          · rw [if_pos (hsz.2 h), if_pos h]
          · rw [if_neg (fun x => h (hsz.1 x)), if_neg h]
        · rw [if_neg a, if_neg (fun x => a x.2.2)]
      · rw [decide_eq_true (by omega), if_pos rfl, if_neg (by omega)]
  obtain ⟨k, rfl⟩ : ∃ m, k = m + 1 := ⟨k - 1, by omega⟩
  unfold spec_l01Number.f
  rw [ByteArray.toList_eq]
  by_cases z : s.data.toList = []
  · rw [if_pos z, spec_l01Number.j0, if_neg (by simp)]
    exact j1 s k (by omega) (by unfold tl; rw [z]; rfl) (by rw [z]; simp)
  · have hl : 0 < s.data.toList.length := List.length_pos_iff.2 z
    have e := bt_get hl
    rw [show ((0 : Nat) : Int) = 0 from rfl] at e
    have hh : s.data.toList.head? = some (s.data.toList[0]'hl) := by rw [List.head?_eq_getElem?, List.getElem?_eq_getElem hl]
    rw [if_neg z, if_pos (by omega), e, spec_l01Number.j0]
    by_cases c : s.data.toList[0]'hl = 45
    · have h45 : s.data.toList.head? = some 45 := by rw [hh, c]
      have eb : ((((s.data.toList[0]'hl).toNat : Int)) == 45) = true := by rw [c]; rfl
      rw [eb, if_pos rfl, if_pos (by omega)]
      refine j1 _ k (by omega) (by rw [extract_tail]; unfold tl; rw [if_pos h45]) ⟨fun _ => h45, fun _ => ?_⟩
      have e2 : (s.extract 1 s.size).size = (s.data.toList.drop 1).length := by rw [← extract_tail]; rfl
      rw [e2, List.length_drop]; omega
    · have hn : ¬ s.data.toList.head? = some 45 := by rw [hh]; intro h; exact c (Option.some.inj h)
      have eb : ((((s.data.toList[0]'hl).toNat : Int)) == 45) = false := by
        rw [beq_eq_false_iff_ne]
        intro h
        apply c
        apply UInt8.toNat_inj.1
        have : (45 : UInt8).toNat = 45 := rfl
        omega
      rw [eb, if_neg (by simp)]
      exact j1 s k (by omega) (by unfold tl; rw [if_neg hn]) ⟨fun h => absurd h (by omega), fun h => absurd h hn⟩
theorem dec_list (v : Int) : (dec v).data.toList = Go.Lib.itoa v := rfl
theorem digits_all (u : Nat) : (Go.Lib.decDigits u).all dgB = true := by
  induction u using Nat.strongRecOn with
  | _ u ih =>
    have key : ∀ n : Nat, n < 10 → dgB (UInt8.ofNat (48 + n)) = true := by
      intro n hn
      rw [dgB_iff]
      have : (UInt8.ofNat (48 + n)).toNat = 48 + n := by simp; omega
      omega
    rw [Go.Lib.decDigits.eq_1]
    by_cases c : u < 10
    · rw [dif_pos c, List.all_cons, key u c]; rfl
    · rw [dif_neg c, List.all_append, ih (u / 10) (by omega), List.all_cons, key _ (Nat.mod_lt _ (by decide))]; rfl
theorem digits_head (u : Nat) : (Go.Lib.decDigits u).head? ≠ some 45 := by
  intro h
  have ha := digits_all u
  rw [List.all_eq_true] at ha
  have := ha 45 (List.mem_of_head? h)
  simp [dgB] at this
/-- the text of a number: its digits behind the sign -/
theorem tl_dec (v : Int) : tl (dec v).data.toList = Go.Lib.decDigits v.natAbs := by
  rw [dec_list]
  unfold Go.Lib.itoa tl
  by_cases c : v < 0
  · rw [if_pos c, List.head?_cons, if_pos rfl]; rfl
  · rw [if_neg c, if_neg (digits_head _), show v.toNat = v.natAbs by omega]
theorem trim_is (l : List UInt8) : Go.Lib.trimPrefix l [45] = tl l := by
  unfold Go.Lib.trimPrefix tl Go.Lib.hasPrefix
  cases l with
  | nil => rfl
  | cons c r =>
    by_cases h : c = 45
    · simp [h]
    · have h2 : ¬ (45 : UInt8) = c := fun x => h x.symm
      simp [h, h2]
theorem intB_bd {l : List UInt8} {v : Int} (h : Go.Lib.parseIntB 64 l = .ok v) : I64 v := by
  unfold Go.Lib.parseIntB at h
  cases l with
  | nil => cases h
  | cons c r =>
    simp only [] at h
    split at h
    · cases h
    · cases h
    · rename_i u _
      split at h
      · cases h
      · split at h
        · cases h
        · rename_i h1 h2
          have e := Go.Lib.NumEnd.ok.inj h
          unfold I64
          have p : (2 : Nat) ^ (64 - 1) = 9223372036854775808 := by decide
          by_cases n : c.toNat = 45
          · rw [if_pos n] at e
            have : ¬ 2 ^ (64 - 1) < u := fun x => h2 ⟨n, x⟩
            omega
          · rw [if_neg n] at e
            have : ¬ 2 ^ (64 - 1) ≤ u := fun x => h1 ⟨n, x⟩
            omega
theorem intB_ok {l : List UInt8} (h0 : 1 ≤ (tl l).length) (h1 : (tl l).length ≤ 18) (ha : (tl l).all dgB = true) : Go.Lib.parseIntB 64 l = .ok (if l.head? = some 45 then -(valN 0 (tl l) : Int) else (valN 0 (tl l) : Int)) := by
  obtain ⟨e1, e2⟩ := parse_is (tl l) 0 0 ha (by decide) (by omega)
  have e3 := small_i e2 (by omega)
  have e4 : Go.Lib.parseUintB 64 (tl l) = .ok (valN 0 (tl l)) := by
    unfold Go.Lib.parseUintB
    rw [if_neg (by intro h; rw [h] at h0; simp at h0), show 2 ^ 64 - 1 = 18446744073709551615 by decide, e1]
  cases l with
  | nil => simp [tl] at h0
  | cons c r =>
    have p : (2 : Nat) ^ (64 - 1) = 9223372036854775808 := by decide
    have en : c.toNat = 45 ↔ c = 45 := ⟨fun h => UInt8.toNat_inj.1 (by rw [h]; rfl), fun h => by rw [h]; rfl⟩
    have e5 : (if c.toNat = 43 ∨ c.toNat = 45 then r else c :: r) = tl (c :: r) := by
      unfold tl
      by_cases h : c = 45
      · rw [if_pos (.inr (en.2 h)), if_pos (by rw [List.head?_cons, h])]; rfl
      · have hn : ¬ (c :: r).head? = some 45 := by rw [List.head?_cons]; intro x; exact h (Option.some.inj x)
        have ht : tl (c :: r) = c :: r := by unfold tl; rw [if_neg hn]
        rw [ht, List.all_cons, Bool.and_eq_true, dgB_iff] at ha
        rw [if_neg (by omega), if_neg hn]
    unfold Go.Lib.parseIntB
    simp only []
    rw [e5, e4]
    simp only []
    rw [if_neg (by omega), if_neg (by omega)]
    by_cases h : c = 45
    · rw [if_pos (en.2 h), if_pos (by rw [List.head?_cons, h])]
    · rw [if_neg (fun x => h (en.1 x)), if_neg (by rw [List.head?_cons]; intro x; exact h (Option.some.inj x))]
theorem iRead (s : ByteArray) (hs : s.size ≤ 140737488351232) : impl_ReadDecimal.f s = some (RD s) := by
  unfold impl_ReadDecimal.f strconv_ParseInt.f
  rw [if_pos ⟨by omega, rfl, rfl⟩]
  by_cases g : 1 ≤ (tl s.data.toList).length ∧ (tl s.data.toList).length ≤ 18 ∧ (tl s.data.toList).all dgB = true
  · have e := intB_ok g.1 g.2.1 g.2.2
    have bd := intB_bd e
    rw [e, Option.bind_some]
    simp -implicitDefEqProofs only []
    unfold RD
    rw [if_pos g, show (none : Option Int).isNone = true from rfl, if_pos rfl, iDec bd, Option.bind_some]
    generalize (if s.data.toList.head? = some 45 then -(valN 0 (tl s.data.toList) : Int) else (valN 0 (tl s.data.toList) : Int)) = v at *
    by_cases d : dec v = s
    · unfold strings_TrimPrefix.f
      have et : ((⟨(Go.Lib.trimPrefix s.data.toList (⟨#[45]⟩ : ByteArray).data.toList).toArray⟩ : ByteArray)).size = (tl s.data.toList).length := by
        rw [← trim_is]; rfl
      rw [if_pos (ba_eq.2 d), if_pos d, Option.bind_some, if_neg (by rw [et]; omega)]
    · rw [if_neg (fun h => d (ba_eq.1 h)), if_neg d]
  · unfold RD
    rw [if_neg g]
    cases e : Go.Lib.parseIntB 64 s.data.toList with
    | ok v =>
      have bd := intB_bd e
      simp -implicitDefEqProofs only []
      rw [Option.bind_some]
      simp -implicitDefEqProofs only []
      rw [show (none : Option Int).isNone = true from rfl, if_pos rfl, iDec bd, Option.bind_some]
      by_cases d : dec v = s
      · unfold strings_TrimPrefix.f
        have et : ((⟨(Go.Lib.trimPrefix s.data.toList (⟨#[45]⟩ : ByteArray).data.toList).toArray⟩ : ByteArray)).size = (tl s.data.toList).length := by
          rw [← trim_is]; rfl
        have ed : tl s.data.toList = Go.Lib.decDigits v.natAbs := by rw [← d]; exact tl_dec v
        have hp := Go.Lib.nDigits_pos v.natAbs
        have hl : (tl s.data.toList).length = Go.Lib.nDigits v.natAbs := by rw [ed, Go.Lib.decDigits_length]
        have hx : ¬ (tl s.data.toList).length ≤ 18 := fun h => g ⟨by omega, h, by rw [ed]; exact digits_all _⟩
        rw [if_pos (ba_eq.2 d), Option.bind_some, if_pos (by rw [et]; omega)]
      · rw [if_neg (fun h => d (ba_eq.1 h))]
    | range => rfl
    | _ => rfl
theorem FnExactReadDecimal : laws_FnExactReadDecimal.Pure := by
  unfold laws_FnExactReadDecimal.Pure
  intro s hs
  refine ⟨45, ?_⟩
  unfold laws_FnExactReadDecimal.f spec_ReadDecimal.f
  by_cases c : (s.size : Int) > 1048576
  · rw [if_pos c]
  · rw [if_neg c, sRead s hs 45 (by omega), Option.bind_some, Option.bind_some, iRead s hs, Option.bind_some, if_pos rfl, if_neg (by simp)]
end Go.Proofs.YtcaabdilfnicfaaDoor.Pure
