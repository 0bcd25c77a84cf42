/- The plain law of FnExactSplitWords: what the program's function and the reference's compute is the same, for every argument of its kind; no condition. -/
import Derived.Test.YtcaabdilfnicfaaPFnExactSplitWordsx2
import Derived.OpenShut
import Derived.Lib.ItoaNum
import Derived.Lib.DecodeN
import Derived.Lib.FieldsP
namespace Go.Proofs.Ytcaabdilfnicfaa.Pure
open Go.RowKit Go.Proofs.Ytcaabdilfnicfaa.PFnExactSplitWords Go.Proofs.YtcaabdilfnicfaaW.PrintWords Go.Proofs.YtcaabdilfnicfaaW.PrintLast Go.Proofs.Ytcaabdilfnicfaa.Ext
theorem uw (n : Int) : IntKind.u64.wrap n = n % 18446744073709551616 := IntKind.wrap_u64 n
theorem wraps_u64 (n : Int) (h₀ : 0 ≤ n) (h₁ : n < 2 ^ 64) : IntKind.u64.wrap n = n := by rw [uw]; omega
theorem lo32 {x : Int} (h₀ : 0 ≤ x) (h₁ : x < 18446744073709551616) : Go.bits .and .u64 x 4294967295 = x % 4294967296 := bits_mask .u64 64 (by decide) wraps_u64 32 (by decide) x h₀ (by omega)
theorem not64 (x : Int) (h₀ : -9223372036854775808 ≤ x) (h₁ : x ≤ 9223372036854775807) : Go.bits .xor .i64 (-1) x = -1 - x := by
  have e1 : (BitVec.ofInt 64 (-1)) = BitVec.allOnes 64 := by decide
  show IntKind.i64.wrap (((BitVec.ofInt 64 (-1)) ^^^ BitVec.ofInt 64 x).toNat : Int) = _
  rw [e1, BitVec.allOnes_xor, BitVec.toNat_not, BitVec.toNat_ofInt, IntKind.wrap_i64]
  omega
theorem wrap_neg {n : Nat} (h : n < 18446744073709551616) : IntKind.i64.wrap (n : Int) < 0 ↔ 9223372036854775808 ≤ n := by rw [IntKind.wrap_i64]; omega
theorem msb_of (x : Int) (h₀ : -9223372036854775808 ≤ x) (h₁ : x ≤ 9223372036854775807) : (BitVec.ofInt 64 x).msb = decide (x < 0) := by
  rw [BitVec.msb_eq_decide, BitVec.toNat_ofInt]
  congr 1
  simp only [eq_iff_iff]
  omega
theorem neg_msb (b : BitVec 64) : IntKind.i64.wrap (b.toNat : Int) < 0 ↔ b.msb = true := by
  rw [wrap_neg b.isLt, BitVec.msb_eq_decide]; simp
theorem toInt_wrap (b : BitVec 64) : IntKind.i64.wrap (b.toNat : Int) = b.toInt := by
  rw [IntKind.wrap_i64, BitVec.toInt_eq_toNat_cond]; have := b.isLt; split <;> omega
/-- the sign test of an addition -/
theorem sign_test (a b h : Int) (ha₀ : -9223372036854775808 ≤ a) (ha₁ : a ≤ 9223372036854775807) (hb₀ : -9223372036854775808 ≤ b) (hb₁ : b ≤ 9223372036854775807) (hh₀ : -9223372036854775808 ≤ h) (hh₁ : h ≤ 9223372036854775807) :
    Go.bits .and .i64 (Go.bits .xor .i64 a h) (Go.bits .xor .i64 b h) < 0 ↔ ((a < 0) ↔ ¬ (h < 0)) ∧ ((b < 0) ↔ ¬ (h < 0)) := by
  show IntKind.i64.wrap (((BitVec.ofInt 64 (IntKind.i64.wrap ((BitVec.ofInt 64 a ^^^ BitVec.ofInt 64 h).toNat : Int))) &&& (BitVec.ofInt 64 (IntKind.i64.wrap ((BitVec.ofInt 64 b ^^^ BitVec.ofInt 64 h).toNat : Int)))).toNat : Int) < 0 ↔ _
  rw [neg_msb, BitVec.msb_and, toInt_wrap, toInt_wrap, BitVec.ofInt_toInt, BitVec.ofInt_toInt, BitVec.msb_xor, BitVec.msb_xor, msb_of a ha₀ ha₁, msb_of b hb₀ hb₁, msb_of h hh₀ hh₁]
  by_cases p : a < 0 <;> by_cases q : b < 0 <;> by_cases r : h < 0 <;> simp [p, q, r]
theorem prod4 (x y : Int) : x * y = (x / 4294967296) * (y / 4294967296) * 18446744073709551616 + ((x / 4294967296) * (y % 4294967296) + (x % 4294967296) * (y / 4294967296)) * 4294967296 + (x % 4294967296) * (y % 4294967296) := by
  have hx : x = 4294967296 * (x / 4294967296) + x % 4294967296 := by omega
  have hy : y = 4294967296 * (y / 4294967296) + y % 4294967296 := by omega
  generalize x / 4294967296 = a at *
  generalize x % 4294967296 = b at *
  generalize y / 4294967296 = c at *
  generalize y % 4294967296 = d at *
  subst hx hy
  grind
theorem mul_bd {a b m n : Int} (ha : 0 ≤ a) (ha' : a ≤ m) (hb : 0 ≤ b) (hb' : b ≤ n) : 0 ≤ a * b ∧ a * b ≤ m * n :=
  ⟨Int.mul_nonneg ha hb, Int.mul_le_mul ha' hb' hb (Int.le_trans ha ha')⟩
theorem times_hi (x y : Int) (hx : 0 ≤ x) (hx' : x < 18446744073709551616) (hy : 0 ≤ y) (hy' : y < 18446744073709551616) :
    (((x / 4294967296) * (y / 4294967296) % 18446744073709551616 + (((x / 4294967296) * (y % 4294967296) % 18446744073709551616 + ((x % 4294967296) * (y % 4294967296) % 18446744073709551616) / 4294967296) % 18446744073709551616) / 4294967296) % 18446744073709551616 + (((x % 4294967296) * (y / 4294967296) % 18446744073709551616 + (((x / 4294967296) * (y % 4294967296) % 18446744073709551616 + ((x % 4294967296) * (y % 4294967296) % 18446744073709551616) / 4294967296) % 18446744073709551616) % 4294967296) % 18446744073709551616) / 4294967296) % 18446744073709551616 = x * y / 18446744073709551616 := by
  rw [prod4 x y]
  have a1 : 0 ≤ x / 4294967296 ∧ x / 4294967296 ≤ 4294967295 := by omega
  have a2 : 0 ≤ y / 4294967296 ∧ y / 4294967296 ≤ 4294967295 := by omega
  have a3 : 0 ≤ x % 4294967296 ∧ x % 4294967296 ≤ 4294967295 := by omega
  have a4 : 0 ≤ y % 4294967296 ∧ y % 4294967296 ≤ 4294967295 := by omega
  have b1 := mul_bd a1.1 a1.2 a2.1 a2.2
  have b2 := mul_bd a1.1 a1.2 a4.1 a4.2
  have b3 := mul_bd a3.1 a3.2 a2.1 a2.2
  have b4 := mul_bd a3.1 a3.2 a4.1 a4.2
  generalize (x / 4294967296) * (y / 4294967296) = p at *
  generalize (x / 4294967296) * (y % 4294967296) = q at *
  generalize (x % 4294967296) * (y / 4294967296) = r at *
  generalize (x % 4294967296) * (y % 4294967296) = s at *
  clear a1 a2 a3 a4 hx hx' hy hy'
  simp only [Int.reduceMul] at b1 b2 b3 b4
  have e1 : p % 18446744073709551616 = p := by omega
  have e2 : q % 18446744073709551616 = q := by omega
  have e3 : r % 18446744073709551616 = r := by omega
  have e4 : s % 18446744073709551616 = s := by omega
  rw [e1, e2, e3, e4]
  have e5 : (q + s / 4294967296) % 18446744073709551616 = q + s / 4294967296 := by omega
  rw [e5]
  omega
theorem lo32m (z : Int) : Go.bits .and .u64 (z % 18446744073709551616) 4294967295 = z % 18446744073709551616 % 4294967296 := lo32 (by omega) (by omega)
theorem lo1 {x : Int} (h₀ : 0 ≤ x) (h₁ : x < 18446744073709551616) : Go.bits .and .u64 x 1 = x % 2 := bits_mask .u64 64 (by decide) wraps_u64 1 (by decide) x h₀ (by omega)
theorem times_hi2 (x y : Int) (hx : 0 ≤ x) (hx' : x < 18446744073709551616) (hy : 0 ≤ y) (hy' : y < 18446744073709551616) :
    (((x / 4294967296) * (y / 4294967296) % 18446744073709551616 + (((x / 4294967296) * (y % 4294967296) % 18446744073709551616 + ((x % 4294967296) * (y % 4294967296) % 18446744073709551616) / 4294967296) % 18446744073709551616) / 4294967296) % 18446744073709551616 + (((((x / 4294967296) * (y % 4294967296) % 18446744073709551616 + ((x % 4294967296) * (y % 4294967296) % 18446744073709551616) / 4294967296) % 18446744073709551616) % 4294967296 + (x % 4294967296) * (y / 4294967296) % 18446744073709551616) % 18446744073709551616) / 4294967296) % 18446744073709551616 = x * y / 18446744073709551616 := by
  rw [← times_hi x y hx hx' hy hy', Int.add_comm ((((x / 4294967296) * (y % 4294967296) % 18446744073709551616 + ((x % 4294967296) * (y % 4294967296) % 18446744073709551616) / 4294967296) % 18446744073709551616) % 4294967296)]
/-- A number of 64 bits as a wide one. -/
def ofN (n : Int) : Int × Int := (n / 9223372036854775808, n % 18446744073709551616)
/-- The number that two halves stand for, and its halves. -/
def ofV (v : Int) : Int × Int := (v / 18446744073709551616, v % 18446744073709551616)
/-- The negative, modulo 2^128. -/
def neg (h l : Int) : Int × Int := if l = 0 then (wrap64 (-h), 0) else (-1 - h, 18446744073709551616 - l)
def plusW (h1 l1 h2 l2 : Int) : Int × Int := (wrap64 (h1 + h2 + (l1 + l2) / 18446744073709551616), (l1 + l2) % 18446744073709551616)
def I64 (n : Int) : Prop := -9223372036854775808 ≤ n ∧ n ≤ 9223372036854775807
def U64 (n : Int) : Prop := 0 ≤ n ∧ n < 18446744073709551616
theorem wrapI (n : Int) : I64 (wrap64 n) := by unfold I64 wrap64; omega
theorem modU (n : Int) : U64 (n % 18446744073709551616) := by unfold U64; omega
theorem neg_ofV (p : Int) (h0 : 0 ≤ p) (h1 : p ≤ 85070591730234615865843651857942052864) : neg (p / 18446744073709551616) (p % 18446744073709551616) = ofV (-p) := by
  unfold neg ofV wrap64
  split <;> simp only [Prod.mk.injEq] <;> omega
theorem prod_bd {a b : Int} (ha : I64 a) (hb : I64 b) (ha' : 0 ≤ a) (hb' : 0 ≤ b) : 0 ≤ a * b ∧ a * b ≤ 85070591730234615865843651857942052864 := by
  have h := mul_bd ha' (show a ≤ 9223372036854775808 by have := ha.2; omega) hb' (show b ≤ 9223372036854775808 by have := hb.2; omega)
  simpa using h
/-- The number of two halves. -/
def val (h l : Int) : Int := h * 18446744073709551616 + l
theorem pe {α β : Type} (p : α × β) : (p.1, p.2) = p := rfl
/-- the decimal text of a number -/
def dec (n : Int) : ByteArray := ⟨(Go.Lib.itoa n).toArray⟩
/-- the digits of a number as whole numbers; none for 0 -/
def dz (u : Nat) : List Int := if u = 0 then [] else (Go.Lib.decDigits u).map fun b => (b.toNat : Int)
theorem dz_step {u : Nat} (h : u ≠ 0) : dz u = dz (u / 10) ++ [((48 + u % 10 : Nat) : Int)] := by
  unfold dz
  rw [if_neg h]
  by_cases c : u < 10
  · rw [Go.Lib.decDigits_one c, if_pos (show u / 10 = 0 by omega)]
    have e : (UInt8.ofNat (48 + u)).toNat = 48 + u := by simp; omega
    simp only [List.map_cons, List.map_nil, List.nil_append, e]
    rw [show u % 10 = u by omega]
  · rw [Go.Lib.decDigits, dif_neg c, if_neg (show ¬ u / 10 = 0 by omega)]
    have e : (UInt8.ofNat (48 + u % 10)).toNat = 48 + u % 10 := by simp; omega
    simp only [List.map_append, List.map_cons, List.map_nil, e]
theorem dz_len {u : Nat} (h : u ≠ 0) : (dz u).length = Go.Lib.nDigits u := by
  unfold dz
  rw [if_neg h, List.length_map, Go.Lib.decDigits_length]
theorem dz_str {u : Nat} (h : u ≠ 0) : Go.strOfNums (dz u) = ⟨(Go.Lib.decDigits u).toArray⟩ := by
  unfold dz Go.strOfNums
  rw [if_neg h, List.map_map]
  congr 2
  conv => rhs; rw [← List.map_id (Go.Lib.decDigits u)]
  apply List.map_congr_left
  intro b _
  simp
theorem nDigits_le (u : Nat) : ∀ m, u < 10 ^ m → Go.Lib.nDigits u ≤ m + 1 := by
  induction u using Nat.strongRecOn with
  | _ u ih =>
    intro m hm
    by_cases c : u < 10
    · rw [Go.Lib.nDigits_small c]; omega
    · cases m with
      | zero => simp at hm; omega
      | succ m =>
        rw [Go.Lib.nDigits_big c]
        have := ih (u / 10) (by omega) m (by rw [Nat.pow_succ] at hm; omega)
        omega
theorem ba_ext {a b : ByteArray} (h : a.data.toList = b.data.toList) : a = b := by
  cases a; cases b; congr 1; exact Array.toList_inj.1 h
def db (u : Nat) : ByteArray := if u = 0 then ⟨#[]⟩ else ⟨(Go.Lib.decDigits u).toArray⟩
theorem ba_nil (x : ByteArray) : (⟨#[]⟩ : ByteArray) ++ x = x := by apply ba_ext; simp
theorem ba_assoc (x y z : ByteArray) : x ++ y ++ z = x ++ (y ++ z) := by apply ba_ext; simp
theorem db_step {u : Nat} (h : u ≠ 0) : db u = db (u / 10) ++ (⟨#[UInt8.ofNat (48 + u % 10)]⟩ : ByteArray) := by
  unfold db
  rw [if_neg h]
  by_cases c : u < 10
  · rw [if_pos (show u / 10 = 0 by omega), ba_nil, Go.Lib.decDigits_one c, show u % 10 = u by omega]
  · rw [if_neg (show ¬ u / 10 = 0 by omega), Go.Lib.decDigits.eq_1 u, dif_neg c]
    apply ba_ext
    simp
/-- the byte at a place -/
def by8 (s : ByteArray) (i : Nat) : Nat := (s.get! i).toNat
theorem bt_by8 {s : ByteArray} {i : Nat} (h : i < s.size) : bt s (i : Int) = (by8 s i : Int) := by
  unfold bt by8
  rw [dif_pos (show (i : Int).toNat < s.size from h)]
  congr 2
  exact (getElem!_pos s.data i h).symm
theorem by8_lt (s : ByteArray) (i : Nat) : by8 s i < 256 := (s.get! i).toNat_lt
/-- A rune at a place: a blank is one byte; another one is no blank, and no byte of it is one. -/
theorem rune_is (s : ByteArray) (i : Nat) (h : i < s.size) : (by8 s i = 32 → Utf8.decode s i = (32, 1)) ∧ (by8 s i ≠ 32 → (Utf8.decode s i).1 ≠ 32 ∧ 1 ≤ (Utf8.decode s i).2 ∧ i + (Utf8.decode s i).2 ≤ s.size ∧ ∀ j, i ≤ j → j < i + (Utf8.decode s i).2 → by8 s j ≠ 32) := by
  rw [Go.Lib.decode_at]
  have h0 : (s.get! i).toNat = by8 s i := rfl
  have h1 : (s.get! (i + 1)).toNat = by8 s (i + 1) := rfl
  have h2 : (s.get! (i + 2)).toNat = by8 s (i + 2) := rfl
  have h3 : (s.get! (i + 3)).toNat = by8 s (i + 3) := rfl
  rw [h0, h1, h2, h3]
  have hj : ∀ j, j = i ∨ j = i + 1 ∨ j = i + 2 ∨ j = i + 3 ∨ ¬ (i ≤ j ∧ j < i + 4) := by intro j; omega
  unfold Go.Lib.decodeN
  refine ⟨fun e => by rw [e]; rfl, fun ne => ?_⟩
  split
  · refine ⟨ne, by omega, by omega, fun j a b => ?_⟩
    simp only [] at b
    rw [show j = i by omega]; exact ne
  · split
    · split
      · refine ⟨by simp only []; omega, by simp only []; omega, by simp only []; omega, fun j a b => ?_⟩
        simp only [] at b
        rcases hj j with rfl | rfl | rfl | rfl | x <;> omega
      · refine ⟨by simp only []; omega, by simp only []; omega, by simp only []; omega, fun j a b => ?_⟩
        simp only [] at b
        rw [show j = i by omega]; exact ne
    · split
      · split
        · refine ⟨by simp only []; omega, by simp only []; omega, by simp only []; omega, fun j a b => ?_⟩
          simp only [] at b
          rcases hj j with rfl | rfl | rfl | rfl | x <;> omega
        · refine ⟨by simp only []; omega, by simp only []; omega, by simp only []; omega, fun j a b => ?_⟩
          simp only [] at b
          rw [show j = i by omega]; exact ne
      · split
        · split
          · refine ⟨by simp only []; omega, by simp only []; omega, by simp only []; omega, fun j a b => ?_⟩
            simp only [] at b
            rcases hj j with rfl | rfl | rfl | rfl | x <;> omega
          · refine ⟨by simp only []; omega, by simp only []; omega, by simp only []; omega, fun j a b => ?_⟩
            simp only [] at b
            rw [show j = i by omega]; exact ne
        · refine ⟨by simp only []; omega, by simp only []; omega, by simp only []; omega, fun j a b => ?_⟩
          simp only [] at b
          rw [show j = i by omega]; exact ne
/-- the words' spans, byte by byte, from a place on: n bytes are left -/
def spB (s : ByteArray) : Nat → Nat → Option Nat → List (Nat × Nat)
  | 0, _, none => []
  | 0, pos, some a => [(a, pos)]
  | n + 1, pos, st => if by8 s pos = 32 then (match st with | some a => (a, pos) :: spB s n (pos + 1) none | none => spB s n (pos + 1) none) else spB s n (pos + 1) (some (st.getD pos))
theorem spB_skip (s : ByteArray) : ∀ (m n pos a : Nat), (∀ j, pos ≤ j → j < pos + m → by8 s j ≠ 32) → spB s (m + n) pos (some a) = spB s n (pos + m) (some a) := by
  intro m
  induction m with
  | zero => intro n pos a _; rw [Nat.zero_add, Nat.add_zero]
  | succ m ih =>
    intro n pos a h
    rw [show m + 1 + n = (m + n) + 1 by omega, spB, if_neg (h pos (by omega) (by omega)), show (some a).getD pos = a from rfl, ih n (pos + 1) a (fun j x y => h j (by omega) (by omega)), show pos + 1 + m = pos + (m + 1) by omega]
theorem close_is (s : ByteArray) (n pos : Nat) (st : Option Nat) (acc : List (Nat × Nat)) (h : pos = s.size) (hn : n = 0) : Go.Lib.closeSpans s (acc, st) = acc ++ spB s n pos st := by
  subst h
  subst hn
  unfold Go.Lib.closeSpans
  cases st
  · simp [spB]
  · simp [spB]
theorem spans_is (s : ByteArray) : ∀ (f n pos : Nat) (st : Option Nat) (acc : List (Nat × Nat)), pos + n = s.size → n ≤ f → Go.Lib.closeSpans s (Go.Lib.spansFromP (fun x => x == 32) s f pos st acc) = acc ++ spB s n pos st := by
  intro f
  induction f with
  | zero =>
    intro n pos st acc h hn
    show Go.Lib.closeSpans s (acc, st) = acc ++ spB s n pos st
    exact close_is s n pos st acc (by omega) (by omega)
  | succ f ih =>
    intro n pos st acc h hn
    rw [Go.Lib.spansFromP.eq_def]
    simp only []
    by_cases c : pos < s.size
    · rw [if_pos c]
      obtain ⟨n, rfl⟩ : ∃ m, n = m + 1 := ⟨n - 1, by omega⟩
      obtain ⟨r1, r2⟩ := rune_is s pos c
      by_cases b : by8 s pos = 32
      · rw [r1 b, if_pos (show ((32 : Nat) == 32) = true from rfl)]
        cases st with
        | none => rw [spB, if_pos b]; exact ih n (pos + 1) none acc (by omega) (by omega)
        | some a =>
          rw [spB, if_pos b]
          have e := ih n (pos + 1) none (acc ++ [(a, pos)]) (by omega) (by omega)
          rw [List.append_assoc] at e
          exact e
      · obtain ⟨q1, q2, q3, q4⟩ := r2 b
        have key : ∀ a, Go.Lib.closeSpans s (Go.Lib.spansFromP (fun x => x == 32) s f (pos + (Utf8.decode s pos).2) (some a) acc) = acc ++ spB s n (pos + 1) (some a) := by
          intro a
          generalize (Utf8.decode s pos).2 = w at *
          rw [ih (n + 1 - w) (pos + w) (some a) acc (by omega) (by omega)]
          have e := spB_skip s (w - 1) (n + 1 - w) (pos + 1) a (fun j x y => q4 j (by omega) (by omega))
          rw [show w - 1 + (n + 1 - w) = n by omega, show pos + 1 + (w - 1) = pos + w by omega] at e
          rw [e]
        rw [if_neg (by simpa using q1)]
        cases st with
        | none => rw [spB, if_neg b]; exact key pos
        | some a => rw [spB, if_neg b]; exact key a
    · rw [if_neg c]
      exact close_is s n pos st acc (by omega) (by omega)
/-- the words -/
def words (s : ByteArray) : List ByteArray := (spB s s.size 0 none).map fun x => s.extract x.1 x.2
theorem iWords (s : ByteArray) (h : s.size ≤ 1048576) : impl_SplitWords.f s = some (words s) := by
  unfold impl_SplitWords.f words Go.Lib.goFieldsP Go.Lib.spansOfP
  rw [if_pos h, spans_is s s.size s.size 0 none [] (by omega) (by omega), List.nil_append]
/-- the pieces between blanks, from a place on: n bytes are left -/
def pieces (s : ByteArray) : Nat → Nat → Nat → List ByteArray
  | 0, _, a => [s.extract a s.size]
  | n + 1, pos, a => if by8 s pos = 32 then s.extract a pos :: pieces s n (pos + 1) (pos + 1) else pieces s n (pos + 1) a
theorem split_is (s : ByteArray) (hs : s.size ≤ 1048576) : ∀ (n pos a k : Nat) (acc : List ByteArray), pos + n = s.size → a ≤ pos → acc.length + n ≤ 2000000 → n < k → spec_l01Split.l0 k s 32 acc (a : Int) (pos : Int) = some (acc ++ pieces s n pos a) := by
  intro n
  induction n with
  | zero =>
    intro pos a k acc h ha hl hk
    obtain ⟨k, rfl⟩ : ∃ m, k = m + 1 := ⟨k - 1, by omega⟩
    rw [spec_l01Split.l0, if_neg (by omega), if_pos (by omega), if_pos (by omega), if_pos (by omega), show ((a : Int)).toNat = a by omega, pieces]
  | succ n ih =>
    intro pos a k acc h ha hl hk
    obtain ⟨k, rfl⟩ : ∃ m, k = m + 1 := ⟨k - 1, by omega⟩
    rw [spec_l01Split.l0, if_pos (by omega), if_pos (by omega), bt_by8 (by omega), pieces, show wrap64 ((pos : Int) + 1) = ((pos + 1 : Nat) : Int) by unfold wrap64; omega]
    by_cases b : by8 s pos = 32
    · rw [if_pos (by omega), if_pos b, if_pos (by omega), if_pos (by omega), if_pos (by omega), if_pos (by omega), ih (pos + 1) (pos + 1) k _ (by omega) (by omega) (by rw [List.length_append, List.length_singleton]; omega) (by omega), show ((a : Int)).toNat = a by omega, show ((pos : Int)).toNat = pos by omega, List.append_assoc, List.singleton_append]
    · rw [if_neg (by omega), if_neg b, ih (pos + 1) a k acc (by omega) (by omega) (by omega) (by omega)]
/-- Is a text a word (not empty)? -/
def wordB (x : ByteArray) : Bool := !decide (x.toList = ([] : List UInt8))
theorem word_ext {s : ByteArray} {a b : Nat} (h : a ≤ b) (hb : b ≤ s.size) : wordB (s.extract a b) = decide (a < b) := by
  unfold wordB
  have e : (s.extract a b).data.toList.length = b - a := by
    have : (s.extract a b).size = b - a := by rw [ByteArray.size_extract]; omega
    exact this
  rw [ByteArray.toList_eq]
  by_cases c : a < b
  · rw [decide_eq_true c, decide_eq_false (by intro x; rw [x, List.length_nil] at e; omega)]; rfl
  · rw [decide_eq_false c, decide_eq_true (List.eq_nil_of_length_eq_zero (by omega))]; rfl
theorem pieces_is (s : ByteArray) : ∀ (n pos a : Nat), pos + n = s.size → a ≤ pos → (pieces s n pos a).filter wordB = (spB s n pos (if a < pos then some a else none)).map fun x => s.extract x.1 x.2 := by
  intro n
  induction n with
  | zero =>
    intro pos a h ha
    rw [pieces, List.filter_cons, word_ext (by omega) (by omega)]
    obtain rfl : pos = s.size := by omega
    by_cases c : a < s.size
    · rw [decide_eq_true c, if_pos c, if_pos rfl]; rfl
    · rw [decide_eq_false c, if_neg c, if_neg (by simp)]; rfl
  | succ n ih =>
    intro pos a h ha
    rw [pieces]
    by_cases b : by8 s pos = 32
    · rw [if_pos b, List.filter_cons, word_ext ha (by omega), ih (pos + 1) (pos + 1) (by omega) (by omega), show (if pos + 1 < pos + 1 then some (pos + 1) else none) = none from if_neg (by omega)]
      by_cases c : a < pos
      · rw [decide_eq_true c, if_pos rfl, if_pos c, spB, if_pos b]; rfl
      · rw [decide_eq_false c, if_neg (by simp), if_neg c, spB, if_pos b]
    · rw [if_neg b, ih (pos + 1) a (by omega) (by omega), if_pos (by omega)]
      by_cases c : a < pos
      · rw [if_pos c, spB, if_neg b]; rfl
      · rw [if_neg c, spB, if_neg b, show (none : Option Nat).getD pos = pos from rfl, show pos = a by omega]
theorem rd_get {l : List ByteArray} {i : Nat} (h : i < l.length) : rdOf ByteArray.empty l (i : Int) = l[i]'h := by
  unfold rdOf
  rw [List.getD_eq_getElem?_getD, show ((i : Int)).toNat = i by omega, List.getElem?_eq_getElem h]
  rfl
theorem filt_is (l : List ByteArray) (hl : l.length ≤ 2000000) : ∀ (n i k : Nat) (acc : List ByteArray), i + n = l.length → acc.length + n ≤ 2000000 → n < k → spec_SplitWords.l0 k l acc (i : Int) = some (acc ++ (l.drop i).filter wordB) := by
  intro n
  induction n with
  | zero =>
    intro i k acc h ha hk
    obtain ⟨k, rfl⟩ : ∃ m, k = m + 1 := ⟨k - 1, by omega⟩
    rw [spec_SplitWords.l0, if_neg (by omega), List.drop_eq_nil_of_le (by omega), List.filter_nil, List.append_nil]
  | succ n ih =>
    intro i k acc h ha hk
    obtain ⟨k, rfl⟩ : ∃ m, k = m + 1 := ⟨k - 1, by omega⟩
    have hi : i < l.length := by omega
    rw [spec_SplitWords.l0, if_pos (by omega), if_pos (by omega), rd_get hi, List.drop_eq_getElem_cons hi, List.filter_cons, show wrap64 ((i : Int) + 1) = ((i + 1 : Nat) : Int) by unfold wrap64; omega]
    have ew : wordB (l[i]'hi) = !decide ((l[i]'hi).toList = ([] : List UInt8)) := rfl
    by_cases c : (l[i]'hi).toList = ([] : List UInt8)
    · rw [if_pos c, ih (i + 1) k acc (by omega) (by omega) (by omega), ew, decide_eq_true c, if_neg (by simp)]
    · rw [if_neg c, if_pos (by omega), ih (i + 1) k _ (by omega) (by rw [List.length_append, List.length_singleton]; omega) (by omega), ew, decide_eq_false c, show (!false) = true from rfl, if_pos rfl, List.append_assoc, List.singleton_append]
theorem pieces_len (s : ByteArray) : ∀ (n pos a : Nat), (pieces s n pos a).length ≤ n + 1 := by
  intro n
  induction n with
  | zero => intro pos a; rw [pieces]; exact Nat.le_refl _
  | succ n ih =>
    intro pos a
    rw [pieces]
    split
    · rw [List.length_cons]; have := ih (pos + 1) (pos + 1); omega
    · have := ih (pos + 1) a; omega
theorem sWords (s : ByteArray) (hs : s.size ≤ 1048576) (k : Nat) (hk : s.size + 2 < k) : spec_SplitWords.f k s = some (words s) := by
  have hl := pieces_len s s.size 0 0
  have e1 := split_is s hs s.size 0 0 k [] (by omega) (by omega) (by rw [List.length_nil]; omega) (by omega)
  have e2 := filt_is (pieces s s.size 0 0) (by omega) (pieces s s.size 0 0).length 0 k [] (by omega) (by rw [List.length_nil]; omega) (by omega)
  rw [show ((0 : Nat) : Int) = 0 from rfl, List.nil_append] at e1
  rw [show ((0 : Nat) : Int) = 0 from rfl, List.nil_append, List.drop_zero] at e2
  unfold spec_SplitWords.f spec_l01Split.f
  rw [e1, Option.bind_some, e2, pieces_is s s.size 0 0 (by omega) (by omega), if_neg (by omega)]
  rfl
theorem words_len (s : ByteArray) : (words s).length ≤ s.size + 1 := by
  have e := pieces_is s s.size 0 0 (by omega) (by omega)
  rw [if_neg (by omega)] at e
  have hl := pieces_len s s.size 0 0
  have hf := List.length_filter_le wordB (pieces s s.size 0 0)
  unfold words
  rw [← e]
  omega
theorem eq_same (l : List ByteArray) (hl : l.length ≤ 2000000) (k : Nat) (hk : l.length < k) : laws_eqStringS.f k l l = some true := by
  have go : ∀ (n i k : Nat), i + n = l.length → n < k → laws_eqStringS.l0 k l l (i : Int) = some true := by
    intro n
    induction n with
    | zero =>
      intro i k h hk
      obtain ⟨k, rfl⟩ : ∃ m, k = m + 1 := ⟨k - 1, by omega⟩
      rw [laws_eqStringS.l0, if_neg (by omega)]
    | succ n ih =>
      intro i k h hk
      obtain ⟨k, rfl⟩ : ∃ m, k = m + 1 := ⟨k - 1, by omega⟩
      rw [laws_eqStringS.l0, if_pos (by omega), if_pos (by omega), if_pos (by omega), if_pos rfl, show wrap64 ((i : Int) + 1) = ((i + 1 : Nat) : Int) by unfold wrap64; omega]
      exact ih (i + 1) k (by omega) (by omega)
  unfold laws_eqStringS.f
  rw [if_pos rfl]
  exact go l.length 0 k (by omega) hk
/-- the mark of a number -/
def mk (j : Nat) : ByteArray := (⟨#[109]⟩ : ByteArray) ++ db j
theorem mark_loop : ∀ (m j : Nat) (out : ByteArray) (k : Nat), j < 10 ^ m → m ≤ 18 → out.size + m ≤ 1000 → m < k → laws_markText.l0 k (j : Int) out = some ((⟨#[109]⟩ : ByteArray) ++ (db j ++ out)) := by
  intro m
  induction m with
  | zero =>
    intro j out k hj _ ho hk
    obtain ⟨k, rfl⟩ : ∃ n, k = n + 1 := ⟨k - 1, by omega⟩
    have e : j = 0 := by simp at hj; omega
    subst e
    rw [laws_markText.l0, if_neg (by omega), if_pos (by omega), show db 0 = ⟨#[]⟩ from rfl, ba_nil]
  | succ m ih =>
    intro j out k hj hm ho hk
    obtain ⟨k, rfl⟩ : ∃ n, k = n + 1 := ⟨k - 1, by omega⟩
    rw [laws_markText.l0]
    by_cases z : j = 0
    · subst z
      rw [if_neg (by omega), if_pos (by omega), show db 0 = ⟨#[]⟩ from rfl, ba_nil]
    · have hb : j < 1000000000000000000 := by
        have p : 10 ^ (m + 1) ≤ 10 ^ 18 := Nat.pow_le_pow_right (by omega) hm
        have q : (10 : Nat) ^ 18 = 1000000000000000000 := by decide
        rw [q] at p
        exact Nat.lt_of_lt_of_le hj p
      have e1 : (wrap64 (48 + Int.tmod (j : Int) 10)) % 256 = ((48 + j % 10 : Nat) : Int) := by
        rw [Int.tmod_eq_emod_of_nonneg (by omega)]; unfold wrap64; omega
      have e2 : wrap64 (Int.tdiv (j : Int) 10) = ((j / 10 : Nat) : Int) := by
        rw [Int.tdiv_eq_ediv_of_nonneg (by omega)]; unfold wrap64; omega
      have e3 : Go.strOfNums [((48 + j % 10 : Nat) : Int)] = (⟨#[UInt8.ofNat (48 + j % 10)]⟩ : ByteArray) := rfl
      have e4 : (⟨#[UInt8.ofNat (48 + j % 10)]⟩ : ByteArray).size = 1 := rfl
      rw [if_pos (by omega), e1, e2, Option.bind_some, e3, db_step z, ba_assoc]
      generalize (⟨#[UInt8.ofNat (48 + j % 10)]⟩ : ByteArray) = c at *
      rw [if_pos (by omega)]
      exact ih (j / 10) (c ++ out) k (by rw [Nat.pow_succ] at hj; omega) (by omega) (by rw [ByteArray.size_append]; omega) (by omega)
theorem mark_is (j : Nat) (h0 : 1 ≤ j) (h1 : j ≤ 2000000) (k : Nat) (hk : 8 < k) : laws_markText.f k (j : Int) = some (mk j) := by
  unfold laws_markText.f mk
  rw [if_neg (by omega), mark_loop 8 j ⟨#[]⟩ k (by omega) (by omega) (by decide) hk]
  congr 2
  apply ba_ext
  simp
/-- the list with its cells marked from a place on -/
def mkL : Nat → Nat → List ByteArray → List ByteArray
  | 0, _, l => l
  | n + 1, i, l => mkL n (i + 1) (l.set i (mk (i + 1)))
theorem mkL_len : ∀ (n i : Nat) (l : List ByteArray), (mkL n i l).length = l.length := by
  intro n
  induction n with
  | zero => intro i l; rw [mkL]
  | succ n ih => intro i l; rw [mkL, ih, List.length_set]
theorem mkL_get : ∀ (n i : Nat) (l : List ByteArray) (t : Nat), i + n = l.length → t < l.length → (mkL n i l)[t]? = if i ≤ t then some (mk (t + 1)) else l[t]? := by
  intro n
  induction n with
  | zero => intro i l t h ht; rw [mkL, if_neg (by omega)]
  | succ n ih =>
    intro i l t h ht
    rw [mkL, ih (i + 1) _ t (by rw [List.length_set]; omega) (by rw [List.length_set]; exact ht)]
    by_cases c : i + 1 ≤ t
    · rw [if_pos c, if_pos (by omega)]
    · rw [if_neg c]
      by_cases d : i ≤ t
      · obtain rfl : i = t := by omega
        rw [if_pos d, List.getElem?_set_self ht]
      · rw [if_neg d, List.getElem?_set_ne (by omega)]
theorem markS : ∀ (n i k : Nat) (l : List ByteArray), i + n = l.length → l.length ≤ 1999999 → n + 9 < k → laws_markStringS.l0 k l ((i + 1 : Nat) : Int) (i : Int) = some (((l.length + 1 : Nat) : Int), mkL n i l) := by
  intro n
  induction n with
  | zero =>
    intro i k l h hl hk
    obtain ⟨k, rfl⟩ : ∃ m, k = m + 1 := ⟨k - 1, by omega⟩
    rw [laws_markStringS.l0, if_neg (by omega), mkL, show i = l.length by omega]
  | succ n ih =>
    intro i k l h hl hk
    obtain ⟨k, rfl⟩ : ∃ m, k = m + 1 := ⟨k - 1, by omega⟩
    rw [laws_markStringS.l0, if_pos (by omega), mark_is (i + 1) (by omega) (by omega) k (by omega), Option.bind_some, if_pos (by omega), show wrap64 (((i + 1 : Nat) : Int) + 1) = ((i + 1 + 1 : Nat) : Int) by unfold wrap64; omega, show wrap64 ((i : Int) + 1) = ((i + 1 : Nat) : Int) by unfold wrap64; omega, show ((i : Int)).toNat = i by omega, ih (i + 1) k _ (by rw [List.length_set]; omega) (by rw [List.length_set]; exact hl) (by omega), List.length_set, mkL]
theorem heldS (l : List ByteArray) (hl : l.length ≤ 1999999) (hg : ∀ t, t < l.length → l[t]? = some (mk (t + 1))) : ∀ (n i k : Nat), i + n = l.length → n + 9 < k → laws_heldStringS.l0 k l ((i + 1 : Nat) : Int) (i : Int) = some ((l.length + 1 : Nat) : Int) := by
  intro n
  induction n with
  | zero =>
    intro i k h hk
    obtain ⟨k, rfl⟩ : ∃ m, k = m + 1 := ⟨k - 1, by omega⟩
    rw [laws_heldStringS.l0, if_neg (by omega), show i = l.length by omega]
  | succ n ih =>
    intro i k h hk
    obtain ⟨k, rfl⟩ : ∃ m, k = m + 1 := ⟨k - 1, by omega⟩
    have hi : i < l.length := by omega
    have e : l[i]'hi = mk (i + 1) := Option.some.inj ((List.getElem?_eq_getElem hi).symm.trans (hg i hi))
    rw [laws_heldStringS.l0, if_pos (by omega), if_pos (by omega), mark_is (i + 1) (by omega) (by omega) k (by omega), Option.bind_some, rd_get hi, e, if_pos rfl, show wrap64 (((i + 1 : Nat) : Int) + 1) = ((i + 1 + 1 : Nat) : Int) by unfold wrap64; omega, show wrap64 ((i : Int) + 1) = ((i + 1 : Nat) : Int) by unfold wrap64; omega]
    exact ih (i + 1) k (by omega) (by omega)
theorem FnExactSplitWords : laws_FnExactSplitWords.Pure := by
  unfold laws_FnExactSplitWords.Pure
  intro s hs
  refine ⟨2000100, ?_⟩
  unfold laws_FnExactSplitWords.f
  by_cases c : (s.size : Int) > 1048576
  · rw [if_pos c]
  · have hz : s.size ≤ 1048576 := by omega
    have hl := words_len s
    generalize hk : (2000100 : Nat) = k
    have hk2 : 2000100 ≤ k := by omega
    clear hk
    have em : laws_markStringS.f k (words s) 1 = some ((((words s).length + 1 : Nat) : Int), mkL (words s).length 0 (words s)) := by
      unfold laws_markStringS.f
      exact markS (words s).length 0 k (words s) (by omega) (by omega) (by omega)
    have eh : laws_heldStringS.f k (mkL (words s).length 0 (words s)) 1 = some (((words s).length + 1 : Nat) : Int) := by
      have el := mkL_len (words s).length 0 (words s)
      have e := heldS (mkL (words s).length 0 (words s)) (by omega) (fun t ht => by rw [mkL_get _ _ _ t (by omega) (by omega), if_pos (by omega)]) (words s).length 0 k (by omega) (by omega)
      rw [el] at e
      unfold laws_heldStringS.f
      exact e
    have hp : ¬ ((((words s).length + 1 : Nat) : Int) < 0) := by omega
    rw [if_neg c, sWords s hz k (by omega), Option.bind_some, iWords s hz, Option.bind_some, eq_same _ (by omega) k (by omega), Option.bind_some, if_pos rfl, em, Option.bind_some]
    simp -implicitDefEqProofs only []
    rw [eh, Option.bind_some, if_neg hp, if_pos rfl, Option.bind_some, eq_same _ (by omega) k (by omega), Option.bind_some, if_pos rfl, Option.bind_some, if_neg hp, if_pos rfl]
end Go.Proofs.Ytcaabdilfnicfaa.Pure
