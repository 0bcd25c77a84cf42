/- Texts of numbers (strconv.FormatInt at base 10), copies of a text (strings.Repeat): what the library's contracts give, as functions of Lean; the condition of FormatInt: that the library's table of powers of 10 lies in memory as its text lays it. -/
import Derived.Test.YtnlmndhmjceajaaDoorExt
import Derived.Test.YtnlmndhmjceajaaDoorShelf
import Derived.Lib.LaidTab
import Derived.Lib.SmallJoins
import Derived.Lib.AppendIntMem
namespace Go.Proofs.YtnlmndhmjceajaaDoor.Ext
open Go.RowKit Go.Proofs Go.Lib Go.Joins
/-- The library's table of powers of 10 lies in memory. -/
def Laid (w : World) : Prop := TabIs Tryd.prog w "internal/strconv.uint64pow10" .u64 pow10Tab
theorem gPow : Tryd.prog.globalNamed "internal/strconv.uint64pow10" = some 5 := by kernel_rfl
theorem laid_b {w w' : World} (h : Laid w) (hb : Below w.heap.size w w') : Hid (Laid w') := tab_stays gPow h hb (Nat.le_refl _)
theorem size1 (a : UInt8) : ByteArray.size ⟨#[a]⟩ = 1 := rfl
theorem size0 : ByteArray.size ⟨#[]⟩ = 0 := rfl
/-- The decimal numeral of a whole number of 64 bits. -/
def strconv_FormatInt.f (a0 a1 : Int) : Option ByteArray := if -9223372036854775808 ≤ a0 ∧ a0 ≤ 9223372036854775807 ∧ a1 = 10 then some ⟨(itoa a0).toArray⟩ else none
theorem strconv_FormatInt.calls (a0 a1 : Int) (r : ByteArray) (w : World) (HT : Hid (Laid w)) (h : strconv_FormatInt.f a0 a1 = some r) : Calls Tryd.prog 57 #[.int .i64 a0, .int .i64 a1] w fun e w' => e = .returned (.string r) ∧ Below w.heap.size w w' := by
  unfold strconv_FormatInt.f at h
  split at h
  · rename_i hc
    obtain ⟨h0, h1, rfl⟩ := hc
    obtain rfl := Option.some.inj h
    refine (Tryd.strconv_FormatInt_10 a0 h0 h1 w HT.out).mono fun e w' ⟨he, k, os, hw⟩ => ⟨he, ?_⟩
    subst hw
    exact below_grow _ w (Nat.le_refl _) k os
  · cases h
/-- So many copies of a text. -/
def strings_Repeat.f (s : ByteArray) (c : Int) : Option ByteArray := if 0 ≤ c ∧ c ≤ 1048576 ∧ s.size ≤ 1048576 then some ⟨(repeatL s.data.toList c.toNat).toArray⟩ else none
theorem strings_Repeat.calls (s : ByteArray) (c : Int) (r : ByteArray) (w : World) (h : strings_Repeat.f s c = some r) : Calls Tryd.prog 43 #[.string s, .int .i64 c] w fun e w' => e = .returned (.string r) ∧ Below w.heap.size w w' := by
  unfold strings_Repeat.f at h
  split at h
  · rename_i hc
    obtain ⟨h0, h1, h2⟩ := hc
    obtain rfl := Option.some.inj h
    obtain ⟨c, rfl⟩ := Int.eq_ofNat_of_zero_le h0
    have hm : s.size * c ≤ 1048576 * 1048576 := Nat.mul_le_mul h2 (by omega)
    exact Tryd.strings_Repeat s c w (by omega) (by omega)
  · cases h
end Go.Proofs.YtnlmndhmjceajaaDoor.Ext
