/- Cutting letters off a text's ends (strings.Trim, at a cutset of ASCII bytes), a byte's first place (strings.IndexByte): what the library's contracts give, as functions of Lean; no condition. -/
import Derived.Test.YtnlmndhmjceajaaDoorExt
import Derived.Test.YtnlmndhmjceajaaDoorShelf
import Derived.Shelf.Strings.SlTrimAscii
namespace Go.Proofs.YtnlmndhmjceajaaDoor.Ext
open Go.RowKit Go.Proofs Go.Lib
/-- A text without the bytes of an ASCII cutset at its ends. -/
def strings_Trim.f (s c : ByteArray) : Option ByteArray := if c.data.toList.all (fun b => decide (b.toNat < 128)) = true ∧ c.size < 4294967281 ∧ s.size ≤ 9223372036854775807 then some ⟨(trimS s.data.toList c.data.toList).toArray⟩ else none
theorem strings_Trim.calls (s c r : ByteArray) (w : World) (h : strings_Trim.f s c = some r) : Calls Tryd.prog 40 #[.string s, .string c] w fun e w' => e = .returned (.string r) ∧ Below w.heap.size w w' := by
  unfold strings_Trim.f at h
  split at h
  · rename_i hc
    obtain rfl := Option.some.inj h
    exact Any.strings_Trim_laid Tryd.lays160 (by kernel_rfl) s c w hc.2.2 hc.2.1 (ascii_of_all hc.1)
  · cases h
/-- The first place of a byte, or -1. -/
def strings_IndexByte.f (s : ByteArray) (c : Int) : Option Int := some (indexByte s.data.toList c.toNat.toUInt8)
theorem strings_IndexByte.calls (s : ByteArray) (c r : Int) (w : World) (h : strings_IndexByte.f s c = some r) : Calls Tryd.prog 93 #[.string s, .int .u8 c] w fun e w' => e = .returned (.int .i64 r) ∧ Below w.heap.size w w' := by
  obtain rfl := Option.some.inj h
  refine (Tryd.strings_IndexByte s c w).mono fun e w' ⟨he, hw⟩ => ⟨he, ?_⟩
  subst hw
  exact Below.refl _ _
end Go.Proofs.YtnlmndhmjceajaaDoor.Ext
