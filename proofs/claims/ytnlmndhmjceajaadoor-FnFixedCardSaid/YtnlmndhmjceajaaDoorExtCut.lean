/- A text cut at a separator (strings.Cut), a text without its prefix (strings.TrimPrefix): what the library's contracts give, as functions of Lean; the condition: that the table of powers of 10 lies in memory as the library's text lays it, and that the cell of internal/bytealg.MaxLen holds some int. -/
import Derived.Test.YtnlmndhmjceajaaDoorExtText
import Derived.Test.YtnlmndhmjceajaaDoorExtName
namespace Go.Proofs.YtnlmndhmjceajaaDoor.Ext
open Go.RowKit Go.Proofs Go.Lib Go.Joins
/-- The table of powers of 10 lies in memory; the cell of MaxLen holds some int. -/
def LaidC (w : World) : Prop := Laid w ∧ ∃ m, w.cell? ⟨2, 0, none⟩ = some (.int .i64 m)
theorem cell_stays {w w' : World} {g : Nat} {v : Value} (h : w.cell? ⟨g, 0, none⟩ = some v) (hb : Below w.heap.size w w') : w'.cell? ⟨g, 0, none⟩ = some v := by
  rw [hb.cell (p := ⟨g, 0, none⟩) ?_]
  · exact h
  · show g < w.heap.size
    rcases Nat.lt_or_ge g w.heap.size with h' | h'
    · exact h'
    · simp [World.cell?, Array.getElem?_eq_none h'] at h
theorem laidC_b {w w' : World} (h : LaidC w) (hb : Below w.heap.size w w') : Hid (LaidC w') := by
  obtain ⟨h1, m, h2⟩ := h
  exact ⟨laid_b h1 hb, m, cell_stays h2 hb⟩
theorem strconv_FormatInt.callsC (a0 a1 : Int) (r : ByteArray) (w : World) (HT : Hid (LaidC w)) (h : strconv_FormatInt.f a0 a1 = some r) : Calls Tryd.prog 57 #[.int .i64 a0, .int .i64 a1] w fun e w' => e = .returned (.string r) ∧ Below w.heap.size w w' := strconv_FormatInt.calls a0 a1 r w HT.out.1 h
/-- What lies ahead of a separator's first place, what lies behind it, whether there is one. -/
def strings_Cut.f (s p : ByteArray) : Option (ByteArray × ByteArray × Bool) := if s.size < 4294967281 then some (⟨(cut s.data.toList p.data.toList).1.toArray⟩, ⟨(cut s.data.toList p.data.toList).2.1.toArray⟩, (cut s.data.toList p.data.toList).2.2) else none
theorem strings_Cut.calls (s p r0 r1 : ByteArray) (r2 : Bool) (w : World) (HT : Hid (LaidC w)) (h : strings_Cut.f s p = some (r0, r1, r2)) : Calls Tryd.prog 38 #[.string s, .string p] w fun e w' => e = .returned (.tuple #[.string r0, .string r1, .bool r2]) ∧ Below w.heap.size w w' := by
  obtain ⟨_, m, hm⟩ := HT.out
  unfold strings_Cut.f at h
  split at h
  · rename_i hs
    have h := Option.some.inj h
    obtain rfl := (congrArg (·.1) h : _ = r0)
    obtain rfl := (congrArg (·.2.1) h : _ = r1)
    obtain rfl := (congrArg (·.2.2) h : _ = r2)
    refine (Tryd.strings_Cut s p m w hs hm).mono fun e w' ⟨he, n, hw⟩ => ⟨he, ?_⟩
    subst hw
    exact ⟨rfl, rfl, rfl, Nat.le_refl _, fun _ _ => rfl⟩
  · cases h
/-- A text without its prefix. -/
def strings_TrimPrefix.f (s p : ByteArray) : Option ByteArray := some ⟨(trimPrefix s.data.toList p.data.toList).toArray⟩
theorem strings_TrimPrefix.calls (s p r : ByteArray) (w : World) (h : strings_TrimPrefix.f s p = some r) : Calls Tryd.prog 39 #[.string s, .string p] w fun e w' => e = .returned (.string r) ∧ Below w.heap.size w w' := by
  obtain rfl := Option.some.inj h
  refine (Tryd.strings_TrimPrefix s p w).mono fun e w' ⟨he, hw⟩ => ⟨he, ?_⟩
  subst hw
  exact Below.refl _ _
end Go.Proofs.YtnlmndhmjceajaaDoor.Ext
