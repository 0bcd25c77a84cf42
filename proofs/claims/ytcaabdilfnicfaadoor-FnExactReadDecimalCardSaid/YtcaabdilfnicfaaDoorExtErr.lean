/- Reading a number at base 10 (strconv.ParseInt), a text without its prefix (strings.TrimPrefix): what the library's contracts give, as functions of Lean; the condition: that the table of powers of 10 and the two errors' variables lie in memory as the library's text lays them. -/
import Derived.Test.YtcaabdilfnicfaaDoorExtText
import Derived.Test.YtcaabdilfnicfaaDoorShelfP
namespace Go.Proofs.YtcaabdilfnicfaaDoor.Ext
open Go.RowKit Go.Proofs Go.Lib Go.Joins Go.Proofs.YtcaabdilfnicfaaDoorW.PrintWords
/-- The table and the two errors' variables lie in memory. -/
def LaidE (w : World) : Prop := Laid w ∧ (∃ tp p, w.var? Tryd.prog "strconv.ErrSyntax" = some #[.iface tp p]) ∧ ∃ tp p, w.var? Tryd.prog "strconv.ErrRange" = some #[.iface tp p]
theorem gSyn : Tryd.prog.globalNamed "strconv.ErrSyntax" = some 4 := by kernel_rfl
theorem gRan : Tryd.prog.globalNamed "strconv.ErrRange" = some 5 := by kernel_rfl
theorem laidE_b {w w' : World} (h : LaidE w) (hb : Below w.heap.size w w') : Hid (LaidE w') := by
  obtain ⟨h1, ⟨tp, p, h2⟩, ⟨tq, q, h3⟩⟩ := h
  exact ⟨laid_b h1 hb, ⟨tp, p, var_stays gSyn h2 hb (Nat.le_refl _)⟩, ⟨tq, q, var_stays gRan h3 hb (Nat.le_refl _)⟩⟩
theorem strconv_FormatInt.callsE (a0 a1 : Int) (r : ByteArray) (w : World) (HT : Hid (LaidE w)) (h : strconv_FormatInt.f a0 a1 = some r) : Calls Tryd.prog 34 #[.int .i64 a0, .int .i64 a1] w fun e w' => e = .returned (.string r) ∧ Below w.heap.size w w' := strconv_FormatInt.calls a0 a1 r w HT.out.1 h
/-- The number that a text at base 10 reads as; the error's kind where there is none. -/
def strconv_ParseInt.f (s : ByteArray) (b n : Int) : Option (Int × Option Int) := if s.size ≤ 281474976710656 ∧ b = 10 ∧ n = 64 then (match parseIntB 64 s.data.toList with | .ok v => some (v, none) | .range => some (intSat 64 s.data.toList, some 1) | _ => some (0, some 0)) else none
theorem strconv_ParseInt.calls (s : ByteArray) (b n r : Int) (q : Option Int) (w : World) (hq : q = none) (h : strconv_ParseInt.f s b n = some (r, q)) : Calls Tryd.prog 46 #[.string s, .int .i64 b, .int .i64 n] w fun e w' => e = .returned (.tuple #[.int .i64 r, .nilIface]) ∧ Below w.heap.size w w' := by
  subst hq
  unfold strconv_ParseInt.f at h
  split at h
  · rename_i hc
    obtain ⟨h0, rfl, rfl⟩ := hc
    cases hp : parseIntB 64 s.data.toList with
    | ok v =>
      rw [hp] at h
      simp only [Option.some.injEq, Prod.mk.injEq] at h
      obtain ⟨rfl, _⟩ := h
      refine (Tryd.strconv_ParseInt_10_at64_ok s (by omega) v hp w).mono fun e w' ⟨he, hw⟩ => ⟨he, ?_⟩
      rcases hw with rfl | ⟨t, rfl⟩
      · exact Below.refl _ _
      · exact bytes_below (Below.refl _ _) (Nat.le_refl _) _ t
    | range => rw [hp] at h; simp at h
    | _ => rw [hp] at h; simp at h
  · cases h
theorem strconv_ParseInt.fails (s : ByteArray) (b n r q : Int) (w : World) (HT : Hid (LaidE w)) (h : strconv_ParseInt.f s b n = some (r, some q)) : Calls Tryd.prog 46 #[.string s, .int .i64 b, .int .i64 n] w fun e w' => ∃ p, e = .returned (.tuple #[.int .i64 r, .iface 119 (.pointer (some ⟨p, 0, none⟩))]) ∧ Below w.heap.size w w' := by
  obtain ⟨_, ⟨tp, p, h2⟩, ⟨tq, q2, h3⟩⟩ := HT.out
  unfold strconv_ParseInt.f at h
  split at h
  · rename_i hc
    obtain ⟨h0, rfl, rfl⟩ := hc
    cases hp : parseIntB 64 s.data.toList with
    | ok v => rw [hp] at h; simp at h
    | range =>
      rw [hp] at h
      simp only [Option.some.injEq, Prod.mk.injEq] at h
      obtain ⟨rfl, _⟩ := h
      exact (Tryd.strconv_ParseInt_10_at64_range_var s h0 hp tq q2 w h3).mono fun e w' ⟨N, he, _, _, hb⟩ => ⟨N, he, hb⟩
    | _ =>
      rw [hp] at h
      simp only [Option.some.injEq, Prod.mk.injEq] at h
      obtain ⟨rfl, _⟩ := h
      exact (Tryd.strconv_ParseInt_10_at64_syntax_var s h0 hp tp p w h2).mono fun e w' ⟨N, he, _, _, hb⟩ => ⟨N, he, hb⟩
  · cases h
/-- A text without its prefix. -/
def strings_TrimPrefix.f (s p : ByteArray) : Option ByteArray := some ⟨(trimPrefix s.data.toList p.data.toList).toArray⟩
theorem strings_TrimPrefix.calls (s p r : ByteArray) (w : World) (h : strings_TrimPrefix.f s p = some r) : Calls Tryd.prog 47 #[.string s, .string p] w fun e w' => e = .returned (.string r) ∧ Below w.heap.size w w' := by
  obtain rfl := Option.some.inj h
  refine (Tryd.strings_TrimPrefix s p w).mono fun e w' ⟨he, hw⟩ => ⟨he, ?_⟩
  subst hw
  exact Below.refl _ _
end Go.Proofs.YtcaabdilfnicfaaDoor.Ext
