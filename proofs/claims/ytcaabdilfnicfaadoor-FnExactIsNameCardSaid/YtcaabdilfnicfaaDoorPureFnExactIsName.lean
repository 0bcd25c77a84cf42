/- The plain law of FnExactIsName: what the program's function and the reference's compute is the same, for every argument of its kind; no condition. -/
import Derived.Test.YtcaabdilfnicfaaDoorPFnExactIsNamex1
import Derived.OpenShut
import Derived.Shelf.Strings.SlTrimAscii
namespace Go.Proofs.YtcaabdilfnicfaaDoor.Pure
open Go.RowKit Go.Proofs.YtcaabdilfnicfaaDoor.PFnExactIsName Go.Proofs.YtcaabdilfnicfaaDoorW.PrintWords Go.Proofs.YtcaabdilfnicfaaDoorW.PrintLast Go.Proofs.YtcaabdilfnicfaaDoor.Ext
/-- a small letter; a small letter or a digit -/
def smB (b : UInt8) : Bool := decide (97 ≤ b.toNat) && decide (b.toNat ≤ 122)
def nmB (b : UInt8) : Bool := smB b || (decide (48 ≤ b.toNat) && decide (b.toNat ≤ 57))
theorem drop_all {p : UInt8 → Bool} : ∀ m : List UInt8, (∀ x ∈ m.dropWhile p, p x = true) → ∀ x ∈ m, p x = true
  | [], _ => fun x hx => by cases hx
  | a :: m, h => by
    by_cases c : p a = true
    · rw [List.dropWhile_cons_of_pos c] at h
      intro x hx
      rcases List.mem_cons.1 hx with rfl | hx
      · exact c
      · exact drop_all m h x hx
    · rw [List.dropWhile_cons_of_neg c] at h
      exact h
theorem dw_nil {p : UInt8 → Bool} : ∀ m : List UInt8, m.dropWhile p = [] ↔ ∀ x ∈ m, p x = true
  | [] => by simp
  | a :: m => by
    by_cases c : p a = true
    · rw [List.dropWhile_cons_of_pos c, dw_nil m]
      constructor
      · intro h x hx
        rcases List.mem_cons.1 hx with rfl | hx
        · exact c
        · exact h x hx
      · intro h x hx; exact h x (List.mem_cons_of_mem _ hx)
    · rw [List.dropWhile_cons_of_neg c]
      constructor
      · intro h; cases h
      · intro h; exact absurd (h a (List.mem_cons_self ..)) c
theorem trim_nil (l cs : List UInt8) : Go.Lib.trimS l cs = [] ↔ ∀ x ∈ l, cs.contains x = true := by
  unfold Go.Lib.trimS Go.Lib.trimLeftS Go.Lib.trimRightS
  rw [dw_nil]
  constructor
  · intro h x hx
    exact drop_all (p := (cs.contains ·)) l.reverse (fun y hy => h y (List.mem_reverse.2 hy)) x (List.mem_reverse.2 hx)
  · intro h x hx
    have h2 := List.mem_reverse.1 hx
    exact h x (List.mem_reverse.1 ((List.dropWhile_suffix _).subset h2))
theorem set_fin : ∀ i : Fin 256, ([97, 98, 99, 100, 101, 102, 103, 104, 105, 106, 107, 108, 109, 110, 111, 112, 113, 114, 115, 116, 117, 118, 119, 120, 121, 122, 48, 49, 50, 51, 52, 53, 54, 55, 56, 57] : List UInt8).contains (UInt8.ofNat i.val) = nmB (UInt8.ofNat i.val) := by decide +kernel
theorem idx_fin : ∀ i : Fin 256, decide (Go.Lib.indexByte [97, 98, 99, 100, 101, 102, 103, 104, 105, 106, 107, 108, 109, 110, 111, 112, 113, 114, 115, 116, 117, 118, 119, 120, 121, 122] (UInt8.ofNat i.val) ≥ 0) = smB (UInt8.ofNat i.val) := by decide +kernel
theorem back (b : UInt8) : UInt8.ofNat b.toNat = b := by simp
theorem set_is (b : UInt8) : ([97, 98, 99, 100, 101, 102, 103, 104, 105, 106, 107, 108, 109, 110, 111, 112, 113, 114, 115, 116, 117, 118, 119, 120, 121, 122, 48, 49, 50, 51, 52, 53, 54, 55, 56, 57] : List UInt8).contains b = nmB b := by
  have := set_fin ⟨b.toNat, b.toNat_lt⟩
  rw [back] at this
  exact this
theorem idx_is (b : UInt8) : decide (Go.Lib.indexByte [97, 98, 99, 100, 101, 102, 103, 104, 105, 106, 107, 108, 109, 110, 111, 112, 113, 114, 115, 116, 117, 118, 119, 120, 121, 122] b ≥ 0) = smB b := by
  have := idx_fin ⟨b.toNat, b.toNat_lt⟩
  rw [back] at this
  exact this
theorem bt_get {s : ByteArray} {i : Nat} (h : i < s.data.toList.length) : bt s (i : Int) = ((s.data.toList[i]'h).toNat : Int) := by
  unfold bt
  rw [dif_pos (show (i : Int).toNat < s.size from h)]
  rfl
theorem small_is (b : UInt8) : spec_l01Small.f (b.toNat : Int) = some (smB b) := by
  unfold spec_l01Small.f smB
  by_cases c : 97 ≤ b.toNat
  · rw [if_pos (by omega), decide_eq_true c, Bool.true_and]
    congr 1
    rw [decide_eq_decide]; omega
  · rw [if_neg (by omega), decide_eq_false c]; rfl
theorem digit_is (b : UInt8) : spec_l01Digit.f (b.toNat : Int) = some (decide (48 ≤ b.toNat) && decide (b.toNat ≤ 57)) := by
  unfold spec_l01Digit.f
  by_cases c : 48 ≤ b.toNat
  · rw [if_pos (by omega), decide_eq_true c, Bool.true_and]
    congr 1
    rw [decide_eq_decide]; omega
  · rw [if_neg (by omega), decide_eq_false c]; rfl
theorem name_loop (s : ByteArray) (hs : s.data.toList.length ≤ 10) : ∀ (n i k : Nat), s.data.toList.length - i = n → i ≤ 10 → n < k → spec_IsName.l0 k s (i : Int) = some ((s.data.toList.drop i).all nmB) := by
  intro n
  have es : s.size = s.data.toList.length := rfl
  induction n with
  | zero =>
    intro i k hn _ hk
    obtain ⟨k, rfl⟩ : ∃ m, k = m + 1 := ⟨k - 1, by omega⟩
    rw [spec_IsName.l0, if_neg (by omega), List.drop_eq_nil_of_le (by omega)]
    rfl
  | succ n ih =>
    intro i k hn hi hk
    obtain ⟨k, rfl⟩ : ∃ m, k = m + 1 := ⟨k - 1, by omega⟩
    have hl : i < s.data.toList.length := by omega
    rw [spec_IsName.l0, if_pos (by omega), if_pos (by omega), bt_get hl, small_is, Option.bind_some, List.drop_eq_getElem_cons hl, List.all_cons, show wrap64 ((i : Int) + 1) = ((i + 1 : Nat) : Int) by unfold wrap64; omega]
    by_cases c : smB (s.data.toList[i]'hl) = true
    · rw [if_pos c, ih (i + 1) k (by omega) (by omega) (by omega)]
      unfold nmB
      rw [c, Bool.true_or, Bool.true_and]
    · rw [if_neg c, digit_is, Option.bind_some]
      by_cases d : (decide (48 ≤ (s.data.toList[i]'hl).toNat) && decide ((s.data.toList[i]'hl).toNat ≤ 57)) = true
      · rw [if_pos d, ih (i + 1) k (by omega) (by omega) (by omega)]
        have e : nmB (s.data.toList[i]'hl) = true := by unfold nmB; rw [d, Bool.or_true]
        rw [e, Bool.true_and]
      · rw [if_neg d]
        have e : nmB (s.data.toList[i]'hl) = false := by unfold nmB; rw [Bool.eq_false_iff.2 d, Bool.eq_false_iff.2 c]; rfl
        rw [e, Bool.false_and]
/-- what both give -/
def nameV (l : List UInt8) : Bool := decide (1 ≤ l.length) && (decide (l.length ≤ 10) && (smB (l.getD 0 0) && l.all nmB))
theorem sName (s : ByteArray) (k : Nat) (hk : 13 ≤ k) : spec_IsName.f k s = some (nameV s.data.toList) := by
  obtain ⟨k, rfl⟩ : ∃ m, k = m + 1 := ⟨k - 1, by omega⟩
  have es : s.size = s.data.toList.length := rfl
  unfold spec_IsName.f nameV
  rw [ByteArray.toList_eq]
  by_cases z : s.data.toList = []
  · rw [if_pos z, spec_IsName.j0, if_pos rfl, z]; rfl
  · have hl : 0 < s.data.toList.length := List.length_pos_iff.2 z
    rw [if_neg z, decide_eq_true (show 1 ≤ s.data.toList.length by omega), Bool.true_and]
    by_cases c : s.data.toList.length ≤ 10
    · rw [if_neg (by omega), if_pos (by omega), decide_eq_true c, Bool.true_and]
      have e := bt_get hl
      rw [show ((0 : Nat) : Int) = 0 from rfl] at e
      rw [e, small_is, Option.bind_some, spec_IsName.j0, show s.data.toList.getD 0 0 = s.data.toList[0]'hl by rw [List.getD_eq_getElem?_getD, List.getElem?_eq_getElem hl]; rfl]
      cases d : smB (s.data.toList[0]'hl)
      · rw [show (!false) = true from rfl, if_pos rfl, Bool.false_and]
      · have e2 := name_loop s c s.data.toList.length 0 k (by omega) (by omega) (by omega)
        rw [show ((0 : Nat) : Int) = 0 from rfl, List.drop_zero] at e2
        rw [if_neg (by simp), e2, Bool.true_and]
    · rw [if_pos (by omega), spec_IsName.j0, if_pos rfl, decide_eq_false c, Bool.false_and]
theorem iName (s : ByteArray) (hs : s.size ≤ 140737488351232) : impl_IsName.f s = some (nameV s.data.toList) := by
  have es : s.size = s.data.toList.length := rfl
  unfold impl_IsName.f nameV impl_within.f
  by_cases z : 1 ≤ s.data.toList.length
  · rw [if_pos (by omega), Option.bind_some, decide_eq_true z, Bool.true_and]
    by_cases c : s.data.toList.length ≤ 10
    · rw [decide_eq_true (show (s.size : Int) ≤ 10 by omega), if_pos rfl, decide_eq_true c, Bool.true_and]
      unfold strings_Trim.f
      rw [if_pos ⟨by decide +kernel, by decide +kernel, by omega⟩, Option.bind_some, ByteArray.toList_eq]
      have e0 : ∀ x : List UInt8, (⟨x.toArray⟩ : ByteArray).data.toList = x := fun x => rfl
      have ea : (∀ x ∈ s.data.toList, ([97, 98, 99, 100, 101, 102, 103, 104, 105, 106, 107, 108, 109, 110, 111, 112, 113, 114, 115, 116, 117, 118, 119, 120, 121, 122, 48, 49, 50, 51, 52, 53, 54, 55, 56, 57] : List UInt8).contains x = true) ↔ s.data.toList.all nmB = true := by
        rw [List.all_eq_true]
        constructor
        · intro h x hx; rw [← set_is]; exact h x hx
        · intro h x hx; rw [set_is]; exact h x hx
      have hl : 0 < s.data.toList.length := by omega
      have e := bt_get hl
      rw [show ((0 : Nat) : Int) = 0 from rfl] at e
      have ei : ((((s.data.toList[0]'hl).toNat : Int)).toNat.toUInt8) = s.data.toList[0]'hl := by simp
      rw [e0]
      by_cases d : s.data.toList.all nmB = true
      · rw [if_pos ((trim_nil _ _).2 (ea.2 d)), if_pos (by omega), e]
        unfold strings_IndexByte.f
        rw [Option.bind_some, ei, d, Bool.and_true]
        congr 1
        rw [show s.data.toList.getD 0 0 = s.data.toList[0]'hl by rw [List.getD_eq_getElem?_getD, List.getElem?_eq_getElem hl]; rfl]
        exact idx_is _
      · rw [if_neg (fun h => d (ea.1 ((trim_nil _ _).1 h))), Bool.eq_false_iff.2 d, Bool.and_false]
    · rw [decide_eq_false (show ¬ (s.size : Int) ≤ 10 by omega), if_neg (by simp), decide_eq_false c, Bool.false_and]
  · rw [if_neg (by omega), Option.bind_some, if_neg (by simp), decide_eq_false z, Bool.false_and]
theorem FnExactIsName : laws_FnExactIsName.Pure := by
  unfold laws_FnExactIsName.Pure
  intro s hs
  refine ⟨13, ?_⟩
  unfold laws_FnExactIsName.f
  by_cases c : (s.size : Int) > 1048576
  · rw [if_pos c]
  · rw [if_neg c, sName s 13 (by omega), Option.bind_some, iName s hs, Option.bind_some, if_neg (by simp)]
end Go.Proofs.YtcaabdilfnicfaaDoor.Pure
