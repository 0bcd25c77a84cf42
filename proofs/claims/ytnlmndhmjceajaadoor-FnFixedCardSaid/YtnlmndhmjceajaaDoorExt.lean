/- The carry functions of math/bits (Add64, Sub64), which the model runs by itself: what they give, over whole numbers of 64 bits, the carry 0 or 1; and the operation that calls such a function, as an arm of a walk. -/
import Derived.Test.YtnlmndhmjceajaaDoorProg
import Derived.Shelf.Spec.BitsCarry
import Derived.Below
import Derived.WalkKit
import Derived.Test.YtnlmndhmjceajaaDoorWWords
import Derived.Test.YtnlmndhmjceajaaDoorWLast
import Derived.Test.YtnlmndhmjceajaaDoorShelf
namespace Go.Proofs.YtnlmndhmjceajaaDoor.Ext
open Go.RowKit Go.Proofs Go.Proofs.YtnlmndhmjceajaaDoorW.PrintWords Go.Proofs.YtnlmndhmjceajaaDoorW.PrintLast
/-- A call of a function that the model runs by itself: it gives a value and leaves the world alone. -/
def XCalls (P : Program) (f : FuncId) (args : Array Value) (w : World) (R : Ending → World → Prop) : Prop := ∃ v, (callFunc f args).run P w = .ok (.value v) w ∧ R (.returned v) w
theorem XCalls.mono {P : Program} {f : FuncId} {args : Array Value} {w : World} {R R' : Ending → World → Prop} (h : XCalls P f args w R) (hm : ∀ e w', R e w' → R' e w') : XCalls P f args w R' := by
  obtain ⟨v, h1, h2⟩ := h
  exact ⟨v, h1, hm _ _ h2⟩
section
variable {P : Program} {ops : Array Oper} {Q : Exit → Act → World → Prop}
theorem goesX_ {rest : List Oper} {oi : Oper} {a : Act} {w : World} (N : Option Tmp) (hd : oi.dst = N) (hg : oi.guard = none) {f : FuncId} {fn : Func} {ps : Array Operand} {ts : Array TypeId} (_hf : P.funcs[f]? = some fn) (_hname : (fn.name == "runtime.NumGoroutine") = false) (_hb : fn.body.isSome = false) (args : Array Value)
    (hop : oi.op = .call { callee := .value (.func f), args := ps, argTypes := ts }) (hargs : ps.map a.eval = args)
    (h : XCalls P f args w fun e w' => ∃ v, e = .returned v ∧ wpList P ops Q rest (a.put N v) w') : wpList P ops Q (oi :: rest) a w := by
  obtain ⟨v, hrun0, v', he, hk⟩ := h
  obtain rfl : v = v' := by injection he
  refine wpList_plain hg fun K hK => ?_
  have hrun : (execOp a.eval oi).run P w = .ok (.value v) w := by
    unfold execOp
    simp [hop, resolve, Deferred.ofValue, invoke, Act.eval, hargs, hrun0]
  unfold Oper.wp
  rw [hrun, Oper.upon_value]
  subst hd
  exact hK _ _ hk
end
theorem add64_run {P : Program} {f : FuncId} {fn : Func} (hf : P.funcs[f]? = some fn) (h1 : (fn.name == "runtime.NumGoroutine") = false) (h2 : fn.body.isNone = true) (h3 : Extern.findNext fn = none) (h4 : Extern.find fn = some add64Entry) (x y c : Int) (hx : 0 ≤ x) (hy : 0 ≤ y) (hc0 : 0 ≤ c) (hc : c ≤ 1) (w : World) :
    (callFunc f #[.int .u64 x, .int .u64 y, .int .u64 c]).run P w = .ok (.value (.tuple #[.int .u64 ((x + y + c) % 18446744073709551616), .int .u64 ((x + y + c) / 18446744073709551616)])) w := by
  obtain ⟨x, rfl⟩ := Int.eq_ofNat_of_zero_le hx
  obtain ⟨y, rfl⟩ := Int.eq_ofNat_of_zero_le hy
  obtain ⟨c, rfl⟩ := Int.eq_ofNat_of_zero_le hc0
  rw [run_callFunc_extern hf h1 h2 h3 (e := add64Entry) h4, run_add64 x y c (by omega) (by omega) (by omega) (by omega)]
  simp only [Result.andThen]
theorem sub64_run {P : Program} {f : FuncId} {fn : Func} (hf : P.funcs[f]? = some fn) (h1 : (fn.name == "runtime.NumGoroutine") = false) (h2 : fn.body.isNone = true) (h3 : Extern.findNext fn = none) (h4 : Extern.find fn = some sub64Entry) (x y b : Int) (hx : 0 ≤ x) (hy : 0 ≤ y) (hy' : y < 18446744073709551616) (hb0 : 0 ≤ b) (hb : b ≤ 1) (w : World) :
    (callFunc f #[.int .u64 x, .int .u64 y, .int .u64 b]).run P w = .ok (.value (.tuple #[.int .u64 ((x - y - b) % 18446744073709551616), .int .u64 (if x < y + b then 1 else 0)])) w := by
  obtain ⟨x, rfl⟩ := Int.eq_ofNat_of_zero_le hx
  obtain ⟨y, rfl⟩ := Int.eq_ofNat_of_zero_le hy
  obtain ⟨b, rfl⟩ := Int.eq_ofNat_of_zero_le hb0
  have e1 : (((x + 18446744073709551616 - y - b) % 18446744073709551616 : Nat) : Int) = ((x : Int) - y - b) % 18446744073709551616 := by omega
  have e2 : ((if x < y + b then 1 else 0 : Nat) : Int) = if (x : Int) < y + b then 1 else 0 := by split <;> split <;> omega
  rw [← e1, ← e2]
  rw [run_callFunc_extern hf h1 h2 h3 (e := sub64Entry) h4, run_sub64 x y b (by omega)]
  rfl
/-- The sum and its carry; told where both are no negative numbers and the carry is 0 or 1. -/
def bits_Add64.f (x y c : Int) : Option (Int × Int) := if 0 ≤ x ∧ 0 ≤ y ∧ 0 ≤ c ∧ c ≤ 1 then some ((x + y + c) % 18446744073709551616, (x + y + c) / 18446744073709551616) else none
/-- The difference and its borrow; told where both are whole numbers of 64 bits and the borrow is 0 or 1. -/
def bits_Sub64.f (x y b : Int) : Option (Int × Int) := if 0 ≤ x ∧ 0 ≤ y ∧ y < 18446744073709551616 ∧ 0 ≤ b ∧ b ≤ 1 then some ((x - y - b) % 18446744073709551616, if x < y + b then 1 else 0) else none
theorem bits_Add64.calls (x y c r1 r2 : Int) (w : World) (h : bits_Add64.f x y c = some (r1, r2)) : XCalls Tryd.prog 47 #[.int .u64 x, .int .u64 y, .int .u64 c] w fun e w' => e = .returned (.tuple #[.int .u64 r1, .int .u64 r2]) ∧ Below w.heap.size w w' := by
  unfold bits_Add64.f at h
  split at h
  · rename_i hc
    simp only [Option.some.injEq, Prod.mk.injEq] at h
    obtain ⟨rfl, rfl⟩ := h
    exact ⟨_, add64_run Tryd.func47 (by kernel_rfl) (by kernel_rfl) (by kernel_rfl) (by kernel_rfl) x y c hc.1 hc.2.1 hc.2.2.1 hc.2.2.2 w, rfl, Below.refl _ _⟩
  · cases h
theorem bits_Sub64.calls (x y b r1 r2 : Int) (w : World) (h : bits_Sub64.f x y b = some (r1, r2)) : XCalls Tryd.prog 65 #[.int .u64 x, .int .u64 y, .int .u64 b] w fun e w' => e = .returned (.tuple #[.int .u64 r1, .int .u64 r2]) ∧ Below w.heap.size w w' := by
  unfold bits_Sub64.f at h
  split at h
  · rename_i hc
    simp only [Option.some.injEq, Prod.mk.injEq] at h
    obtain ⟨rfl, rfl⟩ := h
    exact ⟨_, sub64_run Tryd.func65 (by kernel_rfl) (by kernel_rfl) (by kernel_rfl) (by kernel_rfl) x y b hc.1 hc.2.1 hc.2.2.1 hc.2.2.2.1 hc.2.2.2.2 w, rfl, Below.refl _ _⟩
  · cases h
/-- How many zeros lead a whole number of 64 bits. -/
def bits_LeadingZeros64.f (x : Int) : Option Int := if 0 ≤ x ∧ x ≤ 18446744073709551615 then some (64 - (Lib.bitLen x.toNat : Int)) else none
theorem bits_LeadingZeros64.calls (x r : Int) (w : World) (h : bits_LeadingZeros64.f x = some r) : Calls Tryd.prog 76 #[.int .u64 x] w fun e w' => e = .returned (.int .i64 r) ∧ Below w.heap.size w w' := by
  unfold bits_LeadingZeros64.f at h
  split at h
  · rename_i hc
    obtain rfl := Option.some.inj h
    refine (Tryd.bits_LeadingZeros64 x w hc.1 hc.2).mono ?_
    rintro e w' ⟨rfl, rfl⟩
    exact ⟨rfl, Below.refl _ _⟩
  · cases h
end Go.Proofs.YtnlmndhmjceajaaDoor.Ext
