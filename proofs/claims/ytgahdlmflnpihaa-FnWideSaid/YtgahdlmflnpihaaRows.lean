/-
  No cell of these rows narrows 'for every input' (looked for: loops, veiled, ifaces, maps, wideKeys, modest, calm, conditions, laid).
  DERIVED. THE GIVEN ROWS OF THIS SEAT. 10 by the template 'for every input the law returns true; each argument reads behind the call as it read before'; 0 by the template 'total and deterministic' (their statements: YtgahdlmflnpihaaTotals.lean).
  GIVEN WITH THE SEED: the statements are not yours to turn. If you find one false, say at which input.
  Laid BY PROGRAM, IN A SANDBOX (cutbox-rows.mjs): the forced cells as the released guide's own fill.sh prints them over the translation 73dc8a9d453e25d7… (all of the seat's roots in one cut). By AI agents, Wed Nov 11 2026. No macro, syntax, notation, axiom, sorry.
-/
import Derived.Test.YtgahdlmflnpihaaChecked
import GoSem.Claim
import GoSem.ClaimJoined
import GoSem.ClaimMapViews
import Derived.JoinedTies
import Derived.KernelRfl
namespace Go.Proofs.Ytgahdlmflnpihaa
/- THE CELL 'sum', in the pinned program and in every row, IS THE sha256 OF THE DUMP (.gsa) THAT YtgahdlmflnpihaaProg.lean LOADS. Nothing in Lean hashes anything: it is a label: what it is worth is what the hold of that sum in a sandbox is worth. -/
noncomputable def Try.pinned : Pinned := { name := "ytgahdlmflnpihaa", sum := "73dc8a9d453e25d7614de8d61d4f42f0820d7116fcb8cd9d56a27450359c736a", checked := Try.checked }
namespace Rows
def none {H : Type} : Left H := { results := [], args := [] }

/-- 'laws.FnWide': WHATEVER THE INPUT: true; the input reads as it did. -/
def fnWideSpec : ChangeSpec := { name := "fnWide", fn := fun _ => fun
  | [d1, d2] => { results := [.lit (.bool true)], args := [d1, d2] }
  | _ => none }
def fnWideRow : OpenClaim := { program := "ytgahdlmflnpihaa", sum := "73dc8a9d453e25d7614de8d61d4f42f0820d7116fcb8cd9d56a27450359c736a", func := "loop.example/g00880/laws.FnWide", spec := "fnWide", inPlace := ["math/bits.Sub64", "math/bits.Add64"], named := ["math/bits.divideError", "math/bits.overflowError"], apart := false }
def FnWideSaid : Prop := fnWideRow.holds Try.pinned (OpenSpec.ofChange fnWideSpec)

/-- ITS FALSE NEIGHBOUR: 'it returns false'. Refute it at one input. -/
def fnWideWrong : ChangeSpec := { name := "fnWide", fn := fun _ => fun
  | [d1, d2] => { results := [.lit (.bool false)], args := [d1, d2] }
  | _ => none }
def FnWideWrongFalsely : Prop := fnWideRow.holds Try.pinned (OpenSpec.ofChange fnWideWrong)

/-- 'laws.FnProducts': WHATEVER THE INPUT: true; the input reads as it did. -/
def fnProductsSpec : ChangeSpec := { name := "fnProducts", fn := fun _ => fun
  | [d1, d2] => { results := [.lit (.bool true)], args := [d1, d2] }
  | _ => none }
def fnProductsRow : OpenClaim := { program := "ytgahdlmflnpihaa", sum := "73dc8a9d453e25d7614de8d61d4f42f0820d7116fcb8cd9d56a27450359c736a", func := "loop.example/g00880/laws.FnProducts", spec := "fnProducts", inPlace := ["math/bits.Sub64", "math/bits.Add64"], named := ["math/bits.divideError", "math/bits.overflowError"], apart := false }
def FnProductsSaid : Prop := fnProductsRow.holds Try.pinned (OpenSpec.ofChange fnProductsSpec)

/-- ITS FALSE NEIGHBOUR: 'it returns false'. Refute it at one input. -/
def fnProductsWrong : ChangeSpec := { name := "fnProducts", fn := fun _ => fun
  | [d1, d2] => { results := [.lit (.bool false)], args := [d1, d2] }
  | _ => none }
def FnProductsWrongFalsely : Prop := fnProductsRow.holds Try.pinned (OpenSpec.ofChange fnProductsWrong)

/-- 'laws.FnExactSqrtDown': WHATEVER THE INPUT: true; the input reads as it did. -/
def fnExactSqrtDownSpec : ChangeSpec := { name := "fnExactSqrtDown", fn := fun _ => fun
  | [d] => { results := [.lit (.bool true)], args := [d] }
  | _ => none }
def fnExactSqrtDownRow : OpenClaim := { program := "ytgahdlmflnpihaa", sum := "73dc8a9d453e25d7614de8d61d4f42f0820d7116fcb8cd9d56a27450359c736a", func := "loop.example/g00880/laws.FnExactSqrtDown", spec := "fnExactSqrtDown", apart := false }
def FnExactSqrtDownSaid : Prop := fnExactSqrtDownRow.holds Try.pinned (OpenSpec.ofChange fnExactSqrtDownSpec)

/-- ITS FALSE NEIGHBOUR: 'it returns false'. Refute it at one input. -/
def fnExactSqrtDownWrong : ChangeSpec := { name := "fnExactSqrtDown", fn := fun _ => fun
  | [d] => { results := [.lit (.bool false)], args := [d] }
  | _ => none }
def FnExactSqrtDownWrongFalsely : Prop := fnExactSqrtDownRow.holds Try.pinned (OpenSpec.ofChange fnExactSqrtDownWrong)

/-- 'laws.FnExactMulDown': WHATEVER THE INPUT: true; the input reads as it did. -/
def fnExactMulDownSpec : ChangeSpec := { name := "fnExactMulDown", fn := fun _ => fun
  | [d1, d2] => { results := [.lit (.bool true)], args := [d1, d2] }
  | _ => none }
def fnExactMulDownRow : OpenClaim := { program := "ytgahdlmflnpihaa", sum := "73dc8a9d453e25d7614de8d61d4f42f0820d7116fcb8cd9d56a27450359c736a", func := "loop.example/g00880/laws.FnExactMulDown", spec := "fnExactMulDown", apart := false }
def FnExactMulDownSaid : Prop := fnExactMulDownRow.holds Try.pinned (OpenSpec.ofChange fnExactMulDownSpec)

/-- ITS FALSE NEIGHBOUR: 'it returns false'. Refute it at one input. -/
def fnExactMulDownWrong : ChangeSpec := { name := "fnExactMulDown", fn := fun _ => fun
  | [d1, d2] => { results := [.lit (.bool false)], args := [d1, d2] }
  | _ => none }
def FnExactMulDownWrongFalsely : Prop := fnExactMulDownRow.holds Try.pinned (OpenSpec.ofChange fnExactMulDownWrong)

/-- 'laws.FnExactMulUp': WHATEVER THE INPUT: true; the input reads as it did. -/
def fnExactMulUpSpec : ChangeSpec := { name := "fnExactMulUp", fn := fun _ => fun
  | [d1, d2] => { results := [.lit (.bool true)], args := [d1, d2] }
  | _ => none }
def fnExactMulUpRow : OpenClaim := { program := "ytgahdlmflnpihaa", sum := "73dc8a9d453e25d7614de8d61d4f42f0820d7116fcb8cd9d56a27450359c736a", func := "loop.example/g00880/laws.FnExactMulUp", spec := "fnExactMulUp", apart := false }
def FnExactMulUpSaid : Prop := fnExactMulUpRow.holds Try.pinned (OpenSpec.ofChange fnExactMulUpSpec)

/-- ITS FALSE NEIGHBOUR: 'it returns false'. Refute it at one input. -/
def fnExactMulUpWrong : ChangeSpec := { name := "fnExactMulUp", fn := fun _ => fun
  | [d1, d2] => { results := [.lit (.bool false)], args := [d1, d2] }
  | _ => none }
def FnExactMulUpWrongFalsely : Prop := fnExactMulUpRow.holds Try.pinned (OpenSpec.ofChange fnExactMulUpWrong)

/-- 'laws.FnExactSqrtUp': WHATEVER THE INPUT: true; the input reads as it did. -/
def fnExactSqrtUpSpec : ChangeSpec := { name := "fnExactSqrtUp", fn := fun _ => fun
  | [d] => { results := [.lit (.bool true)], args := [d] }
  | _ => none }
def fnExactSqrtUpRow : OpenClaim := { program := "ytgahdlmflnpihaa", sum := "73dc8a9d453e25d7614de8d61d4f42f0820d7116fcb8cd9d56a27450359c736a", func := "loop.example/g00880/laws.FnExactSqrtUp", spec := "fnExactSqrtUp", apart := false }
def FnExactSqrtUpSaid : Prop := fnExactSqrtUpRow.holds Try.pinned (OpenSpec.ofChange fnExactSqrtUpSpec)

/-- ITS FALSE NEIGHBOUR: 'it returns false'. Refute it at one input. -/
def fnExactSqrtUpWrong : ChangeSpec := { name := "fnExactSqrtUp", fn := fun _ => fun
  | [d] => { results := [.lit (.bool false)], args := [d] }
  | _ => none }
def FnExactSqrtUpWrongFalsely : Prop := fnExactSqrtUpRow.holds Try.pinned (OpenSpec.ofChange fnExactSqrtUpWrong)

/-- 'laws.FnExactFixFloor': WHATEVER THE INPUT: true; the input reads as it did. -/
def fnExactFixFloorSpec : ChangeSpec := { name := "fnExactFixFloor", fn := fun _ => fun
  | [d1, d2] => { results := [.lit (.bool true)], args := [d1, d2] }
  | _ => none }
def fnExactFixFloorRow : OpenClaim := { program := "ytgahdlmflnpihaa", sum := "73dc8a9d453e25d7614de8d61d4f42f0820d7116fcb8cd9d56a27450359c736a", func := "loop.example/g00880/laws.FnExactFixFloor", spec := "fnExactFixFloor", inPlace := ["math/bits.Sub64", "math/bits.Add64"], named := ["math/bits.divideError", "math/bits.overflowError"], apart := false }
def FnExactFixFloorSaid : Prop := fnExactFixFloorRow.holds Try.pinned (OpenSpec.ofChange fnExactFixFloorSpec)

/-- ITS FALSE NEIGHBOUR: 'it returns false'. Refute it at one input. -/
def fnExactFixFloorWrong : ChangeSpec := { name := "fnExactFixFloor", fn := fun _ => fun
  | [d1, d2] => { results := [.lit (.bool false)], args := [d1, d2] }
  | _ => none }
def FnExactFixFloorWrongFalsely : Prop := fnExactFixFloorRow.holds Try.pinned (OpenSpec.ofChange fnExactFixFloorWrong)

/-- 'laws.FnExactDivDown': WHATEVER THE INPUT: true; the input reads as it did. -/
def fnExactDivDownSpec : ChangeSpec := { name := "fnExactDivDown", fn := fun _ => fun
  | [d1, d2] => { results := [.lit (.bool true)], args := [d1, d2] }
  | _ => none }
def fnExactDivDownRow : OpenClaim := { program := "ytgahdlmflnpihaa", sum := "73dc8a9d453e25d7614de8d61d4f42f0820d7116fcb8cd9d56a27450359c736a", func := "loop.example/g00880/laws.FnExactDivDown", spec := "fnExactDivDown", inPlace := ["math/bits.Sub64", "math/bits.Add64"], named := ["math/bits.divideError", "math/bits.overflowError"], apart := false }
def FnExactDivDownSaid : Prop := fnExactDivDownRow.holds Try.pinned (OpenSpec.ofChange fnExactDivDownSpec)

/-- ITS FALSE NEIGHBOUR: 'it returns false'. Refute it at one input. -/
def fnExactDivDownWrong : ChangeSpec := { name := "fnExactDivDown", fn := fun _ => fun
  | [d1, d2] => { results := [.lit (.bool false)], args := [d1, d2] }
  | _ => none }
def FnExactDivDownWrongFalsely : Prop := fnExactDivDownRow.holds Try.pinned (OpenSpec.ofChange fnExactDivDownWrong)

/-- 'laws.FnExactFixCeil': WHATEVER THE INPUT: true; the input reads as it did. -/
def fnExactFixCeilSpec : ChangeSpec := { name := "fnExactFixCeil", fn := fun _ => fun
  | [d1, d2] => { results := [.lit (.bool true)], args := [d1, d2] }
  | _ => none }
def fnExactFixCeilRow : OpenClaim := { program := "ytgahdlmflnpihaa", sum := "73dc8a9d453e25d7614de8d61d4f42f0820d7116fcb8cd9d56a27450359c736a", func := "loop.example/g00880/laws.FnExactFixCeil", spec := "fnExactFixCeil", inPlace := ["math/bits.Sub64", "math/bits.Add64"], named := ["math/bits.divideError", "math/bits.overflowError"], apart := false }
def FnExactFixCeilSaid : Prop := fnExactFixCeilRow.holds Try.pinned (OpenSpec.ofChange fnExactFixCeilSpec)

/-- ITS FALSE NEIGHBOUR: 'it returns false'. Refute it at one input. -/
def fnExactFixCeilWrong : ChangeSpec := { name := "fnExactFixCeil", fn := fun _ => fun
  | [d1, d2] => { results := [.lit (.bool false)], args := [d1, d2] }
  | _ => none }
def FnExactFixCeilWrongFalsely : Prop := fnExactFixCeilRow.holds Try.pinned (OpenSpec.ofChange fnExactFixCeilWrong)

/-- 'laws.FnExactDivUp': WHATEVER THE INPUT: true; the input reads as it did. -/
def fnExactDivUpSpec : ChangeSpec := { name := "fnExactDivUp", fn := fun _ => fun
  | [d1, d2] => { results := [.lit (.bool true)], args := [d1, d2] }
  | _ => none }
def fnExactDivUpRow : OpenClaim := { program := "ytgahdlmflnpihaa", sum := "73dc8a9d453e25d7614de8d61d4f42f0820d7116fcb8cd9d56a27450359c736a", func := "loop.example/g00880/laws.FnExactDivUp", spec := "fnExactDivUp", inPlace := ["math/bits.Sub64", "math/bits.Add64"], named := ["math/bits.divideError", "math/bits.overflowError"], apart := false }
def FnExactDivUpSaid : Prop := fnExactDivUpRow.holds Try.pinned (OpenSpec.ofChange fnExactDivUpSpec)

/-- ITS FALSE NEIGHBOUR: 'it returns false'. Refute it at one input. -/
def fnExactDivUpWrong : ChangeSpec := { name := "fnExactDivUp", fn := fun _ => fun
  | [d1, d2] => { results := [.lit (.bool false)], args := [d1, d2] }
  | _ => none }
def FnExactDivUpWrongFalsely : Prop := fnExactDivUpRow.holds Try.pinned (OpenSpec.ofChange fnExactDivUpWrong)

/- THE SECOND FORM. 'bulk': how many values and letters a reading holds, each counted each time it is reached (what is shared counts as often as it is met; a slice's spare places count too). A statement '..UptoSaid' is the law's where the arguments, and the package variables that the reading takes, are together of bulk at most 1048576: NARROWER than '..Said'. Prove '..Said' where nothing that the law and all that it calls make is longer than what came in: it says more and counts as full. Else prove '..UptoSaid'. A law counts once. -/
mutual
def uptoBulk {H : Type} : DataW H → Nat
  | .lit (.string bytes) => bytes.length + 1
  | .lit _ => 1
  | .nil => 1
  | .ptr d => uptoBulk d + 1
  | .slice elems spare => uptoBulkAll elems + uptoBulkAll spare + 1
  | .agg parts => uptoBulkAll parts + 1
  | .iface _ d => uptoBulk d + 1
  | .map entries => uptoBulkEntries entries + 1
  | .held _ => 1
def uptoBulkAll {H : Type} : List (DataW H) → Nat
  | [] => 0
  | d :: r => uptoBulk d + uptoBulkAll r
def uptoBulkEntries {H : Type} : List (Lit × DataW H) → Nat
  | [] => 0
  | x :: r => uptoBulkEntry x + uptoBulkEntries r
def uptoBulkEntry {H : Type} : Lit × DataW H → Nat
  | (.string bytes, d) => bytes.length + uptoBulk d + 1
  | (_, d) => uptoBulk d + 1
 end
def uptoSmall : (H : Type) → List (DataW H) → Bool := fun _ ds => decide (uptoBulkAll ds ≤ 1048576)
def OpenSpec.upto (s : _root_.Go.ChangeSpec) : _root_.Go.OpenSpec := { _root_.Go.OpenSpec.ofChange s with cond := some uptoSmall }

/-- 'laws.FnWide', WHERE WHAT IT READS IS OF BULK AT MOST 1048576: true; the input reads as it did. -/
def fnWideUptoRow : OpenClaim := { program := "ytgahdlmflnpihaa", sum := "73dc8a9d453e25d7614de8d61d4f42f0820d7116fcb8cd9d56a27450359c736a", func := "loop.example/g00880/laws.FnWide", spec := "fnWide", inPlace := ["math/bits.Sub64", "math/bits.Add64"], named := ["math/bits.divideError", "math/bits.overflowError"], apart := false, narrowed := true }
def FnWideUptoSaid : Prop := fnWideUptoRow.holds Try.pinned (OpenSpec.upto fnWideSpec)

/-- 'laws.FnProducts', WHERE WHAT IT READS IS OF BULK AT MOST 1048576: true; the input reads as it did. -/
def fnProductsUptoRow : OpenClaim := { program := "ytgahdlmflnpihaa", sum := "73dc8a9d453e25d7614de8d61d4f42f0820d7116fcb8cd9d56a27450359c736a", func := "loop.example/g00880/laws.FnProducts", spec := "fnProducts", inPlace := ["math/bits.Sub64", "math/bits.Add64"], named := ["math/bits.divideError", "math/bits.overflowError"], apart := false, narrowed := true }
def FnProductsUptoSaid : Prop := fnProductsUptoRow.holds Try.pinned (OpenSpec.upto fnProductsSpec)

/-- 'laws.FnExactSqrtDown', WHERE WHAT IT READS IS OF BULK AT MOST 1048576: true; the input reads as it did. -/
def fnExactSqrtDownUptoRow : OpenClaim := { program := "ytgahdlmflnpihaa", sum := "73dc8a9d453e25d7614de8d61d4f42f0820d7116fcb8cd9d56a27450359c736a", func := "loop.example/g00880/laws.FnExactSqrtDown", spec := "fnExactSqrtDown", apart := false, narrowed := true }
def FnExactSqrtDownUptoSaid : Prop := fnExactSqrtDownUptoRow.holds Try.pinned (OpenSpec.upto fnExactSqrtDownSpec)

/-- 'laws.FnExactMulDown', WHERE WHAT IT READS IS OF BULK AT MOST 1048576: true; the input reads as it did. -/
def fnExactMulDownUptoRow : OpenClaim := { program := "ytgahdlmflnpihaa", sum := "73dc8a9d453e25d7614de8d61d4f42f0820d7116fcb8cd9d56a27450359c736a", func := "loop.example/g00880/laws.FnExactMulDown", spec := "fnExactMulDown", apart := false, narrowed := true }
def FnExactMulDownUptoSaid : Prop := fnExactMulDownUptoRow.holds Try.pinned (OpenSpec.upto fnExactMulDownSpec)

/-- 'laws.FnExactMulUp', WHERE WHAT IT READS IS OF BULK AT MOST 1048576: true; the input reads as it did. -/
def fnExactMulUpUptoRow : OpenClaim := { program := "ytgahdlmflnpihaa", sum := "73dc8a9d453e25d7614de8d61d4f42f0820d7116fcb8cd9d56a27450359c736a", func := "loop.example/g00880/laws.FnExactMulUp", spec := "fnExactMulUp", apart := false, narrowed := true }
def FnExactMulUpUptoSaid : Prop := fnExactMulUpUptoRow.holds Try.pinned (OpenSpec.upto fnExactMulUpSpec)

/-- 'laws.FnExactSqrtUp', WHERE WHAT IT READS IS OF BULK AT MOST 1048576: true; the input reads as it did. -/
def fnExactSqrtUpUptoRow : OpenClaim := { program := "ytgahdlmflnpihaa", sum := "73dc8a9d453e25d7614de8d61d4f42f0820d7116fcb8cd9d56a27450359c736a", func := "loop.example/g00880/laws.FnExactSqrtUp", spec := "fnExactSqrtUp", apart := false, narrowed := true }
def FnExactSqrtUpUptoSaid : Prop := fnExactSqrtUpUptoRow.holds Try.pinned (OpenSpec.upto fnExactSqrtUpSpec)

/-- 'laws.FnExactFixFloor', WHERE WHAT IT READS IS OF BULK AT MOST 1048576: true; the input reads as it did. -/
def fnExactFixFloorUptoRow : OpenClaim := { program := "ytgahdlmflnpihaa", sum := "73dc8a9d453e25d7614de8d61d4f42f0820d7116fcb8cd9d56a27450359c736a", func := "loop.example/g00880/laws.FnExactFixFloor", spec := "fnExactFixFloor", inPlace := ["math/bits.Sub64", "math/bits.Add64"], named := ["math/bits.divideError", "math/bits.overflowError"], apart := false, narrowed := true }
def FnExactFixFloorUptoSaid : Prop := fnExactFixFloorUptoRow.holds Try.pinned (OpenSpec.upto fnExactFixFloorSpec)

/-- 'laws.FnExactDivDown', WHERE WHAT IT READS IS OF BULK AT MOST 1048576: true; the input reads as it did. -/
def fnExactDivDownUptoRow : OpenClaim := { program := "ytgahdlmflnpihaa", sum := "73dc8a9d453e25d7614de8d61d4f42f0820d7116fcb8cd9d56a27450359c736a", func := "loop.example/g00880/laws.FnExactDivDown", spec := "fnExactDivDown", inPlace := ["math/bits.Sub64", "math/bits.Add64"], named := ["math/bits.divideError", "math/bits.overflowError"], apart := false, narrowed := true }
def FnExactDivDownUptoSaid : Prop := fnExactDivDownUptoRow.holds Try.pinned (OpenSpec.upto fnExactDivDownSpec)

/-- 'laws.FnExactFixCeil', WHERE WHAT IT READS IS OF BULK AT MOST 1048576: true; the input reads as it did. -/
def fnExactFixCeilUptoRow : OpenClaim := { program := "ytgahdlmflnpihaa", sum := "73dc8a9d453e25d7614de8d61d4f42f0820d7116fcb8cd9d56a27450359c736a", func := "loop.example/g00880/laws.FnExactFixCeil", spec := "fnExactFixCeil", inPlace := ["math/bits.Sub64", "math/bits.Add64"], named := ["math/bits.divideError", "math/bits.overflowError"], apart := false, narrowed := true }
def FnExactFixCeilUptoSaid : Prop := fnExactFixCeilUptoRow.holds Try.pinned (OpenSpec.upto fnExactFixCeilSpec)

/-- 'laws.FnExactDivUp', WHERE WHAT IT READS IS OF BULK AT MOST 1048576: true; the input reads as it did. -/
def fnExactDivUpUptoRow : OpenClaim := { program := "ytgahdlmflnpihaa", sum := "73dc8a9d453e25d7614de8d61d4f42f0820d7116fcb8cd9d56a27450359c736a", func := "loop.example/g00880/laws.FnExactDivUp", spec := "fnExactDivUp", inPlace := ["math/bits.Sub64", "math/bits.Add64"], named := ["math/bits.divideError", "math/bits.overflowError"], apart := false, narrowed := true }
def FnExactDivUpUptoSaid : Prop := fnExactDivUpUptoRow.holds Try.pinned (OpenSpec.upto fnExactDivUpSpec)

end Rows
end Go.Proofs.Ytgahdlmflnpihaa
