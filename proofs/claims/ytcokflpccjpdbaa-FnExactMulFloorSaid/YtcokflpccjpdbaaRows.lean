/-
  No cell of these rows narrows 'for every input' (looked for: loops, veiled, ifaces, maps, wideKeys, modest, calm, conditions, laid).
  DERIVED. THE GIVEN ROWS OF THIS SEAT. 12 by the template 'for every input the law returns true; each argument reads behind the call as it read before'; 0 by the template 'total and deterministic' (their statements: YtcokflpccjpdbaaTotals.lean).
  GIVEN WITH THE SEED: the statements are not yours to turn. If you find one false, say at which input.
  Laid BY PROGRAM, IN A SANDBOX (cutbox-rows.mjs): the forced cells as the released guide's own fill.sh prints them over the translation 54766dc5a6c964e0… (all of the seat's roots in one cut). By AI agents, Wed Nov 11 2026. No macro, syntax, notation, axiom, sorry.
-/
import Derived.Test.YtcokflpccjpdbaaChecked
import GoSem.Claim
import GoSem.ClaimJoined
import GoSem.ClaimMapViews
import Derived.JoinedTies
import Derived.KernelRfl
namespace Go.Proofs.Ytcokflpccjpdbaa
/- THE CELL 'sum', in the pinned program and in every row, IS THE sha256 OF THE DUMP (.gsa) THAT YtcokflpccjpdbaaProg.lean LOADS. Nothing in Lean hashes anything: it is a label: what it is worth is what the hold of that sum in a sandbox is worth. -/
noncomputable def Try.pinned : Pinned := { name := "ytcokflpccjpdbaa", sum := "54766dc5a6c964e0ee3b34eedf7074df6c2cc4f65bf0b8c4f70a8d686816a5b7", checked := Try.checked }
namespace Rows
def none {H : Type} : Left H := { results := [], args := [] }

/-- 'laws.FnExactWideOf': WHATEVER THE INPUT: true; the input reads as it did. -/
def fnExactWideOfSpec : ChangeSpec := { name := "fnExactWideOf", fn := fun _ => fun
  | [d] => { results := [.lit (.bool true)], args := [d] }
  | _ => none }
def fnExactWideOfRow : OpenClaim := { program := "ytcokflpccjpdbaa", sum := "54766dc5a6c964e0ee3b34eedf7074df6c2cc4f65bf0b8c4f70a8d686816a5b7", func := "loop.example/g00880/laws.FnExactWideOf", spec := "fnExactWideOf", apart := false }
def FnExactWideOfSaid : Prop := fnExactWideOfRow.holds Try.pinned (OpenSpec.ofChange fnExactWideOfSpec)

/-- ITS FALSE NEIGHBOUR: 'it returns false'. Refute it at one input. -/
def fnExactWideOfWrong : ChangeSpec := { name := "fnExactWideOf", fn := fun _ => fun
  | [d] => { results := [.lit (.bool false)], args := [d] }
  | _ => none }
def FnExactWideOfWrongFalsely : Prop := fnExactWideOfRow.holds Try.pinned (OpenSpec.ofChange fnExactWideOfWrong)

/-- 'laws.FnExactWideCompare': WHATEVER THE INPUT: true; the input reads as it did. -/
def fnExactWideCompareSpec : ChangeSpec := { name := "fnExactWideCompare", fn := fun _ => fun
  | [d1, d2] => { results := [.lit (.bool true)], args := [d1, d2] }
  | _ => none }
def fnExactWideCompareRow : OpenClaim := { program := "ytcokflpccjpdbaa", sum := "54766dc5a6c964e0ee3b34eedf7074df6c2cc4f65bf0b8c4f70a8d686816a5b7", func := "loop.example/g00880/laws.FnExactWideCompare", spec := "fnExactWideCompare", apart := false }
def FnExactWideCompareSaid : Prop := fnExactWideCompareRow.holds Try.pinned (OpenSpec.ofChange fnExactWideCompareSpec)

/-- ITS FALSE NEIGHBOUR: 'it returns false'. Refute it at one input. -/
def fnExactWideCompareWrong : ChangeSpec := { name := "fnExactWideCompare", fn := fun _ => fun
  | [d1, d2] => { results := [.lit (.bool false)], args := [d1, d2] }
  | _ => none }
def FnExactWideCompareWrongFalsely : Prop := fnExactWideCompareRow.holds Try.pinned (OpenSpec.ofChange fnExactWideCompareWrong)

/-- 'laws.FnExactWideInt': WHATEVER THE INPUT: true; the input reads as it did. -/
def fnExactWideIntSpec : ChangeSpec := { name := "fnExactWideInt", fn := fun _ => fun
  | [d] => { results := [.lit (.bool true)], args := [d] }
  | _ => none }
def fnExactWideIntRow : OpenClaim := { program := "ytcokflpccjpdbaa", sum := "54766dc5a6c964e0ee3b34eedf7074df6c2cc4f65bf0b8c4f70a8d686816a5b7", func := "loop.example/g00880/laws.FnExactWideInt", spec := "fnExactWideInt", apart := false }
def FnExactWideIntSaid : Prop := fnExactWideIntRow.holds Try.pinned (OpenSpec.ofChange fnExactWideIntSpec)

/-- ITS FALSE NEIGHBOUR: 'it returns false'. Refute it at one input. -/
def fnExactWideIntWrong : ChangeSpec := { name := "fnExactWideInt", fn := fun _ => fun
  | [d] => { results := [.lit (.bool false)], args := [d] }
  | _ => none }
def FnExactWideIntWrongFalsely : Prop := fnExactWideIntRow.holds Try.pinned (OpenSpec.ofChange fnExactWideIntWrong)

/-- 'laws.FnExactWideShift': WHATEVER THE INPUT: true; the input reads as it did. -/
def fnExactWideShiftSpec : ChangeSpec := { name := "fnExactWideShift", fn := fun _ => fun
  | [d1, d2] => { results := [.lit (.bool true)], args := [d1, d2] }
  | _ => none }
def fnExactWideShiftRow : OpenClaim := { program := "ytcokflpccjpdbaa", sum := "54766dc5a6c964e0ee3b34eedf7074df6c2cc4f65bf0b8c4f70a8d686816a5b7", func := "loop.example/g00880/laws.FnExactWideShift", spec := "fnExactWideShift", apart := false }
def FnExactWideShiftSaid : Prop := fnExactWideShiftRow.holds Try.pinned (OpenSpec.ofChange fnExactWideShiftSpec)

/-- ITS FALSE NEIGHBOUR: 'it returns false'. Refute it at one input. -/
def fnExactWideShiftWrong : ChangeSpec := { name := "fnExactWideShift", fn := fun _ => fun
  | [d1, d2] => { results := [.lit (.bool false)], args := [d1, d2] }
  | _ => none }
def FnExactWideShiftWrongFalsely : Prop := fnExactWideShiftRow.holds Try.pinned (OpenSpec.ofChange fnExactWideShiftWrong)

/-- 'laws.FnExactWideNeg': WHATEVER THE INPUT: true; the input reads as it did. -/
def fnExactWideNegSpec : ChangeSpec := { name := "fnExactWideNeg", fn := fun _ => fun
  | [d] => { results := [.lit (.bool true)], args := [d] }
  | _ => none }
def fnExactWideNegRow : OpenClaim := { program := "ytcokflpccjpdbaa", sum := "54766dc5a6c964e0ee3b34eedf7074df6c2cc4f65bf0b8c4f70a8d686816a5b7", func := "loop.example/g00880/laws.FnExactWideNeg", spec := "fnExactWideNeg", inPlace := ["math/bits.Sub64"], apart := false }
def FnExactWideNegSaid : Prop := fnExactWideNegRow.holds Try.pinned (OpenSpec.ofChange fnExactWideNegSpec)

/-- ITS FALSE NEIGHBOUR: 'it returns false'. Refute it at one input. -/
def fnExactWideNegWrong : ChangeSpec := { name := "fnExactWideNeg", fn := fun _ => fun
  | [d] => { results := [.lit (.bool false)], args := [d] }
  | _ => none }
def FnExactWideNegWrongFalsely : Prop := fnExactWideNegRow.holds Try.pinned (OpenSpec.ofChange fnExactWideNegWrong)

/-- 'laws.FnExactWideAdd': WHATEVER THE INPUT: true; the input reads as it did. -/
def fnExactWideAddSpec : ChangeSpec := { name := "fnExactWideAdd", fn := fun _ => fun
  | [d1, d2] => { results := [.lit (.bool true)], args := [d1, d2] }
  | _ => none }
def fnExactWideAddRow : OpenClaim := { program := "ytcokflpccjpdbaa", sum := "54766dc5a6c964e0ee3b34eedf7074df6c2cc4f65bf0b8c4f70a8d686816a5b7", func := "loop.example/g00880/laws.FnExactWideAdd", spec := "fnExactWideAdd", inPlace := ["math/bits.Add64"], apart := false }
def FnExactWideAddSaid : Prop := fnExactWideAddRow.holds Try.pinned (OpenSpec.ofChange fnExactWideAddSpec)

/-- ITS FALSE NEIGHBOUR: 'it returns false'. Refute it at one input. -/
def fnExactWideAddWrong : ChangeSpec := { name := "fnExactWideAdd", fn := fun _ => fun
  | [d1, d2] => { results := [.lit (.bool false)], args := [d1, d2] }
  | _ => none }
def FnExactWideAddWrongFalsely : Prop := fnExactWideAddRow.holds Try.pinned (OpenSpec.ofChange fnExactWideAddWrong)

/-- 'laws.FnExactWideSqrt': WHATEVER THE INPUT: true; the input reads as it did. -/
def fnExactWideSqrtSpec : ChangeSpec := { name := "fnExactWideSqrt", fn := fun _ => fun
  | [d] => { results := [.lit (.bool true)], args := [d] }
  | _ => none }
def fnExactWideSqrtRow : OpenClaim := { program := "ytcokflpccjpdbaa", sum := "54766dc5a6c964e0ee3b34eedf7074df6c2cc4f65bf0b8c4f70a8d686816a5b7", func := "loop.example/g00880/laws.FnExactWideSqrt", spec := "fnExactWideSqrt", apart := false }
def FnExactWideSqrtSaid : Prop := fnExactWideSqrtRow.holds Try.pinned (OpenSpec.ofChange fnExactWideSqrtSpec)

/-- ITS FALSE NEIGHBOUR: 'it returns false'. Refute it at one input. -/
def fnExactWideSqrtWrong : ChangeSpec := { name := "fnExactWideSqrt", fn := fun _ => fun
  | [d] => { results := [.lit (.bool false)], args := [d] }
  | _ => none }
def FnExactWideSqrtWrongFalsely : Prop := fnExactWideSqrtRow.holds Try.pinned (OpenSpec.ofChange fnExactWideSqrtWrong)

/-- 'laws.FnExactWideMul': WHATEVER THE INPUT: true; the input reads as it did. -/
def fnExactWideMulSpec : ChangeSpec := { name := "fnExactWideMul", fn := fun _ => fun
  | [d1, d2] => { results := [.lit (.bool true)], args := [d1, d2] }
  | _ => none }
def fnExactWideMulRow : OpenClaim := { program := "ytcokflpccjpdbaa", sum := "54766dc5a6c964e0ee3b34eedf7074df6c2cc4f65bf0b8c4f70a8d686816a5b7", func := "loop.example/g00880/laws.FnExactWideMul", spec := "fnExactWideMul", apart := false }
def FnExactWideMulSaid : Prop := fnExactWideMulRow.holds Try.pinned (OpenSpec.ofChange fnExactWideMulSpec)

/-- ITS FALSE NEIGHBOUR: 'it returns false'. Refute it at one input. -/
def fnExactWideMulWrong : ChangeSpec := { name := "fnExactWideMul", fn := fun _ => fun
  | [d1, d2] => { results := [.lit (.bool false)], args := [d1, d2] }
  | _ => none }
def FnExactWideMulWrongFalsely : Prop := fnExactWideMulRow.holds Try.pinned (OpenSpec.ofChange fnExactWideMulWrong)

/-- 'laws.FnExactSqrtFloor': WHATEVER THE INPUT: true; the input reads as it did. -/
def fnExactSqrtFloorSpec : ChangeSpec := { name := "fnExactSqrtFloor", fn := fun _ => fun
  | [d1, d2] => { results := [.lit (.bool true)], args := [d1, d2] }
  | _ => none }
def fnExactSqrtFloorRow : OpenClaim := { program := "ytcokflpccjpdbaa", sum := "54766dc5a6c964e0ee3b34eedf7074df6c2cc4f65bf0b8c4f70a8d686816a5b7", func := "loop.example/g00880/laws.FnExactSqrtFloor", spec := "fnExactSqrtFloor", apart := false }
def FnExactSqrtFloorSaid : Prop := fnExactSqrtFloorRow.holds Try.pinned (OpenSpec.ofChange fnExactSqrtFloorSpec)

/-- ITS FALSE NEIGHBOUR: 'it returns false'. Refute it at one input. -/
def fnExactSqrtFloorWrong : ChangeSpec := { name := "fnExactSqrtFloor", fn := fun _ => fun
  | [d1, d2] => { results := [.lit (.bool false)], args := [d1, d2] }
  | _ => none }
def FnExactSqrtFloorWrongFalsely : Prop := fnExactSqrtFloorRow.holds Try.pinned (OpenSpec.ofChange fnExactSqrtFloorWrong)

/-- 'laws.FnExactMulFloor': WHATEVER THE INPUT: true; the input reads as it did. -/
def fnExactMulFloorSpec : ChangeSpec := { name := "fnExactMulFloor", fn := fun _ => fun
  | [d1, d2, d3] => { results := [.lit (.bool true)], args := [d1, d2, d3] }
  | _ => none }
def fnExactMulFloorRow : OpenClaim := { program := "ytcokflpccjpdbaa", sum := "54766dc5a6c964e0ee3b34eedf7074df6c2cc4f65bf0b8c4f70a8d686816a5b7", func := "loop.example/g00880/laws.FnExactMulFloor", spec := "fnExactMulFloor", apart := false }
def FnExactMulFloorSaid : Prop := fnExactMulFloorRow.holds Try.pinned (OpenSpec.ofChange fnExactMulFloorSpec)

/-- ITS FALSE NEIGHBOUR: 'it returns false'. Refute it at one input. -/
def fnExactMulFloorWrong : ChangeSpec := { name := "fnExactMulFloor", fn := fun _ => fun
  | [d1, d2, d3] => { results := [.lit (.bool false)], args := [d1, d2, d3] }
  | _ => none }
def FnExactMulFloorWrongFalsely : Prop := fnExactMulFloorRow.holds Try.pinned (OpenSpec.ofChange fnExactMulFloorWrong)

/-- 'laws.FnExactWideDiv': WHATEVER THE INPUT: true; the input reads as it did. -/
def fnExactWideDivSpec : ChangeSpec := { name := "fnExactWideDiv", fn := fun _ => fun
  | [d1, d2] => { results := [.lit (.bool true)], args := [d1, d2] }
  | _ => none }
def fnExactWideDivRow : OpenClaim := { program := "ytcokflpccjpdbaa", sum := "54766dc5a6c964e0ee3b34eedf7074df6c2cc4f65bf0b8c4f70a8d686816a5b7", func := "loop.example/g00880/laws.FnExactWideDiv", spec := "fnExactWideDiv", inPlace := ["math/bits.Sub64", "math/bits.Add64"], named := ["math/bits.divideError", "math/bits.overflowError"], apart := false }
def FnExactWideDivSaid : Prop := fnExactWideDivRow.holds Try.pinned (OpenSpec.ofChange fnExactWideDivSpec)

/-- ITS FALSE NEIGHBOUR: 'it returns false'. Refute it at one input. -/
def fnExactWideDivWrong : ChangeSpec := { name := "fnExactWideDiv", fn := fun _ => fun
  | [d1, d2] => { results := [.lit (.bool false)], args := [d1, d2] }
  | _ => none }
def FnExactWideDivWrongFalsely : Prop := fnExactWideDivRow.holds Try.pinned (OpenSpec.ofChange fnExactWideDivWrong)

/-- 'laws.FnExactMulDivFloor': WHATEVER THE INPUT: true; the input reads as it did. -/
def fnExactMulDivFloorSpec : ChangeSpec := { name := "fnExactMulDivFloor", fn := fun _ => fun
  | [d1, d2, d3] => { results := [.lit (.bool true)], args := [d1, d2, d3] }
  | _ => none }
def fnExactMulDivFloorRow : OpenClaim := { program := "ytcokflpccjpdbaa", sum := "54766dc5a6c964e0ee3b34eedf7074df6c2cc4f65bf0b8c4f70a8d686816a5b7", func := "loop.example/g00880/laws.FnExactMulDivFloor", spec := "fnExactMulDivFloor", inPlace := ["math/bits.Sub64", "math/bits.Add64"], named := ["math/bits.divideError", "math/bits.overflowError"], apart := false }
def FnExactMulDivFloorSaid : Prop := fnExactMulDivFloorRow.holds Try.pinned (OpenSpec.ofChange fnExactMulDivFloorSpec)

/-- ITS FALSE NEIGHBOUR: 'it returns false'. Refute it at one input. -/
def fnExactMulDivFloorWrong : ChangeSpec := { name := "fnExactMulDivFloor", fn := fun _ => fun
  | [d1, d2, d3] => { results := [.lit (.bool false)], args := [d1, d2, d3] }
  | _ => none }
def FnExactMulDivFloorWrongFalsely : Prop := fnExactMulDivFloorRow.holds Try.pinned (OpenSpec.ofChange fnExactMulDivFloorWrong)

/- THE SECOND FORM. 'bulk': how many values and letters a reading holds, each counted each time it is reached (what is shared counts as often as it is met; a slice's spare places count too). A statement '..UptoSaid' is the law's where the arguments, and the package variables that the reading takes, are together of bulk at most 1048576: NARROWER than '..Said'. Prove '..Said' where nothing that the law and all that it calls make is longer than what came in: it says more and counts as full. Else prove '..UptoSaid'. A law counts once. -/
mutual
def uptoBulk {H : Type} : DataW H → Nat
  | .lit (.string bytes) => bytes.length + 1
  | .lit _ => 1
  | .nil => 1
  | .ptr d => uptoBulk d + 1
  | .slice elems spare => uptoBulkAll elems + uptoBulkAll spare + 1
  | .agg parts => uptoBulkAll parts + 1
  | .iface _ d => uptoBulk d + 1
  | .map entries => uptoBulkEntries entries + 1
  | .held _ => 1
def uptoBulkAll {H : Type} : List (DataW H) → Nat
  | [] => 0
  | d :: r => uptoBulk d + uptoBulkAll r
def uptoBulkEntries {H : Type} : List (Lit × DataW H) → Nat
  | [] => 0
  | x :: r => uptoBulkEntry x + uptoBulkEntries r
def uptoBulkEntry {H : Type} : Lit × DataW H → Nat
  | (.string bytes, d) => bytes.length + uptoBulk d + 1
  | (_, d) => uptoBulk d + 1
 end
def uptoSmall : (H : Type) → List (DataW H) → Bool := fun _ ds => decide (uptoBulkAll ds ≤ 1048576)
def OpenSpec.upto (s : _root_.Go.ChangeSpec) : _root_.Go.OpenSpec := { _root_.Go.OpenSpec.ofChange s with cond := some uptoSmall }

/-- 'laws.FnExactWideOf', WHERE WHAT IT READS IS OF BULK AT MOST 1048576: true; the input reads as it did. -/
def fnExactWideOfUptoRow : OpenClaim := { program := "ytcokflpccjpdbaa", sum := "54766dc5a6c964e0ee3b34eedf7074df6c2cc4f65bf0b8c4f70a8d686816a5b7", func := "loop.example/g00880/laws.FnExactWideOf", spec := "fnExactWideOf", apart := false, narrowed := true }
def FnExactWideOfUptoSaid : Prop := fnExactWideOfUptoRow.holds Try.pinned (OpenSpec.upto fnExactWideOfSpec)

/-- 'laws.FnExactWideCompare', WHERE WHAT IT READS IS OF BULK AT MOST 1048576: true; the input reads as it did. -/
def fnExactWideCompareUptoRow : OpenClaim := { program := "ytcokflpccjpdbaa", sum := "54766dc5a6c964e0ee3b34eedf7074df6c2cc4f65bf0b8c4f70a8d686816a5b7", func := "loop.example/g00880/laws.FnExactWideCompare", spec := "fnExactWideCompare", apart := false, narrowed := true }
def FnExactWideCompareUptoSaid : Prop := fnExactWideCompareUptoRow.holds Try.pinned (OpenSpec.upto fnExactWideCompareSpec)

/-- 'laws.FnExactWideInt', WHERE WHAT IT READS IS OF BULK AT MOST 1048576: true; the input reads as it did. -/
def fnExactWideIntUptoRow : OpenClaim := { program := "ytcokflpccjpdbaa", sum := "54766dc5a6c964e0ee3b34eedf7074df6c2cc4f65bf0b8c4f70a8d686816a5b7", func := "loop.example/g00880/laws.FnExactWideInt", spec := "fnExactWideInt", apart := false, narrowed := true }
def FnExactWideIntUptoSaid : Prop := fnExactWideIntUptoRow.holds Try.pinned (OpenSpec.upto fnExactWideIntSpec)

/-- 'laws.FnExactWideShift', WHERE WHAT IT READS IS OF BULK AT MOST 1048576: true; the input reads as it did. -/
def fnExactWideShiftUptoRow : OpenClaim := { program := "ytcokflpccjpdbaa", sum := "54766dc5a6c964e0ee3b34eedf7074df6c2cc4f65bf0b8c4f70a8d686816a5b7", func := "loop.example/g00880/laws.FnExactWideShift", spec := "fnExactWideShift", apart := false, narrowed := true }
def FnExactWideShiftUptoSaid : Prop := fnExactWideShiftUptoRow.holds Try.pinned (OpenSpec.upto fnExactWideShiftSpec)

/-- 'laws.FnExactWideNeg', WHERE WHAT IT READS IS OF BULK AT MOST 1048576: true; the input reads as it did. -/
def fnExactWideNegUptoRow : OpenClaim := { program := "ytcokflpccjpdbaa", sum := "54766dc5a6c964e0ee3b34eedf7074df6c2cc4f65bf0b8c4f70a8d686816a5b7", func := "loop.example/g00880/laws.FnExactWideNeg", spec := "fnExactWideNeg", inPlace := ["math/bits.Sub64"], apart := false, narrowed := true }
def FnExactWideNegUptoSaid : Prop := fnExactWideNegUptoRow.holds Try.pinned (OpenSpec.upto fnExactWideNegSpec)

/-- 'laws.FnExactWideAdd', WHERE WHAT IT READS IS OF BULK AT MOST 1048576: true; the input reads as it did. -/
def fnExactWideAddUptoRow : OpenClaim := { program := "ytcokflpccjpdbaa", sum := "54766dc5a6c964e0ee3b34eedf7074df6c2cc4f65bf0b8c4f70a8d686816a5b7", func := "loop.example/g00880/laws.FnExactWideAdd", spec := "fnExactWideAdd", inPlace := ["math/bits.Add64"], apart := false, narrowed := true }
def FnExactWideAddUptoSaid : Prop := fnExactWideAddUptoRow.holds Try.pinned (OpenSpec.upto fnExactWideAddSpec)

/-- 'laws.FnExactWideSqrt', WHERE WHAT IT READS IS OF BULK AT MOST 1048576: true; the input reads as it did. -/
def fnExactWideSqrtUptoRow : OpenClaim := { program := "ytcokflpccjpdbaa", sum := "54766dc5a6c964e0ee3b34eedf7074df6c2cc4f65bf0b8c4f70a8d686816a5b7", func := "loop.example/g00880/laws.FnExactWideSqrt", spec := "fnExactWideSqrt", apart := false, narrowed := true }
def FnExactWideSqrtUptoSaid : Prop := fnExactWideSqrtUptoRow.holds Try.pinned (OpenSpec.upto fnExactWideSqrtSpec)

/-- 'laws.FnExactWideMul', WHERE WHAT IT READS IS OF BULK AT MOST 1048576: true; the input reads as it did. -/
def fnExactWideMulUptoRow : OpenClaim := { program := "ytcokflpccjpdbaa", sum := "54766dc5a6c964e0ee3b34eedf7074df6c2cc4f65bf0b8c4f70a8d686816a5b7", func := "loop.example/g00880/laws.FnExactWideMul", spec := "fnExactWideMul", apart := false, narrowed := true }
def FnExactWideMulUptoSaid : Prop := fnExactWideMulUptoRow.holds Try.pinned (OpenSpec.upto fnExactWideMulSpec)

/-- 'laws.FnExactSqrtFloor', WHERE WHAT IT READS IS OF BULK AT MOST 1048576: true; the input reads as it did. -/
def fnExactSqrtFloorUptoRow : OpenClaim := { program := "ytcokflpccjpdbaa", sum := "54766dc5a6c964e0ee3b34eedf7074df6c2cc4f65bf0b8c4f70a8d686816a5b7", func := "loop.example/g00880/laws.FnExactSqrtFloor", spec := "fnExactSqrtFloor", apart := false, narrowed := true }
def FnExactSqrtFloorUptoSaid : Prop := fnExactSqrtFloorUptoRow.holds Try.pinned (OpenSpec.upto fnExactSqrtFloorSpec)

/-- 'laws.FnExactMulFloor', WHERE WHAT IT READS IS OF BULK AT MOST 1048576: true; the input reads as it did. -/
def fnExactMulFloorUptoRow : OpenClaim := { program := "ytcokflpccjpdbaa", sum := "54766dc5a6c964e0ee3b34eedf7074df6c2cc4f65bf0b8c4f70a8d686816a5b7", func := "loop.example/g00880/laws.FnExactMulFloor", spec := "fnExactMulFloor", apart := false, narrowed := true }
def FnExactMulFloorUptoSaid : Prop := fnExactMulFloorUptoRow.holds Try.pinned (OpenSpec.upto fnExactMulFloorSpec)

/-- 'laws.FnExactWideDiv', WHERE WHAT IT READS IS OF BULK AT MOST 1048576: true; the input reads as it did. -/
def fnExactWideDivUptoRow : OpenClaim := { program := "ytcokflpccjpdbaa", sum := "54766dc5a6c964e0ee3b34eedf7074df6c2cc4f65bf0b8c4f70a8d686816a5b7", func := "loop.example/g00880/laws.FnExactWideDiv", spec := "fnExactWideDiv", inPlace := ["math/bits.Sub64", "math/bits.Add64"], named := ["math/bits.divideError", "math/bits.overflowError"], apart := false, narrowed := true }
def FnExactWideDivUptoSaid : Prop := fnExactWideDivUptoRow.holds Try.pinned (OpenSpec.upto fnExactWideDivSpec)

/-- 'laws.FnExactMulDivFloor', WHERE WHAT IT READS IS OF BULK AT MOST 1048576: true; the input reads as it did. -/
def fnExactMulDivFloorUptoRow : OpenClaim := { program := "ytcokflpccjpdbaa", sum := "54766dc5a6c964e0ee3b34eedf7074df6c2cc4f65bf0b8c4f70a8d686816a5b7", func := "loop.example/g00880/laws.FnExactMulDivFloor", spec := "fnExactMulDivFloor", inPlace := ["math/bits.Sub64", "math/bits.Add64"], named := ["math/bits.divideError", "math/bits.overflowError"], apart := false, narrowed := true }
def FnExactMulDivFloorUptoSaid : Prop := fnExactMulDivFloorUptoRow.holds Try.pinned (OpenSpec.upto fnExactMulDivFloorSpec)

end Rows
end Go.Proofs.Ytcokflpccjpdbaa
