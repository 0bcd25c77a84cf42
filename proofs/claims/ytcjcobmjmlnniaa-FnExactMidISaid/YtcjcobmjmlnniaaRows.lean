/-
  No cell of these rows narrows 'for every input' (looked for: loops, veiled, ifaces, maps, wideKeys, modest, calm, conditions, laid).
  DERIVED. THE GIVEN ROWS OF THIS SEAT. 12 by the template 'for every input the law returns true; each argument reads behind the call as it read before'; 0 by the template 'total and deterministic' (their statements: YtcjcobmjmlnniaaTotals.lean).
  GIVEN WITH THE SEED: the statements are not yours to turn. If you find one false, say at which input.
  Laid BY PROGRAM, IN A SANDBOX (cutbox-rows.mjs): the forced cells as the released guide's own fill.sh prints them over the translation 73b09abc73dae651… (all of the seat's roots in one cut). By AI agents, Wed Nov 11 2026. No macro, syntax, notation, axiom, sorry.
-/
import Derived.Test.YtcjcobmjmlnniaaChecked
import GoSem.Claim
import GoSem.ClaimJoined
import GoSem.ClaimMapViews
import Derived.JoinedTies
import Derived.KernelRfl
namespace Go.Proofs.Ytcjcobmjmlnniaa
/- THE CELL 'sum', in the pinned program and in every row, IS THE sha256 OF THE DUMP (.gsa) THAT YtcjcobmjmlnniaaProg.lean LOADS. Nothing in Lean hashes anything: it is a label: what it is worth is what the hold of that sum in a sandbox is worth. -/
noncomputable def Try.pinned : Pinned := { name := "ytcjcobmjmlnniaa", sum := "73b09abc73dae651bd9cd9830e30dbbcc63df07d00dbdd72d859a03bcd84a2f8", checked := Try.checked }
namespace Rows
def none {H : Type} : Left H := { results := [], args := [] }

/-- 'laws.FnExactConstants': WHATEVER THE INPUT: true; the input reads as it did. -/
def fnExactConstantsSpec : ChangeSpec := { name := "fnExactConstants", fn := fun _ => fun
  | [] => { results := [.lit (.bool true)], args := [] }
  | _ => none }
def fnExactConstantsRow : OpenClaim := { program := "ytcjcobmjmlnniaa", sum := "73b09abc73dae651bd9cd9830e30dbbcc63df07d00dbdd72d859a03bcd84a2f8", func := "loop.example/g00880/laws.FnExactConstants", spec := "fnExactConstants", apart := false }
def FnExactConstantsSaid : Prop := fnExactConstantsRow.holds Try.pinned (OpenSpec.ofChange fnExactConstantsSpec)

/-- ITS FALSE NEIGHBOUR: 'it returns false'. Refute it at one input. -/
def fnExactConstantsWrong : ChangeSpec := { name := "fnExactConstants", fn := fun _ => fun
  | [] => { results := [.lit (.bool false)], args := [] }
  | _ => none }
def FnExactConstantsWrongFalsely : Prop := fnExactConstantsRow.holds Try.pinned (OpenSpec.ofChange fnExactConstantsWrong)

/-- 'laws.FnExactValidFix': WHATEVER THE INPUT: true; the input reads as it did. -/
def fnExactValidFixSpec : ChangeSpec := { name := "fnExactValidFix", fn := fun _ => fun
  | [d] => { results := [.lit (.bool true)], args := [d] }
  | _ => none }
def fnExactValidFixRow : OpenClaim := { program := "ytcjcobmjmlnniaa", sum := "73b09abc73dae651bd9cd9830e30dbbcc63df07d00dbdd72d859a03bcd84a2f8", func := "loop.example/g00880/laws.FnExactValidFix", spec := "fnExactValidFix", apart := false }
def FnExactValidFixSaid : Prop := fnExactValidFixRow.holds Try.pinned (OpenSpec.ofChange fnExactValidFixSpec)

/-- ITS FALSE NEIGHBOUR: 'it returns false'. Refute it at one input. -/
def fnExactValidFixWrong : ChangeSpec := { name := "fnExactValidFix", fn := fun _ => fun
  | [d] => { results := [.lit (.bool false)], args := [d] }
  | _ => none }
def FnExactValidFixWrongFalsely : Prop := fnExactValidFixRow.holds Try.pinned (OpenSpec.ofChange fnExactValidFixWrong)

/-- 'laws.FnExactValidInterval': WHATEVER THE INPUT: true; the input reads as it did. -/
def fnExactValidIntervalSpec : ChangeSpec := { name := "fnExactValidInterval", fn := fun _ => fun
  | [d] => { results := [.lit (.bool true)], args := [d] }
  | _ => none }
def fnExactValidIntervalRow : OpenClaim := { program := "ytcjcobmjmlnniaa", sum := "73b09abc73dae651bd9cd9830e30dbbcc63df07d00dbdd72d859a03bcd84a2f8", func := "loop.example/g00880/laws.FnExactValidInterval", spec := "fnExactValidInterval", apart := false }
def FnExactValidIntervalSaid : Prop := fnExactValidIntervalRow.holds Try.pinned (OpenSpec.ofChange fnExactValidIntervalSpec)

/-- ITS FALSE NEIGHBOUR: 'it returns false'. Refute it at one input. -/
def fnExactValidIntervalWrong : ChangeSpec := { name := "fnExactValidInterval", fn := fun _ => fun
  | [d] => { results := [.lit (.bool false)], args := [d] }
  | _ => none }
def FnExactValidIntervalWrongFalsely : Prop := fnExactValidIntervalRow.holds Try.pinned (OpenSpec.ofChange fnExactValidIntervalWrong)

/-- 'laws.FnExactIsWhole': WHATEVER THE INPUT: true; the input reads as it did. -/
def fnExactIsWholeSpec : ChangeSpec := { name := "fnExactIsWhole", fn := fun _ => fun
  | [d] => { results := [.lit (.bool true)], args := [d] }
  | _ => none }
def fnExactIsWholeRow : OpenClaim := { program := "ytcjcobmjmlnniaa", sum := "73b09abc73dae651bd9cd9830e30dbbcc63df07d00dbdd72d859a03bcd84a2f8", func := "loop.example/g00880/laws.FnExactIsWhole", spec := "fnExactIsWhole", apart := false }
def FnExactIsWholeSaid : Prop := fnExactIsWholeRow.holds Try.pinned (OpenSpec.ofChange fnExactIsWholeSpec)

/-- ITS FALSE NEIGHBOUR: 'it returns false'. Refute it at one input. -/
def fnExactIsWholeWrong : ChangeSpec := { name := "fnExactIsWhole", fn := fun _ => fun
  | [d] => { results := [.lit (.bool false)], args := [d] }
  | _ => none }
def FnExactIsWholeWrongFalsely : Prop := fnExactIsWholeRow.holds Try.pinned (OpenSpec.ofChange fnExactIsWholeWrong)

/-- 'laws.FnExactWhole': WHATEVER THE INPUT: true; the input reads as it did. -/
def fnExactWholeSpec : ChangeSpec := { name := "fnExactWhole", fn := fun _ => fun
  | [] => { results := [.lit (.bool true)], args := [] }
  | _ => none }
def fnExactWholeRow : OpenClaim := { program := "ytcjcobmjmlnniaa", sum := "73b09abc73dae651bd9cd9830e30dbbcc63df07d00dbdd72d859a03bcd84a2f8", func := "loop.example/g00880/laws.FnExactWhole", spec := "fnExactWhole", apart := false }
def FnExactWholeSaid : Prop := fnExactWholeRow.holds Try.pinned (OpenSpec.ofChange fnExactWholeSpec)

/-- ITS FALSE NEIGHBOUR: 'it returns false'. Refute it at one input. -/
def fnExactWholeWrong : ChangeSpec := { name := "fnExactWhole", fn := fun _ => fun
  | [] => { results := [.lit (.bool false)], args := [] }
  | _ => none }
def FnExactWholeWrongFalsely : Prop := fnExactWholeRow.holds Try.pinned (OpenSpec.ofChange fnExactWholeWrong)

/-- 'laws.FnExactAnswerName': WHATEVER THE INPUT: true; the input reads as it did. -/
def fnExactAnswerNameSpec : ChangeSpec := { name := "fnExactAnswerName", fn := fun _ => fun
  | [d] => { results := [.lit (.bool true)], args := [d] }
  | _ => none }
def fnExactAnswerNameRow : OpenClaim := { program := "ytcjcobmjmlnniaa", sum := "73b09abc73dae651bd9cd9830e30dbbcc63df07d00dbdd72d859a03bcd84a2f8", func := "loop.example/g00880/laws.FnExactAnswerName", spec := "fnExactAnswerName", apart := false }
def FnExactAnswerNameSaid : Prop := fnExactAnswerNameRow.holds Try.pinned (OpenSpec.ofChange fnExactAnswerNameSpec)

/-- ITS FALSE NEIGHBOUR: 'it returns false'. Refute it at one input. -/
def fnExactAnswerNameWrong : ChangeSpec := { name := "fnExactAnswerName", fn := fun _ => fun
  | [d] => { results := [.lit (.bool false)], args := [d] }
  | _ => none }
def FnExactAnswerNameWrongFalsely : Prop := fnExactAnswerNameRow.holds Try.pinned (OpenSpec.ofChange fnExactAnswerNameWrong)

/-- 'laws.FnExactHasI': WHATEVER THE INPUT: true; the input reads as it did. -/
def fnExactHasISpec : ChangeSpec := { name := "fnExactHasI", fn := fun _ => fun
  | [d1, d2] => { results := [.lit (.bool true)], args := [d1, d2] }
  | _ => none }
def fnExactHasIRow : OpenClaim := { program := "ytcjcobmjmlnniaa", sum := "73b09abc73dae651bd9cd9830e30dbbcc63df07d00dbdd72d859a03bcd84a2f8", func := "loop.example/g00880/laws.FnExactHasI", spec := "fnExactHasI", apart := false }
def FnExactHasISaid : Prop := fnExactHasIRow.holds Try.pinned (OpenSpec.ofChange fnExactHasISpec)

/-- ITS FALSE NEIGHBOUR: 'it returns false'. Refute it at one input. -/
def fnExactHasIWrong : ChangeSpec := { name := "fnExactHasI", fn := fun _ => fun
  | [d1, d2] => { results := [.lit (.bool false)], args := [d1, d2] }
  | _ => none }
def FnExactHasIWrongFalsely : Prop := fnExactHasIRow.holds Try.pinned (OpenSpec.ofChange fnExactHasIWrong)

/-- 'laws.FnExactCodeName': WHATEVER THE INPUT: true; the input reads as it did. -/
def fnExactCodeNameSpec : ChangeSpec := { name := "fnExactCodeName", fn := fun _ => fun
  | [d] => { results := [.lit (.bool true)], args := [d] }
  | _ => none }
def fnExactCodeNameRow : OpenClaim := { program := "ytcjcobmjmlnniaa", sum := "73b09abc73dae651bd9cd9830e30dbbcc63df07d00dbdd72d859a03bcd84a2f8", func := "loop.example/g00880/laws.FnExactCodeName", spec := "fnExactCodeName", apart := false }
def FnExactCodeNameSaid : Prop := fnExactCodeNameRow.holds Try.pinned (OpenSpec.ofChange fnExactCodeNameSpec)

/-- ITS FALSE NEIGHBOUR: 'it returns false'. Refute it at one input. -/
def fnExactCodeNameWrong : ChangeSpec := { name := "fnExactCodeName", fn := fun _ => fun
  | [d] => { results := [.lit (.bool false)], args := [d] }
  | _ => none }
def FnExactCodeNameWrongFalsely : Prop := fnExactCodeNameRow.holds Try.pinned (OpenSpec.ofChange fnExactCodeNameWrong)

/-- 'laws.FnExactAndAnswer': WHATEVER THE INPUT: true; the input reads as it did. -/
def fnExactAndAnswerSpec : ChangeSpec := { name := "fnExactAndAnswer", fn := fun _ => fun
  | [d1, d2] => { results := [.lit (.bool true)], args := [d1, d2] }
  | _ => none }
def fnExactAndAnswerRow : OpenClaim := { program := "ytcjcobmjmlnniaa", sum := "73b09abc73dae651bd9cd9830e30dbbcc63df07d00dbdd72d859a03bcd84a2f8", func := "loop.example/g00880/laws.FnExactAndAnswer", spec := "fnExactAndAnswer", apart := false }
def FnExactAndAnswerSaid : Prop := fnExactAndAnswerRow.holds Try.pinned (OpenSpec.ofChange fnExactAndAnswerSpec)

/-- ITS FALSE NEIGHBOUR: 'it returns false'. Refute it at one input. -/
def fnExactAndAnswerWrong : ChangeSpec := { name := "fnExactAndAnswer", fn := fun _ => fun
  | [d1, d2] => { results := [.lit (.bool false)], args := [d1, d2] }
  | _ => none }
def FnExactAndAnswerWrongFalsely : Prop := fnExactAndAnswerRow.holds Try.pinned (OpenSpec.ofChange fnExactAndAnswerWrong)

/-- 'laws.FnExactNotAnswer': WHATEVER THE INPUT: true; the input reads as it did. -/
def fnExactNotAnswerSpec : ChangeSpec := { name := "fnExactNotAnswer", fn := fun _ => fun
  | [d] => { results := [.lit (.bool true)], args := [d] }
  | _ => none }
def fnExactNotAnswerRow : OpenClaim := { program := "ytcjcobmjmlnniaa", sum := "73b09abc73dae651bd9cd9830e30dbbcc63df07d00dbdd72d859a03bcd84a2f8", func := "loop.example/g00880/laws.FnExactNotAnswer", spec := "fnExactNotAnswer", apart := false }
def FnExactNotAnswerSaid : Prop := fnExactNotAnswerRow.holds Try.pinned (OpenSpec.ofChange fnExactNotAnswerSpec)

/-- ITS FALSE NEIGHBOUR: 'it returns false'. Refute it at one input. -/
def fnExactNotAnswerWrong : ChangeSpec := { name := "fnExactNotAnswer", fn := fun _ => fun
  | [d] => { results := [.lit (.bool false)], args := [d] }
  | _ => none }
def FnExactNotAnswerWrongFalsely : Prop := fnExactNotAnswerRow.holds Try.pinned (OpenSpec.ofChange fnExactNotAnswerWrong)

/-- 'laws.FnExactInsideI': WHATEVER THE INPUT: true; the input reads as it did. -/
def fnExactInsideISpec : ChangeSpec := { name := "fnExactInsideI", fn := fun _ => fun
  | [d1, d2] => { results := [.lit (.bool true)], args := [d1, d2] }
  | _ => none }
def fnExactInsideIRow : OpenClaim := { program := "ytcjcobmjmlnniaa", sum := "73b09abc73dae651bd9cd9830e30dbbcc63df07d00dbdd72d859a03bcd84a2f8", func := "loop.example/g00880/laws.FnExactInsideI", spec := "fnExactInsideI", apart := false }
def FnExactInsideISaid : Prop := fnExactInsideIRow.holds Try.pinned (OpenSpec.ofChange fnExactInsideISpec)

/-- ITS FALSE NEIGHBOUR: 'it returns false'. Refute it at one input. -/
def fnExactInsideIWrong : ChangeSpec := { name := "fnExactInsideI", fn := fun _ => fun
  | [d1, d2] => { results := [.lit (.bool false)], args := [d1, d2] }
  | _ => none }
def FnExactInsideIWrongFalsely : Prop := fnExactInsideIRow.holds Try.pinned (OpenSpec.ofChange fnExactInsideIWrong)

/-- 'laws.FnExactMidI': WHATEVER THE INPUT: true; the input reads as it did. -/
def fnExactMidISpec : ChangeSpec := { name := "fnExactMidI", fn := fun _ => fun
  | [d] => { results := [.lit (.bool true)], args := [d] }
  | _ => none }
def fnExactMidIRow : OpenClaim := { program := "ytcjcobmjmlnniaa", sum := "73b09abc73dae651bd9cd9830e30dbbcc63df07d00dbdd72d859a03bcd84a2f8", func := "loop.example/g00880/laws.FnExactMidI", spec := "fnExactMidI", apart := false }
def FnExactMidISaid : Prop := fnExactMidIRow.holds Try.pinned (OpenSpec.ofChange fnExactMidISpec)

/-- ITS FALSE NEIGHBOUR: 'it returns false'. Refute it at one input. -/
def fnExactMidIWrong : ChangeSpec := { name := "fnExactMidI", fn := fun _ => fun
  | [d] => { results := [.lit (.bool false)], args := [d] }
  | _ => none }
def FnExactMidIWrongFalsely : Prop := fnExactMidIRow.holds Try.pinned (OpenSpec.ofChange fnExactMidIWrong)

/- THE SECOND FORM. 'bulk': how many values and letters a reading holds, each counted each time it is reached (what is shared counts as often as it is met; a slice's spare places count too). A statement '..UptoSaid' is the law's where the arguments, and the package variables that the reading takes, are together of bulk at most 1048576: NARROWER than '..Said'. Prove '..Said' where nothing that the law and all that it calls make is longer than what came in: it says more and counts as full. Else prove '..UptoSaid'. A law counts once. -/
mutual
def uptoBulk {H : Type} : DataW H → Nat
  | .lit (.string bytes) => bytes.length + 1
  | .lit _ => 1
  | .nil => 1
  | .ptr d => uptoBulk d + 1
  | .slice elems spare => uptoBulkAll elems + uptoBulkAll spare + 1
  | .agg parts => uptoBulkAll parts + 1
  | .iface _ d => uptoBulk d + 1
  | .map entries => uptoBulkEntries entries + 1
  | .held _ => 1
def uptoBulkAll {H : Type} : List (DataW H) → Nat
  | [] => 0
  | d :: r => uptoBulk d + uptoBulkAll r
def uptoBulkEntries {H : Type} : List (Lit × DataW H) → Nat
  | [] => 0
  | x :: r => uptoBulkEntry x + uptoBulkEntries r
def uptoBulkEntry {H : Type} : Lit × DataW H → Nat
  | (.string bytes, d) => bytes.length + uptoBulk d + 1
  | (_, d) => uptoBulk d + 1
 end
def uptoSmall : (H : Type) → List (DataW H) → Bool := fun _ ds => decide (uptoBulkAll ds ≤ 1048576)
def OpenSpec.upto (s : _root_.Go.ChangeSpec) : _root_.Go.OpenSpec := { _root_.Go.OpenSpec.ofChange s with cond := some uptoSmall }

/-- 'laws.FnExactConstants', WHERE WHAT IT READS IS OF BULK AT MOST 1048576: true; the input reads as it did. -/
def fnExactConstantsUptoRow : OpenClaim := { program := "ytcjcobmjmlnniaa", sum := "73b09abc73dae651bd9cd9830e30dbbcc63df07d00dbdd72d859a03bcd84a2f8", func := "loop.example/g00880/laws.FnExactConstants", spec := "fnExactConstants", apart := false, narrowed := true }
def FnExactConstantsUptoSaid : Prop := fnExactConstantsUptoRow.holds Try.pinned (OpenSpec.upto fnExactConstantsSpec)

/-- 'laws.FnExactValidFix', WHERE WHAT IT READS IS OF BULK AT MOST 1048576: true; the input reads as it did. -/
def fnExactValidFixUptoRow : OpenClaim := { program := "ytcjcobmjmlnniaa", sum := "73b09abc73dae651bd9cd9830e30dbbcc63df07d00dbdd72d859a03bcd84a2f8", func := "loop.example/g00880/laws.FnExactValidFix", spec := "fnExactValidFix", apart := false, narrowed := true }
def FnExactValidFixUptoSaid : Prop := fnExactValidFixUptoRow.holds Try.pinned (OpenSpec.upto fnExactValidFixSpec)

/-- 'laws.FnExactValidInterval', WHERE WHAT IT READS IS OF BULK AT MOST 1048576: true; the input reads as it did. -/
def fnExactValidIntervalUptoRow : OpenClaim := { program := "ytcjcobmjmlnniaa", sum := "73b09abc73dae651bd9cd9830e30dbbcc63df07d00dbdd72d859a03bcd84a2f8", func := "loop.example/g00880/laws.FnExactValidInterval", spec := "fnExactValidInterval", apart := false, narrowed := true }
def FnExactValidIntervalUptoSaid : Prop := fnExactValidIntervalUptoRow.holds Try.pinned (OpenSpec.upto fnExactValidIntervalSpec)

/-- 'laws.FnExactIsWhole', WHERE WHAT IT READS IS OF BULK AT MOST 1048576: true; the input reads as it did. -/
def fnExactIsWholeUptoRow : OpenClaim := { program := "ytcjcobmjmlnniaa", sum := "73b09abc73dae651bd9cd9830e30dbbcc63df07d00dbdd72d859a03bcd84a2f8", func := "loop.example/g00880/laws.FnExactIsWhole", spec := "fnExactIsWhole", apart := false, narrowed := true }
def FnExactIsWholeUptoSaid : Prop := fnExactIsWholeUptoRow.holds Try.pinned (OpenSpec.upto fnExactIsWholeSpec)

/-- 'laws.FnExactWhole', WHERE WHAT IT READS IS OF BULK AT MOST 1048576: true; the input reads as it did. -/
def fnExactWholeUptoRow : OpenClaim := { program := "ytcjcobmjmlnniaa", sum := "73b09abc73dae651bd9cd9830e30dbbcc63df07d00dbdd72d859a03bcd84a2f8", func := "loop.example/g00880/laws.FnExactWhole", spec := "fnExactWhole", apart := false, narrowed := true }
def FnExactWholeUptoSaid : Prop := fnExactWholeUptoRow.holds Try.pinned (OpenSpec.upto fnExactWholeSpec)

/-- 'laws.FnExactAnswerName', WHERE WHAT IT READS IS OF BULK AT MOST 1048576: true; the input reads as it did. -/
def fnExactAnswerNameUptoRow : OpenClaim := { program := "ytcjcobmjmlnniaa", sum := "73b09abc73dae651bd9cd9830e30dbbcc63df07d00dbdd72d859a03bcd84a2f8", func := "loop.example/g00880/laws.FnExactAnswerName", spec := "fnExactAnswerName", apart := false, narrowed := true }
def FnExactAnswerNameUptoSaid : Prop := fnExactAnswerNameUptoRow.holds Try.pinned (OpenSpec.upto fnExactAnswerNameSpec)

/-- 'laws.FnExactHasI', WHERE WHAT IT READS IS OF BULK AT MOST 1048576: true; the input reads as it did. -/
def fnExactHasIUptoRow : OpenClaim := { program := "ytcjcobmjmlnniaa", sum := "73b09abc73dae651bd9cd9830e30dbbcc63df07d00dbdd72d859a03bcd84a2f8", func := "loop.example/g00880/laws.FnExactHasI", spec := "fnExactHasI", apart := false, narrowed := true }
def FnExactHasIUptoSaid : Prop := fnExactHasIUptoRow.holds Try.pinned (OpenSpec.upto fnExactHasISpec)

/-- 'laws.FnExactCodeName', WHERE WHAT IT READS IS OF BULK AT MOST 1048576: true; the input reads as it did. -/
def fnExactCodeNameUptoRow : OpenClaim := { program := "ytcjcobmjmlnniaa", sum := "73b09abc73dae651bd9cd9830e30dbbcc63df07d00dbdd72d859a03bcd84a2f8", func := "loop.example/g00880/laws.FnExactCodeName", spec := "fnExactCodeName", apart := false, narrowed := true }
def FnExactCodeNameUptoSaid : Prop := fnExactCodeNameUptoRow.holds Try.pinned (OpenSpec.upto fnExactCodeNameSpec)

/-- 'laws.FnExactAndAnswer', WHERE WHAT IT READS IS OF BULK AT MOST 1048576: true; the input reads as it did. -/
def fnExactAndAnswerUptoRow : OpenClaim := { program := "ytcjcobmjmlnniaa", sum := "73b09abc73dae651bd9cd9830e30dbbcc63df07d00dbdd72d859a03bcd84a2f8", func := "loop.example/g00880/laws.FnExactAndAnswer", spec := "fnExactAndAnswer", apart := false, narrowed := true }
def FnExactAndAnswerUptoSaid : Prop := fnExactAndAnswerUptoRow.holds Try.pinned (OpenSpec.upto fnExactAndAnswerSpec)

/-- 'laws.FnExactNotAnswer', WHERE WHAT IT READS IS OF BULK AT MOST 1048576: true; the input reads as it did. -/
def fnExactNotAnswerUptoRow : OpenClaim := { program := "ytcjcobmjmlnniaa", sum := "73b09abc73dae651bd9cd9830e30dbbcc63df07d00dbdd72d859a03bcd84a2f8", func := "loop.example/g00880/laws.FnExactNotAnswer", spec := "fnExactNotAnswer", apart := false, narrowed := true }
def FnExactNotAnswerUptoSaid : Prop := fnExactNotAnswerUptoRow.holds Try.pinned (OpenSpec.upto fnExactNotAnswerSpec)

/-- 'laws.FnExactInsideI', WHERE WHAT IT READS IS OF BULK AT MOST 1048576: true; the input reads as it did. -/
def fnExactInsideIUptoRow : OpenClaim := { program := "ytcjcobmjmlnniaa", sum := "73b09abc73dae651bd9cd9830e30dbbcc63df07d00dbdd72d859a03bcd84a2f8", func := "loop.example/g00880/laws.FnExactInsideI", spec := "fnExactInsideI", apart := false, narrowed := true }
def FnExactInsideIUptoSaid : Prop := fnExactInsideIUptoRow.holds Try.pinned (OpenSpec.upto fnExactInsideISpec)

/-- 'laws.FnExactMidI', WHERE WHAT IT READS IS OF BULK AT MOST 1048576: true; the input reads as it did. -/
def fnExactMidIUptoRow : OpenClaim := { program := "ytcjcobmjmlnniaa", sum := "73b09abc73dae651bd9cd9830e30dbbcc63df07d00dbdd72d859a03bcd84a2f8", func := "loop.example/g00880/laws.FnExactMidI", spec := "fnExactMidI", apart := false, narrowed := true }
def FnExactMidIUptoSaid : Prop := fnExactMidIUptoRow.holds Try.pinned (OpenSpec.upto fnExactMidISpec)

end Rows
end Go.Proofs.Ytcjcobmjmlnniaa
