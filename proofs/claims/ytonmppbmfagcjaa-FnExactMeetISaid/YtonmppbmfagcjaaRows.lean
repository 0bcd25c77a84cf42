/-
  No cell of these rows narrows 'for every input' (looked for: loops, veiled, ifaces, maps, wideKeys, modest, calm, conditions, laid).
  DERIVED. THE GIVEN ROWS OF THIS SEAT. 14 by the template 'for every input the law returns true; each argument reads behind the call as it read before'; 0 by the template 'total and deterministic' (their statements: YtonmppbmfagcjaaTotals.lean).
  GIVEN WITH THE SEED: the statements are not yours to turn. If you find one false, say at which input.
  Laid BY PROGRAM, IN A SANDBOX (cutbox-rows.mjs): the forced cells as the released guide's own fill.sh prints them over the translation ff0a86a9ac264669… (all of the seat's roots in one cut). By AI agents, Wed Nov 11 2026. No macro, syntax, notation, axiom, sorry.
-/
import Derived.Test.YtonmppbmfagcjaaChecked
import GoSem.Claim
import GoSem.ClaimJoined
import GoSem.ClaimMapViews
import Derived.JoinedTies
import Derived.KernelRfl
namespace Go.Proofs.Ytonmppbmfagcjaa
/- THE CELL 'sum', in the pinned program and in every row, IS THE sha256 OF THE DUMP (.gsa) THAT YtonmppbmfagcjaaProg.lean LOADS. Nothing in Lean hashes anything: it is a label: what it is worth is what the hold of that sum in a sandbox is worth. -/
noncomputable def Try.pinned : Pinned := { name := "ytonmppbmfagcjaa", sum := "ff0a86a9ac264669e19b74f1ecd7a616490a3a2470404d2344917687276a982a", checked := Try.checked }
namespace Rows
def none {H : Type} : Left H := { results := [], args := [] }

/-- 'laws.FnExactWidthI': WHATEVER THE INPUT: true; the input reads as it did. -/
def fnExactWidthISpec : ChangeSpec := { name := "fnExactWidthI", fn := fun _ => fun
  | [d] => { results := [.lit (.bool true)], args := [d] }
  | _ => none }
def fnExactWidthIRow : OpenClaim := { program := "ytonmppbmfagcjaa", sum := "ff0a86a9ac264669e19b74f1ecd7a616490a3a2470404d2344917687276a982a", func := "loop.example/g00880/laws.FnExactWidthI", spec := "fnExactWidthI", apart := false }
def FnExactWidthISaid : Prop := fnExactWidthIRow.holds Try.pinned (OpenSpec.ofChange fnExactWidthISpec)

/-- ITS FALSE NEIGHBOUR: 'it returns false'. Refute it at one input. -/
def fnExactWidthIWrong : ChangeSpec := { name := "fnExactWidthI", fn := fun _ => fun
  | [d] => { results := [.lit (.bool false)], args := [d] }
  | _ => none }
def FnExactWidthIWrongFalsely : Prop := fnExactWidthIRow.holds Try.pinned (OpenSpec.ofChange fnExactWidthIWrong)

/-- 'laws.FnExactLessI': WHATEVER THE INPUT: true; the input reads as it did. -/
def fnExactLessISpec : ChangeSpec := { name := "fnExactLessI", fn := fun _ => fun
  | [d1, d2] => { results := [.lit (.bool true)], args := [d1, d2] }
  | _ => none }
def fnExactLessIRow : OpenClaim := { program := "ytonmppbmfagcjaa", sum := "ff0a86a9ac264669e19b74f1ecd7a616490a3a2470404d2344917687276a982a", func := "loop.example/g00880/laws.FnExactLessI", spec := "fnExactLessI", apart := false }
def FnExactLessISaid : Prop := fnExactLessIRow.holds Try.pinned (OpenSpec.ofChange fnExactLessISpec)

/-- ITS FALSE NEIGHBOUR: 'it returns false'. Refute it at one input. -/
def fnExactLessIWrong : ChangeSpec := { name := "fnExactLessI", fn := fun _ => fun
  | [d1, d2] => { results := [.lit (.bool false)], args := [d1, d2] }
  | _ => none }
def FnExactLessIWrongFalsely : Prop := fnExactLessIRow.holds Try.pinned (OpenSpec.ofChange fnExactLessIWrong)

/-- 'laws.FnExactOrAnswer': WHATEVER THE INPUT: true; the input reads as it did. -/
def fnExactOrAnswerSpec : ChangeSpec := { name := "fnExactOrAnswer", fn := fun _ => fun
  | [d1, d2] => { results := [.lit (.bool true)], args := [d1, d2] }
  | _ => none }
def fnExactOrAnswerRow : OpenClaim := { program := "ytonmppbmfagcjaa", sum := "ff0a86a9ac264669e19b74f1ecd7a616490a3a2470404d2344917687276a982a", func := "loop.example/g00880/laws.FnExactOrAnswer", spec := "fnExactOrAnswer", apart := false }
def FnExactOrAnswerSaid : Prop := fnExactOrAnswerRow.holds Try.pinned (OpenSpec.ofChange fnExactOrAnswerSpec)

/-- ITS FALSE NEIGHBOUR: 'it returns false'. Refute it at one input. -/
def fnExactOrAnswerWrong : ChangeSpec := { name := "fnExactOrAnswer", fn := fun _ => fun
  | [d1, d2] => { results := [.lit (.bool false)], args := [d1, d2] }
  | _ => none }
def FnExactOrAnswerWrongFalsely : Prop := fnExactOrAnswerRow.holds Try.pinned (OpenSpec.ofChange fnExactOrAnswerWrong)

/-- 'laws.FnExactHalfI': WHATEVER THE INPUT: true; the input reads as it did. -/
def fnExactHalfISpec : ChangeSpec := { name := "fnExactHalfI", fn := fun _ => fun
  | [d] => { results := [.lit (.bool true)], args := [d] }
  | _ => none }
def fnExactHalfIRow : OpenClaim := { program := "ytonmppbmfagcjaa", sum := "ff0a86a9ac264669e19b74f1ecd7a616490a3a2470404d2344917687276a982a", func := "loop.example/g00880/laws.FnExactHalfI", spec := "fnExactHalfI", apart := false }
def FnExactHalfISaid : Prop := fnExactHalfIRow.holds Try.pinned (OpenSpec.ofChange fnExactHalfISpec)

/-- ITS FALSE NEIGHBOUR: 'it returns false'. Refute it at one input. -/
def fnExactHalfIWrong : ChangeSpec := { name := "fnExactHalfI", fn := fun _ => fun
  | [d] => { results := [.lit (.bool false)], args := [d] }
  | _ => none }
def FnExactHalfIWrongFalsely : Prop := fnExactHalfIRow.holds Try.pinned (OpenSpec.ofChange fnExactHalfIWrong)

/-- 'laws.FnExactNegI': WHATEVER THE INPUT: true; the input reads as it did. -/
def fnExactNegISpec : ChangeSpec := { name := "fnExactNegI", fn := fun _ => fun
  | [d] => { results := [.lit (.bool true)], args := [d] }
  | _ => none }
def fnExactNegIRow : OpenClaim := { program := "ytonmppbmfagcjaa", sum := "ff0a86a9ac264669e19b74f1ecd7a616490a3a2470404d2344917687276a982a", func := "loop.example/g00880/laws.FnExactNegI", spec := "fnExactNegI", apart := false }
def FnExactNegISaid : Prop := fnExactNegIRow.holds Try.pinned (OpenSpec.ofChange fnExactNegISpec)

/-- ITS FALSE NEIGHBOUR: 'it returns false'. Refute it at one input. -/
def fnExactNegIWrong : ChangeSpec := { name := "fnExactNegI", fn := fun _ => fun
  | [d] => { results := [.lit (.bool false)], args := [d] }
  | _ => none }
def FnExactNegIWrongFalsely : Prop := fnExactNegIRow.holds Try.pinned (OpenSpec.ofChange fnExactNegIWrong)

/-- 'laws.FnExactInteger': WHATEVER THE INPUT: true; the input reads as it did. -/
def fnExactIntegerSpec : ChangeSpec := { name := "fnExactInteger", fn := fun _ => fun
  | [d] => { results := [.lit (.bool true)], args := [d] }
  | _ => none }
def fnExactIntegerRow : OpenClaim := { program := "ytonmppbmfagcjaa", sum := "ff0a86a9ac264669e19b74f1ecd7a616490a3a2470404d2344917687276a982a", func := "loop.example/g00880/laws.FnExactInteger", spec := "fnExactInteger", apart := false }
def FnExactIntegerSaid : Prop := fnExactIntegerRow.holds Try.pinned (OpenSpec.ofChange fnExactIntegerSpec)

/-- ITS FALSE NEIGHBOUR: 'it returns false'. Refute it at one input. -/
def fnExactIntegerWrong : ChangeSpec := { name := "fnExactInteger", fn := fun _ => fun
  | [d] => { results := [.lit (.bool false)], args := [d] }
  | _ => none }
def FnExactIntegerWrongFalsely : Prop := fnExactIntegerRow.holds Try.pinned (OpenSpec.ofChange fnExactIntegerWrong)

/-- 'laws.FnExactAddI': WHATEVER THE INPUT: true; the input reads as it did. -/
def fnExactAddISpec : ChangeSpec := { name := "fnExactAddI", fn := fun _ => fun
  | [d1, d2] => { results := [.lit (.bool true)], args := [d1, d2] }
  | _ => none }
def fnExactAddIRow : OpenClaim := { program := "ytonmppbmfagcjaa", sum := "ff0a86a9ac264669e19b74f1ecd7a616490a3a2470404d2344917687276a982a", func := "loop.example/g00880/laws.FnExactAddI", spec := "fnExactAddI", apart := false }
def FnExactAddISaid : Prop := fnExactAddIRow.holds Try.pinned (OpenSpec.ofChange fnExactAddISpec)

/-- ITS FALSE NEIGHBOUR: 'it returns false'. Refute it at one input. -/
def fnExactAddIWrong : ChangeSpec := { name := "fnExactAddI", fn := fun _ => fun
  | [d1, d2] => { results := [.lit (.bool false)], args := [d1, d2] }
  | _ => none }
def FnExactAddIWrongFalsely : Prop := fnExactAddIRow.holds Try.pinned (OpenSpec.ofChange fnExactAddIWrong)

/-- 'laws.FnExactMaxI': WHATEVER THE INPUT: true; the input reads as it did. -/
def fnExactMaxISpec : ChangeSpec := { name := "fnExactMaxI", fn := fun _ => fun
  | [d1, d2] => { results := [.lit (.bool true)], args := [d1, d2] }
  | _ => none }
def fnExactMaxIRow : OpenClaim := { program := "ytonmppbmfagcjaa", sum := "ff0a86a9ac264669e19b74f1ecd7a616490a3a2470404d2344917687276a982a", func := "loop.example/g00880/laws.FnExactMaxI", spec := "fnExactMaxI", apart := false }
def FnExactMaxISaid : Prop := fnExactMaxIRow.holds Try.pinned (OpenSpec.ofChange fnExactMaxISpec)

/-- ITS FALSE NEIGHBOUR: 'it returns false'. Refute it at one input. -/
def fnExactMaxIWrong : ChangeSpec := { name := "fnExactMaxI", fn := fun _ => fun
  | [d1, d2] => { results := [.lit (.bool false)], args := [d1, d2] }
  | _ => none }
def FnExactMaxIWrongFalsely : Prop := fnExactMaxIRow.holds Try.pinned (OpenSpec.ofChange fnExactMaxIWrong)

/-- 'laws.FnExactMinI': WHATEVER THE INPUT: true; the input reads as it did. -/
def fnExactMinISpec : ChangeSpec := { name := "fnExactMinI", fn := fun _ => fun
  | [d1, d2] => { results := [.lit (.bool true)], args := [d1, d2] }
  | _ => none }
def fnExactMinIRow : OpenClaim := { program := "ytonmppbmfagcjaa", sum := "ff0a86a9ac264669e19b74f1ecd7a616490a3a2470404d2344917687276a982a", func := "loop.example/g00880/laws.FnExactMinI", spec := "fnExactMinI", apart := false }
def FnExactMinISaid : Prop := fnExactMinIRow.holds Try.pinned (OpenSpec.ofChange fnExactMinISpec)

/-- ITS FALSE NEIGHBOUR: 'it returns false'. Refute it at one input. -/
def fnExactMinIWrong : ChangeSpec := { name := "fnExactMinI", fn := fun _ => fun
  | [d1, d2] => { results := [.lit (.bool false)], args := [d1, d2] }
  | _ => none }
def FnExactMinIWrongFalsely : Prop := fnExactMinIRow.holds Try.pinned (OpenSpec.ofChange fnExactMinIWrong)

/-- 'laws.FnExactDoubleI': WHATEVER THE INPUT: true; the input reads as it did. -/
def fnExactDoubleISpec : ChangeSpec := { name := "fnExactDoubleI", fn := fun _ => fun
  | [d] => { results := [.lit (.bool true)], args := [d] }
  | _ => none }
def fnExactDoubleIRow : OpenClaim := { program := "ytonmppbmfagcjaa", sum := "ff0a86a9ac264669e19b74f1ecd7a616490a3a2470404d2344917687276a982a", func := "loop.example/g00880/laws.FnExactDoubleI", spec := "fnExactDoubleI", apart := false }
def FnExactDoubleISaid : Prop := fnExactDoubleIRow.holds Try.pinned (OpenSpec.ofChange fnExactDoubleISpec)

/-- ITS FALSE NEIGHBOUR: 'it returns false'. Refute it at one input. -/
def fnExactDoubleIWrong : ChangeSpec := { name := "fnExactDoubleI", fn := fun _ => fun
  | [d] => { results := [.lit (.bool false)], args := [d] }
  | _ => none }
def FnExactDoubleIWrongFalsely : Prop := fnExactDoubleIRow.holds Try.pinned (OpenSpec.ofChange fnExactDoubleIWrong)

/-- 'laws.FnExactHullI': WHATEVER THE INPUT: true; the input reads as it did. -/
def fnExactHullISpec : ChangeSpec := { name := "fnExactHullI", fn := fun _ => fun
  | [d1, d2] => { results := [.lit (.bool true)], args := [d1, d2] }
  | _ => none }
def fnExactHullIRow : OpenClaim := { program := "ytonmppbmfagcjaa", sum := "ff0a86a9ac264669e19b74f1ecd7a616490a3a2470404d2344917687276a982a", func := "loop.example/g00880/laws.FnExactHullI", spec := "fnExactHullI", apart := false }
def FnExactHullISaid : Prop := fnExactHullIRow.holds Try.pinned (OpenSpec.ofChange fnExactHullISpec)

/-- ITS FALSE NEIGHBOUR: 'it returns false'. Refute it at one input. -/
def fnExactHullIWrong : ChangeSpec := { name := "fnExactHullI", fn := fun _ => fun
  | [d1, d2] => { results := [.lit (.bool false)], args := [d1, d2] }
  | _ => none }
def FnExactHullIWrongFalsely : Prop := fnExactHullIRow.holds Try.pinned (OpenSpec.ofChange fnExactHullIWrong)

/-- 'laws.FnExactSubI': WHATEVER THE INPUT: true; the input reads as it did. -/
def fnExactSubISpec : ChangeSpec := { name := "fnExactSubI", fn := fun _ => fun
  | [d1, d2] => { results := [.lit (.bool true)], args := [d1, d2] }
  | _ => none }
def fnExactSubIRow : OpenClaim := { program := "ytonmppbmfagcjaa", sum := "ff0a86a9ac264669e19b74f1ecd7a616490a3a2470404d2344917687276a982a", func := "loop.example/g00880/laws.FnExactSubI", spec := "fnExactSubI", apart := false }
def FnExactSubISaid : Prop := fnExactSubIRow.holds Try.pinned (OpenSpec.ofChange fnExactSubISpec)

/-- ITS FALSE NEIGHBOUR: 'it returns false'. Refute it at one input. -/
def fnExactSubIWrong : ChangeSpec := { name := "fnExactSubI", fn := fun _ => fun
  | [d1, d2] => { results := [.lit (.bool false)], args := [d1, d2] }
  | _ => none }
def FnExactSubIWrongFalsely : Prop := fnExactSubIRow.holds Try.pinned (OpenSpec.ofChange fnExactSubIWrong)

/-- 'laws.FnExactOverlapI': WHATEVER THE INPUT: true; the input reads as it did. -/
def fnExactOverlapISpec : ChangeSpec := { name := "fnExactOverlapI", fn := fun _ => fun
  | [d1, d2] => { results := [.lit (.bool true)], args := [d1, d2] }
  | _ => none }
def fnExactOverlapIRow : OpenClaim := { program := "ytonmppbmfagcjaa", sum := "ff0a86a9ac264669e19b74f1ecd7a616490a3a2470404d2344917687276a982a", func := "loop.example/g00880/laws.FnExactOverlapI", spec := "fnExactOverlapI", apart := false }
def FnExactOverlapISaid : Prop := fnExactOverlapIRow.holds Try.pinned (OpenSpec.ofChange fnExactOverlapISpec)

/-- ITS FALSE NEIGHBOUR: 'it returns false'. Refute it at one input. -/
def fnExactOverlapIWrong : ChangeSpec := { name := "fnExactOverlapI", fn := fun _ => fun
  | [d1, d2] => { results := [.lit (.bool false)], args := [d1, d2] }
  | _ => none }
def FnExactOverlapIWrongFalsely : Prop := fnExactOverlapIRow.holds Try.pinned (OpenSpec.ofChange fnExactOverlapIWrong)

/-- 'laws.FnExactMeetI': WHATEVER THE INPUT: true; the input reads as it did. -/
def fnExactMeetISpec : ChangeSpec := { name := "fnExactMeetI", fn := fun _ => fun
  | [d1, d2] => { results := [.lit (.bool true)], args := [d1, d2] }
  | _ => none }
def fnExactMeetIRow : OpenClaim := { program := "ytonmppbmfagcjaa", sum := "ff0a86a9ac264669e19b74f1ecd7a616490a3a2470404d2344917687276a982a", func := "loop.example/g00880/laws.FnExactMeetI", spec := "fnExactMeetI", apart := false }
def FnExactMeetISaid : Prop := fnExactMeetIRow.holds Try.pinned (OpenSpec.ofChange fnExactMeetISpec)

/-- ITS FALSE NEIGHBOUR: 'it returns false'. Refute it at one input. -/
def fnExactMeetIWrong : ChangeSpec := { name := "fnExactMeetI", fn := fun _ => fun
  | [d1, d2] => { results := [.lit (.bool false)], args := [d1, d2] }
  | _ => none }
def FnExactMeetIWrongFalsely : Prop := fnExactMeetIRow.holds Try.pinned (OpenSpec.ofChange fnExactMeetIWrong)

/- THE SECOND FORM. 'bulk': how many values and letters a reading holds, each counted each time it is reached (what is shared counts as often as it is met; a slice's spare places count too). A statement '..UptoSaid' is the law's where the arguments, and the package variables that the reading takes, are together of bulk at most 1048576: NARROWER than '..Said'. Prove '..Said' where nothing that the law and all that it calls make is longer than what came in: it says more and counts as full. Else prove '..UptoSaid'. A law counts once. -/
mutual
def uptoBulk {H : Type} : DataW H → Nat
  | .lit (.string bytes) => bytes.length + 1
  | .lit _ => 1
  | .nil => 1
  | .ptr d => uptoBulk d + 1
  | .slice elems spare => uptoBulkAll elems + uptoBulkAll spare + 1
  | .agg parts => uptoBulkAll parts + 1
  | .iface _ d => uptoBulk d + 1
  | .map entries => uptoBulkEntries entries + 1
  | .held _ => 1
def uptoBulkAll {H : Type} : List (DataW H) → Nat
  | [] => 0
  | d :: r => uptoBulk d + uptoBulkAll r
def uptoBulkEntries {H : Type} : List (Lit × DataW H) → Nat
  | [] => 0
  | x :: r => uptoBulkEntry x + uptoBulkEntries r
def uptoBulkEntry {H : Type} : Lit × DataW H → Nat
  | (.string bytes, d) => bytes.length + uptoBulk d + 1
  | (_, d) => uptoBulk d + 1
 end
def uptoSmall : (H : Type) → List (DataW H) → Bool := fun _ ds => decide (uptoBulkAll ds ≤ 1048576)
def OpenSpec.upto (s : _root_.Go.ChangeSpec) : _root_.Go.OpenSpec := { _root_.Go.OpenSpec.ofChange s with cond := some uptoSmall }

/-- 'laws.FnExactWidthI', WHERE WHAT IT READS IS OF BULK AT MOST 1048576: true; the input reads as it did. -/
def fnExactWidthIUptoRow : OpenClaim := { program := "ytonmppbmfagcjaa", sum := "ff0a86a9ac264669e19b74f1ecd7a616490a3a2470404d2344917687276a982a", func := "loop.example/g00880/laws.FnExactWidthI", spec := "fnExactWidthI", apart := false, narrowed := true }
def FnExactWidthIUptoSaid : Prop := fnExactWidthIUptoRow.holds Try.pinned (OpenSpec.upto fnExactWidthISpec)

/-- 'laws.FnExactLessI', WHERE WHAT IT READS IS OF BULK AT MOST 1048576: true; the input reads as it did. -/
def fnExactLessIUptoRow : OpenClaim := { program := "ytonmppbmfagcjaa", sum := "ff0a86a9ac264669e19b74f1ecd7a616490a3a2470404d2344917687276a982a", func := "loop.example/g00880/laws.FnExactLessI", spec := "fnExactLessI", apart := false, narrowed := true }
def FnExactLessIUptoSaid : Prop := fnExactLessIUptoRow.holds Try.pinned (OpenSpec.upto fnExactLessISpec)

/-- 'laws.FnExactOrAnswer', WHERE WHAT IT READS IS OF BULK AT MOST 1048576: true; the input reads as it did. -/
def fnExactOrAnswerUptoRow : OpenClaim := { program := "ytonmppbmfagcjaa", sum := "ff0a86a9ac264669e19b74f1ecd7a616490a3a2470404d2344917687276a982a", func := "loop.example/g00880/laws.FnExactOrAnswer", spec := "fnExactOrAnswer", apart := false, narrowed := true }
def FnExactOrAnswerUptoSaid : Prop := fnExactOrAnswerUptoRow.holds Try.pinned (OpenSpec.upto fnExactOrAnswerSpec)

/-- 'laws.FnExactHalfI', WHERE WHAT IT READS IS OF BULK AT MOST 1048576: true; the input reads as it did. -/
def fnExactHalfIUptoRow : OpenClaim := { program := "ytonmppbmfagcjaa", sum := "ff0a86a9ac264669e19b74f1ecd7a616490a3a2470404d2344917687276a982a", func := "loop.example/g00880/laws.FnExactHalfI", spec := "fnExactHalfI", apart := false, narrowed := true }
def FnExactHalfIUptoSaid : Prop := fnExactHalfIUptoRow.holds Try.pinned (OpenSpec.upto fnExactHalfISpec)

/-- 'laws.FnExactNegI', WHERE WHAT IT READS IS OF BULK AT MOST 1048576: true; the input reads as it did. -/
def fnExactNegIUptoRow : OpenClaim := { program := "ytonmppbmfagcjaa", sum := "ff0a86a9ac264669e19b74f1ecd7a616490a3a2470404d2344917687276a982a", func := "loop.example/g00880/laws.FnExactNegI", spec := "fnExactNegI", apart := false, narrowed := true }
def FnExactNegIUptoSaid : Prop := fnExactNegIUptoRow.holds Try.pinned (OpenSpec.upto fnExactNegISpec)

/-- 'laws.FnExactInteger', WHERE WHAT IT READS IS OF BULK AT MOST 1048576: true; the input reads as it did. -/
def fnExactIntegerUptoRow : OpenClaim := { program := "ytonmppbmfagcjaa", sum := "ff0a86a9ac264669e19b74f1ecd7a616490a3a2470404d2344917687276a982a", func := "loop.example/g00880/laws.FnExactInteger", spec := "fnExactInteger", apart := false, narrowed := true }
def FnExactIntegerUptoSaid : Prop := fnExactIntegerUptoRow.holds Try.pinned (OpenSpec.upto fnExactIntegerSpec)

/-- 'laws.FnExactAddI', WHERE WHAT IT READS IS OF BULK AT MOST 1048576: true; the input reads as it did. -/
def fnExactAddIUptoRow : OpenClaim := { program := "ytonmppbmfagcjaa", sum := "ff0a86a9ac264669e19b74f1ecd7a616490a3a2470404d2344917687276a982a", func := "loop.example/g00880/laws.FnExactAddI", spec := "fnExactAddI", apart := false, narrowed := true }
def FnExactAddIUptoSaid : Prop := fnExactAddIUptoRow.holds Try.pinned (OpenSpec.upto fnExactAddISpec)

/-- 'laws.FnExactMaxI', WHERE WHAT IT READS IS OF BULK AT MOST 1048576: true; the input reads as it did. -/
def fnExactMaxIUptoRow : OpenClaim := { program := "ytonmppbmfagcjaa", sum := "ff0a86a9ac264669e19b74f1ecd7a616490a3a2470404d2344917687276a982a", func := "loop.example/g00880/laws.FnExactMaxI", spec := "fnExactMaxI", apart := false, narrowed := true }
def FnExactMaxIUptoSaid : Prop := fnExactMaxIUptoRow.holds Try.pinned (OpenSpec.upto fnExactMaxISpec)

/-- 'laws.FnExactMinI', WHERE WHAT IT READS IS OF BULK AT MOST 1048576: true; the input reads as it did. -/
def fnExactMinIUptoRow : OpenClaim := { program := "ytonmppbmfagcjaa", sum := "ff0a86a9ac264669e19b74f1ecd7a616490a3a2470404d2344917687276a982a", func := "loop.example/g00880/laws.FnExactMinI", spec := "fnExactMinI", apart := false, narrowed := true }
def FnExactMinIUptoSaid : Prop := fnExactMinIUptoRow.holds Try.pinned (OpenSpec.upto fnExactMinISpec)

/-- 'laws.FnExactDoubleI', WHERE WHAT IT READS IS OF BULK AT MOST 1048576: true; the input reads as it did. -/
def fnExactDoubleIUptoRow : OpenClaim := { program := "ytonmppbmfagcjaa", sum := "ff0a86a9ac264669e19b74f1ecd7a616490a3a2470404d2344917687276a982a", func := "loop.example/g00880/laws.FnExactDoubleI", spec := "fnExactDoubleI", apart := false, narrowed := true }
def FnExactDoubleIUptoSaid : Prop := fnExactDoubleIUptoRow.holds Try.pinned (OpenSpec.upto fnExactDoubleISpec)

/-- 'laws.FnExactHullI', WHERE WHAT IT READS IS OF BULK AT MOST 1048576: true; the input reads as it did. -/
def fnExactHullIUptoRow : OpenClaim := { program := "ytonmppbmfagcjaa", sum := "ff0a86a9ac264669e19b74f1ecd7a616490a3a2470404d2344917687276a982a", func := "loop.example/g00880/laws.FnExactHullI", spec := "fnExactHullI", apart := false, narrowed := true }
def FnExactHullIUptoSaid : Prop := fnExactHullIUptoRow.holds Try.pinned (OpenSpec.upto fnExactHullISpec)

/-- 'laws.FnExactSubI', WHERE WHAT IT READS IS OF BULK AT MOST 1048576: true; the input reads as it did. -/
def fnExactSubIUptoRow : OpenClaim := { program := "ytonmppbmfagcjaa", sum := "ff0a86a9ac264669e19b74f1ecd7a616490a3a2470404d2344917687276a982a", func := "loop.example/g00880/laws.FnExactSubI", spec := "fnExactSubI", apart := false, narrowed := true }
def FnExactSubIUptoSaid : Prop := fnExactSubIUptoRow.holds Try.pinned (OpenSpec.upto fnExactSubISpec)

/-- 'laws.FnExactOverlapI', WHERE WHAT IT READS IS OF BULK AT MOST 1048576: true; the input reads as it did. -/
def fnExactOverlapIUptoRow : OpenClaim := { program := "ytonmppbmfagcjaa", sum := "ff0a86a9ac264669e19b74f1ecd7a616490a3a2470404d2344917687276a982a", func := "loop.example/g00880/laws.FnExactOverlapI", spec := "fnExactOverlapI", apart := false, narrowed := true }
def FnExactOverlapIUptoSaid : Prop := fnExactOverlapIUptoRow.holds Try.pinned (OpenSpec.upto fnExactOverlapISpec)

/-- 'laws.FnExactMeetI', WHERE WHAT IT READS IS OF BULK AT MOST 1048576: true; the input reads as it did. -/
def fnExactMeetIUptoRow : OpenClaim := { program := "ytonmppbmfagcjaa", sum := "ff0a86a9ac264669e19b74f1ecd7a616490a3a2470404d2344917687276a982a", func := "loop.example/g00880/laws.FnExactMeetI", spec := "fnExactMeetI", apart := false, narrowed := true }
def FnExactMeetIUptoSaid : Prop := fnExactMeetIUptoRow.holds Try.pinned (OpenSpec.upto fnExactMeetISpec)

end Rows
end Go.Proofs.Ytonmppbmfagcjaa
