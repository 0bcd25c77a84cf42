/-
  DERIVED. GIVEN WITH THE SEED: THE CARDS: each row of YtcaabdilfnicfaaGreatDoorRows.lean that lists a variable, with what it lists TIED to the program's text (the seventh form; the later family's looks); each row that meets fmt, with fmt's text TOLD by the authors' own Lean function (tested against real Go, not proved from fmt's source: count such statements apart). THE CARD IS WHAT COUNTS. Prove the row's statement (the work); the ties are given (YtcaabdilfnicfaaGreatDoorTie.lean); close each card by the builder's one call (the guide's Derived/Test/ToyasCard.lean, 'card_holds'). Laid BY PROGRAM, IN A SANDBOX (cutbox-door.mjs). By AI agents, Wed Nov 11 2026. No macro, syntax, notation, axiom, sorry.
-/
import Derived.Test.YtcaabdilfnicfaaGreatDoorRows
import GoSem.ClaimSeven
namespace Go.Proofs.YtcaabdilfnicfaaGreatDoor
namespace Rows

/-- THE TIED CARD OF 'laws.FnExactReadFix'. -/
def fnExactReadFixCard : Claim7 := { stood := { row := fnExactReadFixRow, standIns := [], harness := (true, "1063e46f3e2d5129d431a05bbf029b6c1dac8929738ad17f5d05d5d6ff19cb3b"), looks := false }, kinds := [], alts := [], laidByText := true, laidKinds := [.data, .data, .data, .data, .pinned], laidTests := true, laidLooks := .later }
def FnExactReadFixCardSaid : Prop := Claim7.holds Tryz.pinned (.plain (OpenSpec.ofChange fnExactReadFixSpec)) fnExactReadFixCard

/-- THE SECOND FORM's CARD OF 'laws.FnExactReadFix'. -/
def fnExactReadFixUptoCard : Claim7 := { stood := { row := fnExactReadFixUptoRow, standIns := [], harness := (true, "1063e46f3e2d5129d431a05bbf029b6c1dac8929738ad17f5d05d5d6ff19cb3b"), looks := false }, kinds := [], alts := [], laidByText := true, laidKinds := [.data, .data, .data, .data, .pinned], laidTests := true, laidLooks := .later }
def FnExactReadFixUptoCardSaid : Prop := Claim7.holds Tryz.pinned (.plain (OpenSpec.upto fnExactReadFixSpec)) fnExactReadFixUptoCard
end Rows
end Go.Proofs.YtcaabdilfnicfaaGreatDoor
