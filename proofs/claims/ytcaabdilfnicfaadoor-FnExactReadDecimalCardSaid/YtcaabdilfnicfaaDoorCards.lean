/-
  DERIVED. GIVEN WITH THE SEED: THE CARDS: each row of YtcaabdilfnicfaaDoorRows.lean that lists a variable, with what it lists TIED to the program's text (the seventh form; the later family's looks); each row that meets fmt, with fmt's text TOLD by the authors' own Lean function (tested against real Go, not proved from fmt's source: count such statements apart). THE CARD IS WHAT COUNTS. Prove the row's statement (the work); the ties are given (YtcaabdilfnicfaaDoorTie.lean); close each card by the builder's one call (the guide's Derived/Test/ToyasCard.lean, 'card_holds'). Laid BY PROGRAM, IN A SANDBOX (cutbox-door.mjs). By AI agents, Wed Nov 11 2026. No macro, syntax, notation, axiom, sorry.
-/
import Derived.Test.YtcaabdilfnicfaaDoorRows
import GoSem.ClaimSeven
namespace Go.Proofs.YtcaabdilfnicfaaDoor
namespace Rows

/-- THE TIED CARD OF 'laws.FnExactDecimal'. -/
def fnExactDecimalCard : Claim7 := { stood := { row := fnExactDecimalRow, standIns := [], harness := (true, "d01ec3d712dd7826dfa2d68ee87dfe098af195f337ef2e3b8acaec0ce1bdbbc4"), looks := true }, kinds := [], alts := [], laidByText := true, laidKinds := [.data, .data, .data], laidTests := true, laidLooks := .later }
def FnExactDecimalCardSaid : Prop := Claim7.holds Tryd.pinned (.plain (OpenSpec.ofChange fnExactDecimalSpec)) fnExactDecimalCard

/-- THE TIED CARD OF 'laws.FnExactIsName'. -/
def fnExactIsNameCard : Claim7 := { stood := { row := fnExactIsNameRow, standIns := [], harness := (true, "d01ec3d712dd7826dfa2d68ee87dfe098af195f337ef2e3b8acaec0ce1bdbbc4"), looks := true }, kinds := [], alts := [], laidByText := true, laidKinds := [.data, .pinned], laidTests := true, laidLooks := .later }
def FnExactIsNameCardSaid : Prop := Claim7.holds Tryd.pinned (.plain (OpenSpec.ofChange fnExactIsNameSpec)) fnExactIsNameCard

/-- THE TIED CARD OF 'laws.FnExactWideText'. -/
def fnExactWideTextCard : Claim7 := { stood := { row := fnExactWideTextRow, standIns := [], harness := (true, "d01ec3d712dd7826dfa2d68ee87dfe098af195f337ef2e3b8acaec0ce1bdbbc4"), looks := true }, kinds := [], alts := [], laidByText := true, laidKinds := [.data, .data, .data], laidTests := true, laidLooks := .later }
def FnExactWideTextCardSaid : Prop := Claim7.holds Tryd.pinned (.plain (OpenSpec.ofChange fnExactWideTextSpec)) fnExactWideTextCard

/-- THE TIED CARD OF 'laws.FnExactReadDecimal'. -/
def fnExactReadDecimalCard : Claim7 := { stood := { row := fnExactReadDecimalRow, standIns := [], harness := (true, "d01ec3d712dd7826dfa2d68ee87dfe098af195f337ef2e3b8acaec0ce1bdbbc4"), looks := true }, kinds := [], alts := [], laidByText := true, laidKinds := [.data, .data, .data, .sentinel, .sentinel], laidTests := true, laidLooks := .later }
def FnExactReadDecimalCardSaid : Prop := Claim7.holds Tryd.pinned (.plain (OpenSpec.ofChange fnExactReadDecimalSpec)) fnExactReadDecimalCard

/-- THE TIED CARD OF 'laws.FnExactTextDown'. -/
def fnExactTextDownCard : Claim7 := { stood := { row := fnExactTextDownRow, standIns := [], harness := (true, "d01ec3d712dd7826dfa2d68ee87dfe098af195f337ef2e3b8acaec0ce1bdbbc4"), looks := true }, kinds := [], alts := [], laidByText := true, laidKinds := [.data, .data, .data], laidTests := true, laidLooks := .later }
def FnExactTextDownCardSaid : Prop := Claim7.holds Tryd.pinned (.plain (OpenSpec.ofChange fnExactTextDownSpec)) fnExactTextDownCard

/-- THE TIED CARD OF 'laws.FnExactTextUp'. -/
def fnExactTextUpCard : Claim7 := { stood := { row := fnExactTextUpRow, standIns := [], harness := (true, "d01ec3d712dd7826dfa2d68ee87dfe098af195f337ef2e3b8acaec0ce1bdbbc4"), looks := true }, kinds := [], alts := [], laidByText := true, laidKinds := [.data, .data, .data], laidTests := true, laidLooks := .later }
def FnExactTextUpCardSaid : Prop := Claim7.holds Tryd.pinned (.plain (OpenSpec.ofChange fnExactTextUpSpec)) fnExactTextUpCard

/-- THE TIED CARD OF 'laws.FnFixed'. -/
def fnFixedCard : Claim7 := { stood := { row := fnFixedRow, standIns := [], harness := (true, "d01ec3d712dd7826dfa2d68ee87dfe098af195f337ef2e3b8acaec0ce1bdbbc4"), looks := true }, kinds := [], alts := [], laidByText := true, laidKinds := [.data, .data, .data, .data, .pinned], laidTests := true, laidLooks := .later }
def FnFixedCardSaid : Prop := Claim7.holds Tryd.pinned (.plain (OpenSpec.ofChange fnFixedSpec)) fnFixedCard

/-- THE SECOND FORM's CARD OF 'laws.FnExactDecimal'. -/
def fnExactDecimalUptoCard : Claim7 := { stood := { row := fnExactDecimalUptoRow, standIns := [], harness := (true, "d01ec3d712dd7826dfa2d68ee87dfe098af195f337ef2e3b8acaec0ce1bdbbc4"), looks := true }, kinds := [], alts := [], laidByText := true, laidKinds := [.data, .data, .data], laidTests := true, laidLooks := .later }
def FnExactDecimalUptoCardSaid : Prop := Claim7.holds Tryd.pinned (.plain (OpenSpec.upto fnExactDecimalSpec)) fnExactDecimalUptoCard

/-- THE SECOND FORM's CARD OF 'laws.FnExactIsName'. -/
def fnExactIsNameUptoCard : Claim7 := { stood := { row := fnExactIsNameUptoRow, standIns := [], harness := (true, "d01ec3d712dd7826dfa2d68ee87dfe098af195f337ef2e3b8acaec0ce1bdbbc4"), looks := true }, kinds := [], alts := [], laidByText := true, laidKinds := [.data, .pinned], laidTests := true, laidLooks := .later }
def FnExactIsNameUptoCardSaid : Prop := Claim7.holds Tryd.pinned (.plain (OpenSpec.upto fnExactIsNameSpec)) fnExactIsNameUptoCard

/-- THE SECOND FORM's CARD OF 'laws.FnExactWideText'. -/
def fnExactWideTextUptoCard : Claim7 := { stood := { row := fnExactWideTextUptoRow, standIns := [], harness := (true, "d01ec3d712dd7826dfa2d68ee87dfe098af195f337ef2e3b8acaec0ce1bdbbc4"), looks := true }, kinds := [], alts := [], laidByText := true, laidKinds := [.data, .data, .data], laidTests := true, laidLooks := .later }
def FnExactWideTextUptoCardSaid : Prop := Claim7.holds Tryd.pinned (.plain (OpenSpec.upto fnExactWideTextSpec)) fnExactWideTextUptoCard

/-- THE SECOND FORM's CARD OF 'laws.FnExactReadDecimal'. -/
def fnExactReadDecimalUptoCard : Claim7 := { stood := { row := fnExactReadDecimalUptoRow, standIns := [], harness := (true, "d01ec3d712dd7826dfa2d68ee87dfe098af195f337ef2e3b8acaec0ce1bdbbc4"), looks := true }, kinds := [], alts := [], laidByText := true, laidKinds := [.data, .data, .data, .sentinel, .sentinel], laidTests := true, laidLooks := .later }
def FnExactReadDecimalUptoCardSaid : Prop := Claim7.holds Tryd.pinned (.plain (OpenSpec.upto fnExactReadDecimalSpec)) fnExactReadDecimalUptoCard

/-- THE SECOND FORM's CARD OF 'laws.FnExactTextDown'. -/
def fnExactTextDownUptoCard : Claim7 := { stood := { row := fnExactTextDownUptoRow, standIns := [], harness := (true, "d01ec3d712dd7826dfa2d68ee87dfe098af195f337ef2e3b8acaec0ce1bdbbc4"), looks := true }, kinds := [], alts := [], laidByText := true, laidKinds := [.data, .data, .data], laidTests := true, laidLooks := .later }
def FnExactTextDownUptoCardSaid : Prop := Claim7.holds Tryd.pinned (.plain (OpenSpec.upto fnExactTextDownSpec)) fnExactTextDownUptoCard

/-- THE SECOND FORM's CARD OF 'laws.FnExactTextUp'. -/
def fnExactTextUpUptoCard : Claim7 := { stood := { row := fnExactTextUpUptoRow, standIns := [], harness := (true, "d01ec3d712dd7826dfa2d68ee87dfe098af195f337ef2e3b8acaec0ce1bdbbc4"), looks := true }, kinds := [], alts := [], laidByText := true, laidKinds := [.data, .data, .data], laidTests := true, laidLooks := .later }
def FnExactTextUpUptoCardSaid : Prop := Claim7.holds Tryd.pinned (.plain (OpenSpec.upto fnExactTextUpSpec)) fnExactTextUpUptoCard

/-- THE SECOND FORM's CARD OF 'laws.FnFixed'. -/
def fnFixedUptoCard : Claim7 := { stood := { row := fnFixedUptoRow, standIns := [], harness := (true, "d01ec3d712dd7826dfa2d68ee87dfe098af195f337ef2e3b8acaec0ce1bdbbc4"), looks := true }, kinds := [], alts := [], laidByText := true, laidKinds := [.data, .data, .data, .data, .pinned], laidTests := true, laidLooks := .later }
def FnFixedUptoCardSaid : Prop := Claim7.holds Tryd.pinned (.plain (OpenSpec.upto fnFixedSpec)) fnFixedUptoCard
end Rows
end Go.Proofs.YtcaabdilfnicfaaDoor
