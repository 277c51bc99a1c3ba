/-
  DERIVED. GIVEN WITH THE SEED: THE CARDS: each row of YtnmncgbegiegfaaDoorRows.lean that lists a variable, with what it lists TIED to the program's text (the seventh form; the later family's looks); each row that meets fmt, with fmt's text TOLD by the authors' own Lean function (tested against real Go, not proved from fmt's source: count such statements apart). THE CARD IS WHAT COUNTS. Prove the row's statement (the work); the ties are given (YtnmncgbegiegfaaDoorTie.lean); close each card by the builder's one call (the guide's Derived/Test/ToyasCard.lean, 'card_holds'). Laid BY PROGRAM, IN A SANDBOX (cutbox-door.mjs). By AI agents, Wed Nov 11 2026. No macro, syntax, notation, axiom, sorry.
-/
import Derived.Test.YtnmncgbegiegfaaDoorRows
import GoSem.ClaimSeven
namespace Go.Proofs.YtnmncgbegiegfaaDoor
namespace Rows

/-- THE TIED CARD OF 'laws.FnExactCount'. -/
def fnExactCountCard : Claim7 := { stood := { row := fnExactCountRow, standIns := [], harness := (true, "9135fb50bd4b47295ac7a11d2008fa130872d2a4f0143fcf08062bc8940b3bd1"), looks := false }, kinds := [], alts := [], laidByText := true, laidKinds := [.data, .pinned], laidTests := true, laidLooks := .later }
def FnExactCountCardSaid : Prop := Claim7.holds Tryd.pinned (.plain (OpenSpec.ofChange fnExactCountSpec)) fnExactCountCard

/-- THE TIED CARD OF 'laws.FnExactDecEnd'. -/
def fnExactDecEndCard : Claim7 := { stood := { row := fnExactDecEndRow, standIns := [], harness := (true, "9135fb50bd4b47295ac7a11d2008fa130872d2a4f0143fcf08062bc8940b3bd1"), looks := false }, kinds := [], alts := [], laidByText := true, laidKinds := [.data, .pinned], laidTests := true, laidLooks := .later }
def FnExactDecEndCardSaid : Prop := Claim7.holds Tryd.pinned (.plain (OpenSpec.ofChange fnExactDecEndSpec)) fnExactDecEndCard

/-- THE TIED CARD OF 'laws.FnSigns'. -/
def fnSignsCard : Claim7 := { stood := { row := fnSignsRow, standIns := [], harness := (true, "9135fb50bd4b47295ac7a11d2008fa130872d2a4f0143fcf08062bc8940b3bd1"), looks := false }, kinds := [], alts := [], laidByText := true, laidKinds := [.data, .pinned], laidTests := true, laidLooks := .later }
def FnSignsCardSaid : Prop := Claim7.holds Tryd.pinned (.plain (OpenSpec.ofChange fnSignsSpec)) fnSignsCard

/-- THE TIED CARD OF 'laws.FnTexts'. -/
def fnTextsCard : Claim7 := { stood := { row := fnTextsRow, standIns := [], harness := (true, "9135fb50bd4b47295ac7a11d2008fa130872d2a4f0143fcf08062bc8940b3bd1"), looks := false }, kinds := [], alts := [], laidByText := true, laidKinds := [.data, .pinned], laidTests := true, laidLooks := .later }
def FnTextsCardSaid : Prop := Claim7.holds Tryd.pinned (.plain (OpenSpec.ofChange fnTextsSpec)) fnTextsCard

/-- THE TIED CARD OF 'laws.FnExactDecode'. -/
def fnExactDecodeCard : Claim7 := { stood := { row := fnExactDecodeRow, standIns := [], harness := (true, "9135fb50bd4b47295ac7a11d2008fa130872d2a4f0143fcf08062bc8940b3bd1"), looks := false }, kinds := [], alts := [], laidByText := true, laidKinds := [.data, .pinned], laidTests := true, laidLooks := .later }
def FnExactDecodeCardSaid : Prop := Claim7.holds Tryd.pinned (.plain (OpenSpec.ofChange fnExactDecodeSpec)) fnExactDecodeCard

/-- THE TIED CARD OF 'laws.FnAscii'. -/
def fnAsciiCard : Claim7 := { stood := { row := fnAsciiRow, standIns := [], harness := (true, "9135fb50bd4b47295ac7a11d2008fa130872d2a4f0143fcf08062bc8940b3bd1"), looks := false }, kinds := [], alts := [], laidByText := true, laidKinds := [.data, .pinned], laidTests := true, laidLooks := .later }
def FnAsciiCardSaid : Prop := Claim7.holds Tryd.pinned (.plain (OpenSpec.ofChange fnAsciiSpec)) fnAsciiCard

/-- THE TIED CARD OF 'laws.FnExactDecodeLossy'. -/
def fnExactDecodeLossyCard : Claim7 := { stood := { row := fnExactDecodeLossyRow, standIns := [], harness := (true, "9135fb50bd4b47295ac7a11d2008fa130872d2a4f0143fcf08062bc8940b3bd1"), looks := false }, kinds := [], alts := [], laidByText := true, laidKinds := [.data, .pinned], laidTests := true, laidLooks := .later }
def FnExactDecodeLossyCardSaid : Prop := Claim7.holds Tryd.pinned (.plain (OpenSpec.ofChange fnExactDecodeLossySpec)) fnExactDecodeLossyCard

/-- THE SECOND FORM's CARD OF 'laws.FnExactCount'. -/
def fnExactCountUptoCard : Claim7 := { stood := { row := fnExactCountUptoRow, standIns := [], harness := (true, "9135fb50bd4b47295ac7a11d2008fa130872d2a4f0143fcf08062bc8940b3bd1"), looks := false }, kinds := [], alts := [], laidByText := true, laidKinds := [.data, .pinned], laidTests := true, laidLooks := .later }
def FnExactCountUptoCardSaid : Prop := Claim7.holds Tryd.pinned (.plain (OpenSpec.upto fnExactCountSpec)) fnExactCountUptoCard

/-- THE SECOND FORM's CARD OF 'laws.FnExactDecEnd'. -/
def fnExactDecEndUptoCard : Claim7 := { stood := { row := fnExactDecEndUptoRow, standIns := [], harness := (true, "9135fb50bd4b47295ac7a11d2008fa130872d2a4f0143fcf08062bc8940b3bd1"), looks := false }, kinds := [], alts := [], laidByText := true, laidKinds := [.data, .pinned], laidTests := true, laidLooks := .later }
def FnExactDecEndUptoCardSaid : Prop := Claim7.holds Tryd.pinned (.plain (OpenSpec.upto fnExactDecEndSpec)) fnExactDecEndUptoCard

/-- THE SECOND FORM's CARD OF 'laws.FnSigns'. -/
def fnSignsUptoCard : Claim7 := { stood := { row := fnSignsUptoRow, standIns := [], harness := (true, "9135fb50bd4b47295ac7a11d2008fa130872d2a4f0143fcf08062bc8940b3bd1"), looks := false }, kinds := [], alts := [], laidByText := true, laidKinds := [.data, .pinned], laidTests := true, laidLooks := .later }
def FnSignsUptoCardSaid : Prop := Claim7.holds Tryd.pinned (.plain (OpenSpec.upto fnSignsSpec)) fnSignsUptoCard

/-- THE SECOND FORM's CARD OF 'laws.FnTexts'. -/
def fnTextsUptoCard : Claim7 := { stood := { row := fnTextsUptoRow, standIns := [], harness := (true, "9135fb50bd4b47295ac7a11d2008fa130872d2a4f0143fcf08062bc8940b3bd1"), looks := false }, kinds := [], alts := [], laidByText := true, laidKinds := [.data, .pinned], laidTests := true, laidLooks := .later }
def FnTextsUptoCardSaid : Prop := Claim7.holds Tryd.pinned (.plain (OpenSpec.upto fnTextsSpec)) fnTextsUptoCard

/-- THE SECOND FORM's CARD OF 'laws.FnExactDecode'. -/
def fnExactDecodeUptoCard : Claim7 := { stood := { row := fnExactDecodeUptoRow, standIns := [], harness := (true, "9135fb50bd4b47295ac7a11d2008fa130872d2a4f0143fcf08062bc8940b3bd1"), looks := false }, kinds := [], alts := [], laidByText := true, laidKinds := [.data, .pinned], laidTests := true, laidLooks := .later }
def FnExactDecodeUptoCardSaid : Prop := Claim7.holds Tryd.pinned (.plain (OpenSpec.upto fnExactDecodeSpec)) fnExactDecodeUptoCard

/-- THE SECOND FORM's CARD OF 'laws.FnAscii'. -/
def fnAsciiUptoCard : Claim7 := { stood := { row := fnAsciiUptoRow, standIns := [], harness := (true, "9135fb50bd4b47295ac7a11d2008fa130872d2a4f0143fcf08062bc8940b3bd1"), looks := false }, kinds := [], alts := [], laidByText := true, laidKinds := [.data, .pinned], laidTests := true, laidLooks := .later }
def FnAsciiUptoCardSaid : Prop := Claim7.holds Tryd.pinned (.plain (OpenSpec.upto fnAsciiSpec)) fnAsciiUptoCard

/-- THE SECOND FORM's CARD OF 'laws.FnExactDecodeLossy'. -/
def fnExactDecodeLossyUptoCard : Claim7 := { stood := { row := fnExactDecodeLossyUptoRow, standIns := [], harness := (true, "9135fb50bd4b47295ac7a11d2008fa130872d2a4f0143fcf08062bc8940b3bd1"), looks := false }, kinds := [], alts := [], laidByText := true, laidKinds := [.data, .pinned], laidTests := true, laidLooks := .later }
def FnExactDecodeLossyUptoCardSaid : Prop := Claim7.holds Tryd.pinned (.plain (OpenSpec.upto fnExactDecodeLossySpec)) fnExactDecodeLossyUptoCard
end Rows
end Go.Proofs.YtnmncgbegiegfaaDoor
