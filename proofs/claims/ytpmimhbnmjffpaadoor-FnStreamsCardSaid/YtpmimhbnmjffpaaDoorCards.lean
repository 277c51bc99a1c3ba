/-
  DERIVED. GIVEN WITH THE SEED: THE CARDS: each row of YtpmimhbnmjffpaaDoorRows.lean that lists a variable, with what it lists TIED to the program's text (the seventh form; the later family's looks); each row that meets fmt, with fmt's text TOLD by the authors' own Lean function (tested against real Go, not proved from fmt's source: count such statements apart). THE CARD IS WHAT COUNTS. Prove the row's statement (the work); the ties are given (YtpmimhbnmjffpaaDoorTie.lean); close each card by the builder's one call (the guide's Derived/Test/ToyasCard.lean, 'card_holds'). Laid BY PROGRAM, IN A SANDBOX (cutbox-door.mjs). By AI agents, Wed Nov 11 2026. No macro, syntax, notation, axiom, sorry.
-/
import Derived.Test.YtpmimhbnmjffpaaDoorRows
import GoSem.ClaimSeven
namespace Go.Proofs.YtpmimhbnmjffpaaDoor
namespace Rows

/-- THE TIED CARD OF 'laws.FnExactFits'. -/
def fnExactFitsCard : Claim7 := { stood := { row := fnExactFitsRow, standIns := [], harness := (true, "4ad5bbab9bdf5beea9a661f0bb803e80d5cddf025fd40e9194acf14e4efe535e"), looks := false }, kinds := [], alts := [], laidByText := true, laidKinds := [.data, .pinned], laidTests := true, laidLooks := .later }
def FnExactFitsCardSaid : Prop := Claim7.holds Tryd.pinned (.plain (OpenSpec.ofChange fnExactFitsSpec)) fnExactFitsCard

/-- THE TIED CARD OF 'laws.FnExactEncode'. -/
def fnExactEncodeCard : Claim7 := { stood := { row := fnExactEncodeRow, standIns := [], harness := (true, "4ad5bbab9bdf5beea9a661f0bb803e80d5cddf025fd40e9194acf14e4efe535e"), looks := false }, kinds := [], alts := [], laidByText := true, laidKinds := [.data, .pinned], laidTests := true, laidLooks := .later }
def FnExactEncodeCardSaid : Prop := Claim7.holds Tryd.pinned (.plain (OpenSpec.ofChange fnExactEncodeSpec)) fnExactEncodeCard

/-- THE TIED CARD OF 'laws.FnExactEncodeLossy'. -/
def fnExactEncodeLossyCard : Claim7 := { stood := { row := fnExactEncodeLossyRow, standIns := [], harness := (true, "4ad5bbab9bdf5beea9a661f0bb803e80d5cddf025fd40e9194acf14e4efe535e"), looks := false }, kinds := [], alts := [], laidByText := true, laidKinds := [.data, .pinned], laidTests := true, laidLooks := .later }
def FnExactEncodeLossyCardSaid : Prop := Claim7.holds Tryd.pinned (.plain (OpenSpec.ofChange fnExactEncodeLossySpec)) fnExactEncodeLossyCard

/-- THE TIED CARD OF 'laws.FnExactCellText'. -/
def fnExactCellTextCard : Claim7 := { stood := { row := fnExactCellTextRow, standIns := [], harness := (true, "4ad5bbab9bdf5beea9a661f0bb803e80d5cddf025fd40e9194acf14e4efe535e"), looks := false }, kinds := [], alts := [], laidByText := true, laidKinds := [.data, .pinned], laidTests := true, laidLooks := .later }
def FnExactCellTextCardSaid : Prop := Claim7.holds Tryd.pinned (.plain (OpenSpec.ofChange fnExactCellTextSpec)) fnExactCellTextCard

/-- THE TIED CARD OF 'laws.FnExactScore'. -/
def fnExactScoreCard : Claim7 := { stood := { row := fnExactScoreRow, standIns := [], harness := (true, "4ad5bbab9bdf5beea9a661f0bb803e80d5cddf025fd40e9194acf14e4efe535e"), looks := false }, kinds := [], alts := [], laidByText := true, laidKinds := [.data, .pinned], laidTests := true, laidLooks := .later }
def FnExactScoreCardSaid : Prop := Claim7.holds Tryd.pinned (.plain (OpenSpec.ofChange fnExactScoreSpec)) fnExactScoreCard

/-- THE TIED CARD OF 'laws.FnExactFeed'. -/
def fnExactFeedCard : Claim7 := { stood := { row := fnExactFeedRow, standIns := [], harness := (true, "4ad5bbab9bdf5beea9a661f0bb803e80d5cddf025fd40e9194acf14e4efe535e"), looks := false }, kinds := [], alts := [], laidByText := true, laidKinds := [.data, .pinned], laidTests := true, laidLooks := .later }
def FnExactFeedCardSaid : Prop := Claim7.holds Tryd.pinned (.plain (OpenSpec.ofChange fnExactFeedSpec)) fnExactFeedCard

/-- THE TIED CARD OF 'laws.FnExactDetect'. -/
def fnExactDetectCard : Claim7 := { stood := { row := fnExactDetectRow, standIns := [], harness := (true, "4ad5bbab9bdf5beea9a661f0bb803e80d5cddf025fd40e9194acf14e4efe535e"), looks := false }, kinds := [], alts := [], laidByText := true, laidKinds := [.data, .pinned], laidTests := true, laidLooks := .later }
def FnExactDetectCardSaid : Prop := Claim7.holds Tryd.pinned (.plain (OpenSpec.ofChange fnExactDetectSpec)) fnExactDetectCard

/-- THE TIED CARD OF 'laws.FnStreams'. -/
def fnStreamsCard : Claim7 := { stood := { row := fnStreamsRow, standIns := [], harness := (true, "4ad5bbab9bdf5beea9a661f0bb803e80d5cddf025fd40e9194acf14e4efe535e"), looks := false }, kinds := [], alts := [], laidByText := true, laidKinds := [.data, .pinned], laidTests := true, laidLooks := .later }
def FnStreamsCardSaid : Prop := Claim7.holds Tryd.pinned (.plain (OpenSpec.ofChange fnStreamsSpec)) fnStreamsCard

/-- THE TIED CARD OF 'laws.FnStreamsBent'. -/
def fnStreamsBentCard : Claim7 := { stood := { row := fnStreamsBentRow, standIns := [], harness := (true, "4ad5bbab9bdf5beea9a661f0bb803e80d5cddf025fd40e9194acf14e4efe535e"), looks := false }, kinds := [], alts := [], laidByText := true, laidKinds := [.data, .pinned], laidTests := true, laidLooks := .later }
def FnStreamsBentCardSaid : Prop := Claim7.holds Tryd.pinned (.plain (OpenSpec.ofChange fnStreamsBentSpec)) fnStreamsBentCard

/-- THE TIED CARD OF 'laws.FnJoined'. -/
def fnJoinedCard : Claim7 := { stood := { row := fnJoinedRow, standIns := [], harness := (true, "4ad5bbab9bdf5beea9a661f0bb803e80d5cddf025fd40e9194acf14e4efe535e"), looks := false }, kinds := [], alts := [], laidByText := true, laidKinds := [.data, .pinned], laidTests := true, laidLooks := .later }
def FnJoinedCardSaid : Prop := Claim7.holds Tryd.pinned (.plain (OpenSpec.ofChange fnJoinedSpec)) fnJoinedCard

/-- THE TIED CARD OF 'laws.FnDetects'. -/
def fnDetectsCard : Claim7 := { stood := { row := fnDetectsRow, standIns := [], harness := (true, "4ad5bbab9bdf5beea9a661f0bb803e80d5cddf025fd40e9194acf14e4efe535e"), looks := false }, kinds := [], alts := [], laidByText := true, laidKinds := [.data, .pinned], laidTests := true, laidLooks := .later }
def FnDetectsCardSaid : Prop := Claim7.holds Tryd.pinned (.plain (OpenSpec.ofChange fnDetectsSpec)) fnDetectsCard

/-- THE TIED CARD OF 'laws.FnCodes'. -/
def fnCodesCard : Claim7 := { stood := { row := fnCodesRow, standIns := [], harness := (true, "4ad5bbab9bdf5beea9a661f0bb803e80d5cddf025fd40e9194acf14e4efe535e"), looks := false }, kinds := [], alts := [], laidByText := true, laidKinds := [.data, .pinned], laidTests := true, laidLooks := .later }
def FnCodesCardSaid : Prop := Claim7.holds Tryd.pinned (.plain (OpenSpec.ofChange fnCodesSpec)) fnCodesCard

/-- THE TIED CARD OF 'laws.FnLossy'. -/
def fnLossyCard : Claim7 := { stood := { row := fnLossyRow, standIns := [], harness := (true, "4ad5bbab9bdf5beea9a661f0bb803e80d5cddf025fd40e9194acf14e4efe535e"), looks := false }, kinds := [], alts := [], laidByText := true, laidKinds := [.data, .pinned], laidTests := true, laidLooks := .later }
def FnLossyCardSaid : Prop := Claim7.holds Tryd.pinned (.plain (OpenSpec.ofChange fnLossySpec)) fnLossyCard

/-- THE SECOND FORM's CARD OF 'laws.FnExactFits'. -/
def fnExactFitsUptoCard : Claim7 := { stood := { row := fnExactFitsUptoRow, standIns := [], harness := (true, "4ad5bbab9bdf5beea9a661f0bb803e80d5cddf025fd40e9194acf14e4efe535e"), looks := false }, kinds := [], alts := [], laidByText := true, laidKinds := [.data, .pinned], laidTests := true, laidLooks := .later }
def FnExactFitsUptoCardSaid : Prop := Claim7.holds Tryd.pinned (.plain (OpenSpec.upto fnExactFitsSpec)) fnExactFitsUptoCard

/-- THE SECOND FORM's CARD OF 'laws.FnExactEncode'. -/
def fnExactEncodeUptoCard : Claim7 := { stood := { row := fnExactEncodeUptoRow, standIns := [], harness := (true, "4ad5bbab9bdf5beea9a661f0bb803e80d5cddf025fd40e9194acf14e4efe535e"), looks := false }, kinds := [], alts := [], laidByText := true, laidKinds := [.data, .pinned], laidTests := true, laidLooks := .later }
def FnExactEncodeUptoCardSaid : Prop := Claim7.holds Tryd.pinned (.plain (OpenSpec.upto fnExactEncodeSpec)) fnExactEncodeUptoCard

/-- THE SECOND FORM's CARD OF 'laws.FnExactEncodeLossy'. -/
def fnExactEncodeLossyUptoCard : Claim7 := { stood := { row := fnExactEncodeLossyUptoRow, standIns := [], harness := (true, "4ad5bbab9bdf5beea9a661f0bb803e80d5cddf025fd40e9194acf14e4efe535e"), looks := false }, kinds := [], alts := [], laidByText := true, laidKinds := [.data, .pinned], laidTests := true, laidLooks := .later }
def FnExactEncodeLossyUptoCardSaid : Prop := Claim7.holds Tryd.pinned (.plain (OpenSpec.upto fnExactEncodeLossySpec)) fnExactEncodeLossyUptoCard

/-- THE SECOND FORM's CARD OF 'laws.FnExactCellText'. -/
def fnExactCellTextUptoCard : Claim7 := { stood := { row := fnExactCellTextUptoRow, standIns := [], harness := (true, "4ad5bbab9bdf5beea9a661f0bb803e80d5cddf025fd40e9194acf14e4efe535e"), looks := false }, kinds := [], alts := [], laidByText := true, laidKinds := [.data, .pinned], laidTests := true, laidLooks := .later }
def FnExactCellTextUptoCardSaid : Prop := Claim7.holds Tryd.pinned (.plain (OpenSpec.upto fnExactCellTextSpec)) fnExactCellTextUptoCard

/-- THE SECOND FORM's CARD OF 'laws.FnExactScore'. -/
def fnExactScoreUptoCard : Claim7 := { stood := { row := fnExactScoreUptoRow, standIns := [], harness := (true, "4ad5bbab9bdf5beea9a661f0bb803e80d5cddf025fd40e9194acf14e4efe535e"), looks := false }, kinds := [], alts := [], laidByText := true, laidKinds := [.data, .pinned], laidTests := true, laidLooks := .later }
def FnExactScoreUptoCardSaid : Prop := Claim7.holds Tryd.pinned (.plain (OpenSpec.upto fnExactScoreSpec)) fnExactScoreUptoCard

/-- THE SECOND FORM's CARD OF 'laws.FnExactFeed'. -/
def fnExactFeedUptoCard : Claim7 := { stood := { row := fnExactFeedUptoRow, standIns := [], harness := (true, "4ad5bbab9bdf5beea9a661f0bb803e80d5cddf025fd40e9194acf14e4efe535e"), looks := false }, kinds := [], alts := [], laidByText := true, laidKinds := [.data, .pinned], laidTests := true, laidLooks := .later }
def FnExactFeedUptoCardSaid : Prop := Claim7.holds Tryd.pinned (.plain (OpenSpec.upto fnExactFeedSpec)) fnExactFeedUptoCard

/-- THE SECOND FORM's CARD OF 'laws.FnExactDetect'. -/
def fnExactDetectUptoCard : Claim7 := { stood := { row := fnExactDetectUptoRow, standIns := [], harness := (true, "4ad5bbab9bdf5beea9a661f0bb803e80d5cddf025fd40e9194acf14e4efe535e"), looks := false }, kinds := [], alts := [], laidByText := true, laidKinds := [.data, .pinned], laidTests := true, laidLooks := .later }
def FnExactDetectUptoCardSaid : Prop := Claim7.holds Tryd.pinned (.plain (OpenSpec.upto fnExactDetectSpec)) fnExactDetectUptoCard

/-- THE SECOND FORM's CARD OF 'laws.FnStreams'. -/
def fnStreamsUptoCard : Claim7 := { stood := { row := fnStreamsUptoRow, standIns := [], harness := (true, "4ad5bbab9bdf5beea9a661f0bb803e80d5cddf025fd40e9194acf14e4efe535e"), looks := false }, kinds := [], alts := [], laidByText := true, laidKinds := [.data, .pinned], laidTests := true, laidLooks := .later }
def FnStreamsUptoCardSaid : Prop := Claim7.holds Tryd.pinned (.plain (OpenSpec.upto fnStreamsSpec)) fnStreamsUptoCard

/-- THE SECOND FORM's CARD OF 'laws.FnStreamsBent'. -/
def fnStreamsBentUptoCard : Claim7 := { stood := { row := fnStreamsBentUptoRow, standIns := [], harness := (true, "4ad5bbab9bdf5beea9a661f0bb803e80d5cddf025fd40e9194acf14e4efe535e"), looks := false }, kinds := [], alts := [], laidByText := true, laidKinds := [.data, .pinned], laidTests := true, laidLooks := .later }
def FnStreamsBentUptoCardSaid : Prop := Claim7.holds Tryd.pinned (.plain (OpenSpec.upto fnStreamsBentSpec)) fnStreamsBentUptoCard

/-- THE SECOND FORM's CARD OF 'laws.FnJoined'. -/
def fnJoinedUptoCard : Claim7 := { stood := { row := fnJoinedUptoRow, standIns := [], harness := (true, "4ad5bbab9bdf5beea9a661f0bb803e80d5cddf025fd40e9194acf14e4efe535e"), looks := false }, kinds := [], alts := [], laidByText := true, laidKinds := [.data, .pinned], laidTests := true, laidLooks := .later }
def FnJoinedUptoCardSaid : Prop := Claim7.holds Tryd.pinned (.plain (OpenSpec.upto fnJoinedSpec)) fnJoinedUptoCard

/-- THE SECOND FORM's CARD OF 'laws.FnDetects'. -/
def fnDetectsUptoCard : Claim7 := { stood := { row := fnDetectsUptoRow, standIns := [], harness := (true, "4ad5bbab9bdf5beea9a661f0bb803e80d5cddf025fd40e9194acf14e4efe535e"), looks := false }, kinds := [], alts := [], laidByText := true, laidKinds := [.data, .pinned], laidTests := true, laidLooks := .later }
def FnDetectsUptoCardSaid : Prop := Claim7.holds Tryd.pinned (.plain (OpenSpec.upto fnDetectsSpec)) fnDetectsUptoCard

/-- THE SECOND FORM's CARD OF 'laws.FnCodes'. -/
def fnCodesUptoCard : Claim7 := { stood := { row := fnCodesUptoRow, standIns := [], harness := (true, "4ad5bbab9bdf5beea9a661f0bb803e80d5cddf025fd40e9194acf14e4efe535e"), looks := false }, kinds := [], alts := [], laidByText := true, laidKinds := [.data, .pinned], laidTests := true, laidLooks := .later }
def FnCodesUptoCardSaid : Prop := Claim7.holds Tryd.pinned (.plain (OpenSpec.upto fnCodesSpec)) fnCodesUptoCard

/-- THE SECOND FORM's CARD OF 'laws.FnLossy'. -/
def fnLossyUptoCard : Claim7 := { stood := { row := fnLossyUptoRow, standIns := [], harness := (true, "4ad5bbab9bdf5beea9a661f0bb803e80d5cddf025fd40e9194acf14e4efe535e"), looks := false }, kinds := [], alts := [], laidByText := true, laidKinds := [.data, .pinned], laidTests := true, laidLooks := .later }
def FnLossyUptoCardSaid : Prop := Claim7.holds Tryd.pinned (.plain (OpenSpec.upto fnLossySpec)) fnLossyUptoCard
end Rows
end Go.Proofs.YtpmimhbnmjffpaaDoor
