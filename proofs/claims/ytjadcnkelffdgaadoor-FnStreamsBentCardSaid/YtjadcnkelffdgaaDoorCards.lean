/-
  DERIVED. GIVEN WITH THE SEED: THE CARDS: each row of YtjadcnkelffdgaaDoorRows.lean that lists a variable, with what it lists TIED to the program's text (the seventh form; the later family's looks); each row that meets fmt, with fmt's text TOLD by the authors' own Lean function (tested against real Go, not proved from fmt's source: count such statements apart). THE CARD IS WHAT COUNTS. Prove the row's statement (the work); the ties are given (YtjadcnkelffdgaaDoorTie.lean); close each card by the builder's one call (the guide's Derived/Test/ToyasCard.lean, 'card_holds'). Laid BY PROGRAM, IN A SANDBOX (cutbox-door.mjs). By AI agents, Wed Nov 11 2026. No macro, syntax, notation, axiom, sorry.
-/
import Derived.Test.YtjadcnkelffdgaaDoorRows
import GoSem.ClaimSeven
namespace Go.Proofs.YtjadcnkelffdgaaDoor
namespace Rows

/-- THE TIED CARD OF 'laws.FnStreamsBent'. -/
def fnStreamsBentCard : Claim7 := { stood := { row := fnStreamsBentRow, standIns := [], harness := (true, "c0d697783868f0625398811db4ab41d0b38521ef4ae9a8aa140563ad8dc0073f"), looks := false }, kinds := [], alts := [], laidByText := true, laidKinds := [.data, .pinned], laidTests := true, laidLooks := .later }
def FnStreamsBentCardSaid : Prop := Claim7.holds Tryd.pinned (.plain (OpenSpec.ofChange fnStreamsBentSpec)) fnStreamsBentCard

/-- THE SECOND FORM's CARD OF 'laws.FnStreamsBent'. -/
def fnStreamsBentUptoCard : Claim7 := { stood := { row := fnStreamsBentUptoRow, standIns := [], harness := (true, "c0d697783868f0625398811db4ab41d0b38521ef4ae9a8aa140563ad8dc0073f"), looks := false }, kinds := [], alts := [], laidByText := true, laidKinds := [.data, .pinned], laidTests := true, laidLooks := .later }
def FnStreamsBentUptoCardSaid : Prop := Claim7.holds Tryd.pinned (.plain (OpenSpec.upto fnStreamsBentSpec)) fnStreamsBentUptoCard
end Rows
end Go.Proofs.YtjadcnkelffdgaaDoor
