/-
  DERIVED. GIVEN WITH THE SEED: THE CARDS: each row of YtfbogcecphnjeaaDoorRows.lean that lists a variable, with what it lists TIED to the program's text (the seventh form; the later family's looks); each row that meets fmt, with fmt's text TOLD by the authors' own Lean function (tested against real Go, not proved from fmt's source: count such statements apart). THE CARD IS WHAT COUNTS. Prove the row's statement (the work); the ties are given (YtfbogcecphnjeaaDoorTie.lean); close each card by the builder's one call (the guide's Derived/Test/ToyasCard.lean, 'card_holds'). Laid BY PROGRAM, IN A SANDBOX (cutbox-door.mjs). By AI agents, Wed Nov 11 2026. No macro, syntax, notation, axiom, sorry.
-/
import Derived.Test.YtfbogcecphnjeaaDoorRows
import GoSem.ClaimSeven
namespace Go.Proofs.YtfbogcecphnjeaaDoor
namespace Rows

/-- THE TIED CARD OF 'laws.FnExactGetSign'. -/
def fnExactGetSignCard : Claim7 := { stood := { row := fnExactGetSignRow, standIns := [], harness := (true, "5ea9487802aef27bff4f0cd3ac8d1062b8d41b01c31b81024bfe68af76d034a7"), looks := false }, kinds := [], alts := [], laidByText := true, laidKinds := [.data, .pinned], laidTests := true, laidLooks := .later }
def FnExactGetSignCardSaid : Prop := Claim7.holds Tryd.pinned (.plain (OpenSpec.ofChange fnExactGetSignSpec)) fnExactGetSignCard

/-- THE TIED CARD OF 'laws.FnExactUtf8Ok'. -/
def fnExactUtf8OkCard : Claim7 := { stood := { row := fnExactUtf8OkRow, standIns := [], harness := (true, "5ea9487802aef27bff4f0cd3ac8d1062b8d41b01c31b81024bfe68af76d034a7"), looks := false }, kinds := [], alts := [], laidByText := true, laidKinds := [.data, .pinned], laidTests := true, laidLooks := .later }
def FnExactUtf8OkCardSaid : Prop := Claim7.holds Tryd.pinned (.plain (OpenSpec.ofChange fnExactUtf8OkSpec)) fnExactUtf8OkCard

/-- THE TIED CARD OF 'laws.FnExactDecOk'. -/
def fnExactDecOkCard : Claim7 := { stood := { row := fnExactDecOkRow, standIns := [], harness := (true, "5ea9487802aef27bff4f0cd3ac8d1062b8d41b01c31b81024bfe68af76d034a7"), looks := false }, kinds := [], alts := [], laidByText := true, laidKinds := [.data, .pinned], laidTests := true, laidLooks := .later }
def FnExactDecOkCardSaid : Prop := Claim7.holds Tryd.pinned (.plain (OpenSpec.ofChange fnExactDecOkSpec)) fnExactDecOkCard

/-- THE TIED CARD OF 'laws.FnExactSigns'. -/
def fnExactSignsCard : Claim7 := { stood := { row := fnExactSignsRow, standIns := [], harness := (true, "5ea9487802aef27bff4f0cd3ac8d1062b8d41b01c31b81024bfe68af76d034a7"), looks := false }, kinds := [], alts := [], laidByText := true, laidKinds := [.data, .pinned], laidTests := true, laidLooks := .later }
def FnExactSignsCardSaid : Prop := Claim7.holds Tryd.pinned (.plain (OpenSpec.ofChange fnExactSignsSpec)) fnExactSignsCard

/-- THE SECOND FORM's CARD OF 'laws.FnExactGetSign'. -/
def fnExactGetSignUptoCard : Claim7 := { stood := { row := fnExactGetSignUptoRow, standIns := [], harness := (true, "5ea9487802aef27bff4f0cd3ac8d1062b8d41b01c31b81024bfe68af76d034a7"), looks := false }, kinds := [], alts := [], laidByText := true, laidKinds := [.data, .pinned], laidTests := true, laidLooks := .later }
def FnExactGetSignUptoCardSaid : Prop := Claim7.holds Tryd.pinned (.plain (OpenSpec.upto fnExactGetSignSpec)) fnExactGetSignUptoCard

/-- THE SECOND FORM's CARD OF 'laws.FnExactUtf8Ok'. -/
def fnExactUtf8OkUptoCard : Claim7 := { stood := { row := fnExactUtf8OkUptoRow, standIns := [], harness := (true, "5ea9487802aef27bff4f0cd3ac8d1062b8d41b01c31b81024bfe68af76d034a7"), looks := false }, kinds := [], alts := [], laidByText := true, laidKinds := [.data, .pinned], laidTests := true, laidLooks := .later }
def FnExactUtf8OkUptoCardSaid : Prop := Claim7.holds Tryd.pinned (.plain (OpenSpec.upto fnExactUtf8OkSpec)) fnExactUtf8OkUptoCard

/-- THE SECOND FORM's CARD OF 'laws.FnExactDecOk'. -/
def fnExactDecOkUptoCard : Claim7 := { stood := { row := fnExactDecOkUptoRow, standIns := [], harness := (true, "5ea9487802aef27bff4f0cd3ac8d1062b8d41b01c31b81024bfe68af76d034a7"), looks := false }, kinds := [], alts := [], laidByText := true, laidKinds := [.data, .pinned], laidTests := true, laidLooks := .later }
def FnExactDecOkUptoCardSaid : Prop := Claim7.holds Tryd.pinned (.plain (OpenSpec.upto fnExactDecOkSpec)) fnExactDecOkUptoCard

/-- THE SECOND FORM's CARD OF 'laws.FnExactSigns'. -/
def fnExactSignsUptoCard : Claim7 := { stood := { row := fnExactSignsUptoRow, standIns := [], harness := (true, "5ea9487802aef27bff4f0cd3ac8d1062b8d41b01c31b81024bfe68af76d034a7"), looks := false }, kinds := [], alts := [], laidByText := true, laidKinds := [.data, .pinned], laidTests := true, laidLooks := .later }
def FnExactSignsUptoCardSaid : Prop := Claim7.holds Tryd.pinned (.plain (OpenSpec.upto fnExactSignsSpec)) fnExactSignsUptoCard
end Rows
end Go.Proofs.YtfbogcecphnjeaaDoor
