/-
  DERIVED. GIVEN WITH THE SEED: THE CARDS: each row of YtmdgjfadbhenjaaGreatDoorRows.lean that lists a variable, with what it lists TIED to the program's text (the seventh form; the later family's looks); each row that meets fmt, with fmt's text TOLD by the authors' own Lean function (tested against real Go, not proved from fmt's source: count such statements apart). THE CARD IS WHAT COUNTS. Prove the row's statement (the work); the ties are given (YtmdgjfadbhenjaaGreatDoorTie.lean); close each card by the builder's one call (the guide's Derived/Test/ToyasCard.lean, 'card_holds'). Laid BY PROGRAM, IN A SANDBOX (cutbox-door.mjs). By AI agents, Wed Nov 11 2026. No macro, syntax, notation, axiom, sorry.
-/
import Derived.Test.YtmdgjfadbhenjaaGreatDoorRows
import GoSem.ClaimSeven
namespace Go.Proofs.YtmdgjfadbhenjaaGreatDoor
namespace Rows

/-- THE TIED CARD OF 'postilionlaw49.OverlayIs'. -/
def overlayIsCard : Claim7 := { stood := { row := overlayIsRow, standIns := [], harness := (true, "0a4afa86aedb93c6cd21f111437424a3fa3515d3ce04ed5709accc95080cf90d"), looks := false }, kinds := [], alts := [], laidByText := true, laidKinds := [.data, .pinned], laidTests := true, laidLooks := .later }
def OverlayIsCardSaid : Prop := Claim7.holds Tryz.pinned (.plain (OpenSpec.ofChange overlayIsSpec)) overlayIsCard

/-- THE TIED CARD OF 'postilionlaw49.OverlayMerges'. -/
def overlayMergesCard : Claim7 := { stood := { row := overlayMergesRow, standIns := [], harness := (true, "0a4afa86aedb93c6cd21f111437424a3fa3515d3ce04ed5709accc95080cf90d"), looks := false }, kinds := [], alts := [], laidByText := true, laidKinds := [.data, .pinned], laidTests := true, laidLooks := .later }
def OverlayMergesCardSaid : Prop := Claim7.holds Tryz.pinned (.plain (OpenSpec.ofChange overlayMergesSpec)) overlayMergesCard

/-- THE TIED CARD OF 'postilionlaw49.OverlayLays'. -/
def overlayLaysCard : Claim7 := { stood := { row := overlayLaysRow, standIns := [], harness := (true, "0a4afa86aedb93c6cd21f111437424a3fa3515d3ce04ed5709accc95080cf90d"), looks := false }, kinds := [], alts := [], laidByText := true, laidKinds := [.data, .pinned], laidTests := true, laidLooks := .later }
def OverlayLaysCardSaid : Prop := Claim7.holds Tryz.pinned (.plain (OpenSpec.ofChange overlayLaysSpec)) overlayLaysCard

/-- THE TIED CARD OF 'postilionlaw49.OverlayKeeps'. -/
def overlayKeepsCard : Claim7 := { stood := { row := overlayKeepsRow, standIns := [], harness := (true, "0a4afa86aedb93c6cd21f111437424a3fa3515d3ce04ed5709accc95080cf90d"), looks := false }, kinds := [], alts := [], laidByText := true, laidKinds := [.data, .pinned], laidTests := true, laidLooks := .later }
def OverlayKeepsCardSaid : Prop := Claim7.holds Tryz.pinned (.plain (OpenSpec.ofChange overlayKeepsSpec)) overlayKeepsCard

/-- THE TIED CARD OF 'postilionlaw49.OverlayTwice'. -/
def overlayTwiceCard : Claim7 := { stood := { row := overlayTwiceRow, standIns := [], harness := (true, "0a4afa86aedb93c6cd21f111437424a3fa3515d3ce04ed5709accc95080cf90d"), looks := false }, kinds := [], alts := [], laidByText := true, laidKinds := [.data, .pinned], laidTests := true, laidLooks := .later }
def OverlayTwiceCardSaid : Prop := Claim7.holds Tryz.pinned (.plain (OpenSpec.ofChange overlayTwiceSpec)) overlayTwiceCard

/-- THE TIED CARD OF 'postilionlaw48.CellsIs'. -/
def cellsIsCard : Claim7 := { stood := { row := cellsIsRow, standIns := [], harness := (true, "0a4afa86aedb93c6cd21f111437424a3fa3515d3ce04ed5709accc95080cf90d"), looks := false }, kinds := [], alts := [], laidByText := true, laidKinds := [.data, .pinned], laidTests := true, laidLooks := .later }
def CellsIsCardSaid : Prop := Claim7.holds Tryz.pinned (.plain (OpenSpec.ofChange cellsIsSpec)) cellsIsCard

/-- THE TIED CARD OF 'postilionlaw48.CellsPut'. -/
def cellsPutCard : Claim7 := { stood := { row := cellsPutRow, standIns := [], harness := (true, "0a4afa86aedb93c6cd21f111437424a3fa3515d3ce04ed5709accc95080cf90d"), looks := false }, kinds := [], alts := [], laidByText := true, laidKinds := [.data, .pinned], laidTests := true, laidLooks := .later }
def CellsPutCardSaid : Prop := Claim7.holds Tryz.pinned (.plain (OpenSpec.ofChange cellsPutSpec)) cellsPutCard

/-- THE TIED CARD OF 'postilionlaw48.CellsRow'. -/
def cellsRowCard : Claim7 := { stood := { row := cellsRowRow, standIns := [], harness := (true, "0a4afa86aedb93c6cd21f111437424a3fa3515d3ce04ed5709accc95080cf90d"), looks := false }, kinds := [], alts := [], laidByText := true, laidKinds := [.data, .pinned], laidTests := true, laidLooks := .later }
def CellsRowCardSaid : Prop := Claim7.holds Tryz.pinned (.plain (OpenSpec.ofChange cellsRowSpec)) cellsRowCard

/-- THE TIED CARD OF 'postilionlaw48.CellsUp'. -/
def cellsUpCard : Claim7 := { stood := { row := cellsUpRow, standIns := [], harness := (true, "0a4afa86aedb93c6cd21f111437424a3fa3515d3ce04ed5709accc95080cf90d"), looks := false }, kinds := [], alts := [], laidByText := true, laidKinds := [.data, .pinned], laidTests := true, laidLooks := .later }
def CellsUpCardSaid : Prop := Claim7.holds Tryz.pinned (.plain (OpenSpec.ofChange cellsUpSpec)) cellsUpCard

/-- THE SECOND FORM's CARD OF 'postilionlaw49.OverlayIs'. -/
def overlayIsUptoCard : Claim7 := { stood := { row := overlayIsUptoRow, standIns := [], harness := (true, "0a4afa86aedb93c6cd21f111437424a3fa3515d3ce04ed5709accc95080cf90d"), looks := false }, kinds := [], alts := [], laidByText := true, laidKinds := [.data, .pinned], laidTests := true, laidLooks := .later }
def OverlayIsUptoCardSaid : Prop := Claim7.holds Tryz.pinned (.plain (OpenSpec.upto overlayIsSpec)) overlayIsUptoCard

/-- THE SECOND FORM's CARD OF 'postilionlaw49.OverlayMerges'. -/
def overlayMergesUptoCard : Claim7 := { stood := { row := overlayMergesUptoRow, standIns := [], harness := (true, "0a4afa86aedb93c6cd21f111437424a3fa3515d3ce04ed5709accc95080cf90d"), looks := false }, kinds := [], alts := [], laidByText := true, laidKinds := [.data, .pinned], laidTests := true, laidLooks := .later }
def OverlayMergesUptoCardSaid : Prop := Claim7.holds Tryz.pinned (.plain (OpenSpec.upto overlayMergesSpec)) overlayMergesUptoCard

/-- THE SECOND FORM's CARD OF 'postilionlaw49.OverlayLays'. -/
def overlayLaysUptoCard : Claim7 := { stood := { row := overlayLaysUptoRow, standIns := [], harness := (true, "0a4afa86aedb93c6cd21f111437424a3fa3515d3ce04ed5709accc95080cf90d"), looks := false }, kinds := [], alts := [], laidByText := true, laidKinds := [.data, .pinned], laidTests := true, laidLooks := .later }
def OverlayLaysUptoCardSaid : Prop := Claim7.holds Tryz.pinned (.plain (OpenSpec.upto overlayLaysSpec)) overlayLaysUptoCard

/-- THE SECOND FORM's CARD OF 'postilionlaw49.OverlayKeeps'. -/
def overlayKeepsUptoCard : Claim7 := { stood := { row := overlayKeepsUptoRow, standIns := [], harness := (true, "0a4afa86aedb93c6cd21f111437424a3fa3515d3ce04ed5709accc95080cf90d"), looks := false }, kinds := [], alts := [], laidByText := true, laidKinds := [.data, .pinned], laidTests := true, laidLooks := .later }
def OverlayKeepsUptoCardSaid : Prop := Claim7.holds Tryz.pinned (.plain (OpenSpec.upto overlayKeepsSpec)) overlayKeepsUptoCard

/-- THE SECOND FORM's CARD OF 'postilionlaw49.OverlayTwice'. -/
def overlayTwiceUptoCard : Claim7 := { stood := { row := overlayTwiceUptoRow, standIns := [], harness := (true, "0a4afa86aedb93c6cd21f111437424a3fa3515d3ce04ed5709accc95080cf90d"), looks := false }, kinds := [], alts := [], laidByText := true, laidKinds := [.data, .pinned], laidTests := true, laidLooks := .later }
def OverlayTwiceUptoCardSaid : Prop := Claim7.holds Tryz.pinned (.plain (OpenSpec.upto overlayTwiceSpec)) overlayTwiceUptoCard

/-- THE SECOND FORM's CARD OF 'postilionlaw48.CellsIs'. -/
def cellsIsUptoCard : Claim7 := { stood := { row := cellsIsUptoRow, standIns := [], harness := (true, "0a4afa86aedb93c6cd21f111437424a3fa3515d3ce04ed5709accc95080cf90d"), looks := false }, kinds := [], alts := [], laidByText := true, laidKinds := [.data, .pinned], laidTests := true, laidLooks := .later }
def CellsIsUptoCardSaid : Prop := Claim7.holds Tryz.pinned (.plain (OpenSpec.upto cellsIsSpec)) cellsIsUptoCard

/-- THE SECOND FORM's CARD OF 'postilionlaw48.CellsPut'. -/
def cellsPutUptoCard : Claim7 := { stood := { row := cellsPutUptoRow, standIns := [], harness := (true, "0a4afa86aedb93c6cd21f111437424a3fa3515d3ce04ed5709accc95080cf90d"), looks := false }, kinds := [], alts := [], laidByText := true, laidKinds := [.data, .pinned], laidTests := true, laidLooks := .later }
def CellsPutUptoCardSaid : Prop := Claim7.holds Tryz.pinned (.plain (OpenSpec.upto cellsPutSpec)) cellsPutUptoCard

/-- THE SECOND FORM's CARD OF 'postilionlaw48.CellsRow'. -/
def cellsRowUptoCard : Claim7 := { stood := { row := cellsRowUptoRow, standIns := [], harness := (true, "0a4afa86aedb93c6cd21f111437424a3fa3515d3ce04ed5709accc95080cf90d"), looks := false }, kinds := [], alts := [], laidByText := true, laidKinds := [.data, .pinned], laidTests := true, laidLooks := .later }
def CellsRowUptoCardSaid : Prop := Claim7.holds Tryz.pinned (.plain (OpenSpec.upto cellsRowSpec)) cellsRowUptoCard

/-- THE SECOND FORM's CARD OF 'postilionlaw48.CellsUp'. -/
def cellsUpUptoCard : Claim7 := { stood := { row := cellsUpUptoRow, standIns := [], harness := (true, "0a4afa86aedb93c6cd21f111437424a3fa3515d3ce04ed5709accc95080cf90d"), looks := false }, kinds := [], alts := [], laidByText := true, laidKinds := [.data, .pinned], laidTests := true, laidLooks := .later }
def CellsUpUptoCardSaid : Prop := Claim7.holds Tryz.pinned (.plain (OpenSpec.upto cellsUpSpec)) cellsUpUptoCard
end Rows
end Go.Proofs.YtmdgjfadbhenjaaGreatDoor
