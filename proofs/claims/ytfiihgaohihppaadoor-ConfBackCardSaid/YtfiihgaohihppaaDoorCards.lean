/-
  DERIVED. GIVEN WITH THE SEED: THE CARDS: each row of YtfiihgaohihppaaDoorRows.lean that lists a variable, with what it lists TIED to the program's text (the seventh form; the later family's looks); each row that meets fmt, with fmt's text TOLD by the authors' own Lean function (tested against real Go, not proved from fmt's source: count such statements apart). THE CARD IS WHAT COUNTS. Prove the row's statement (the work); the ties are given (YtfiihgaohihppaaDoorTie.lean); close each card by the builder's one call (the guide's Derived/Test/ToyasCard.lean, 'card_holds'). Laid BY PROGRAM, IN A SANDBOX (cutbox-door.mjs). By AI agents, Wed Nov 11 2026. No macro, syntax, notation, axiom, sorry.
-/
import Derived.Test.YtfiihgaohihppaaDoorRows
import GoSem.ClaimSeven
namespace Go.Proofs.YtfiihgaohihppaaDoor
namespace Rows

/-- THE TIED CARD OF 'postilionlaw16.PathIs'. -/
def pathIsCard : Claim7 := { stood := { row := pathIsRow, standIns := [], harness := (true, "d86ff844498cd14c3abc7297f311dd9f38dbd10d6bcd3e5e1bd69b34cc573ebf"), looks := false }, kinds := [], alts := [], laidByText := true, laidKinds := [.data, .pinned], laidTests := true, laidLooks := .later }
def PathIsCardSaid : Prop := Claim7.holds Tryd.pinned (.plain (OpenSpec.ofChange pathIsSpec)) pathIsCard

/-- THE TIED CARD OF 'postilionlaw16.PathFind'. -/
def pathFindCard : Claim7 := { stood := { row := pathFindRow, standIns := [], harness := (true, "d86ff844498cd14c3abc7297f311dd9f38dbd10d6bcd3e5e1bd69b34cc573ebf"), looks := false }, kinds := [], alts := [], laidByText := true, laidKinds := [.data, .pinned], laidTests := true, laidLooks := .later }
def PathFindCardSaid : Prop := Claim7.holds Tryd.pinned (.plain (OpenSpec.ofChange pathFindSpec)) pathFindCard

/-- THE TIED CARD OF 'postilionlaw16.PathWalk'. -/
def pathWalkCard : Claim7 := { stood := { row := pathWalkRow, standIns := [], harness := (true, "d86ff844498cd14c3abc7297f311dd9f38dbd10d6bcd3e5e1bd69b34cc573ebf"), looks := false }, kinds := [], alts := [], laidByText := true, laidKinds := [.data, .pinned], laidTests := true, laidLooks := .later }
def PathWalkCardSaid : Prop := Claim7.holds Tryd.pinned (.plain (OpenSpec.ofChange pathWalkSpec)) pathWalkCard

/-- THE TIED CARD OF 'postilionlaw27.ConfIs'. -/
def confIsCard : Claim7 := { stood := { row := confIsRow, standIns := [], harness := (true, "d86ff844498cd14c3abc7297f311dd9f38dbd10d6bcd3e5e1bd69b34cc573ebf"), looks := false }, kinds := [], alts := [], laidByText := true, laidKinds := [.data, .pinned], laidTests := true, laidLooks := .later }
def ConfIsCardSaid : Prop := Claim7.holds Tryd.pinned (.plain (OpenSpec.ofChange confIsSpec)) confIsCard

/-- THE TIED CARD OF 'postilionlaw27.ConfBack'. -/
def confBackCard : Claim7 := { stood := { row := confBackRow, standIns := [], harness := (true, "d86ff844498cd14c3abc7297f311dd9f38dbd10d6bcd3e5e1bd69b34cc573ebf"), looks := false }, kinds := [], alts := [], laidByText := true, laidKinds := [.data, .pinned], laidTests := true, laidLooks := .later }
def ConfBackCardSaid : Prop := Claim7.holds Tryd.pinned (.plain (OpenSpec.ofChange confBackSpec)) confBackCard

/-- THE TIED CARD OF 'postilionlaw17.EditIs'. -/
def editIsCard : Claim7 := { stood := { row := editIsRow, standIns := [], harness := (true, "d86ff844498cd14c3abc7297f311dd9f38dbd10d6bcd3e5e1bd69b34cc573ebf"), looks := false }, kinds := [], alts := [], laidByText := true, laidKinds := [.data, .pinned], laidTests := true, laidLooks := .later }
def EditIsCardSaid : Prop := Claim7.holds Tryd.pinned (.plain (OpenSpec.ofChange editIsSpec)) editIsCard

/-- THE TIED CARD OF 'postilionlaw17.EditKeeps'. -/
def editKeepsCard : Claim7 := { stood := { row := editKeepsRow, standIns := [], harness := (true, "d86ff844498cd14c3abc7297f311dd9f38dbd10d6bcd3e5e1bd69b34cc573ebf"), looks := false }, kinds := [], alts := [], laidByText := true, laidKinds := [.data, .pinned], laidTests := true, laidLooks := .later }
def EditKeepsCardSaid : Prop := Claim7.holds Tryd.pinned (.plain (OpenSpec.ofChange editKeepsSpec)) editKeepsCard

/-- THE SECOND FORM's CARD OF 'postilionlaw16.PathIs'. -/
def pathIsUptoCard : Claim7 := { stood := { row := pathIsUptoRow, standIns := [], harness := (true, "d86ff844498cd14c3abc7297f311dd9f38dbd10d6bcd3e5e1bd69b34cc573ebf"), looks := false }, kinds := [], alts := [], laidByText := true, laidKinds := [.data, .pinned], laidTests := true, laidLooks := .later }
def PathIsUptoCardSaid : Prop := Claim7.holds Tryd.pinned (.plain (OpenSpec.upto pathIsSpec)) pathIsUptoCard

/-- THE SECOND FORM's CARD OF 'postilionlaw16.PathFind'. -/
def pathFindUptoCard : Claim7 := { stood := { row := pathFindUptoRow, standIns := [], harness := (true, "d86ff844498cd14c3abc7297f311dd9f38dbd10d6bcd3e5e1bd69b34cc573ebf"), looks := false }, kinds := [], alts := [], laidByText := true, laidKinds := [.data, .pinned], laidTests := true, laidLooks := .later }
def PathFindUptoCardSaid : Prop := Claim7.holds Tryd.pinned (.plain (OpenSpec.upto pathFindSpec)) pathFindUptoCard

/-- THE SECOND FORM's CARD OF 'postilionlaw16.PathWalk'. -/
def pathWalkUptoCard : Claim7 := { stood := { row := pathWalkUptoRow, standIns := [], harness := (true, "d86ff844498cd14c3abc7297f311dd9f38dbd10d6bcd3e5e1bd69b34cc573ebf"), looks := false }, kinds := [], alts := [], laidByText := true, laidKinds := [.data, .pinned], laidTests := true, laidLooks := .later }
def PathWalkUptoCardSaid : Prop := Claim7.holds Tryd.pinned (.plain (OpenSpec.upto pathWalkSpec)) pathWalkUptoCard

/-- THE SECOND FORM's CARD OF 'postilionlaw27.ConfIs'. -/
def confIsUptoCard : Claim7 := { stood := { row := confIsUptoRow, standIns := [], harness := (true, "d86ff844498cd14c3abc7297f311dd9f38dbd10d6bcd3e5e1bd69b34cc573ebf"), looks := false }, kinds := [], alts := [], laidByText := true, laidKinds := [.data, .pinned], laidTests := true, laidLooks := .later }
def ConfIsUptoCardSaid : Prop := Claim7.holds Tryd.pinned (.plain (OpenSpec.upto confIsSpec)) confIsUptoCard

/-- THE SECOND FORM's CARD OF 'postilionlaw27.ConfBack'. -/
def confBackUptoCard : Claim7 := { stood := { row := confBackUptoRow, standIns := [], harness := (true, "d86ff844498cd14c3abc7297f311dd9f38dbd10d6bcd3e5e1bd69b34cc573ebf"), looks := false }, kinds := [], alts := [], laidByText := true, laidKinds := [.data, .pinned], laidTests := true, laidLooks := .later }
def ConfBackUptoCardSaid : Prop := Claim7.holds Tryd.pinned (.plain (OpenSpec.upto confBackSpec)) confBackUptoCard

/-- THE SECOND FORM's CARD OF 'postilionlaw17.EditIs'. -/
def editIsUptoCard : Claim7 := { stood := { row := editIsUptoRow, standIns := [], harness := (true, "d86ff844498cd14c3abc7297f311dd9f38dbd10d6bcd3e5e1bd69b34cc573ebf"), looks := false }, kinds := [], alts := [], laidByText := true, laidKinds := [.data, .pinned], laidTests := true, laidLooks := .later }
def EditIsUptoCardSaid : Prop := Claim7.holds Tryd.pinned (.plain (OpenSpec.upto editIsSpec)) editIsUptoCard

/-- THE SECOND FORM's CARD OF 'postilionlaw17.EditKeeps'. -/
def editKeepsUptoCard : Claim7 := { stood := { row := editKeepsUptoRow, standIns := [], harness := (true, "d86ff844498cd14c3abc7297f311dd9f38dbd10d6bcd3e5e1bd69b34cc573ebf"), looks := false }, kinds := [], alts := [], laidByText := true, laidKinds := [.data, .pinned], laidTests := true, laidLooks := .later }
def EditKeepsUptoCardSaid : Prop := Claim7.holds Tryd.pinned (.plain (OpenSpec.upto editKeepsSpec)) editKeepsUptoCard
end Rows
end Go.Proofs.YtfiihgaohihppaaDoor
