/-
  DERIVED. GIVEN WITH THE SEED: THE CARDS: each row of YtdknpnmdjjmapaaDoorRows.lean that lists a variable, with what it lists TIED to the program's text (the seventh form; the later family's looks); each row that meets fmt, with fmt's text TOLD by the authors' own Lean function (tested against real Go, not proved from fmt's source: count such statements apart). THE CARD IS WHAT COUNTS. Prove the row's statement (the work); the ties are given (YtdknpnmdjjmapaaDoorTie.lean); close each card by the builder's one call (the guide's Derived/Test/ToyasCard.lean, 'card_holds'). Laid BY PROGRAM, IN A SANDBOX (cutbox-door.mjs). By AI agents, Wed Nov 11 2026. No macro, syntax, notation, axiom, sorry.
-/
import Derived.Test.YtdknpnmdjjmapaaDoorRows
import GoSem.ClaimSeven
namespace Go.Proofs.YtdknpnmdjjmapaaDoor
namespace Rows

/-- THE TIED CARD OF 'postilionlaw17.EditIs'. -/
def editIsCard : Claim7 := { stood := { row := editIsRow, standIns := [], harness := (true, "ec2e63e17180079e789c73a8f8aeb10fcabebfc2676ecef156a4c86b6c8d491f"), looks := false }, kinds := [], alts := [], laidByText := true, laidKinds := [.data, .pinned], laidTests := true, laidLooks := .later }
def EditIsCardSaid : Prop := Claim7.holds Tryd.pinned (.plain (OpenSpec.ofChange editIsSpec)) editIsCard

/-- THE TIED CARD OF 'postilionlaw17.EditKeeps'. -/
def editKeepsCard : Claim7 := { stood := { row := editKeepsRow, standIns := [], harness := (true, "ec2e63e17180079e789c73a8f8aeb10fcabebfc2676ecef156a4c86b6c8d491f"), looks := false }, kinds := [], alts := [], laidByText := true, laidKinds := [.data, .pinned], laidTests := true, laidLooks := .later }
def EditKeepsCardSaid : Prop := Claim7.holds Tryd.pinned (.plain (OpenSpec.ofChange editKeepsSpec)) editKeepsCard

/-- THE SECOND FORM's CARD OF 'postilionlaw17.EditIs'. -/
def editIsUptoCard : Claim7 := { stood := { row := editIsUptoRow, standIns := [], harness := (true, "ec2e63e17180079e789c73a8f8aeb10fcabebfc2676ecef156a4c86b6c8d491f"), looks := false }, kinds := [], alts := [], laidByText := true, laidKinds := [.data, .pinned], laidTests := true, laidLooks := .later }
def EditIsUptoCardSaid : Prop := Claim7.holds Tryd.pinned (.plain (OpenSpec.upto editIsSpec)) editIsUptoCard

/-- THE SECOND FORM's CARD OF 'postilionlaw17.EditKeeps'. -/
def editKeepsUptoCard : Claim7 := { stood := { row := editKeepsUptoRow, standIns := [], harness := (true, "ec2e63e17180079e789c73a8f8aeb10fcabebfc2676ecef156a4c86b6c8d491f"), looks := false }, kinds := [], alts := [], laidByText := true, laidKinds := [.data, .pinned], laidTests := true, laidLooks := .later }
def EditKeepsUptoCardSaid : Prop := Claim7.holds Tryd.pinned (.plain (OpenSpec.upto editKeepsSpec)) editKeepsUptoCard
end Rows
end Go.Proofs.YtdknpnmdjjmapaaDoor
