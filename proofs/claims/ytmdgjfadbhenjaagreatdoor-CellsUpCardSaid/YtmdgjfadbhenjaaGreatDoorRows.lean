/-
  NARROWER THAN 'FOR EVERY INPUT', by the rows' own cells (each row's printed sentence says how): OverlayIs: loops, laid · OverlayMerges: loops, laid · OverlayLays: loops, laid · OverlayKeeps: loops, laid · OverlayTwice: loops, laid · CellsIs: loops, laid · CellsPut: laid · CellsRow: laid · CellsUp: loops, laid.
  DERIVED. THE GIVEN ROWS OF THIS SEAT. 9 by the template 'for every input the law returns true; each argument reads behind the call as it read before'; 0 by the template 'total and deterministic' (their statements: YtmdgjfadbhenjaaGreatDoorTotals.lean).
  GIVEN WITH THE SEED: the statements are not yours to turn. If you find one false, say at which input.
  Laid BY PROGRAM, IN A SANDBOX (cutbox-rows.mjs): the forced cells as the released guide's own fill.sh prints them over the translation d4e42d7e71a42209… (all of the seat's roots in one cut). By AI agents, Wed Nov 11 2026. No macro, syntax, notation, axiom, sorry.
-/
import Derived.Test.YtmdgjfadbhenjaaGreatDoorChecked
import GoSem.PinnedTables
import GoSem.Claim
import GoSem.ClaimJoined
import GoSem.ClaimMapViews
import Derived.JoinedTies
import Derived.KernelRfl
namespace Go.Proofs.YtmdgjfadbhenjaaGreatDoor
/- THE CELL 'sum', in the pinned program and in every row, IS THE sha256 OF THE DUMP (.gsa) THAT YtmdgjfadbhenjaaGreatDoorProg.lean LOADS. Nothing in Lean hashes anything: it is a label: what it is worth is what the hold of that sum in a sandbox is worth. -/
noncomputable def Tryz.pinned : Pinned := { name := "ytmdgjfadbhenjaagreatdoor", sum := "d4e42d7e71a42209727854c3ff7e149866a837e6ad7b13401f5105f7ebfc1779", checked := Tryz.checked }
namespace Rows
def none {H : Type} : Left H := { results := [], args := [] }

/- WHAT THE LISTED PACKAGE-LEVEL VARIABLES READ AS WHEN THE CALL BEGINS. Each datum BY PROGRAM (the guide's laid-datum.mjs) off the statement by which the dump's own 'gosem.cut.vars' lays the variable. In a bare row this is a premise. The card (YtmdgjfadbhenjaaGreatDoorCards.lean) ties it to the program's text. -/
def laid_unicode_utf8_acceptRanges {H : Type} : DataW H := .agg [.agg [.lit (.int .u8 128), .lit (.int .u8 191)], .agg [.lit (.int .u8 160), .lit (.int .u8 191)], .agg [.lit (.int .u8 128), .lit (.int .u8 159)], .agg [.lit (.int .u8 144), .lit (.int .u8 191)], .agg [.lit (.int .u8 128), .lit (.int .u8 143)], .agg [.lit (.int .u8 0), .lit (.int .u8 0)], .agg [.lit (.int .u8 0), .lit (.int .u8 0)], .agg [.lit (.int .u8 0), .lit (.int .u8 0)], .agg [.lit (.int .u8 0), .lit (.int .u8 0)], .agg [.lit (.int .u8 0), .lit (.int .u8 0)], .agg [.lit (.int .u8 0), .lit (.int .u8 0)], .agg [.lit (.int .u8 0), .lit (.int .u8 0)], .agg [.lit (.int .u8 0), .lit (.int .u8 0)], .agg [.lit (.int .u8 0), .lit (.int .u8 0)], .agg [.lit (.int .u8 0), .lit (.int .u8 0)], .agg [.lit (.int .u8 0), .lit (.int .u8 0)]]
/-- One of Go's own tables, pinned by name: the form's constant. -/
def laid_unicode_utf8_first : DataW Unit := Go.Pinned.utf8First

/-- 'postilionlaw49.OverlayIs': WHATEVER THE INPUT: true; the input reads as it did. -/
def overlayIsSpec : ChangeSpec := { name := "overlayIs", fn := fun _ => fun
  | [d1, d2] => { results := [.lit (.bool true)], args := [d1, d2] }
  | _ => none }
def overlayIsRow : OpenClaim := { program := "ytmdgjfadbhenjaagreatdoor", sum := "d4e42d7e71a42209727854c3ff7e149866a837e6ad7b13401f5105f7ebfc1779", func := "postilion/postilionlaw49.OverlayIs", spec := "overlayIs", inPlace := ["internal/bytealg.IndexByteString", "internal/bytealg.IndexString", "internal/bytealg.CountString", "slices.overlaps[postilion/api.Span]"], unfollowed := true, recurses := true, named := ["internal/bytealg.MaxLen", "unicode/utf8.first", "unicode/utf8.acceptRanges"], loops := true, apart := false, laid := [("unicode/utf8.acceptRanges", laid_unicode_utf8_acceptRanges), ("unicode/utf8.first", laid_unicode_utf8_first)] }
def OverlayIsSaid : Prop := overlayIsRow.holds Tryz.pinned (OpenSpec.ofChange overlayIsSpec)

/-- ITS FALSE NEIGHBOUR: 'it returns false'. Refute it at one input. -/
def overlayIsWrong : ChangeSpec := { name := "overlayIs", fn := fun _ => fun
  | [d1, d2] => { results := [.lit (.bool false)], args := [d1, d2] }
  | _ => none }
def OverlayIsWrongFalsely : Prop := overlayIsRow.holds Tryz.pinned (OpenSpec.ofChange overlayIsWrong)

/-- 'postilionlaw49.OverlayMerges': WHATEVER THE INPUT: true; the input reads as it did. -/
def overlayMergesSpec : ChangeSpec := { name := "overlayMerges", fn := fun _ => fun
  | [d1, d2, d3] => { results := [.lit (.bool true)], args := [d1, d2, d3] }
  | _ => none }
def overlayMergesRow : OpenClaim := { program := "ytmdgjfadbhenjaagreatdoor", sum := "d4e42d7e71a42209727854c3ff7e149866a837e6ad7b13401f5105f7ebfc1779", func := "postilion/postilionlaw49.OverlayMerges", spec := "overlayMerges", inPlace := ["internal/bytealg.IndexByteString", "internal/bytealg.IndexString", "internal/bytealg.CountString", "slices.overlaps[postilion/api.Span]"], unfollowed := true, recurses := true, named := ["internal/bytealg.MaxLen", "unicode/utf8.first", "unicode/utf8.acceptRanges"], loops := true, apart := false, laid := [("unicode/utf8.acceptRanges", laid_unicode_utf8_acceptRanges), ("unicode/utf8.first", laid_unicode_utf8_first)] }
def OverlayMergesSaid : Prop := overlayMergesRow.holds Tryz.pinned (OpenSpec.ofChange overlayMergesSpec)

/-- ITS FALSE NEIGHBOUR: 'it returns false'. Refute it at one input. -/
def overlayMergesWrong : ChangeSpec := { name := "overlayMerges", fn := fun _ => fun
  | [d1, d2, d3] => { results := [.lit (.bool false)], args := [d1, d2, d3] }
  | _ => none }
def OverlayMergesWrongFalsely : Prop := overlayMergesRow.holds Tryz.pinned (OpenSpec.ofChange overlayMergesWrong)

/-- 'postilionlaw49.OverlayLays': WHATEVER THE INPUT: true; the input reads as it did. -/
def overlayLaysSpec : ChangeSpec := { name := "overlayLays", fn := fun _ => fun
  | [d1, d2] => { results := [.lit (.bool true)], args := [d1, d2] }
  | _ => none }
def overlayLaysRow : OpenClaim := { program := "ytmdgjfadbhenjaagreatdoor", sum := "d4e42d7e71a42209727854c3ff7e149866a837e6ad7b13401f5105f7ebfc1779", func := "postilion/postilionlaw49.OverlayLays", spec := "overlayLays", inPlace := ["internal/bytealg.IndexByteString", "internal/bytealg.IndexString", "internal/bytealg.CountString", "slices.overlaps[postilion/api.Span]"], unfollowed := true, recurses := true, named := ["internal/bytealg.MaxLen", "unicode/utf8.first", "unicode/utf8.acceptRanges"], loops := true, apart := false, laid := [("unicode/utf8.acceptRanges", laid_unicode_utf8_acceptRanges), ("unicode/utf8.first", laid_unicode_utf8_first)] }
def OverlayLaysSaid : Prop := overlayLaysRow.holds Tryz.pinned (OpenSpec.ofChange overlayLaysSpec)

/-- ITS FALSE NEIGHBOUR: 'it returns false'. Refute it at one input. -/
def overlayLaysWrong : ChangeSpec := { name := "overlayLays", fn := fun _ => fun
  | [d1, d2] => { results := [.lit (.bool false)], args := [d1, d2] }
  | _ => none }
def OverlayLaysWrongFalsely : Prop := overlayLaysRow.holds Tryz.pinned (OpenSpec.ofChange overlayLaysWrong)

/-- 'postilionlaw49.OverlayKeeps': WHATEVER THE INPUT: true; the input reads as it did. -/
def overlayKeepsSpec : ChangeSpec := { name := "overlayKeeps", fn := fun _ => fun
  | [d1, d2] => { results := [.lit (.bool true)], args := [d1, d2] }
  | _ => none }
def overlayKeepsRow : OpenClaim := { program := "ytmdgjfadbhenjaagreatdoor", sum := "d4e42d7e71a42209727854c3ff7e149866a837e6ad7b13401f5105f7ebfc1779", func := "postilion/postilionlaw49.OverlayKeeps", spec := "overlayKeeps", inPlace := ["internal/bytealg.IndexByteString", "internal/bytealg.IndexString", "internal/bytealg.CountString", "slices.overlaps[postilion/api.Span]"], unfollowed := true, recurses := true, named := ["internal/bytealg.MaxLen", "unicode/utf8.first", "unicode/utf8.acceptRanges"], loops := true, apart := false, laid := [("unicode/utf8.acceptRanges", laid_unicode_utf8_acceptRanges), ("unicode/utf8.first", laid_unicode_utf8_first)] }
def OverlayKeepsSaid : Prop := overlayKeepsRow.holds Tryz.pinned (OpenSpec.ofChange overlayKeepsSpec)

/-- ITS FALSE NEIGHBOUR: 'it returns false'. Refute it at one input. -/
def overlayKeepsWrong : ChangeSpec := { name := "overlayKeeps", fn := fun _ => fun
  | [d1, d2] => { results := [.lit (.bool false)], args := [d1, d2] }
  | _ => none }
def OverlayKeepsWrongFalsely : Prop := overlayKeepsRow.holds Tryz.pinned (OpenSpec.ofChange overlayKeepsWrong)

/-- 'postilionlaw49.OverlayTwice': WHATEVER THE INPUT: true; the input reads as it did. -/
def overlayTwiceSpec : ChangeSpec := { name := "overlayTwice", fn := fun _ => fun
  | [d1, d2] => { results := [.lit (.bool true)], args := [d1, d2] }
  | _ => none }
def overlayTwiceRow : OpenClaim := { program := "ytmdgjfadbhenjaagreatdoor", sum := "d4e42d7e71a42209727854c3ff7e149866a837e6ad7b13401f5105f7ebfc1779", func := "postilion/postilionlaw49.OverlayTwice", spec := "overlayTwice", inPlace := ["internal/bytealg.IndexByteString", "internal/bytealg.IndexString", "internal/bytealg.CountString", "slices.overlaps[postilion/api.Span]"], unfollowed := true, recurses := true, named := ["internal/bytealg.MaxLen", "unicode/utf8.first", "unicode/utf8.acceptRanges"], loops := true, apart := false, laid := [("unicode/utf8.acceptRanges", laid_unicode_utf8_acceptRanges), ("unicode/utf8.first", laid_unicode_utf8_first)] }
def OverlayTwiceSaid : Prop := overlayTwiceRow.holds Tryz.pinned (OpenSpec.ofChange overlayTwiceSpec)

/-- ITS FALSE NEIGHBOUR: 'it returns false'. Refute it at one input. -/
def overlayTwiceWrong : ChangeSpec := { name := "overlayTwice", fn := fun _ => fun
  | [d1, d2] => { results := [.lit (.bool false)], args := [d1, d2] }
  | _ => none }
def OverlayTwiceWrongFalsely : Prop := overlayTwiceRow.holds Tryz.pinned (OpenSpec.ofChange overlayTwiceWrong)

/-- 'postilionlaw48.CellsIs': WHATEVER THE INPUT: true; the input reads as it did. -/
def cellsIsSpec : ChangeSpec := { name := "cellsIs", fn := fun _ => fun
  | [d1, d2, d3] => { results := [.lit (.bool true)], args := [d1, d2, d3] }
  | _ => none }
def cellsIsRow : OpenClaim := { program := "ytmdgjfadbhenjaagreatdoor", sum := "d4e42d7e71a42209727854c3ff7e149866a837e6ad7b13401f5105f7ebfc1779", func := "postilion/postilionlaw48.CellsIs", spec := "cellsIs", inPlace := ["internal/bytealg.CountString", "internal/bytealg.IndexByteString", "internal/bytealg.IndexString", "internal/abi.NoEscape", "internal/bytealg.MakeNoZero"], unfollowed := true, recurses := true, named := ["unicode/utf8.first", "unicode/utf8.acceptRanges", "internal/bytealg.MaxLen"], loops := true, apart := false, laid := [("unicode/utf8.acceptRanges", laid_unicode_utf8_acceptRanges), ("unicode/utf8.first", laid_unicode_utf8_first)] }
def CellsIsSaid : Prop := cellsIsRow.holds Tryz.pinned (OpenSpec.ofChange cellsIsSpec)

/-- ITS FALSE NEIGHBOUR: 'it returns false'. Refute it at one input. -/
def cellsIsWrong : ChangeSpec := { name := "cellsIs", fn := fun _ => fun
  | [d1, d2, d3] => { results := [.lit (.bool false)], args := [d1, d2, d3] }
  | _ => none }
def CellsIsWrongFalsely : Prop := cellsIsRow.holds Tryz.pinned (OpenSpec.ofChange cellsIsWrong)

/-- 'postilionlaw48.CellsPut': WHATEVER THE INPUT: true; the input reads as it did. -/
def cellsPutSpec : ChangeSpec := { name := "cellsPut", fn := fun _ => fun
  | [d1, d2, d3] => { results := [.lit (.bool true)], args := [d1, d2, d3] }
  | _ => none }
def cellsPutRow : OpenClaim := { program := "ytmdgjfadbhenjaagreatdoor", sum := "d4e42d7e71a42209727854c3ff7e149866a837e6ad7b13401f5105f7ebfc1779", func := "postilion/postilionlaw48.CellsPut", spec := "cellsPut", inPlace := ["internal/bytealg.CountString", "internal/bytealg.IndexByteString", "internal/bytealg.IndexString", "internal/abi.NoEscape", "internal/bytealg.MakeNoZero"], unfollowed := true, recurses := true, named := ["unicode/utf8.first", "unicode/utf8.acceptRanges", "internal/bytealg.MaxLen"], apart := false, laid := [("unicode/utf8.acceptRanges", laid_unicode_utf8_acceptRanges), ("unicode/utf8.first", laid_unicode_utf8_first)] }
def CellsPutSaid : Prop := cellsPutRow.holds Tryz.pinned (OpenSpec.ofChange cellsPutSpec)

/-- ITS FALSE NEIGHBOUR: 'it returns false'. Refute it at one input. -/
def cellsPutWrong : ChangeSpec := { name := "cellsPut", fn := fun _ => fun
  | [d1, d2, d3] => { results := [.lit (.bool false)], args := [d1, d2, d3] }
  | _ => none }
def CellsPutWrongFalsely : Prop := cellsPutRow.holds Tryz.pinned (OpenSpec.ofChange cellsPutWrong)

/-- 'postilionlaw48.CellsRow': WHATEVER THE INPUT: true; the input reads as it did. -/
def cellsRowSpec : ChangeSpec := { name := "cellsRow", fn := fun _ => fun
  | [d1, d2] => { results := [.lit (.bool true)], args := [d1, d2] }
  | _ => none }
def cellsRowRow : OpenClaim := { program := "ytmdgjfadbhenjaagreatdoor", sum := "d4e42d7e71a42209727854c3ff7e149866a837e6ad7b13401f5105f7ebfc1779", func := "postilion/postilionlaw48.CellsRow", spec := "cellsRow", inPlace := ["internal/bytealg.CountString", "internal/bytealg.IndexByteString", "internal/bytealg.IndexString", "internal/abi.NoEscape", "internal/bytealg.MakeNoZero"], unfollowed := true, recurses := true, named := ["unicode/utf8.first", "unicode/utf8.acceptRanges", "internal/bytealg.MaxLen"], apart := false, laid := [("unicode/utf8.acceptRanges", laid_unicode_utf8_acceptRanges), ("unicode/utf8.first", laid_unicode_utf8_first)] }
def CellsRowSaid : Prop := cellsRowRow.holds Tryz.pinned (OpenSpec.ofChange cellsRowSpec)

/-- ITS FALSE NEIGHBOUR: 'it returns false'. Refute it at one input. -/
def cellsRowWrong : ChangeSpec := { name := "cellsRow", fn := fun _ => fun
  | [d1, d2] => { results := [.lit (.bool false)], args := [d1, d2] }
  | _ => none }
def CellsRowWrongFalsely : Prop := cellsRowRow.holds Tryz.pinned (OpenSpec.ofChange cellsRowWrong)

/-- 'postilionlaw48.CellsUp': WHATEVER THE INPUT: true; the input reads as it did. -/
def cellsUpSpec : ChangeSpec := { name := "cellsUp", fn := fun _ => fun
  | [d1, d2, d3] => { results := [.lit (.bool true)], args := [d1, d2, d3] }
  | _ => none }
def cellsUpRow : OpenClaim := { program := "ytmdgjfadbhenjaagreatdoor", sum := "d4e42d7e71a42209727854c3ff7e149866a837e6ad7b13401f5105f7ebfc1779", func := "postilion/postilionlaw48.CellsUp", spec := "cellsUp", inPlace := ["internal/bytealg.CountString", "internal/bytealg.IndexByteString", "internal/bytealg.IndexString", "internal/abi.NoEscape", "internal/bytealg.MakeNoZero"], unfollowed := true, recurses := true, named := ["unicode/utf8.first", "unicode/utf8.acceptRanges", "internal/bytealg.MaxLen"], loops := true, apart := false, laid := [("unicode/utf8.acceptRanges", laid_unicode_utf8_acceptRanges), ("unicode/utf8.first", laid_unicode_utf8_first)] }
def CellsUpSaid : Prop := cellsUpRow.holds Tryz.pinned (OpenSpec.ofChange cellsUpSpec)

/-- ITS FALSE NEIGHBOUR: 'it returns false'. Refute it at one input. -/
def cellsUpWrong : ChangeSpec := { name := "cellsUp", fn := fun _ => fun
  | [d1, d2, d3] => { results := [.lit (.bool false)], args := [d1, d2, d3] }
  | _ => none }
def CellsUpWrongFalsely : Prop := cellsUpRow.holds Tryz.pinned (OpenSpec.ofChange cellsUpWrong)

/- THE SECOND FORM. 'bulk': how many values and letters a reading holds, each counted each time it is reached (what is shared counts as often as it is met; a slice's spare places count too). A statement '..UptoSaid' is the law's where the arguments, and the package variables that the reading takes, are together of bulk at most 1048576: NARROWER than '..Said'. Prove '..Said' where nothing that the law and all that it calls make is longer than what came in: it says more and counts as full. Else prove '..UptoSaid'. A law counts once. -/
mutual
def uptoBulk {H : Type} : DataW H → Nat
  | .lit (.string bytes) => bytes.length + 1
  | .lit _ => 1
  | .nil => 1
  | .ptr d => uptoBulk d + 1
  | .slice elems spare => uptoBulkAll elems + uptoBulkAll spare + 1
  | .agg parts => uptoBulkAll parts + 1
  | .iface _ d => uptoBulk d + 1
  | .map entries => uptoBulkEntries entries + 1
  | .held _ => 1
def uptoBulkAll {H : Type} : List (DataW H) → Nat
  | [] => 0
  | d :: r => uptoBulk d + uptoBulkAll r
def uptoBulkEntries {H : Type} : List (Lit × DataW H) → Nat
  | [] => 0
  | x :: r => uptoBulkEntry x + uptoBulkEntries r
def uptoBulkEntry {H : Type} : Lit × DataW H → Nat
  | (.string bytes, d) => bytes.length + uptoBulk d + 1
  | (_, d) => uptoBulk d + 1
 end
def uptoSmall : (H : Type) → List (DataW H) → Bool := fun _ ds => decide (uptoBulkAll ds ≤ 1048576)
def OpenSpec.upto (s : _root_.Go.ChangeSpec) : _root_.Go.OpenSpec := { _root_.Go.OpenSpec.ofChange s with cond := some uptoSmall }

/-- 'postilionlaw49.OverlayIs', WHERE WHAT IT READS IS OF BULK AT MOST 1048576: true; the input reads as it did. -/
def overlayIsUptoRow : OpenClaim := { program := "ytmdgjfadbhenjaagreatdoor", sum := "d4e42d7e71a42209727854c3ff7e149866a837e6ad7b13401f5105f7ebfc1779", func := "postilion/postilionlaw49.OverlayIs", spec := "overlayIs", inPlace := ["internal/bytealg.IndexByteString", "internal/bytealg.IndexString", "internal/bytealg.CountString", "slices.overlaps[postilion/api.Span]"], unfollowed := true, recurses := true, named := ["internal/bytealg.MaxLen", "unicode/utf8.first", "unicode/utf8.acceptRanges"], loops := true, apart := false, laid := [("unicode/utf8.acceptRanges", laid_unicode_utf8_acceptRanges), ("unicode/utf8.first", laid_unicode_utf8_first)], narrowed := true }
def OverlayIsUptoSaid : Prop := overlayIsUptoRow.holds Tryz.pinned (OpenSpec.upto overlayIsSpec)

/-- 'postilionlaw49.OverlayMerges', WHERE WHAT IT READS IS OF BULK AT MOST 1048576: true; the input reads as it did. -/
def overlayMergesUptoRow : OpenClaim := { program := "ytmdgjfadbhenjaagreatdoor", sum := "d4e42d7e71a42209727854c3ff7e149866a837e6ad7b13401f5105f7ebfc1779", func := "postilion/postilionlaw49.OverlayMerges", spec := "overlayMerges", inPlace := ["internal/bytealg.IndexByteString", "internal/bytealg.IndexString", "internal/bytealg.CountString", "slices.overlaps[postilion/api.Span]"], unfollowed := true, recurses := true, named := ["internal/bytealg.MaxLen", "unicode/utf8.first", "unicode/utf8.acceptRanges"], loops := true, apart := false, laid := [("unicode/utf8.acceptRanges", laid_unicode_utf8_acceptRanges), ("unicode/utf8.first", laid_unicode_utf8_first)], narrowed := true }
def OverlayMergesUptoSaid : Prop := overlayMergesUptoRow.holds Tryz.pinned (OpenSpec.upto overlayMergesSpec)

/-- 'postilionlaw49.OverlayLays', WHERE WHAT IT READS IS OF BULK AT MOST 1048576: true; the input reads as it did. -/
def overlayLaysUptoRow : OpenClaim := { program := "ytmdgjfadbhenjaagreatdoor", sum := "d4e42d7e71a42209727854c3ff7e149866a837e6ad7b13401f5105f7ebfc1779", func := "postilion/postilionlaw49.OverlayLays", spec := "overlayLays", inPlace := ["internal/bytealg.IndexByteString", "internal/bytealg.IndexString", "internal/bytealg.CountString", "slices.overlaps[postilion/api.Span]"], unfollowed := true, recurses := true, named := ["internal/bytealg.MaxLen", "unicode/utf8.first", "unicode/utf8.acceptRanges"], loops := true, apart := false, laid := [("unicode/utf8.acceptRanges", laid_unicode_utf8_acceptRanges), ("unicode/utf8.first", laid_unicode_utf8_first)], narrowed := true }
def OverlayLaysUptoSaid : Prop := overlayLaysUptoRow.holds Tryz.pinned (OpenSpec.upto overlayLaysSpec)

/-- 'postilionlaw49.OverlayKeeps', WHERE WHAT IT READS IS OF BULK AT MOST 1048576: true; the input reads as it did. -/
def overlayKeepsUptoRow : OpenClaim := { program := "ytmdgjfadbhenjaagreatdoor", sum := "d4e42d7e71a42209727854c3ff7e149866a837e6ad7b13401f5105f7ebfc1779", func := "postilion/postilionlaw49.OverlayKeeps", spec := "overlayKeeps", inPlace := ["internal/bytealg.IndexByteString", "internal/bytealg.IndexString", "internal/bytealg.CountString", "slices.overlaps[postilion/api.Span]"], unfollowed := true, recurses := true, named := ["internal/bytealg.MaxLen", "unicode/utf8.first", "unicode/utf8.acceptRanges"], loops := true, apart := false, laid := [("unicode/utf8.acceptRanges", laid_unicode_utf8_acceptRanges), ("unicode/utf8.first", laid_unicode_utf8_first)], narrowed := true }
def OverlayKeepsUptoSaid : Prop := overlayKeepsUptoRow.holds Tryz.pinned (OpenSpec.upto overlayKeepsSpec)

/-- 'postilionlaw49.OverlayTwice', WHERE WHAT IT READS IS OF BULK AT MOST 1048576: true; the input reads as it did. -/
def overlayTwiceUptoRow : OpenClaim := { program := "ytmdgjfadbhenjaagreatdoor", sum := "d4e42d7e71a42209727854c3ff7e149866a837e6ad7b13401f5105f7ebfc1779", func := "postilion/postilionlaw49.OverlayTwice", spec := "overlayTwice", inPlace := ["internal/bytealg.IndexByteString", "internal/bytealg.IndexString", "internal/bytealg.CountString", "slices.overlaps[postilion/api.Span]"], unfollowed := true, recurses := true, named := ["internal/bytealg.MaxLen", "unicode/utf8.first", "unicode/utf8.acceptRanges"], loops := true, apart := false, laid := [("unicode/utf8.acceptRanges", laid_unicode_utf8_acceptRanges), ("unicode/utf8.first", laid_unicode_utf8_first)], narrowed := true }
def OverlayTwiceUptoSaid : Prop := overlayTwiceUptoRow.holds Tryz.pinned (OpenSpec.upto overlayTwiceSpec)

/-- 'postilionlaw48.CellsIs', WHERE WHAT IT READS IS OF BULK AT MOST 1048576: true; the input reads as it did. -/
def cellsIsUptoRow : OpenClaim := { program := "ytmdgjfadbhenjaagreatdoor", sum := "d4e42d7e71a42209727854c3ff7e149866a837e6ad7b13401f5105f7ebfc1779", func := "postilion/postilionlaw48.CellsIs", spec := "cellsIs", inPlace := ["internal/bytealg.CountString", "internal/bytealg.IndexByteString", "internal/bytealg.IndexString", "internal/abi.NoEscape", "internal/bytealg.MakeNoZero"], unfollowed := true, recurses := true, named := ["unicode/utf8.first", "unicode/utf8.acceptRanges", "internal/bytealg.MaxLen"], loops := true, apart := false, laid := [("unicode/utf8.acceptRanges", laid_unicode_utf8_acceptRanges), ("unicode/utf8.first", laid_unicode_utf8_first)], narrowed := true }
def CellsIsUptoSaid : Prop := cellsIsUptoRow.holds Tryz.pinned (OpenSpec.upto cellsIsSpec)

/-- 'postilionlaw48.CellsPut', WHERE WHAT IT READS IS OF BULK AT MOST 1048576: true; the input reads as it did. -/
def cellsPutUptoRow : OpenClaim := { program := "ytmdgjfadbhenjaagreatdoor", sum := "d4e42d7e71a42209727854c3ff7e149866a837e6ad7b13401f5105f7ebfc1779", func := "postilion/postilionlaw48.CellsPut", spec := "cellsPut", inPlace := ["internal/bytealg.CountString", "internal/bytealg.IndexByteString", "internal/bytealg.IndexString", "internal/abi.NoEscape", "internal/bytealg.MakeNoZero"], unfollowed := true, recurses := true, named := ["unicode/utf8.first", "unicode/utf8.acceptRanges", "internal/bytealg.MaxLen"], apart := false, laid := [("unicode/utf8.acceptRanges", laid_unicode_utf8_acceptRanges), ("unicode/utf8.first", laid_unicode_utf8_first)], narrowed := true }
def CellsPutUptoSaid : Prop := cellsPutUptoRow.holds Tryz.pinned (OpenSpec.upto cellsPutSpec)

/-- 'postilionlaw48.CellsRow', WHERE WHAT IT READS IS OF BULK AT MOST 1048576: true; the input reads as it did. -/
def cellsRowUptoRow : OpenClaim := { program := "ytmdgjfadbhenjaagreatdoor", sum := "d4e42d7e71a42209727854c3ff7e149866a837e6ad7b13401f5105f7ebfc1779", func := "postilion/postilionlaw48.CellsRow", spec := "cellsRow", inPlace := ["internal/bytealg.CountString", "internal/bytealg.IndexByteString", "internal/bytealg.IndexString", "internal/abi.NoEscape", "internal/bytealg.MakeNoZero"], unfollowed := true, recurses := true, named := ["unicode/utf8.first", "unicode/utf8.acceptRanges", "internal/bytealg.MaxLen"], apart := false, laid := [("unicode/utf8.acceptRanges", laid_unicode_utf8_acceptRanges), ("unicode/utf8.first", laid_unicode_utf8_first)], narrowed := true }
def CellsRowUptoSaid : Prop := cellsRowUptoRow.holds Tryz.pinned (OpenSpec.upto cellsRowSpec)

/-- 'postilionlaw48.CellsUp', WHERE WHAT IT READS IS OF BULK AT MOST 1048576: true; the input reads as it did. -/
def cellsUpUptoRow : OpenClaim := { program := "ytmdgjfadbhenjaagreatdoor", sum := "d4e42d7e71a42209727854c3ff7e149866a837e6ad7b13401f5105f7ebfc1779", func := "postilion/postilionlaw48.CellsUp", spec := "cellsUp", inPlace := ["internal/bytealg.CountString", "internal/bytealg.IndexByteString", "internal/bytealg.IndexString", "internal/abi.NoEscape", "internal/bytealg.MakeNoZero"], unfollowed := true, recurses := true, named := ["unicode/utf8.first", "unicode/utf8.acceptRanges", "internal/bytealg.MaxLen"], loops := true, apart := false, laid := [("unicode/utf8.acceptRanges", laid_unicode_utf8_acceptRanges), ("unicode/utf8.first", laid_unicode_utf8_first)], narrowed := true }
def CellsUpUptoSaid : Prop := cellsUpUptoRow.holds Tryz.pinned (OpenSpec.upto cellsUpSpec)

end Rows
end Go.Proofs.YtmdgjfadbhenjaaGreatDoor
