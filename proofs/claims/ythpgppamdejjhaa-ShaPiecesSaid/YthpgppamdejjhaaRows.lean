/-
  No cell of these rows narrows 'for every input' (looked for: loops, veiled, ifaces, maps, wideKeys, modest, calm, conditions, laid).
  DERIVED. THE GIVEN ROWS OF THIS SEAT. 12 by the template 'for every input the law returns true; each argument reads behind the call as it read before'; 0 by the template 'total and deterministic' (their statements: YthpgppamdejjhaaTotals.lean).
  GIVEN WITH THE SEED: the statements are not yours to turn. If you find one false, say at which input.
  Laid BY PROGRAM, IN A SANDBOX (cutbox-rows.mjs): the forced cells as the released guide's own fill.sh prints them over the translation 05232ad1f9f0586f… (all of the seat's roots in one cut). By AI agents, Wed Nov 11 2026. No macro, syntax, notation, axiom, sorry.
-/
import Derived.Test.YthpgppamdejjhaaChecked
import GoSem.Claim
import GoSem.ClaimJoined
import GoSem.ClaimMapViews
import Derived.JoinedTies
import Derived.KernelRfl
namespace Go.Proofs.Ythpgppamdejjhaa
/- THE CELL 'sum', in the pinned program and in every row, IS THE sha256 OF THE DUMP (.gsa) THAT YthpgppamdejjhaaProg.lean LOADS. Nothing in Lean hashes anything: it is a label: what it is worth is what the hold of that sum in a sandbox is worth. -/
noncomputable def Try.pinned : Pinned := { name := "ythpgppamdejjhaa", sum := "05232ad1f9f0586f975704cda82504652b44c021019bd4731d538d6154366edb", checked := Try.checked }
namespace Rows
def none {H : Type} : Left H := { results := [], args := [] }

/-- 'postilionlaw02.CrcIs': WHATEVER THE INPUT: true; the input reads as it did. -/
def crcIsSpec : ChangeSpec := { name := "crcIs", fn := fun _ => fun
  | [d1, d2] => { results := [.lit (.bool true)], args := [d1, d2] }
  | _ => none }
def crcIsRow : OpenClaim := { program := "ythpgppamdejjhaa", sum := "05232ad1f9f0586f975704cda82504652b44c021019bd4731d538d6154366edb", func := "postilion/postilionlaw02.CrcIs", spec := "crcIs", apart := false }
def CrcIsSaid : Prop := crcIsRow.holds Try.pinned (OpenSpec.ofChange crcIsSpec)

/-- ITS FALSE NEIGHBOUR: 'it returns false'. Refute it at one input. -/
def crcIsWrong : ChangeSpec := { name := "crcIs", fn := fun _ => fun
  | [d1, d2] => { results := [.lit (.bool false)], args := [d1, d2] }
  | _ => none }
def CrcIsWrongFalsely : Prop := crcIsRow.holds Try.pinned (OpenSpec.ofChange crcIsWrong)

/-- 'postilionlaw02.CrcParts': WHATEVER THE INPUT: true; the input reads as it did. -/
def crcPartsSpec : ChangeSpec := { name := "crcParts", fn := fun _ => fun
  | [d1, d2, d3] => { results := [.lit (.bool true)], args := [d1, d2, d3] }
  | _ => none }
def crcPartsRow : OpenClaim := { program := "ythpgppamdejjhaa", sum := "05232ad1f9f0586f975704cda82504652b44c021019bd4731d538d6154366edb", func := "postilion/postilionlaw02.CrcParts", spec := "crcParts", apart := false }
def CrcPartsSaid : Prop := crcPartsRow.holds Try.pinned (OpenSpec.ofChange crcPartsSpec)

/-- ITS FALSE NEIGHBOUR: 'it returns false'. Refute it at one input. -/
def crcPartsWrong : ChangeSpec := { name := "crcParts", fn := fun _ => fun
  | [d1, d2, d3] => { results := [.lit (.bool false)], args := [d1, d2, d3] }
  | _ => none }
def CrcPartsWrongFalsely : Prop := crcPartsRow.holds Try.pinned (OpenSpec.ofChange crcPartsWrong)

/-- 'postilionlaw02.CrcFinds': WHATEVER THE INPUT: true; the input reads as it did. -/
def crcFindsSpec : ChangeSpec := { name := "crcFinds", fn := fun _ => fun
  | [d1, d2, d3] => { results := [.lit (.bool true)], args := [d1, d2, d3] }
  | _ => none }
def crcFindsRow : OpenClaim := { program := "ythpgppamdejjhaa", sum := "05232ad1f9f0586f975704cda82504652b44c021019bd4731d538d6154366edb", func := "postilion/postilionlaw02.CrcFinds", spec := "crcFinds", apart := false }
def CrcFindsSaid : Prop := crcFindsRow.holds Try.pinned (OpenSpec.ofChange crcFindsSpec)

/-- ITS FALSE NEIGHBOUR: 'it returns false'. Refute it at one input. -/
def crcFindsWrong : ChangeSpec := { name := "crcFinds", fn := fun _ => fun
  | [d1, d2, d3] => { results := [.lit (.bool false)], args := [d1, d2, d3] }
  | _ => none }
def CrcFindsWrongFalsely : Prop := crcFindsRow.holds Try.pinned (OpenSpec.ofChange crcFindsWrong)

/-- 'postilionlaw11.HeadPuts': WHATEVER THE INPUT: true; the input reads as it did. -/
def headPutsSpec : ChangeSpec := { name := "headPuts", fn := fun _ => fun
  | [d1, d2, d3] => { results := [.lit (.bool true)], args := [d1, d2, d3] }
  | _ => none }
def headPutsRow : OpenClaim := { program := "ythpgppamdejjhaa", sum := "05232ad1f9f0586f975704cda82504652b44c021019bd4731d538d6154366edb", func := "postilion/postilionlaw11.HeadPuts", spec := "headPuts", apart := false }
def HeadPutsSaid : Prop := headPutsRow.holds Try.pinned (OpenSpec.ofChange headPutsSpec)

/-- ITS FALSE NEIGHBOUR: 'it returns false'. Refute it at one input. -/
def headPutsWrong : ChangeSpec := { name := "headPuts", fn := fun _ => fun
  | [d1, d2, d3] => { results := [.lit (.bool false)], args := [d1, d2, d3] }
  | _ => none }
def HeadPutsWrongFalsely : Prop := headPutsRow.holds Try.pinned (OpenSpec.ofChange headPutsWrong)

/-- 'postilionlaw11.HeadReads': WHATEVER THE INPUT: true; the input reads as it did. -/
def headReadsSpec : ChangeSpec := { name := "headReads", fn := fun _ => fun
  | [d] => { results := [.lit (.bool true)], args := [d] }
  | _ => none }
def headReadsRow : OpenClaim := { program := "ythpgppamdejjhaa", sum := "05232ad1f9f0586f975704cda82504652b44c021019bd4731d538d6154366edb", func := "postilion/postilionlaw11.HeadReads", spec := "headReads", apart := false }
def HeadReadsSaid : Prop := headReadsRow.holds Try.pinned (OpenSpec.ofChange headReadsSpec)

/-- ITS FALSE NEIGHBOUR: 'it returns false'. Refute it at one input. -/
def headReadsWrong : ChangeSpec := { name := "headReads", fn := fun _ => fun
  | [d] => { results := [.lit (.bool false)], args := [d] }
  | _ => none }
def HeadReadsWrongFalsely : Prop := headReadsRow.holds Try.pinned (OpenSpec.ofChange headReadsWrong)

/-- 'postilionlaw20.RecordIs': WHATEVER THE INPUT: true; the input reads as it did. -/
def recordIsSpec : ChangeSpec := { name := "recordIs", fn := fun _ => fun
  | [d1, d2, d3] => { results := [.lit (.bool true)], args := [d1, d2, d3] }
  | _ => none }
def recordIsRow : OpenClaim := { program := "ythpgppamdejjhaa", sum := "05232ad1f9f0586f975704cda82504652b44c021019bd4731d538d6154366edb", func := "postilion/postilionlaw20.RecordIs", spec := "recordIs", apart := false }
def RecordIsSaid : Prop := recordIsRow.holds Try.pinned (OpenSpec.ofChange recordIsSpec)

/-- ITS FALSE NEIGHBOUR: 'it returns false'. Refute it at one input. -/
def recordIsWrong : ChangeSpec := { name := "recordIs", fn := fun _ => fun
  | [d1, d2, d3] => { results := [.lit (.bool false)], args := [d1, d2, d3] }
  | _ => none }
def RecordIsWrongFalsely : Prop := recordIsRow.holds Try.pinned (OpenSpec.ofChange recordIsWrong)

/-- 'postilionlaw20.RecordBack': WHATEVER THE INPUT: true; the input reads as it did. -/
def recordBackSpec : ChangeSpec := { name := "recordBack", fn := fun _ => fun
  | [d1, d2, d3] => { results := [.lit (.bool true)], args := [d1, d2, d3] }
  | _ => none }
def recordBackRow : OpenClaim := { program := "ythpgppamdejjhaa", sum := "05232ad1f9f0586f975704cda82504652b44c021019bd4731d538d6154366edb", func := "postilion/postilionlaw20.RecordBack", spec := "recordBack", apart := false }
def RecordBackSaid : Prop := recordBackRow.holds Try.pinned (OpenSpec.ofChange recordBackSpec)

/-- ITS FALSE NEIGHBOUR: 'it returns false'. Refute it at one input. -/
def recordBackWrong : ChangeSpec := { name := "recordBack", fn := fun _ => fun
  | [d1, d2, d3] => { results := [.lit (.bool false)], args := [d1, d2, d3] }
  | _ => none }
def RecordBackWrongFalsely : Prop := recordBackRow.holds Try.pinned (OpenSpec.ofChange recordBackWrong)

/-- 'postilionlaw20.RecordNewer': WHATEVER THE INPUT: true; the input reads as it did. -/
def recordNewerSpec : ChangeSpec := { name := "recordNewer", fn := fun _ => fun
  | [d1, d2] => { results := [.lit (.bool true)], args := [d1, d2] }
  | _ => none }
def recordNewerRow : OpenClaim := { program := "ythpgppamdejjhaa", sum := "05232ad1f9f0586f975704cda82504652b44c021019bd4731d538d6154366edb", func := "postilion/postilionlaw20.RecordNewer", spec := "recordNewer", apart := false }
def RecordNewerSaid : Prop := recordNewerRow.holds Try.pinned (OpenSpec.ofChange recordNewerSpec)

/-- ITS FALSE NEIGHBOUR: 'it returns false'. Refute it at one input. -/
def recordNewerWrong : ChangeSpec := { name := "recordNewer", fn := fun _ => fun
  | [d1, d2] => { results := [.lit (.bool false)], args := [d1, d2] }
  | _ => none }
def RecordNewerWrongFalsely : Prop := recordNewerRow.holds Try.pinned (OpenSpec.ofChange recordNewerWrong)

/-- 'postilionlaw22.PickIs': WHATEVER THE INPUT: true; the input reads as it did. -/
def pickIsSpec : ChangeSpec := { name := "pickIs", fn := fun _ => fun
  | [d1, d2] => { results := [.lit (.bool true)], args := [d1, d2] }
  | _ => none }
def pickIsRow : OpenClaim := { program := "ythpgppamdejjhaa", sum := "05232ad1f9f0586f975704cda82504652b44c021019bd4731d538d6154366edb", func := "postilion/postilionlaw22.PickIs", spec := "pickIs", apart := false }
def PickIsSaid : Prop := pickIsRow.holds Try.pinned (OpenSpec.ofChange pickIsSpec)

/-- ITS FALSE NEIGHBOUR: 'it returns false'. Refute it at one input. -/
def pickIsWrong : ChangeSpec := { name := "pickIs", fn := fun _ => fun
  | [d1, d2] => { results := [.lit (.bool false)], args := [d1, d2] }
  | _ => none }
def PickIsWrongFalsely : Prop := pickIsRow.holds Try.pinned (OpenSpec.ofChange pickIsWrong)

/-- 'postilionlaw22.PickNext': WHATEVER THE INPUT: true; the input reads as it did. -/
def pickNextSpec : ChangeSpec := { name := "pickNext", fn := fun _ => fun
  | [d1, d2, d3] => { results := [.lit (.bool true)], args := [d1, d2, d3] }
  | _ => none }
def pickNextRow : OpenClaim := { program := "ythpgppamdejjhaa", sum := "05232ad1f9f0586f975704cda82504652b44c021019bd4731d538d6154366edb", func := "postilion/postilionlaw22.PickNext", spec := "pickNext", apart := false }
def PickNextSaid : Prop := pickNextRow.holds Try.pinned (OpenSpec.ofChange pickNextSpec)

/-- ITS FALSE NEIGHBOUR: 'it returns false'. Refute it at one input. -/
def pickNextWrong : ChangeSpec := { name := "pickNext", fn := fun _ => fun
  | [d1, d2, d3] => { results := [.lit (.bool false)], args := [d1, d2, d3] }
  | _ => none }
def PickNextWrongFalsely : Prop := pickNextRow.holds Try.pinned (OpenSpec.ofChange pickNextWrong)

/-- 'postilionlaw03.ShaIs': WHATEVER THE INPUT: true; the input reads as it did. -/
def shaIsSpec : ChangeSpec := { name := "shaIs", fn := fun _ => fun
  | [d1, d2] => { results := [.lit (.bool true)], args := [d1, d2] }
  | _ => none }
def shaIsRow : OpenClaim := { program := "ythpgppamdejjhaa", sum := "05232ad1f9f0586f975704cda82504652b44c021019bd4731d538d6154366edb", func := "postilion/postilionlaw03.ShaIs", spec := "shaIs", apart := false }
def ShaIsSaid : Prop := shaIsRow.holds Try.pinned (OpenSpec.ofChange shaIsSpec)

/-- ITS FALSE NEIGHBOUR: 'it returns false'. Refute it at one input. -/
def shaIsWrong : ChangeSpec := { name := "shaIs", fn := fun _ => fun
  | [d1, d2] => { results := [.lit (.bool false)], args := [d1, d2] }
  | _ => none }
def ShaIsWrongFalsely : Prop := shaIsRow.holds Try.pinned (OpenSpec.ofChange shaIsWrong)

/-- 'postilionlaw03.ShaPieces': WHATEVER THE INPUT: true; the input reads as it did. -/
def shaPiecesSpec : ChangeSpec := { name := "shaPieces", fn := fun _ => fun
  | [d] => { results := [.lit (.bool true)], args := [d] }
  | _ => none }
def shaPiecesRow : OpenClaim := { program := "ythpgppamdejjhaa", sum := "05232ad1f9f0586f975704cda82504652b44c021019bd4731d538d6154366edb", func := "postilion/postilionlaw03.ShaPieces", spec := "shaPieces", apart := false }
def ShaPiecesSaid : Prop := shaPiecesRow.holds Try.pinned (OpenSpec.ofChange shaPiecesSpec)

/-- ITS FALSE NEIGHBOUR: 'it returns false'. Refute it at one input. -/
def shaPiecesWrong : ChangeSpec := { name := "shaPieces", fn := fun _ => fun
  | [d] => { results := [.lit (.bool false)], args := [d] }
  | _ => none }
def ShaPiecesWrongFalsely : Prop := shaPiecesRow.holds Try.pinned (OpenSpec.ofChange shaPiecesWrong)

/- THE SECOND FORM. 'bulk': how many values and letters a reading holds, each counted each time it is reached (what is shared counts as often as it is met; a slice's spare places count too). A statement '..UptoSaid' is the law's where the arguments, and the package variables that the reading takes, are together of bulk at most 1048576: NARROWER than '..Said'. Prove '..Said' where nothing that the law and all that it calls make is longer than what came in: it says more and counts as full. Else prove '..UptoSaid'. A law counts once. -/
mutual
def uptoBulk {H : Type} : DataW H → Nat
  | .lit (.string bytes) => bytes.length + 1
  | .lit _ => 1
  | .nil => 1
  | .ptr d => uptoBulk d + 1
  | .slice elems spare => uptoBulkAll elems + uptoBulkAll spare + 1
  | .agg parts => uptoBulkAll parts + 1
  | .iface _ d => uptoBulk d + 1
  | .map entries => uptoBulkEntries entries + 1
  | .held _ => 1
def uptoBulkAll {H : Type} : List (DataW H) → Nat
  | [] => 0
  | d :: r => uptoBulk d + uptoBulkAll r
def uptoBulkEntries {H : Type} : List (Lit × DataW H) → Nat
  | [] => 0
  | x :: r => uptoBulkEntry x + uptoBulkEntries r
def uptoBulkEntry {H : Type} : Lit × DataW H → Nat
  | (.string bytes, d) => bytes.length + uptoBulk d + 1
  | (_, d) => uptoBulk d + 1
 end
def uptoSmall : (H : Type) → List (DataW H) → Bool := fun _ ds => decide (uptoBulkAll ds ≤ 1048576)
def OpenSpec.upto (s : _root_.Go.ChangeSpec) : _root_.Go.OpenSpec := { _root_.Go.OpenSpec.ofChange s with cond := some uptoSmall }

/-- 'postilionlaw02.CrcIs', WHERE WHAT IT READS IS OF BULK AT MOST 1048576: true; the input reads as it did. -/
def crcIsUptoRow : OpenClaim := { program := "ythpgppamdejjhaa", sum := "05232ad1f9f0586f975704cda82504652b44c021019bd4731d538d6154366edb", func := "postilion/postilionlaw02.CrcIs", spec := "crcIs", apart := false, narrowed := true }
def CrcIsUptoSaid : Prop := crcIsUptoRow.holds Try.pinned (OpenSpec.upto crcIsSpec)

/-- 'postilionlaw02.CrcParts', WHERE WHAT IT READS IS OF BULK AT MOST 1048576: true; the input reads as it did. -/
def crcPartsUptoRow : OpenClaim := { program := "ythpgppamdejjhaa", sum := "05232ad1f9f0586f975704cda82504652b44c021019bd4731d538d6154366edb", func := "postilion/postilionlaw02.CrcParts", spec := "crcParts", apart := false, narrowed := true }
def CrcPartsUptoSaid : Prop := crcPartsUptoRow.holds Try.pinned (OpenSpec.upto crcPartsSpec)

/-- 'postilionlaw02.CrcFinds', WHERE WHAT IT READS IS OF BULK AT MOST 1048576: true; the input reads as it did. -/
def crcFindsUptoRow : OpenClaim := { program := "ythpgppamdejjhaa", sum := "05232ad1f9f0586f975704cda82504652b44c021019bd4731d538d6154366edb", func := "postilion/postilionlaw02.CrcFinds", spec := "crcFinds", apart := false, narrowed := true }
def CrcFindsUptoSaid : Prop := crcFindsUptoRow.holds Try.pinned (OpenSpec.upto crcFindsSpec)

/-- 'postilionlaw11.HeadPuts', WHERE WHAT IT READS IS OF BULK AT MOST 1048576: true; the input reads as it did. -/
def headPutsUptoRow : OpenClaim := { program := "ythpgppamdejjhaa", sum := "05232ad1f9f0586f975704cda82504652b44c021019bd4731d538d6154366edb", func := "postilion/postilionlaw11.HeadPuts", spec := "headPuts", apart := false, narrowed := true }
def HeadPutsUptoSaid : Prop := headPutsUptoRow.holds Try.pinned (OpenSpec.upto headPutsSpec)

/-- 'postilionlaw11.HeadReads', WHERE WHAT IT READS IS OF BULK AT MOST 1048576: true; the input reads as it did. -/
def headReadsUptoRow : OpenClaim := { program := "ythpgppamdejjhaa", sum := "05232ad1f9f0586f975704cda82504652b44c021019bd4731d538d6154366edb", func := "postilion/postilionlaw11.HeadReads", spec := "headReads", apart := false, narrowed := true }
def HeadReadsUptoSaid : Prop := headReadsUptoRow.holds Try.pinned (OpenSpec.upto headReadsSpec)

/-- 'postilionlaw20.RecordIs', WHERE WHAT IT READS IS OF BULK AT MOST 1048576: true; the input reads as it did. -/
def recordIsUptoRow : OpenClaim := { program := "ythpgppamdejjhaa", sum := "05232ad1f9f0586f975704cda82504652b44c021019bd4731d538d6154366edb", func := "postilion/postilionlaw20.RecordIs", spec := "recordIs", apart := false, narrowed := true }
def RecordIsUptoSaid : Prop := recordIsUptoRow.holds Try.pinned (OpenSpec.upto recordIsSpec)

/-- 'postilionlaw20.RecordBack', WHERE WHAT IT READS IS OF BULK AT MOST 1048576: true; the input reads as it did. -/
def recordBackUptoRow : OpenClaim := { program := "ythpgppamdejjhaa", sum := "05232ad1f9f0586f975704cda82504652b44c021019bd4731d538d6154366edb", func := "postilion/postilionlaw20.RecordBack", spec := "recordBack", apart := false, narrowed := true }
def RecordBackUptoSaid : Prop := recordBackUptoRow.holds Try.pinned (OpenSpec.upto recordBackSpec)

/-- 'postilionlaw20.RecordNewer', WHERE WHAT IT READS IS OF BULK AT MOST 1048576: true; the input reads as it did. -/
def recordNewerUptoRow : OpenClaim := { program := "ythpgppamdejjhaa", sum := "05232ad1f9f0586f975704cda82504652b44c021019bd4731d538d6154366edb", func := "postilion/postilionlaw20.RecordNewer", spec := "recordNewer", apart := false, narrowed := true }
def RecordNewerUptoSaid : Prop := recordNewerUptoRow.holds Try.pinned (OpenSpec.upto recordNewerSpec)

/-- 'postilionlaw22.PickIs', WHERE WHAT IT READS IS OF BULK AT MOST 1048576: true; the input reads as it did. -/
def pickIsUptoRow : OpenClaim := { program := "ythpgppamdejjhaa", sum := "05232ad1f9f0586f975704cda82504652b44c021019bd4731d538d6154366edb", func := "postilion/postilionlaw22.PickIs", spec := "pickIs", apart := false, narrowed := true }
def PickIsUptoSaid : Prop := pickIsUptoRow.holds Try.pinned (OpenSpec.upto pickIsSpec)

/-- 'postilionlaw22.PickNext', WHERE WHAT IT READS IS OF BULK AT MOST 1048576: true; the input reads as it did. -/
def pickNextUptoRow : OpenClaim := { program := "ythpgppamdejjhaa", sum := "05232ad1f9f0586f975704cda82504652b44c021019bd4731d538d6154366edb", func := "postilion/postilionlaw22.PickNext", spec := "pickNext", apart := false, narrowed := true }
def PickNextUptoSaid : Prop := pickNextUptoRow.holds Try.pinned (OpenSpec.upto pickNextSpec)

/-- 'postilionlaw03.ShaIs', WHERE WHAT IT READS IS OF BULK AT MOST 1048576: true; the input reads as it did. -/
def shaIsUptoRow : OpenClaim := { program := "ythpgppamdejjhaa", sum := "05232ad1f9f0586f975704cda82504652b44c021019bd4731d538d6154366edb", func := "postilion/postilionlaw03.ShaIs", spec := "shaIs", apart := false, narrowed := true }
def ShaIsUptoSaid : Prop := shaIsUptoRow.holds Try.pinned (OpenSpec.upto shaIsSpec)

/-- 'postilionlaw03.ShaPieces', WHERE WHAT IT READS IS OF BULK AT MOST 1048576: true; the input reads as it did. -/
def shaPiecesUptoRow : OpenClaim := { program := "ythpgppamdejjhaa", sum := "05232ad1f9f0586f975704cda82504652b44c021019bd4731d538d6154366edb", func := "postilion/postilionlaw03.ShaPieces", spec := "shaPieces", apart := false, narrowed := true }
def ShaPiecesUptoSaid : Prop := shaPiecesUptoRow.holds Try.pinned (OpenSpec.upto shaPiecesSpec)

end Rows
end Go.Proofs.Ythpgppamdejjhaa
