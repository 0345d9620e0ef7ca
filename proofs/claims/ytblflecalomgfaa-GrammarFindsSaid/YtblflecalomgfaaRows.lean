/-
  NARROWER THAN 'FOR EVERY INPUT', by the rows' own cells (each row's printed sentence says how): GrammarCheck: loops · GrammarFinds: loops.
  DERIVED. THE GIVEN ROWS OF THIS SEAT. 12 by the template 'for every input the law returns true; each argument reads behind the call as it read before'; 0 by the template 'total and deterministic' (their statements: YtblflecalomgfaaTotals.lean).
  GIVEN WITH THE SEED: the statements are not yours to turn. If you find one false, say at which input.
  Laid BY PROGRAM, IN A SANDBOX (cutbox-rows.mjs): the forced cells as the released guide's own fill.sh prints them over the translation a001ee7d08ffdc4a… (all of the seat's roots in one cut). By AI agents, Wed Nov 11 2026. No macro, syntax, notation, axiom, sorry.
-/
import Derived.Test.YtblflecalomgfaaChecked
import GoSem.Claim
import GoSem.ClaimJoined
import GoSem.ClaimMapViews
import Derived.JoinedTies
import Derived.KernelRfl
namespace Go.Proofs.Ytblflecalomgfaa
/- THE CELL 'sum', in the pinned program and in every row, IS THE sha256 OF THE DUMP (.gsa) THAT YtblflecalomgfaaProg.lean LOADS. Nothing in Lean hashes anything: it is a label: what it is worth is what the hold of that sum in a sandbox is worth. -/
noncomputable def Try.pinned : Pinned := { name := "ytblflecalomgfaa", sum := "a001ee7d08ffdc4a67754555970972cae0270bcb399394a0a1829bf695e895c2", checked := Try.checked }
namespace Rows
def none {H : Type} : Left H := { results := [], args := [] }

/-- 'postilionlaw09.StrsPlays': WHATEVER THE INPUT: true; the input reads as it did. -/
def strsPlaysSpec : ChangeSpec := { name := "strsPlays", fn := fun _ => fun
  | [d1, d2, d3] => { results := [.lit (.bool true)], args := [d1, d2, d3] }
  | _ => none }
def strsPlaysRow : OpenClaim := { program := "ytblflecalomgfaa", sum := "a001ee7d08ffdc4a67754555970972cae0270bcb399394a0a1829bf695e895c2", func := "postilion/postilionlaw09.StrsPlays", spec := "strsPlays", inPlace := ["internal/bytealg.IndexByteString", "internal/bytealg.IndexString"], named := ["internal/bytealg.MaxLen"], apart := false }
def StrsPlaysSaid : Prop := strsPlaysRow.holds Try.pinned (OpenSpec.ofChange strsPlaysSpec)

/-- ITS FALSE NEIGHBOUR: 'it returns false'. Refute it at one input. -/
def strsPlaysWrong : ChangeSpec := { name := "strsPlays", fn := fun _ => fun
  | [d1, d2, d3] => { results := [.lit (.bool false)], args := [d1, d2, d3] }
  | _ => none }
def StrsPlaysWrongFalsely : Prop := strsPlaysRow.holds Try.pinned (OpenSpec.ofChange strsPlaysWrong)

/-- 'postilionlaw09.StrsBack': WHATEVER THE INPUT: true; the input reads as it did. -/
def strsBackSpec : ChangeSpec := { name := "strsBack", fn := fun _ => fun
  | [d] => { results := [.lit (.bool true)], args := [d] }
  | _ => none }
def strsBackRow : OpenClaim := { program := "ytblflecalomgfaa", sum := "a001ee7d08ffdc4a67754555970972cae0270bcb399394a0a1829bf695e895c2", func := "postilion/postilionlaw09.StrsBack", spec := "strsBack", inPlace := ["internal/bytealg.IndexByteString", "internal/bytealg.IndexString"], named := ["internal/bytealg.MaxLen"], apart := false }
def StrsBackSaid : Prop := strsBackRow.holds Try.pinned (OpenSpec.ofChange strsBackSpec)

/-- ITS FALSE NEIGHBOUR: 'it returns false'. Refute it at one input. -/
def strsBackWrong : ChangeSpec := { name := "strsBack", fn := fun _ => fun
  | [d] => { results := [.lit (.bool false)], args := [d] }
  | _ => none }
def StrsBackWrongFalsely : Prop := strsBackRow.holds Try.pinned (OpenSpec.ofChange strsBackWrong)

/-- 'postilionlaw04.NorWrites': WHATEVER THE INPUT: true; the input reads as it did. -/
def norWritesSpec : ChangeSpec := { name := "norWrites", fn := fun _ => fun
  | [d1, d2, d3] => { results := [.lit (.bool true)], args := [d1, d2, d3] }
  | _ => none }
def norWritesRow : OpenClaim := { program := "ytblflecalomgfaa", sum := "a001ee7d08ffdc4a67754555970972cae0270bcb399394a0a1829bf695e895c2", func := "postilion/postilionlaw04.NorWrites", spec := "norWrites", inPlace := ["internal/bytealg.MakeNoZero"], unfollowed := true, recurses := true, apart := false }
def NorWritesSaid : Prop := norWritesRow.holds Try.pinned (OpenSpec.ofChange norWritesSpec)

/-- ITS FALSE NEIGHBOUR: 'it returns false'. Refute it at one input. -/
def norWritesWrong : ChangeSpec := { name := "norWrites", fn := fun _ => fun
  | [d1, d2, d3] => { results := [.lit (.bool false)], args := [d1, d2, d3] }
  | _ => none }
def NorWritesWrongFalsely : Prop := norWritesRow.holds Try.pinned (OpenSpec.ofChange norWritesWrong)

/-- 'postilionlaw04.NorPlays': WHATEVER THE INPUT: true; the input reads as it did. -/
def norPlaysSpec : ChangeSpec := { name := "norPlays", fn := fun _ => fun
  | [d1, d2] => { results := [.lit (.bool true)], args := [d1, d2] }
  | _ => none }
def norPlaysRow : OpenClaim := { program := "ytblflecalomgfaa", sum := "a001ee7d08ffdc4a67754555970972cae0270bcb399394a0a1829bf695e895c2", func := "postilion/postilionlaw04.NorPlays", spec := "norPlays", inPlace := ["internal/bytealg.MakeNoZero"], unfollowed := true, recurses := true, apart := false }
def NorPlaysSaid : Prop := norPlaysRow.holds Try.pinned (OpenSpec.ofChange norPlaysSpec)

/-- ITS FALSE NEIGHBOUR: 'it returns false'. Refute it at one input. -/
def norPlaysWrong : ChangeSpec := { name := "norPlays", fn := fun _ => fun
  | [d1, d2] => { results := [.lit (.bool false)], args := [d1, d2] }
  | _ => none }
def NorPlaysWrongFalsely : Prop := norPlaysRow.holds Try.pinned (OpenSpec.ofChange norPlaysWrong)

/-- 'postilionlaw04.NorBits': WHATEVER THE INPUT: true; the input reads as it did. -/
def norBitsSpec : ChangeSpec := { name := "norBits", fn := fun _ => fun
  | [d1, d2] => { results := [.lit (.bool true)], args := [d1, d2] }
  | _ => none }
def norBitsRow : OpenClaim := { program := "ytblflecalomgfaa", sum := "a001ee7d08ffdc4a67754555970972cae0270bcb399394a0a1829bf695e895c2", func := "postilion/postilionlaw04.NorBits", spec := "norBits", inPlace := ["internal/bytealg.MakeNoZero"], unfollowed := true, recurses := true, apart := false }
def NorBitsSaid : Prop := norBitsRow.holds Try.pinned (OpenSpec.ofChange norBitsSpec)

/-- ITS FALSE NEIGHBOUR: 'it returns false'. Refute it at one input. -/
def norBitsWrong : ChangeSpec := { name := "norBits", fn := fun _ => fun
  | [d1, d2] => { results := [.lit (.bool false)], args := [d1, d2] }
  | _ => none }
def NorBitsWrongFalsely : Prop := norBitsRow.holds Try.pinned (OpenSpec.ofChange norBitsWrong)

/-- 'postilionlaw34.RomIs': WHATEVER THE INPUT: true; the input reads as it did. -/
def romIsSpec : ChangeSpec := { name := "romIs", fn := fun _ => fun
  | [d1, d2, d3] => { results := [.lit (.bool true)], args := [d1, d2, d3] }
  | _ => none }
def romIsRow : OpenClaim := { program := "ytblflecalomgfaa", sum := "a001ee7d08ffdc4a67754555970972cae0270bcb399394a0a1829bf695e895c2", func := "postilion/postilionlaw34.RomIs", spec := "romIs", apart := false }
def RomIsSaid : Prop := romIsRow.holds Try.pinned (OpenSpec.ofChange romIsSpec)

/-- ITS FALSE NEIGHBOUR: 'it returns false'. Refute it at one input. -/
def romIsWrong : ChangeSpec := { name := "romIs", fn := fun _ => fun
  | [d1, d2, d3] => { results := [.lit (.bool false)], args := [d1, d2, d3] }
  | _ => none }
def RomIsWrongFalsely : Prop := romIsRow.holds Try.pinned (OpenSpec.ofChange romIsWrong)

/-- 'postilionlaw34.RomBack': WHATEVER THE INPUT: true; the input reads as it did. -/
def romBackSpec : ChangeSpec := { name := "romBack", fn := fun _ => fun
  | [d1, d2, d3] => { results := [.lit (.bool true)], args := [d1, d2, d3] }
  | _ => none }
def romBackRow : OpenClaim := { program := "ytblflecalomgfaa", sum := "a001ee7d08ffdc4a67754555970972cae0270bcb399394a0a1829bf695e895c2", func := "postilion/postilionlaw34.RomBack", spec := "romBack", apart := false }
def RomBackSaid : Prop := romBackRow.holds Try.pinned (OpenSpec.ofChange romBackSpec)

/-- ITS FALSE NEIGHBOUR: 'it returns false'. Refute it at one input. -/
def romBackWrong : ChangeSpec := { name := "romBack", fn := fun _ => fun
  | [d1, d2, d3] => { results := [.lit (.bool false)], args := [d1, d2, d3] }
  | _ => none }
def RomBackWrongFalsely : Prop := romBackRow.holds Try.pinned (OpenSpec.ofChange romBackWrong)

/-- 'postilionlaw19.GrammarNames': WHATEVER THE INPUT: true; the input reads as it did. -/
def grammarNamesSpec : ChangeSpec := { name := "grammarNames", fn := fun _ => fun
  | [d] => { results := [.lit (.bool true)], args := [d] }
  | _ => none }
def grammarNamesRow : OpenClaim := { program := "ytblflecalomgfaa", sum := "a001ee7d08ffdc4a67754555970972cae0270bcb399394a0a1829bf695e895c2", func := "postilion/postilionlaw19.GrammarNames", spec := "grammarNames", inPlace := ["internal/bytealg.IndexByteString", "internal/bytealg.IndexString"], unfollowed := true, recurses := true, named := ["internal/bytealg.MaxLen"], apart := false }
def GrammarNamesSaid : Prop := grammarNamesRow.holds Try.pinned (OpenSpec.ofChange grammarNamesSpec)

/-- ITS FALSE NEIGHBOUR: 'it returns false'. Refute it at one input. -/
def grammarNamesWrong : ChangeSpec := { name := "grammarNames", fn := fun _ => fun
  | [d] => { results := [.lit (.bool false)], args := [d] }
  | _ => none }
def GrammarNamesWrongFalsely : Prop := grammarNamesRow.holds Try.pinned (OpenSpec.ofChange grammarNamesWrong)

/-- 'postilionlaw19.GrammarCheck': WHATEVER THE INPUT: true; the input reads as it did. -/
def grammarCheckSpec : ChangeSpec := { name := "grammarCheck", fn := fun _ => fun
  | [d] => { results := [.lit (.bool true)], args := [d] }
  | _ => none }
def grammarCheckRow : OpenClaim := { program := "ytblflecalomgfaa", sum := "a001ee7d08ffdc4a67754555970972cae0270bcb399394a0a1829bf695e895c2", func := "postilion/postilionlaw19.GrammarCheck", spec := "grammarCheck", inPlace := ["internal/bytealg.IndexByteString", "internal/bytealg.IndexString"], unfollowed := true, recurses := true, named := ["internal/bytealg.MaxLen"], loops := true, apart := false }
def GrammarCheckSaid : Prop := grammarCheckRow.holds Try.pinned (OpenSpec.ofChange grammarCheckSpec)

/-- ITS FALSE NEIGHBOUR: 'it returns false'. Refute it at one input. -/
def grammarCheckWrong : ChangeSpec := { name := "grammarCheck", fn := fun _ => fun
  | [d] => { results := [.lit (.bool false)], args := [d] }
  | _ => none }
def GrammarCheckWrongFalsely : Prop := grammarCheckRow.holds Try.pinned (OpenSpec.ofChange grammarCheckWrong)

/-- 'postilionlaw19.GrammarFinds': WHATEVER THE INPUT: true; the input reads as it did. -/
def grammarFindsSpec : ChangeSpec := { name := "grammarFinds", fn := fun _ => fun
  | [d] => { results := [.lit (.bool true)], args := [d] }
  | _ => none }
def grammarFindsRow : OpenClaim := { program := "ytblflecalomgfaa", sum := "a001ee7d08ffdc4a67754555970972cae0270bcb399394a0a1829bf695e895c2", func := "postilion/postilionlaw19.GrammarFinds", spec := "grammarFinds", inPlace := ["internal/bytealg.IndexByteString", "internal/bytealg.IndexString"], unfollowed := true, recurses := true, named := ["internal/bytealg.MaxLen"], loops := true, apart := false }
def GrammarFindsSaid : Prop := grammarFindsRow.holds Try.pinned (OpenSpec.ofChange grammarFindsSpec)

/-- ITS FALSE NEIGHBOUR: 'it returns false'. Refute it at one input. -/
def grammarFindsWrong : ChangeSpec := { name := "grammarFinds", fn := fun _ => fun
  | [d] => { results := [.lit (.bool false)], args := [d] }
  | _ => none }
def GrammarFindsWrongFalsely : Prop := grammarFindsRow.holds Try.pinned (OpenSpec.ofChange grammarFindsWrong)

/-- 'postilionlaw05.GuardKeeps': WHATEVER THE INPUT: true; the input reads as it did. -/
def guardKeepsSpec : ChangeSpec := { name := "guardKeeps", fn := fun _ => fun
  | [d1, d2, d3] => { results := [.lit (.bool true)], args := [d1, d2, d3] }
  | _ => none }
def guardKeepsRow : OpenClaim := { program := "ytblflecalomgfaa", sum := "a001ee7d08ffdc4a67754555970972cae0270bcb399394a0a1829bf695e895c2", func := "postilion/postilionlaw05.GuardKeeps", spec := "guardKeeps", inPlace := ["internal/bytealg.MakeNoZero"], unfollowed := true, recurses := true, apart := false }
def GuardKeepsSaid : Prop := guardKeepsRow.holds Try.pinned (OpenSpec.ofChange guardKeepsSpec)

/-- ITS FALSE NEIGHBOUR: 'it returns false'. Refute it at one input. -/
def guardKeepsWrong : ChangeSpec := { name := "guardKeeps", fn := fun _ => fun
  | [d1, d2, d3] => { results := [.lit (.bool false)], args := [d1, d2, d3] }
  | _ => none }
def GuardKeepsWrongFalsely : Prop := guardKeepsRow.holds Try.pinned (OpenSpec.ofChange guardKeepsWrong)

/-- 'postilionlaw06.PartIs': WHATEVER THE INPUT: true; the input reads as it did. -/
def partIsSpec : ChangeSpec := { name := "partIs", fn := fun _ => fun
  | [d1, d2] => { results := [.lit (.bool true)], args := [d1, d2] }
  | _ => none }
def partIsRow : OpenClaim := { program := "ytblflecalomgfaa", sum := "a001ee7d08ffdc4a67754555970972cae0270bcb399394a0a1829bf695e895c2", func := "postilion/postilionlaw06.PartIs", spec := "partIs", inPlace := ["internal/bytealg.MakeNoZero"], unfollowed := true, recurses := true, apart := false }
def PartIsSaid : Prop := partIsRow.holds Try.pinned (OpenSpec.ofChange partIsSpec)

/-- ITS FALSE NEIGHBOUR: 'it returns false'. Refute it at one input. -/
def partIsWrong : ChangeSpec := { name := "partIs", fn := fun _ => fun
  | [d1, d2] => { results := [.lit (.bool false)], args := [d1, d2] }
  | _ => none }
def PartIsWrongFalsely : Prop := partIsRow.holds Try.pinned (OpenSpec.ofChange partIsWrong)

/- THE SECOND FORM. 'bulk': how many values and letters a reading holds, each counted each time it is reached (what is shared counts as often as it is met; a slice's spare places count too). A statement '..UptoSaid' is the law's where the arguments, and the package variables that the reading takes, are together of bulk at most 1048576: NARROWER than '..Said'. Prove '..Said' where nothing that the law and all that it calls make is longer than what came in: it says more and counts as full. Else prove '..UptoSaid'. A law counts once. -/
mutual
def uptoBulk {H : Type} : DataW H → Nat
  | .lit (.string bytes) => bytes.length + 1
  | .lit _ => 1
  | .nil => 1
  | .ptr d => uptoBulk d + 1
  | .slice elems spare => uptoBulkAll elems + uptoBulkAll spare + 1
  | .agg parts => uptoBulkAll parts + 1
  | .iface _ d => uptoBulk d + 1
  | .map entries => uptoBulkEntries entries + 1
  | .held _ => 1
def uptoBulkAll {H : Type} : List (DataW H) → Nat
  | [] => 0
  | d :: r => uptoBulk d + uptoBulkAll r
def uptoBulkEntries {H : Type} : List (Lit × DataW H) → Nat
  | [] => 0
  | x :: r => uptoBulkEntry x + uptoBulkEntries r
def uptoBulkEntry {H : Type} : Lit × DataW H → Nat
  | (.string bytes, d) => bytes.length + uptoBulk d + 1
  | (_, d) => uptoBulk d + 1
 end
def uptoSmall : (H : Type) → List (DataW H) → Bool := fun _ ds => decide (uptoBulkAll ds ≤ 1048576)
def OpenSpec.upto (s : _root_.Go.ChangeSpec) : _root_.Go.OpenSpec := { _root_.Go.OpenSpec.ofChange s with cond := some uptoSmall }

/-- 'postilionlaw09.StrsPlays', WHERE WHAT IT READS IS OF BULK AT MOST 1048576: true; the input reads as it did. -/
def strsPlaysUptoRow : OpenClaim := { program := "ytblflecalomgfaa", sum := "a001ee7d08ffdc4a67754555970972cae0270bcb399394a0a1829bf695e895c2", func := "postilion/postilionlaw09.StrsPlays", spec := "strsPlays", inPlace := ["internal/bytealg.IndexByteString", "internal/bytealg.IndexString"], named := ["internal/bytealg.MaxLen"], apart := false, narrowed := true }
def StrsPlaysUptoSaid : Prop := strsPlaysUptoRow.holds Try.pinned (OpenSpec.upto strsPlaysSpec)

/-- 'postilionlaw09.StrsBack', WHERE WHAT IT READS IS OF BULK AT MOST 1048576: true; the input reads as it did. -/
def strsBackUptoRow : OpenClaim := { program := "ytblflecalomgfaa", sum := "a001ee7d08ffdc4a67754555970972cae0270bcb399394a0a1829bf695e895c2", func := "postilion/postilionlaw09.StrsBack", spec := "strsBack", inPlace := ["internal/bytealg.IndexByteString", "internal/bytealg.IndexString"], named := ["internal/bytealg.MaxLen"], apart := false, narrowed := true }
def StrsBackUptoSaid : Prop := strsBackUptoRow.holds Try.pinned (OpenSpec.upto strsBackSpec)

/-- 'postilionlaw04.NorWrites', WHERE WHAT IT READS IS OF BULK AT MOST 1048576: true; the input reads as it did. -/
def norWritesUptoRow : OpenClaim := { program := "ytblflecalomgfaa", sum := "a001ee7d08ffdc4a67754555970972cae0270bcb399394a0a1829bf695e895c2", func := "postilion/postilionlaw04.NorWrites", spec := "norWrites", inPlace := ["internal/bytealg.MakeNoZero"], unfollowed := true, recurses := true, apart := false, narrowed := true }
def NorWritesUptoSaid : Prop := norWritesUptoRow.holds Try.pinned (OpenSpec.upto norWritesSpec)

/-- 'postilionlaw04.NorPlays', WHERE WHAT IT READS IS OF BULK AT MOST 1048576: true; the input reads as it did. -/
def norPlaysUptoRow : OpenClaim := { program := "ytblflecalomgfaa", sum := "a001ee7d08ffdc4a67754555970972cae0270bcb399394a0a1829bf695e895c2", func := "postilion/postilionlaw04.NorPlays", spec := "norPlays", inPlace := ["internal/bytealg.MakeNoZero"], unfollowed := true, recurses := true, apart := false, narrowed := true }
def NorPlaysUptoSaid : Prop := norPlaysUptoRow.holds Try.pinned (OpenSpec.upto norPlaysSpec)

/-- 'postilionlaw04.NorBits', WHERE WHAT IT READS IS OF BULK AT MOST 1048576: true; the input reads as it did. -/
def norBitsUptoRow : OpenClaim := { program := "ytblflecalomgfaa", sum := "a001ee7d08ffdc4a67754555970972cae0270bcb399394a0a1829bf695e895c2", func := "postilion/postilionlaw04.NorBits", spec := "norBits", inPlace := ["internal/bytealg.MakeNoZero"], unfollowed := true, recurses := true, apart := false, narrowed := true }
def NorBitsUptoSaid : Prop := norBitsUptoRow.holds Try.pinned (OpenSpec.upto norBitsSpec)

/-- 'postilionlaw34.RomIs', WHERE WHAT IT READS IS OF BULK AT MOST 1048576: true; the input reads as it did. -/
def romIsUptoRow : OpenClaim := { program := "ytblflecalomgfaa", sum := "a001ee7d08ffdc4a67754555970972cae0270bcb399394a0a1829bf695e895c2", func := "postilion/postilionlaw34.RomIs", spec := "romIs", apart := false, narrowed := true }
def RomIsUptoSaid : Prop := romIsUptoRow.holds Try.pinned (OpenSpec.upto romIsSpec)

/-- 'postilionlaw34.RomBack', WHERE WHAT IT READS IS OF BULK AT MOST 1048576: true; the input reads as it did. -/
def romBackUptoRow : OpenClaim := { program := "ytblflecalomgfaa", sum := "a001ee7d08ffdc4a67754555970972cae0270bcb399394a0a1829bf695e895c2", func := "postilion/postilionlaw34.RomBack", spec := "romBack", apart := false, narrowed := true }
def RomBackUptoSaid : Prop := romBackUptoRow.holds Try.pinned (OpenSpec.upto romBackSpec)

/-- 'postilionlaw19.GrammarNames', WHERE WHAT IT READS IS OF BULK AT MOST 1048576: true; the input reads as it did. -/
def grammarNamesUptoRow : OpenClaim := { program := "ytblflecalomgfaa", sum := "a001ee7d08ffdc4a67754555970972cae0270bcb399394a0a1829bf695e895c2", func := "postilion/postilionlaw19.GrammarNames", spec := "grammarNames", inPlace := ["internal/bytealg.IndexByteString", "internal/bytealg.IndexString"], unfollowed := true, recurses := true, named := ["internal/bytealg.MaxLen"], apart := false, narrowed := true }
def GrammarNamesUptoSaid : Prop := grammarNamesUptoRow.holds Try.pinned (OpenSpec.upto grammarNamesSpec)

/-- 'postilionlaw19.GrammarCheck', WHERE WHAT IT READS IS OF BULK AT MOST 1048576: true; the input reads as it did. -/
def grammarCheckUptoRow : OpenClaim := { program := "ytblflecalomgfaa", sum := "a001ee7d08ffdc4a67754555970972cae0270bcb399394a0a1829bf695e895c2", func := "postilion/postilionlaw19.GrammarCheck", spec := "grammarCheck", inPlace := ["internal/bytealg.IndexByteString", "internal/bytealg.IndexString"], unfollowed := true, recurses := true, named := ["internal/bytealg.MaxLen"], loops := true, apart := false, narrowed := true }
def GrammarCheckUptoSaid : Prop := grammarCheckUptoRow.holds Try.pinned (OpenSpec.upto grammarCheckSpec)

/-- 'postilionlaw19.GrammarFinds', WHERE WHAT IT READS IS OF BULK AT MOST 1048576: true; the input reads as it did. -/
def grammarFindsUptoRow : OpenClaim := { program := "ytblflecalomgfaa", sum := "a001ee7d08ffdc4a67754555970972cae0270bcb399394a0a1829bf695e895c2", func := "postilion/postilionlaw19.GrammarFinds", spec := "grammarFinds", inPlace := ["internal/bytealg.IndexByteString", "internal/bytealg.IndexString"], unfollowed := true, recurses := true, named := ["internal/bytealg.MaxLen"], loops := true, apart := false, narrowed := true }
def GrammarFindsUptoSaid : Prop := grammarFindsUptoRow.holds Try.pinned (OpenSpec.upto grammarFindsSpec)

/-- 'postilionlaw05.GuardKeeps', WHERE WHAT IT READS IS OF BULK AT MOST 1048576: true; the input reads as it did. -/
def guardKeepsUptoRow : OpenClaim := { program := "ytblflecalomgfaa", sum := "a001ee7d08ffdc4a67754555970972cae0270bcb399394a0a1829bf695e895c2", func := "postilion/postilionlaw05.GuardKeeps", spec := "guardKeeps", inPlace := ["internal/bytealg.MakeNoZero"], unfollowed := true, recurses := true, apart := false, narrowed := true }
def GuardKeepsUptoSaid : Prop := guardKeepsUptoRow.holds Try.pinned (OpenSpec.upto guardKeepsSpec)

/-- 'postilionlaw06.PartIs', WHERE WHAT IT READS IS OF BULK AT MOST 1048576: true; the input reads as it did. -/
def partIsUptoRow : OpenClaim := { program := "ytblflecalomgfaa", sum := "a001ee7d08ffdc4a67754555970972cae0270bcb399394a0a1829bf695e895c2", func := "postilion/postilionlaw06.PartIs", spec := "partIs", inPlace := ["internal/bytealg.MakeNoZero"], unfollowed := true, recurses := true, apart := false, narrowed := true }
def PartIsUptoSaid : Prop := partIsUptoRow.holds Try.pinned (OpenSpec.upto partIsSpec)

end Rows
end Go.Proofs.Ytblflecalomgfaa
