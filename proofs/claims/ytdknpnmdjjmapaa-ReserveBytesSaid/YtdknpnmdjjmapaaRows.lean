/-
  NARROWER THAN 'FOR EVERY INPUT', by the rows' own cells (each row's printed sentence says how): CompileKeeps: loops · CompilePoints: loops.
  DERIVED. THE GIVEN ROWS OF THIS SEAT. 4 by the template 'for every input the law returns true; each argument reads behind the call as it read before'; 0 by the template 'total and deterministic' (their statements: YtdknpnmdjjmapaaTotals.lean).
  GIVEN WITH THE SEED: the statements are not yours to turn. If you find one false, say at which input.
  Laid BY PROGRAM, IN A SANDBOX (cutbox-rows.mjs): the forced cells as the released guide's own fill.sh prints them over the translation 723a220c8e23ba9f… (all of the seat's roots in one cut). By AI agents, Wed Nov 11 2026. No macro, syntax, notation, axiom, sorry.
-/
import Derived.Test.YtdknpnmdjjmapaaChecked
import GoSem.Claim
import GoSem.ClaimJoined
import GoSem.ClaimMapViews
import Derived.JoinedTies
import Derived.KernelRfl
namespace Go.Proofs.Ytdknpnmdjjmapaa
/- THE CELL 'sum', in the pinned program and in every row, IS THE sha256 OF THE DUMP (.gsa) THAT YtdknpnmdjjmapaaProg.lean LOADS. Nothing in Lean hashes anything: it is a label: what it is worth is what the hold of that sum in a sandbox is worth. -/
noncomputable def Try.pinned : Pinned := { name := "ytdknpnmdjjmapaa", sum := "723a220c8e23ba9f2b701332cabab2415b82c89c112d1ca1ca20aadecdda6d7e", checked := Try.checked }
namespace Rows
def none {H : Type} : Left H := { results := [], args := [] }

/-- 'postilionlaw46.CompileKeeps': WHATEVER THE INPUT: true; the input reads as it did. -/
def compileKeepsSpec : ChangeSpec := { name := "compileKeeps", fn := fun _ => fun
  | [d] => { results := [.lit (.bool true)], args := [d] }
  | _ => none }
def compileKeepsRow : OpenClaim := { program := "ytdknpnmdjjmapaa", sum := "723a220c8e23ba9f2b701332cabab2415b82c89c112d1ca1ca20aadecdda6d7e", func := "postilion/postilionlaw46.CompileKeeps", spec := "compileKeeps", inPlace := ["internal/bytealg.IndexByteString", "internal/bytealg.IndexString", "internal/abi.NoEscape"], unfollowed := true, recurses := true, named := ["internal/bytealg.MaxLen"], loops := true, apart := false }
def CompileKeepsSaid : Prop := compileKeepsRow.holds Try.pinned (OpenSpec.ofChange compileKeepsSpec)

/-- ITS FALSE NEIGHBOUR: 'it returns false'. Refute it at one input. -/
def compileKeepsWrong : ChangeSpec := { name := "compileKeeps", fn := fun _ => fun
  | [d] => { results := [.lit (.bool false)], args := [d] }
  | _ => none }
def CompileKeepsWrongFalsely : Prop := compileKeepsRow.holds Try.pinned (OpenSpec.ofChange compileKeepsWrong)

/-- 'postilionlaw46.CompilePoints': WHATEVER THE INPUT: true; the input reads as it did. -/
def compilePointsSpec : ChangeSpec := { name := "compilePoints", fn := fun _ => fun
  | [d] => { results := [.lit (.bool true)], args := [d] }
  | _ => none }
def compilePointsRow : OpenClaim := { program := "ytdknpnmdjjmapaa", sum := "723a220c8e23ba9f2b701332cabab2415b82c89c112d1ca1ca20aadecdda6d7e", func := "postilion/postilionlaw46.CompilePoints", spec := "compilePoints", inPlace := ["internal/bytealg.IndexByteString", "internal/bytealg.IndexString", "internal/abi.NoEscape"], unfollowed := true, recurses := true, named := ["internal/bytealg.MaxLen"], loops := true, apart := false }
def CompilePointsSaid : Prop := compilePointsRow.holds Try.pinned (OpenSpec.ofChange compilePointsSpec)

/-- ITS FALSE NEIGHBOUR: 'it returns false'. Refute it at one input. -/
def compilePointsWrong : ChangeSpec := { name := "compilePoints", fn := fun _ => fun
  | [d] => { results := [.lit (.bool false)], args := [d] }
  | _ => none }
def CompilePointsWrongFalsely : Prop := compilePointsRow.holds Try.pinned (OpenSpec.ofChange compilePointsWrong)

/-- 'postilionlaw18.ReserveIs': WHATEVER THE INPUT: true; the input reads as it did. -/
def reserveIsSpec : ChangeSpec := { name := "reserveIs", fn := fun _ => fun
  | [d1, d2, d3] => { results := [.lit (.bool true)], args := [d1, d2, d3] }
  | _ => none }
def reserveIsRow : OpenClaim := { program := "ytdknpnmdjjmapaa", sum := "723a220c8e23ba9f2b701332cabab2415b82c89c112d1ca1ca20aadecdda6d7e", func := "postilion/postilionlaw18.ReserveIs", spec := "reserveIs", inPlace := ["slices.overlaps[postilion/api.Span]"], unfollowed := true, recurses := true, apart := false }
def ReserveIsSaid : Prop := reserveIsRow.holds Try.pinned (OpenSpec.ofChange reserveIsSpec)

/-- ITS FALSE NEIGHBOUR: 'it returns false'. Refute it at one input. -/
def reserveIsWrong : ChangeSpec := { name := "reserveIs", fn := fun _ => fun
  | [d1, d2, d3] => { results := [.lit (.bool false)], args := [d1, d2, d3] }
  | _ => none }
def ReserveIsWrongFalsely : Prop := reserveIsRow.holds Try.pinned (OpenSpec.ofChange reserveIsWrong)

/-- 'postilionlaw18.ReserveBytes': WHATEVER THE INPUT: true; the input reads as it did. -/
def reserveBytesSpec : ChangeSpec := { name := "reserveBytes", fn := fun _ => fun
  | [d1, d2] => { results := [.lit (.bool true)], args := [d1, d2] }
  | _ => none }
def reserveBytesRow : OpenClaim := { program := "ytdknpnmdjjmapaa", sum := "723a220c8e23ba9f2b701332cabab2415b82c89c112d1ca1ca20aadecdda6d7e", func := "postilion/postilionlaw18.ReserveBytes", spec := "reserveBytes", inPlace := ["slices.overlaps[postilion/api.Span]"], unfollowed := true, recurses := true, apart := false }
def ReserveBytesSaid : Prop := reserveBytesRow.holds Try.pinned (OpenSpec.ofChange reserveBytesSpec)

/-- ITS FALSE NEIGHBOUR: 'it returns false'. Refute it at one input. -/
def reserveBytesWrong : ChangeSpec := { name := "reserveBytes", fn := fun _ => fun
  | [d1, d2] => { results := [.lit (.bool false)], args := [d1, d2] }
  | _ => none }
def ReserveBytesWrongFalsely : Prop := reserveBytesRow.holds Try.pinned (OpenSpec.ofChange reserveBytesWrong)

/- THE SECOND FORM. 'bulk': how many values and letters a reading holds, each counted each time it is reached (what is shared counts as often as it is met; a slice's spare places count too). A statement '..UptoSaid' is the law's where the arguments, and the package variables that the reading takes, are together of bulk at most 1048576: NARROWER than '..Said'. Prove '..Said' where nothing that the law and all that it calls make is longer than what came in: it says more and counts as full. Else prove '..UptoSaid'. A law counts once. -/
mutual
def uptoBulk {H : Type} : DataW H → Nat
  | .lit (.string bytes) => bytes.length + 1
  | .lit _ => 1
  | .nil => 1
  | .ptr d => uptoBulk d + 1
  | .slice elems spare => uptoBulkAll elems + uptoBulkAll spare + 1
  | .agg parts => uptoBulkAll parts + 1
  | .iface _ d => uptoBulk d + 1
  | .map entries => uptoBulkEntries entries + 1
  | .held _ => 1
def uptoBulkAll {H : Type} : List (DataW H) → Nat
  | [] => 0
  | d :: r => uptoBulk d + uptoBulkAll r
def uptoBulkEntries {H : Type} : List (Lit × DataW H) → Nat
  | [] => 0
  | x :: r => uptoBulkEntry x + uptoBulkEntries r
def uptoBulkEntry {H : Type} : Lit × DataW H → Nat
  | (.string bytes, d) => bytes.length + uptoBulk d + 1
  | (_, d) => uptoBulk d + 1
 end
def uptoSmall : (H : Type) → List (DataW H) → Bool := fun _ ds => decide (uptoBulkAll ds ≤ 1048576)
def OpenSpec.upto (s : _root_.Go.ChangeSpec) : _root_.Go.OpenSpec := { _root_.Go.OpenSpec.ofChange s with cond := some uptoSmall }

/-- 'postilionlaw46.CompileKeeps', WHERE WHAT IT READS IS OF BULK AT MOST 1048576: true; the input reads as it did. -/
def compileKeepsUptoRow : OpenClaim := { program := "ytdknpnmdjjmapaa", sum := "723a220c8e23ba9f2b701332cabab2415b82c89c112d1ca1ca20aadecdda6d7e", func := "postilion/postilionlaw46.CompileKeeps", spec := "compileKeeps", inPlace := ["internal/bytealg.IndexByteString", "internal/bytealg.IndexString", "internal/abi.NoEscape"], unfollowed := true, recurses := true, named := ["internal/bytealg.MaxLen"], loops := true, apart := false, narrowed := true }
def CompileKeepsUptoSaid : Prop := compileKeepsUptoRow.holds Try.pinned (OpenSpec.upto compileKeepsSpec)

/-- 'postilionlaw46.CompilePoints', WHERE WHAT IT READS IS OF BULK AT MOST 1048576: true; the input reads as it did. -/
def compilePointsUptoRow : OpenClaim := { program := "ytdknpnmdjjmapaa", sum := "723a220c8e23ba9f2b701332cabab2415b82c89c112d1ca1ca20aadecdda6d7e", func := "postilion/postilionlaw46.CompilePoints", spec := "compilePoints", inPlace := ["internal/bytealg.IndexByteString", "internal/bytealg.IndexString", "internal/abi.NoEscape"], unfollowed := true, recurses := true, named := ["internal/bytealg.MaxLen"], loops := true, apart := false, narrowed := true }
def CompilePointsUptoSaid : Prop := compilePointsUptoRow.holds Try.pinned (OpenSpec.upto compilePointsSpec)

/-- 'postilionlaw18.ReserveIs', WHERE WHAT IT READS IS OF BULK AT MOST 1048576: true; the input reads as it did. -/
def reserveIsUptoRow : OpenClaim := { program := "ytdknpnmdjjmapaa", sum := "723a220c8e23ba9f2b701332cabab2415b82c89c112d1ca1ca20aadecdda6d7e", func := "postilion/postilionlaw18.ReserveIs", spec := "reserveIs", inPlace := ["slices.overlaps[postilion/api.Span]"], unfollowed := true, recurses := true, apart := false, narrowed := true }
def ReserveIsUptoSaid : Prop := reserveIsUptoRow.holds Try.pinned (OpenSpec.upto reserveIsSpec)

/-- 'postilionlaw18.ReserveBytes', WHERE WHAT IT READS IS OF BULK AT MOST 1048576: true; the input reads as it did. -/
def reserveBytesUptoRow : OpenClaim := { program := "ytdknpnmdjjmapaa", sum := "723a220c8e23ba9f2b701332cabab2415b82c89c112d1ca1ca20aadecdda6d7e", func := "postilion/postilionlaw18.ReserveBytes", spec := "reserveBytes", inPlace := ["slices.overlaps[postilion/api.Span]"], unfollowed := true, recurses := true, apart := false, narrowed := true }
def ReserveBytesUptoSaid : Prop := reserveBytesUptoRow.holds Try.pinned (OpenSpec.upto reserveBytesSpec)

end Rows
end Go.Proofs.Ytdknpnmdjjmapaa
