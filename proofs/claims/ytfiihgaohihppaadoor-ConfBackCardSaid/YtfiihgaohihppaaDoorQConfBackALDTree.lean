/- Package tree and the document's: the code told. -/
import Derived.Test.YtfiihgaohihppaaDoorQConfBackALA3
import Derived.Test.YtfiihgaohihppaaDoorQConfBackALDSuf
import Derived.Test.YtfiihgaohihppaaDoorProg
import Derived.KernelRfl
set_option maxRecDepth 100000
namespace Go.Proofs.YtfiihgaohihppaaDoor.AL
open Go Go.Proofs
def c127 : ACode := 
    (.seq 
    (.region [⟨(some 1), (.s (.box 34 (.tmp 0))), none⟩, ⟨(some 2), (.q (.move (.const (.int .i64 0)))), none⟩, ⟨(some 3), (.q (.move (.const (.int .i64 0)))), none⟩, ⟨(some 4), (.q (.move (.const (.int .i64 0)))), none⟩]) 
    (.seq 
    (.region [⟨(some 5), (.q (.load true 3 (.tmp 1))), none⟩, ⟨(some 6), (.s (.call 141 [(.tmp 5), (.const (.int .i64 9))])), none⟩, ⟨(some 7), (.q (.extract 0 (.tmp 6))), none⟩, ⟨(some 8), (.q (.extract 1 (.tmp 6))), none⟩, ⟨(some 9), (.q (.extract 2 (.tmp 6))), none⟩, ⟨(some 2), (.q (.move (.tmp 7))), none⟩, ⟨(some 3), (.q (.move (.tmp 8))), none⟩, ⟨(some 4), (.q (.move (.tmp 9))), none⟩]) .ret))
theorem t127 : Told Tryd.prog 127 10 c127 [(.tmp 2), (.tmp 3), (.tmp 4)] := ⟨Tryd.f127, _, [], Tryd.func127, rfl, by kernel_rfl, rfl, by kernel_rfl, by kernel_rfl⟩
end Go.Proofs.YtfiihgaohihppaaDoor.AL

