/- The code of HasSuffix, told. -/
import Derived.Test.YtfiihgaohihppaaDoorQConfBackALA3
import Derived.Test.YtfiihgaohihppaaDoorProg
import Derived.KernelRfl
set_option maxRecDepth 100000
namespace Go.Proofs.YtfiihgaohihppaaDoor.AL
open Go Go.Proofs
def c140 : ACode := 
    (.seq 
    (.region [⟨(some 4), (.q (.move (.const (.bool false)))), none⟩]) 
    (.seq 
    (.region [⟨(some 5), (.q (.move (.tmp 0))), none⟩, ⟨(some 6), (.q (.len true (.tmp 5))), none⟩, ⟨(some 7), (.q (.move (.tmp 1))), none⟩, ⟨(some 8), (.q (.len true (.tmp 7))), none⟩, ⟨(some 9), (.q (.bin .geq (.tmp 6) (.tmp 8))), none⟩, ⟨(some 10), (.q (.move (.tmp 9))), none⟩, ⟨(some 11), (.q (.move (.tmp 0))), (some (10, true))⟩, ⟨(some 12), (.q (.move (.tmp 0))), (some (10, true))⟩, ⟨(some 13), (.q (.len true (.tmp 12))), (some (10, true))⟩, ⟨(some 14), (.q (.move (.tmp 1))), (some (10, true))⟩, ⟨(some 15), (.q (.len true (.tmp 14))), (some (10, true))⟩, ⟨(some 16), (.q (.bin .sub (.tmp 13) (.tmp 15))), (some (10, true))⟩, ⟨(some 17), (.q (.sliceStr (.tmp 11) (some (.tmp 16)) none)), (some (10, true))⟩, ⟨(some 18), (.q (.move (.tmp 1))), (some (10, true))⟩, ⟨(some 19), (.q (.bin .eql (.tmp 17) (.tmp 18))), (some (10, true))⟩, ⟨(some 20), (.q (.pick (.tmp 10) (.tmp 19) (.const (.bool false)))), none⟩, ⟨(some 4), (.q (.move (.tmp 20))), none⟩]) .ret))
theorem t140 : Told Tryd.prog 140 21 c140 [(.tmp 4)] := ⟨Tryd.f140, _, [], Tryd.func140, rfl, by kernel_rfl, rfl, by kernel_rfl, by kernel_rfl⟩
end Go.Proofs.YtfiihgaohihppaaDoor.AL

