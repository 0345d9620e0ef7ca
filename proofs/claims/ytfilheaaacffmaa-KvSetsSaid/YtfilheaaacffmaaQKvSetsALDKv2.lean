/- The code of a measure of texts, told. -/
import Derived.Test.YtfilheaaacffmaaQKvSetsALA3
import Derived.Test.YtfilheaaacffmaaProg
import Derived.KernelRfl
set_option maxRecDepth 100000
namespace Go.Proofs.Ytfilheaaacffmaa.AL
open Go Go.Proofs
def c57 : ACode := 
    (.seq 
    (.region [⟨(some 2), (.q (.move (.const (.bool false)))), none⟩]) 
    (.seq 
    (.seq 
    (.region [⟨(some 3), (.q (.move (.const (.int .i64 0)))), none⟩]) 
    (.block 0 
    (.loop 
    (.seq 
    (.seq 
    (.region [⟨(some 4), (.q (.move (.tmp 3))), none⟩, ⟨(some 5), (.q (.move (.tmp 0))), none⟩, ⟨(some 6), (.q (.len false (.tmp 5))), none⟩, ⟨(some 7), (.q (.bin .lss (.tmp 4) (.tmp 6))), none⟩, ⟨(some 8), (.q (.move (.tmp 7))), none⟩, ⟨(some 9), (.q (.move (.tmp 3))), (some (8, true))⟩, ⟨(some 10), (.q (.bin .lss (.tmp 9) (.const (.int .i64 40)))), (some (8, true))⟩, ⟨(some 11), (.q (.pick (.tmp 8) (.tmp 10) (.const (.bool false)))), none⟩]) 
    (.cond (.tmp 11) .skip (.exit 0))) 
    (.seq 
    (.block 1 
    (.seq 
    (.region [⟨(some 14), (.q (.move (.tmp 0))), none⟩, ⟨(some 15), (.q (.move (.tmp 3))), none⟩, ⟨(some 16), (.q (.idxSl 1 (.tmp 14) (.tmp 15))), none⟩, ⟨(some 17), (.q (.load false 1 (.tmp 16))), none⟩, ⟨(some 18), (.q (.len true (.tmp 17))), none⟩, ⟨(some 19), (.q (.bin .gtr (.tmp 18) (.const (.int .i64 100)))), none⟩]) 
    (.cond (.tmp 19) 
    (.seq 
    (.region [⟨(some 2), (.q (.move (.const (.bool false)))), none⟩]) .ret) .skip))) 
    (.region [⟨(some 12), (.q (.move (.tmp 3))), none⟩, ⟨(some 13), (.q (.bin .add (.tmp 12) (.const (.int .i64 1)))), none⟩, ⟨(some 3), (.q (.move (.tmp 13))), none⟩])))))) 
    (.seq 
    (.region [⟨(some 20), (.q (.move (.tmp 0))), none⟩, ⟨(some 21), (.q (.len false (.tmp 20))), none⟩, ⟨(some 22), (.q (.bin .leq (.tmp 21) (.const (.int .i64 40)))), none⟩, ⟨(some 2), (.q (.move (.tmp 22))), none⟩]) .ret)))
theorem t57 : Told Try.prog 57 23 c57 [(.tmp 2)] := ⟨Try.f57, _, [], Try.func57, rfl, by kernel_rfl, rfl, by kernel_rfl, by kernel_rfl⟩
end Go.Proofs.Ytfilheaaacffmaa.AL

