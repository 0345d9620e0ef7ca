/- The code of num and its reference told, as the kernel evaluates it. -/
import Derived.Test.YtfiihgaohihppaaDoorQConfBackALA3
import Derived.Test.YtfiihgaohihppaaDoorProg
import Derived.KernelRfl
set_option maxRecDepth 100000
namespace Go.Proofs.YtfiihgaohihppaaDoor.AL
open Go Go.Proofs
def c105 : ACode := 
    (.seq 
    (.region [⟨(some 2), (.q (.move (.const (.int .i64 0)))), none⟩, ⟨(some 3), (.q (.move (.const (.bool false)))), none⟩]) 
    (.seq 
    (.seq 
    (.region [⟨(some 7), (.q (.move (.tmp 0))), none⟩, ⟨(some 8), (.q (.len true (.tmp 7))), none⟩, ⟨(some 9), (.q (.bin .lss (.tmp 8) (.const (.int .i64 4)))), none⟩]) 
    (.cond (.tmp 9) 
    (.seq 
    (.region [⟨(some 2), (.q (.move (.const (.int .i64 0)))), none⟩, ⟨(some 3), (.q (.move (.const (.bool false)))), none⟩]) .ret) .skip)) 
    (.seq 
    (.region [⟨(some 4), (.q (.move (.const (.int .i64 0)))), none⟩]) 
    (.seq 
    (.seq 
    (.region [⟨(some 10), (.q (.move (.tmp 0))), none⟩, ⟨(some 11), (.q (.sliceStr (.tmp 10) none (some (.const (.int .i64 4))))), none⟩, ⟨(some 12), (.s (.s2b 5 (.tmp 11))), none⟩, ⟨(some 13), (.q (.len false (.tmp 12))), none⟩, ⟨(some 14), (.q (.move (.const (.int .i64 0)))), none⟩]) 
    (.block 0 
    (.loop 
    (.seq 
    (.region [⟨(some 15), (.q (.bin .lss (.tmp 14) (.tmp 13))), none⟩]) 
    (.seq 
    (.cond (.tmp 15) .skip (.exit 0)) 
    (.seq 
    (.block 1 
    (.seq 
    (.region [⟨(some 16), (.q (.idxSl 1 (.tmp 12) (.tmp 14))), none⟩, ⟨(some 17), (.q (.load false 1 (.tmp 16))), none⟩, ⟨(some 6), (.q (.move (.tmp 17))), none⟩]) 
    (.region [⟨(some 18), (.q (.move (.tmp 4))), none⟩, ⟨(some 19), (.q (.bin .shl (.tmp 18) (.const (.int .u64 8)))), none⟩, ⟨(some 20), (.q (.move (.tmp 6))), none⟩, ⟨(some 21), (.q (.conv .i64 (.tmp 20))), none⟩, ⟨(some 22), (.q (.bin .or (.tmp 19) (.tmp 21))), none⟩, ⟨(some 4), (.q (.move (.tmp 22))), none⟩]))) 
    (.region [⟨(some 23), (.q (.bin .add (.tmp 14) (.const (.int .i64 1)))), none⟩, ⟨(some 14), (.q (.move (.tmp 23))), none⟩]))))))) 
    (.seq 
    (.region [⟨(some 24), (.q (.move (.tmp 4))), none⟩, ⟨(some 2), (.q (.move (.tmp 24))), none⟩, ⟨(some 3), (.q (.move (.const (.bool true)))), none⟩]) .ret)))))
theorem t105 : Told Tryd.prog 105 25 c105 [(.tmp 2), (.tmp 3)] := ⟨Tryd.f105, _, [], Tryd.func105, rfl, by kernel_rfl, rfl, by kernel_rfl, by kernel_rfl⟩
def c110 : ACode := 
    (.seq 
    (.region [⟨(some 2), (.q (.move (.const (.str (B []))))), none⟩]) 
    (.seq 
    (.region [⟨(some 3), (.q (.move (.const .nils))), none⟩]) 
    (.seq 
    (.seq 
    (.region [⟨(some 6), (.q (.move (.tmp 0))), none⟩, ⟨(some 7), (.q (.len false (.tmp 6))), none⟩, ⟨(some 8), (.q (.move (.const (.int .i64 0)))), none⟩]) 
    (.block 0 
    (.loop 
    (.seq 
    (.region [⟨(some 9), (.q (.bin .lss (.tmp 8) (.tmp 7))), none⟩]) 
    (.seq 
    (.cond (.tmp 9) .skip (.exit 0)) 
    (.seq 
    (.block 1 
    (.seq 
    (.region [⟨(some 10), (.q (.idxSl 1 (.tmp 6) (.tmp 8))), none⟩, ⟨(some 11), (.q (.load false 1 (.tmp 10))), none⟩, ⟨(some 5), (.q (.move (.tmp 11))), none⟩]) 
    (.region [⟨(some 12), (.q (.move (.tmp 3))), none⟩, ⟨(some 13), (.q (.move (.tmp 5))), none⟩, ⟨(some 14), (.q (.bin .shr (.tmp 13) (.const (.int .u64 24)))), none⟩, ⟨(some 15), (.q (.conv .u8 (.tmp 14))), none⟩, ⟨(some 16), (.q (.move (.tmp 5))), none⟩, ⟨(some 17), (.q (.bin .shr (.tmp 16) (.const (.int .u64 16)))), none⟩, ⟨(some 18), (.q (.conv .u8 (.tmp 17))), none⟩, ⟨(some 19), (.q (.move (.tmp 5))), none⟩, ⟨(some 20), (.q (.bin .shr (.tmp 19) (.const (.int .u64 8)))), none⟩, ⟨(some 21), (.q (.conv .u8 (.tmp 20))), none⟩, ⟨(some 22), (.q (.move (.tmp 5))), none⟩, ⟨(some 23), (.q (.conv .u8 (.tmp 22))), none⟩, ⟨(some 24), (.s (.lit 5 1 [(.tmp 15), (.tmp 18), (.tmp 21), (.tmp 23)])), none⟩, ⟨(some 25), (.s (.app 5 1 1 (.tmp 12) (.tmp 24))), none⟩, ⟨(some 3), (.q (.move (.tmp 25))), none⟩]))) 
    (.region [⟨(some 26), (.q (.bin .add (.tmp 8) (.const (.int .i64 1)))), none⟩, ⟨(some 8), (.q (.move (.tmp 26))), none⟩]))))))) 
    (.seq 
    (.region [⟨(some 27), (.q (.move (.tmp 3))), none⟩, ⟨(some 28), (.q (.b2s (.tmp 27))), none⟩, ⟨(some 2), (.q (.move (.tmp 28))), none⟩]) .ret))))
theorem t110 : Told Tryd.prog 110 29 c110 [(.tmp 2)] := ⟨Tryd.f110, _, [], Tryd.func110, rfl, by kernel_rfl, rfl, by kernel_rfl, by kernel_rfl⟩
end Go.Proofs.YtfiihgaohihppaaDoor.AL

