/- The code of values, and of the document's, told. -/
import Derived.Test.YtfiihgaohihppaaDoorQConfBackALA3
import Derived.Test.YtfiihgaohihppaaDoorProg
import Derived.KernelRfl
set_option maxRecDepth 100000
namespace Go.Proofs.YtfiihgaohihppaaDoor.AL
open Go Go.Proofs
def c14 : ACode := 
    (.seq 
    (.region [⟨(some 4), (.q (.move (.const (.bool false)))), none⟩]) 
    (.seq 
    (.seq 
    (.region [⟨(some 6), (.q (.move (.tmp 0))), none⟩, ⟨(some 7), (.q (.len false (.tmp 6))), none⟩, ⟨(some 8), (.q (.move (.tmp 1))), none⟩, ⟨(some 9), (.q (.len false (.tmp 8))), none⟩, ⟨(some 10), (.q (.bin .neq (.tmp 7) (.tmp 9))), none⟩]) 
    (.cond (.tmp 10) 
    (.seq 
    (.region [⟨(some 4), (.q (.move (.const (.bool false)))), none⟩]) .ret) .skip)) 
    (.seq 
    (.seq 
    (.region [⟨(some 5), (.q (.move (.const (.int .i64 0)))), none⟩]) 
    (.block 0 
    (.loop 
    (.seq 
    (.seq 
    (.region [⟨(some 11), (.q (.move (.tmp 5))), none⟩, ⟨(some 12), (.q (.move (.tmp 0))), none⟩, ⟨(some 13), (.q (.len false (.tmp 12))), none⟩, ⟨(some 14), (.q (.bin .lss (.tmp 11) (.tmp 13))), none⟩, ⟨(some 15), (.q (.move (.tmp 14))), none⟩, ⟨(some 16), (.q (.move (.tmp 5))), (some (15, true))⟩, ⟨(some 17), (.q (.move (.tmp 1))), (some (15, true))⟩, ⟨(some 18), (.q (.len false (.tmp 17))), (some (15, true))⟩, ⟨(some 19), (.q (.bin .lss (.tmp 16) (.tmp 18))), (some (15, true))⟩, ⟨(some 20), (.q (.pick (.tmp 15) (.tmp 19) (.const (.bool false)))), none⟩]) 
    (.cond (.tmp 20) .skip (.exit 0))) 
    (.seq 
    (.block 1 
    (.seq 
    (.region [⟨(some 23), (.q (.move (.tmp 0))), none⟩, ⟨(some 24), (.q (.move (.tmp 5))), none⟩, ⟨(some 25), (.q (.idxSl 1 (.tmp 23) (.tmp 24))), none⟩, ⟨(some 26), (.q (.load false 1 (.tmp 25))), none⟩, ⟨(some 27), (.q (.move (.tmp 1))), none⟩, ⟨(some 28), (.q (.move (.tmp 5))), none⟩, ⟨(some 29), (.q (.idxSl 1 (.tmp 27) (.tmp 28))), none⟩, ⟨(some 30), (.q (.load false 1 (.tmp 29))), none⟩, ⟨(some 31), (.q (.bin .neq (.tmp 26) (.tmp 30))), none⟩]) 
    (.cond (.tmp 31) 
    (.seq 
    (.region [⟨(some 4), (.q (.move (.const (.bool false)))), none⟩]) .ret) .skip))) 
    (.region [⟨(some 21), (.q (.move (.tmp 5))), none⟩, ⟨(some 22), (.q (.bin .add (.tmp 21) (.const (.int .i64 1)))), none⟩, ⟨(some 5), (.q (.move (.tmp 22))), none⟩])))))) 
    (.seq 
    (.region [⟨(some 4), (.q (.move (.const (.bool true)))), none⟩]) .ret))))
theorem t14 : Told Tryd.prog 14 32 c14 [(.tmp 4)] := ⟨Tryd.f14, _, [], Tryd.func14, rfl, by kernel_rfl, rfl, by kernel_rfl, by kernel_rfl⟩
def c77 : ACode := 
    (.seq 
    (.region [⟨(some 2), (.q (.move (.const (.str (B []))))), none⟩]) 
    (.seq 
    (.region [⟨(some 3), (.q (.move (.tmp 0))), none⟩, ⟨(some 4), (.s (.call 110 [(.tmp 3)])), none⟩, ⟨(some 2), (.q (.move (.tmp 4))), none⟩]) .ret))
theorem t77 : Told Tryd.prog 77 5 c77 [(.tmp 2)] := ⟨Tryd.f77, _, [], Tryd.func77, rfl, by kernel_rfl, rfl, by kernel_rfl, by kernel_rfl⟩
def c76 : ACode := 
    (.seq 
    (.region [⟨(some 2), (.q (.move (.const (.str (B []))))), none⟩]) 
    (.seq 
    (.region [⟨(some 3), (.s (.alloc 116 [.nilp, .nils])), none⟩]) 
    (.seq 
    (.seq 
    (.region [⟨(some 9), (.q (.move (.tmp 0))), none⟩, ⟨(some 10), (.q (.len false (.tmp 9))), none⟩, ⟨(some 11), (.q (.move (.const (.int .i64 0)))), none⟩]) 
    (.block 0 
    (.loop 
    (.seq 
    (.region [⟨(some 12), (.q (.bin .lss (.tmp 11) (.tmp 10))), none⟩]) 
    (.seq 
    (.cond (.tmp 12) .skip (.exit 0)) 
    (.seq 
    (.block 1 
    (.seq 
    (.region [⟨(some 13), (.q (.idxSl 1 (.tmp 9) (.tmp 11))), none⟩, ⟨(some 14), (.q (.load false 1 (.tmp 13))), none⟩, ⟨(some 5), (.q (.move (.tmp 14))), none⟩]) 
    (.seq 
    (.region [⟨(some 16), (.q (.move (.tmp 5))), none⟩, ⟨(some 17), (.s (.call 109 [(.tmp 16), (.const (.str (B [0])))])), none⟩, ⟨(some 15), (.q (.move (.tmp 17))), none⟩, ⟨(some 18), (.q (.extract 0 (.tmp 15))), none⟩, ⟨(some 19), (.q (.extract 1 (.tmp 15))), none⟩, ⟨(some 20), (.q (.extract 2 (.tmp 15))), none⟩, ⟨(some 6), (.q (.move (.tmp 18))), none⟩, ⟨(some 7), (.q (.move (.tmp 19))), none⟩, ⟨(some 8), (.q (.move (.tmp 20))), none⟩]) 
    (.region [⟨(some 21), (.q (.move (.tmp 6))), none⟩, ⟨(some 22), (.q (.bin .add (.tmp 21) (.const (.str (B [0]))))), none⟩, ⟨(some 23), (.s (.call 102 [(.tmp 3), (.tmp 22)])), none⟩])))) 
    (.region [⟨(some 24), (.q (.bin .add (.tmp 11) (.const (.int .i64 1)))), none⟩, ⟨(some 11), (.q (.move (.tmp 24))), none⟩]))))))) 
    (.seq 
    (.region [⟨(some 25), (.s (.call 103 [(.tmp 3)])), none⟩, ⟨(some 2), (.q (.move (.tmp 25))), none⟩]) .ret))))
theorem t76 : Told Tryd.prog 76 26 c76 [(.tmp 2)] := ⟨Tryd.f76, _, [], Tryd.func76, rfl, by kernel_rfl, rfl, by kernel_rfl, by kernel_rfl⟩
def c65 : ACode := 
    (.seq 
    (.region [⟨(some 2), (.q (.move (.const (.int .i64 0)))), none⟩, ⟨(some 3), (.q (.move (.const (.bool false)))), none⟩]) 
    (.seq 
    (.seq 
    (.region [⟨(some 4), (.q (.move (.tmp 0))), none⟩, ⟨(some 5), (.q (.len true (.tmp 4))), none⟩, ⟨(some 6), (.q (.bin .neq (.tmp 5) (.const (.int .i64 4)))), none⟩]) 
    (.cond (.tmp 6) 
    (.seq 
    (.region [⟨(some 2), (.q (.move (.const (.int .i64 0)))), none⟩, ⟨(some 3), (.q (.move (.const (.bool false)))), none⟩]) .ret) .skip)) 
    (.seq 
    (.region [⟨(some 7), (.q (.move (.tmp 0))), none⟩, ⟨(some 8), (.s (.call 105 [(.tmp 7)])), none⟩, ⟨(some 9), (.q (.extract 0 (.tmp 8))), none⟩, ⟨(some 10), (.q (.extract 1 (.tmp 8))), none⟩, ⟨(some 2), (.q (.move (.tmp 9))), none⟩, ⟨(some 3), (.q (.move (.tmp 10))), none⟩]) .ret)))
theorem t65 : Told Tryd.prog 65 11 c65 [(.tmp 2), (.tmp 3)] := ⟨Tryd.f65, _, [], Tryd.func65, rfl, by kernel_rfl, rfl, by kernel_rfl, by kernel_rfl⟩
def c70 : ACode := 
    (.seq 
    (.region [⟨(some 2), (.q (.move (.const .nils))), none⟩, ⟨(some 3), (.q (.move (.const (.bool false)))), none⟩]) 
    (.seq 
    (.region [⟨(some 7), (.q (.move (.tmp 0))), none⟩, ⟨(some 8), (.s (.call 107 [(.tmp 7), (.const (.str (B [0])))])), none⟩, ⟨(some 6), (.q (.move (.tmp 8))), none⟩, ⟨(some 9), (.q (.extract 0 (.tmp 6))), none⟩, ⟨(some 10), (.q (.extract 1 (.tmp 6))), none⟩, ⟨(some 4), (.q (.move (.tmp 9))), none⟩, ⟨(some 5), (.q (.move (.tmp 10))), none⟩]) 
    (.seq 
    (.seq 
    (.region [⟨(some 11), (.q (.move (.tmp 5))), none⟩, ⟨(some 12), (.q (.un .not (.tmp 11))), none⟩]) 
    (.cond (.tmp 12) 
    (.seq 
    (.region [⟨(some 2), (.q (.move (.const .nils))), none⟩, ⟨(some 3), (.q (.move (.const (.bool false)))), none⟩]) .ret) .skip)) 
    (.seq 
    (.region [⟨(some 13), (.q (.move (.tmp 4))), none⟩, ⟨(some 14), (.s (.call 52 [(.tmp 13), (.const (.str (B [0])))])), none⟩, ⟨(some 2), (.q (.move (.tmp 14))), none⟩, ⟨(some 3), (.q (.move (.const (.bool true)))), none⟩]) .ret))))
theorem t70 : Told Tryd.prog 70 15 c70 [(.tmp 2), (.tmp 3)] := ⟨Tryd.f70, _, [], Tryd.func70, rfl, by kernel_rfl, rfl, by kernel_rfl, by kernel_rfl⟩
def c62 : ACode := 
    (.seq 
    (.region [⟨(some 2), (.q (.move (.const (.str (B []))))), none⟩, ⟨(some 3), (.q (.move (.const (.bool false)))), none⟩]) 
    (.seq 
    (.region [⟨(some 7), (.q (.move (.tmp 0))), none⟩, ⟨(some 8), (.s (.call 70 [(.tmp 7)])), none⟩, ⟨(some 6), (.q (.move (.tmp 8))), none⟩, ⟨(some 9), (.q (.extract 0 (.tmp 6))), none⟩, ⟨(some 10), (.q (.extract 1 (.tmp 6))), none⟩, ⟨(some 4), (.q (.move (.tmp 9))), none⟩, ⟨(some 5), (.q (.move (.tmp 10))), none⟩]) 
    (.seq 
    (.seq 
    (.region [⟨(some 11), (.q (.move (.tmp 5))), none⟩, ⟨(some 12), (.q (.un .not (.tmp 11))), none⟩, ⟨(some 13), (.q (.move (.tmp 12))), none⟩, ⟨(some 14), (.q (.move (.tmp 4))), (some (13, false))⟩, ⟨(some 15), (.q (.len false (.tmp 14))), (some (13, false))⟩, ⟨(some 16), (.q (.bin .neq (.tmp 15) (.const (.int .i64 1)))), (some (13, false))⟩, ⟨(some 17), (.q (.pick (.tmp 13) (.const (.bool true)) (.tmp 16))), none⟩]) 
    (.cond (.tmp 17) 
    (.seq 
    (.region [⟨(some 2), (.q (.move (.const (.str (B []))))), none⟩, ⟨(some 3), (.q (.move (.const (.bool false)))), none⟩]) .ret) .skip)) 
    (.seq 
    (.region [⟨(some 18), (.q (.move (.tmp 4))), none⟩, ⟨(some 19), (.q (.idxSl 1 (.tmp 18) (.const (.int .i64 0)))), none⟩, ⟨(some 20), (.q (.load false 1 (.tmp 19))), none⟩, ⟨(some 2), (.q (.move (.tmp 20))), none⟩, ⟨(some 3), (.q (.move (.const (.bool true)))), none⟩]) .ret))))
theorem t62 : Told Tryd.prog 62 21 c62 [(.tmp 2), (.tmp 3)] := ⟨Tryd.f62, _, [], Tryd.func62, rfl, by kernel_rfl, rfl, by kernel_rfl, by kernel_rfl⟩
end Go.Proofs.YtfiihgaohihppaaDoor.AL

