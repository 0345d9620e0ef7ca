/- The code of paths, told. -/
import Derived.Test.YtmdgjfadbhenjaaGreatDoorQCellsUpALA3
import Derived.Test.YtmdgjfadbhenjaaGreatDoorProg
import Derived.KernelRfl
set_option maxRecDepth 100000
namespace Go.Proofs.YtmdgjfadbhenjaaGreatDoor.AL
open Go Go.Proofs
def c201 : ACode := 
    (.seq 
    (.region [⟨(some 4), (.q (.move (.const (.bool false)))), none⟩]) 
    (.seq 
    (.region [⟨(some 5), (.q (.move (.tmp 0))), none⟩, ⟨(some 6), (.q (.len true (.tmp 5))), none⟩, ⟨(some 7), (.q (.move (.tmp 1))), none⟩, ⟨(some 8), (.q (.len true (.tmp 7))), none⟩, ⟨(some 9), (.q (.bin .geq (.tmp 6) (.tmp 8))), none⟩, ⟨(some 10), (.q (.move (.tmp 9))), none⟩, ⟨(some 11), (.q (.move (.tmp 0))), (some (10, true))⟩, ⟨(some 12), (.q (.move (.tmp 1))), (some (10, true))⟩, ⟨(some 13), (.q (.len true (.tmp 12))), (some (10, true))⟩, ⟨(some 14), (.q (.sliceStr (.tmp 11) none (some (.tmp 13)))), (some (10, true))⟩, ⟨(some 15), (.q (.move (.tmp 1))), (some (10, true))⟩, ⟨(some 16), (.q (.bin .eql (.tmp 14) (.tmp 15))), (some (10, true))⟩, ⟨(some 17), (.q (.pick (.tmp 10) (.tmp 16) (.const (.bool false)))), none⟩, ⟨(some 4), (.q (.move (.tmp 17))), none⟩]) .ret))
theorem t201 : Told Tryz.prog 201 18 c201 [(.tmp 4)] := ⟨Tryz.f201, _, [], Tryz.func201, rfl, by kernel_rfl, rfl, by kernel_rfl, by kernel_rfl⟩
def c173 : ACode := 
    (.seq 
    (.region [⟨(some 4), (.q (.move (.const (.str (B []))))), none⟩, ⟨(some 5), (.q (.move (.const (.bool false)))), none⟩]) 
    (.seq 
    (.seq 
    (.region [⟨(some 6), (.q (.move (.tmp 0))), none⟩, ⟨(some 7), (.q (.move (.tmp 1))), none⟩, ⟨(some 8), (.s (.call 201 [(.tmp 6), (.tmp 7)])), none⟩, ⟨(some 9), (.q (.un .not (.tmp 8))), none⟩]) 
    (.cond (.tmp 9) 
    (.seq 
    (.region [⟨(some 10), (.q (.move (.tmp 0))), none⟩, ⟨(some 4), (.q (.move (.tmp 10))), none⟩, ⟨(some 5), (.q (.move (.const (.bool false)))), none⟩]) .ret) .skip)) 
    (.seq 
    (.region [⟨(some 11), (.q (.move (.tmp 0))), none⟩, ⟨(some 12), (.q (.move (.tmp 1))), none⟩, ⟨(some 13), (.q (.len true (.tmp 12))), none⟩, ⟨(some 14), (.q (.sliceStr (.tmp 11) (some (.tmp 13)) none)), none⟩, ⟨(some 4), (.q (.move (.tmp 14))), none⟩, ⟨(some 5), (.q (.move (.const (.bool true)))), none⟩]) .ret)))
theorem t173 : Told Tryz.prog 173 15 c173 [(.tmp 4), (.tmp 5)] := ⟨Tryz.f173, _, [], Tryz.func173, rfl, by kernel_rfl, rfl, by kernel_rfl, by kernel_rfl⟩
def c132 : ACode := 
    (.seq 
    (.region [⟨(some 4), (.q (.move (.const (.str (B []))))), none⟩, ⟨(some 5), (.q (.move (.const (.bool false)))), none⟩]) 
    (.seq 
    (.region [⟨(some 6), (.q (.move (.tmp 0))), none⟩, ⟨(some 7), (.q (.move (.tmp 1))), none⟩, ⟨(some 8), (.s (.call 173 [(.tmp 6), (.tmp 7)])), none⟩, ⟨(some 9), (.q (.extract 0 (.tmp 8))), none⟩, ⟨(some 10), (.q (.extract 1 (.tmp 8))), none⟩, ⟨(some 4), (.q (.move (.tmp 9))), none⟩, ⟨(some 5), (.q (.move (.tmp 10))), none⟩]) .ret))
theorem t132 : Told Tryz.prog 132 11 c132 [(.tmp 4), (.tmp 5)] := ⟨Tryz.f132, _, [], Tryz.func132, rfl, by kernel_rfl, rfl, by kernel_rfl, by kernel_rfl⟩
def c175 : ACode := 
    (.seq 
    (.region [⟨(some 4), (.q (.move (.const (.int .i64 0)))), none⟩]) 
    (.seq 
    (.seq 
    (.region [⟨(some 6), (.q (.move (.tmp 0))), none⟩, ⟨(some 7), (.q (.len false (.tmp 6))), none⟩, ⟨(some 8), (.q (.move (.const (.int .i64 0)))), none⟩]) 
    (.block 0 
    (.loop 
    (.seq 
    (.region [⟨(some 9), (.q (.bin .lss (.tmp 8) (.tmp 7))), none⟩]) 
    (.seq 
    (.cond (.tmp 9) .skip (.exit 0)) 
    (.seq 
    (.block 1 
    (.seq 
    (.region [⟨(some 10), (.q (.move (.tmp 8))), none⟩, ⟨(some 5), (.q (.move (.tmp 10))), none⟩]) 
    (.seq 
    (.region [⟨(some 11), (.q (.move (.tmp 1))), none⟩, ⟨(some 12), (.q (.move (.tmp 0))), none⟩, ⟨(some 13), (.q (.move (.tmp 5))), none⟩, ⟨(some 14), (.q (.idxSl 1 (.tmp 12) (.tmp 13))), none⟩, ⟨(some 15), (.q (.load false 1 (.tmp 14))), none⟩, ⟨(some 16), (.q (.bin .eql (.tmp 11) (.tmp 15))), none⟩]) 
    (.cond (.tmp 16) 
    (.seq 
    (.region [⟨(some 17), (.q (.move (.tmp 5))), none⟩, ⟨(some 4), (.q (.move (.tmp 17))), none⟩]) .ret) .skip)))) 
    (.region [⟨(some 18), (.q (.bin .add (.tmp 8) (.const (.int .i64 1)))), none⟩, ⟨(some 8), (.q (.move (.tmp 18))), none⟩]))))))) 
    (.seq 
    (.region [⟨(some 4), (.q (.move (.const (.int .i64 (-1))))), none⟩]) .ret)))
theorem t175 : Told Tryz.prog 175 19 c175 [(.tmp 4)] := ⟨Tryz.f175, _, [], Tryz.func175, rfl, by kernel_rfl, rfl, by kernel_rfl, by kernel_rfl⟩
def c134 : ACode := 
    (.seq 
    (.region [⟨(some 4), (.q (.move (.const (.bool false)))), none⟩]) 
    (.seq 
    (.region [⟨(some 5), (.q (.move (.tmp 0))), none⟩, ⟨(some 6), (.q (.move (.tmp 1))), none⟩, ⟨(some 7), (.s (.call 175 [(.tmp 5), (.tmp 6)])), none⟩, ⟨(some 8), (.q (.bin .geq (.tmp 7) (.const (.int .i64 0)))), none⟩, ⟨(some 4), (.q (.move (.tmp 8))), none⟩]) .ret))
theorem t134 : Told Tryz.prog 134 9 c134 [(.tmp 4)] := ⟨Tryz.f134, _, [], Tryz.func134, rfl, by kernel_rfl, rfl, by kernel_rfl, by kernel_rfl⟩
def c135 : ACode := 
    (.seq 
    (.region [⟨(some 4), (.q (.move (.const (.str (B []))))), none⟩]) 
    (.seq 
    (.seq 
    (.region [⟨(some 11), (.q (.move (.tmp 0))), none⟩, ⟨(some 12), (.q (.len false (.tmp 11))), none⟩]) 
    (.block 0 
    (.seq 
    (.region [⟨(some 14), (.q (.bin .eql (.tmp 12) (.const (.int .i64 0)))), none⟩, ⟨(some 13), (.q (.move (.tmp 14))), none⟩]) 
    (.cond (.tmp 13) 
    (.seq 
    (.region [⟨(some 4), (.q (.move (.const (.str (B []))))), none⟩]) .ret) 
    (.seq 
    (.region [⟨(some 16), (.q (.bin .eql (.tmp 12) (.const (.int .i64 1)))), none⟩, ⟨(some 15), (.q (.move (.tmp 16))), none⟩]) 
    (.cond (.tmp 15) 
    (.seq 
    (.region [⟨(some 17), (.q (.move (.tmp 0))), none⟩, ⟨(some 18), (.q (.idxSl 1 (.tmp 17) (.const (.int .i64 0)))), none⟩, ⟨(some 19), (.q (.load false 1 (.tmp 18))), none⟩, ⟨(some 4), (.q (.move (.tmp 19))), none⟩]) .ret) .skip)))))) 
    (.seq 
    (.region [⟨(some 5), (.q (.move (.const (.int .i64 0)))), none⟩]) 
    (.seq 
    (.seq 
    (.region [⟨(some 20), (.q (.move (.tmp 1))), none⟩, ⟨(some 21), (.q (.len true (.tmp 20))), none⟩, ⟨(some 22), (.q (.bin .gtr (.tmp 21) (.const (.int .i64 0)))), none⟩]) 
    (.cond (.tmp 22) 
    (.seq 
    (.seq 
    (.region [⟨(some 23), (.q (.move (.tmp 1))), none⟩, ⟨(some 24), (.q (.len true (.tmp 23))), none⟩, ⟨(some 25), (.q (.move (.tmp 0))), none⟩, ⟨(some 26), (.q (.len false (.tmp 25))), none⟩, ⟨(some 27), (.q (.bin .sub (.tmp 26) (.const (.int .i64 1)))), none⟩, ⟨(some 28), (.q (.bin .quo (.const (.int .i64 9223372036854775807)) (.tmp 27))), none⟩, ⟨(some 29), (.q (.bin .geq (.tmp 24) (.tmp 28))), none⟩]) 
    (.cond (.tmp 29) 
    (.region [⟨(some 30), (.q (.iface 9 (.const (.str (B [115, 116, 114, 105, 110, 103, 115, 58, 32, 74, 111, 105, 110, 32, 111, 117, 116, 112, 117, 116, 32, 108, 101, 110, 103, 116, 104, 32, 111, 118, 101, 114, 102, 108, 111, 119]))))), none⟩, ⟨none, (.s .stop), none⟩]) .skip)) 
    (.region [⟨(some 31), (.q (.move (.tmp 5))), none⟩, ⟨(some 32), (.q (.move (.tmp 1))), none⟩, ⟨(some 33), (.q (.len true (.tmp 32))), none⟩, ⟨(some 34), (.q (.move (.tmp 0))), none⟩, ⟨(some 35), (.q (.len false (.tmp 34))), none⟩, ⟨(some 36), (.q (.bin .sub (.tmp 35) (.const (.int .i64 1)))), none⟩, ⟨(some 37), (.q (.bin .mul (.tmp 33) (.tmp 36))), none⟩, ⟨(some 38), (.q (.bin .add (.tmp 31) (.tmp 37))), none⟩, ⟨(some 5), (.q (.move (.tmp 38))), none⟩])) .skip)) 
    (.seq 
    (.seq 
    (.region [⟨(some 39), (.q (.move (.tmp 0))), none⟩, ⟨(some 40), (.q (.len false (.tmp 39))), none⟩, ⟨(some 41), (.q (.move (.const (.int .i64 0)))), none⟩]) 
    (.block 1 
    (.loop 
    (.seq 
    (.region [⟨(some 42), (.q (.bin .lss (.tmp 41) (.tmp 40))), none⟩]) 
    (.seq 
    (.cond (.tmp 42) .skip (.exit 1)) 
    (.seq 
    (.block 2 
    (.seq 
    (.region [⟨(some 43), (.q (.idxSl 1 (.tmp 39) (.tmp 41))), none⟩, ⟨(some 44), (.q (.load false 1 (.tmp 43))), none⟩, ⟨(some 7), (.q (.move (.tmp 44))), none⟩]) 
    (.seq 
    (.seq 
    (.region [⟨(some 45), (.q (.move (.tmp 7))), none⟩, ⟨(some 46), (.q (.len true (.tmp 45))), none⟩, ⟨(some 47), (.q (.move (.tmp 5))), none⟩, ⟨(some 48), (.q (.bin .sub (.const (.int .i64 9223372036854775807)) (.tmp 47))), none⟩, ⟨(some 49), (.q (.bin .gtr (.tmp 46) (.tmp 48))), none⟩]) 
    (.cond (.tmp 49) 
    (.region [⟨(some 50), (.q (.iface 9 (.const (.str (B [115, 116, 114, 105, 110, 103, 115, 58, 32, 74, 111, 105, 110, 32, 111, 117, 116, 112, 117, 116, 32, 108, 101, 110, 103, 116, 104, 32, 111, 118, 101, 114, 102, 108, 111, 119]))))), none⟩, ⟨none, (.s .stop), none⟩]) .skip)) 
    (.region [⟨(some 51), (.q (.move (.tmp 5))), none⟩, ⟨(some 52), (.q (.move (.tmp 7))), none⟩, ⟨(some 53), (.q (.len true (.tmp 52))), none⟩, ⟨(some 54), (.q (.bin .add (.tmp 51) (.tmp 53))), none⟩, ⟨(some 5), (.q (.move (.tmp 54))), none⟩])))) 
    (.region [⟨(some 55), (.q (.bin .add (.tmp 41) (.const (.int .i64 1)))), none⟩, ⟨(some 41), (.q (.move (.tmp 55))), none⟩]))))))) 
    (.seq 
    (.region [⟨(some 8), (.s (.alloc 198 [.nilp, .nils])), none⟩]) 
    (.seq 
    (.region [⟨(some 56), (.q (.move (.tmp 5))), none⟩, ⟨(some 57), (.s (.call 176 [(.tmp 8), (.tmp 56)])), none⟩]) 
    (.seq 
    (.region [⟨(some 58), (.q (.move (.tmp 0))), none⟩, ⟨(some 59), (.q (.idxSl 1 (.tmp 58) (.const (.int .i64 0)))), none⟩, ⟨(some 60), (.q (.load false 1 (.tmp 59))), none⟩, ⟨(some 61), (.s (.call 177 [(.tmp 8), (.tmp 60)])), none⟩]) 
    (.seq 
    (.seq 
    (.region [⟨(some 62), (.q (.move (.tmp 0))), none⟩, ⟨(some 63), (.q (.sliceSl 1 (.tmp 62) (some (.const (.int .i64 1))) none)), none⟩, ⟨(some 64), (.q (.len false (.tmp 63))), none⟩, ⟨(some 65), (.q (.move (.const (.int .i64 0)))), none⟩]) 
    (.block 3 
    (.loop 
    (.seq 
    (.region [⟨(some 66), (.q (.bin .lss (.tmp 65) (.tmp 64))), none⟩]) 
    (.seq 
    (.cond (.tmp 66) .skip (.exit 3)) 
    (.seq 
    (.block 4 
    (.seq 
    (.region [⟨(some 67), (.q (.idxSl 1 (.tmp 63) (.tmp 65))), none⟩, ⟨(some 68), (.q (.load false 1 (.tmp 67))), none⟩, ⟨(some 10), (.q (.move (.tmp 68))), none⟩]) 
    (.seq 
    (.region [⟨(some 69), (.q (.move (.tmp 1))), none⟩, ⟨(some 70), (.s (.call 177 [(.tmp 8), (.tmp 69)])), none⟩]) 
    (.region [⟨(some 71), (.q (.move (.tmp 10))), none⟩, ⟨(some 72), (.s (.call 177 [(.tmp 8), (.tmp 71)])), none⟩])))) 
    (.region [⟨(some 73), (.q (.bin .add (.tmp 65) (.const (.int .i64 1)))), none⟩, ⟨(some 65), (.q (.move (.tmp 73))), none⟩]))))))) 
    (.seq 
    (.region [⟨(some 74), (.s (.call 178 [(.tmp 8)])), none⟩, ⟨(some 4), (.q (.move (.tmp 74))), none⟩]) .ret))))))))))
theorem t135 : Told Tryz.prog 135 75 c135 [(.tmp 4)] := ⟨Tryz.f135, _, [], Tryz.func135, rfl, by kernel_rfl, rfl, by kernel_rfl, by kernel_rfl⟩
def c147 : ACode := 
    (.seq 
    (.region [⟨(some 4), (.q (.move (.const (.int .i64 0)))), none⟩]) 
    (.seq 
    (.seq 
    (.region [⟨(some 6), (.q (.move (.tmp 0))), none⟩, ⟨(some 7), (.q (.len false (.tmp 6))), none⟩, ⟨(some 8), (.q (.move (.const (.int .i64 0)))), none⟩]) 
    (.block 0 
    (.loop 
    (.seq 
    (.region [⟨(some 9), (.q (.bin .lss (.tmp 8) (.tmp 7))), none⟩]) 
    (.seq 
    (.cond (.tmp 9) .skip (.exit 0)) 
    (.seq 
    (.block 1 
    (.seq 
    (.region [⟨(some 10), (.q (.move (.tmp 8))), none⟩, ⟨(some 5), (.q (.move (.tmp 10))), none⟩]) 
    (.seq 
    (.region [⟨(some 11), (.q (.move (.tmp 1))), none⟩, ⟨(some 12), (.q (.move (.tmp 0))), none⟩, ⟨(some 13), (.q (.move (.tmp 5))), none⟩, ⟨(some 14), (.q (.idxSl 3 (.tmp 12) (.tmp 13))), none⟩, ⟨(some 15), (.q (.load true 3 (.tmp 14))), none⟩, ⟨(some 16), (.s (.callv (.tmp 11) [(.tmp 15)])), none⟩]) 
    (.cond (.tmp 16) 
    (.seq 
    (.region [⟨(some 17), (.q (.move (.tmp 5))), none⟩, ⟨(some 4), (.q (.move (.tmp 17))), none⟩]) .ret) .skip)))) 
    (.region [⟨(some 18), (.q (.bin .add (.tmp 8) (.const (.int .i64 1)))), none⟩, ⟨(some 8), (.q (.move (.tmp 18))), none⟩]))))))) 
    (.seq 
    (.region [⟨(some 4), (.q (.move (.const (.int .i64 (-1))))), none⟩]) .ret)))
theorem t147 : Told Tryz.prog 147 19 c147 [(.tmp 4)] := ⟨Tryz.f147, _, [], Tryz.func147, rfl, by kernel_rfl, rfl, by kernel_rfl, by kernel_rfl⟩
def c124 : ACode := 
    (.seq 
    (.region [⟨(some 4), (.q (.move (.const (.int .i64 0)))), none⟩]) 
    (.seq 
    (.seq 
    (.region [⟨(some 6), (.q (.move (.tmp 0))), none⟩, ⟨(some 7), (.q (.len false (.tmp 6))), none⟩, ⟨(some 8), (.q (.move (.const (.int .i64 0)))), none⟩]) 
    (.block 0 
    (.loop 
    (.seq 
    (.region [⟨(some 9), (.q (.bin .lss (.tmp 8) (.tmp 7))), none⟩]) 
    (.seq 
    (.cond (.tmp 9) .skip (.exit 0)) 
    (.seq 
    (.block 1 
    (.seq 
    (.region [⟨(some 10), (.q (.move (.tmp 8))), none⟩, ⟨(some 5), (.q (.move (.tmp 10))), none⟩]) 
    (.seq 
    (.region [⟨(some 11), (.q (.move (.tmp 1))), none⟩, ⟨(some 12), (.q (.move (.tmp 0))), none⟩, ⟨(some 13), (.q (.move (.tmp 5))), none⟩, ⟨(some 14), (.q (.idxSl 2 (.tmp 12) (.tmp 13))), none⟩, ⟨(some 15), (.q (.load true 2 (.tmp 14))), none⟩, ⟨(some 16), (.s (.callv (.tmp 11) [(.tmp 15)])), none⟩]) 
    (.cond (.tmp 16) 
    (.seq 
    (.region [⟨(some 17), (.q (.move (.tmp 5))), none⟩, ⟨(some 4), (.q (.move (.tmp 17))), none⟩]) .ret) .skip)))) 
    (.region [⟨(some 18), (.q (.bin .add (.tmp 8) (.const (.int .i64 1)))), none⟩, ⟨(some 8), (.q (.move (.tmp 18))), none⟩]))))))) 
    (.seq 
    (.region [⟨(some 4), (.q (.move (.const (.int .i64 (-1))))), none⟩]) .ret)))
theorem t124 : Told Tryz.prog 124 19 c124 [(.tmp 4)] := ⟨Tryz.f124, _, [], Tryz.func124, rfl, by kernel_rfl, rfl, by kernel_rfl, by kernel_rfl⟩
def c82 : ACode := 
    (.seq 
    (.region [⟨(some 2), (.q (.move (.const .nils))), none⟩, ⟨(some 3), (.q (.move (.const (.bool false)))), none⟩]) 
    (.seq 
    (.seq 
    (.region [⟨(some 7), (.q (.move (.tmp 0))), none⟩, ⟨(some 8), (.q (.bin .eql (.tmp 7) (.const (.str (B [47]))))), none⟩]) 
    (.cond (.tmp 8) 
    (.seq 
    (.region [⟨(some 2), (.q (.move (.const .nils))), none⟩, ⟨(some 3), (.q (.move (.const (.bool true)))), none⟩]) .ret) .skip)) 
    (.seq 
    (.region [⟨(some 10), (.q (.move (.tmp 0))), none⟩, ⟨(some 11), (.s (.call 132 [(.tmp 10), (.const (.str (B [47])))])), none⟩, ⟨(some 9), (.q (.move (.tmp 11))), none⟩, ⟨(some 12), (.q (.extract 0 (.tmp 9))), none⟩, ⟨(some 13), (.q (.extract 1 (.tmp 9))), none⟩, ⟨(some 4), (.q (.move (.tmp 12))), none⟩, ⟨(some 5), (.q (.move (.tmp 13))), none⟩]) 
    (.seq 
    (.region [⟨(some 14), (.q (.move (.tmp 4))), none⟩, ⟨(some 15), (.s (.call 133 [(.tmp 14), (.const (.str (B [47])))])), none⟩, ⟨(some 6), (.q (.move (.tmp 15))), none⟩]) 
    (.seq 
    (.seq 
    (.region [⟨(some 16), (.q (.move (.tmp 5))), none⟩, ⟨(some 17), (.q (.un .not (.tmp 16))), none⟩, ⟨(some 18), (.q (.move (.tmp 17))), none⟩, ⟨(some 19), (.q (.move (.tmp 6))), (some (18, false))⟩, ⟨(some 20), (.q (.len false (.tmp 19))), (some (18, false))⟩, ⟨(some 21), (.q (.bin .geq (.tmp 20) (.const (.int .i64 8)))), (some (18, false))⟩, ⟨(some 22), (.q (.pick (.tmp 18) (.const (.bool true)) (.tmp 21))), none⟩, ⟨(some 23), (.q (.move (.tmp 22))), none⟩, ⟨(some 24), (.q (.move (.tmp 6))), (some (23, false))⟩, ⟨(some 25), (.s (.call 134 [(.tmp 24), (.const (.str (B [])))])), (some (23, false))⟩, ⟨(some 26), (.q (.pick (.tmp 23) (.const (.bool true)) (.tmp 25))), none⟩]) 
    (.cond (.tmp 26) 
    (.seq 
    (.region [⟨(some 2), (.q (.move (.const .nils))), none⟩, ⟨(some 3), (.q (.move (.const (.bool false)))), none⟩]) .ret) .skip)) 
    (.seq 
    (.region [⟨(some 27), (.q (.move (.tmp 6))), none⟩, ⟨(some 2), (.q (.move (.tmp 27))), none⟩, ⟨(some 3), (.q (.move (.const (.bool true)))), none⟩]) .ret))))))
theorem t82 : Told Tryz.prog 82 28 c82 [(.tmp 2), (.tmp 3)] := ⟨Tryz.f82, _, [], Tryz.func82, rfl, by kernel_rfl, rfl, by kernel_rfl, by kernel_rfl⟩
def c83 : ACode := 
    (.seq 
    (.region [⟨(some 2), (.q (.move (.const (.str (B []))))), none⟩]) 
    (.seq 
    (.region [⟨(some 3), (.q (.move (.tmp 0))), none⟩, ⟨(some 4), (.s (.call 135 [(.tmp 3), (.const (.str (B [47])))])), none⟩, ⟨(some 5), (.q (.bin .add (.const (.str (B [47]))) (.tmp 4))), none⟩, ⟨(some 2), (.q (.move (.tmp 5))), none⟩]) .ret))
theorem t83 : Told Tryz.prog 83 6 c83 [(.tmp 2)] := ⟨Tryz.f83, _, [], Tryz.func83, rfl, by kernel_rfl, rfl, by kernel_rfl, by kernel_rfl⟩
def c96 : ACode := 
    (.seq 
    (.region [⟨(some 2), (.s (.box 25 (.tmp 0))), none⟩, ⟨(some 3), (.s (.box 9 (.tmp 1))), none⟩, ⟨(some 4), (.s (.alloc 25 [(.str (B [])), .nils, .nils])), none⟩, ⟨(some 5), (.q (.move (.const (.bool false)))), none⟩]) 
    (.seq 
    (.region [⟨(some 7), (.q (.fieldAddr 2 (.tmp 2))), none⟩, ⟨(some 8), (.q (.load false 1 (.tmp 7))), none⟩, ⟨(some 9), (.q (.mkFunc (.func 148) [] [(.tmp 3)])), none⟩, ⟨(some 10), (.s (.call 147 [(.tmp 8), (.tmp 9)])), none⟩, ⟨(some 6), (.q (.move (.tmp 10))), none⟩]) 
    (.seq 
    (.seq 
    (.region [⟨(some 11), (.q (.move (.tmp 6))), none⟩, ⟨(some 12), (.q (.bin .lss (.tmp 11) (.const (.int .i64 0)))), none⟩]) 
    (.cond (.tmp 12) 
    (.seq 
    (.region [⟨(some 13), (.q (.build [(.str (B [])), .nils, .nils] [])), none⟩, ⟨none, (.s (.store 3 (.tmp 4) (.tmp 13))), none⟩, ⟨(some 5), (.q (.move (.const (.bool false)))), none⟩]) .ret) .skip)) 
    (.seq 
    (.region [⟨(some 14), (.q (.fieldAddr 2 (.tmp 2))), none⟩, ⟨(some 15), (.q (.load false 1 (.tmp 14))), none⟩, ⟨(some 16), (.q (.move (.tmp 6))), none⟩, ⟨(some 17), (.q (.idxSl 3 (.tmp 15) (.tmp 16))), none⟩, ⟨(some 18), (.q (.load true 3 (.tmp 17))), none⟩, ⟨none, (.s (.store 3 (.tmp 4) (.tmp 18))), none⟩, ⟨(some 5), (.q (.move (.const (.bool true)))), none⟩]) .ret))))
theorem t96 : Told Tryz.prog 96 19 c96 [(.cell 4 true 3), (.tmp 5)] := ⟨Tryz.f96, _, [], Tryz.func96, rfl, by kernel_rfl, rfl, by kernel_rfl, by kernel_rfl⟩
def c148 : ACode := 
    (.seq 
    (.region [⟨(some 2), (.s (.box 25 (.tmp 0))), none⟩, ⟨(some 3), (.q (.move (.const (.bool false)))), none⟩]) 
    (.seq 
    (.region [⟨(some 4), (.q (.fieldAddr 0 (.tmp 2))), none⟩, ⟨(some 5), (.q (.load false 1 (.tmp 4))), none⟩, ⟨(some 6), (.q (.load false 1 (.tmp 1))), none⟩, ⟨(some 7), (.q (.bin .eql (.tmp 5) (.tmp 6))), none⟩, ⟨(some 3), (.q (.move (.tmp 7))), none⟩]) .ret))
theorem t148 : Told Tryz.prog 148 8 c148 [(.tmp 3)] := ⟨Tryz.f148, _, [], Tryz.func148, rfl, by kernel_rfl, rfl, by kernel_rfl, by kernel_rfl⟩
def c62 : ACode := 
    (.seq 
    (.region [⟨(some 2), (.s (.box 25 (.tmp 0))), none⟩, ⟨(some 4), (.s (.alloc 25 [(.str (B [])), .nils, .nils])), none⟩, ⟨(some 5), (.q (.move (.const (.bool false)))), none⟩]) 
    (.seq 
    (.region [⟨(some 11), (.q (.move (.tmp 1))), none⟩, ⟨(some 12), (.s (.call 82 [(.tmp 11)])), none⟩, ⟨(some 10), (.q (.move (.tmp 12))), none⟩, ⟨(some 13), (.q (.extract 0 (.tmp 10))), none⟩, ⟨(some 14), (.q (.extract 1 (.tmp 10))), none⟩, ⟨(some 6), (.q (.move (.tmp 13))), none⟩, ⟨(some 7), (.q (.move (.tmp 14))), none⟩]) 
    (.seq 
    (.seq 
    (.region [⟨(some 15), (.q (.move (.tmp 6))), none⟩, ⟨(some 16), (.q (.len false (.tmp 15))), none⟩, ⟨(some 17), (.q (.move (.const (.int .i64 0)))), none⟩]) 
    (.block 0 
    (.loop 
    (.seq 
    (.region [⟨(some 18), (.q (.bin .lss (.tmp 17) (.tmp 16))), none⟩]) 
    (.seq 
    (.cond (.tmp 18) .skip (.exit 0)) 
    (.seq 
    (.block 1 
    (.seq 
    (.region [⟨(some 19), (.q (.idxSl 1 (.tmp 15) (.tmp 17))), none⟩, ⟨(some 20), (.q (.load false 1 (.tmp 19))), none⟩, ⟨(some 9), (.q (.move (.tmp 20))), none⟩]) 
    (.seq 
    (.region [⟨(some 21), (.q (.move (.tmp 7))), none⟩]) 
    (.cond (.tmp 21) 
    (.region [⟨(some 23), (.q (.load true 3 (.tmp 2))), none⟩, ⟨(some 24), (.q (.move (.tmp 9))), none⟩, ⟨(some 25), (.s (.call 96 [(.tmp 23), (.tmp 24)])), none⟩, ⟨(some 22), (.q (.move (.tmp 25))), none⟩, ⟨(some 26), (.q (.extract 0 (.tmp 22))), none⟩, ⟨(some 27), (.q (.extract 1 (.tmp 22))), none⟩, ⟨none, (.s (.store 3 (.tmp 2) (.tmp 26))), none⟩, ⟨(some 7), (.q (.move (.tmp 27))), none⟩]) .skip)))) 
    (.region [⟨(some 28), (.q (.bin .add (.tmp 17) (.const (.int .i64 1)))), none⟩, ⟨(some 17), (.q (.move (.tmp 28))), none⟩]))))))) 
    (.seq 
    (.seq 
    (.region [⟨(some 29), (.q (.move (.tmp 7))), none⟩, ⟨(some 30), (.q (.un .not (.tmp 29))), none⟩]) 
    (.cond (.tmp 30) 
    (.seq 
    (.region [⟨(some 31), (.q (.build [(.str (B [])), .nils, .nils] [])), none⟩, ⟨none, (.s (.store 3 (.tmp 4) (.tmp 31))), none⟩, ⟨(some 5), (.q (.move (.const (.bool false)))), none⟩]) .ret) .skip)) 
    (.seq 
    (.region [⟨(some 32), (.q (.load true 3 (.tmp 2))), none⟩, ⟨none, (.s (.store 3 (.tmp 4) (.tmp 32))), none⟩, ⟨(some 5), (.q (.move (.const (.bool true)))), none⟩]) .ret)))))
theorem t62 : Told Tryz.prog 62 33 c62 [(.cell 4 true 3), (.tmp 5)] := ⟨Tryz.f62, _, [], Tryz.func62, rfl, by kernel_rfl, rfl, by kernel_rfl, by kernel_rfl⟩
def c75 : ACode := 
    (.seq 
    (.region [⟨(some 2), (.s (.box 25 (.tmp 0))), none⟩, ⟨(some 3), (.s (.box 9 (.tmp 1))), none⟩, ⟨(some 4), (.q (.move (.const (.str (B []))))), none⟩, ⟨(some 5), (.q (.move (.const (.bool false)))), none⟩]) 
    (.seq 
    (.region [⟨(some 7), (.q (.fieldAddr 1 (.tmp 2))), none⟩, ⟨(some 8), (.q (.load false 1 (.tmp 7))), none⟩, ⟨(some 9), (.q (.mkFunc (.func 125) [] [(.tmp 3)])), none⟩, ⟨(some 10), (.s (.call 124 [(.tmp 8), (.tmp 9)])), none⟩, ⟨(some 6), (.q (.move (.tmp 10))), none⟩]) 
    (.seq 
    (.seq 
    (.region [⟨(some 11), (.q (.move (.tmp 6))), none⟩, ⟨(some 12), (.q (.bin .lss (.tmp 11) (.const (.int .i64 0)))), none⟩]) 
    (.cond (.tmp 12) 
    (.seq 
    (.region [⟨(some 4), (.q (.move (.const (.str (B []))))), none⟩, ⟨(some 5), (.q (.move (.const (.bool false)))), none⟩]) .ret) .skip)) 
    (.seq 
    (.region [⟨(some 13), (.q (.fieldAddr 1 (.tmp 2))), none⟩, ⟨(some 14), (.q (.load false 1 (.tmp 13))), none⟩, ⟨(some 15), (.q (.move (.tmp 6))), none⟩, ⟨(some 16), (.q (.idxSl 2 (.tmp 14) (.tmp 15))), none⟩, ⟨(some 17), (.q (.fieldAddr 1 (.tmp 16))), none⟩, ⟨(some 18), (.q (.load false 1 (.tmp 17))), none⟩, ⟨(some 4), (.q (.move (.tmp 18))), none⟩, ⟨(some 5), (.q (.move (.const (.bool true)))), none⟩]) .ret))))
theorem t75 : Told Tryz.prog 75 19 c75 [(.tmp 4), (.tmp 5)] := ⟨Tryz.f75, _, [], Tryz.func75, rfl, by kernel_rfl, rfl, by kernel_rfl, by kernel_rfl⟩
def c125 : ACode := 
    (.seq 
    (.region [⟨(some 2), (.s (.box 55 (.tmp 0))), none⟩, ⟨(some 3), (.q (.move (.const (.bool false)))), none⟩]) 
    (.seq 
    (.region [⟨(some 4), (.q (.fieldAddr 0 (.tmp 2))), none⟩, ⟨(some 5), (.q (.load false 1 (.tmp 4))), none⟩, ⟨(some 6), (.q (.load false 1 (.tmp 1))), none⟩, ⟨(some 7), (.q (.bin .eql (.tmp 5) (.tmp 6))), none⟩, ⟨(some 3), (.q (.move (.tmp 7))), none⟩]) .ret))
theorem t125 : Told Tryz.prog 125 8 c125 [(.tmp 3)] := ⟨Tryz.f125, _, [], Tryz.func125, rfl, by kernel_rfl, rfl, by kernel_rfl, by kernel_rfl⟩
def c84 : ACode := 
    (.seq 
    (.region [⟨(some 3), (.s (.box 25 (.tmp 0))), none⟩, ⟨(some 6), (.q (.move (.const (.str (B []))))), none⟩, ⟨(some 7), (.q (.move (.const (.bool false)))), none⟩]) 
    (.seq 
    (.region [⟨(some 13), (.q (.load true 3 (.tmp 3))), none⟩, ⟨(some 14), (.q (.move (.tmp 1))), none⟩, ⟨(some 15), (.s (.call 62 [(.tmp 13), (.tmp 14)])), none⟩, ⟨(some 12), (.q (.move (.tmp 15))), none⟩, ⟨(some 16), (.q (.extract 0 (.tmp 12))), none⟩, ⟨(some 17), (.q (.extract 1 (.tmp 12))), none⟩, ⟨(some 8), (.s (.alloc 25 [(.str (B [])), .nils, .nils])), none⟩, ⟨none, (.s (.store 3 (.tmp 8) (.tmp 16))), none⟩, ⟨(some 9), (.q (.move (.tmp 17))), none⟩]) 
    (.seq 
    (.region [⟨(some 19), (.q (.load true 3 (.tmp 8))), none⟩, ⟨(some 20), (.q (.move (.tmp 2))), none⟩, ⟨(some 21), (.s (.call 75 [(.tmp 19), (.tmp 20)])), none⟩, ⟨(some 18), (.q (.move (.tmp 21))), none⟩, ⟨(some 22), (.q (.extract 0 (.tmp 18))), none⟩, ⟨(some 23), (.q (.extract 1 (.tmp 18))), none⟩, ⟨(some 10), (.q (.move (.tmp 22))), none⟩, ⟨(some 11), (.q (.move (.tmp 23))), none⟩]) 
    (.seq 
    (.region [⟨(some 24), (.q (.move (.tmp 10))), none⟩, ⟨(some 25), (.s (.call 136 [(.tmp 24)])), none⟩, ⟨(some 26), (.q (.extract 0 (.tmp 25))), none⟩, ⟨(some 27), (.q (.extract 1 (.tmp 25))), none⟩, ⟨(some 6), (.q (.move (.tmp 26))), none⟩, ⟨(some 7), (.q (.move (.tmp 27))), none⟩]) .ret))))
theorem t84 : Told Tryz.prog 84 28 c84 [(.tmp 6), (.tmp 7)] := ⟨Tryz.f84, _, [], Tryz.func84, rfl, by kernel_rfl, rfl, by kernel_rfl, by kernel_rfl⟩
def c48 : ACode := 
    (.seq 
    (.region [⟨(some 2), (.q (.move (.const (.str (B []))))), none⟩]) 
    (.seq 
    (.region [⟨(some 3), (.q (.move (.const (.str (B []))))), none⟩]) 
    (.seq 
    (.seq 
    (.region [⟨(some 4), (.q (.move (.const (.int .i64 0)))), none⟩]) 
    (.block 0 
    (.loop 
    (.seq 
    (.seq 
    (.region [⟨(some 5), (.q (.move (.tmp 4))), none⟩, ⟨(some 6), (.q (.move (.tmp 0))), none⟩, ⟨(some 7), (.q (.len false (.tmp 6))), none⟩, ⟨(some 8), (.q (.bin .lss (.tmp 5) (.tmp 7))), none⟩]) 
    (.cond (.tmp 8) .skip (.exit 0))) 
    (.seq 
    (.block 1 
    (.region [⟨(some 11), (.q (.move (.tmp 3))), none⟩, ⟨(some 12), (.q (.bin .add (.tmp 11) (.const (.str (B [47]))))), none⟩, ⟨(some 13), (.q (.move (.tmp 0))), none⟩, ⟨(some 14), (.q (.move (.tmp 4))), none⟩, ⟨(some 15), (.q (.idxSl 1 (.tmp 13) (.tmp 14))), none⟩, ⟨(some 16), (.q (.load false 1 (.tmp 15))), none⟩, ⟨(some 17), (.q (.bin .add (.tmp 12) (.tmp 16))), none⟩, ⟨(some 3), (.q (.move (.tmp 17))), none⟩])) 
    (.region [⟨(some 9), (.q (.move (.tmp 4))), none⟩, ⟨(some 10), (.q (.bin .add (.tmp 9) (.const (.int .i64 1)))), none⟩, ⟨(some 4), (.q (.move (.tmp 10))), none⟩])))))) 
    (.seq 
    (.seq 
    (.region [⟨(some 18), (.q (.move (.tmp 0))), none⟩, ⟨(some 19), (.q (.len false (.tmp 18))), none⟩, ⟨(some 20), (.q (.bin .eql (.tmp 19) (.const (.int .i64 0)))), none⟩]) 
    (.cond (.tmp 20) 
    (.seq 
    (.region [⟨(some 2), (.q (.move (.const (.str (B [47]))))), none⟩]) .ret) .skip)) 
    (.seq 
    (.region [⟨(some 21), (.q (.move (.tmp 3))), none⟩, ⟨(some 2), (.q (.move (.tmp 21))), none⟩]) .ret)))))
theorem t48 : Told Tryz.prog 48 22 c48 [(.tmp 2)] := ⟨Tryz.f48, _, [], Tryz.func48, rfl, by kernel_rfl, rfl, by kernel_rfl, by kernel_rfl⟩
def c47 : ACode := 
    (.seq 
    (.region [⟨(some 2), (.q (.move (.const .nils))), none⟩, ⟨(some 3), (.q (.move (.const (.bool false)))), none⟩]) 
    (.seq 
    (.seq 
    (.region [⟨(some 7), (.q (.move (.tmp 0))), none⟩, ⟨(some 8), (.q (.bin .eql (.tmp 7) (.const (.str (B [47]))))), none⟩]) 
    (.cond (.tmp 8) 
    (.seq 
    (.region [⟨(some 2), (.q (.move (.const .nils))), none⟩, ⟨(some 3), (.q (.move (.const (.bool true)))), none⟩]) .ret) .skip)) 
    (.seq 
    (.seq 
    (.region [⟨(some 9), (.q (.move (.tmp 0))), none⟩, ⟨(some 10), (.q (.bin .eql (.tmp 9) (.const (.str (B []))))), none⟩, ⟨(some 11), (.q (.move (.tmp 10))), none⟩, ⟨(some 12), (.q (.move (.tmp 0))), (some (11, false))⟩, ⟨(some 13), (.q (.idxStr (.tmp 12) (.const (.int .i64 0)))), (some (11, false))⟩, ⟨(some 14), (.q (.bin .neq (.tmp 13) (.const (.int .u8 47)))), (some (11, false))⟩, ⟨(some 15), (.q (.pick (.tmp 11) (.const (.bool true)) (.tmp 14))), none⟩]) 
    (.cond (.tmp 15) 
    (.seq 
    (.region [⟨(some 2), (.q (.move (.const .nils))), none⟩, ⟨(some 3), (.q (.move (.const (.bool false)))), none⟩]) .ret) .skip)) 
    (.seq 
    (.region [⟨(some 4), (.q (.move (.const .nils))), none⟩]) 
    (.seq 
    (.region [⟨(some 5), (.q (.move (.const (.int .i64 1)))), none⟩]) 
    (.seq 
    (.seq 
    (.region [⟨(some 6), (.q (.move (.const (.int .i64 1)))), none⟩]) 
    (.block 0 
    (.loop 
    (.seq 
    (.seq 
    (.region [⟨(some 16), (.q (.move (.tmp 6))), none⟩, ⟨(some 17), (.q (.move (.tmp 0))), none⟩, ⟨(some 18), (.q (.len true (.tmp 17))), none⟩, ⟨(some 19), (.q (.bin .leq (.tmp 16) (.tmp 18))), none⟩]) 
    (.cond (.tmp 19) .skip (.exit 0))) 
    (.seq 
    (.block 1 
    (.seq 
    (.seq 
    (.region [⟨(some 22), (.q (.move (.tmp 6))), none⟩, ⟨(some 23), (.q (.move (.tmp 0))), none⟩, ⟨(some 24), (.q (.len true (.tmp 23))), none⟩, ⟨(some 25), (.q (.bin .lss (.tmp 22) (.tmp 24))), none⟩, ⟨(some 26), (.q (.move (.tmp 25))), none⟩, ⟨(some 27), (.q (.move (.tmp 0))), (some (26, true))⟩, ⟨(some 28), (.q (.move (.tmp 6))), (some (26, true))⟩, ⟨(some 29), (.q (.idxStr (.tmp 27) (.tmp 28))), (some (26, true))⟩, ⟨(some 30), (.q (.bin .neq (.tmp 29) (.const (.int .u8 47)))), (some (26, true))⟩, ⟨(some 31), (.q (.pick (.tmp 26) (.tmp 30) (.const (.bool false)))), none⟩]) 
    (.cond (.tmp 31) (.exit 1) .skip)) 
    (.seq 
    (.seq 
    (.region [⟨(some 32), (.q (.move (.tmp 6))), none⟩, ⟨(some 33), (.q (.move (.tmp 5))), none⟩, ⟨(some 34), (.q (.bin .eql (.tmp 32) (.tmp 33))), none⟩, ⟨(some 35), (.q (.move (.tmp 34))), none⟩, ⟨(some 36), (.q (.move (.tmp 4))), (some (35, false))⟩, ⟨(some 37), (.q (.len false (.tmp 36))), (some (35, false))⟩, ⟨(some 38), (.q (.bin .eql (.tmp 37) (.const (.int .i64 7)))), (some (35, false))⟩, ⟨(some 39), (.q (.pick (.tmp 35) (.const (.bool true)) (.tmp 38))), none⟩]) 
    (.cond (.tmp 39) 
    (.seq 
    (.region [⟨(some 2), (.q (.move (.const .nils))), none⟩, ⟨(some 3), (.q (.move (.const (.bool false)))), none⟩]) .ret) .skip)) 
    (.seq 
    (.region [⟨(some 40), (.q (.move (.tmp 4))), none⟩, ⟨(some 41), (.q (.move (.tmp 0))), none⟩, ⟨(some 42), (.q (.move (.tmp 5))), none⟩, ⟨(some 43), (.q (.move (.tmp 6))), none⟩, ⟨(some 44), (.q (.sliceStr (.tmp 41) (some (.tmp 42)) (some (.tmp 43)))), none⟩, ⟨(some 45), (.s (.lit 9 1 [(.tmp 44)])), none⟩, ⟨(some 46), (.s (.app 9 1 16 (.tmp 40) (.tmp 45))), none⟩, ⟨(some 4), (.q (.move (.tmp 46))), none⟩]) 
    (.region [⟨(some 47), (.q (.move (.tmp 6))), none⟩, ⟨(some 48), (.q (.bin .add (.tmp 47) (.const (.int .i64 1)))), none⟩, ⟨(some 5), (.q (.move (.tmp 48))), none⟩]))))) 
    (.region [⟨(some 20), (.q (.move (.tmp 6))), none⟩, ⟨(some 21), (.q (.bin .add (.tmp 20) (.const (.int .i64 1)))), none⟩, ⟨(some 6), (.q (.move (.tmp 21))), none⟩])))))) 
    (.seq 
    (.region [⟨(some 49), (.q (.move (.tmp 4))), none⟩, ⟨(some 2), (.q (.move (.tmp 49))), none⟩, ⟨(some 3), (.q (.move (.const (.bool true)))), none⟩]) .ret)))))))
theorem t47 : Told Tryz.prog 47 50 c47 [(.tmp 2), (.tmp 3)] := ⟨Tryz.f47, _, [], Tryz.func47, rfl, by kernel_rfl, rfl, by kernel_rfl, by kernel_rfl⟩
def c56 : ACode := 
    (.seq 
    (.region [⟨(some 2), (.s (.box 25 (.tmp 0))), none⟩, ⟨(some 4), (.s (.alloc 25 [(.str (B [])), .nils, .nils])), none⟩, ⟨(some 5), (.q (.move (.const (.bool false)))), none⟩]) 
    (.seq 
    (.seq 
    (.region [⟨(some 6), (.q (.move (.const (.int .i64 0)))), none⟩]) 
    (.block 0 
    (.loop 
    (.seq 
    (.seq 
    (.region [⟨(some 7), (.q (.move (.tmp 6))), none⟩, ⟨(some 8), (.q (.fieldAddr 2 (.tmp 2))), none⟩, ⟨(some 9), (.q (.load false 1 (.tmp 8))), none⟩, ⟨(some 10), (.q (.len false (.tmp 9))), none⟩, ⟨(some 11), (.q (.bin .lss (.tmp 7) (.tmp 10))), none⟩]) 
    (.cond (.tmp 11) .skip (.exit 0))) 
    (.seq 
    (.block 1 
    (.seq 
    (.region [⟨(some 14), (.q (.fieldAddr 2 (.tmp 2))), none⟩, ⟨(some 15), (.q (.load false 1 (.tmp 14))), none⟩, ⟨(some 16), (.q (.move (.tmp 6))), none⟩, ⟨(some 17), (.q (.idxSl 3 (.tmp 15) (.tmp 16))), none⟩, ⟨(some 18), (.q (.fieldAddr 0 (.tmp 17))), none⟩, ⟨(some 19), (.q (.load false 1 (.tmp 18))), none⟩, ⟨(some 20), (.q (.move (.tmp 1))), none⟩, ⟨(some 21), (.q (.bin .eql (.tmp 19) (.tmp 20))), none⟩]) 
    (.cond (.tmp 21) 
    (.seq 
    (.region [⟨(some 22), (.q (.fieldAddr 2 (.tmp 2))), none⟩, ⟨(some 23), (.q (.load false 1 (.tmp 22))), none⟩, ⟨(some 24), (.q (.move (.tmp 6))), none⟩, ⟨(some 25), (.q (.idxSl 3 (.tmp 23) (.tmp 24))), none⟩, ⟨(some 26), (.q (.load true 3 (.tmp 25))), none⟩, ⟨none, (.s (.store 3 (.tmp 4) (.tmp 26))), none⟩, ⟨(some 5), (.q (.move (.const (.bool true)))), none⟩]) .ret) .skip))) 
    (.region [⟨(some 12), (.q (.move (.tmp 6))), none⟩, ⟨(some 13), (.q (.bin .add (.tmp 12) (.const (.int .i64 1)))), none⟩, ⟨(some 6), (.q (.move (.tmp 13))), none⟩])))))) 
    (.seq 
    (.region [⟨(some 27), (.q (.build [(.str (B [])), .nils, .nils] [])), none⟩, ⟨none, (.s (.store 3 (.tmp 4) (.tmp 27))), none⟩, ⟨(some 5), (.q (.move (.const (.bool false)))), none⟩]) .ret)))
theorem t56 : Told Tryz.prog 56 28 c56 [(.cell 4 true 3), (.tmp 5)] := ⟨Tryz.f56, _, [], Tryz.func56, rfl, by kernel_rfl, rfl, by kernel_rfl, by kernel_rfl⟩
def c26 : ACode := 
    (.seq 
    (.region [⟨(some 2), (.s (.box 25 (.tmp 0))), none⟩, ⟨(some 4), (.s (.alloc 25 [(.str (B [])), .nils, .nils])), none⟩, ⟨(some 5), (.q (.move (.const (.bool false)))), none⟩]) 
    (.seq 
    (.region [⟨(some 12), (.q (.move (.tmp 1))), none⟩, ⟨(some 13), (.s (.call 47 [(.tmp 12)])), none⟩, ⟨(some 11), (.q (.move (.tmp 13))), none⟩, ⟨(some 14), (.q (.extract 0 (.tmp 11))), none⟩, ⟨(some 15), (.q (.extract 1 (.tmp 11))), none⟩, ⟨(some 6), (.q (.move (.tmp 14))), none⟩, ⟨(some 7), (.q (.move (.tmp 15))), none⟩]) 
    (.seq 
    (.seq 
    (.region [⟨(some 16), (.q (.move (.tmp 7))), none⟩, ⟨(some 17), (.q (.un .not (.tmp 16))), none⟩]) 
    (.cond (.tmp 17) 
    (.seq 
    (.region [⟨(some 18), (.q (.build [(.str (B [])), .nils, .nils] [])), none⟩, ⟨none, (.s (.store 3 (.tmp 4) (.tmp 18))), none⟩, ⟨(some 5), (.q (.move (.const (.bool false)))), none⟩]) .ret) .skip)) 
    (.seq 
    (.seq 
    (.region [⟨(some 8), (.q (.move (.const (.int .i64 0)))), none⟩]) 
    (.block 0 
    (.loop 
    (.seq 
    (.seq 
    (.region [⟨(some 19), (.q (.move (.tmp 8))), none⟩, ⟨(some 20), (.q (.move (.tmp 6))), none⟩, ⟨(some 21), (.q (.len false (.tmp 20))), none⟩, ⟨(some 22), (.q (.bin .lss (.tmp 19) (.tmp 21))), none⟩]) 
    (.cond (.tmp 22) .skip (.exit 0))) 
    (.seq 
    (.block 1 
    (.seq 
    (.regionN 10 [⟨(some 26), (.q (.load true 3 (.tmp 2))), none⟩, ⟨(some 27), (.q (.move (.tmp 6))), none⟩, ⟨(some 28), (.q (.move (.tmp 8))), none⟩, ⟨(some 29), (.q (.idxSl 1 (.tmp 27) (.tmp 28))), none⟩, ⟨(some 30), (.q (.load false 1 (.tmp 29))), none⟩, ⟨(some 9), (.q (.move (.const .top))), none⟩, ⟨(some 31), (.s (.call 56 [(.tmp 26), (.tmp 30)])), none⟩, ⟨(some 25), (.q (.move (.tmp 31))), none⟩, ⟨(some 32), (.q (.extract 0 (.tmp 25))), none⟩, ⟨(some 33), (.q (.extract 1 (.tmp 25))), none⟩, ⟨(some 9), (.s (.put 25 3 (.tmp 32))), none⟩, ⟨(some 10), (.q (.move (.tmp 33))), none⟩]) 
    (.seq 
    (.seq 
    (.region [⟨(some 34), (.q (.move (.tmp 10))), none⟩, ⟨(some 35), (.q (.un .not (.tmp 34))), none⟩]) 
    (.cond (.tmp 35) 
    (.seq 
    (.region [⟨(some 36), (.q (.build [(.str (B [])), .nils, .nils] [])), none⟩, ⟨none, (.s (.store 3 (.tmp 4) (.tmp 36))), none⟩, ⟨(some 5), (.q (.move (.const (.bool false)))), none⟩]) .ret) .skip)) 
    (.region [⟨(some 37), (.q (.load true 3 (.tmp 9))), none⟩, ⟨none, (.s (.store 3 (.tmp 2) (.tmp 37))), none⟩])))) 
    (.region [⟨(some 23), (.q (.move (.tmp 8))), none⟩, ⟨(some 24), (.q (.bin .add (.tmp 23) (.const (.int .i64 1)))), none⟩, ⟨(some 8), (.q (.move (.tmp 24))), none⟩])))))) 
    (.seq 
    (.region [⟨(some 38), (.q (.load true 3 (.tmp 2))), none⟩, ⟨none, (.s (.store 3 (.tmp 4) (.tmp 38))), none⟩, ⟨(some 5), (.q (.move (.const (.bool true)))), none⟩]) .ret)))))
theorem t26 : Told Tryz.prog 26 39 c26 [(.cell 4 true 3), (.tmp 5)] := ⟨Tryz.f26, _, [], Tryz.func26, rfl, by kernel_rfl, rfl, by kernel_rfl, by kernel_rfl⟩
def c27 : ACode := 
    (.seq 
    (.region [⟨(some 2), (.s (.box 25 (.tmp 0))), none⟩, ⟨(some 4), (.q (.move (.const (.str (B []))))), none⟩, ⟨(some 5), (.q (.move (.const (.bool false)))), none⟩]) 
    (.seq 
    (.seq 
    (.region [⟨(some 6), (.q (.move (.const (.int .i64 0)))), none⟩]) 
    (.block 0 
    (.loop 
    (.seq 
    (.seq 
    (.region [⟨(some 7), (.q (.move (.tmp 6))), none⟩, ⟨(some 8), (.q (.fieldAddr 1 (.tmp 2))), none⟩, ⟨(some 9), (.q (.load false 1 (.tmp 8))), none⟩, ⟨(some 10), (.q (.len false (.tmp 9))), none⟩, ⟨(some 11), (.q (.bin .lss (.tmp 7) (.tmp 10))), none⟩]) 
    (.cond (.tmp 11) .skip (.exit 0))) 
    (.seq 
    (.block 1 
    (.seq 
    (.region [⟨(some 14), (.q (.fieldAddr 1 (.tmp 2))), none⟩, ⟨(some 15), (.q (.load false 1 (.tmp 14))), none⟩, ⟨(some 16), (.q (.move (.tmp 6))), none⟩, ⟨(some 17), (.q (.idxSl 2 (.tmp 15) (.tmp 16))), none⟩, ⟨(some 18), (.q (.fieldAddr 0 (.tmp 17))), none⟩, ⟨(some 19), (.q (.load false 1 (.tmp 18))), none⟩, ⟨(some 20), (.q (.move (.tmp 1))), none⟩, ⟨(some 21), (.q (.bin .eql (.tmp 19) (.tmp 20))), none⟩]) 
    (.cond (.tmp 21) 
    (.seq 
    (.region [⟨(some 22), (.q (.fieldAddr 1 (.tmp 2))), none⟩, ⟨(some 23), (.q (.load false 1 (.tmp 22))), none⟩, ⟨(some 24), (.q (.move (.tmp 6))), none⟩, ⟨(some 25), (.q (.idxSl 2 (.tmp 23) (.tmp 24))), none⟩, ⟨(some 26), (.q (.fieldAddr 1 (.tmp 25))), none⟩, ⟨(some 27), (.q (.load false 1 (.tmp 26))), none⟩, ⟨(some 4), (.q (.move (.tmp 27))), none⟩, ⟨(some 5), (.q (.move (.const (.bool true)))), none⟩]) .ret) .skip))) 
    (.region [⟨(some 12), (.q (.move (.tmp 6))), none⟩, ⟨(some 13), (.q (.bin .add (.tmp 12) (.const (.int .i64 1)))), none⟩, ⟨(some 6), (.q (.move (.tmp 13))), none⟩])))))) 
    (.seq 
    (.region [⟨(some 4), (.q (.move (.const (.str (B []))))), none⟩, ⟨(some 5), (.q (.move (.const (.bool false)))), none⟩]) .ret)))
theorem t27 : Told Tryz.prog 27 28 c27 [(.tmp 4), (.tmp 5)] := ⟨Tryz.f27, _, [], Tryz.func27, rfl, by kernel_rfl, rfl, by kernel_rfl, by kernel_rfl⟩
def c226 : ACode := 
    (.seq 
    (.region [⟨(some 4), (.q (.move (.const (.bool false)))), none⟩]) 
    (.seq 
    (.region [⟨(some 5), (.q (.move (.tmp 0))), none⟩, ⟨(some 6), (.q (.len true (.tmp 5))), none⟩, ⟨(some 7), (.q (.move (.tmp 1))), none⟩, ⟨(some 8), (.q (.len true (.tmp 7))), none⟩, ⟨(some 9), (.q (.bin .geq (.tmp 6) (.tmp 8))), none⟩, ⟨(some 10), (.q (.move (.tmp 9))), none⟩, ⟨(some 11), (.q (.move (.tmp 0))), (some (10, true))⟩, ⟨(some 12), (.q (.move (.tmp 0))), (some (10, true))⟩, ⟨(some 13), (.q (.len true (.tmp 12))), (some (10, true))⟩, ⟨(some 14), (.q (.move (.tmp 1))), (some (10, true))⟩, ⟨(some 15), (.q (.len true (.tmp 14))), (some (10, true))⟩, ⟨(some 16), (.q (.bin .sub (.tmp 13) (.tmp 15))), (some (10, true))⟩, ⟨(some 17), (.q (.sliceStr (.tmp 11) (some (.tmp 16)) none)), (some (10, true))⟩, ⟨(some 18), (.q (.move (.tmp 1))), (some (10, true))⟩, ⟨(some 19), (.q (.bin .eql (.tmp 17) (.tmp 18))), (some (10, true))⟩, ⟨(some 20), (.q (.pick (.tmp 10) (.tmp 19) (.const (.bool false)))), none⟩, ⟨(some 4), (.q (.move (.tmp 20))), none⟩]) .ret))
theorem t226 : Told Tryz.prog 226 21 c226 [(.tmp 4)] := ⟨Tryz.f226, _, [], Tryz.func226, rfl, by kernel_rfl, rfl, by kernel_rfl, by kernel_rfl⟩
def c59 : ACode := 
    (.seq 
    (.region [⟨(some 2), (.s (.box 25 (.tmp 0))), none⟩, ⟨(some 4), (.q (.move (.const (.bool false)))), none⟩]) 
    (.seq 
    (.seq 
    (.region [⟨(some 7), (.q (.move (.tmp 1))), none⟩, ⟨(some 8), (.q (.bin .eql (.tmp 7) (.const (.int .i64 0)))), none⟩, ⟨(some 9), (.q (.move (.tmp 8))), none⟩, ⟨(some 10), (.q (.fieldAddr 0 (.tmp 2))), (some (9, false))⟩, ⟨(some 11), (.q (.load false 1 (.tmp 10))), (some (9, false))⟩, ⟨(some 12), (.q (.len true (.tmp 11))), (some (9, false))⟩, ⟨(some 13), (.q (.bin .gtr (.tmp 12) (.const (.int .i64 100)))), (some (9, false))⟩, ⟨(some 14), (.q (.pick (.tmp 9) (.const (.bool true)) (.tmp 13))), none⟩, ⟨(some 15), (.q (.move (.tmp 14))), none⟩, ⟨(some 16), (.q (.fieldAddr 1 (.tmp 2))), (some (15, false))⟩, ⟨(some 17), (.q (.load false 1 (.tmp 16))), (some (15, false))⟩, ⟨(some 18), (.q (.len false (.tmp 17))), (some (15, false))⟩, ⟨(some 19), (.q (.bin .gtr (.tmp 18) (.const (.int .i64 300)))), (some (15, false))⟩, ⟨(some 20), (.q (.pick (.tmp 15) (.const (.bool true)) (.tmp 19))), none⟩, ⟨(some 21), (.q (.move (.tmp 20))), none⟩, ⟨(some 22), (.q (.fieldAddr 2 (.tmp 2))), (some (21, false))⟩, ⟨(some 23), (.q (.load false 1 (.tmp 22))), (some (21, false))⟩, ⟨(some 24), (.q (.len false (.tmp 23))), (some (21, false))⟩, ⟨(some 25), (.q (.bin .gtr (.tmp 24) (.const (.int .i64 80)))), (some (21, false))⟩, ⟨(some 26), (.q (.pick (.tmp 21) (.const (.bool true)) (.tmp 25))), none⟩]) 
    (.cond (.tmp 26) 
    (.seq 
    (.region [⟨(some 4), (.q (.move (.const (.bool false)))), none⟩]) .ret) .skip)) 
    (.seq 
    (.seq 
    (.region [⟨(some 5), (.q (.move (.const (.int .i64 0)))), none⟩]) 
    (.block 0 
    (.loop 
    (.seq 
    (.seq 
    (.region [⟨(some 27), (.q (.move (.tmp 5))), none⟩, ⟨(some 28), (.q (.fieldAddr 1 (.tmp 2))), none⟩, ⟨(some 29), (.q (.load false 1 (.tmp 28))), none⟩, ⟨(some 30), (.q (.len false (.tmp 29))), none⟩, ⟨(some 31), (.q (.bin .lss (.tmp 27) (.tmp 30))), none⟩]) 
    (.cond (.tmp 31) .skip (.exit 0))) 
    (.seq 
    (.block 1 
    (.seq 
    (.region [⟨(some 34), (.q (.fieldAddr 1 (.tmp 2))), none⟩, ⟨(some 35), (.q (.load false 1 (.tmp 34))), none⟩, ⟨(some 36), (.q (.move (.tmp 5))), none⟩, ⟨(some 37), (.q (.idxSl 2 (.tmp 35) (.tmp 36))), none⟩, ⟨(some 38), (.q (.fieldAddr 0 (.tmp 37))), none⟩, ⟨(some 39), (.q (.load false 1 (.tmp 38))), none⟩, ⟨(some 40), (.q (.len true (.tmp 39))), none⟩, ⟨(some 41), (.q (.bin .gtr (.tmp 40) (.const (.int .i64 100)))), none⟩, ⟨(some 42), (.q (.move (.tmp 41))), none⟩, ⟨(some 43), (.q (.fieldAddr 1 (.tmp 2))), (some (42, false))⟩, ⟨(some 44), (.q (.load false 1 (.tmp 43))), (some (42, false))⟩, ⟨(some 45), (.q (.move (.tmp 5))), (some (42, false))⟩, ⟨(some 46), (.q (.idxSl 2 (.tmp 44) (.tmp 45))), (some (42, false))⟩, ⟨(some 47), (.q (.fieldAddr 1 (.tmp 46))), (some (42, false))⟩, ⟨(some 48), (.q (.load false 1 (.tmp 47))), (some (42, false))⟩, ⟨(some 49), (.q (.len true (.tmp 48))), (some (42, false))⟩, ⟨(some 50), (.q (.bin .gtr (.tmp 49) (.const (.int .i64 300)))), (some (42, false))⟩, ⟨(some 51), (.q (.pick (.tmp 42) (.const (.bool true)) (.tmp 50))), none⟩]) 
    (.cond (.tmp 51) 
    (.seq 
    (.region [⟨(some 4), (.q (.move (.const (.bool false)))), none⟩]) .ret) .skip))) 
    (.region [⟨(some 32), (.q (.move (.tmp 5))), none⟩, ⟨(some 33), (.q (.bin .add (.tmp 32) (.const (.int .i64 1)))), none⟩, ⟨(some 5), (.q (.move (.tmp 33))), none⟩])))))) 
    (.seq 
    (.seq 
    (.region [⟨(some 6), (.q (.move (.const (.int .i64 0)))), none⟩]) 
    (.block 2 
    (.loop 
    (.seq 
    (.seq 
    (.region [⟨(some 52), (.q (.move (.tmp 6))), none⟩, ⟨(some 53), (.q (.fieldAddr 2 (.tmp 2))), none⟩, ⟨(some 54), (.q (.load false 1 (.tmp 53))), none⟩, ⟨(some 55), (.q (.len false (.tmp 54))), none⟩, ⟨(some 56), (.q (.bin .lss (.tmp 52) (.tmp 55))), none⟩]) 
    (.cond (.tmp 56) .skip (.exit 2))) 
    (.seq 
    (.block 3 
    (.seq 
    (.region [⟨(some 59), (.q (.fieldAddr 2 (.tmp 2))), none⟩, ⟨(some 60), (.q (.load false 1 (.tmp 59))), none⟩, ⟨(some 61), (.q (.move (.tmp 6))), none⟩, ⟨(some 62), (.q (.idxSl 3 (.tmp 60) (.tmp 61))), none⟩, ⟨(some 63), (.q (.load true 3 (.tmp 62))), none⟩, ⟨(some 64), (.q (.move (.tmp 1))), none⟩, ⟨(some 65), (.q (.bin .sub (.tmp 64) (.const (.int .i64 1)))), none⟩, ⟨(some 66), (.s (.call 59 [(.tmp 63), (.tmp 65)])), none⟩, ⟨(some 67), (.q (.un .not (.tmp 66))), none⟩]) 
    (.cond (.tmp 67) 
    (.seq 
    (.region [⟨(some 4), (.q (.move (.const (.bool false)))), none⟩]) .ret) .skip))) 
    (.region [⟨(some 57), (.q (.move (.tmp 6))), none⟩, ⟨(some 58), (.q (.bin .add (.tmp 57) (.const (.int .i64 1)))), none⟩, ⟨(some 6), (.q (.move (.tmp 58))), none⟩])))))) 
    (.seq 
    (.region [⟨(some 4), (.q (.move (.const (.bool true)))), none⟩]) .ret)))))
theorem t59 : Told Tryz.prog 59 68 c59 [(.tmp 4)] := ⟨Tryz.f59, _, [], Tryz.func59, rfl, by kernel_rfl, rfl, by kernel_rfl, by kernel_rfl⟩
def c60 : ACode := 
    (.seq 
    (.region [⟨(some 2), (.s (.box 25 (.tmp 0))), none⟩, ⟨(some 4), (.q (.move (.const (.int .i64 0)))), none⟩]) 
    (.seq 
    (.seq 
    (.region [⟨(some 7), (.q (.move (.tmp 1))), none⟩, ⟨(some 8), (.q (.bin .eql (.tmp 7) (.const (.int .i64 0)))), none⟩]) 
    (.cond (.tmp 8) 
    (.seq 
    (.region [⟨(some 4), (.q (.move (.const (.int .i64 0)))), none⟩]) .ret) .skip)) 
    (.seq 
    (.region [⟨(some 9), (.q (.fieldAddr 1 (.tmp 2))), none⟩, ⟨(some 10), (.q (.load false 1 (.tmp 9))), none⟩, ⟨(some 11), (.q (.len false (.tmp 10))), none⟩, ⟨(some 12), (.q (.bin .add (.const (.int .i64 1)) (.tmp 11))), none⟩, ⟨(some 5), (.q (.move (.tmp 12))), none⟩]) 
    (.seq 
    (.seq 
    (.region [⟨(some 6), (.q (.move (.const (.int .i64 0)))), none⟩]) 
    (.block 0 
    (.loop 
    (.seq 
    (.seq 
    (.region [⟨(some 13), (.q (.move (.tmp 6))), none⟩, ⟨(some 14), (.q (.fieldAddr 2 (.tmp 2))), none⟩, ⟨(some 15), (.q (.load false 1 (.tmp 14))), none⟩, ⟨(some 16), (.q (.len false (.tmp 15))), none⟩, ⟨(some 17), (.q (.bin .lss (.tmp 13) (.tmp 16))), none⟩, ⟨(some 18), (.q (.move (.tmp 17))), none⟩, ⟨(some 19), (.q (.move (.tmp 5))), (some (18, true))⟩, ⟨(some 20), (.q (.bin .lss (.tmp 19) (.const (.int .i64 1000)))), (some (18, true))⟩, ⟨(some 21), (.q (.pick (.tmp 18) (.tmp 20) (.const (.bool false)))), none⟩]) 
    (.cond (.tmp 21) .skip (.exit 0))) 
    (.seq 
    (.block 1 
    (.region [⟨(some 24), (.q (.move (.tmp 5))), none⟩, ⟨(some 25), (.q (.fieldAddr 2 (.tmp 2))), none⟩, ⟨(some 26), (.q (.load false 1 (.tmp 25))), none⟩, ⟨(some 27), (.q (.move (.tmp 6))), none⟩, ⟨(some 28), (.q (.idxSl 3 (.tmp 26) (.tmp 27))), none⟩, ⟨(some 29), (.q (.load true 3 (.tmp 28))), none⟩, ⟨(some 30), (.q (.move (.tmp 1))), none⟩, ⟨(some 31), (.q (.bin .sub (.tmp 30) (.const (.int .i64 1)))), none⟩, ⟨(some 32), (.s (.call 60 [(.tmp 29), (.tmp 31)])), none⟩, ⟨(some 33), (.q (.bin .add (.tmp 24) (.tmp 32))), none⟩, ⟨(some 5), (.q (.move (.tmp 33))), none⟩])) 
    (.region [⟨(some 22), (.q (.move (.tmp 6))), none⟩, ⟨(some 23), (.q (.bin .add (.tmp 22) (.const (.int .i64 1)))), none⟩, ⟨(some 6), (.q (.move (.tmp 23))), none⟩])))))) 
    (.seq 
    (.region [⟨(some 34), (.q (.move (.tmp 5))), none⟩, ⟨(some 4), (.q (.move (.tmp 34))), none⟩]) .ret)))))
theorem t60 : Told Tryz.prog 60 35 c60 [(.tmp 4)] := ⟨Tryz.f60, _, [], Tryz.func60, rfl, by kernel_rfl, rfl, by kernel_rfl, by kernel_rfl⟩
def c20 : ACode := 
    (.seq 
    (.region [⟨(some 1), (.s (.box 25 (.tmp 0))), none⟩, ⟨(some 2), (.q (.move (.const (.bool false)))), none⟩]) 
    (.seq 
    (.region [⟨(some 3), (.q (.load true 3 (.tmp 1))), none⟩, ⟨(some 4), (.s (.call 59 [(.tmp 3), (.const (.int .i64 12))])), none⟩, ⟨(some 5), (.q (.move (.tmp 4))), none⟩, ⟨(some 6), (.q (.load true 3 (.tmp 1))), (some (5, true))⟩, ⟨(some 7), (.s (.call 60 [(.tmp 6), (.const (.int .i64 12))])), (some (5, true))⟩, ⟨(some 8), (.q (.bin .leq (.tmp 7) (.const (.int .i64 400)))), (some (5, true))⟩, ⟨(some 9), (.q (.pick (.tmp 5) (.tmp 8) (.const (.bool false)))), none⟩, ⟨(some 2), (.q (.move (.tmp 9))), none⟩]) .ret))
theorem t20 : Told Tryz.prog 20 10 c20 [(.tmp 2)] := ⟨Tryz.f20, _, [], Tryz.func20, rfl, by kernel_rfl, rfl, by kernel_rfl, by kernel_rfl⟩
end Go.Proofs.YtmdgjfadbhenjaaGreatDoor.AL
