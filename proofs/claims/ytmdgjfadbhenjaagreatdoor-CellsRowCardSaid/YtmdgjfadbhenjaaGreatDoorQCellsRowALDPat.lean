/- The code of paths, told. -/
import Derived.Test.YtmdgjfadbhenjaaGreatDoorQCellsRowALA3
import Derived.Test.YtmdgjfadbhenjaaGreatDoorProg
import Derived.KernelRfl
set_option maxRecDepth 100000
namespace Go.Proofs.YtmdgjfadbhenjaaGreatDoor.AL
open Go Go.Proofs
def c201 : ACode := 
    (.seq 
    (.region [⟨(some 4), (.q (.move (.const (.bool false)))), none⟩]) 
    (.seq 
    (.region [⟨(some 5), (.q (.move (.tmp 0))), none⟩, ⟨(some 6), (.q (.len true (.tmp 5))), none⟩, ⟨(some 7), (.q (.move (.tmp 1))), none⟩, ⟨(some 8), (.q (.len true (.tmp 7))), none⟩, ⟨(some 9), (.q (.bin .geq (.tmp 6) (.tmp 8))), none⟩, ⟨(some 10), (.q (.move (.tmp 9))), none⟩, ⟨(some 11), (.q (.move (.tmp 0))), (some (10, true))⟩, ⟨(some 12), (.q (.move (.tmp 1))), (some (10, true))⟩, ⟨(some 13), (.q (.len true (.tmp 12))), (some (10, true))⟩, ⟨(some 14), (.q (.sliceStr (.tmp 11) none (some (.tmp 13)))), (some (10, true))⟩, ⟨(some 15), (.q (.move (.tmp 1))), (some (10, true))⟩, ⟨(some 16), (.q (.bin .eql (.tmp 14) (.tmp 15))), (some (10, true))⟩, ⟨(some 17), (.q (.pick (.tmp 10) (.tmp 16) (.const (.bool false)))), none⟩, ⟨(some 4), (.q (.move (.tmp 17))), none⟩]) .ret))
theorem t201 : Told Tryz.prog 201 18 c201 [(.tmp 4)] := ⟨Tryz.f201, _, [], Tryz.func201, rfl, by kernel_rfl, rfl, by kernel_rfl, by kernel_rfl⟩
def c173 : ACode := 
    (.seq 
    (.region [⟨(some 4), (.q (.move (.const (.str (B []))))), none⟩, ⟨(some 5), (.q (.move (.const (.bool false)))), none⟩]) 
    (.seq 
    (.seq 
    (.region [⟨(some 6), (.q (.move (.tmp 0))), none⟩, ⟨(some 7), (.q (.move (.tmp 1))), none⟩, ⟨(some 8), (.s (.call 201 [(.tmp 6), (.tmp 7)])), none⟩, ⟨(some 9), (.q (.un .not (.tmp 8))), none⟩]) 
    (.cond (.tmp 9) 
    (.seq 
    (.region [⟨(some 10), (.q (.move (.tmp 0))), none⟩, ⟨(some 4), (.q (.move (.tmp 10))), none⟩, ⟨(some 5), (.q (.move (.const (.bool false)))), none⟩]) .ret) .skip)) 
    (.seq 
    (.region [⟨(some 11), (.q (.move (.tmp 0))), none⟩, ⟨(some 12), (.q (.move (.tmp 1))), none⟩, ⟨(some 13), (.q (.len true (.tmp 12))), none⟩, ⟨(some 14), (.q (.sliceStr (.tmp 11) (some (.tmp 13)) none)), none⟩, ⟨(some 4), (.q (.move (.tmp 14))), none⟩, ⟨(some 5), (.q (.move (.const (.bool true)))), none⟩]) .ret)))
theorem t173 : Told Tryz.prog 173 15 c173 [(.tmp 4), (.tmp 5)] := ⟨Tryz.f173, _, [], Tryz.func173, rfl, by kernel_rfl, rfl, by kernel_rfl, by kernel_rfl⟩
def c132 : ACode := 
    (.seq 
    (.region [⟨(some 4), (.q (.move (.const (.str (B []))))), none⟩, ⟨(some 5), (.q (.move (.const (.bool false)))), none⟩]) 
    (.seq 
    (.region [⟨(some 6), (.q (.move (.tmp 0))), none⟩, ⟨(some 7), (.q (.move (.tmp 1))), none⟩, ⟨(some 8), (.s (.call 173 [(.tmp 6), (.tmp 7)])), none⟩, ⟨(some 9), (.q (.extract 0 (.tmp 8))), none⟩, ⟨(some 10), (.q (.extract 1 (.tmp 8))), none⟩, ⟨(some 4), (.q (.move (.tmp 9))), none⟩, ⟨(some 5), (.q (.move (.tmp 10))), none⟩]) .ret))
theorem t132 : Told Tryz.prog 132 11 c132 [(.tmp 4), (.tmp 5)] := ⟨Tryz.f132, _, [], Tryz.func132, rfl, by kernel_rfl, rfl, by kernel_rfl, by kernel_rfl⟩
def c175 : ACode := 
    (.seq 
    (.region [⟨(some 4), (.q (.move (.const (.int .i64 0)))), none⟩]) 
    (.seq 
    (.seq 
    (.region [⟨(some 6), (.q (.move (.tmp 0))), none⟩, ⟨(some 7), (.q (.len false (.tmp 6))), none⟩, ⟨(some 8), (.q (.move (.const (.int .i64 0)))), none⟩]) 
    (.block 0 
    (.loop 
    (.seq 
    (.region [⟨(some 9), (.q (.bin .lss (.tmp 8) (.tmp 7))), none⟩]) 
    (.seq 
    (.cond (.tmp 9) .skip (.exit 0)) 
    (.seq 
    (.block 1 
    (.seq 
    (.region [⟨(some 10), (.q (.move (.tmp 8))), none⟩, ⟨(some 5), (.q (.move (.tmp 10))), none⟩]) 
    (.seq 
    (.region [⟨(some 11), (.q (.move (.tmp 1))), none⟩, ⟨(some 12), (.q (.move (.tmp 0))), none⟩, ⟨(some 13), (.q (.move (.tmp 5))), none⟩, ⟨(some 14), (.q (.idxSl 1 (.tmp 12) (.tmp 13))), none⟩, ⟨(some 15), (.q (.load false 1 (.tmp 14))), none⟩, ⟨(some 16), (.q (.bin .eql (.tmp 11) (.tmp 15))), none⟩]) 
    (.cond (.tmp 16) 
    (.seq 
    (.region [⟨(some 17), (.q (.move (.tmp 5))), none⟩, ⟨(some 4), (.q (.move (.tmp 17))), none⟩]) .ret) .skip)))) 
    (.region [⟨(some 18), (.q (.bin .add (.tmp 8) (.const (.int .i64 1)))), none⟩, ⟨(some 8), (.q (.move (.tmp 18))), none⟩]))))))) 
    (.seq 
    (.region [⟨(some 4), (.q (.move (.const (.int .i64 (-1))))), none⟩]) .ret)))
theorem t175 : Told Tryz.prog 175 19 c175 [(.tmp 4)] := ⟨Tryz.f175, _, [], Tryz.func175, rfl, by kernel_rfl, rfl, by kernel_rfl, by kernel_rfl⟩
def c134 : ACode := 
    (.seq 
    (.region [⟨(some 4), (.q (.move (.const (.bool false)))), none⟩]) 
    (.seq 
    (.region [⟨(some 5), (.q (.move (.tmp 0))), none⟩, ⟨(some 6), (.q (.move (.tmp 1))), none⟩, ⟨(some 7), (.s (.call 175 [(.tmp 5), (.tmp 6)])), none⟩, ⟨(some 8), (.q (.bin .geq (.tmp 7) (.const (.int .i64 0)))), none⟩, ⟨(some 4), (.q (.move (.tmp 8))), none⟩]) .ret))
theorem t134 : Told Tryz.prog 134 9 c134 [(.tmp 4)] := ⟨Tryz.f134, _, [], Tryz.func134, rfl, by kernel_rfl, rfl, by kernel_rfl, by kernel_rfl⟩
def c135 : ACode := 
    (.seq 
    (.region [⟨(some 4), (.q (.move (.const (.str (B []))))), none⟩]) 
    (.seq 
    (.seq 
    (.region [⟨(some 11), (.q (.move (.tmp 0))), none⟩, ⟨(some 12), (.q (.len false (.tmp 11))), none⟩]) 
    (.block 0 
    (.seq 
    (.region [⟨(some 14), (.q (.bin .eql (.tmp 12) (.const (.int .i64 0)))), none⟩, ⟨(some 13), (.q (.move (.tmp 14))), none⟩]) 
    (.cond (.tmp 13) 
    (.seq 
    (.region [⟨(some 4), (.q (.move (.const (.str (B []))))), none⟩]) .ret) 
    (.seq 
    (.region [⟨(some 16), (.q (.bin .eql (.tmp 12) (.const (.int .i64 1)))), none⟩, ⟨(some 15), (.q (.move (.tmp 16))), none⟩]) 
    (.cond (.tmp 15) 
    (.seq 
    (.region [⟨(some 17), (.q (.move (.tmp 0))), none⟩, ⟨(some 18), (.q (.idxSl 1 (.tmp 17) (.const (.int .i64 0)))), none⟩, ⟨(some 19), (.q (.load false 1 (.tmp 18))), none⟩, ⟨(some 4), (.q (.move (.tmp 19))), none⟩]) .ret) .skip)))))) 
    (.seq 
    (.region [⟨(some 5), (.q (.move (.const (.int .i64 0)))), none⟩]) 
    (.seq 
    (.seq 
    (.region [⟨(some 20), (.q (.move (.tmp 1))), none⟩, ⟨(some 21), (.q (.len true (.tmp 20))), none⟩, ⟨(some 22), (.q (.bin .gtr (.tmp 21) (.const (.int .i64 0)))), none⟩]) 
    (.cond (.tmp 22) 
    (.seq 
    (.seq 
    (.region [⟨(some 23), (.q (.move (.tmp 1))), none⟩, ⟨(some 24), (.q (.len true (.tmp 23))), none⟩, ⟨(some 25), (.q (.move (.tmp 0))), none⟩, ⟨(some 26), (.q (.len false (.tmp 25))), none⟩, ⟨(some 27), (.q (.bin .sub (.tmp 26) (.const (.int .i64 1)))), none⟩, ⟨(some 28), (.q (.bin .quo (.const (.int .i64 9223372036854775807)) (.tmp 27))), none⟩, ⟨(some 29), (.q (.bin .geq (.tmp 24) (.tmp 28))), none⟩]) 
    (.cond (.tmp 29) 
    (.region [⟨(some 30), (.q (.iface 9 (.const (.str (B [115, 116, 114, 105, 110, 103, 115, 58, 32, 74, 111, 105, 110, 32, 111, 117, 116, 112, 117, 116, 32, 108, 101, 110, 103, 116, 104, 32, 111, 118, 101, 114, 102, 108, 111, 119]))))), none⟩, ⟨none, (.s .stop), none⟩]) .skip)) 
    (.region [⟨(some 31), (.q (.move (.tmp 5))), none⟩, ⟨(some 32), (.q (.move (.tmp 1))), none⟩, ⟨(some 33), (.q (.len true (.tmp 32))), none⟩, ⟨(some 34), (.q (.move (.tmp 0))), none⟩, ⟨(some 35), (.q (.len false (.tmp 34))), none⟩, ⟨(some 36), (.q (.bin .sub (.tmp 35) (.const (.int .i64 1)))), none⟩, ⟨(some 37), (.q (.bin .mul (.tmp 33) (.tmp 36))), none⟩, ⟨(some 38), (.q (.bin .add (.tmp 31) (.tmp 37))), none⟩, ⟨(some 5), (.q (.move (.tmp 38))), none⟩])) .skip)) 
    (.seq 
    (.seq 
    (.region [⟨(some 39), (.q (.move (.tmp 0))), none⟩, ⟨(some 40), (.q (.len false (.tmp 39))), none⟩, ⟨(some 41), (.q (.move (.const (.int .i64 0)))), none⟩]) 
    (.block 1 
    (.loop 
    (.seq 
    (.region [⟨(some 42), (.q (.bin .lss (.tmp 41) (.tmp 40))), none⟩]) 
    (.seq 
    (.cond (.tmp 42) .skip (.exit 1)) 
    (.seq 
    (.block 2 
    (.seq 
    (.region [⟨(some 43), (.q (.idxSl 1 (.tmp 39) (.tmp 41))), none⟩, ⟨(some 44), (.q (.load false 1 (.tmp 43))), none⟩, ⟨(some 7), (.q (.move (.tmp 44))), none⟩]) 
    (.seq 
    (.seq 
    (.region [⟨(some 45), (.q (.move (.tmp 7))), none⟩, ⟨(some 46), (.q (.len true (.tmp 45))), none⟩, ⟨(some 47), (.q (.move (.tmp 5))), none⟩, ⟨(some 48), (.q (.bin .sub (.const (.int .i64 9223372036854775807)) (.tmp 47))), none⟩, ⟨(some 49), (.q (.bin .gtr (.tmp 46) (.tmp 48))), none⟩]) 
    (.cond (.tmp 49) 
    (.region [⟨(some 50), (.q (.iface 9 (.const (.str (B [115, 116, 114, 105, 110, 103, 115, 58, 32, 74, 111, 105, 110, 32, 111, 117, 116, 112, 117, 116, 32, 108, 101, 110, 103, 116, 104, 32, 111, 118, 101, 114, 102, 108, 111, 119]))))), none⟩, ⟨none, (.s .stop), none⟩]) .skip)) 
    (.region [⟨(some 51), (.q (.move (.tmp 5))), none⟩, ⟨(some 52), (.q (.move (.tmp 7))), none⟩, ⟨(some 53), (.q (.len true (.tmp 52))), none⟩, ⟨(some 54), (.q (.bin .add (.tmp 51) (.tmp 53))), none⟩, ⟨(some 5), (.q (.move (.tmp 54))), none⟩])))) 
    (.region [⟨(some 55), (.q (.bin .add (.tmp 41) (.const (.int .i64 1)))), none⟩, ⟨(some 41), (.q (.move (.tmp 55))), none⟩]))))))) 
    (.seq 
    (.region [⟨(some 8), (.s (.alloc 198 [.nilp, .nils])), none⟩]) 
    (.seq 
    (.region [⟨(some 56), (.q (.move (.tmp 5))), none⟩, ⟨(some 57), (.s (.call 176 [(.tmp 8), (.tmp 56)])), none⟩]) 
    (.seq 
    (.region [⟨(some 58), (.q (.move (.tmp 0))), none⟩, ⟨(some 59), (.q (.idxSl 1 (.tmp 58) (.const (.int .i64 0)))), none⟩, ⟨(some 60), (.q (.load false 1 (.tmp 59))), none⟩, ⟨(some 61), (.s (.call 177 [(.tmp 8), (.tmp 60)])), none⟩]) 
    (.seq 
    (.seq 
    (.region [⟨(some 62), (.q (.move (.tmp 0))), none⟩, ⟨(some 63), (.q (.sliceSl 1 (.tmp 62) (some (.const (.int .i64 1))) none)), none⟩, ⟨(some 64), (.q (.len false (.tmp 63))), none⟩, ⟨(some 65), (.q (.move (.const (.int .i64 0)))), none⟩]) 
    (.block 3 
    (.loop 
    (.seq 
    (.region [⟨(some 66), (.q (.bin .lss (.tmp 65) (.tmp 64))), none⟩]) 
    (.seq 
    (.cond (.tmp 66) .skip (.exit 3)) 
    (.seq 
    (.block 4 
    (.seq 
    (.region [⟨(some 67), (.q (.idxSl 1 (.tmp 63) (.tmp 65))), none⟩, ⟨(some 68), (.q (.load false 1 (.tmp 67))), none⟩, ⟨(some 10), (.q (.move (.tmp 68))), none⟩]) 
    (.seq 
    (.region [⟨(some 69), (.q (.move (.tmp 1))), none⟩, ⟨(some 70), (.s (.call 177 [(.tmp 8), (.tmp 69)])), none⟩]) 
    (.region [⟨(some 71), (.q (.move (.tmp 10))), none⟩, ⟨(some 72), (.s (.call 177 [(.tmp 8), (.tmp 71)])), none⟩])))) 
    (.region [⟨(some 73), (.q (.bin .add (.tmp 65) (.const (.int .i64 1)))), none⟩, ⟨(some 65), (.q (.move (.tmp 73))), none⟩]))))))) 
    (.seq 
    (.region [⟨(some 74), (.s (.call 178 [(.tmp 8)])), none⟩, ⟨(some 4), (.q (.move (.tmp 74))), none⟩]) .ret))))))))))
theorem t135 : Told Tryz.prog 135 75 c135 [(.tmp 4)] := ⟨Tryz.f135, _, [], Tryz.func135, rfl, by kernel_rfl, rfl, by kernel_rfl, by kernel_rfl⟩
def c147 : ACode := 
    (.seq 
    (.region [⟨(some 4), (.q (.move (.const (.int .i64 0)))), none⟩]) 
    (.seq 
    (.seq 
    (.region [⟨(some 6), (.q (.move (.tmp 0))), none⟩, ⟨(some 7), (.q (.len false (.tmp 6))), none⟩, ⟨(some 8), (.q (.move (.const (.int .i64 0)))), none⟩]) 
    (.block 0 
    (.loop 
    (.seq 
    (.region [⟨(some 9), (.q (.bin .lss (.tmp 8) (.tmp 7))), none⟩]) 
    (.seq 
    (.cond (.tmp 9) .skip (.exit 0)) 
    (.seq 
    (.block 1 
    (.seq 
    (.region [⟨(some 10), (.q (.move (.tmp 8))), none⟩, ⟨(some 5), (.q (.move (.tmp 10))), none⟩]) 
    (.seq 
    (.region [⟨(some 11), (.q (.move (.tmp 1))), none⟩, ⟨(some 12), (.q (.move (.tmp 0))), none⟩, ⟨(some 13), (.q (.move (.tmp 5))), none⟩, ⟨(some 14), (.q (.idxSl 3 (.tmp 12) (.tmp 13))), none⟩, ⟨(some 15), (.q (.load true 3 (.tmp 14))), none⟩, ⟨(some 16), (.s (.callv (.tmp 11) [(.tmp 15)])), none⟩]) 
    (.cond (.tmp 16) 
    (.seq 
    (.region [⟨(some 17), (.q (.move (.tmp 5))), none⟩, ⟨(some 4), (.q (.move (.tmp 17))), none⟩]) .ret) .skip)))) 
    (.region [⟨(some 18), (.q (.bin .add (.tmp 8) (.const (.int .i64 1)))), none⟩, ⟨(some 8), (.q (.move (.tmp 18))), none⟩]))))))) 
    (.seq 
    (.region [⟨(some 4), (.q (.move (.const (.int .i64 (-1))))), none⟩]) .ret)))
theorem t147 : Told Tryz.prog 147 19 c147 [(.tmp 4)] := ⟨Tryz.f147, _, [], Tryz.func147, rfl, by kernel_rfl, rfl, by kernel_rfl, by kernel_rfl⟩
def c124 : ACode := 
    (.seq 
    (.region [⟨(some 4), (.q (.move (.const (.int .i64 0)))), none⟩]) 
    (.seq 
    (.seq 
    (.region [⟨(some 6), (.q (.move (.tmp 0))), none⟩, ⟨(some 7), (.q (.len false (.tmp 6))), none⟩, ⟨(some 8), (.q (.move (.const (.int .i64 0)))), none⟩]) 
    (.block 0 
    (.loop 
    (.seq 
    (.region [⟨(some 9), (.q (.bin .lss (.tmp 8) (.tmp 7))), none⟩]) 
    (.seq 
    (.cond (.tmp 9) .skip (.exit 0)) 
    (.seq 
    (.block 1 
    (.seq 
    (.region [⟨(some 10), (.q (.move (.tmp 8))), none⟩, ⟨(some 5), (.q (.move (.tmp 10))), none⟩]) 
    (.seq 
    (.region [⟨(some 11), (.q (.move (.tmp 1))), none⟩, ⟨(some 12), (.q (.move (.tmp 0))), none⟩, ⟨(some 13), (.q (.move (.tmp 5))), none⟩, ⟨(some 14), (.q (.idxSl 2 (.tmp 12) (.tmp 13))), none⟩, ⟨(some 15), (.q (.load true 2 (.tmp 14))), none⟩, ⟨(some 16), (.s (.callv (.tmp 11) [(.tmp 15)])), none⟩]) 
    (.cond (.tmp 16) 
    (.seq 
    (.region [⟨(some 17), (.q (.move (.tmp 5))), none⟩, ⟨(some 4), (.q (.move (.tmp 17))), none⟩]) .ret) .skip)))) 
    (.region [⟨(some 18), (.q (.bin .add (.tmp 8) (.const (.int .i64 1)))), none⟩, ⟨(some 8), (.q (.move (.tmp 18))), none⟩]))))))) 
    (.seq 
    (.region [⟨(some 4), (.q (.move (.const (.int .i64 (-1))))), none⟩]) .ret)))
theorem t124 : Told Tryz.prog 124 19 c124 [(.tmp 4)] := ⟨Tryz.f124, _, [], Tryz.func124, rfl, by kernel_rfl, rfl, by kernel_rfl, by kernel_rfl⟩
def c82 : ACode := 
    (.seq 
    (.region [⟨(some 2), (.q (.move (.const .nils))), none⟩, ⟨(some 3), (.q (.move (.const (.bool false)))), none⟩]) 
    (.seq 
    (.seq 
    (.region [⟨(some 7), (.q (.move (.tmp 0))), none⟩, ⟨(some 8), (.q (.bin .eql (.tmp 7) (.const (.str (B [47]))))), none⟩]) 
    (.cond (.tmp 8) 
    (.seq 
    (.region [⟨(some 2), (.q (.move (.const .nils))), none⟩, ⟨(some 3), (.q (.move (.const (.bool true)))), none⟩]) .ret) .skip)) 
    (.seq 
    (.region [⟨(some 10), (.q (.move (.tmp 0))), none⟩, ⟨(some 11), (.s (.call 132 [(.tmp 10), (.const (.str (B [47])))])), none⟩, ⟨(some 9), (.q (.move (.tmp 11))), none⟩, ⟨(some 12), (.q (.extract 0 (.tmp 9))), none⟩, ⟨(some 13), (.q (.extract 1 (.tmp 9))), none⟩, ⟨(some 4), (.q (.move (.tmp 12))), none⟩, ⟨(some 5), (.q (.move (.tmp 13))), none⟩]) 
    (.seq 
    (.region [⟨(some 14), (.q (.move (.tmp 4))), none⟩, ⟨(some 15), (.s (.call 133 [(.tmp 14), (.const (.str (B [47])))])), none⟩, ⟨(some 6), (.q (.move (.tmp 15))), none⟩]) 
    (.seq 
    (.seq 
    (.region [⟨(some 16), (.q (.move (.tmp 5))), none⟩, ⟨(some 17), (.q (.un .not (.tmp 16))), none⟩, ⟨(some 18), (.q (.move (.tmp 17))), none⟩, ⟨(some 19), (.q (.move (.tmp 6))), (some (18, false))⟩, ⟨(some 20), (.q (.len false (.tmp 19))), (some (18, false))⟩, ⟨(some 21), (.q (.bin .geq (.tmp 20) (.const (.int .i64 8)))), (some (18, false))⟩, ⟨(some 22), (.q (.pick (.tmp 18) (.const (.bool true)) (.tmp 21))), none⟩, ⟨(some 23), (.q (.move (.tmp 22))), none⟩, ⟨(some 24), (.q (.move (.tmp 6))), (some (23, false))⟩, ⟨(some 25), (.s (.call 134 [(.tmp 24), (.const (.str (B [])))])), (some (23, false))⟩, ⟨(some 26), (.q (.pick (.tmp 23) (.const (.bool true)) (.tmp 25))), none⟩]) 
    (.cond (.tmp 26) 
    (.seq 
    (.region [⟨(some 2), (.q (.move (.const .nils))), none⟩, ⟨(some 3), (.q (.move (.const (.bool false)))), none⟩]) .ret) .skip)) 
    (.seq 
    (.region [⟨(some 27), (.q (.move (.tmp 6))), none⟩, ⟨(some 2), (.q (.move (.tmp 27))), none⟩, ⟨(some 3), (.q (.move (.const (.bool true)))), none⟩]) .ret))))))
theorem t82 : Told Tryz.prog 82 28 c82 [(.tmp 2), (.tmp 3)] := ⟨Tryz.f82, _, [], Tryz.func82, rfl, by kernel_rfl, rfl, by kernel_rfl, by kernel_rfl⟩
def c83 : ACode := 
    (.seq 
    (.region [⟨(some 2), (.q (.move (.const (.str (B []))))), none⟩]) 
    (.seq 
    (.region [⟨(some 3), (.q (.move (.tmp 0))), none⟩, ⟨(some 4), (.s (.call 135 [(.tmp 3), (.const (.str (B [47])))])), none⟩, ⟨(some 5), (.q (.bin .add (.const (.str (B [47]))) (.tmp 4))), none⟩, ⟨(some 2), (.q (.move (.tmp 5))), none⟩]) .ret))
theorem t83 : Told Tryz.prog 83 6 c83 [(.tmp 2)] := ⟨Tryz.f83, _, [], Tryz.func83, rfl, by kernel_rfl, rfl, by kernel_rfl, by kernel_rfl⟩
def c96 : ACode := 
    (.seq 
    (.region [⟨(some 2), (.s (.box 25 (.tmp 0))), none⟩, ⟨(some 3), (.s (.box 9 (.tmp 1))), none⟩, ⟨(some 4), (.s (.alloc 25 [(.str (B [])), .nils, .nils])), none⟩, ⟨(some 5), (.q (.move (.const (.bool false)))), none⟩]) 
    (.seq 
    (.region [⟨(some 7), (.q (.fieldAddr 2 (.tmp 2))), none⟩, ⟨(some 8), (.q (.load false 1 (.tmp 7))), none⟩, ⟨(some 9), (.q (.mkFunc (.func 148) [] [(.tmp 3)])), none⟩, ⟨(some 10), (.s (.call 147 [(.tmp 8), (.tmp 9)])), none⟩, ⟨(some 6), (.q (.move (.tmp 10))), none⟩]) 
    (.seq 
    (.seq 
    (.region [⟨(some 11), (.q (.move (.tmp 6))), none⟩, ⟨(some 12), (.q (.bin .lss (.tmp 11) (.const (.int .i64 0)))), none⟩]) 
    (.cond (.tmp 12) 
    (.seq 
    (.region [⟨(some 13), (.q (.build [(.str (B [])), .nils, .nils] [])), none⟩, ⟨none, (.s (.store 3 (.tmp 4) (.tmp 13))), none⟩, ⟨(some 5), (.q (.move (.const (.bool false)))), none⟩]) .ret) .skip)) 
    (.seq 
    (.region [⟨(some 14), (.q (.fieldAddr 2 (.tmp 2))), none⟩, ⟨(some 15), (.q (.load false 1 (.tmp 14))), none⟩, ⟨(some 16), (.q (.move (.tmp 6))), none⟩, ⟨(some 17), (.q (.idxSl 3 (.tmp 15) (.tmp 16))), none⟩, ⟨(some 18), (.q (.load true 3 (.tmp 17))), none⟩, ⟨none, (.s (.store 3 (.tmp 4) (.tmp 18))), none⟩, ⟨(some 5), (.q (.move (.const (.bool true)))), none⟩]) .ret))))
theorem t96 : Told Tryz.prog 96 19 c96 [(.cell 4 true 3), (.tmp 5)] := ⟨Tryz.f96, _, [], Tryz.func96, rfl, by kernel_rfl, rfl, by kernel_rfl, by kernel_rfl⟩
def c148 : ACode := 
    (.seq 
    (.region [⟨(some 2), (.s (.box 25 (.tmp 0))), none⟩, ⟨(some 3), (.q (.move (.const (.bool false)))), none⟩]) 
    (.seq 
    (.region [⟨(some 4), (.q (.fieldAddr 0 (.tmp 2))), none⟩, ⟨(some 5), (.q (.load false 1 (.tmp 4))), none⟩, ⟨(some 6), (.q (.load false 1 (.tmp 1))), none⟩, ⟨(some 7), (.q (.bin .eql (.tmp 5) (.tmp 6))), none⟩, ⟨(some 3), (.q (.move (.tmp 7))), none⟩]) .ret))
theorem t148 : Told Tryz.prog 148 8 c148 [(.tmp 3)] := ⟨Tryz.f148, _, [], Tryz.func148, rfl, by kernel_rfl, rfl, by kernel_rfl, by kernel_rfl⟩
def c62 : ACode := 
    (.seq 
    (.region [⟨(some 2), (.s (.box 25 (.tmp 0))), none⟩, ⟨(some 4), (.s (.alloc 25 [(.str (B [])), .nils, .nils])), none⟩, ⟨(some 5), (.q (.move (.const (.bool false)))), none⟩]) 
    (.seq 
    (.region [⟨(some 11), (.q (.move (.tmp 1))), none⟩, ⟨(some 12), (.s (.call 82 [(.tmp 11)])), none⟩, ⟨(some 10), (.q (.move (.tmp 12))), none⟩, ⟨(some 13), (.q (.extract 0 (.tmp 10))), none⟩, ⟨(some 14), (.q (.extract 1 (.tmp 10))), none⟩, ⟨(some 6), (.q (.move (.tmp 13))), none⟩, ⟨(some 7), (.q (.move (.tmp 14))), none⟩]) 
    (.seq 
    (.seq 
    (.region [⟨(some 15), (.q (.move (.tmp 6))), none⟩, ⟨(some 16), (.q (.len false (.tmp 15))), none⟩, ⟨(some 17), (.q (.move (.const (.int .i64 0)))), none⟩]) 
    (.block 0 
    (.loop 
    (.seq 
    (.region [⟨(some 18), (.q (.bin .lss (.tmp 17) (.tmp 16))), none⟩]) 
    (.seq 
    (.cond (.tmp 18) .skip (.exit 0)) 
    (.seq 
    (.block 1 
    (.seq 
    (.region [⟨(some 19), (.q (.idxSl 1 (.tmp 15) (.tmp 17))), none⟩, ⟨(some 20), (.q (.load false 1 (.tmp 19))), none⟩, ⟨(some 9), (.q (.move (.tmp 20))), none⟩]) 
    (.seq 
    (.region [⟨(some 21), (.q (.move (.tmp 7))), none⟩]) 
    (.cond (.tmp 21) 
    (.region [⟨(some 23), (.q (.load true 3 (.tmp 2))), none⟩, ⟨(some 24), (.q (.move (.tmp 9))), none⟩, ⟨(some 25), (.s (.call 96 [(.tmp 23), (.tmp 24)])), none⟩, ⟨(some 22), (.q (.move (.tmp 25))), none⟩, ⟨(some 26), (.q (.extract 0 (.tmp 22))), none⟩, ⟨(some 27), (.q (.extract 1 (.tmp 22))), none⟩, ⟨none, (.s (.store 3 (.tmp 2) (.tmp 26))), none⟩, ⟨(some 7), (.q (.move (.tmp 27))), none⟩]) .skip)))) 
    (.region [⟨(some 28), (.q (.bin .add (.tmp 17) (.const (.int .i64 1)))), none⟩, ⟨(some 17), (.q (.move (.tmp 28))), none⟩]))))))) 
    (.seq 
    (.seq 
    (.region [⟨(some 29), (.q (.move (.tmp 7))), none⟩, ⟨(some 30), (.q (.un .not (.tmp 29))), none⟩]) 
    (.cond (.tmp 30) 
    (.seq 
    (.region [⟨(some 31), (.q (.build [(.str (B [])), .nils, .nils] [])), none⟩, ⟨none, (.s (.store 3 (.tmp 4) (.tmp 31))), none⟩, ⟨(some 5), (.q (.move (.const (.bool false)))), none⟩]) .ret) .skip)) 
    (.seq 
    (.region [⟨(some 32), (.q (.load true 3 (.tmp 2))), none⟩, ⟨none, (.s (.store 3 (.tmp 4) (.tmp 32))), none⟩, ⟨(some 5), (.q (.move (.const (.bool true)))), none⟩]) .ret)))))
theorem t62 : Told Tryz.prog 62 33 c62 [(.cell 4 true 3), (.tmp 5)] := ⟨Tryz.f62, _, [], Tryz.func62, rfl, by kernel_rfl, rfl, by kernel_rfl, by kernel_rfl⟩
def c75 : ACode := 
    (.seq 
    (.region [⟨(some 2), (.s (.box 25 (.tmp 0))), none⟩, ⟨(some 3), (.s (.box 9 (.tmp 1))), none⟩, ⟨(some 4), (.q (.move (.const (.str (B []))))), none⟩, ⟨(some 5), (.q (.move (.const (.bool false)))), none⟩]) 
    (.seq 
    (.region [⟨(some 7), (.q (.fieldAddr 1 (.tmp 2))), none⟩, ⟨(some 8), (.q (.load false 1 (.tmp 7))), none⟩, ⟨(some 9), (.q (.mkFunc (.func 125) [] [(.tmp 3)])), none⟩, ⟨(some 10), (.s (.call 124 [(.tmp 8), (.tmp 9)])), none⟩, ⟨(some 6), (.q (.move (.tmp 10))), none⟩]) 
    (.seq 
    (.seq 
    (.region [⟨(some 11), (.q (.move (.tmp 6))), none⟩, ⟨(some 12), (.q (.bin .lss (.tmp 11) (.const (.int .i64 0)))), none⟩]) 
    (.cond (.tmp 12) 
    (.seq 
    (.region [⟨(some 4), (.q (.move (.const (.str (B []))))), none⟩, ⟨(some 5), (.q (.move (.const (.bool false)))), none⟩]) .ret) .skip)) 
    (.seq 
    (.region [⟨(some 13), (.q (.fieldAddr 1 (.tmp 2))), none⟩, ⟨(some 14), (.q (.load false 1 (.tmp 13))), none⟩, ⟨(some 15), (.q (.move (.tmp 6))), none⟩, ⟨(some 16), (.q (.idxSl 2 (.tmp 14) (.tmp 15))), none⟩, ⟨(some 17), (.q (.fieldAddr 1 (.tmp 16))), none⟩, ⟨(some 18), (.q (.load false 1 (.tmp 17))), none⟩, ⟨(some 4), (.q (.move (.tmp 18))), none⟩, ⟨(some 5), (.q (.move (.const (.bool true)))), none⟩]) .ret))))
theorem t75 : Told Tryz.prog 75 19 c75 [(.tmp 4), (.tmp 5)] := ⟨Tryz.f75, _, [], Tryz.func75, rfl, by kernel_rfl, rfl, by kernel_rfl, by kernel_rfl⟩
def c125 : ACode := 
    (.seq 
    (.region [⟨(some 2), (.s (.box 55 (.tmp 0))), none⟩, ⟨(some 3), (.q (.move (.const (.bool false)))), none⟩]) 
    (.seq 
    (.region [⟨(some 4), (.q (.fieldAddr 0 (.tmp 2))), none⟩, ⟨(some 5), (.q (.load false 1 (.tmp 4))), none⟩, ⟨(some 6), (.q (.load false 1 (.tmp 1))), none⟩, ⟨(some 7), (.q (.bin .eql (.tmp 5) (.tmp 6))), none⟩, ⟨(some 3), (.q (.move (.tmp 7))), none⟩]) .ret))
theorem t125 : Told Tryz.prog 125 8 c125 [(.tmp 3)] := ⟨Tryz.f125, _, [], Tryz.func125, rfl, by kernel_rfl, rfl, by kernel_rfl, by kernel_rfl⟩
def c84 : ACode := 
    (.seq 
    (.region [⟨(some 3), (.s (.box 25 (.tmp 0))), none⟩, ⟨(some 6), (.q (.move (.const (.str (B []))))), none⟩, ⟨(some 7), (.q (.move (.const (.bool false)))), none⟩]) 
    (.seq 
    (.region [⟨(some 13), (.q (.load true 3 (.tmp 3))), none⟩, ⟨(some 14), (.q (.move (.tmp 1))), none⟩, ⟨(some 15), (.s (.call 62 [(.tmp 13), (.tmp 14)])), none⟩, ⟨(some 12), (.q (.move (.tmp 15))), none⟩, ⟨(some 16), (.q (.extract 0 (.tmp 12))), none⟩, ⟨(some 17), (.q (.extract 1 (.tmp 12))), none⟩, ⟨(some 8), (.s (.alloc 25 [(.str (B [])), .nils, .nils])), none⟩, ⟨none, (.s (.store 3 (.tmp 8) (.tmp 16))), none⟩, ⟨(some 9), (.q (.move (.tmp 17))), none⟩]) 
    (.seq 
    (.region [⟨(some 19), (.q (.load true 3 (.tmp 8))), none⟩, ⟨(some 20), (.q (.move (.tmp 2))), none⟩, ⟨(some 21), (.s (.call 75 [(.tmp 19), (.tmp 20)])), none⟩, ⟨(some 18), (.q (.move (.tmp 21))), none⟩, ⟨(some 22), (.q (.extract 0 (.tmp 18))), none⟩, ⟨(some 23), (.q (.extract 1 (.tmp 18))), none⟩, ⟨(some 10), (.q (.move (.tmp 22))), none⟩, ⟨(some 11), (.q (.move (.tmp 23))), none⟩]) 
    (.seq 
    (.region [⟨(some 24), (.q (.move (.tmp 10))), none⟩, ⟨(some 25), (.s (.call 136 [(.tmp 24)])), none⟩, ⟨(some 26), (.q (.extract 0 (.tmp 25))), none⟩, ⟨(some 27), (.q (.extract 1 (.tmp 25))), none⟩, ⟨(some 6), (.q (.move (.tmp 26))), none⟩, ⟨(some 7), (.q (.move (.tmp 27))), none⟩]) .ret))))
theorem t84 : Told Tryz.prog 84 28 c84 [(.tmp 6), (.tmp 7)] := ⟨Tryz.f84, _, [], Tryz.func84, rfl, by kernel_rfl, rfl, by kernel_rfl, by kernel_rfl⟩
def c226 : ACode := 
    (.seq 
    (.region [⟨(some 4), (.q (.move (.const (.bool false)))), none⟩]) 
    (.seq 
    (.region [⟨(some 5), (.q (.move (.tmp 0))), none⟩, ⟨(some 6), (.q (.len true (.tmp 5))), none⟩, ⟨(some 7), (.q (.move (.tmp 1))), none⟩, ⟨(some 8), (.q (.len true (.tmp 7))), none⟩, ⟨(some 9), (.q (.bin .geq (.tmp 6) (.tmp 8))), none⟩, ⟨(some 10), (.q (.move (.tmp 9))), none⟩, ⟨(some 11), (.q (.move (.tmp 0))), (some (10, true))⟩, ⟨(some 12), (.q (.move (.tmp 0))), (some (10, true))⟩, ⟨(some 13), (.q (.len true (.tmp 12))), (some (10, true))⟩, ⟨(some 14), (.q (.move (.tmp 1))), (some (10, true))⟩, ⟨(some 15), (.q (.len true (.tmp 14))), (some (10, true))⟩, ⟨(some 16), (.q (.bin .sub (.tmp 13) (.tmp 15))), (some (10, true))⟩, ⟨(some 17), (.q (.sliceStr (.tmp 11) (some (.tmp 16)) none)), (some (10, true))⟩, ⟨(some 18), (.q (.move (.tmp 1))), (some (10, true))⟩, ⟨(some 19), (.q (.bin .eql (.tmp 17) (.tmp 18))), (some (10, true))⟩, ⟨(some 20), (.q (.pick (.tmp 10) (.tmp 19) (.const (.bool false)))), none⟩, ⟨(some 4), (.q (.move (.tmp 20))), none⟩]) .ret))
theorem t226 : Told Tryz.prog 226 21 c226 [(.tmp 4)] := ⟨Tryz.f226, _, [], Tryz.func226, rfl, by kernel_rfl, rfl, by kernel_rfl, by kernel_rfl⟩
end Go.Proofs.YtmdgjfadbhenjaaGreatDoor.AL
