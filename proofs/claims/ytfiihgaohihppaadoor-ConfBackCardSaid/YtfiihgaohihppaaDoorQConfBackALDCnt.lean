/- The code of Count, Split and CutSuffix, told. -/
import Derived.Test.YtfiihgaohihppaaDoorQConfBackALA3
import Derived.Test.YtfiihgaohihppaaDoorQConfBackALDSuf
import Derived.Test.YtfiihgaohihppaaDoorProg
import Derived.KernelRfl
set_option maxRecDepth 100000
namespace Go.Proofs.YtfiihgaohihppaaDoor.AL
open Go Go.Proofs
def c122 : ACode := 
    (.seq 
    (.region [⟨(some 4), (.q (.move (.const (.int .i64 0)))), none⟩]) 
    (.seq 
    (.seq 
    (.region [⟨(some 7), (.q (.move (.tmp 1))), none⟩, ⟨(some 8), (.q (.len true (.tmp 7))), none⟩, ⟨(some 9), (.q (.bin .eql (.tmp 8) (.const (.int .i64 0)))), none⟩]) 
    (.cond (.tmp 9) 
    (.seq 
    (.region [⟨(some 10), (.q (.move (.tmp 0))), none⟩, ⟨(some 11), (.s (.call 135 [(.tmp 10)])), none⟩, ⟨(some 12), (.q (.bin .add (.tmp 11) (.const (.int .i64 1)))), none⟩, ⟨(some 4), (.q (.move (.tmp 12))), none⟩]) .ret) .skip)) 
    (.seq 
    (.seq 
    (.region [⟨(some 13), (.q (.move (.tmp 1))), none⟩, ⟨(some 14), (.q (.len true (.tmp 13))), none⟩, ⟨(some 15), (.q (.bin .eql (.tmp 14) (.const (.int .i64 1)))), none⟩]) 
    (.cond (.tmp 15) 
    (.seq 
    (.region [⟨(some 16), (.q (.move (.tmp 0))), none⟩, ⟨(some 17), (.q (.move (.tmp 1))), none⟩, ⟨(some 18), (.q (.idxStr (.tmp 17) (.const (.int .i64 0)))), none⟩, ⟨(some 19), (.s (.call 137 [(.tmp 16), (.tmp 18)])), none⟩, ⟨(some 4), (.q (.move (.tmp 19))), none⟩]) .ret) .skip)) 
    (.seq 
    (.region [⟨(some 5), (.q (.move (.const (.int .i64 0)))), none⟩]) 
    (.block 0 
    (.loop 
    (.block 1 
    (.seq 
    (.region [⟨(some 20), (.q (.move (.tmp 0))), none⟩, ⟨(some 21), (.q (.move (.tmp 1))), none⟩, ⟨(some 22), (.s (.call 119 [(.tmp 20), (.tmp 21)])), none⟩, ⟨(some 6), (.q (.move (.tmp 22))), none⟩]) 
    (.seq 
    (.seq 
    (.region [⟨(some 23), (.q (.move (.tmp 6))), none⟩, ⟨(some 24), (.q (.bin .eql (.tmp 23) (.const (.int .i64 (-1))))), none⟩]) 
    (.cond (.tmp 24) 
    (.seq 
    (.region [⟨(some 25), (.q (.move (.tmp 5))), none⟩, ⟨(some 4), (.q (.move (.tmp 25))), none⟩]) .ret) .skip)) 
    (.seq 
    (.region [⟨(some 26), (.q (.move (.tmp 5))), none⟩, ⟨(some 27), (.q (.bin .add (.tmp 26) (.const (.int .i64 1)))), none⟩, ⟨(some 5), (.q (.move (.tmp 27))), none⟩]) 
    (.region [⟨(some 28), (.q (.move (.tmp 0))), none⟩, ⟨(some 29), (.q (.move (.tmp 6))), none⟩, ⟨(some 30), (.q (.move (.tmp 1))), none⟩, ⟨(some 31), (.q (.len true (.tmp 30))), none⟩, ⟨(some 32), (.q (.bin .add (.tmp 29) (.tmp 31))), none⟩, ⟨(some 33), (.q (.sliceStr (.tmp 28) (some (.tmp 32)) none)), none⟩, ⟨(some 0), (.q (.move (.tmp 33))), none⟩])))))))))))
theorem t122 : Told Tryd.prog 122 34 c122 [(.tmp 4)] := ⟨Tryd.f122, _, [], Tryd.func122, rfl, by kernel_rfl, rfl, by kernel_rfl, by kernel_rfl⟩
def c107 : ACode := 
    (.seq 
    (.region [⟨(some 4), (.q (.move (.const (.str (B []))))), none⟩, ⟨(some 5), (.q (.move (.const (.bool false)))), none⟩]) 
    (.seq 
    (.region [⟨(some 6), (.q (.move (.tmp 0))), none⟩, ⟨(some 7), (.q (.move (.tmp 1))), none⟩, ⟨(some 8), (.s (.call 125 [(.tmp 6), (.tmp 7)])), none⟩, ⟨(some 9), (.q (.extract 0 (.tmp 8))), none⟩, ⟨(some 10), (.q (.extract 1 (.tmp 8))), none⟩, ⟨(some 4), (.q (.move (.tmp 9))), none⟩, ⟨(some 5), (.q (.move (.tmp 10))), none⟩]) .ret))
theorem t107 : Told Tryd.prog 107 11 c107 [(.tmp 4), (.tmp 5)] := ⟨Tryd.f107, _, [], Tryd.func107, rfl, by kernel_rfl, rfl, by kernel_rfl, by kernel_rfl⟩
def c125 : ACode := 
    (.seq 
    (.region [⟨(some 4), (.q (.move (.const (.str (B []))))), none⟩, ⟨(some 5), (.q (.move (.const (.bool false)))), none⟩]) 
    (.seq 
    (.seq 
    (.region [⟨(some 6), (.q (.move (.tmp 0))), none⟩, ⟨(some 7), (.q (.move (.tmp 1))), none⟩, ⟨(some 8), (.s (.call 140 [(.tmp 6), (.tmp 7)])), none⟩, ⟨(some 9), (.q (.un .not (.tmp 8))), none⟩]) 
    (.cond (.tmp 9) 
    (.seq 
    (.region [⟨(some 10), (.q (.move (.tmp 0))), none⟩, ⟨(some 4), (.q (.move (.tmp 10))), none⟩, ⟨(some 5), (.q (.move (.const (.bool false)))), none⟩]) .ret) .skip)) 
    (.seq 
    (.region [⟨(some 11), (.q (.move (.tmp 0))), none⟩, ⟨(some 12), (.q (.move (.tmp 0))), none⟩, ⟨(some 13), (.q (.len true (.tmp 12))), none⟩, ⟨(some 14), (.q (.move (.tmp 1))), none⟩, ⟨(some 15), (.q (.len true (.tmp 14))), none⟩, ⟨(some 16), (.q (.bin .sub (.tmp 13) (.tmp 15))), none⟩, ⟨(some 17), (.q (.sliceStr (.tmp 11) none (some (.tmp 16)))), none⟩, ⟨(some 4), (.q (.move (.tmp 17))), none⟩, ⟨(some 5), (.q (.move (.const (.bool true)))), none⟩]) .ret)))
theorem t125 : Told Tryd.prog 125 18 c125 [(.tmp 4), (.tmp 5)] := ⟨Tryd.f125, _, [], Tryd.func125, rfl, by kernel_rfl, rfl, by kernel_rfl, by kernel_rfl⟩
def c52 : ACode := 
    (.seq 
    (.region [⟨(some 4), (.q (.move (.const .nils))), none⟩]) 
    (.seq 
    (.region [⟨(some 5), (.q (.move (.tmp 0))), none⟩, ⟨(some 6), (.q (.move (.tmp 1))), none⟩, ⟨(some 7), (.s (.call 99 [(.tmp 5), (.tmp 6), (.const (.int .i64 0)), (.const (.int .i64 (-1)))])), none⟩, ⟨(some 4), (.q (.move (.tmp 7))), none⟩]) .ret))
theorem t52 : Told Tryd.prog 52 8 c52 [(.tmp 4)] := ⟨Tryd.f52, _, [], Tryd.func52, rfl, by kernel_rfl, rfl, by kernel_rfl, by kernel_rfl⟩
def c99 : ACode := 
    (.seq 
    (.region [⟨(some 8), (.q (.move (.const .nils))), none⟩]) 
    (.seq 
    (.seq 
    (.region [⟨(some 12), (.q (.move (.tmp 3))), none⟩, ⟨(some 13), (.q (.bin .eql (.tmp 12) (.const (.int .i64 0)))), none⟩]) 
    (.cond (.tmp 13) 
    (.seq 
    (.region [⟨(some 8), (.q (.move (.const .nils))), none⟩]) .ret) .skip)) 
    (.seq 
    (.seq 
    (.region [⟨(some 14), (.q (.move (.tmp 1))), none⟩, ⟨(some 15), (.q (.bin .eql (.tmp 14) (.const (.str (B []))))), none⟩]) 
    (.cond (.tmp 15) 
    (.seq 
    (.region [⟨(some 16), (.q (.move (.tmp 0))), none⟩, ⟨(some 17), (.q (.move (.tmp 3))), none⟩, ⟨(some 18), (.s (.call 121 [(.tmp 16), (.tmp 17)])), none⟩, ⟨(some 8), (.q (.move (.tmp 18))), none⟩]) .ret) .skip)) 
    (.seq 
    (.seq 
    (.region [⟨(some 19), (.q (.move (.tmp 3))), none⟩, ⟨(some 20), (.q (.bin .lss (.tmp 19) (.const (.int .i64 0)))), none⟩]) 
    (.cond (.tmp 20) 
    (.region [⟨(some 21), (.q (.move (.tmp 0))), none⟩, ⟨(some 22), (.q (.move (.tmp 1))), none⟩, ⟨(some 23), (.s (.call 122 [(.tmp 21), (.tmp 22)])), none⟩, ⟨(some 24), (.q (.bin .add (.tmp 23) (.const (.int .i64 1)))), none⟩, ⟨(some 3), (.q (.move (.tmp 24))), none⟩]) .skip)) 
    (.seq 
    (.region [⟨(some 25), (.q (.move (.tmp 3))), none⟩, ⟨(some 26), (.q (.move (.tmp 0))), none⟩, ⟨(some 27), (.q (.len true (.tmp 26))), none⟩, ⟨(some 28), (.q (.bin .add (.tmp 27) (.const (.int .i64 1)))), none⟩, ⟨(some 29), (.q (.best false (.tmp 25) (.tmp 28))), none⟩, ⟨(some 3), (.q (.move (.tmp 29))), none⟩]) 
    (.seq 
    (.region [⟨(some 30), (.q (.move (.tmp 3))), none⟩, ⟨(some 31), (.s (.mk 9 1 16 [(.str (B []))] (.tmp 30))), none⟩, ⟨(some 9), (.q (.move (.tmp 31))), none⟩]) 
    (.seq 
    (.region [⟨(some 32), (.q (.move (.tmp 3))), none⟩, ⟨(some 33), (.q (.bin .sub (.tmp 32) (.const (.int .i64 1)))), none⟩, ⟨(some 3), (.q (.move (.tmp 33))), none⟩]) 
    (.seq 
    (.region [⟨(some 10), (.q (.move (.const (.int .i64 0)))), none⟩]) 
    (.seq 
    (.block 0 
    (.loop 
    (.seq 
    (.seq 
    (.region [⟨(some 34), (.q (.move (.tmp 10))), none⟩, ⟨(some 35), (.q (.move (.tmp 3))), none⟩, ⟨(some 36), (.q (.bin .lss (.tmp 34) (.tmp 35))), none⟩]) 
    (.cond (.tmp 36) .skip (.exit 0))) 
    (.block 1 
    (.seq 
    (.region [⟨(some 37), (.q (.move (.tmp 0))), none⟩, ⟨(some 38), (.q (.move (.tmp 1))), none⟩, ⟨(some 39), (.s (.call 119 [(.tmp 37), (.tmp 38)])), none⟩, ⟨(some 11), (.q (.move (.tmp 39))), none⟩]) 
    (.seq 
    (.seq 
    (.region [⟨(some 40), (.q (.move (.tmp 11))), none⟩, ⟨(some 41), (.q (.bin .lss (.tmp 40) (.const (.int .i64 0)))), none⟩]) 
    (.cond (.tmp 41) (.exit 0) .skip)) 
    (.seq 
    (.region [⟨(some 42), (.q (.move (.tmp 9))), none⟩, ⟨(some 43), (.q (.move (.tmp 10))), none⟩, ⟨(some 44), (.q (.move (.tmp 0))), none⟩, ⟨(some 45), (.q (.move (.tmp 11))), none⟩, ⟨(some 46), (.q (.move (.tmp 2))), none⟩, ⟨(some 47), (.q (.bin .add (.tmp 45) (.tmp 46))), none⟩, ⟨(some 48), (.q (.sliceStr (.tmp 44) none (some (.tmp 47)))), none⟩, ⟨(some 49), (.q (.idxSl 1 (.tmp 42) (.tmp 43))), none⟩, ⟨none, (.s (.store 1 (.tmp 49) (.tmp 48))), none⟩]) 
    (.seq 
    (.region [⟨(some 50), (.q (.move (.tmp 0))), none⟩, ⟨(some 51), (.q (.move (.tmp 11))), none⟩, ⟨(some 52), (.q (.move (.tmp 1))), none⟩, ⟨(some 53), (.q (.len true (.tmp 52))), none⟩, ⟨(some 54), (.q (.bin .add (.tmp 51) (.tmp 53))), none⟩, ⟨(some 55), (.q (.sliceStr (.tmp 50) (some (.tmp 54)) none)), none⟩, ⟨(some 0), (.q (.move (.tmp 55))), none⟩]) 
    (.region [⟨(some 56), (.q (.move (.tmp 10))), none⟩, ⟨(some 57), (.q (.bin .add (.tmp 56) (.const (.int .i64 1)))), none⟩, ⟨(some 10), (.q (.move (.tmp 57))), none⟩]))))))))) 
    (.seq 
    (.region [⟨(some 58), (.q (.move (.tmp 9))), none⟩, ⟨(some 59), (.q (.move (.tmp 10))), none⟩, ⟨(some 60), (.q (.move (.tmp 0))), none⟩, ⟨(some 61), (.q (.idxSl 1 (.tmp 58) (.tmp 59))), none⟩, ⟨none, (.s (.store 1 (.tmp 61) (.tmp 60))), none⟩]) 
    (.seq 
    (.region [⟨(some 62), (.q (.move (.tmp 9))), none⟩, ⟨(some 63), (.q (.move (.tmp 10))), none⟩, ⟨(some 64), (.q (.bin .add (.tmp 63) (.const (.int .i64 1)))), none⟩, ⟨(some 65), (.q (.sliceSl 1 (.tmp 62) none (some (.tmp 64)))), none⟩, ⟨(some 8), (.q (.move (.tmp 65))), none⟩]) .ret)))))))))))
theorem t99 : Told Tryd.prog 99 66 c99 [(.tmp 8)] := ⟨Tryd.f99, _, [], Tryd.func99, rfl, by kernel_rfl, rfl, by kernel_rfl, by kernel_rfl⟩
end Go.Proofs.YtfiihgaohihppaaDoor.AL

