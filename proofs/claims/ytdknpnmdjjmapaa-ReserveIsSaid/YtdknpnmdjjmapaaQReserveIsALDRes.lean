/- The code of spans, told. -/
import Derived.Test.YtdknpnmdjjmapaaQReserveIsALA3
import Derived.Test.YtdknpnmdjjmapaaProg
import Derived.KernelRfl
set_option maxRecDepth 100000
namespace Go.Proofs.Ytdknpnmdjjmapaa.AL
open Go Go.Proofs
def c49 : ACode := 
    (.seq 
    (.region [⟨(some 6), (.q (.move (.const .nils))), none⟩]) 
    (.seq 
    (.region [⟨(some 10), (.q (.move (.tmp 0))), none⟩, ⟨(some 11), (.q (.move (.tmp 1))), none⟩, ⟨(some 12), (.q (.sliceSl 2 (.tmp 10) (some (.tmp 11)) none)), none⟩]) 
    (.seq 
    (.region [⟨(some 13), (.q (.move (.tmp 2))), none⟩, ⟨(some 14), (.q (.len false (.tmp 13))), none⟩, ⟨(some 7), (.q (.move (.tmp 14))), none⟩]) 
    (.seq 
    (.seq 
    (.region [⟨(some 15), (.q (.move (.tmp 7))), none⟩, ⟨(some 16), (.q (.bin .eql (.tmp 15) (.const (.int .i64 0)))), none⟩]) 
    (.cond (.tmp 16) 
    (.seq 
    (.region [⟨(some 17), (.q (.move (.tmp 0))), none⟩, ⟨(some 6), (.q (.move (.tmp 17))), none⟩]) .ret) .skip)) 
    (.seq 
    (.region [⟨(some 18), (.q (.move (.tmp 0))), none⟩, ⟨(some 19), (.q (.len false (.tmp 18))), none⟩, ⟨(some 8), (.q (.move (.tmp 19))), none⟩]) 
    (.seq 
    (.seq 
    (.region [⟨(some 20), (.q (.move (.tmp 1))), none⟩, ⟨(some 21), (.q (.move (.tmp 8))), none⟩, ⟨(some 22), (.q (.bin .eql (.tmp 20) (.tmp 21))), none⟩]) 
    (.cond (.tmp 22) 
    (.seq 
    (.region [⟨(some 23), (.q (.move (.tmp 0))), none⟩, ⟨(some 24), (.q (.move (.tmp 2))), none⟩, ⟨(some 25), (.s (.app 64 2 16 (.tmp 23) (.tmp 24))), none⟩, ⟨(some 6), (.q (.move (.tmp 25))), none⟩]) .ret) .skip)) 
    (.seq 
    (.seq 
    (.region [⟨(some 26), (.q (.move (.tmp 8))), none⟩, ⟨(some 27), (.q (.move (.tmp 7))), none⟩, ⟨(some 28), (.q (.bin .add (.tmp 26) (.tmp 27))), none⟩, ⟨(some 29), (.q (.move (.tmp 0))), none⟩, ⟨(some 30), (.q (.cap (.tmp 29))), none⟩, ⟨(some 31), (.q (.bin .gtr (.tmp 28) (.tmp 30))), none⟩]) 
    (.cond (.tmp 31) 
    (.seq 
    (.region [⟨(some 32), (.q (.move (.tmp 0))), none⟩, ⟨(some 33), (.q (.move (.tmp 1))), none⟩, ⟨(some 34), (.q (.sliceSl 2 (.tmp 32) none (some (.tmp 33)))), none⟩, ⟨(some 35), (.q (.move (.tmp 8))), none⟩, ⟨(some 36), (.q (.move (.tmp 7))), none⟩, ⟨(some 37), (.q (.bin .add (.tmp 35) (.tmp 36))), none⟩, ⟨(some 38), (.q (.move (.tmp 1))), none⟩, ⟨(some 39), (.q (.bin .sub (.tmp 37) (.tmp 38))), none⟩, ⟨(some 40), (.s (.appz 64 2 16 [(.int .i64 0), (.int .i64 0)] (.tmp 34) (.tmp 39))), none⟩, ⟨(some 9), (.q (.move (.tmp 40))), none⟩]) 
    (.seq 
    (.region [⟨(some 41), (.q (.move (.tmp 9))), none⟩, ⟨(some 42), (.q (.move (.tmp 1))), none⟩, ⟨(some 43), (.q (.sliceSl 2 (.tmp 41) (some (.tmp 42)) none)), none⟩, ⟨(some 44), (.q (.move (.tmp 2))), none⟩, ⟨(some 45), (.s (.copy 2 (.tmp 43) (.tmp 44))), none⟩]) 
    (.seq 
    (.region [⟨(some 46), (.q (.move (.tmp 9))), none⟩, ⟨(some 47), (.q (.move (.tmp 1))), none⟩, ⟨(some 48), (.q (.move (.tmp 7))), none⟩, ⟨(some 49), (.q (.bin .add (.tmp 47) (.tmp 48))), none⟩, ⟨(some 50), (.q (.sliceSl 2 (.tmp 46) (some (.tmp 49)) none)), none⟩, ⟨(some 51), (.q (.move (.tmp 0))), none⟩, ⟨(some 52), (.q (.move (.tmp 1))), none⟩, ⟨(some 53), (.q (.sliceSl 2 (.tmp 51) (some (.tmp 52)) none)), none⟩, ⟨(some 54), (.s (.copy 2 (.tmp 50) (.tmp 53))), none⟩]) 
    (.seq 
    (.region [⟨(some 55), (.q (.move (.tmp 9))), none⟩, ⟨(some 6), (.q (.move (.tmp 55))), none⟩]) .ret)))) .skip)) 
    (.seq 
    (.region [⟨(some 56), (.q (.move (.tmp 0))), none⟩, ⟨(some 57), (.q (.move (.tmp 8))), none⟩, ⟨(some 58), (.q (.move (.tmp 7))), none⟩, ⟨(some 59), (.q (.bin .add (.tmp 57) (.tmp 58))), none⟩, ⟨(some 60), (.q (.sliceSl 2 (.tmp 56) none (some (.tmp 59)))), none⟩, ⟨(some 0), (.q (.move (.tmp 60))), none⟩]) 
    (.seq 
    (.seq 
    (.region [⟨(some 61), (.q (.move (.tmp 2))), none⟩, ⟨(some 62), (.q (.move (.tmp 0))), none⟩, ⟨(some 63), (.q (.move (.tmp 1))), none⟩, ⟨(some 64), (.q (.move (.tmp 7))), none⟩, ⟨(some 65), (.q (.bin .add (.tmp 63) (.tmp 64))), none⟩, ⟨(some 66), (.q (.sliceSl 2 (.tmp 62) (some (.tmp 65)) none)), none⟩, ⟨(some 67), (.s (.call 79 [(.tmp 61), (.tmp 66)])), none⟩, ⟨(some 68), (.q (.un .not (.tmp 67))), none⟩]) 
    (.cond (.tmp 68) 
    (.seq 
    (.region [⟨(some 69), (.q (.move (.tmp 0))), none⟩, ⟨(some 70), (.q (.move (.tmp 1))), none⟩, ⟨(some 71), (.q (.move (.tmp 7))), none⟩, ⟨(some 72), (.q (.bin .add (.tmp 70) (.tmp 71))), none⟩, ⟨(some 73), (.q (.sliceSl 2 (.tmp 69) (some (.tmp 72)) none)), none⟩, ⟨(some 74), (.q (.move (.tmp 0))), none⟩, ⟨(some 75), (.q (.move (.tmp 1))), none⟩, ⟨(some 76), (.q (.sliceSl 2 (.tmp 74) (some (.tmp 75)) none)), none⟩, ⟨(some 77), (.s (.copy 2 (.tmp 73) (.tmp 76))), none⟩]) 
    (.seq 
    (.region [⟨(some 78), (.q (.move (.tmp 0))), none⟩, ⟨(some 79), (.q (.move (.tmp 1))), none⟩, ⟨(some 80), (.q (.sliceSl 2 (.tmp 78) (some (.tmp 79)) none)), none⟩, ⟨(some 81), (.q (.move (.tmp 2))), none⟩, ⟨(some 82), (.s (.copy 2 (.tmp 80) (.tmp 81))), none⟩]) 
    (.seq 
    (.region [⟨(some 83), (.q (.move (.tmp 0))), none⟩, ⟨(some 6), (.q (.move (.tmp 83))), none⟩]) .ret))) .skip)) 
    (.seq 
    (.region [⟨(some 84), (.q (.move (.tmp 0))), none⟩, ⟨(some 85), (.q (.move (.tmp 8))), none⟩, ⟨(some 86), (.q (.sliceSl 2 (.tmp 84) (some (.tmp 85)) none)), none⟩, ⟨(some 87), (.q (.move (.tmp 2))), none⟩, ⟨(some 88), (.s (.copy 2 (.tmp 86) (.tmp 87))), none⟩]) 
    (.seq 
    (.region [⟨(some 89), (.q (.move (.tmp 0))), none⟩, ⟨(some 90), (.q (.move (.tmp 1))), none⟩, ⟨(some 91), (.q (.sliceSl 2 (.tmp 89) (some (.tmp 90)) none)), none⟩, ⟨(some 92), (.q (.move (.tmp 7))), none⟩, ⟨(some 93), (.s (.call 80 [(.tmp 91), (.tmp 92)])), none⟩]) 
    (.seq 
    (.region [⟨(some 94), (.q (.move (.tmp 0))), none⟩, ⟨(some 6), (.q (.move (.tmp 94))), none⟩]) .ret))))))))))))
theorem t49 : Told Try.prog 49 95 c49 [(.tmp 6)] := ⟨Try.f49, _, [], Try.func49, rfl, by kernel_rfl, rfl, by kernel_rfl, by kernel_rfl⟩
def c56 : ACode := 
    (.seq 
    (.region [⟨(some 4), (.q (.move (.const .nils))), none⟩]) 
    (.seq 
    (.region [⟨(some 8), (.q (.move (.tmp 0))), none⟩, ⟨(some 9), (.q (.move (.tmp 1))), none⟩, ⟨(some 10), (.s (.call 47 [(.tmp 8), (.tmp 9)])), none⟩, ⟨(some 5), (.q (.move (.tmp 10))), none⟩]) 
    (.seq 
    (.seq 
    (.region [⟨(some 11), (.q (.move (.tmp 5))), none⟩, ⟨(some 12), (.q (.bin .eql (.tmp 11) (.const (.int .i64 (-1))))), none⟩]) 
    (.cond (.tmp 12) 
    (.seq 
    (.region [⟨(some 13), (.q (.move (.tmp 0))), none⟩, ⟨(some 4), (.q (.move (.tmp 13))), none⟩]) .ret) .skip)) 
    (.seq 
    (.seq 
    (.region [⟨(some 14), (.q (.move (.tmp 5))), none⟩, ⟨(some 15), (.q (.bin .add (.tmp 14) (.const (.int .i64 1)))), none⟩, ⟨(some 6), (.q (.move (.tmp 15))), none⟩]) 
    (.block 0 
    (.loop 
    (.seq 
    (.seq 
    (.region [⟨(some 16), (.q (.move (.tmp 6))), none⟩, ⟨(some 17), (.q (.move (.tmp 0))), none⟩, ⟨(some 18), (.q (.len false (.tmp 17))), none⟩, ⟨(some 19), (.q (.bin .lss (.tmp 16) (.tmp 18))), none⟩]) 
    (.cond (.tmp 19) .skip (.exit 0))) 
    (.seq 
    (.block 1 
    (.seq 
    (.region [⟨(some 22), (.q (.move (.tmp 0))), none⟩, ⟨(some 23), (.q (.move (.tmp 6))), none⟩, ⟨(some 24), (.q (.idxSl 2 (.tmp 22) (.tmp 23))), none⟩, ⟨(some 25), (.q (.load true 2 (.tmp 24))), none⟩, ⟨(some 7), (.s (.alloc 64 [(.int .i64 0), (.int .i64 0)])), none⟩, ⟨none, (.s (.store 2 (.tmp 7) (.tmp 25))), none⟩]) 
    (.seq 
    (.region [⟨(some 26), (.q (.move (.tmp 1))), none⟩, ⟨(some 27), (.q (.load true 2 (.tmp 7))), none⟩, ⟨(some 28), (.s (.callv (.tmp 26) [(.tmp 27)])), none⟩, ⟨(some 29), (.q (.un .not (.tmp 28))), none⟩]) 
    (.cond (.tmp 29) 
    (.seq 
    (.region [⟨(some 30), (.q (.move (.tmp 0))), none⟩, ⟨(some 31), (.q (.move (.tmp 5))), none⟩, ⟨(some 32), (.q (.load true 2 (.tmp 7))), none⟩, ⟨(some 33), (.q (.idxSl 2 (.tmp 30) (.tmp 31))), none⟩, ⟨none, (.s (.store 2 (.tmp 33) (.tmp 32))), none⟩]) 
    (.region [⟨(some 34), (.q (.move (.tmp 5))), none⟩, ⟨(some 35), (.q (.bin .add (.tmp 34) (.const (.int .i64 1)))), none⟩, ⟨(some 5), (.q (.move (.tmp 35))), none⟩])) .skip)))) 
    (.region [⟨(some 20), (.q (.move (.tmp 6))), none⟩, ⟨(some 21), (.q (.bin .add (.tmp 20) (.const (.int .i64 1)))), none⟩, ⟨(some 6), (.q (.move (.tmp 21))), none⟩])))))) 
    (.seq 
    (.region [⟨(some 36), (.q (.move (.tmp 0))), none⟩, ⟨(some 37), (.q (.move (.tmp 5))), none⟩, ⟨(some 38), (.q (.sliceSl 2 (.tmp 36) (some (.tmp 37)) none)), none⟩, ⟨none, (.s (.clear 2 [(.int .i64 0), (.int .i64 0)] (.tmp 38))), none⟩]) 
    (.seq 
    (.region [⟨(some 39), (.q (.move (.tmp 0))), none⟩, ⟨(some 40), (.q (.move (.tmp 5))), none⟩, ⟨(some 41), (.q (.sliceSl 2 (.tmp 39) none (some (.tmp 40)))), none⟩, ⟨(some 4), (.q (.move (.tmp 41))), none⟩]) .ret))))))
theorem t56 : Told Try.prog 56 42 c56 [(.tmp 4)] := ⟨Try.f56, _, [], Try.func56, rfl, by kernel_rfl, rfl, by kernel_rfl, by kernel_rfl⟩
def c47 : ACode := 
    (.seq 
    (.region [⟨(some 4), (.q (.move (.const (.int .i64 0)))), none⟩]) 
    (.seq 
    (.seq 
    (.region [⟨(some 6), (.q (.move (.tmp 0))), none⟩, ⟨(some 7), (.q (.len false (.tmp 6))), none⟩, ⟨(some 8), (.q (.move (.const (.int .i64 0)))), none⟩]) 
    (.block 0 
    (.loop 
    (.seq 
    (.region [⟨(some 9), (.q (.bin .lss (.tmp 8) (.tmp 7))), none⟩]) 
    (.seq 
    (.cond (.tmp 9) .skip (.exit 0)) 
    (.seq 
    (.block 1 
    (.seq 
    (.region [⟨(some 10), (.q (.move (.tmp 8))), none⟩, ⟨(some 5), (.q (.move (.tmp 10))), none⟩]) 
    (.seq 
    (.region [⟨(some 11), (.q (.move (.tmp 1))), none⟩, ⟨(some 12), (.q (.move (.tmp 0))), none⟩, ⟨(some 13), (.q (.move (.tmp 5))), none⟩, ⟨(some 14), (.q (.idxSl 2 (.tmp 12) (.tmp 13))), none⟩, ⟨(some 15), (.q (.load true 2 (.tmp 14))), none⟩, ⟨(some 16), (.s (.callv (.tmp 11) [(.tmp 15)])), none⟩]) 
    (.cond (.tmp 16) 
    (.seq 
    (.region [⟨(some 17), (.q (.move (.tmp 5))), none⟩, ⟨(some 4), (.q (.move (.tmp 17))), none⟩]) .ret) .skip)))) 
    (.region [⟨(some 18), (.q (.bin .add (.tmp 8) (.const (.int .i64 1)))), none⟩, ⟨(some 8), (.q (.move (.tmp 18))), none⟩]))))))) 
    (.seq 
    (.region [⟨(some 4), (.q (.move (.const (.int .i64 (-1))))), none⟩]) .ret)))
theorem t47 : Told Try.prog 47 19 c47 [(.tmp 4)] := ⟨Try.f47, _, [], Try.func47, rfl, by kernel_rfl, rfl, by kernel_rfl, by kernel_rfl⟩
def c52 : ACode := 
    (.seq 
    (.region [⟨(some 4), (.q (.move (.const (.bool false)))), none⟩]) 
    (.seq 
    (.region [⟨(some 5), (.q (.move (.tmp 0))), none⟩, ⟨(some 6), (.q (.move (.tmp 1))), none⟩, ⟨(some 7), (.s (.call 47 [(.tmp 5), (.tmp 6)])), none⟩, ⟨(some 8), (.q (.bin .geq (.tmp 7) (.const (.int .i64 0)))), none⟩, ⟨(some 4), (.q (.move (.tmp 8))), none⟩]) .ret))
theorem t52 : Told Try.prog 52 9 c52 [(.tmp 4)] := ⟨Try.f52, _, [], Try.func52, rfl, by kernel_rfl, rfl, by kernel_rfl, by kernel_rfl⟩
def c50 : ACode := 
    (.seq 
    (.region [⟨(some 2), (.q (.move (.const .nils))), none⟩]) 
    (.seq 
    (.seq 
    (.region [⟨(some 3), (.q (.move (.tmp 0))), none⟩, ⟨(some 4), (.q (.nil .sl false (.tmp 3) (.const .nils))), none⟩]) 
    (.cond (.tmp 4) 
    (.seq 
    (.region [⟨(some 2), (.q (.move (.const .nils))), none⟩]) .ret) .skip)) 
    (.seq 
    (.region [⟨(some 5), (.s (.litw 64 2 [])), none⟩, ⟨(some 6), (.q (.move (.tmp 0))), none⟩, ⟨(some 7), (.s (.app 64 2 16 (.tmp 5) (.tmp 6))), none⟩, ⟨(some 2), (.q (.move (.tmp 7))), none⟩]) .ret)))
theorem t50 : Told Try.prog 50 8 c50 [(.tmp 2)] := ⟨Try.f50, _, [5], Try.func50, rfl, by kernel_rfl, rfl, by kernel_rfl, by kernel_rfl⟩
def c58 : ACode := 
    (.seq 
    (.region [⟨(some 5), (.q (.move (.tmp 0))), none⟩, ⟨(some 6), (.q (.len false (.tmp 5))), none⟩, ⟨(some 4), (.q (.move (.tmp 6))), none⟩]) 
    (.region [⟨(some 7), (.q (.move (.tmp 0))), none⟩, ⟨(some 8), (.q (.move (.tmp 4))), none⟩, ⟨(some 9), (.q (.move (.tmp 4))), none⟩, ⟨(some 10), (.q (.conv .u64 (.tmp 9))), none⟩, ⟨(some 11), (.s (.call 82 [(.tmp 10)])), none⟩, ⟨(some 12), (.q (.move (.tmp 1))), none⟩, ⟨(some 13), (.s (.call 81 [(.tmp 7), (.const (.int .i64 0)), (.tmp 8), (.tmp 11), (.tmp 12)])), none⟩]))
theorem t58 : Told Try.prog 58 14 c58 [] := ⟨Try.f58, _, [], Try.func58, rfl, by kernel_rfl, rfl, by kernel_rfl, by kernel_rfl⟩
def c55 : ACode := 
    (.seq 
    (.region [⟨(some 1), (.s (.box 64 (.tmp 0))), none⟩, ⟨(some 2), (.q (.move (.const (.bool false)))), none⟩]) 
    (.seq 
    (.region [⟨(some 3), (.q (.fieldAddr 0 (.tmp 1))), none⟩, ⟨(some 4), (.q (.load false 1 (.tmp 3))), none⟩, ⟨(some 5), (.q (.bin .geq (.tmp 4) (.const (.int .i64 0)))), none⟩, ⟨(some 6), (.q (.move (.tmp 5))), none⟩, ⟨(some 7), (.q (.fieldAddr 0 (.tmp 1))), (some (6, true))⟩, ⟨(some 8), (.q (.load false 1 (.tmp 7))), (some (6, true))⟩, ⟨(some 9), (.q (.bin .leq (.tmp 8) (.const (.int .i64 4294967295)))), (some (6, true))⟩, ⟨(some 10), (.q (.pick (.tmp 6) (.tmp 9) (.const (.bool false)))), none⟩, ⟨(some 11), (.q (.move (.tmp 10))), none⟩, ⟨(some 12), (.q (.fieldAddr 1 (.tmp 1))), (some (11, true))⟩, ⟨(some 13), (.q (.load false 1 (.tmp 12))), (some (11, true))⟩, ⟨(some 14), (.q (.bin .geq (.tmp 13) (.const (.int .i64 0)))), (some (11, true))⟩, ⟨(some 15), (.q (.pick (.tmp 11) (.tmp 14) (.const (.bool false)))), none⟩, ⟨(some 16), (.q (.move (.tmp 15))), none⟩, ⟨(some 17), (.q (.fieldAddr 1 (.tmp 1))), (some (16, true))⟩, ⟨(some 18), (.q (.load false 1 (.tmp 17))), (some (16, true))⟩, ⟨(some 19), (.q (.bin .leq (.tmp 18) (.const (.int .i64 4294967295)))), (some (16, true))⟩, ⟨(some 20), (.q (.pick (.tmp 16) (.tmp 19) (.const (.bool false)))), none⟩, ⟨(some 2), (.q (.move (.tmp 20))), none⟩]) .ret))
theorem t55 : Told Try.prog 55 21 c55 [(.tmp 2)] := ⟨Try.f55, _, [], Try.func55, rfl, by kernel_rfl, rfl, by kernel_rfl, by kernel_rfl⟩
def c46 : ACode := 
    (.seq 
    (.region [⟨(some 1), (.s (.box 64 (.tmp 0))), none⟩, ⟨(some 2), (.q (.move (.const (.bool false)))), none⟩]) 
    (.seq 
    (.region [⟨(some 3), (.q (.load true 2 (.tmp 1))), none⟩, ⟨(some 4), (.s (.call 55 [(.tmp 3)])), none⟩, ⟨(some 5), (.q (.move (.tmp 4))), none⟩, ⟨(some 6), (.q (.fieldAddr 1 (.tmp 1))), (some (5, true))⟩, ⟨(some 7), (.q (.load false 1 (.tmp 6))), (some (5, true))⟩, ⟨(some 8), (.q (.bin .gtr (.tmp 7) (.const (.int .i64 0)))), (some (5, true))⟩, ⟨(some 9), (.q (.pick (.tmp 5) (.tmp 8) (.const (.bool false)))), none⟩, ⟨(some 2), (.q (.move (.tmp 9))), none⟩]) .ret))
theorem t46 : Told Try.prog 46 10 c46 [(.tmp 2)] := ⟨Try.f46, _, [], Try.func46, rfl, by kernel_rfl, rfl, by kernel_rfl, by kernel_rfl⟩
def c22 : ACode := 
    (.seq 
    (.region [⟨(some 2), (.s (.box 64 (.tmp 0))), none⟩, ⟨(some 4), (.q (.move (.const (.bool false)))), none⟩]) 
    (.seq 
    (.region [⟨(some 5), (.q (.load true 2 (.tmp 2))), none⟩, ⟨(some 6), (.s (.call 46 [(.tmp 5)])), none⟩, ⟨(some 7), (.q (.move (.tmp 6))), none⟩, ⟨(some 8), (.q (.move (.tmp 1))), (some (7, true))⟩, ⟨(some 9), (.q (.mkFunc (.func 53) [] [(.tmp 2)])), (some (7, true))⟩, ⟨(some 10), (.s (.call 52 [(.tmp 8), (.tmp 9)])), (some (7, true))⟩, ⟨(some 11), (.q (.pick (.tmp 7) (.tmp 10) (.const (.bool false)))), none⟩, ⟨(some 4), (.q (.move (.tmp 11))), none⟩]) .ret))
theorem t22 : Told Try.prog 22 12 c22 [(.tmp 4)] := ⟨Try.f22, _, [], Try.func22, rfl, by kernel_rfl, rfl, by kernel_rfl, by kernel_rfl⟩
def c53 : ACode := 
    (.seq 
    (.region [⟨(some 2), (.s (.box 64 (.tmp 0))), none⟩, ⟨(some 3), (.q (.move (.const (.bool false)))), none⟩]) 
    (.seq 
    (.region [⟨(some 4), (.q (.load true 2 (.tmp 2))), none⟩, ⟨(some 5), (.s (.call 46 [(.tmp 4)])), none⟩, ⟨(some 6), (.q (.move (.tmp 5))), none⟩, ⟨(some 7), (.q (.fieldAddr 0 (.tmp 1))), (some (6, true))⟩, ⟨(some 8), (.q (.load false 1 (.tmp 7))), (some (6, true))⟩, ⟨(some 9), (.q (.fieldAddr 0 (.tmp 2))), (some (6, true))⟩, ⟨(some 10), (.q (.load false 1 (.tmp 9))), (some (6, true))⟩, ⟨(some 11), (.q (.fieldAddr 1 (.tmp 2))), (some (6, true))⟩, ⟨(some 12), (.q (.load false 1 (.tmp 11))), (some (6, true))⟩, ⟨(some 13), (.q (.bin .add (.tmp 10) (.tmp 12))), (some (6, true))⟩, ⟨(some 14), (.q (.bin .lss (.tmp 8) (.tmp 13))), (some (6, true))⟩, ⟨(some 15), (.q (.pick (.tmp 6) (.tmp 14) (.const (.bool false)))), none⟩, ⟨(some 16), (.q (.move (.tmp 15))), none⟩, ⟨(some 17), (.q (.fieldAddr 0 (.tmp 2))), (some (16, true))⟩, ⟨(some 18), (.q (.load false 1 (.tmp 17))), (some (16, true))⟩, ⟨(some 19), (.q (.fieldAddr 0 (.tmp 1))), (some (16, true))⟩, ⟨(some 20), (.q (.load false 1 (.tmp 19))), (some (16, true))⟩, ⟨(some 21), (.q (.fieldAddr 1 (.tmp 1))), (some (16, true))⟩, ⟨(some 22), (.q (.load false 1 (.tmp 21))), (some (16, true))⟩, ⟨(some 23), (.q (.bin .add (.tmp 20) (.tmp 22))), (some (16, true))⟩, ⟨(some 24), (.q (.bin .lss (.tmp 18) (.tmp 23))), (some (16, true))⟩, ⟨(some 25), (.q (.pick (.tmp 16) (.tmp 24) (.const (.bool false)))), none⟩, ⟨(some 3), (.q (.move (.tmp 25))), none⟩]) .ret))
theorem t53 : Told Try.prog 53 26 c53 [(.tmp 3)] := ⟨Try.f53, _, [], Try.func53, rfl, by kernel_rfl, rfl, by kernel_rfl, by kernel_rfl⟩
def c24 : ACode := 
    (.seq 
    (.region [⟨(some 3), (.s (.box 3 (.tmp 1))), none⟩, ⟨(some 4), (.q (.move (.const (.bool false)))), none⟩]) 
    (.seq 
    (.region [⟨(some 5), (.q (.move (.tmp 0))), none⟩, ⟨(some 6), (.q (.mkFunc (.func 54) [] [(.tmp 3)])), none⟩, ⟨(some 7), (.s (.call 52 [(.tmp 5), (.tmp 6)])), none⟩, ⟨(some 4), (.q (.move (.tmp 7))), none⟩]) .ret))
theorem t24 : Told Try.prog 24 8 c24 [(.tmp 4)] := ⟨Try.f24, _, [], Try.func24, rfl, by kernel_rfl, rfl, by kernel_rfl, by kernel_rfl⟩
def c54 : ACode := 
    (.seq 
    (.region [⟨(some 2), (.s (.box 64 (.tmp 0))), none⟩, ⟨(some 3), (.q (.move (.const (.bool false)))), none⟩]) 
    (.seq 
    (.region [⟨(some 4), (.q (.load true 2 (.tmp 2))), none⟩, ⟨(some 5), (.s (.call 55 [(.tmp 4)])), none⟩, ⟨(some 6), (.q (.move (.tmp 5))), none⟩, ⟨(some 7), (.q (.load false 1 (.tmp 1))), (some (6, true))⟩, ⟨(some 8), (.q (.fieldAddr 0 (.tmp 2))), (some (6, true))⟩, ⟨(some 9), (.q (.load false 1 (.tmp 8))), (some (6, true))⟩, ⟨(some 10), (.q (.bin .geq (.tmp 7) (.tmp 9))), (some (6, true))⟩, ⟨(some 11), (.q (.pick (.tmp 6) (.tmp 10) (.const (.bool false)))), none⟩, ⟨(some 12), (.q (.move (.tmp 11))), none⟩, ⟨(some 13), (.q (.load false 1 (.tmp 1))), (some (12, true))⟩, ⟨(some 14), (.q (.fieldAddr 0 (.tmp 2))), (some (12, true))⟩, ⟨(some 15), (.q (.load false 1 (.tmp 14))), (some (12, true))⟩, ⟨(some 16), (.q (.fieldAddr 1 (.tmp 2))), (some (12, true))⟩, ⟨(some 17), (.q (.load false 1 (.tmp 16))), (some (12, true))⟩, ⟨(some 18), (.q (.bin .add (.tmp 15) (.tmp 17))), (some (12, true))⟩, ⟨(some 19), (.q (.bin .lss (.tmp 13) (.tmp 18))), (some (12, true))⟩, ⟨(some 20), (.q (.pick (.tmp 12) (.tmp 19) (.const (.bool false)))), none⟩, ⟨(some 3), (.q (.move (.tmp 20))), none⟩]) .ret))
theorem t54 : Told Try.prog 54 21 c54 [(.tmp 3)] := ⟨Try.f54, _, [], Try.func54, rfl, by kernel_rfl, rfl, by kernel_rfl, by kernel_rfl⟩
def c19 : ACode := 
    (.seq 
    (.region [⟨(some 3), (.s (.box 64 (.tmp 1))), none⟩, ⟨(some 4), (.q (.move (.const .nils))), none⟩, ⟨(some 5), (.q (.move (.const (.int .i64 0)))), none⟩]) 
    (.seq 
    (.block 0 
    (.seq 
    (.region [⟨(some 8), (.q (.load true 2 (.tmp 3))), none⟩, ⟨(some 9), (.s (.call 46 [(.tmp 8)])), none⟩, ⟨(some 10), (.q (.un .not (.tmp 9))), none⟩, ⟨(some 7), (.q (.move (.tmp 10))), none⟩]) 
    (.cond (.tmp 7) 
    (.seq 
    (.region [⟨(some 4), (.q (.move (.const .nils))), none⟩, ⟨(some 5), (.q (.move (.const (.int .i64 1)))), none⟩]) .ret) 
    (.seq 
    (.region [⟨(some 12), (.q (.move (.tmp 0))), none⟩, ⟨(some 13), (.q (.len false (.tmp 12))), none⟩, ⟨(some 14), (.q (.bin .geq (.tmp 13) (.const (.int .i64 16)))), none⟩, ⟨(some 11), (.q (.move (.tmp 14))), none⟩]) 
    (.cond (.tmp 11) 
    (.seq 
    (.region [⟨(some 4), (.q (.move (.const .nils))), none⟩, ⟨(some 5), (.q (.move (.const (.int .i64 7)))), none⟩]) .ret) 
    (.seq 
    (.region [⟨(some 16), (.q (.load true 2 (.tmp 3))), none⟩, ⟨(some 17), (.q (.move (.tmp 0))), none⟩, ⟨(some 18), (.s (.call 22 [(.tmp 16), (.tmp 17)])), none⟩, ⟨(some 15), (.q (.move (.tmp 18))), none⟩]) 
    (.cond (.tmp 15) 
    (.seq 
    (.region [⟨(some 4), (.q (.move (.const .nils))), none⟩, ⟨(some 5), (.q (.move (.const (.int .i64 12)))), none⟩]) .ret) .skip))))))) 
    (.seq 
    (.region [⟨(some 19), (.q (.move (.tmp 0))), none⟩, ⟨(some 20), (.q (.mkFunc (.func 48) [] [(.tmp 3)])), none⟩, ⟨(some 21), (.s (.call 47 [(.tmp 19), (.tmp 20)])), none⟩, ⟨(some 6), (.q (.move (.tmp 21))), none⟩]) 
    (.seq 
    (.seq 
    (.region [⟨(some 22), (.q (.move (.tmp 6))), none⟩, ⟨(some 23), (.q (.bin .lss (.tmp 22) (.const (.int .i64 0)))), none⟩]) 
    (.cond (.tmp 23) 
    (.region [⟨(some 24), (.q (.move (.tmp 0))), none⟩, ⟨(some 25), (.q (.len false (.tmp 24))), none⟩, ⟨(some 6), (.q (.move (.tmp 25))), none⟩]) .skip)) 
    (.seq 
    (.seq (.fregion [3] []) 
    (.seq 
    (.region [⟨(some 26), (.q (.move (.tmp 0))), none⟩, ⟨(some 28), (.q (.move (.tmp 6))), none⟩, ⟨(some 29), (.q (.loadr true 2 (.tmp 3))), none⟩]) (.both 
    (.region [⟨(some 27), (.s (.call 50 [(.tmp 26)])), none⟩, ⟨(some 30), (.s (.litw 64 2 [(.tmp 29)])), none⟩, ⟨(some 31), (.s (.call 49 [(.tmp 27), (.tmp 28), (.tmp 30)])), none⟩, ⟨(some 4), (.q (.move (.tmp 31))), none⟩, ⟨(some 5), (.q (.move (.const (.int .i64 0)))), none⟩]) 
    (.region [⟨(some 30), (.s (.litw 64 2 [(.tmp 29)])), none⟩, ⟨(some 27), (.s (.call 50 [(.tmp 26)])), none⟩, ⟨(some 31), (.s (.call 49 [(.tmp 27), (.tmp 28), (.tmp 30)])), none⟩, ⟨(some 4), (.q (.move (.tmp 31))), none⟩, ⟨(some 5), (.q (.move (.const (.int .i64 0)))), none⟩])))) .ret)))))
theorem t19 : Told Try.prog 19 32 c19 [(.tmp 4), (.tmp 5)] := ⟨Try.f19, _, [30, 11000003], Try.func19, rfl, by kernel_rfl, rfl, by kernel_rfl, by kernel_rfl⟩
def c48 : ACode := 
    (.seq 
    (.region [⟨(some 2), (.s (.box 64 (.tmp 0))), none⟩, ⟨(some 3), (.q (.move (.const (.bool false)))), none⟩]) 
    (.seq 
    (.region [⟨(some 4), (.q (.fieldAddr 0 (.tmp 2))), none⟩, ⟨(some 5), (.q (.load false 1 (.tmp 4))), none⟩, ⟨(some 6), (.q (.fieldAddr 0 (.tmp 1))), none⟩, ⟨(some 7), (.q (.load false 1 (.tmp 6))), none⟩, ⟨(some 8), (.q (.bin .gtr (.tmp 5) (.tmp 7))), none⟩, ⟨(some 3), (.q (.move (.tmp 8))), none⟩]) .ret))
theorem t48 : Told Try.prog 48 9 c48 [(.tmp 3)] := ⟨Try.f48, _, [], Try.func48, rfl, by kernel_rfl, rfl, by kernel_rfl, by kernel_rfl⟩
def c26 : ACode := 
    (.seq 
    (.region [⟨(some 2), (.q (.move (.const .nils))), none⟩]) 
    (.seq 
    (.region [⟨(some 9), (.q (.move (.tmp 0))), none⟩, ⟨(some 10), (.s (.call 50 [(.tmp 9)])), none⟩, ⟨(some 11), (.s (.call 56 [(.tmp 10), (.const (.func (.func 57) [] []))])), none⟩, ⟨(some 3), (.q (.move (.tmp 11))), none⟩]) 
    (.seq 
    (.region [⟨(some 12), (.q (.move (.tmp 3))), none⟩, ⟨(some 13), (.s (.call 58 [(.tmp 12), (.const (.func (.func 59) [] []))])), none⟩]) 
    (.seq 
    (.region [⟨(some 4), (.q (.move (.const .nils))), none⟩]) 
    (.seq 
    (.seq 
    (.region [⟨(some 14), (.q (.move (.tmp 3))), none⟩, ⟨(some 15), (.q (.len false (.tmp 14))), none⟩, ⟨(some 16), (.q (.move (.const (.int .i64 0)))), none⟩]) 
    (.block 0 
    (.loop 
    (.seq 
    (.region [⟨(some 17), (.q (.bin .lss (.tmp 16) (.tmp 15))), none⟩]) 
    (.seq 
    (.cond (.tmp 17) .skip (.exit 0)) 
    (.seq 
    (.block 1 
    (.seq 
    (.region [⟨(some 18), (.q (.idxSl 2 (.tmp 14) (.tmp 16))), none⟩, ⟨(some 19), (.q (.load true 2 (.tmp 18))), none⟩, ⟨(some 6), (.s (.alloc 64 [(.int .i64 0), (.int .i64 0)])), none⟩, ⟨none, (.s (.store 2 (.tmp 6) (.tmp 19))), none⟩]) 
    (.seq 
    (.region [⟨(some 20), (.q (.move (.tmp 4))), none⟩, ⟨(some 21), (.q (.len false (.tmp 20))), none⟩, ⟨(some 22), (.q (.bin .sub (.tmp 21) (.const (.int .i64 1)))), none⟩, ⟨(some 7), (.q (.move (.tmp 22))), none⟩]) 
    (.seq 
    (.seq 
    (.region [⟨(some 23), (.q (.move (.tmp 7))), none⟩, ⟨(some 24), (.q (.bin .lss (.tmp 23) (.const (.int .i64 0)))), none⟩, ⟨(some 25), (.q (.move (.tmp 24))), none⟩, ⟨(some 26), (.q (.fieldAddr 0 (.tmp 6))), (some (25, false))⟩, ⟨(some 27), (.q (.load false 1 (.tmp 26))), (some (25, false))⟩, ⟨(some 28), (.q (.move (.tmp 4))), (some (25, false))⟩, ⟨(some 29), (.q (.move (.tmp 7))), (some (25, false))⟩, ⟨(some 30), (.q (.idxSl 2 (.tmp 28) (.tmp 29))), (some (25, false))⟩, ⟨(some 31), (.q (.fieldAddr 0 (.tmp 30))), (some (25, false))⟩, ⟨(some 32), (.q (.load false 1 (.tmp 31))), (some (25, false))⟩, ⟨(some 33), (.q (.move (.tmp 4))), (some (25, false))⟩, ⟨(some 34), (.q (.move (.tmp 7))), (some (25, false))⟩, ⟨(some 35), (.q (.idxSl 2 (.tmp 33) (.tmp 34))), (some (25, false))⟩, ⟨(some 36), (.q (.fieldAddr 1 (.tmp 35))), (some (25, false))⟩, ⟨(some 37), (.q (.load false 1 (.tmp 36))), (some (25, false))⟩, ⟨(some 38), (.q (.bin .add (.tmp 32) (.tmp 37))), (some (25, false))⟩, ⟨(some 39), (.q (.bin .gtr (.tmp 27) (.tmp 38))), (some (25, false))⟩, ⟨(some 40), (.q (.pick (.tmp 25) (.const (.bool true)) (.tmp 39))), none⟩]) 
    (.cond (.tmp 40) 
    (.seq 
    (.region [⟨(some 41), (.q (.move (.tmp 4))), none⟩, ⟨(some 42), (.q (.load true 2 (.tmp 6))), none⟩, ⟨(some 43), (.s (.lit 64 2 [(.tmp 42)])), none⟩, ⟨(some 44), (.s (.app 64 2 16 (.tmp 41) (.tmp 43))), none⟩, ⟨(some 4), (.q (.move (.tmp 44))), none⟩]) (.exit 1)) .skip)) 
    (.seq 
    (.region [⟨(some 45), (.q (.move (.tmp 4))), none⟩, ⟨(some 46), (.q (.move (.tmp 7))), none⟩, ⟨(some 47), (.q (.idxSl 2 (.tmp 45) (.tmp 46))), none⟩, ⟨(some 48), (.q (.fieldAddr 0 (.tmp 47))), none⟩, ⟨(some 49), (.q (.load false 1 (.tmp 48))), none⟩, ⟨(some 50), (.q (.move (.tmp 4))), none⟩, ⟨(some 51), (.q (.move (.tmp 7))), none⟩, ⟨(some 52), (.q (.idxSl 2 (.tmp 50) (.tmp 51))), none⟩, ⟨(some 53), (.q (.fieldAddr 1 (.tmp 52))), none⟩, ⟨(some 54), (.q (.load false 1 (.tmp 53))), none⟩, ⟨(some 55), (.q (.bin .add (.tmp 49) (.tmp 54))), none⟩, ⟨(some 56), (.q (.fieldAddr 0 (.tmp 6))), none⟩, ⟨(some 57), (.q (.load false 1 (.tmp 56))), none⟩, ⟨(some 58), (.q (.fieldAddr 1 (.tmp 6))), none⟩, ⟨(some 59), (.q (.load false 1 (.tmp 58))), none⟩, ⟨(some 60), (.q (.bin .add (.tmp 57) (.tmp 59))), none⟩, ⟨(some 61), (.q (.best true (.tmp 55) (.tmp 60))), none⟩, ⟨(some 8), (.q (.move (.tmp 61))), none⟩]) 
    (.region [⟨(some 62), (.q (.move (.tmp 4))), none⟩, ⟨(some 63), (.q (.move (.tmp 7))), none⟩, ⟨(some 64), (.q (.move (.tmp 8))), none⟩, ⟨(some 65), (.q (.move (.tmp 4))), none⟩, ⟨(some 66), (.q (.move (.tmp 7))), none⟩, ⟨(some 67), (.q (.idxSl 2 (.tmp 65) (.tmp 66))), none⟩, ⟨(some 68), (.q (.fieldAddr 0 (.tmp 67))), none⟩, ⟨(some 69), (.q (.load false 1 (.tmp 68))), none⟩, ⟨(some 70), (.q (.bin .sub (.tmp 64) (.tmp 69))), none⟩, ⟨(some 71), (.q (.idxSl 2 (.tmp 62) (.tmp 63))), none⟩, ⟨(some 72), (.q (.fieldAddr 1 (.tmp 71))), none⟩, ⟨none, (.s (.store 1 (.tmp 72) (.tmp 70))), none⟩])))))) 
    (.region [⟨(some 73), (.q (.bin .add (.tmp 16) (.const (.int .i64 1)))), none⟩, ⟨(some 16), (.q (.move (.tmp 73))), none⟩]))))))) 
    (.seq 
    (.region [⟨(some 74), (.q (.move (.tmp 4))), none⟩, ⟨(some 2), (.q (.move (.tmp 74))), none⟩]) .ret))))))
theorem t26 : Told Try.prog 26 75 c26 [(.tmp 2)] := ⟨Try.f26, _, [], Try.func26, rfl, by kernel_rfl, rfl, by kernel_rfl, by kernel_rfl⟩
def c57 : ACode := 
    (.seq 
    (.region [⟨(some 1), (.s (.box 64 (.tmp 0))), none⟩, ⟨(some 2), (.q (.move (.const (.bool false)))), none⟩]) 
    (.seq 
    (.region [⟨(some 3), (.q (.load true 2 (.tmp 1))), none⟩, ⟨(some 4), (.s (.call 46 [(.tmp 3)])), none⟩, ⟨(some 5), (.q (.un .not (.tmp 4))), none⟩, ⟨(some 2), (.q (.move (.tmp 5))), none⟩]) .ret))
theorem t57 : Told Try.prog 57 6 c57 [(.tmp 2)] := ⟨Try.f57, _, [], Try.func57, rfl, by kernel_rfl, rfl, by kernel_rfl, by kernel_rfl⟩
def c28 : ACode := 
    (.seq 
    (.region [⟨(some 2), (.q (.move (.const .nils))), none⟩]) 
    (.seq 
    (.region [⟨(some 9), (.q (.move (.tmp 0))), none⟩, ⟨(some 10), (.s (.call 50 [(.tmp 9)])), none⟩, ⟨(some 11), (.q (.build [(.int .i64 0), (.int .i64 0)] [(1, (1, (.const (.int .i64 4096))))])), none⟩, ⟨(some 12), (.s (.lit 64 2 [(.tmp 11)])), none⟩, ⟨(some 13), (.s (.app 64 2 16 (.tmp 10) (.tmp 12))), none⟩, ⟨(some 3), (.q (.move (.tmp 13))), none⟩]) 
    (.seq 
    (.region [⟨(some 4), (.s (.alloc 27 [.nils])), none⟩]) 
    (.seq 
    (.region [⟨(some 5), (.s (.alloc 3 [(.int .i64 0)])), none⟩, ⟨none, (.s (.store 1 (.tmp 5) (.const (.int .i64 0)))), none⟩]) 
    (.seq 
    (.region [⟨(some 14), (.q (.mkFunc (.func 61) [] [(.tmp 5), (.tmp 4)])), none⟩, ⟨(some 6), (.q (.move (.tmp 14))), none⟩]) 
    (.seq 
    (.seq 
    (.region [⟨(some 15), (.q (.move (.tmp 3))), none⟩, ⟨(some 16), (.s (.call 26 [(.tmp 15)])), none⟩, ⟨(some 17), (.q (.len false (.tmp 16))), none⟩, ⟨(some 18), (.q (.move (.const (.int .i64 0)))), none⟩]) 
    (.block 0 
    (.loop 
    (.seq 
    (.region [⟨(some 19), (.q (.bin .lss (.tmp 18) (.tmp 17))), none⟩]) 
    (.seq 
    (.cond (.tmp 19) .skip (.exit 0)) 
    (.seq 
    (.block 1 
    (.seq 
    (.region [⟨(some 20), (.q (.idxSl 2 (.tmp 16) (.tmp 18))), none⟩, ⟨(some 21), (.q (.load true 2 (.tmp 20))), none⟩, ⟨(some 8), (.s (.alloc 64 [(.int .i64 0), (.int .i64 0)])), none⟩, ⟨none, (.s (.store 2 (.tmp 8) (.tmp 21))), none⟩]) 
    (.seq 
    (.region [⟨(some 22), (.q (.move (.tmp 6))), none⟩, ⟨(some 23), (.q (.fieldAddr 0 (.tmp 8))), none⟩, ⟨(some 24), (.q (.load false 1 (.tmp 23))), none⟩, ⟨(some 25), (.q (.best false (.tmp 24) (.const (.int .i64 65536)))), none⟩, ⟨(some 26), (.s (.callv (.tmp 22) [(.tmp 25)])), none⟩]) 
    (.region [⟨(some 27), (.q (.fieldAddr 0 (.tmp 8))), none⟩, ⟨(some 28), (.q (.load false 1 (.tmp 27))), none⟩, ⟨(some 29), (.q (.fieldAddr 1 (.tmp 8))), none⟩, ⟨(some 30), (.q (.load false 1 (.tmp 29))), none⟩, ⟨(some 31), (.q (.bin .add (.tmp 28) (.tmp 30))), none⟩, ⟨none, (.s (.store 1 (.tmp 5) (.tmp 31))), none⟩])))) 
    (.region [⟨(some 32), (.q (.bin .add (.tmp 18) (.const (.int .i64 1)))), none⟩, ⟨(some 18), (.q (.move (.tmp 32))), none⟩]))))))) 
    (.seq 
    (.region [⟨(some 33), (.q (.move (.tmp 6))), none⟩, ⟨(some 34), (.s (.callv (.tmp 33) [(.const (.int .i64 65536))])), none⟩]) 
    (.seq 
    (.region [⟨(some 35), (.q (.load false 1 (.tmp 4))), none⟩, ⟨(some 2), (.q (.move (.tmp 35))), none⟩]) .ret))))))))
theorem t28 : Told Try.prog 28 36 c28 [(.tmp 2)] := ⟨Try.f28, _, [], Try.func28, rfl, by kernel_rfl, rfl, by kernel_rfl, by kernel_rfl⟩
def c61 : ACode := 
    (.seq 
    (.region [⟨(some 4), (.q (.load false 1 (.tmp 1))), none⟩, ⟨(some 5), (.q (.move (.tmp 0))), none⟩, ⟨(some 6), (.q (.bin .lss (.tmp 4) (.tmp 5))), none⟩]) 
    (.cond (.tmp 6) 
    (.region [⟨(some 7), (.q (.load false 1 (.tmp 2))), none⟩, ⟨(some 8), (.q (.load false 1 (.tmp 1))), none⟩, ⟨(some 9), (.q (.move (.tmp 0))), none⟩, ⟨(some 10), (.q (.load false 1 (.tmp 1))), none⟩, ⟨(some 11), (.q (.bin .sub (.tmp 9) (.tmp 10))), none⟩, ⟨(some 12), (.q (.build [(.int .i64 0), (.int .i64 0)] [(0, (1, (.tmp 8))), (1, (1, (.tmp 11)))])), none⟩, ⟨(some 13), (.s (.lit 64 2 [(.tmp 12)])), none⟩, ⟨(some 14), (.s (.app 64 2 16 (.tmp 7) (.tmp 13))), none⟩, ⟨none, (.s (.store 1 (.tmp 2) (.tmp 14))), none⟩]) .skip))
theorem t61 : Told Try.prog 61 15 c61 [] := ⟨Try.f61, _, [], Try.func61, rfl, by kernel_rfl, rfl, by kernel_rfl, by kernel_rfl⟩
def c51 : ACode := 
    (.seq 
    (.region [⟨(some 1), (.s (.box 64 (.tmp 0))), none⟩, ⟨(some 2), (.q (.move (.const (.bool false)))), none⟩]) 
    (.seq 
    (.region [⟨(some 3), (.q (.fieldAddr 0 (.tmp 1))), none⟩, ⟨(some 4), (.q (.load false 1 (.tmp 3))), none⟩, ⟨(some 5), (.q (.bin .geq (.tmp 4) (.const (.int .i64 0)))), none⟩, ⟨(some 6), (.q (.move (.tmp 5))), none⟩, ⟨(some 7), (.q (.fieldAddr 0 (.tmp 1))), (some (6, true))⟩, ⟨(some 8), (.q (.load false 1 (.tmp 7))), (some (6, true))⟩, ⟨(some 9), (.q (.bin .leq (.tmp 8) (.const (.int .i64 4294967295)))), (some (6, true))⟩, ⟨(some 10), (.q (.pick (.tmp 6) (.tmp 9) (.const (.bool false)))), none⟩, ⟨(some 11), (.q (.move (.tmp 10))), none⟩, ⟨(some 12), (.q (.fieldAddr 1 (.tmp 1))), (some (11, true))⟩, ⟨(some 13), (.q (.load false 1 (.tmp 12))), (some (11, true))⟩, ⟨(some 14), (.q (.bin .geq (.tmp 13) (.const (.int .i64 0)))), (some (11, true))⟩, ⟨(some 15), (.q (.pick (.tmp 11) (.tmp 14) (.const (.bool false)))), none⟩, ⟨(some 16), (.q (.move (.tmp 15))), none⟩, ⟨(some 17), (.q (.fieldAddr 1 (.tmp 1))), (some (16, true))⟩, ⟨(some 18), (.q (.load false 1 (.tmp 17))), (some (16, true))⟩, ⟨(some 19), (.q (.bin .leq (.tmp 18) (.const (.int .i64 4294967295)))), (some (16, true))⟩, ⟨(some 20), (.q (.pick (.tmp 16) (.tmp 19) (.const (.bool false)))), none⟩, ⟨(some 2), (.q (.move (.tmp 20))), none⟩]) .ret))
theorem t51 : Told Try.prog 51 21 c51 [(.tmp 2)] := ⟨Try.f51, _, [], Try.func51, rfl, by kernel_rfl, rfl, by kernel_rfl, by kernel_rfl⟩
def c23 : ACode := 
    (.seq 
    (.region [⟨(some 2), (.s (.box 64 (.tmp 0))), none⟩, ⟨(some 4), (.q (.move (.const (.bool false)))), none⟩]) 
    (.seq 
    (.seq 
    (.region [⟨(some 5), (.q (.move (.const (.int .i64 0)))), none⟩]) 
    (.block 0 
    (.loop 
    (.seq 
    (.seq 
    (.region [⟨(some 7), (.q (.move (.tmp 5))), none⟩, ⟨(some 8), (.q (.move (.tmp 1))), none⟩, ⟨(some 9), (.q (.len false (.tmp 8))), none⟩, ⟨(some 10), (.q (.bin .lss (.tmp 7) (.tmp 9))), none⟩]) 
    (.cond (.tmp 10) .skip (.exit 0))) 
    (.seq 
    (.block 1 
    (.seq 
    (.region [⟨(some 13), (.q (.move (.tmp 1))), none⟩, ⟨(some 14), (.q (.move (.tmp 5))), none⟩, ⟨(some 15), (.q (.idxSl 2 (.tmp 13) (.tmp 14))), none⟩, ⟨(some 16), (.q (.load true 2 (.tmp 15))), none⟩, ⟨(some 6), (.s (.alloc 64 [(.int .i64 0), (.int .i64 0)])), none⟩, ⟨none, (.s (.store 2 (.tmp 6) (.tmp 16))), none⟩]) 
    (.seq 
    (.region [⟨(some 17), (.q (.load true 2 (.tmp 2))), none⟩, ⟨(some 18), (.s (.call 51 [(.tmp 17)])), none⟩, ⟨(some 19), (.q (.move (.tmp 18))), none⟩, ⟨(some 20), (.q (.load true 2 (.tmp 6))), (some (19, true))⟩, ⟨(some 21), (.s (.call 51 [(.tmp 20)])), (some (19, true))⟩, ⟨(some 22), (.q (.pick (.tmp 19) (.tmp 21) (.const (.bool false)))), none⟩, ⟨(some 23), (.q (.move (.tmp 22))), none⟩, ⟨(some 24), (.q (.fieldAddr 1 (.tmp 2))), (some (23, true))⟩, ⟨(some 25), (.q (.load false 1 (.tmp 24))), (some (23, true))⟩, ⟨(some 26), (.q (.bin .gtr (.tmp 25) (.const (.int .i64 0)))), (some (23, true))⟩, ⟨(some 27), (.q (.pick (.tmp 23) (.tmp 26) (.const (.bool false)))), none⟩, ⟨(some 28), (.q (.move (.tmp 27))), none⟩, ⟨(some 29), (.q (.fieldAddr 1 (.tmp 6))), (some (28, true))⟩, ⟨(some 30), (.q (.load false 1 (.tmp 29))), (some (28, true))⟩, ⟨(some 31), (.q (.bin .gtr (.tmp 30) (.const (.int .i64 0)))), (some (28, true))⟩, ⟨(some 32), (.q (.pick (.tmp 28) (.tmp 31) (.const (.bool false)))), none⟩, ⟨(some 33), (.q (.move (.tmp 32))), none⟩, ⟨(some 34), (.q (.fieldAddr 0 (.tmp 2))), (some (33, true))⟩, ⟨(some 35), (.q (.load false 1 (.tmp 34))), (some (33, true))⟩, ⟨(some 36), (.q (.fieldAddr 0 (.tmp 6))), (some (33, true))⟩, ⟨(some 37), (.q (.load false 1 (.tmp 36))), (some (33, true))⟩, ⟨(some 38), (.q (.fieldAddr 1 (.tmp 6))), (some (33, true))⟩, ⟨(some 39), (.q (.load false 1 (.tmp 38))), (some (33, true))⟩, ⟨(some 40), (.q (.bin .add (.tmp 37) (.tmp 39))), (some (33, true))⟩, ⟨(some 41), (.q (.bin .lss (.tmp 35) (.tmp 40))), (some (33, true))⟩, ⟨(some 42), (.q (.pick (.tmp 33) (.tmp 41) (.const (.bool false)))), none⟩, ⟨(some 43), (.q (.move (.tmp 42))), none⟩, ⟨(some 44), (.q (.fieldAddr 0 (.tmp 6))), (some (43, true))⟩, ⟨(some 45), (.q (.load false 1 (.tmp 44))), (some (43, true))⟩, ⟨(some 46), (.q (.fieldAddr 0 (.tmp 2))), (some (43, true))⟩, ⟨(some 47), (.q (.load false 1 (.tmp 46))), (some (43, true))⟩, ⟨(some 48), (.q (.fieldAddr 1 (.tmp 2))), (some (43, true))⟩, ⟨(some 49), (.q (.load false 1 (.tmp 48))), (some (43, true))⟩, ⟨(some 50), (.q (.bin .add (.tmp 47) (.tmp 49))), (some (43, true))⟩, ⟨(some 51), (.q (.bin .lss (.tmp 45) (.tmp 50))), (some (43, true))⟩, ⟨(some 52), (.q (.pick (.tmp 43) (.tmp 51) (.const (.bool false)))), none⟩]) 
    (.cond (.tmp 52) 
    (.seq 
    (.region [⟨(some 4), (.q (.move (.const (.bool true)))), none⟩]) .ret) .skip)))) 
    (.region [⟨(some 11), (.q (.move (.tmp 5))), none⟩, ⟨(some 12), (.q (.bin .add (.tmp 11) (.const (.int .i64 1)))), none⟩, ⟨(some 5), (.q (.move (.tmp 12))), none⟩])))))) 
    (.seq 
    (.region [⟨(some 4), (.q (.move (.const (.bool false)))), none⟩]) .ret)))
theorem t23 : Told Try.prog 23 53 c23 [(.tmp 4)] := ⟨Try.f23, _, [], Try.func23, rfl, by kernel_rfl, rfl, by kernel_rfl, by kernel_rfl⟩
def c25 : ACode := 
    (.seq 
    (.region [⟨(some 4), (.q (.move (.const (.bool false)))), none⟩]) 
    (.seq 
    (.seq 
    (.region [⟨(some 5), (.q (.move (.const (.int .i64 0)))), none⟩]) 
    (.block 0 
    (.loop 
    (.seq 
    (.seq 
    (.region [⟨(some 6), (.q (.move (.tmp 5))), none⟩, ⟨(some 7), (.q (.move (.tmp 0))), none⟩, ⟨(some 8), (.q (.len false (.tmp 7))), none⟩, ⟨(some 9), (.q (.bin .lss (.tmp 6) (.tmp 8))), none⟩]) 
    (.cond (.tmp 9) .skip (.exit 0))) 
    (.seq 
    (.block 1 
    (.seq 
    (.region [⟨(some 12), (.q (.move (.tmp 0))), none⟩, ⟨(some 13), (.q (.move (.tmp 5))), none⟩, ⟨(some 14), (.q (.idxSl 2 (.tmp 12) (.tmp 13))), none⟩, ⟨(some 15), (.q (.load true 2 (.tmp 14))), none⟩, ⟨(some 16), (.s (.call 51 [(.tmp 15)])), none⟩, ⟨(some 17), (.q (.move (.tmp 16))), none⟩, ⟨(some 18), (.q (.move (.tmp 1))), (some (17, true))⟩, ⟨(some 19), (.q (.move (.tmp 0))), (some (17, true))⟩, ⟨(some 20), (.q (.move (.tmp 5))), (some (17, true))⟩, ⟨(some 21), (.q (.idxSl 2 (.tmp 19) (.tmp 20))), (some (17, true))⟩, ⟨(some 22), (.q (.fieldAddr 0 (.tmp 21))), (some (17, true))⟩, ⟨(some 23), (.q (.load false 1 (.tmp 22))), (some (17, true))⟩, ⟨(some 24), (.q (.bin .geq (.tmp 18) (.tmp 23))), (some (17, true))⟩, ⟨(some 25), (.q (.pick (.tmp 17) (.tmp 24) (.const (.bool false)))), none⟩, ⟨(some 26), (.q (.move (.tmp 25))), none⟩, ⟨(some 27), (.q (.move (.tmp 1))), (some (26, true))⟩, ⟨(some 28), (.q (.move (.tmp 0))), (some (26, true))⟩, ⟨(some 29), (.q (.move (.tmp 5))), (some (26, true))⟩, ⟨(some 30), (.q (.idxSl 2 (.tmp 28) (.tmp 29))), (some (26, true))⟩, ⟨(some 31), (.q (.fieldAddr 0 (.tmp 30))), (some (26, true))⟩, ⟨(some 32), (.q (.load false 1 (.tmp 31))), (some (26, true))⟩, ⟨(some 33), (.q (.move (.tmp 0))), (some (26, true))⟩, ⟨(some 34), (.q (.move (.tmp 5))), (some (26, true))⟩, ⟨(some 35), (.q (.idxSl 2 (.tmp 33) (.tmp 34))), (some (26, true))⟩, ⟨(some 36), (.q (.fieldAddr 1 (.tmp 35))), (some (26, true))⟩, ⟨(some 37), (.q (.load false 1 (.tmp 36))), (some (26, true))⟩, ⟨(some 38), (.q (.bin .add (.tmp 32) (.tmp 37))), (some (26, true))⟩, ⟨(some 39), (.q (.bin .lss (.tmp 27) (.tmp 38))), (some (26, true))⟩, ⟨(some 40), (.q (.pick (.tmp 26) (.tmp 39) (.const (.bool false)))), none⟩]) 
    (.cond (.tmp 40) 
    (.seq 
    (.region [⟨(some 4), (.q (.move (.const (.bool true)))), none⟩]) .ret) .skip))) 
    (.region [⟨(some 10), (.q (.move (.tmp 5))), none⟩, ⟨(some 11), (.q (.bin .add (.tmp 10) (.const (.int .i64 1)))), none⟩, ⟨(some 5), (.q (.move (.tmp 11))), none⟩])))))) 
    (.seq 
    (.region [⟨(some 4), (.q (.move (.const (.bool false)))), none⟩]) .ret)))
theorem t25 : Told Try.prog 25 41 c25 [(.tmp 4)] := ⟨Try.f25, _, [], Try.func25, rfl, by kernel_rfl, rfl, by kernel_rfl, by kernel_rfl⟩
def c20 : ACode := 
    (.seq 
    (.region [⟨(some 3), (.s (.box 64 (.tmp 1))), none⟩, ⟨(some 4), (.q (.move (.const .nils))), none⟩, ⟨(some 5), (.q (.move (.const (.int .i64 0)))), none⟩]) 
    (.seq 
    (.block 0 
    (.seq 
    (.region [⟨(some 9), (.q (.load true 2 (.tmp 3))), none⟩, ⟨(some 10), (.s (.call 51 [(.tmp 9)])), none⟩, ⟨(some 11), (.q (.un .not (.tmp 10))), none⟩, ⟨(some 12), (.q (.move (.tmp 11))), none⟩, ⟨(some 13), (.q (.fieldAddr 1 (.tmp 3))), (some (12, false))⟩, ⟨(some 14), (.q (.load false 1 (.tmp 13))), (some (12, false))⟩, ⟨(some 15), (.q (.bin .eql (.tmp 14) (.const (.int .i64 0)))), (some (12, false))⟩, ⟨(some 16), (.q (.pick (.tmp 12) (.const (.bool true)) (.tmp 15))), none⟩, ⟨(some 8), (.q (.move (.tmp 16))), none⟩]) 
    (.cond (.tmp 8) 
    (.seq 
    (.region [⟨(some 4), (.q (.move (.const .nils))), none⟩, ⟨(some 5), (.q (.move (.const (.int .i64 1)))), none⟩]) .ret) 
    (.seq 
    (.region [⟨(some 18), (.q (.move (.tmp 0))), none⟩, ⟨(some 19), (.q (.len false (.tmp 18))), none⟩, ⟨(some 20), (.q (.bin .geq (.tmp 19) (.const (.int .i64 16)))), none⟩, ⟨(some 17), (.q (.move (.tmp 20))), none⟩]) 
    (.cond (.tmp 17) 
    (.seq 
    (.region [⟨(some 4), (.q (.move (.const .nils))), none⟩, ⟨(some 5), (.q (.move (.const (.int .i64 7)))), none⟩]) .ret) 
    (.seq 
    (.region [⟨(some 22), (.q (.load true 2 (.tmp 3))), none⟩, ⟨(some 23), (.q (.move (.tmp 0))), none⟩, ⟨(some 24), (.s (.call 23 [(.tmp 22), (.tmp 23)])), none⟩, ⟨(some 21), (.q (.move (.tmp 24))), none⟩]) 
    (.cond (.tmp 21) 
    (.seq 
    (.region [⟨(some 4), (.q (.move (.const .nils))), none⟩, ⟨(some 5), (.q (.move (.const (.int .i64 12)))), none⟩]) .ret) .skip))))))) 
    (.seq 
    (.region [⟨(some 6), (.q (.move (.const (.int .i64 0)))), none⟩]) 
    (.seq 
    (.block 1 
    (.loop 
    (.seq 
    (.seq 
    (.region [⟨(some 25), (.q (.move (.tmp 6))), none⟩, ⟨(some 26), (.q (.move (.tmp 0))), none⟩, ⟨(some 27), (.q (.len false (.tmp 26))), none⟩, ⟨(some 28), (.q (.bin .lss (.tmp 25) (.tmp 27))), none⟩, ⟨(some 29), (.q (.move (.tmp 28))), none⟩, ⟨(some 30), (.q (.move (.tmp 0))), (some (29, true))⟩, ⟨(some 31), (.q (.move (.tmp 6))), (some (29, true))⟩, ⟨(some 32), (.q (.idxSl 2 (.tmp 30) (.tmp 31))), (some (29, true))⟩, ⟨(some 33), (.q (.fieldAddr 0 (.tmp 32))), (some (29, true))⟩, ⟨(some 34), (.q (.load false 1 (.tmp 33))), (some (29, true))⟩, ⟨(some 35), (.q (.fieldAddr 0 (.tmp 3))), (some (29, true))⟩, ⟨(some 36), (.q (.load false 1 (.tmp 35))), (some (29, true))⟩, ⟨(some 37), (.q (.bin .leq (.tmp 34) (.tmp 36))), (some (29, true))⟩, ⟨(some 38), (.q (.pick (.tmp 29) (.tmp 37) (.const (.bool false)))), none⟩]) 
    (.cond (.tmp 38) .skip (.exit 1))) 
    (.block 2 
    (.region [⟨(some 39), (.q (.move (.tmp 6))), none⟩, ⟨(some 40), (.q (.bin .add (.tmp 39) (.const (.int .i64 1)))), none⟩, ⟨(some 6), (.q (.move (.tmp 40))), none⟩]))))) 
    (.seq 
    (.region [⟨(some 7), (.q (.move (.const .nils))), none⟩]) 
    (.seq 
    (.region [⟨(some 41), (.q (.move (.tmp 7))), none⟩, ⟨(some 42), (.q (.move (.tmp 0))), none⟩, ⟨(some 43), (.q (.move (.tmp 6))), none⟩, ⟨(some 44), (.q (.sliceSl 2 (.tmp 42) none (some (.tmp 43)))), none⟩, ⟨(some 45), (.s (.app 64 2 16 (.tmp 41) (.tmp 44))), none⟩, ⟨(some 7), (.q (.move (.tmp 45))), none⟩]) 
    (.seq 
    (.region [⟨(some 46), (.q (.move (.tmp 7))), none⟩, ⟨(some 47), (.q (.load true 2 (.tmp 3))), none⟩, ⟨(some 48), (.s (.lit 64 2 [(.tmp 47)])), none⟩, ⟨(some 49), (.s (.app 64 2 16 (.tmp 46) (.tmp 48))), none⟩, ⟨(some 7), (.q (.move (.tmp 49))), none⟩]) 
    (.seq 
    (.region [⟨(some 50), (.q (.move (.tmp 7))), none⟩, ⟨(some 51), (.q (.move (.tmp 0))), none⟩, ⟨(some 52), (.q (.move (.tmp 6))), none⟩, ⟨(some 53), (.q (.sliceSl 2 (.tmp 51) (some (.tmp 52)) none)), none⟩, ⟨(some 54), (.s (.app 64 2 16 (.tmp 50) (.tmp 53))), none⟩, ⟨(some 7), (.q (.move (.tmp 54))), none⟩]) 
    (.seq 
    (.region [⟨(some 55), (.q (.move (.tmp 7))), none⟩, ⟨(some 4), (.q (.move (.tmp 55))), none⟩, ⟨(some 5), (.q (.move (.const (.int .i64 0)))), none⟩]) .ret)))))))))
theorem t20 : Told Try.prog 20 56 c20 [(.tmp 4), (.tmp 5)] := ⟨Try.f20, _, [], Try.func20, rfl, by kernel_rfl, rfl, by kernel_rfl, by kernel_rfl⟩
def c27 : ACode := 
    (.seq 
    (.region [⟨(some 2), (.q (.move (.const .nils))), none⟩]) 
    (.seq 
    (.region [⟨(some 3), (.q (.move (.const .nils))), none⟩]) 
    (.seq 
    (.region [⟨(some 4), (.q (.move (.const (.int .i64 (-1))))), none⟩]) 
    (.block 0 
    (.loop 
    (.block 1 
    (.seq 
    (.region [⟨(some 5), (.q (.move (.const (.int .i64 (-1))))), none⟩]) 
    (.seq 
    (.seq 
    (.region [⟨(some 6), (.q (.move (.const (.int .i64 0)))), none⟩]) 
    (.block 2 
    (.loop 
    (.seq 
    (.seq 
    (.region [⟨(some 10), (.q (.move (.tmp 6))), none⟩, ⟨(some 11), (.q (.move (.tmp 0))), none⟩, ⟨(some 12), (.q (.len false (.tmp 11))), none⟩, ⟨(some 13), (.q (.bin .lss (.tmp 10) (.tmp 12))), none⟩]) 
    (.cond (.tmp 13) .skip (.exit 2))) 
    (.seq 
    (.block 3 
    (.seq 
    (.region [⟨(some 16), (.q (.move (.tmp 0))), none⟩, ⟨(some 17), (.q (.move (.tmp 6))), none⟩, ⟨(some 18), (.q (.idxSl 2 (.tmp 16) (.tmp 17))), none⟩, ⟨(some 19), (.q (.load true 2 (.tmp 18))), none⟩, ⟨(some 20), (.s (.call 51 [(.tmp 19)])), none⟩, ⟨(some 21), (.q (.move (.tmp 20))), none⟩, ⟨(some 22), (.q (.move (.tmp 0))), (some (21, true))⟩, ⟨(some 23), (.q (.move (.tmp 6))), (some (21, true))⟩, ⟨(some 24), (.q (.idxSl 2 (.tmp 22) (.tmp 23))), (some (21, true))⟩, ⟨(some 25), (.q (.fieldAddr 1 (.tmp 24))), (some (21, true))⟩, ⟨(some 26), (.q (.load false 1 (.tmp 25))), (some (21, true))⟩, ⟨(some 27), (.q (.bin .gtr (.tmp 26) (.const (.int .i64 0)))), (some (21, true))⟩, ⟨(some 28), (.q (.pick (.tmp 21) (.tmp 27) (.const (.bool false)))), none⟩, ⟨(some 29), (.q (.move (.tmp 28))), none⟩, ⟨(some 30), (.q (.move (.tmp 0))), (some (29, true))⟩, ⟨(some 31), (.q (.move (.tmp 6))), (some (29, true))⟩, ⟨(some 32), (.q (.idxSl 2 (.tmp 30) (.tmp 31))), (some (29, true))⟩, ⟨(some 33), (.q (.fieldAddr 0 (.tmp 32))), (some (29, true))⟩, ⟨(some 34), (.q (.load false 1 (.tmp 33))), (some (29, true))⟩, ⟨(some 35), (.q (.move (.tmp 4))), (some (29, true))⟩, ⟨(some 36), (.q (.bin .gtr (.tmp 34) (.tmp 35))), (some (29, true))⟩, ⟨(some 37), (.q (.pick (.tmp 29) (.tmp 36) (.const (.bool false)))), none⟩, ⟨(some 38), (.q (.move (.tmp 37))), none⟩, ⟨(some 39), (.q (.move (.tmp 5))), (some (38, true))⟩, ⟨(some 40), (.q (.bin .lss (.tmp 39) (.const (.int .i64 0)))), (some (38, true))⟩, ⟨(some 41), (.q (.move (.tmp 40))), (some (38, true))⟩, ⟨(some 42), (.q (.move (.tmp 0))), (some (41, false))⟩, ⟨(some 43), (.q (.move (.tmp 6))), (some (41, false))⟩, ⟨(some 44), (.q (.idxSl 2 (.tmp 42) (.tmp 43))), (some (41, false))⟩, ⟨(some 45), (.q (.fieldAddr 0 (.tmp 44))), (some (41, false))⟩, ⟨(some 46), (.q (.load false 1 (.tmp 45))), (some (41, false))⟩, ⟨(some 47), (.q (.move (.tmp 5))), (some (41, false))⟩, ⟨(some 48), (.q (.bin .lss (.tmp 46) (.tmp 47))), (some (41, false))⟩, ⟨(some 49), (.q (.pick (.tmp 41) (.const (.bool true)) (.tmp 48))), (some (38, true))⟩, ⟨(some 50), (.q (.pick (.tmp 38) (.tmp 49) (.const (.bool false)))), none⟩]) 
    (.cond (.tmp 50) 
    (.region [⟨(some 51), (.q (.move (.tmp 0))), none⟩, ⟨(some 52), (.q (.move (.tmp 6))), none⟩, ⟨(some 53), (.q (.idxSl 2 (.tmp 51) (.tmp 52))), none⟩, ⟨(some 54), (.q (.fieldAddr 0 (.tmp 53))), none⟩, ⟨(some 55), (.q (.load false 1 (.tmp 54))), none⟩, ⟨(some 5), (.q (.move (.tmp 55))), none⟩]) .skip))) 
    (.region [⟨(some 14), (.q (.move (.tmp 6))), none⟩, ⟨(some 15), (.q (.bin .add (.tmp 14) (.const (.int .i64 1)))), none⟩, ⟨(some 6), (.q (.move (.tmp 15))), none⟩])))))) 
    (.seq 
    (.seq 
    (.region [⟨(some 56), (.q (.move (.tmp 5))), none⟩, ⟨(some 57), (.q (.bin .lss (.tmp 56) (.const (.int .i64 0)))), none⟩]) 
    (.cond (.tmp 57) 
    (.seq 
    (.region [⟨(some 58), (.q (.move (.tmp 3))), none⟩, ⟨(some 2), (.q (.move (.tmp 58))), none⟩]) .ret) .skip)) 
    (.seq 
    (.region [⟨(some 59), (.q (.move (.tmp 5))), none⟩, ⟨(some 7), (.q (.move (.tmp 59))), none⟩]) 
    (.seq 
    (.seq 
    (.region [⟨(some 8), (.q (.move (.const (.int .i64 0)))), none⟩]) 
    (.block 4 
    (.loop 
    (.seq 
    (.seq 
    (.region [⟨(some 60), (.q (.move (.tmp 8))), none⟩, ⟨(some 61), (.q (.move (.tmp 0))), none⟩, ⟨(some 62), (.q (.len false (.tmp 61))), none⟩, ⟨(some 63), (.q (.bin .leq (.tmp 60) (.tmp 62))), none⟩]) 
    (.cond (.tmp 63) .skip (.exit 4))) 
    (.seq 
    (.block 5 
    (.seq 
    (.region [⟨(some 9), (.q (.move (.const (.int .i64 0)))), none⟩]) 
    (.block 6 
    (.loop 
    (.seq 
    (.seq 
    (.region [⟨(some 66), (.q (.move (.tmp 9))), none⟩, ⟨(some 67), (.q (.move (.tmp 0))), none⟩, ⟨(some 68), (.q (.len false (.tmp 67))), none⟩, ⟨(some 69), (.q (.bin .lss (.tmp 66) (.tmp 68))), none⟩]) 
    (.cond (.tmp 69) .skip (.exit 6))) 
    (.seq 
    (.block 7 
    (.seq 
    (.region [⟨(some 72), (.q (.move (.tmp 0))), none⟩, ⟨(some 73), (.q (.move (.tmp 9))), none⟩, ⟨(some 74), (.q (.idxSl 2 (.tmp 72) (.tmp 73))), none⟩, ⟨(some 75), (.q (.load true 2 (.tmp 74))), none⟩, ⟨(some 76), (.s (.call 51 [(.tmp 75)])), none⟩, ⟨(some 77), (.q (.move (.tmp 76))), none⟩, ⟨(some 78), (.q (.move (.tmp 0))), (some (77, true))⟩, ⟨(some 79), (.q (.move (.tmp 9))), (some (77, true))⟩, ⟨(some 80), (.q (.idxSl 2 (.tmp 78) (.tmp 79))), (some (77, true))⟩, ⟨(some 81), (.q (.fieldAddr 1 (.tmp 80))), (some (77, true))⟩, ⟨(some 82), (.q (.load false 1 (.tmp 81))), (some (77, true))⟩, ⟨(some 83), (.q (.bin .gtr (.tmp 82) (.const (.int .i64 0)))), (some (77, true))⟩, ⟨(some 84), (.q (.pick (.tmp 77) (.tmp 83) (.const (.bool false)))), none⟩, ⟨(some 85), (.q (.move (.tmp 84))), none⟩, ⟨(some 86), (.q (.move (.tmp 0))), (some (85, true))⟩, ⟨(some 87), (.q (.move (.tmp 9))), (some (85, true))⟩, ⟨(some 88), (.q (.idxSl 2 (.tmp 86) (.tmp 87))), (some (85, true))⟩, ⟨(some 89), (.q (.fieldAddr 0 (.tmp 88))), (some (85, true))⟩, ⟨(some 90), (.q (.load false 1 (.tmp 89))), (some (85, true))⟩, ⟨(some 91), (.q (.move (.tmp 7))), (some (85, true))⟩, ⟨(some 92), (.q (.bin .leq (.tmp 90) (.tmp 91))), (some (85, true))⟩, ⟨(some 93), (.q (.pick (.tmp 85) (.tmp 92) (.const (.bool false)))), none⟩, ⟨(some 94), (.q (.move (.tmp 93))), none⟩, ⟨(some 95), (.q (.move (.tmp 0))), (some (94, true))⟩, ⟨(some 96), (.q (.move (.tmp 9))), (some (94, true))⟩, ⟨(some 97), (.q (.idxSl 2 (.tmp 95) (.tmp 96))), (some (94, true))⟩, ⟨(some 98), (.q (.fieldAddr 0 (.tmp 97))), (some (94, true))⟩, ⟨(some 99), (.q (.load false 1 (.tmp 98))), (some (94, true))⟩, ⟨(some 100), (.q (.move (.tmp 0))), (some (94, true))⟩, ⟨(some 101), (.q (.move (.tmp 9))), (some (94, true))⟩, ⟨(some 102), (.q (.idxSl 2 (.tmp 100) (.tmp 101))), (some (94, true))⟩, ⟨(some 103), (.q (.fieldAddr 1 (.tmp 102))), (some (94, true))⟩, ⟨(some 104), (.q (.load false 1 (.tmp 103))), (some (94, true))⟩, ⟨(some 105), (.q (.bin .add (.tmp 99) (.tmp 104))), (some (94, true))⟩, ⟨(some 106), (.q (.move (.tmp 7))), (some (94, true))⟩, ⟨(some 107), (.q (.bin .gtr (.tmp 105) (.tmp 106))), (some (94, true))⟩, ⟨(some 108), (.q (.pick (.tmp 94) (.tmp 107) (.const (.bool false)))), none⟩]) 
    (.cond (.tmp 108) 
    (.region [⟨(some 109), (.q (.move (.tmp 0))), none⟩, ⟨(some 110), (.q (.move (.tmp 9))), none⟩, ⟨(some 111), (.q (.idxSl 2 (.tmp 109) (.tmp 110))), none⟩, ⟨(some 112), (.q (.fieldAddr 0 (.tmp 111))), none⟩, ⟨(some 113), (.q (.load false 1 (.tmp 112))), none⟩, ⟨(some 114), (.q (.move (.tmp 0))), none⟩, ⟨(some 115), (.q (.move (.tmp 9))), none⟩, ⟨(some 116), (.q (.idxSl 2 (.tmp 114) (.tmp 115))), none⟩, ⟨(some 117), (.q (.fieldAddr 1 (.tmp 116))), none⟩, ⟨(some 118), (.q (.load false 1 (.tmp 117))), none⟩, ⟨(some 119), (.q (.bin .add (.tmp 113) (.tmp 118))), none⟩, ⟨(some 7), (.q (.move (.tmp 119))), none⟩]) .skip))) 
    (.region [⟨(some 70), (.q (.move (.tmp 9))), none⟩, ⟨(some 71), (.q (.bin .add (.tmp 70) (.const (.int .i64 1)))), none⟩, ⟨(some 9), (.q (.move (.tmp 71))), none⟩]))))))) 
    (.region [⟨(some 64), (.q (.move (.tmp 8))), none⟩, ⟨(some 65), (.q (.bin .add (.tmp 64) (.const (.int .i64 1)))), none⟩, ⟨(some 8), (.q (.move (.tmp 65))), none⟩])))))) 
    (.seq 
    (.region [⟨(some 120), (.q (.move (.tmp 3))), none⟩, ⟨(some 121), (.q (.move (.tmp 5))), none⟩, ⟨(some 122), (.q (.move (.tmp 7))), none⟩, ⟨(some 123), (.q (.move (.tmp 5))), none⟩, ⟨(some 124), (.q (.bin .sub (.tmp 122) (.tmp 123))), none⟩, ⟨(some 125), (.q (.build [(.int .i64 0), (.int .i64 0)] [(0, (1, (.tmp 121))), (1, (1, (.tmp 124)))])), none⟩, ⟨(some 126), (.s (.lit 64 2 [(.tmp 125)])), none⟩, ⟨(some 127), (.s (.app 64 2 16 (.tmp 120) (.tmp 126))), none⟩, ⟨(some 3), (.q (.move (.tmp 127))), none⟩]) 
    (.region [⟨(some 128), (.q (.move (.tmp 7))), none⟩, ⟨(some 4), (.q (.move (.tmp 128))), none⟩])))))))))))))
theorem t27 : Told Try.prog 27 129 c27 [(.tmp 2)] := ⟨Try.f27, _, [], Try.func27, rfl, by kernel_rfl, rfl, by kernel_rfl, by kernel_rfl⟩
def c29 : ACode := 
    (.seq 
    (.region [⟨(some 2), (.q (.move (.const .nils))), none⟩]) 
    (.seq 
    (.region [⟨(some 3), (.q (.move (.const .nils))), none⟩]) 
    (.seq 
    (.region [⟨(some 4), (.q (.move (.const (.int .i64 4096)))), none⟩]) 
    (.seq 
    (.region [⟨(some 7), (.q (.move (.tmp 0))), none⟩, ⟨(some 8), (.s (.call 27 [(.tmp 7)])), none⟩, ⟨(some 5), (.q (.move (.tmp 8))), none⟩]) 
    (.seq 
    (.seq 
    (.region [⟨(some 6), (.q (.move (.const (.int .i64 0)))), none⟩]) 
    (.block 0 
    (.loop 
    (.seq 
    (.seq 
    (.region [⟨(some 9), (.q (.move (.tmp 6))), none⟩, ⟨(some 10), (.q (.move (.tmp 5))), none⟩, ⟨(some 11), (.q (.len false (.tmp 10))), none⟩, ⟨(some 12), (.q (.bin .lss (.tmp 9) (.tmp 11))), none⟩]) 
    (.cond (.tmp 12) .skip (.exit 0))) 
    (.seq 
    (.block 1 
    (.seq 
    (.seq 
    (.region [⟨(some 15), (.q (.move (.tmp 5))), none⟩, ⟨(some 16), (.q (.move (.tmp 6))), none⟩, ⟨(some 17), (.q (.idxSl 2 (.tmp 15) (.tmp 16))), none⟩, ⟨(some 18), (.q (.fieldAddr 0 (.tmp 17))), none⟩, ⟨(some 19), (.q (.load false 1 (.tmp 18))), none⟩, ⟨(some 20), (.q (.move (.tmp 4))), none⟩, ⟨(some 21), (.q (.bin .gtr (.tmp 19) (.tmp 20))), none⟩, ⟨(some 22), (.q (.move (.tmp 21))), none⟩, ⟨(some 23), (.q (.move (.tmp 4))), (some (22, true))⟩, ⟨(some 24), (.q (.bin .lss (.tmp 23) (.const (.int .i64 65536)))), (some (22, true))⟩, ⟨(some 25), (.q (.pick (.tmp 22) (.tmp 24) (.const (.bool false)))), none⟩]) 
    (.cond (.tmp 25) 
    (.region [⟨(some 26), (.q (.move (.tmp 3))), none⟩, ⟨(some 27), (.q (.move (.tmp 4))), none⟩, ⟨(some 28), (.q (.move (.tmp 5))), none⟩, ⟨(some 29), (.q (.move (.tmp 6))), none⟩, ⟨(some 30), (.q (.idxSl 2 (.tmp 28) (.tmp 29))), none⟩, ⟨(some 31), (.q (.fieldAddr 0 (.tmp 30))), none⟩, ⟨(some 32), (.q (.load false 1 (.tmp 31))), none⟩, ⟨(some 33), (.q (.best false (.tmp 32) (.const (.int .i64 65536)))), none⟩, ⟨(some 34), (.q (.move (.tmp 4))), none⟩, ⟨(some 35), (.q (.bin .sub (.tmp 33) (.tmp 34))), none⟩, ⟨(some 36), (.q (.build [(.int .i64 0), (.int .i64 0)] [(0, (1, (.tmp 27))), (1, (1, (.tmp 35)))])), none⟩, ⟨(some 37), (.s (.lit 64 2 [(.tmp 36)])), none⟩, ⟨(some 38), (.s (.app 64 2 16 (.tmp 26) (.tmp 37))), none⟩, ⟨(some 3), (.q (.move (.tmp 38))), none⟩]) .skip)) 
    (.region [⟨(some 39), (.q (.move (.tmp 4))), none⟩, ⟨(some 40), (.q (.move (.tmp 5))), none⟩, ⟨(some 41), (.q (.move (.tmp 6))), none⟩, ⟨(some 42), (.q (.idxSl 2 (.tmp 40) (.tmp 41))), none⟩, ⟨(some 43), (.q (.fieldAddr 0 (.tmp 42))), none⟩, ⟨(some 44), (.q (.load false 1 (.tmp 43))), none⟩, ⟨(some 45), (.q (.move (.tmp 5))), none⟩, ⟨(some 46), (.q (.move (.tmp 6))), none⟩, ⟨(some 47), (.q (.idxSl 2 (.tmp 45) (.tmp 46))), none⟩, ⟨(some 48), (.q (.fieldAddr 1 (.tmp 47))), none⟩, ⟨(some 49), (.q (.load false 1 (.tmp 48))), none⟩, ⟨(some 50), (.q (.bin .add (.tmp 44) (.tmp 49))), none⟩, ⟨(some 51), (.q (.best true (.tmp 39) (.tmp 50))), none⟩, ⟨(some 4), (.q (.move (.tmp 51))), none⟩]))) 
    (.region [⟨(some 13), (.q (.move (.tmp 6))), none⟩, ⟨(some 14), (.q (.bin .add (.tmp 13) (.const (.int .i64 1)))), none⟩, ⟨(some 6), (.q (.move (.tmp 14))), none⟩])))))) 
    (.seq 
    (.seq 
    (.region [⟨(some 52), (.q (.move (.tmp 4))), none⟩, ⟨(some 53), (.q (.bin .lss (.tmp 52) (.const (.int .i64 65536)))), none⟩]) 
    (.cond (.tmp 53) 
    (.region [⟨(some 54), (.q (.move (.tmp 3))), none⟩, ⟨(some 55), (.q (.move (.tmp 4))), none⟩, ⟨(some 56), (.q (.move (.tmp 4))), none⟩, ⟨(some 57), (.q (.bin .sub (.const (.int .i64 65536)) (.tmp 56))), none⟩, ⟨(some 58), (.q (.build [(.int .i64 0), (.int .i64 0)] [(0, (1, (.tmp 55))), (1, (1, (.tmp 57)))])), none⟩, ⟨(some 59), (.s (.lit 64 2 [(.tmp 58)])), none⟩, ⟨(some 60), (.s (.app 64 2 16 (.tmp 54) (.tmp 59))), none⟩, ⟨(some 3), (.q (.move (.tmp 60))), none⟩]) .skip)) 
    (.seq 
    (.region [⟨(some 61), (.q (.move (.tmp 3))), none⟩, ⟨(some 2), (.q (.move (.tmp 61))), none⟩]) .ret)))))))
theorem t29 : Told Try.prog 29 62 c29 [(.tmp 2)] := ⟨Try.f29, _, [], Try.func29, rfl, by kernel_rfl, rfl, by kernel_rfl, by kernel_rfl⟩
def c21 : ACode := 
    (.seq 
    (.region [⟨(some 4), (.q (.move (.const (.bool false)))), none⟩]) 
    (.seq 
    (.seq 
    (.region [⟨(some 6), (.q (.move (.tmp 0))), none⟩, ⟨(some 7), (.q (.len false (.tmp 6))), none⟩, ⟨(some 8), (.q (.move (.tmp 1))), none⟩, ⟨(some 9), (.q (.len false (.tmp 8))), none⟩, ⟨(some 10), (.q (.bin .neq (.tmp 7) (.tmp 9))), none⟩]) 
    (.cond (.tmp 10) 
    (.seq 
    (.region [⟨(some 4), (.q (.move (.const (.bool false)))), none⟩]) .ret) .skip)) 
    (.seq 
    (.seq 
    (.region [⟨(some 5), (.q (.move (.const (.int .i64 0)))), none⟩]) 
    (.block 0 
    (.loop 
    (.seq 
    (.seq 
    (.region [⟨(some 11), (.q (.move (.tmp 5))), none⟩, ⟨(some 12), (.q (.move (.tmp 0))), none⟩, ⟨(some 13), (.q (.len false (.tmp 12))), none⟩, ⟨(some 14), (.q (.bin .lss (.tmp 11) (.tmp 13))), none⟩, ⟨(some 15), (.q (.move (.tmp 14))), none⟩, ⟨(some 16), (.q (.move (.tmp 5))), (some (15, true))⟩, ⟨(some 17), (.q (.move (.tmp 1))), (some (15, true))⟩, ⟨(some 18), (.q (.len false (.tmp 17))), (some (15, true))⟩, ⟨(some 19), (.q (.bin .lss (.tmp 16) (.tmp 18))), (some (15, true))⟩, ⟨(some 20), (.q (.pick (.tmp 15) (.tmp 19) (.const (.bool false)))), none⟩]) 
    (.cond (.tmp 20) .skip (.exit 0))) 
    (.seq 
    (.block 1 
    (.seq 
    (.region [⟨(some 23), (.q (.move (.tmp 0))), none⟩, ⟨(some 24), (.q (.move (.tmp 5))), none⟩, ⟨(some 25), (.q (.idxSl 2 (.tmp 23) (.tmp 24))), none⟩, ⟨(some 26), (.q (.load true 2 (.tmp 25))), none⟩, ⟨(some 27), (.q (.move (.tmp 1))), none⟩, ⟨(some 28), (.q (.move (.tmp 5))), none⟩, ⟨(some 29), (.q (.idxSl 2 (.tmp 27) (.tmp 28))), none⟩, ⟨(some 30), (.q (.load true 2 (.tmp 29))), none⟩, ⟨(some 31), (.q 
    (.seq [(.i .i64), (.i .i64)] true (.tmp 26) (.tmp 30))), none⟩]) 
    (.cond (.tmp 31) 
    (.seq 
    (.region [⟨(some 4), (.q (.move (.const (.bool false)))), none⟩]) .ret) .skip))) 
    (.region [⟨(some 21), (.q (.move (.tmp 5))), none⟩, ⟨(some 22), (.q (.bin .add (.tmp 21) (.const (.int .i64 1)))), none⟩, ⟨(some 5), (.q (.move (.tmp 22))), none⟩])))))) 
    (.seq 
    (.region [⟨(some 4), (.q (.move (.const (.bool true)))), none⟩]) .ret))))
theorem t21 : Told Try.prog 21 32 c21 [(.tmp 4)] := ⟨Try.f21, _, [], Try.func21, rfl, by kernel_rfl, rfl, by kernel_rfl, by kernel_rfl⟩
def c18 : ACode := 
    (.seq 
    (.region [⟨(some 0), (.q (.move (.const (.bool false)))), none⟩]) 
    (.seq 
    (.region [⟨(some 8), (.q (.build [(.int .i64 0), (.int .i64 0)] [(0, (1, (.const (.int .i64 8)))), (1, (1, (.const (.int .i64 4))))])), none⟩, ⟨(some 9), (.s (.lit 64 2 [(.tmp 8)])), none⟩, ⟨(some 10), (.q (.build [(.int .i64 0), (.int .i64 0)] [(0, (1, (.const (.int .i64 0)))), (1, (1, (.const (.int .i64 4))))])), none⟩, ⟨(some 11), (.s (.call 19 [(.tmp 9), (.tmp 10)])), none⟩, ⟨(some 7), (.q (.move (.tmp 11))), none⟩, ⟨(some 12), (.q (.extract 0 (.tmp 7))), none⟩, ⟨(some 13), (.q (.extract 1 (.tmp 7))), none⟩, ⟨(some 1), (.q (.move (.tmp 12))), none⟩, ⟨(some 2), (.q (.move (.tmp 13))), none⟩]) 
    (.seq 
    (.region [⟨(some 15), (.q (.move (.tmp 1))), none⟩, ⟨(some 16), (.q (.build [(.int .i64 0), (.int .i64 0)] [(0, (1, (.const (.int .i64 3)))), (1, (1, (.const (.int .i64 2))))])), none⟩, ⟨(some 17), (.s (.call 19 [(.tmp 15), (.tmp 16)])), none⟩, ⟨(some 14), (.q (.move (.tmp 17))), none⟩, ⟨(some 18), (.q (.extract 0 (.tmp 14))), none⟩, ⟨(some 19), (.q (.extract 1 (.tmp 14))), none⟩, ⟨(some 3), (.q (.move (.tmp 18))), none⟩, ⟨(some 4), (.q (.move (.tmp 19))), none⟩]) 
    (.seq 
    (.region [⟨(some 20), (.q (.build [(.int .i64 0), (.int .i64 0)] [(0, (1, (.const (.int .i64 4)))), (1, (1, (.const (.int .i64 4))))])), none⟩, ⟨(some 21), (.q (.build [(.int .i64 0), (.int .i64 0)] [(0, (1, (.const (.int .i64 0)))), (1, (1, (.const (.int .i64 4))))])), none⟩, ⟨(some 22), (.q (.build [(.int .i64 0), (.int .i64 0)] [(0, (1, (.const (.int .i64 20)))), (1, (1, (.const (.int .i64 1))))])), none⟩, ⟨(some 23), (.s (.lit 64 2 [(.tmp 20), (.tmp 21), (.tmp 22)])), none⟩, ⟨(some 24), (.s (.call 26 [(.tmp 23)])), none⟩, ⟨(some 5), (.q (.move (.tmp 24))), none⟩]) 
    (.seq 
    (.region [⟨(some 25), (.q (.build [(.int .i64 0), (.int .i64 0)] [(0, (1, (.const (.int .i64 4096)))), (1, (1, (.const (.int .i64 4))))])), none⟩, ⟨(some 26), (.s (.lit 64 2 [(.tmp 25)])), none⟩, ⟨(some 27), (.s (.call 28 [(.tmp 26)])), none⟩, ⟨(some 6), (.q (.move (.tmp 27))), none⟩]) 
    (.seq 
    (.region [⟨(some 28), (.q (.move (.tmp 2))), none⟩, ⟨(some 29), (.q (.bin .eql (.tmp 28) (.const (.int .i64 0)))), none⟩, ⟨(some 30), (.q (.move (.tmp 29))), none⟩, ⟨(some 31), (.q (.move (.tmp 1))), (some (30, true))⟩, ⟨(some 32), (.q (.len false (.tmp 31))), (some (30, true))⟩, ⟨(some 33), (.q (.bin .eql (.tmp 32) (.const (.int .i64 2)))), (some (30, true))⟩, ⟨(some 34), (.q (.pick (.tmp 30) (.tmp 33) (.const (.bool false)))), none⟩, ⟨(some 35), (.q (.move (.tmp 34))), none⟩, ⟨(some 36), (.q (.move (.tmp 1))), (some (35, true))⟩, ⟨(some 37), (.q (.idxSl 2 (.tmp 36) (.const (.int .i64 0)))), (some (35, true))⟩, ⟨(some 38), (.q (.fieldAddr 0 (.tmp 37))), (some (35, true))⟩, ⟨(some 39), (.q (.load false 1 (.tmp 38))), (some (35, true))⟩, ⟨(some 40), (.q (.bin .eql (.tmp 39) (.const (.int .i64 0)))), (some (35, true))⟩, ⟨(some 41), (.q (.pick (.tmp 35) (.tmp 40) (.const (.bool false)))), none⟩, ⟨(some 42), (.q (.move (.tmp 41))), none⟩, ⟨(some 43), (.q (.move (.tmp 4))), (some (42, true))⟩, ⟨(some 44), (.q (.bin .eql (.tmp 43) (.const (.int .i64 12)))), (some (42, true))⟩, ⟨(some 45), (.q (.pick (.tmp 42) (.tmp 44) (.const (.bool false)))), none⟩, ⟨(some 46), (.q (.move (.tmp 45))), none⟩, ⟨(some 47), (.q (.move (.tmp 5))), (some (46, true))⟩, ⟨(some 48), (.q (.build [(.int .i64 0), (.int .i64 0)] [(0, (1, (.const (.int .i64 0)))), (1, (1, (.const (.int .i64 8))))])), (some (46, true))⟩, ⟨(some 49), (.q (.build [(.int .i64 0), (.int .i64 0)] [(0, (1, (.const (.int .i64 20)))), (1, (1, (.const (.int .i64 1))))])), (some (46, true))⟩, ⟨(some 50), (.s (.lit 64 2 [(.tmp 48), (.tmp 49)])), (some (46, true))⟩, ⟨(some 51), (.s (.call 21 [(.tmp 47), (.tmp 50)])), (some (46, true))⟩, ⟨(some 52), (.q (.pick (.tmp 46) (.tmp 51) (.const (.bool false)))), none⟩, ⟨(some 53), (.q (.move (.tmp 52))), none⟩, ⟨(some 54), (.q (.move (.tmp 6))), (some (53, true))⟩, ⟨(some 55), (.q (.build [(.int .i64 0), (.int .i64 0)] [(0, (1, (.const (.int .i64 4100)))), (1, (1, (.const (.int .i64 61436))))])), (some (53, true))⟩, ⟨(some 56), (.s (.lit 64 2 [(.tmp 55)])), (some (53, true))⟩, ⟨(some 57), (.s (.call 21 [(.tmp 54), (.tmp 56)])), (some (53, true))⟩, ⟨(some 58), (.q (.pick (.tmp 53) (.tmp 57) (.const (.bool false)))), none⟩, ⟨(some 59), (.q (.move (.tmp 58))), none⟩, ⟨(some 60), (.q (.move (.tmp 5))), (some (59, true))⟩, ⟨(some 61), (.s (.call 24 [(.tmp 60), (.const (.int .i64 7))])), (some (59, true))⟩, ⟨(some 62), (.q (.pick (.tmp 59) (.tmp 61) (.const (.bool false)))), none⟩, ⟨(some 63), (.q (.move (.tmp 62))), none⟩, ⟨(some 64), (.q (.move (.tmp 5))), (some (63, true))⟩, ⟨(some 65), (.s (.call 24 [(.tmp 64), (.const (.int .i64 8))])), (some (63, true))⟩, ⟨(some 66), (.q (.un .not (.tmp 65))), (some (63, true))⟩, ⟨(some 67), (.q (.pick (.tmp 63) (.tmp 66) (.const (.bool false)))), none⟩, ⟨(some 68), (.q (.move (.tmp 67))), none⟩, ⟨(some 69), (.q (.build [(.int .i64 0), (.int .i64 0)] [(0, (1, (.const (.int .i64 5)))), (1, (1, (.const (.int .i64 1))))])), (some (68, true))⟩, ⟨(some 70), (.q (.move (.tmp 5))), (some (68, true))⟩, ⟨(some 71), (.s (.call 22 [(.tmp 69), (.tmp 70)])), (some (68, true))⟩, ⟨(some 72), (.q (.pick (.tmp 68) (.tmp 71) (.const (.bool false)))), none⟩, ⟨(some 0), (.q (.move (.tmp 72))), none⟩]) .ret))))))
theorem t18 : Told Try.prog 18 73 c18 [(.tmp 0)] := ⟨Try.f18, _, [], Try.func18, rfl, by kernel_rfl, rfl, by kernel_rfl, by kernel_rfl⟩
def c5 : ACode := 
    (.seq 
    (.region [⟨(some 4), (.s (.box 64 (.tmp 1))), none⟩, ⟨(some 6), (.q (.move (.const (.bool false)))), none⟩]) 
    (.seq 
    (.seq 
    (.region [⟨(some 11), (.q (.move (.tmp 0))), none⟩, ⟨(some 12), (.q (.len false (.tmp 11))), none⟩, ⟨(some 13), (.q (.bin .gtr (.tmp 12) (.const (.int .i64 20)))), none⟩]) 
    (.cond (.tmp 13) 
    (.seq 
    (.region [⟨(some 14), (.s (.call 18 [])), none⟩, ⟨(some 6), (.q (.move (.tmp 14))), none⟩]) .ret) .skip)) 
    (.seq 
    (.region [⟨(some 16), (.q (.move (.tmp 0))), none⟩, ⟨(some 17), (.q (.load true 2 (.tmp 4))), none⟩, ⟨(some 18), (.s (.call 19 [(.tmp 16), (.tmp 17)])), none⟩, ⟨(some 15), (.q (.move (.tmp 18))), none⟩, ⟨(some 19), (.q (.extract 0 (.tmp 15))), none⟩, ⟨(some 20), (.q (.extract 1 (.tmp 15))), none⟩, ⟨(some 7), (.q (.move (.tmp 19))), none⟩, ⟨(some 8), (.q (.move (.tmp 20))), none⟩]) 
    (.seq 
    (.region [⟨(some 22), (.q (.move (.tmp 0))), none⟩, ⟨(some 23), (.q (.load true 2 (.tmp 4))), none⟩, ⟨(some 24), (.s (.call 20 [(.tmp 22), (.tmp 23)])), none⟩, ⟨(some 21), (.q (.move (.tmp 24))), none⟩, ⟨(some 25), (.q (.extract 0 (.tmp 21))), none⟩, ⟨(some 26), (.q (.extract 1 (.tmp 21))), none⟩, ⟨(some 9), (.q (.move (.tmp 25))), none⟩, ⟨(some 10), (.q (.move (.tmp 26))), none⟩]) 
    (.seq 
    (.region [⟨(some 27), (.q (.move (.tmp 7))), none⟩, ⟨(some 28), (.q (.move (.tmp 9))), none⟩, ⟨(some 29), (.s (.call 21 [(.tmp 27), (.tmp 28)])), none⟩, ⟨(some 30), (.q (.move (.tmp 29))), none⟩, ⟨(some 31), (.q (.move (.tmp 8))), (some (30, true))⟩, ⟨(some 32), (.q (.move (.tmp 10))), (some (30, true))⟩, ⟨(some 33), (.q (.bin .eql (.tmp 31) (.tmp 32))), (some (30, true))⟩, ⟨(some 34), (.q (.pick (.tmp 30) (.tmp 33) (.const (.bool false)))), none⟩, ⟨(some 35), (.q (.move (.tmp 34))), none⟩, ⟨(some 36), (.q (.load true 2 (.tmp 4))), (some (35, true))⟩, ⟨(some 37), (.q (.move (.tmp 0))), (some (35, true))⟩, ⟨(some 38), (.c (.fn 22) [(.tmp 36), (.tmp 37)]), (some (35, true))⟩, ⟨(some 39), (.q (.load true 2 (.tmp 4))), (some (35, true))⟩, ⟨(some 40), (.q (.move (.tmp 0))), (some (35, true))⟩, ⟨(some 41), (.s (.call 23 [(.tmp 39), (.tmp 40)])), (some (35, true))⟩, ⟨(some 42), (.q (.beq false (.tmp 38) (.tmp 41))), (some (35, true))⟩, ⟨(some 43), (.q (.pick (.tmp 35) (.tmp 42) (.const (.bool false)))), none⟩, ⟨(some 44), (.q (.move (.tmp 43))), none⟩, ⟨(some 45), (.q (.move (.tmp 0))), (some (44, true))⟩, ⟨(some 46), (.q (.move (.tmp 2))), (some (44, true))⟩, ⟨(some 48), (.q (.move (.tmp 0))), (some (44, true))⟩, ⟨(some 49), (.q (.move (.tmp 2))), (some (44, true))⟩, ⟨(some 47), (.s (.call 24 [(.tmp 45), (.tmp 46)])), (some (44, true))⟩, ⟨(some 50), (.s (.call 25 [(.tmp 48), (.tmp 49)])), (some (44, true))⟩, ⟨(some 51), (.q (.beq false (.tmp 47) (.tmp 50))), (some (44, true))⟩, ⟨(some 52), (.q (.pick (.tmp 44) (.tmp 51) (.const (.bool false)))), none⟩, ⟨(some 53), (.q (.move (.tmp 52))), none⟩, ⟨(some 54), (.q (.move (.tmp 0))), (some (53, true))⟩, ⟨(some 56), (.q (.move (.tmp 0))), (some (53, true))⟩, ⟨(some 55), (.s (.call 26 [(.tmp 54)])), (some (53, true))⟩, ⟨(some 57), (.s (.call 27 [(.tmp 56)])), (some (53, true))⟩, ⟨(some 58), (.s (.call 21 [(.tmp 55), (.tmp 57)])), (some (53, true))⟩, ⟨(some 59), (.q (.pick (.tmp 53) (.tmp 58) (.const (.bool false)))), none⟩, ⟨(some 60), (.q (.move (.tmp 59))), none⟩, ⟨(some 61), (.q (.move (.tmp 0))), (some (60, true))⟩, ⟨(some 63), (.q (.move (.tmp 0))), (some (60, true))⟩, ⟨(some 62), (.s (.call 28 [(.tmp 61)])), (some (60, true))⟩, ⟨(some 64), (.s (.call 29 [(.tmp 63)])), (some (60, true))⟩, ⟨(some 65), (.s (.call 21 [(.tmp 62), (.tmp 64)])), (some (60, true))⟩, ⟨(some 66), (.q (.pick (.tmp 60) (.tmp 65) (.const (.bool false)))), none⟩, ⟨(some 67), (.q (.move (.tmp 66))), none⟩, ⟨(some 68), (.s (.call 18 [])), (some (67, true))⟩, ⟨(some 69), (.q (.pick (.tmp 67) (.tmp 68) (.const (.bool false)))), none⟩, ⟨(some 6), (.q (.move (.tmp 69))), none⟩]) .ret)))))
theorem t5 : Told Try.prog 5 70 c5 [(.tmp 6)] := ⟨Try.f5, _, [], Try.func5, rfl, by kernel_rfl, rfl, by kernel_rfl, by kernel_rfl⟩
end Go.Proofs.Ytdknpnmdjjmapaa.AL

