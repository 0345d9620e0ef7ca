/- The code of spans, told. -/
import Derived.Test.YtdknpnmdjjmapaaQReserveBytesALA3
import Derived.Test.YtdknpnmdjjmapaaProg
import Derived.KernelRfl
set_option maxRecDepth 100000
namespace Go.Proofs.Ytdknpnmdjjmapaa.AL
open Go Go.Proofs
def c49 : ACode := 
    (.seq 
    (.region [⟨(some 6), (.q (.move (.const .nils))), none⟩]) 
    (.seq 
    (.region [⟨(some 10), (.q (.move (.tmp 0))), none⟩, ⟨(some 11), (.q (.move (.tmp 1))), none⟩, ⟨(some 12), (.q (.sliceSl 2 (.tmp 10) (some (.tmp 11)) none)), none⟩]) 
    (.seq 
    (.region [⟨(some 13), (.q (.move (.tmp 2))), none⟩, ⟨(some 14), (.q (.len false (.tmp 13))), none⟩, ⟨(some 7), (.q (.move (.tmp 14))), none⟩]) 
    (.seq 
    (.seq 
    (.region [⟨(some 15), (.q (.move (.tmp 7))), none⟩, ⟨(some 16), (.q (.bin .eql (.tmp 15) (.const (.int .i64 0)))), none⟩]) 
    (.cond (.tmp 16) 
    (.seq 
    (.region [⟨(some 17), (.q (.move (.tmp 0))), none⟩, ⟨(some 6), (.q (.move (.tmp 17))), none⟩]) .ret) .skip)) 
    (.seq 
    (.region [⟨(some 18), (.q (.move (.tmp 0))), none⟩, ⟨(some 19), (.q (.len false (.tmp 18))), none⟩, ⟨(some 8), (.q (.move (.tmp 19))), none⟩]) 
    (.seq 
    (.seq 
    (.region [⟨(some 20), (.q (.move (.tmp 1))), none⟩, ⟨(some 21), (.q (.move (.tmp 8))), none⟩, ⟨(some 22), (.q (.bin .eql (.tmp 20) (.tmp 21))), none⟩]) 
    (.cond (.tmp 22) 
    (.seq 
    (.region [⟨(some 23), (.q (.move (.tmp 0))), none⟩, ⟨(some 24), (.q (.move (.tmp 2))), none⟩, ⟨(some 25), (.s (.app 64 2 16 (.tmp 23) (.tmp 24))), none⟩, ⟨(some 6), (.q (.move (.tmp 25))), none⟩]) .ret) .skip)) 
    (.seq 
    (.seq 
    (.region [⟨(some 26), (.q (.move (.tmp 8))), none⟩, ⟨(some 27), (.q (.move (.tmp 7))), none⟩, ⟨(some 28), (.q (.bin .add (.tmp 26) (.tmp 27))), none⟩, ⟨(some 29), (.q (.move (.tmp 0))), none⟩, ⟨(some 30), (.q (.cap (.tmp 29))), none⟩, ⟨(some 31), (.q (.bin .gtr (.tmp 28) (.tmp 30))), none⟩]) 
    (.cond (.tmp 31) 
    (.seq 
    (.region [⟨(some 32), (.q (.move (.tmp 0))), none⟩, ⟨(some 33), (.q (.move (.tmp 1))), none⟩, ⟨(some 34), (.q (.sliceSl 2 (.tmp 32) none (some (.tmp 33)))), none⟩, ⟨(some 35), (.q (.move (.tmp 8))), none⟩, ⟨(some 36), (.q (.move (.tmp 7))), none⟩, ⟨(some 37), (.q (.bin .add (.tmp 35) (.tmp 36))), none⟩, ⟨(some 38), (.q (.move (.tmp 1))), none⟩, ⟨(some 39), (.q (.bin .sub (.tmp 37) (.tmp 38))), none⟩, ⟨(some 40), (.s (.appz 64 2 16 [(.int .i64 0), (.int .i64 0)] (.tmp 34) (.tmp 39))), none⟩, ⟨(some 9), (.q (.move (.tmp 40))), none⟩]) 
    (.seq 
    (.region [⟨(some 41), (.q (.move (.tmp 9))), none⟩, ⟨(some 42), (.q (.move (.tmp 1))), none⟩, ⟨(some 43), (.q (.sliceSl 2 (.tmp 41) (some (.tmp 42)) none)), none⟩, ⟨(some 44), (.q (.move (.tmp 2))), none⟩, ⟨(some 45), (.s (.copy 2 (.tmp 43) (.tmp 44))), none⟩]) 
    (.seq 
    (.region [⟨(some 46), (.q (.move (.tmp 9))), none⟩, ⟨(some 47), (.q (.move (.tmp 1))), none⟩, ⟨(some 48), (.q (.move (.tmp 7))), none⟩, ⟨(some 49), (.q (.bin .add (.tmp 47) (.tmp 48))), none⟩, ⟨(some 50), (.q (.sliceSl 2 (.tmp 46) (some (.tmp 49)) none)), none⟩, ⟨(some 51), (.q (.move (.tmp 0))), none⟩, ⟨(some 52), (.q (.move (.tmp 1))), none⟩, ⟨(some 53), (.q (.sliceSl 2 (.tmp 51) (some (.tmp 52)) none)), none⟩, ⟨(some 54), (.s (.copy 2 (.tmp 50) (.tmp 53))), none⟩]) 
    (.seq 
    (.region [⟨(some 55), (.q (.move (.tmp 9))), none⟩, ⟨(some 6), (.q (.move (.tmp 55))), none⟩]) .ret)))) .skip)) 
    (.seq 
    (.region [⟨(some 56), (.q (.move (.tmp 0))), none⟩, ⟨(some 57), (.q (.move (.tmp 8))), none⟩, ⟨(some 58), (.q (.move (.tmp 7))), none⟩, ⟨(some 59), (.q (.bin .add (.tmp 57) (.tmp 58))), none⟩, ⟨(some 60), (.q (.sliceSl 2 (.tmp 56) none (some (.tmp 59)))), none⟩, ⟨(some 0), (.q (.move (.tmp 60))), none⟩]) 
    (.seq 
    (.seq 
    (.region [⟨(some 61), (.q (.move (.tmp 2))), none⟩, ⟨(some 62), (.q (.move (.tmp 0))), none⟩, ⟨(some 63), (.q (.move (.tmp 1))), none⟩, ⟨(some 64), (.q (.move (.tmp 7))), none⟩, ⟨(some 65), (.q (.bin .add (.tmp 63) (.tmp 64))), none⟩, ⟨(some 66), (.q (.sliceSl 2 (.tmp 62) (some (.tmp 65)) none)), none⟩, ⟨(some 67), (.s (.call 79 [(.tmp 61), (.tmp 66)])), none⟩, ⟨(some 68), (.q (.un .not (.tmp 67))), none⟩]) 
    (.cond (.tmp 68) 
    (.seq 
    (.region [⟨(some 69), (.q (.move (.tmp 0))), none⟩, ⟨(some 70), (.q (.move (.tmp 1))), none⟩, ⟨(some 71), (.q (.move (.tmp 7))), none⟩, ⟨(some 72), (.q (.bin .add (.tmp 70) (.tmp 71))), none⟩, ⟨(some 73), (.q (.sliceSl 2 (.tmp 69) (some (.tmp 72)) none)), none⟩, ⟨(some 74), (.q (.move (.tmp 0))), none⟩, ⟨(some 75), (.q (.move (.tmp 1))), none⟩, ⟨(some 76), (.q (.sliceSl 2 (.tmp 74) (some (.tmp 75)) none)), none⟩, ⟨(some 77), (.s (.copy 2 (.tmp 73) (.tmp 76))), none⟩]) 
    (.seq 
    (.region [⟨(some 78), (.q (.move (.tmp 0))), none⟩, ⟨(some 79), (.q (.move (.tmp 1))), none⟩, ⟨(some 80), (.q (.sliceSl 2 (.tmp 78) (some (.tmp 79)) none)), none⟩, ⟨(some 81), (.q (.move (.tmp 2))), none⟩, ⟨(some 82), (.s (.copy 2 (.tmp 80) (.tmp 81))), none⟩]) 
    (.seq 
    (.region [⟨(some 83), (.q (.move (.tmp 0))), none⟩, ⟨(some 6), (.q (.move (.tmp 83))), none⟩]) .ret))) .skip)) 
    (.seq 
    (.region [⟨(some 84), (.q (.move (.tmp 0))), none⟩, ⟨(some 85), (.q (.move (.tmp 8))), none⟩, ⟨(some 86), (.q (.sliceSl 2 (.tmp 84) (some (.tmp 85)) none)), none⟩, ⟨(some 87), (.q (.move (.tmp 2))), none⟩, ⟨(some 88), (.s (.copy 2 (.tmp 86) (.tmp 87))), none⟩]) 
    (.seq 
    (.region [⟨(some 89), (.q (.move (.tmp 0))), none⟩, ⟨(some 90), (.q (.move (.tmp 1))), none⟩, ⟨(some 91), (.q (.sliceSl 2 (.tmp 89) (some (.tmp 90)) none)), none⟩, ⟨(some 92), (.q (.move (.tmp 7))), none⟩, ⟨(some 93), (.s (.call 80 [(.tmp 91), (.tmp 92)])), none⟩]) 
    (.seq 
    (.region [⟨(some 94), (.q (.move (.tmp 0))), none⟩, ⟨(some 6), (.q (.move (.tmp 94))), none⟩]) .ret))))))))))))
theorem t49 : Told Try.prog 49 95 c49 [(.tmp 6)] := ⟨Try.f49, _, [], Try.func49, rfl, by kernel_rfl, rfl, by kernel_rfl, by kernel_rfl⟩
def c56 : ACode := 
    (.seq 
    (.region [⟨(some 4), (.q (.move (.const .nils))), none⟩]) 
    (.seq 
    (.region [⟨(some 8), (.q (.move (.tmp 0))), none⟩, ⟨(some 9), (.q (.move (.tmp 1))), none⟩, ⟨(some 10), (.s (.call 47 [(.tmp 8), (.tmp 9)])), none⟩, ⟨(some 5), (.q (.move (.tmp 10))), none⟩]) 
    (.seq 
    (.seq 
    (.region [⟨(some 11), (.q (.move (.tmp 5))), none⟩, ⟨(some 12), (.q (.bin .eql (.tmp 11) (.const (.int .i64 (-1))))), none⟩]) 
    (.cond (.tmp 12) 
    (.seq 
    (.region [⟨(some 13), (.q (.move (.tmp 0))), none⟩, ⟨(some 4), (.q (.move (.tmp 13))), none⟩]) .ret) .skip)) 
    (.seq 
    (.seq 
    (.region [⟨(some 14), (.q (.move (.tmp 5))), none⟩, ⟨(some 15), (.q (.bin .add (.tmp 14) (.const (.int .i64 1)))), none⟩, ⟨(some 6), (.q (.move (.tmp 15))), none⟩]) 
    (.block 0 
    (.loop 
    (.seq 
    (.seq 
    (.region [⟨(some 16), (.q (.move (.tmp 6))), none⟩, ⟨(some 17), (.q (.move (.tmp 0))), none⟩, ⟨(some 18), (.q (.len false (.tmp 17))), none⟩, ⟨(some 19), (.q (.bin .lss (.tmp 16) (.tmp 18))), none⟩]) 
    (.cond (.tmp 19) .skip (.exit 0))) 
    (.seq 
    (.block 1 
    (.seq 
    (.region [⟨(some 22), (.q (.move (.tmp 0))), none⟩, ⟨(some 23), (.q (.move (.tmp 6))), none⟩, ⟨(some 24), (.q (.idxSl 2 (.tmp 22) (.tmp 23))), none⟩, ⟨(some 25), (.q (.load true 2 (.tmp 24))), none⟩, ⟨(some 7), (.s (.alloc 64 [(.int .i64 0), (.int .i64 0)])), none⟩, ⟨none, (.s (.store 2 (.tmp 7) (.tmp 25))), none⟩]) 
    (.seq 
    (.region [⟨(some 26), (.q (.move (.tmp 1))), none⟩, ⟨(some 27), (.q (.load true 2 (.tmp 7))), none⟩, ⟨(some 28), (.s (.callv (.tmp 26) [(.tmp 27)])), none⟩, ⟨(some 29), (.q (.un .not (.tmp 28))), none⟩]) 
    (.cond (.tmp 29) 
    (.seq 
    (.region [⟨(some 30), (.q (.move (.tmp 0))), none⟩, ⟨(some 31), (.q (.move (.tmp 5))), none⟩, ⟨(some 32), (.q (.load true 2 (.tmp 7))), none⟩, ⟨(some 33), (.q (.idxSl 2 (.tmp 30) (.tmp 31))), none⟩, ⟨none, (.s (.store 2 (.tmp 33) (.tmp 32))), none⟩]) 
    (.region [⟨(some 34), (.q (.move (.tmp 5))), none⟩, ⟨(some 35), (.q (.bin .add (.tmp 34) (.const (.int .i64 1)))), none⟩, ⟨(some 5), (.q (.move (.tmp 35))), none⟩])) .skip)))) 
    (.region [⟨(some 20), (.q (.move (.tmp 6))), none⟩, ⟨(some 21), (.q (.bin .add (.tmp 20) (.const (.int .i64 1)))), none⟩, ⟨(some 6), (.q (.move (.tmp 21))), none⟩])))))) 
    (.seq 
    (.region [⟨(some 36), (.q (.move (.tmp 0))), none⟩, ⟨(some 37), (.q (.move (.tmp 5))), none⟩, ⟨(some 38), (.q (.sliceSl 2 (.tmp 36) (some (.tmp 37)) none)), none⟩, ⟨none, (.s (.clear 2 [(.int .i64 0), (.int .i64 0)] (.tmp 38))), none⟩]) 
    (.seq 
    (.region [⟨(some 39), (.q (.move (.tmp 0))), none⟩, ⟨(some 40), (.q (.move (.tmp 5))), none⟩, ⟨(some 41), (.q (.sliceSl 2 (.tmp 39) none (some (.tmp 40)))), none⟩, ⟨(some 4), (.q (.move (.tmp 41))), none⟩]) .ret))))))
theorem t56 : Told Try.prog 56 42 c56 [(.tmp 4)] := ⟨Try.f56, _, [], Try.func56, rfl, by kernel_rfl, rfl, by kernel_rfl, by kernel_rfl⟩
def c47 : ACode := 
    (.seq 
    (.region [⟨(some 4), (.q (.move (.const (.int .i64 0)))), none⟩]) 
    (.seq 
    (.seq 
    (.region [⟨(some 6), (.q (.move (.tmp 0))), none⟩, ⟨(some 7), (.q (.len false (.tmp 6))), none⟩, ⟨(some 8), (.q (.move (.const (.int .i64 0)))), none⟩]) 
    (.block 0 
    (.loop 
    (.seq 
    (.region [⟨(some 9), (.q (.bin .lss (.tmp 8) (.tmp 7))), none⟩]) 
    (.seq 
    (.cond (.tmp 9) .skip (.exit 0)) 
    (.seq 
    (.block 1 
    (.seq 
    (.region [⟨(some 10), (.q (.move (.tmp 8))), none⟩, ⟨(some 5), (.q (.move (.tmp 10))), none⟩]) 
    (.seq 
    (.region [⟨(some 11), (.q (.move (.tmp 1))), none⟩, ⟨(some 12), (.q (.move (.tmp 0))), none⟩, ⟨(some 13), (.q (.move (.tmp 5))), none⟩, ⟨(some 14), (.q (.idxSl 2 (.tmp 12) (.tmp 13))), none⟩, ⟨(some 15), (.q (.load true 2 (.tmp 14))), none⟩, ⟨(some 16), (.s (.callv (.tmp 11) [(.tmp 15)])), none⟩]) 
    (.cond (.tmp 16) 
    (.seq 
    (.region [⟨(some 17), (.q (.move (.tmp 5))), none⟩, ⟨(some 4), (.q (.move (.tmp 17))), none⟩]) .ret) .skip)))) 
    (.region [⟨(some 18), (.q (.bin .add (.tmp 8) (.const (.int .i64 1)))), none⟩, ⟨(some 8), (.q (.move (.tmp 18))), none⟩]))))))) 
    (.seq 
    (.region [⟨(some 4), (.q (.move (.const (.int .i64 (-1))))), none⟩]) .ret)))
theorem t47 : Told Try.prog 47 19 c47 [(.tmp 4)] := ⟨Try.f47, _, [], Try.func47, rfl, by kernel_rfl, rfl, by kernel_rfl, by kernel_rfl⟩
def c52 : ACode := 
    (.seq 
    (.region [⟨(some 4), (.q (.move (.const (.bool false)))), none⟩]) 
    (.seq 
    (.region [⟨(some 5), (.q (.move (.tmp 0))), none⟩, ⟨(some 6), (.q (.move (.tmp 1))), none⟩, ⟨(some 7), (.s (.call 47 [(.tmp 5), (.tmp 6)])), none⟩, ⟨(some 8), (.q (.bin .geq (.tmp 7) (.const (.int .i64 0)))), none⟩, ⟨(some 4), (.q (.move (.tmp 8))), none⟩]) .ret))
theorem t52 : Told Try.prog 52 9 c52 [(.tmp 4)] := ⟨Try.f52, _, [], Try.func52, rfl, by kernel_rfl, rfl, by kernel_rfl, by kernel_rfl⟩
def c50 : ACode := 
    (.seq 
    (.region [⟨(some 2), (.q (.move (.const .nils))), none⟩]) 
    (.seq 
    (.seq 
    (.region [⟨(some 3), (.q (.move (.tmp 0))), none⟩, ⟨(some 4), (.q (.nil .sl false (.tmp 3) (.const .nils))), none⟩]) 
    (.cond (.tmp 4) 
    (.seq 
    (.region [⟨(some 2), (.q (.move (.const .nils))), none⟩]) .ret) .skip)) 
    (.seq 
    (.region [⟨(some 5), (.s (.litw 64 2 [])), none⟩, ⟨(some 6), (.q (.move (.tmp 0))), none⟩, ⟨(some 7), (.s (.app 64 2 16 (.tmp 5) (.tmp 6))), none⟩, ⟨(some 2), (.q (.move (.tmp 7))), none⟩]) .ret)))
theorem t50 : Told Try.prog 50 8 c50 [(.tmp 2)] := ⟨Try.f50, _, [5], Try.func50, rfl, by kernel_rfl, rfl, by kernel_rfl, by kernel_rfl⟩
def c58 : ACode := 
    (.seq 
    (.region [⟨(some 5), (.q (.move (.tmp 0))), none⟩, ⟨(some 6), (.q (.len false (.tmp 5))), none⟩, ⟨(some 4), (.q (.move (.tmp 6))), none⟩]) 
    (.region [⟨(some 7), (.q (.move (.tmp 0))), none⟩, ⟨(some 8), (.q (.move (.tmp 4))), none⟩, ⟨(some 9), (.q (.move (.tmp 4))), none⟩, ⟨(some 10), (.q (.conv .u64 (.tmp 9))), none⟩, ⟨(some 11), (.s (.call 82 [(.tmp 10)])), none⟩, ⟨(some 12), (.q (.move (.tmp 1))), none⟩, ⟨(some 13), (.s (.call 81 [(.tmp 7), (.const (.int .i64 0)), (.tmp 8), (.tmp 11), (.tmp 12)])), none⟩]))
theorem t58 : Told Try.prog 58 14 c58 [] := ⟨Try.f58, _, [], Try.func58, rfl, by kernel_rfl, rfl, by kernel_rfl, by kernel_rfl⟩
def c55 : ACode := 
    (.seq 
    (.region [⟨(some 1), (.s (.box 64 (.tmp 0))), none⟩, ⟨(some 2), (.q (.move (.const (.bool false)))), none⟩]) 
    (.seq 
    (.region [⟨(some 3), (.q (.fieldAddr 0 (.tmp 1))), none⟩, ⟨(some 4), (.q (.load false 1 (.tmp 3))), none⟩, ⟨(some 5), (.q (.bin .geq (.tmp 4) (.const (.int .i64 0)))), none⟩, ⟨(some 6), (.q (.move (.tmp 5))), none⟩, ⟨(some 7), (.q (.fieldAddr 0 (.tmp 1))), (some (6, true))⟩, ⟨(some 8), (.q (.load false 1 (.tmp 7))), (some (6, true))⟩, ⟨(some 9), (.q (.bin .leq (.tmp 8) (.const (.int .i64 4294967295)))), (some (6, true))⟩, ⟨(some 10), (.q (.pick (.tmp 6) (.tmp 9) (.const (.bool false)))), none⟩, ⟨(some 11), (.q (.move (.tmp 10))), none⟩, ⟨(some 12), (.q (.fieldAddr 1 (.tmp 1))), (some (11, true))⟩, ⟨(some 13), (.q (.load false 1 (.tmp 12))), (some (11, true))⟩, ⟨(some 14), (.q (.bin .geq (.tmp 13) (.const (.int .i64 0)))), (some (11, true))⟩, ⟨(some 15), (.q (.pick (.tmp 11) (.tmp 14) (.const (.bool false)))), none⟩, ⟨(some 16), (.q (.move (.tmp 15))), none⟩, ⟨(some 17), (.q (.fieldAddr 1 (.tmp 1))), (some (16, true))⟩, ⟨(some 18), (.q (.load false 1 (.tmp 17))), (some (16, true))⟩, ⟨(some 19), (.q (.bin .leq (.tmp 18) (.const (.int .i64 4294967295)))), (some (16, true))⟩, ⟨(some 20), (.q (.pick (.tmp 16) (.tmp 19) (.const (.bool false)))), none⟩, ⟨(some 2), (.q (.move (.tmp 20))), none⟩]) .ret))
theorem t55 : Told Try.prog 55 21 c55 [(.tmp 2)] := ⟨Try.f55, _, [], Try.func55, rfl, by kernel_rfl, rfl, by kernel_rfl, by kernel_rfl⟩
def c46 : ACode := 
    (.seq 
    (.region [⟨(some 1), (.s (.box 64 (.tmp 0))), none⟩, ⟨(some 2), (.q (.move (.const (.bool false)))), none⟩]) 
    (.seq 
    (.region [⟨(some 3), (.q (.load true 2 (.tmp 1))), none⟩, ⟨(some 4), (.s (.call 55 [(.tmp 3)])), none⟩, ⟨(some 5), (.q (.move (.tmp 4))), none⟩, ⟨(some 6), (.q (.fieldAddr 1 (.tmp 1))), (some (5, true))⟩, ⟨(some 7), (.q (.load false 1 (.tmp 6))), (some (5, true))⟩, ⟨(some 8), (.q (.bin .gtr (.tmp 7) (.const (.int .i64 0)))), (some (5, true))⟩, ⟨(some 9), (.q (.pick (.tmp 5) (.tmp 8) (.const (.bool false)))), none⟩, ⟨(some 2), (.q (.move (.tmp 9))), none⟩]) .ret))
theorem t46 : Told Try.prog 46 10 c46 [(.tmp 2)] := ⟨Try.f46, _, [], Try.func46, rfl, by kernel_rfl, rfl, by kernel_rfl, by kernel_rfl⟩
def c22 : ACode := 
    (.seq 
    (.region [⟨(some 2), (.s (.box 64 (.tmp 0))), none⟩, ⟨(some 4), (.q (.move (.const (.bool false)))), none⟩]) 
    (.seq 
    (.region [⟨(some 5), (.q (.load true 2 (.tmp 2))), none⟩, ⟨(some 6), (.s (.call 46 [(.tmp 5)])), none⟩, ⟨(some 7), (.q (.move (.tmp 6))), none⟩, ⟨(some 8), (.q (.move (.tmp 1))), (some (7, true))⟩, ⟨(some 9), (.q (.mkFunc (.func 53) [] [(.tmp 2)])), (some (7, true))⟩, ⟨(some 10), (.s (.call 52 [(.tmp 8), (.tmp 9)])), (some (7, true))⟩, ⟨(some 11), (.q (.pick (.tmp 7) (.tmp 10) (.const (.bool false)))), none⟩, ⟨(some 4), (.q (.move (.tmp 11))), none⟩]) .ret))
theorem t22 : Told Try.prog 22 12 c22 [(.tmp 4)] := ⟨Try.f22, _, [], Try.func22, rfl, by kernel_rfl, rfl, by kernel_rfl, by kernel_rfl⟩
def c53 : ACode := 
    (.seq 
    (.region [⟨(some 2), (.s (.box 64 (.tmp 0))), none⟩, ⟨(some 3), (.q (.move (.const (.bool false)))), none⟩]) 
    (.seq 
    (.region [⟨(some 4), (.q (.load true 2 (.tmp 2))), none⟩, ⟨(some 5), (.s (.call 46 [(.tmp 4)])), none⟩, ⟨(some 6), (.q (.move (.tmp 5))), none⟩, ⟨(some 7), (.q (.fieldAddr 0 (.tmp 1))), (some (6, true))⟩, ⟨(some 8), (.q (.load false 1 (.tmp 7))), (some (6, true))⟩, ⟨(some 9), (.q (.fieldAddr 0 (.tmp 2))), (some (6, true))⟩, ⟨(some 10), (.q (.load false 1 (.tmp 9))), (some (6, true))⟩, ⟨(some 11), (.q (.fieldAddr 1 (.tmp 2))), (some (6, true))⟩, ⟨(some 12), (.q (.load false 1 (.tmp 11))), (some (6, true))⟩, ⟨(some 13), (.q (.bin .add (.tmp 10) (.tmp 12))), (some (6, true))⟩, ⟨(some 14), (.q (.bin .lss (.tmp 8) (.tmp 13))), (some (6, true))⟩, ⟨(some 15), (.q (.pick (.tmp 6) (.tmp 14) (.const (.bool false)))), none⟩, ⟨(some 16), (.q (.move (.tmp 15))), none⟩, ⟨(some 17), (.q (.fieldAddr 0 (.tmp 2))), (some (16, true))⟩, ⟨(some 18), (.q (.load false 1 (.tmp 17))), (some (16, true))⟩, ⟨(some 19), (.q (.fieldAddr 0 (.tmp 1))), (some (16, true))⟩, ⟨(some 20), (.q (.load false 1 (.tmp 19))), (some (16, true))⟩, ⟨(some 21), (.q (.fieldAddr 1 (.tmp 1))), (some (16, true))⟩, ⟨(some 22), (.q (.load false 1 (.tmp 21))), (some (16, true))⟩, ⟨(some 23), (.q (.bin .add (.tmp 20) (.tmp 22))), (some (16, true))⟩, ⟨(some 24), (.q (.bin .lss (.tmp 18) (.tmp 23))), (some (16, true))⟩, ⟨(some 25), (.q (.pick (.tmp 16) (.tmp 24) (.const (.bool false)))), none⟩, ⟨(some 3), (.q (.move (.tmp 25))), none⟩]) .ret))
theorem t53 : Told Try.prog 53 26 c53 [(.tmp 3)] := ⟨Try.f53, _, [], Try.func53, rfl, by kernel_rfl, rfl, by kernel_rfl, by kernel_rfl⟩
def c24 : ACode := 
    (.seq 
    (.region [⟨(some 3), (.s (.box 3 (.tmp 1))), none⟩, ⟨(some 4), (.q (.move (.const (.bool false)))), none⟩]) 
    (.seq 
    (.region [⟨(some 5), (.q (.move (.tmp 0))), none⟩, ⟨(some 6), (.q (.mkFunc (.func 54) [] [(.tmp 3)])), none⟩, ⟨(some 7), (.s (.call 52 [(.tmp 5), (.tmp 6)])), none⟩, ⟨(some 4), (.q (.move (.tmp 7))), none⟩]) .ret))
theorem t24 : Told Try.prog 24 8 c24 [(.tmp 4)] := ⟨Try.f24, _, [], Try.func24, rfl, by kernel_rfl, rfl, by kernel_rfl, by kernel_rfl⟩
def c54 : ACode := 
    (.seq 
    (.region [⟨(some 2), (.s (.box 64 (.tmp 0))), none⟩, ⟨(some 3), (.q (.move (.const (.bool false)))), none⟩]) 
    (.seq 
    (.region [⟨(some 4), (.q (.load true 2 (.tmp 2))), none⟩, ⟨(some 5), (.s (.call 55 [(.tmp 4)])), none⟩, ⟨(some 6), (.q (.move (.tmp 5))), none⟩, ⟨(some 7), (.q (.load false 1 (.tmp 1))), (some (6, true))⟩, ⟨(some 8), (.q (.fieldAddr 0 (.tmp 2))), (some (6, true))⟩, ⟨(some 9), (.q (.load false 1 (.tmp 8))), (some (6, true))⟩, ⟨(some 10), (.q (.bin .geq (.tmp 7) (.tmp 9))), (some (6, true))⟩, ⟨(some 11), (.q (.pick (.tmp 6) (.tmp 10) (.const (.bool false)))), none⟩, ⟨(some 12), (.q (.move (.tmp 11))), none⟩, ⟨(some 13), (.q (.load false 1 (.tmp 1))), (some (12, true))⟩, ⟨(some 14), (.q (.fieldAddr 0 (.tmp 2))), (some (12, true))⟩, ⟨(some 15), (.q (.load false 1 (.tmp 14))), (some (12, true))⟩, ⟨(some 16), (.q (.fieldAddr 1 (.tmp 2))), (some (12, true))⟩, ⟨(some 17), (.q (.load false 1 (.tmp 16))), (some (12, true))⟩, ⟨(some 18), (.q (.bin .add (.tmp 15) (.tmp 17))), (some (12, true))⟩, ⟨(some 19), (.q (.bin .lss (.tmp 13) (.tmp 18))), (some (12, true))⟩, ⟨(some 20), (.q (.pick (.tmp 12) (.tmp 19) (.const (.bool false)))), none⟩, ⟨(some 3), (.q (.move (.tmp 20))), none⟩]) .ret))
theorem t54 : Told Try.prog 54 21 c54 [(.tmp 3)] := ⟨Try.f54, _, [], Try.func54, rfl, by kernel_rfl, rfl, by kernel_rfl, by kernel_rfl⟩
def c19 : ACode := 
    (.seq 
    (.region [⟨(some 3), (.s (.box 64 (.tmp 1))), none⟩, ⟨(some 4), (.q (.move (.const .nils))), none⟩, ⟨(some 5), (.q (.move (.const (.int .i64 0)))), none⟩]) 
    (.seq 
    (.block 0 
    (.seq 
    (.region [⟨(some 8), (.q (.load true 2 (.tmp 3))), none⟩, ⟨(some 9), (.s (.call 46 [(.tmp 8)])), none⟩, ⟨(some 10), (.q (.un .not (.tmp 9))), none⟩, ⟨(some 7), (.q (.move (.tmp 10))), none⟩]) 
    (.cond (.tmp 7) 
    (.seq 
    (.region [⟨(some 4), (.q (.move (.const .nils))), none⟩, ⟨(some 5), (.q (.move (.const (.int .i64 1)))), none⟩]) .ret) 
    (.seq 
    (.region [⟨(some 12), (.q (.move (.tmp 0))), none⟩, ⟨(some 13), (.q (.len false (.tmp 12))), none⟩, ⟨(some 14), (.q (.bin .geq (.tmp 13) (.const (.int .i64 16)))), none⟩, ⟨(some 11), (.q (.move (.tmp 14))), none⟩]) 
    (.cond (.tmp 11) 
    (.seq 
    (.region [⟨(some 4), (.q (.move (.const .nils))), none⟩, ⟨(some 5), (.q (.move (.const (.int .i64 7)))), none⟩]) .ret) 
    (.seq 
    (.region [⟨(some 16), (.q (.load true 2 (.tmp 3))), none⟩, ⟨(some 17), (.q (.move (.tmp 0))), none⟩, ⟨(some 18), (.s (.call 22 [(.tmp 16), (.tmp 17)])), none⟩, ⟨(some 15), (.q (.move (.tmp 18))), none⟩]) 
    (.cond (.tmp 15) 
    (.seq 
    (.region [⟨(some 4), (.q (.move (.const .nils))), none⟩, ⟨(some 5), (.q (.move (.const (.int .i64 12)))), none⟩]) .ret) .skip))))))) 
    (.seq 
    (.region [⟨(some 19), (.q (.move (.tmp 0))), none⟩, ⟨(some 20), (.q (.mkFunc (.func 48) [] [(.tmp 3)])), none⟩, ⟨(some 21), (.s (.call 47 [(.tmp 19), (.tmp 20)])), none⟩, ⟨(some 6), (.q (.move (.tmp 21))), none⟩]) 
    (.seq 
    (.seq 
    (.region [⟨(some 22), (.q (.move (.tmp 6))), none⟩, ⟨(some 23), (.q (.bin .lss (.tmp 22) (.const (.int .i64 0)))), none⟩]) 
    (.cond (.tmp 23) 
    (.region [⟨(some 24), (.q (.move (.tmp 0))), none⟩, ⟨(some 25), (.q (.len false (.tmp 24))), none⟩, ⟨(some 6), (.q (.move (.tmp 25))), none⟩]) .skip)) 
    (.seq 
    (.seq (.fregion [3] []) 
    (.seq 
    (.region [⟨(some 26), (.q (.move (.tmp 0))), none⟩, ⟨(some 28), (.q (.move (.tmp 6))), none⟩, ⟨(some 29), (.q (.loadr true 2 (.tmp 3))), none⟩]) (.both 
    (.region [⟨(some 27), (.s (.call 50 [(.tmp 26)])), none⟩, ⟨(some 30), (.s (.litw 64 2 [(.tmp 29)])), none⟩, ⟨(some 31), (.s (.call 49 [(.tmp 27), (.tmp 28), (.tmp 30)])), none⟩, ⟨(some 4), (.q (.move (.tmp 31))), none⟩, ⟨(some 5), (.q (.move (.const (.int .i64 0)))), none⟩]) 
    (.region [⟨(some 30), (.s (.litw 64 2 [(.tmp 29)])), none⟩, ⟨(some 27), (.s (.call 50 [(.tmp 26)])), none⟩, ⟨(some 31), (.s (.call 49 [(.tmp 27), (.tmp 28), (.tmp 30)])), none⟩, ⟨(some 4), (.q (.move (.tmp 31))), none⟩, ⟨(some 5), (.q (.move (.const (.int .i64 0)))), none⟩])))) .ret)))))
theorem t19 : Told Try.prog 19 32 c19 [(.tmp 4), (.tmp 5)] := ⟨Try.f19, _, [30, 11000003], Try.func19, rfl, by kernel_rfl, rfl, by kernel_rfl, by kernel_rfl⟩
def c48 : ACode := 
    (.seq 
    (.region [⟨(some 2), (.s (.box 64 (.tmp 0))), none⟩, ⟨(some 3), (.q (.move (.const (.bool false)))), none⟩]) 
    (.seq 
    (.region [⟨(some 4), (.q (.fieldAddr 0 (.tmp 2))), none⟩, ⟨(some 5), (.q (.load false 1 (.tmp 4))), none⟩, ⟨(some 6), (.q (.fieldAddr 0 (.tmp 1))), none⟩, ⟨(some 7), (.q (.load false 1 (.tmp 6))), none⟩, ⟨(some 8), (.q (.bin .gtr (.tmp 5) (.tmp 7))), none⟩, ⟨(some 3), (.q (.move (.tmp 8))), none⟩]) .ret))
theorem t48 : Told Try.prog 48 9 c48 [(.tmp 3)] := ⟨Try.f48, _, [], Try.func48, rfl, by kernel_rfl, rfl, by kernel_rfl, by kernel_rfl⟩
def c26 : ACode := 
    (.seq 
    (.region [⟨(some 2), (.q (.move (.const .nils))), none⟩]) 
    (.seq 
    (.region [⟨(some 9), (.q (.move (.tmp 0))), none⟩, ⟨(some 10), (.s (.call 50 [(.tmp 9)])), none⟩, ⟨(some 11), (.s (.call 56 [(.tmp 10), (.const (.func (.func 57) [] []))])), none⟩, ⟨(some 3), (.q (.move (.tmp 11))), none⟩]) 
    (.seq 
    (.region [⟨(some 12), (.q (.move (.tmp 3))), none⟩, ⟨(some 13), (.s (.call 58 [(.tmp 12), (.const (.func (.func 59) [] []))])), none⟩]) 
    (.seq 
    (.region [⟨(some 4), (.q (.move (.const .nils))), none⟩]) 
    (.seq 
    (.seq 
    (.region [⟨(some 14), (.q (.move (.tmp 3))), none⟩, ⟨(some 15), (.q (.len false (.tmp 14))), none⟩, ⟨(some 16), (.q (.move (.const (.int .i64 0)))), none⟩]) 
    (.block 0 
    (.loop 
    (.seq 
    (.region [⟨(some 17), (.q (.bin .lss (.tmp 16) (.tmp 15))), none⟩]) 
    (.seq 
    (.cond (.tmp 17) .skip (.exit 0)) 
    (.seq 
    (.block 1 
    (.seq 
    (.region [⟨(some 18), (.q (.idxSl 2 (.tmp 14) (.tmp 16))), none⟩, ⟨(some 19), (.q (.load true 2 (.tmp 18))), none⟩, ⟨(some 6), (.s (.alloc 64 [(.int .i64 0), (.int .i64 0)])), none⟩, ⟨none, (.s (.store 2 (.tmp 6) (.tmp 19))), none⟩]) 
    (.seq 
    (.region [⟨(some 20), (.q (.move (.tmp 4))), none⟩, ⟨(some 21), (.q (.len false (.tmp 20))), none⟩, ⟨(some 22), (.q (.bin .sub (.tmp 21) (.const (.int .i64 1)))), none⟩, ⟨(some 7), (.q (.move (.tmp 22))), none⟩]) 
    (.seq 
    (.seq 
    (.region [⟨(some 23), (.q (.move (.tmp 7))), none⟩, ⟨(some 24), (.q (.bin .lss (.tmp 23) (.const (.int .i64 0)))), none⟩, ⟨(some 25), (.q (.move (.tmp 24))), none⟩, ⟨(some 26), (.q (.fieldAddr 0 (.tmp 6))), (some (25, false))⟩, ⟨(some 27), (.q (.load false 1 (.tmp 26))), (some (25, false))⟩, ⟨(some 28), (.q (.move (.tmp 4))), (some (25, false))⟩, ⟨(some 29), (.q (.move (.tmp 7))), (some (25, false))⟩, ⟨(some 30), (.q (.idxSl 2 (.tmp 28) (.tmp 29))), (some (25, false))⟩, ⟨(some 31), (.q (.fieldAddr 0 (.tmp 30))), (some (25, false))⟩, ⟨(some 32), (.q (.load false 1 (.tmp 31))), (some (25, false))⟩, ⟨(some 33), (.q (.move (.tmp 4))), (some (25, false))⟩, ⟨(some 34), (.q (.move (.tmp 7))), (some (25, false))⟩, ⟨(some 35), (.q (.idxSl 2 (.tmp 33) (.tmp 34))), (some (25, false))⟩, ⟨(some 36), (.q (.fieldAddr 1 (.tmp 35))), (some (25, false))⟩, ⟨(some 37), (.q (.load false 1 (.tmp 36))), (some (25, false))⟩, ⟨(some 38), (.q (.bin .add (.tmp 32) (.tmp 37))), (some (25, false))⟩, ⟨(some 39), (.q (.bin .gtr (.tmp 27) (.tmp 38))), (some (25, false))⟩, ⟨(some 40), (.q (.pick (.tmp 25) (.const (.bool true)) (.tmp 39))), none⟩]) 
    (.cond (.tmp 40) 
    (.seq 
    (.region [⟨(some 41), (.q (.move (.tmp 4))), none⟩, ⟨(some 42), (.q (.load true 2 (.tmp 6))), none⟩, ⟨(some 43), (.s (.lit 64 2 [(.tmp 42)])), none⟩, ⟨(some 44), (.s (.app 64 2 16 (.tmp 41) (.tmp 43))), none⟩, ⟨(some 4), (.q (.move (.tmp 44))), none⟩]) (.exit 1)) .skip)) 
    (.seq 
    (.region [⟨(some 45), (.q (.move (.tmp 4))), none⟩, ⟨(some 46), (.q (.move (.tmp 7))), none⟩, ⟨(some 47), (.q (.idxSl 2 (.tmp 45) (.tmp 46))), none⟩, ⟨(some 48), (.q (.fieldAddr 0 (.tmp 47))), none⟩, ⟨(some 49), (.q (.load false 1 (.tmp 48))), none⟩, ⟨(some 50), (.q (.move (.tmp 4))), none⟩, ⟨(some 51), (.q (.move (.tmp 7))), none⟩, ⟨(some 52), (.q (.idxSl 2 (.tmp 50) (.tmp 51))), none⟩, ⟨(some 53), (.q (.fieldAddr 1 (.tmp 52))), none⟩, ⟨(some 54), (.q (.load false 1 (.tmp 53))), none⟩, ⟨(some 55), (.q (.bin .add (.tmp 49) (.tmp 54))), none⟩, ⟨(some 56), (.q (.fieldAddr 0 (.tmp 6))), none⟩, ⟨(some 57), (.q (.load false 1 (.tmp 56))), none⟩, ⟨(some 58), (.q (.fieldAddr 1 (.tmp 6))), none⟩, ⟨(some 59), (.q (.load false 1 (.tmp 58))), none⟩, ⟨(some 60), (.q (.bin .add (.tmp 57) (.tmp 59))), none⟩, ⟨(some 61), (.q (.best true (.tmp 55) (.tmp 60))), none⟩, ⟨(some 8), (.q (.move (.tmp 61))), none⟩]) 
    (.region [⟨(some 62), (.q (.move (.tmp 4))), none⟩, ⟨(some 63), (.q (.move (.tmp 7))), none⟩, ⟨(some 64), (.q (.move (.tmp 8))), none⟩, ⟨(some 65), (.q (.move (.tmp 4))), none⟩, ⟨(some 66), (.q (.move (.tmp 7))), none⟩, ⟨(some 67), (.q (.idxSl 2 (.tmp 65) (.tmp 66))), none⟩, ⟨(some 68), (.q (.fieldAddr 0 (.tmp 67))), none⟩, ⟨(some 69), (.q (.load false 1 (.tmp 68))), none⟩, ⟨(some 70), (.q (.bin .sub (.tmp 64) (.tmp 69))), none⟩, ⟨(some 71), (.q (.idxSl 2 (.tmp 62) (.tmp 63))), none⟩, ⟨(some 72), (.q (.fieldAddr 1 (.tmp 71))), none⟩, ⟨none, (.s (.store 1 (.tmp 72) (.tmp 70))), none⟩])))))) 
    (.region [⟨(some 73), (.q (.bin .add (.tmp 16) (.const (.int .i64 1)))), none⟩, ⟨(some 16), (.q (.move (.tmp 73))), none⟩]))))))) 
    (.seq 
    (.region [⟨(some 74), (.q (.move (.tmp 4))), none⟩, ⟨(some 2), (.q (.move (.tmp 74))), none⟩]) .ret))))))
theorem t26 : Told Try.prog 26 75 c26 [(.tmp 2)] := ⟨Try.f26, _, [], Try.func26, rfl, by kernel_rfl, rfl, by kernel_rfl, by kernel_rfl⟩
def c57 : ACode := 
    (.seq 
    (.region [⟨(some 1), (.s (.box 64 (.tmp 0))), none⟩, ⟨(some 2), (.q (.move (.const (.bool false)))), none⟩]) 
    (.seq 
    (.region [⟨(some 3), (.q (.load true 2 (.tmp 1))), none⟩, ⟨(some 4), (.s (.call 46 [(.tmp 3)])), none⟩, ⟨(some 5), (.q (.un .not (.tmp 4))), none⟩, ⟨(some 2), (.q (.move (.tmp 5))), none⟩]) .ret))
theorem t57 : Told Try.prog 57 6 c57 [(.tmp 2)] := ⟨Try.f57, _, [], Try.func57, rfl, by kernel_rfl, rfl, by kernel_rfl, by kernel_rfl⟩
def c28 : ACode := 
    (.seq 
    (.region [⟨(some 2), (.q (.move (.const .nils))), none⟩]) 
    (.seq 
    (.region [⟨(some 9), (.q (.move (.tmp 0))), none⟩, ⟨(some 10), (.s (.call 50 [(.tmp 9)])), none⟩, ⟨(some 11), (.q (.build [(.int .i64 0), (.int .i64 0)] [(1, (1, (.const (.int .i64 4096))))])), none⟩, ⟨(some 12), (.s (.lit 64 2 [(.tmp 11)])), none⟩, ⟨(some 13), (.s (.app 64 2 16 (.tmp 10) (.tmp 12))), none⟩, ⟨(some 3), (.q (.move (.tmp 13))), none⟩]) 
    (.seq 
    (.region [⟨(some 4), (.s (.alloc 27 [.nils])), none⟩]) 
    (.seq 
    (.region [⟨(some 5), (.s (.alloc 3 [(.int .i64 0)])), none⟩, ⟨none, (.s (.store 1 (.tmp 5) (.const (.int .i64 0)))), none⟩]) 
    (.seq 
    (.region [⟨(some 14), (.q (.mkFunc (.func 61) [] [(.tmp 5), (.tmp 4)])), none⟩, ⟨(some 6), (.q (.move (.tmp 14))), none⟩]) 
    (.seq 
    (.seq 
    (.region [⟨(some 15), (.q (.move (.tmp 3))), none⟩, ⟨(some 16), (.s (.call 26 [(.tmp 15)])), none⟩, ⟨(some 17), (.q (.len false (.tmp 16))), none⟩, ⟨(some 18), (.q (.move (.const (.int .i64 0)))), none⟩]) 
    (.block 0 
    (.loop 
    (.seq 
    (.region [⟨(some 19), (.q (.bin .lss (.tmp 18) (.tmp 17))), none⟩]) 
    (.seq 
    (.cond (.tmp 19) .skip (.exit 0)) 
    (.seq 
    (.block 1 
    (.seq 
    (.region [⟨(some 20), (.q (.idxSl 2 (.tmp 16) (.tmp 18))), none⟩, ⟨(some 21), (.q (.load true 2 (.tmp 20))), none⟩, ⟨(some 8), (.s (.alloc 64 [(.int .i64 0), (.int .i64 0)])), none⟩, ⟨none, (.s (.store 2 (.tmp 8) (.tmp 21))), none⟩]) 
    (.seq 
    (.region [⟨(some 22), (.q (.move (.tmp 6))), none⟩, ⟨(some 23), (.q (.fieldAddr 0 (.tmp 8))), none⟩, ⟨(some 24), (.q (.load false 1 (.tmp 23))), none⟩, ⟨(some 25), (.q (.best false (.tmp 24) (.const (.int .i64 65536)))), none⟩, ⟨(some 26), (.s (.callv (.tmp 22) [(.tmp 25)])), none⟩]) 
    (.region [⟨(some 27), (.q (.fieldAddr 0 (.tmp 8))), none⟩, ⟨(some 28), (.q (.load false 1 (.tmp 27))), none⟩, ⟨(some 29), (.q (.fieldAddr 1 (.tmp 8))), none⟩, ⟨(some 30), (.q (.load false 1 (.tmp 29))), none⟩, ⟨(some 31), (.q (.bin .add (.tmp 28) (.tmp 30))), none⟩, ⟨none, (.s (.store 1 (.tmp 5) (.tmp 31))), none⟩])))) 
    (.region [⟨(some 32), (.q (.bin .add (.tmp 18) (.const (.int .i64 1)))), none⟩, ⟨(some 18), (.q (.move (.tmp 32))), none⟩]))))))) 
    (.seq 
    (.region [⟨(some 33), (.q (.move (.tmp 6))), none⟩, ⟨(some 34), (.s (.callv (.tmp 33) [(.const (.int .i64 65536))])), none⟩]) 
    (.seq 
    (.region [⟨(some 35), (.q (.load false 1 (.tmp 4))), none⟩, ⟨(some 2), (.q (.move (.tmp 35))), none⟩]) .ret))))))))
theorem t28 : Told Try.prog 28 36 c28 [(.tmp 2)] := ⟨Try.f28, _, [], Try.func28, rfl, by kernel_rfl, rfl, by kernel_rfl, by kernel_rfl⟩
def c61 : ACode := 
    (.seq 
    (.region [⟨(some 4), (.q (.load false 1 (.tmp 1))), none⟩, ⟨(some 5), (.q (.move (.tmp 0))), none⟩, ⟨(some 6), (.q (.bin .lss (.tmp 4) (.tmp 5))), none⟩]) 
    (.cond (.tmp 6) 
    (.region [⟨(some 7), (.q (.load false 1 (.tmp 2))), none⟩, ⟨(some 8), (.q (.load false 1 (.tmp 1))), none⟩, ⟨(some 9), (.q (.move (.tmp 0))), none⟩, ⟨(some 10), (.q (.load false 1 (.tmp 1))), none⟩, ⟨(some 11), (.q (.bin .sub (.tmp 9) (.tmp 10))), none⟩, ⟨(some 12), (.q (.build [(.int .i64 0), (.int .i64 0)] [(0, (1, (.tmp 8))), (1, (1, (.tmp 11)))])), none⟩, ⟨(some 13), (.s (.lit 64 2 [(.tmp 12)])), none⟩, ⟨(some 14), (.s (.app 64 2 16 (.tmp 7) (.tmp 13))), none⟩, ⟨none, (.s (.store 1 (.tmp 2) (.tmp 14))), none⟩]) .skip))
theorem t61 : Told Try.prog 61 15 c61 [] := ⟨Try.f61, _, [], Try.func61, rfl, by kernel_rfl, rfl, by kernel_rfl, by kernel_rfl⟩
def c21 : ACode := 
    (.seq 
    (.region [⟨(some 4), (.q (.move (.const (.bool false)))), none⟩]) 
    (.seq 
    (.seq 
    (.region [⟨(some 6), (.q (.move (.tmp 0))), none⟩, ⟨(some 7), (.q (.len false (.tmp 6))), none⟩, ⟨(some 8), (.q (.move (.tmp 1))), none⟩, ⟨(some 9), (.q (.len false (.tmp 8))), none⟩, ⟨(some 10), (.q (.bin .neq (.tmp 7) (.tmp 9))), none⟩]) 
    (.cond (.tmp 10) 
    (.seq 
    (.region [⟨(some 4), (.q (.move (.const (.bool false)))), none⟩]) .ret) .skip)) 
    (.seq 
    (.seq 
    (.region [⟨(some 5), (.q (.move (.const (.int .i64 0)))), none⟩]) 
    (.block 0 
    (.loop 
    (.seq 
    (.seq 
    (.region [⟨(some 11), (.q (.move (.tmp 5))), none⟩, ⟨(some 12), (.q (.move (.tmp 0))), none⟩, ⟨(some 13), (.q (.len false (.tmp 12))), none⟩, ⟨(some 14), (.q (.bin .lss (.tmp 11) (.tmp 13))), none⟩, ⟨(some 15), (.q (.move (.tmp 14))), none⟩, ⟨(some 16), (.q (.move (.tmp 5))), (some (15, true))⟩, ⟨(some 17), (.q (.move (.tmp 1))), (some (15, true))⟩, ⟨(some 18), (.q (.len false (.tmp 17))), (some (15, true))⟩, ⟨(some 19), (.q (.bin .lss (.tmp 16) (.tmp 18))), (some (15, true))⟩, ⟨(some 20), (.q (.pick (.tmp 15) (.tmp 19) (.const (.bool false)))), none⟩]) 
    (.cond (.tmp 20) .skip (.exit 0))) 
    (.seq 
    (.block 1 
    (.seq 
    (.region [⟨(some 23), (.q (.move (.tmp 0))), none⟩, ⟨(some 24), (.q (.move (.tmp 5))), none⟩, ⟨(some 25), (.q (.idxSl 2 (.tmp 23) (.tmp 24))), none⟩, ⟨(some 26), (.q (.load true 2 (.tmp 25))), none⟩, ⟨(some 27), (.q (.move (.tmp 1))), none⟩, ⟨(some 28), (.q (.move (.tmp 5))), none⟩, ⟨(some 29), (.q (.idxSl 2 (.tmp 27) (.tmp 28))), none⟩, ⟨(some 30), (.q (.load true 2 (.tmp 29))), none⟩, ⟨(some 31), (.q 
    (.seq [(.i .i64), (.i .i64)] true (.tmp 26) (.tmp 30))), none⟩]) 
    (.cond (.tmp 31) 
    (.seq 
    (.region [⟨(some 4), (.q (.move (.const (.bool false)))), none⟩]) .ret) .skip))) 
    (.region [⟨(some 21), (.q (.move (.tmp 5))), none⟩, ⟨(some 22), (.q (.bin .add (.tmp 21) (.const (.int .i64 1)))), none⟩, ⟨(some 5), (.q (.move (.tmp 22))), none⟩])))))) 
    (.seq 
    (.region [⟨(some 4), (.q (.move (.const (.bool true)))), none⟩]) .ret))))
theorem t21 : Told Try.prog 21 32 c21 [(.tmp 4)] := ⟨Try.f21, _, [], Try.func21, rfl, by kernel_rfl, rfl, by kernel_rfl, by kernel_rfl⟩
def c18 : ACode := 
    (.seq 
    (.region [⟨(some 0), (.q (.move (.const (.bool false)))), none⟩]) 
    (.seq 
    (.region [⟨(some 8), (.q (.build [(.int .i64 0), (.int .i64 0)] [(0, (1, (.const (.int .i64 8)))), (1, (1, (.const (.int .i64 4))))])), none⟩, ⟨(some 9), (.s (.lit 64 2 [(.tmp 8)])), none⟩, ⟨(some 10), (.q (.build [(.int .i64 0), (.int .i64 0)] [(0, (1, (.const (.int .i64 0)))), (1, (1, (.const (.int .i64 4))))])), none⟩, ⟨(some 11), (.s (.call 19 [(.tmp 9), (.tmp 10)])), none⟩, ⟨(some 7), (.q (.move (.tmp 11))), none⟩, ⟨(some 12), (.q (.extract 0 (.tmp 7))), none⟩, ⟨(some 13), (.q (.extract 1 (.tmp 7))), none⟩, ⟨(some 1), (.q (.move (.tmp 12))), none⟩, ⟨(some 2), (.q (.move (.tmp 13))), none⟩]) 
    (.seq 
    (.region [⟨(some 15), (.q (.move (.tmp 1))), none⟩, ⟨(some 16), (.q (.build [(.int .i64 0), (.int .i64 0)] [(0, (1, (.const (.int .i64 3)))), (1, (1, (.const (.int .i64 2))))])), none⟩, ⟨(some 17), (.s (.call 19 [(.tmp 15), (.tmp 16)])), none⟩, ⟨(some 14), (.q (.move (.tmp 17))), none⟩, ⟨(some 18), (.q (.extract 0 (.tmp 14))), none⟩, ⟨(some 19), (.q (.extract 1 (.tmp 14))), none⟩, ⟨(some 3), (.q (.move (.tmp 18))), none⟩, ⟨(some 4), (.q (.move (.tmp 19))), none⟩]) 
    (.seq 
    (.region [⟨(some 20), (.q (.build [(.int .i64 0), (.int .i64 0)] [(0, (1, (.const (.int .i64 4)))), (1, (1, (.const (.int .i64 4))))])), none⟩, ⟨(some 21), (.q (.build [(.int .i64 0), (.int .i64 0)] [(0, (1, (.const (.int .i64 0)))), (1, (1, (.const (.int .i64 4))))])), none⟩, ⟨(some 22), (.q (.build [(.int .i64 0), (.int .i64 0)] [(0, (1, (.const (.int .i64 20)))), (1, (1, (.const (.int .i64 1))))])), none⟩, ⟨(some 23), (.s (.lit 64 2 [(.tmp 20), (.tmp 21), (.tmp 22)])), none⟩, ⟨(some 24), (.s (.call 26 [(.tmp 23)])), none⟩, ⟨(some 5), (.q (.move (.tmp 24))), none⟩]) 
    (.seq 
    (.region [⟨(some 25), (.q (.build [(.int .i64 0), (.int .i64 0)] [(0, (1, (.const (.int .i64 4096)))), (1, (1, (.const (.int .i64 4))))])), none⟩, ⟨(some 26), (.s (.lit 64 2 [(.tmp 25)])), none⟩, ⟨(some 27), (.s (.call 28 [(.tmp 26)])), none⟩, ⟨(some 6), (.q (.move (.tmp 27))), none⟩]) 
    (.seq 
    (.region [⟨(some 28), (.q (.move (.tmp 2))), none⟩, ⟨(some 29), (.q (.bin .eql (.tmp 28) (.const (.int .i64 0)))), none⟩, ⟨(some 30), (.q (.move (.tmp 29))), none⟩, ⟨(some 31), (.q (.move (.tmp 1))), (some (30, true))⟩, ⟨(some 32), (.q (.len false (.tmp 31))), (some (30, true))⟩, ⟨(some 33), (.q (.bin .eql (.tmp 32) (.const (.int .i64 2)))), (some (30, true))⟩, ⟨(some 34), (.q (.pick (.tmp 30) (.tmp 33) (.const (.bool false)))), none⟩, ⟨(some 35), (.q (.move (.tmp 34))), none⟩, ⟨(some 36), (.q (.move (.tmp 1))), (some (35, true))⟩, ⟨(some 37), (.q (.idxSl 2 (.tmp 36) (.const (.int .i64 0)))), (some (35, true))⟩, ⟨(some 38), (.q (.fieldAddr 0 (.tmp 37))), (some (35, true))⟩, ⟨(some 39), (.q (.load false 1 (.tmp 38))), (some (35, true))⟩, ⟨(some 40), (.q (.bin .eql (.tmp 39) (.const (.int .i64 0)))), (some (35, true))⟩, ⟨(some 41), (.q (.pick (.tmp 35) (.tmp 40) (.const (.bool false)))), none⟩, ⟨(some 42), (.q (.move (.tmp 41))), none⟩, ⟨(some 43), (.q (.move (.tmp 4))), (some (42, true))⟩, ⟨(some 44), (.q (.bin .eql (.tmp 43) (.const (.int .i64 12)))), (some (42, true))⟩, ⟨(some 45), (.q (.pick (.tmp 42) (.tmp 44) (.const (.bool false)))), none⟩, ⟨(some 46), (.q (.move (.tmp 45))), none⟩, ⟨(some 47), (.q (.move (.tmp 5))), (some (46, true))⟩, ⟨(some 48), (.q (.build [(.int .i64 0), (.int .i64 0)] [(0, (1, (.const (.int .i64 0)))), (1, (1, (.const (.int .i64 8))))])), (some (46, true))⟩, ⟨(some 49), (.q (.build [(.int .i64 0), (.int .i64 0)] [(0, (1, (.const (.int .i64 20)))), (1, (1, (.const (.int .i64 1))))])), (some (46, true))⟩, ⟨(some 50), (.s (.lit 64 2 [(.tmp 48), (.tmp 49)])), (some (46, true))⟩, ⟨(some 51), (.s (.call 21 [(.tmp 47), (.tmp 50)])), (some (46, true))⟩, ⟨(some 52), (.q (.pick (.tmp 46) (.tmp 51) (.const (.bool false)))), none⟩, ⟨(some 53), (.q (.move (.tmp 52))), none⟩, ⟨(some 54), (.q (.move (.tmp 6))), (some (53, true))⟩, ⟨(some 55), (.q (.build [(.int .i64 0), (.int .i64 0)] [(0, (1, (.const (.int .i64 4100)))), (1, (1, (.const (.int .i64 61436))))])), (some (53, true))⟩, ⟨(some 56), (.s (.lit 64 2 [(.tmp 55)])), (some (53, true))⟩, ⟨(some 57), (.s (.call 21 [(.tmp 54), (.tmp 56)])), (some (53, true))⟩, ⟨(some 58), (.q (.pick (.tmp 53) (.tmp 57) (.const (.bool false)))), none⟩, ⟨(some 59), (.q (.move (.tmp 58))), none⟩, ⟨(some 60), (.q (.move (.tmp 5))), (some (59, true))⟩, ⟨(some 61), (.s (.call 24 [(.tmp 60), (.const (.int .i64 7))])), (some (59, true))⟩, ⟨(some 62), (.q (.pick (.tmp 59) (.tmp 61) (.const (.bool false)))), none⟩, ⟨(some 63), (.q (.move (.tmp 62))), none⟩, ⟨(some 64), (.q (.move (.tmp 5))), (some (63, true))⟩, ⟨(some 65), (.s (.call 24 [(.tmp 64), (.const (.int .i64 8))])), (some (63, true))⟩, ⟨(some 66), (.q (.un .not (.tmp 65))), (some (63, true))⟩, ⟨(some 67), (.q (.pick (.tmp 63) (.tmp 66) (.const (.bool false)))), none⟩, ⟨(some 68), (.q (.move (.tmp 67))), none⟩, ⟨(some 69), (.q (.build [(.int .i64 0), (.int .i64 0)] [(0, (1, (.const (.int .i64 5)))), (1, (1, (.const (.int .i64 1))))])), (some (68, true))⟩, ⟨(some 70), (.q (.move (.tmp 5))), (some (68, true))⟩, ⟨(some 71), (.s (.call 22 [(.tmp 69), (.tmp 70)])), (some (68, true))⟩, ⟨(some 72), (.q (.pick (.tmp 68) (.tmp 71) (.const (.bool false)))), none⟩, ⟨(some 0), (.q (.move (.tmp 72))), none⟩]) .ret))))))
theorem t18 : Told Try.prog 18 73 c18 [(.tmp 0)] := ⟨Try.f18, _, [], Try.func18, rfl, by kernel_rfl, rfl, by kernel_rfl, by kernel_rfl⟩
def c5 : ACode := 
    (.seq 
    (.region [⟨(some 4), (.s (.box 64 (.tmp 1))), none⟩, ⟨(some 6), (.q (.move (.const (.bool false)))), none⟩]) 
    (.seq 
    (.seq 
    (.region [⟨(some 11), (.q (.move (.tmp 0))), none⟩, ⟨(some 12), (.q (.len false (.tmp 11))), none⟩, ⟨(some 13), (.q (.bin .gtr (.tmp 12) (.const (.int .i64 20)))), none⟩]) 
    (.cond (.tmp 13) 
    (.seq 
    (.region [⟨(some 14), (.s (.call 18 [])), none⟩, ⟨(some 6), (.q (.move (.tmp 14))), none⟩]) .ret) .skip)) 
    (.seq 
    (.region [⟨(some 16), (.q (.move (.tmp 0))), none⟩, ⟨(some 17), (.q (.load true 2 (.tmp 4))), none⟩, ⟨(some 18), (.s (.call 19 [(.tmp 16), (.tmp 17)])), none⟩, ⟨(some 15), (.q (.move (.tmp 18))), none⟩, ⟨(some 19), (.q (.extract 0 (.tmp 15))), none⟩, ⟨(some 20), (.q (.extract 1 (.tmp 15))), none⟩, ⟨(some 7), (.q (.move (.tmp 19))), none⟩, ⟨(some 8), (.q (.move (.tmp 20))), none⟩]) 
    (.seq 
    (.region [⟨(some 22), (.q (.move (.tmp 0))), none⟩, ⟨(some 23), (.q (.load true 2 (.tmp 4))), none⟩, ⟨(some 24), (.s (.call 20 [(.tmp 22), (.tmp 23)])), none⟩, ⟨(some 21), (.q (.move (.tmp 24))), none⟩, ⟨(some 25), (.q (.extract 0 (.tmp 21))), none⟩, ⟨(some 26), (.q (.extract 1 (.tmp 21))), none⟩, ⟨(some 9), (.q (.move (.tmp 25))), none⟩, ⟨(some 10), (.q (.move (.tmp 26))), none⟩]) 
    (.seq 
    (.region [⟨(some 27), (.q (.move (.tmp 7))), none⟩, ⟨(some 28), (.q (.move (.tmp 9))), none⟩, ⟨(some 29), (.s (.call 21 [(.tmp 27), (.tmp 28)])), none⟩, ⟨(some 30), (.q (.move (.tmp 29))), none⟩, ⟨(some 31), (.q (.move (.tmp 8))), (some (30, true))⟩, ⟨(some 32), (.q (.move (.tmp 10))), (some (30, true))⟩, ⟨(some 33), (.q (.bin .eql (.tmp 31) (.tmp 32))), (some (30, true))⟩, ⟨(some 34), (.q (.pick (.tmp 30) (.tmp 33) (.const (.bool false)))), none⟩, ⟨(some 35), (.q (.move (.tmp 34))), none⟩, ⟨(some 36), (.q (.load true 2 (.tmp 4))), (some (35, true))⟩, ⟨(some 37), (.q (.move (.tmp 0))), (some (35, true))⟩, ⟨(some 38), (.c (.fn 22) [(.tmp 36), (.tmp 37)]), (some (35, true))⟩, ⟨(some 39), (.q (.load true 2 (.tmp 4))), (some (35, true))⟩, ⟨(some 40), (.q (.move (.tmp 0))), (some (35, true))⟩, ⟨(some 41), (.s (.call 23 [(.tmp 39), (.tmp 40)])), (some (35, true))⟩, ⟨(some 42), (.q (.beq false (.tmp 38) (.tmp 41))), (some (35, true))⟩, ⟨(some 43), (.q (.pick (.tmp 35) (.tmp 42) (.const (.bool false)))), none⟩, ⟨(some 44), (.q (.move (.tmp 43))), none⟩, ⟨(some 45), (.q (.move (.tmp 0))), (some (44, true))⟩, ⟨(some 46), (.q (.move (.tmp 2))), (some (44, true))⟩, ⟨(some 48), (.q (.move (.tmp 0))), (some (44, true))⟩, ⟨(some 49), (.q (.move (.tmp 2))), (some (44, true))⟩, ⟨(some 47), (.s (.call 24 [(.tmp 45), (.tmp 46)])), (some (44, true))⟩, ⟨(some 50), (.s (.call 25 [(.tmp 48), (.tmp 49)])), (some (44, true))⟩, ⟨(some 51), (.q (.beq false (.tmp 47) (.tmp 50))), (some (44, true))⟩, ⟨(some 52), (.q (.pick (.tmp 44) (.tmp 51) (.const (.bool false)))), none⟩, ⟨(some 53), (.q (.move (.tmp 52))), none⟩, ⟨(some 54), (.q (.move (.tmp 0))), (some (53, true))⟩, ⟨(some 56), (.q (.move (.tmp 0))), (some (53, true))⟩, ⟨(some 55), (.s (.call 26 [(.tmp 54)])), (some (53, true))⟩, ⟨(some 57), (.s (.call 27 [(.tmp 56)])), (some (53, true))⟩, ⟨(some 58), (.s (.call 21 [(.tmp 55), (.tmp 57)])), (some (53, true))⟩, ⟨(some 59), (.q (.pick (.tmp 53) (.tmp 58) (.const (.bool false)))), none⟩, ⟨(some 60), (.q (.move (.tmp 59))), none⟩, ⟨(some 61), (.q (.move (.tmp 0))), (some (60, true))⟩, ⟨(some 63), (.q (.move (.tmp 0))), (some (60, true))⟩, ⟨(some 62), (.s (.call 28 [(.tmp 61)])), (some (60, true))⟩, ⟨(some 64), (.s (.call 29 [(.tmp 63)])), (some (60, true))⟩, ⟨(some 65), (.s (.call 21 [(.tmp 62), (.tmp 64)])), (some (60, true))⟩, ⟨(some 66), (.q (.pick (.tmp 60) (.tmp 65) (.const (.bool false)))), none⟩, ⟨(some 67), (.q (.move (.tmp 66))), none⟩, ⟨(some 68), (.s (.call 18 [])), (some (67, true))⟩, ⟨(some 69), (.q (.pick (.tmp 67) (.tmp 68) (.const (.bool false)))), none⟩, ⟨(some 6), (.q (.move (.tmp 69))), none⟩]) .ret)))))
theorem t5 : Told Try.prog 5 70 c5 [(.tmp 6)] := ⟨Try.f5, _, [], Try.func5, rfl, by kernel_rfl, rfl, by kernel_rfl, by kernel_rfl⟩
def c6 : ACode := 
    (.seq 
    (.region [⟨(some 4), (.q (.move (.const (.bool false)))), none⟩]) 
    (.seq 
    (.seq 
    (.region [⟨(some 13), (.q (.move (.tmp 0))), none⟩, ⟨(some 14), (.q (.len false (.tmp 13))), none⟩, ⟨(some 15), (.q (.bin .gtr (.tmp 14) (.const (.int .i64 20)))), none⟩]) 
    (.cond (.tmp 15) 
    (.seq 
    (.region [⟨(some 16), (.s (.call 18 [])), none⟩, ⟨(some 4), (.q (.move (.tmp 16))), none⟩]) .ret) .skip)) 
    (.seq 
    (.region [⟨(some 17), (.q (.move (.tmp 0))), none⟩, ⟨(some 18), (.s (.call 26 [(.tmp 17)])), none⟩, ⟨(some 19), (.q (.move (.tmp 0))), none⟩, ⟨(some 20), (.s (.call 28 [(.tmp 19)])), none⟩, ⟨(some 5), (.q (.move (.tmp 18))), none⟩, ⟨(some 6), (.q (.move (.tmp 20))), none⟩]) 
    (.seq 
    (.region [⟨(some 7), (.q (.move (.const (.int .i64 0)))), none⟩, ⟨(some 8), (.q (.move (.const (.int .i64 0)))), none⟩]) 
    (.seq 
    (.seq 
    (.region [⟨(some 9), (.q (.move (.const (.int .i64 0)))), none⟩]) 
    (.block 0 
    (.loop 
    (.seq 
    (.seq 
    (.region [⟨(some 21), (.q (.move (.tmp 9))), none⟩, ⟨(some 22), (.q (.move (.tmp 5))), none⟩, ⟨(some 23), (.q (.len false (.tmp 22))), none⟩, ⟨(some 24), (.q (.bin .lss (.tmp 21) (.tmp 23))), none⟩]) 
    (.cond (.tmp 24) .skip (.exit 0))) 
    (.seq 
    (.block 1 
    (.seq 
    (.seq 
    (.region [⟨(some 27), (.q (.move (.tmp 1))), none⟩, ⟨(some 28), (.q (.move (.tmp 5))), none⟩, ⟨(some 29), (.q (.move (.tmp 9))), none⟩, ⟨(some 30), (.q (.idxSl 2 (.tmp 28) (.tmp 29))), none⟩, ⟨(some 31), (.q (.fieldAddr 0 (.tmp 30))), none⟩, ⟨(some 32), (.q (.load false 1 (.tmp 31))), none⟩, ⟨(some 33), (.q (.bin .geq (.tmp 27) (.tmp 32))), none⟩, ⟨(some 34), (.q (.move (.tmp 33))), none⟩, ⟨(some 35), (.q (.move (.tmp 1))), (some (34, true))⟩, ⟨(some 36), (.q (.move (.tmp 5))), (some (34, true))⟩, ⟨(some 37), (.q (.move (.tmp 9))), (some (34, true))⟩, ⟨(some 38), (.q (.idxSl 2 (.tmp 36) (.tmp 37))), (some (34, true))⟩, ⟨(some 39), (.q (.fieldAddr 0 (.tmp 38))), (some (34, true))⟩, ⟨(some 40), (.q (.load false 1 (.tmp 39))), (some (34, true))⟩, ⟨(some 41), (.q (.bin .sub (.tmp 35) (.tmp 40))), (some (34, true))⟩, ⟨(some 42), (.q (.move (.tmp 5))), (some (34, true))⟩, ⟨(some 43), (.q (.move (.tmp 9))), (some (34, true))⟩, ⟨(some 44), (.q (.idxSl 2 (.tmp 42) (.tmp 43))), (some (34, true))⟩, ⟨(some 45), (.q (.fieldAddr 1 (.tmp 44))), (some (34, true))⟩, ⟨(some 46), (.q (.load false 1 (.tmp 45))), (some (34, true))⟩, ⟨(some 47), (.q (.bin .lss (.tmp 41) (.tmp 46))), (some (34, true))⟩, ⟨(some 48), (.q (.pick (.tmp 34) (.tmp 47) (.const (.bool false)))), none⟩]) 
    (.cond (.tmp 48) 
    (.region [⟨(some 49), (.q (.move (.tmp 7))), none⟩, ⟨(some 50), (.q (.bin .add (.tmp 49) (.const (.int .i64 1)))), none⟩, ⟨(some 7), (.q (.move (.tmp 50))), none⟩]) .skip)) 
    (.seq 
    (.region [⟨(some 51), (.q (.move (.tmp 5))), none⟩, ⟨(some 52), (.q (.move (.tmp 9))), none⟩, ⟨(some 53), (.q (.idxSl 2 (.tmp 51) (.tmp 52))), none⟩, ⟨(some 54), (.q (.fieldAddr 1 (.tmp 53))), none⟩, ⟨(some 55), (.q (.load false 1 (.tmp 54))), none⟩, ⟨(some 56), (.q (.bin .lss (.tmp 55) (.const (.int .i64 1)))), none⟩, ⟨(some 57), (.q (.move (.tmp 56))), none⟩, ⟨(some 58), (.q (.move (.tmp 9))), (some (57, false))⟩, ⟨(some 59), (.q (.bin .gtr (.tmp 58) (.const (.int .i64 0)))), (some (57, false))⟩, ⟨(some 60), (.q (.move (.tmp 59))), (some (57, false))⟩, ⟨(some 61), (.q (.move (.tmp 5))), (some (60, true))⟩, ⟨(some 62), (.q (.move (.tmp 9))), (some (60, true))⟩, ⟨(some 63), (.q (.idxSl 2 (.tmp 61) (.tmp 62))), (some (60, true))⟩, ⟨(some 64), (.q (.fieldAddr 0 (.tmp 63))), (some (60, true))⟩, ⟨(some 65), (.q (.load false 1 (.tmp 64))), (some (60, true))⟩, ⟨(some 66), (.q (.move (.tmp 5))), (some (60, true))⟩, ⟨(some 67), (.q (.move (.tmp 9))), (some (60, true))⟩, ⟨(some 68), (.q (.bin .sub (.tmp 67) (.const (.int .i64 1)))), (some (60, true))⟩, ⟨(some 69), (.q (.idxSl 2 (.tmp 66) (.tmp 68))), (some (60, true))⟩, ⟨(some 70), (.q (.fieldAddr 0 (.tmp 69))), (some (60, true))⟩, ⟨(some 71), (.q (.load false 1 (.tmp 70))), (some (60, true))⟩, ⟨(some 72), (.q (.move (.tmp 5))), (some (60, true))⟩, ⟨(some 73), (.q (.move (.tmp 9))), (some (60, true))⟩, ⟨(some 74), (.q (.bin .sub (.tmp 73) (.const (.int .i64 1)))), (some (60, true))⟩, ⟨(some 75), (.q (.idxSl 2 (.tmp 72) (.tmp 74))), (some (60, true))⟩, ⟨(some 76), (.q (.fieldAddr 1 (.tmp 75))), (some (60, true))⟩, ⟨(some 77), (.q (.load false 1 (.tmp 76))), (some (60, true))⟩, ⟨(some 78), (.q (.bin .add (.tmp 71) (.tmp 77))), (some (60, true))⟩, ⟨(some 79), (.q (.bin .leq (.tmp 65) (.tmp 78))), (some (60, true))⟩, ⟨(some 80), (.q (.pick (.tmp 60) (.tmp 79) (.const (.bool false)))), (some (57, false))⟩, ⟨(some 81), (.q (.pick (.tmp 57) (.const (.bool true)) (.tmp 80))), none⟩]) 
    (.cond (.tmp 81) 
    (.seq 
    (.region [⟨(some 4), (.q (.move (.const (.bool false)))), none⟩]) .ret) .skip)))) 
    (.region [⟨(some 25), (.q (.move (.tmp 9))), none⟩, ⟨(some 26), (.q (.bin .add (.tmp 25) (.const (.int .i64 1)))), none⟩, ⟨(some 9), (.q (.move (.tmp 26))), none⟩])))))) 
    (.seq 
    (.seq 
    (.region [⟨(some 10), (.q (.move (.const (.int .i64 0)))), none⟩]) 
    (.block 2 
    (.loop 
    (.seq 
    (.seq 
    (.region [⟨(some 82), (.q (.move (.tmp 10))), none⟩, ⟨(some 83), (.q (.move (.tmp 6))), none⟩, ⟨(some 84), (.q (.len false (.tmp 83))), none⟩, ⟨(some 85), (.q (.bin .lss (.tmp 82) (.tmp 84))), none⟩]) 
    (.cond (.tmp 85) .skip (.exit 2))) 
    (.seq 
    (.block 3 
    (.seq 
    (.seq 
    (.region [⟨(some 88), (.q (.move (.tmp 1))), none⟩, ⟨(some 89), (.q (.move (.tmp 6))), none⟩, ⟨(some 90), (.q (.move (.tmp 10))), none⟩, ⟨(some 91), (.q (.idxSl 2 (.tmp 89) (.tmp 90))), none⟩, ⟨(some 92), (.q (.fieldAddr 0 (.tmp 91))), none⟩, ⟨(some 93), (.q (.load false 1 (.tmp 92))), none⟩, ⟨(some 94), (.q (.bin .geq (.tmp 88) (.tmp 93))), none⟩, ⟨(some 95), (.q (.move (.tmp 94))), none⟩, ⟨(some 96), (.q (.move (.tmp 1))), (some (95, true))⟩, ⟨(some 97), (.q (.move (.tmp 6))), (some (95, true))⟩, ⟨(some 98), (.q (.move (.tmp 10))), (some (95, true))⟩, ⟨(some 99), (.q (.idxSl 2 (.tmp 97) (.tmp 98))), (some (95, true))⟩, ⟨(some 100), (.q (.fieldAddr 0 (.tmp 99))), (some (95, true))⟩, ⟨(some 101), (.q (.load false 1 (.tmp 100))), (some (95, true))⟩, ⟨(some 102), (.q (.bin .sub (.tmp 96) (.tmp 101))), (some (95, true))⟩, ⟨(some 103), (.q (.move (.tmp 6))), (some (95, true))⟩, ⟨(some 104), (.q (.move (.tmp 10))), (some (95, true))⟩, ⟨(some 105), (.q (.idxSl 2 (.tmp 103) (.tmp 104))), (some (95, true))⟩, ⟨(some 106), (.q (.fieldAddr 1 (.tmp 105))), (some (95, true))⟩, ⟨(some 107), (.q (.load false 1 (.tmp 106))), (some (95, true))⟩, ⟨(some 108), (.q (.bin .lss (.tmp 102) (.tmp 107))), (some (95, true))⟩, ⟨(some 109), (.q (.pick (.tmp 95) (.tmp 108) (.const (.bool false)))), none⟩]) 
    (.cond (.tmp 109) 
    (.region [⟨(some 110), (.q (.move (.tmp 8))), none⟩, ⟨(some 111), (.q (.bin .add (.tmp 110) (.const (.int .i64 1)))), none⟩, ⟨(some 8), (.q (.move (.tmp 111))), none⟩]) .skip)) 
    (.seq 
    (.region [⟨(some 112), (.q (.move (.tmp 6))), none⟩, ⟨(some 113), (.q (.move (.tmp 10))), none⟩, ⟨(some 114), (.q (.idxSl 2 (.tmp 112) (.tmp 113))), none⟩, ⟨(some 115), (.q (.fieldAddr 1 (.tmp 114))), none⟩, ⟨(some 116), (.q (.load false 1 (.tmp 115))), none⟩, ⟨(some 117), (.q (.bin .lss (.tmp 116) (.const (.int .i64 1)))), none⟩, ⟨(some 118), (.q (.move (.tmp 117))), none⟩, ⟨(some 119), (.q (.move (.tmp 6))), (some (118, false))⟩, ⟨(some 120), (.q (.move (.tmp 10))), (some (118, false))⟩, ⟨(some 121), (.q (.idxSl 2 (.tmp 119) (.tmp 120))), (some (118, false))⟩, ⟨(some 122), (.q (.fieldAddr 0 (.tmp 121))), (some (118, false))⟩, ⟨(some 123), (.q (.load false 1 (.tmp 122))), (some (118, false))⟩, ⟨(some 124), (.q (.bin .lss (.tmp 123) (.const (.int .i64 4096)))), (some (118, false))⟩, ⟨(some 125), (.q (.pick (.tmp 118) (.const (.bool true)) (.tmp 124))), none⟩, ⟨(some 126), (.q (.move (.tmp 125))), none⟩, ⟨(some 127), (.q (.move (.tmp 6))), (some (126, false))⟩, ⟨(some 128), (.q (.move (.tmp 10))), (some (126, false))⟩, ⟨(some 129), (.q (.idxSl 2 (.tmp 127) (.tmp 128))), (some (126, false))⟩, ⟨(some 130), (.q (.fieldAddr 0 (.tmp 129))), (some (126, false))⟩, ⟨(some 131), (.q (.load false 1 (.tmp 130))), (some (126, false))⟩, ⟨(some 132), (.q (.move (.tmp 6))), (some (126, false))⟩, ⟨(some 133), (.q (.move (.tmp 10))), (some (126, false))⟩, ⟨(some 134), (.q (.idxSl 2 (.tmp 132) (.tmp 133))), (some (126, false))⟩, ⟨(some 135), (.q (.fieldAddr 1 (.tmp 134))), (some (126, false))⟩, ⟨(some 136), (.q (.load false 1 (.tmp 135))), (some (126, false))⟩, ⟨(some 137), (.q (.bin .sub (.const (.int .i64 65536)) (.tmp 136))), (some (126, false))⟩, ⟨(some 138), (.q (.bin .gtr (.tmp 131) (.tmp 137))), (some (126, false))⟩, ⟨(some 139), (.q (.pick (.tmp 126) (.const (.bool true)) (.tmp 138))), none⟩, ⟨(some 140), (.q (.move (.tmp 139))), none⟩, ⟨(some 141), (.q (.move (.tmp 10))), (some (140, false))⟩, ⟨(some 142), (.q (.bin .gtr (.tmp 141) (.const (.int .i64 0)))), (some (140, false))⟩, ⟨(some 143), (.q (.move (.tmp 142))), (some (140, false))⟩, ⟨(some 144), (.q (.move (.tmp 6))), (some (143, true))⟩, ⟨(some 145), (.q (.move (.tmp 10))), (some (143, true))⟩, ⟨(some 146), (.q (.idxSl 2 (.tmp 144) (.tmp 145))), (some (143, true))⟩, ⟨(some 147), (.q (.fieldAddr 0 (.tmp 146))), (some (143, true))⟩, ⟨(some 148), (.q (.load false 1 (.tmp 147))), (some (143, true))⟩, ⟨(some 149), (.q (.move (.tmp 6))), (some (143, true))⟩, ⟨(some 150), (.q (.move (.tmp 10))), (some (143, true))⟩, ⟨(some 151), (.q (.bin .sub (.tmp 150) (.const (.int .i64 1)))), (some (143, true))⟩, ⟨(some 152), (.q (.idxSl 2 (.tmp 149) (.tmp 151))), (some (143, true))⟩, ⟨(some 153), (.q (.fieldAddr 0 (.tmp 152))), (some (143, true))⟩, ⟨(some 154), (.q (.load false 1 (.tmp 153))), (some (143, true))⟩, ⟨(some 155), (.q (.move (.tmp 6))), (some (143, true))⟩, ⟨(some 156), (.q (.move (.tmp 10))), (some (143, true))⟩, ⟨(some 157), (.q (.bin .sub (.tmp 156) (.const (.int .i64 1)))), (some (143, true))⟩, ⟨(some 158), (.q (.idxSl 2 (.tmp 155) (.tmp 157))), (some (143, true))⟩, ⟨(some 159), (.q (.fieldAddr 1 (.tmp 158))), (some (143, true))⟩, ⟨(some 160), (.q (.load false 1 (.tmp 159))), (some (143, true))⟩, ⟨(some 161), (.q (.bin .add (.tmp 154) (.tmp 160))), (some (143, true))⟩, ⟨(some 162), (.q (.bin .leq (.tmp 148) (.tmp 161))), (some (143, true))⟩, ⟨(some 163), (.q (.pick (.tmp 143) (.tmp 162) (.const (.bool false)))), (some (140, false))⟩, ⟨(some 164), (.q (.pick (.tmp 140) (.const (.bool true)) (.tmp 163))), none⟩]) 
    (.cond (.tmp 164) 
    (.seq 
    (.region [⟨(some 4), (.q (.move (.const (.bool false)))), none⟩]) .ret) .skip)))) 
    (.region [⟨(some 86), (.q (.move (.tmp 10))), none⟩, ⟨(some 87), (.q (.bin .add (.tmp 86) (.const (.int .i64 1)))), none⟩, ⟨(some 10), (.q (.move (.tmp 87))), none⟩])))))) 
    (.seq 
    (.region [⟨(some 165), (.q (.move (.tmp 0))), none⟩, ⟨(some 166), (.q (.move (.tmp 1))), none⟩, ⟨(some 167), (.s (.call 24 [(.tmp 165), (.tmp 166)])), none⟩, ⟨(some 11), (.q (.move (.tmp 167))), none⟩]) 
    (.seq 
    (.region [⟨(some 168), (.q (.move (.tmp 1))), none⟩, ⟨(some 169), (.q (.bin .geq (.tmp 168) (.const (.int .i64 4096)))), none⟩, ⟨(some 170), (.q (.move (.tmp 169))), none⟩, ⟨(some 171), (.q (.move (.tmp 1))), (some (170, true))⟩, ⟨(some 172), (.q (.bin .lss (.tmp 171) (.const (.int .i64 65536)))), (some (170, true))⟩, ⟨(some 173), (.q (.pick (.tmp 170) (.tmp 172) (.const (.bool false)))), none⟩, ⟨(some 12), (.q (.move (.tmp 173))), none⟩]) 
    (.seq 
    (.region [⟨(some 174), (.q (.move (.tmp 7))), none⟩, ⟨(some 175), (.q (.bin .eql (.tmp 174) (.const (.int .i64 1)))), none⟩, ⟨(some 176), (.q (.move (.tmp 11))), none⟩, ⟨(some 177), (.q (.beq false (.tmp 175) (.tmp 176))), none⟩, ⟨(some 178), (.q (.move (.tmp 177))), none⟩, ⟨(some 179), (.q (.move (.tmp 7))), (some (178, true))⟩, ⟨(some 180), (.q (.bin .lss (.tmp 179) (.const (.int .i64 2)))), (some (178, true))⟩, ⟨(some 181), (.q (.pick (.tmp 178) (.tmp 180) (.const (.bool false)))), none⟩, ⟨(some 182), (.q (.move (.tmp 181))), none⟩, ⟨(some 183), (.q (.move (.tmp 8))), (some (182, true))⟩, ⟨(some 184), (.q (.bin .eql (.tmp 183) (.const (.int .i64 1)))), (some (182, true))⟩, ⟨(some 185), (.q (.move (.tmp 12))), (some (182, true))⟩, ⟨(some 186), (.q (.move (.tmp 185))), (some (182, true))⟩, ⟨(some 187), (.q (.move (.tmp 11))), (some (186, true))⟩, ⟨(some 188), (.q (.un .not (.tmp 187))), (some (186, true))⟩, ⟨(some 189), (.q (.pick (.tmp 186) (.tmp 188) (.const (.bool false)))), (some (182, true))⟩, ⟨(some 190), (.q (.beq false (.tmp 184) (.tmp 189))), (some (182, true))⟩, ⟨(some 191), (.q (.pick (.tmp 182) (.tmp 190) (.const (.bool false)))), none⟩, ⟨(some 192), (.q (.move (.tmp 191))), none⟩, ⟨(some 193), (.q (.move (.tmp 8))), (some (192, true))⟩, ⟨(some 194), (.q (.bin .lss (.tmp 193) (.const (.int .i64 2)))), (some (192, true))⟩, ⟨(some 195), (.q (.pick (.tmp 192) (.tmp 194) (.const (.bool false)))), none⟩, ⟨(some 196), (.q (.move (.tmp 195))), none⟩, ⟨(some 197), (.s (.call 18 [])), (some (196, true))⟩, ⟨(some 198), (.q (.pick (.tmp 196) (.tmp 197) (.const (.bool false)))), none⟩, ⟨(some 4), (.q (.move (.tmp 198))), none⟩]) .ret)))))))))
theorem t6 : Told Try.prog 6 199 c6 [(.tmp 4)] := ⟨Try.f6, _, [], Try.func6, rfl, by kernel_rfl, rfl, by kernel_rfl, by kernel_rfl⟩
end Go.Proofs.Ytdknpnmdjjmapaa.AL

