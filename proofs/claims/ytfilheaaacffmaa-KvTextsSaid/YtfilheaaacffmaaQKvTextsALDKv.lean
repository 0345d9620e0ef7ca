/- The code of pairs, told. -/
import Derived.Test.YtfilheaaacffmaaQKvTextsALA3
import Derived.Test.YtfilheaaacffmaaProg
import Derived.KernelRfl
set_option maxRecDepth 100000
namespace Go.Proofs.Ytfilheaaacffmaa.AL
open Go Go.Proofs
def c119 : ACode := 
    (.seq 
    (.region [⟨(some 6), (.q (.move (.const .nils))), none⟩]) 
    (.seq 
    (.region [⟨(some 10), (.q (.move (.tmp 0))), none⟩, ⟨(some 11), (.q (.move (.tmp 1))), none⟩, ⟨(some 12), (.q (.sliceSl 2 (.tmp 10) (some (.tmp 11)) none)), none⟩]) 
    (.seq 
    (.region [⟨(some 13), (.q (.move (.tmp 2))), none⟩, ⟨(some 14), (.q (.len false (.tmp 13))), none⟩, ⟨(some 7), (.q (.move (.tmp 14))), none⟩]) 
    (.seq 
    (.seq 
    (.region [⟨(some 15), (.q (.move (.tmp 7))), none⟩, ⟨(some 16), (.q (.bin .eql (.tmp 15) (.const (.int .i64 0)))), none⟩]) 
    (.cond (.tmp 16) 
    (.seq 
    (.region [⟨(some 17), (.q (.move (.tmp 0))), none⟩, ⟨(some 6), (.q (.move (.tmp 17))), none⟩]) .ret) .skip)) 
    (.seq 
    (.region [⟨(some 18), (.q (.move (.tmp 0))), none⟩, ⟨(some 19), (.q (.len false (.tmp 18))), none⟩, ⟨(some 8), (.q (.move (.tmp 19))), none⟩]) 
    (.seq 
    (.seq 
    (.region [⟨(some 20), (.q (.move (.tmp 1))), none⟩, ⟨(some 21), (.q (.move (.tmp 8))), none⟩, ⟨(some 22), (.q (.bin .eql (.tmp 20) (.tmp 21))), none⟩]) 
    (.cond (.tmp 22) 
    (.seq 
    (.region [⟨(some 23), (.q (.move (.tmp 0))), none⟩, ⟨(some 24), (.q (.move (.tmp 2))), none⟩, ⟨(some 25), (.s (.app 94 2 32 (.tmp 23) (.tmp 24))), none⟩, ⟨(some 6), (.q (.move (.tmp 25))), none⟩]) .ret) .skip)) 
    (.seq 
    (.seq 
    (.region [⟨(some 26), (.q (.move (.tmp 8))), none⟩, ⟨(some 27), (.q (.move (.tmp 7))), none⟩, ⟨(some 28), (.q (.bin .add (.tmp 26) (.tmp 27))), none⟩, ⟨(some 29), (.q (.move (.tmp 0))), none⟩, ⟨(some 30), (.q (.cap (.tmp 29))), none⟩, ⟨(some 31), (.q (.bin .gtr (.tmp 28) (.tmp 30))), none⟩]) 
    (.cond (.tmp 31) 
    (.seq 
    (.region [⟨(some 32), (.q (.move (.tmp 0))), none⟩, ⟨(some 33), (.q (.move (.tmp 1))), none⟩, ⟨(some 34), (.q (.sliceSl 2 (.tmp 32) none (some (.tmp 33)))), none⟩, ⟨(some 35), (.q (.move (.tmp 8))), none⟩, ⟨(some 36), (.q (.move (.tmp 7))), none⟩, ⟨(some 37), (.q (.bin .add (.tmp 35) (.tmp 36))), none⟩, ⟨(some 38), (.q (.move (.tmp 1))), none⟩, ⟨(some 39), (.q (.bin .sub (.tmp 37) (.tmp 38))), none⟩, ⟨(some 40), (.s (.appz 94 2 32 [(.str (B [])), (.str (B []))] (.tmp 34) (.tmp 39))), none⟩, ⟨(some 9), (.q (.move (.tmp 40))), none⟩]) 
    (.seq 
    (.region [⟨(some 41), (.q (.move (.tmp 9))), none⟩, ⟨(some 42), (.q (.move (.tmp 1))), none⟩, ⟨(some 43), (.q (.sliceSl 2 (.tmp 41) (some (.tmp 42)) none)), none⟩, ⟨(some 44), (.q (.move (.tmp 2))), none⟩, ⟨(some 45), (.s (.copy 2 (.tmp 43) (.tmp 44))), none⟩]) 
    (.seq 
    (.region [⟨(some 46), (.q (.move (.tmp 9))), none⟩, ⟨(some 47), (.q (.move (.tmp 1))), none⟩, ⟨(some 48), (.q (.move (.tmp 7))), none⟩, ⟨(some 49), (.q (.bin .add (.tmp 47) (.tmp 48))), none⟩, ⟨(some 50), (.q (.sliceSl 2 (.tmp 46) (some (.tmp 49)) none)), none⟩, ⟨(some 51), (.q (.move (.tmp 0))), none⟩, ⟨(some 52), (.q (.move (.tmp 1))), none⟩, ⟨(some 53), (.q (.sliceSl 2 (.tmp 51) (some (.tmp 52)) none)), none⟩, ⟨(some 54), (.s (.copy 2 (.tmp 50) (.tmp 53))), none⟩]) 
    (.seq 
    (.region [⟨(some 55), (.q (.move (.tmp 9))), none⟩, ⟨(some 6), (.q (.move (.tmp 55))), none⟩]) .ret)))) .skip)) 
    (.seq 
    (.region [⟨(some 56), (.q (.move (.tmp 0))), none⟩, ⟨(some 57), (.q (.move (.tmp 8))), none⟩, ⟨(some 58), (.q (.move (.tmp 7))), none⟩, ⟨(some 59), (.q (.bin .add (.tmp 57) (.tmp 58))), none⟩, ⟨(some 60), (.q (.sliceSl 2 (.tmp 56) none (some (.tmp 59)))), none⟩, ⟨(some 0), (.q (.move (.tmp 60))), none⟩]) 
    (.seq 
    (.seq 
    (.region [⟨(some 61), (.q (.move (.tmp 2))), none⟩, ⟨(some 62), (.q (.move (.tmp 0))), none⟩, ⟨(some 63), (.q (.move (.tmp 1))), none⟩, ⟨(some 64), (.q (.move (.tmp 7))), none⟩, ⟨(some 65), (.q (.bin .add (.tmp 63) (.tmp 64))), none⟩, ⟨(some 66), (.q (.sliceSl 2 (.tmp 62) (some (.tmp 65)) none)), none⟩, ⟨(some 67), (.s (.call 155 [(.tmp 61), (.tmp 66)])), none⟩, ⟨(some 68), (.q (.un .not (.tmp 67))), none⟩]) 
    (.cond (.tmp 68) 
    (.seq 
    (.region [⟨(some 69), (.q (.move (.tmp 0))), none⟩, ⟨(some 70), (.q (.move (.tmp 1))), none⟩, ⟨(some 71), (.q (.move (.tmp 7))), none⟩, ⟨(some 72), (.q (.bin .add (.tmp 70) (.tmp 71))), none⟩, ⟨(some 73), (.q (.sliceSl 2 (.tmp 69) (some (.tmp 72)) none)), none⟩, ⟨(some 74), (.q (.move (.tmp 0))), none⟩, ⟨(some 75), (.q (.move (.tmp 1))), none⟩, ⟨(some 76), (.q (.sliceSl 2 (.tmp 74) (some (.tmp 75)) none)), none⟩, ⟨(some 77), (.s (.copy 2 (.tmp 73) (.tmp 76))), none⟩]) 
    (.seq 
    (.region [⟨(some 78), (.q (.move (.tmp 0))), none⟩, ⟨(some 79), (.q (.move (.tmp 1))), none⟩, ⟨(some 80), (.q (.sliceSl 2 (.tmp 78) (some (.tmp 79)) none)), none⟩, ⟨(some 81), (.q (.move (.tmp 2))), none⟩, ⟨(some 82), (.s (.copy 2 (.tmp 80) (.tmp 81))), none⟩]) 
    (.seq 
    (.region [⟨(some 83), (.q (.move (.tmp 0))), none⟩, ⟨(some 6), (.q (.move (.tmp 83))), none⟩]) .ret))) .skip)) 
    (.seq 
    (.region [⟨(some 84), (.q (.move (.tmp 0))), none⟩, ⟨(some 85), (.q (.move (.tmp 8))), none⟩, ⟨(some 86), (.q (.sliceSl 2 (.tmp 84) (some (.tmp 85)) none)), none⟩, ⟨(some 87), (.q (.move (.tmp 2))), none⟩, ⟨(some 88), (.s (.copy 2 (.tmp 86) (.tmp 87))), none⟩]) 
    (.seq 
    (.region [⟨(some 89), (.q (.move (.tmp 0))), none⟩, ⟨(some 90), (.q (.move (.tmp 1))), none⟩, ⟨(some 91), (.q (.sliceSl 2 (.tmp 89) (some (.tmp 90)) none)), none⟩, ⟨(some 92), (.q (.move (.tmp 7))), none⟩, ⟨(some 93), (.s (.call 156 [(.tmp 91), (.tmp 92)])), none⟩]) 
    (.seq 
    (.region [⟨(some 94), (.q (.move (.tmp 0))), none⟩, ⟨(some 6), (.q (.move (.tmp 94))), none⟩]) .ret))))))))))))
theorem t119 : Told Try.prog 119 95 c119 [(.tmp 6)] := ⟨Try.f119, _, [], Try.func119, rfl, by kernel_rfl, rfl, by kernel_rfl, by kernel_rfl⟩
def c121 : ACode := 
    (.seq 
    (.region [⟨(some 4), (.q (.move (.const .nils))), none⟩]) 
    (.seq 
    (.region [⟨(some 8), (.q (.move (.tmp 0))), none⟩, ⟨(some 9), (.q (.move (.tmp 1))), none⟩, ⟨(some 10), (.s (.call 112 [(.tmp 8), (.tmp 9)])), none⟩, ⟨(some 5), (.q (.move (.tmp 10))), none⟩]) 
    (.seq 
    (.seq 
    (.region [⟨(some 11), (.q (.move (.tmp 5))), none⟩, ⟨(some 12), (.q (.bin .eql (.tmp 11) (.const (.int .i64 (-1))))), none⟩]) 
    (.cond (.tmp 12) 
    (.seq 
    (.region [⟨(some 13), (.q (.move (.tmp 0))), none⟩, ⟨(some 4), (.q (.move (.tmp 13))), none⟩]) .ret) .skip)) 
    (.seq 
    (.seq 
    (.region [⟨(some 14), (.q (.move (.tmp 5))), none⟩, ⟨(some 15), (.q (.bin .add (.tmp 14) (.const (.int .i64 1)))), none⟩, ⟨(some 6), (.q (.move (.tmp 15))), none⟩]) 
    (.block 0 
    (.loop 
    (.seq 
    (.seq 
    (.region [⟨(some 16), (.q (.move (.tmp 6))), none⟩, ⟨(some 17), (.q (.move (.tmp 0))), none⟩, ⟨(some 18), (.q (.len false (.tmp 17))), none⟩, ⟨(some 19), (.q (.bin .lss (.tmp 16) (.tmp 18))), none⟩]) 
    (.cond (.tmp 19) .skip (.exit 0))) 
    (.seq 
    (.block 1 
    (.seq 
    (.region [⟨(some 22), (.q (.move (.tmp 0))), none⟩, ⟨(some 23), (.q (.move (.tmp 6))), none⟩, ⟨(some 24), (.q (.idxSl 2 (.tmp 22) (.tmp 23))), none⟩, ⟨(some 25), (.q (.load true 2 (.tmp 24))), none⟩, ⟨(some 7), (.s (.alloc 94 [(.str (B [])), (.str (B []))])), none⟩, ⟨none, (.s (.store 2 (.tmp 7) (.tmp 25))), none⟩]) 
    (.seq 
    (.region [⟨(some 26), (.q (.move (.tmp 1))), none⟩, ⟨(some 27), (.q (.load true 2 (.tmp 7))), none⟩, ⟨(some 28), (.s (.callv (.tmp 26) [(.tmp 27)])), none⟩, ⟨(some 29), (.q (.un .not (.tmp 28))), none⟩]) 
    (.cond (.tmp 29) 
    (.seq 
    (.region [⟨(some 30), (.q (.move (.tmp 0))), none⟩, ⟨(some 31), (.q (.move (.tmp 5))), none⟩, ⟨(some 32), (.q (.load true 2 (.tmp 7))), none⟩, ⟨(some 33), (.q (.idxSl 2 (.tmp 30) (.tmp 31))), none⟩, ⟨none, (.s (.store 2 (.tmp 33) (.tmp 32))), none⟩]) 
    (.region [⟨(some 34), (.q (.move (.tmp 5))), none⟩, ⟨(some 35), (.q (.bin .add (.tmp 34) (.const (.int .i64 1)))), none⟩, ⟨(some 5), (.q (.move (.tmp 35))), none⟩])) .skip)))) 
    (.region [⟨(some 20), (.q (.move (.tmp 6))), none⟩, ⟨(some 21), (.q (.bin .add (.tmp 20) (.const (.int .i64 1)))), none⟩, ⟨(some 6), (.q (.move (.tmp 21))), none⟩])))))) 
    (.seq 
    (.region [⟨(some 36), (.q (.move (.tmp 0))), none⟩, ⟨(some 37), (.q (.move (.tmp 5))), none⟩, ⟨(some 38), (.q (.sliceSl 2 (.tmp 36) (some (.tmp 37)) none)), none⟩, ⟨none, (.s (.clear 2 [(.str (B [])), (.str (B []))] (.tmp 38))), none⟩]) 
    (.seq 
    (.region [⟨(some 39), (.q (.move (.tmp 0))), none⟩, ⟨(some 40), (.q (.move (.tmp 5))), none⟩, ⟨(some 41), (.q (.sliceSl 2 (.tmp 39) none (some (.tmp 40)))), none⟩, ⟨(some 4), (.q (.move (.tmp 41))), none⟩]) .ret))))))
theorem t121 : Told Try.prog 121 42 c121 [(.tmp 4)] := ⟨Try.f121, _, [], Try.func121, rfl, by kernel_rfl, rfl, by kernel_rfl, by kernel_rfl⟩
def c112 : ACode := 
    (.seq 
    (.region [⟨(some 4), (.q (.move (.const (.int .i64 0)))), none⟩]) 
    (.seq 
    (.seq 
    (.region [⟨(some 6), (.q (.move (.tmp 0))), none⟩, ⟨(some 7), (.q (.len false (.tmp 6))), none⟩, ⟨(some 8), (.q (.move (.const (.int .i64 0)))), none⟩]) 
    (.block 0 
    (.loop 
    (.seq 
    (.region [⟨(some 9), (.q (.bin .lss (.tmp 8) (.tmp 7))), none⟩]) 
    (.seq 
    (.cond (.tmp 9) .skip (.exit 0)) 
    (.seq 
    (.block 1 
    (.seq 
    (.region [⟨(some 10), (.q (.move (.tmp 8))), none⟩, ⟨(some 5), (.q (.move (.tmp 10))), none⟩]) 
    (.seq 
    (.region [⟨(some 11), (.q (.move (.tmp 1))), none⟩, ⟨(some 12), (.q (.move (.tmp 0))), none⟩, ⟨(some 13), (.q (.move (.tmp 5))), none⟩, ⟨(some 14), (.q (.idxSl 2 (.tmp 12) (.tmp 13))), none⟩, ⟨(some 15), (.q (.load true 2 (.tmp 14))), none⟩, ⟨(some 16), (.s (.callv (.tmp 11) [(.tmp 15)])), none⟩]) 
    (.cond (.tmp 16) 
    (.seq 
    (.region [⟨(some 17), (.q (.move (.tmp 5))), none⟩, ⟨(some 4), (.q (.move (.tmp 17))), none⟩]) .ret) .skip)))) 
    (.region [⟨(some 18), (.q (.bin .add (.tmp 8) (.const (.int .i64 1)))), none⟩, ⟨(some 8), (.q (.move (.tmp 18))), none⟩]))))))) 
    (.seq 
    (.region [⟨(some 4), (.q (.move (.const (.int .i64 (-1))))), none⟩]) .ret)))
theorem t112 : Told Try.prog 112 19 c112 [(.tmp 4)] := ⟨Try.f112, _, [], Try.func112, rfl, by kernel_rfl, rfl, by kernel_rfl, by kernel_rfl⟩
def c117 : ACode := 
    (.seq 
    (.region [⟨(some 2), (.q (.move (.const .nils))), none⟩]) 
    (.seq 
    (.seq 
    (.region [⟨(some 3), (.q (.move (.tmp 0))), none⟩, ⟨(some 4), (.q (.nil .sl false (.tmp 3) (.const .nils))), none⟩]) 
    (.cond (.tmp 4) 
    (.seq 
    (.region [⟨(some 2), (.q (.move (.const .nils))), none⟩]) .ret) .skip)) 
    (.seq 
    (.region [⟨(some 5), (.s (.litw 94 2 [])), none⟩, ⟨(some 6), (.q (.move (.tmp 0))), none⟩, ⟨(some 7), (.s (.app 94 2 32 (.tmp 5) (.tmp 6))), none⟩, ⟨(some 2), (.q (.move (.tmp 7))), none⟩]) .ret)))
theorem t117 : Told Try.prog 117 8 c117 [(.tmp 2)] := ⟨Try.f117, _, [5], Try.func117, rfl, by kernel_rfl, rfl, by kernel_rfl, by kernel_rfl⟩
def c152 : ACode := 
    (.seq 
    (.region [⟨(some 6), (.q (.move (.const (.int .i64 0)))), none⟩, ⟨(some 7), (.q (.move (.const (.bool false)))), none⟩]) 
    (.seq 
    (.region [⟨(some 12), (.q (.move (.tmp 0))), none⟩, ⟨(some 13), (.q (.len false (.tmp 12))), none⟩, ⟨(some 8), (.q (.move (.tmp 13))), none⟩]) 
    (.seq 
    (.region [⟨(some 14), (.q (.move (.tmp 8))), none⟩, ⟨(some 9), (.q (.move (.const (.int .i64 0)))), none⟩, ⟨(some 10), (.q (.move (.tmp 14))), none⟩]) 
    (.seq 
    (.block 0 
    (.loop 
    (.seq 
    (.seq 
    (.region [⟨(some 15), (.q (.move (.tmp 9))), none⟩, ⟨(some 16), (.q (.move (.tmp 10))), none⟩, ⟨(some 17), (.q (.bin .lss (.tmp 15) (.tmp 16))), none⟩]) 
    (.cond (.tmp 17) .skip (.exit 0))) 
    (.block 1 
    (.seq 
    (.region [⟨(some 18), (.q (.move (.tmp 9))), none⟩, ⟨(some 19), (.q (.move (.tmp 10))), none⟩, ⟨(some 20), (.q (.bin .add (.tmp 18) (.tmp 19))), none⟩, ⟨(some 21), (.q (.conv .u64 (.tmp 20))), none⟩, ⟨(some 22), (.q (.bin .shr (.tmp 21) (.const (.int .u64 1)))), none⟩, ⟨(some 23), (.q (.conv .i64 (.tmp 22))), none⟩, ⟨(some 11), (.q (.move (.tmp 23))), none⟩]) 
    (.seq 
    (.region [⟨(some 24), (.q (.move (.tmp 2))), none⟩, ⟨(some 25), (.q (.move (.tmp 0))), none⟩, ⟨(some 26), (.q (.move (.tmp 11))), none⟩, ⟨(some 27), (.q (.idxSl 2 (.tmp 25) (.tmp 26))), none⟩, ⟨(some 28), (.q (.load true 2 (.tmp 27))), none⟩, ⟨(some 29), (.q (.move (.tmp 1))), none⟩, ⟨(some 30), (.s (.callv (.tmp 24) [(.tmp 28), (.tmp 29)])), none⟩, ⟨(some 31), (.q (.bin .lss (.tmp 30) (.const (.int .i64 0)))), none⟩]) 
    (.cond (.tmp 31) 
    (.region [⟨(some 32), (.q (.move (.tmp 11))), none⟩, ⟨(some 33), (.q (.bin .add (.tmp 32) (.const (.int .i64 1)))), none⟩, ⟨(some 9), (.q (.move (.tmp 33))), none⟩]) 
    (.region [⟨(some 34), (.q (.move (.tmp 11))), none⟩, ⟨(some 10), (.q (.move (.tmp 34))), none⟩])))))))) 
    (.seq 
    (.region [⟨(some 35), (.q (.move (.tmp 9))), none⟩, ⟨(some 36), (.q (.move (.tmp 9))), none⟩, ⟨(some 37), (.q (.move (.tmp 8))), none⟩, ⟨(some 38), (.q (.bin .lss (.tmp 36) (.tmp 37))), none⟩, ⟨(some 39), (.q (.move (.tmp 38))), none⟩, ⟨(some 40), (.q (.move (.tmp 2))), (some (39, true))⟩, ⟨(some 41), (.q (.move (.tmp 0))), (some (39, true))⟩, ⟨(some 42), (.q (.move (.tmp 9))), (some (39, true))⟩, ⟨(some 43), (.q (.idxSl 2 (.tmp 41) (.tmp 42))), (some (39, true))⟩, ⟨(some 44), (.q (.load true 2 (.tmp 43))), (some (39, true))⟩, ⟨(some 45), (.q (.move (.tmp 1))), (some (39, true))⟩, ⟨(some 46), (.s (.callv (.tmp 40) [(.tmp 44), (.tmp 45)])), (some (39, true))⟩, ⟨(some 47), (.q (.bin .eql (.tmp 46) (.const (.int .i64 0)))), (some (39, true))⟩, ⟨(some 48), (.q (.pick (.tmp 39) (.tmp 47) (.const (.bool false)))), none⟩, ⟨(some 6), (.q (.move (.tmp 35))), none⟩, ⟨(some 7), (.q (.move (.tmp 48))), none⟩]) .ret)))))
theorem t152 : Told Try.prog 152 49 c152 [(.tmp 6), (.tmp 7)] := ⟨Try.f152, _, [], Try.func152, rfl, by kernel_rfl, rfl, by kernel_rfl, by kernel_rfl⟩
def c157 : ACode := 
    (.seq 
    (.region [⟨(some 4), (.q (.move (.const (.int .i64 0)))), none⟩]) 
    (.seq 
    (.seq 
    (.region [⟨(some 6), (.q (.move (.tmp 0))), none⟩, ⟨(some 7), (.q (.len false (.tmp 6))), none⟩, ⟨(some 8), (.q (.move (.const (.int .i64 0)))), none⟩]) 
    (.block 0 
    (.loop 
    (.seq 
    (.region [⟨(some 9), (.q (.bin .lss (.tmp 8) (.tmp 7))), none⟩]) 
    (.seq 
    (.cond (.tmp 9) .skip (.exit 0)) 
    (.seq 
    (.block 1 
    (.seq 
    (.region [⟨(some 10), (.q (.move (.tmp 8))), none⟩, ⟨(some 5), (.q (.move (.tmp 10))), none⟩]) 
    (.seq 
    (.region [⟨(some 11), (.q (.move (.tmp 1))), none⟩, ⟨(some 12), (.q (.move (.tmp 0))), none⟩, ⟨(some 13), (.q (.move (.tmp 5))), none⟩, ⟨(some 14), (.q (.idxSl 1 (.tmp 12) (.tmp 13))), none⟩, ⟨(some 15), (.q (.load false 1 (.tmp 14))), none⟩, ⟨(some 16), (.q (.bin .eql (.tmp 11) (.tmp 15))), none⟩]) 
    (.cond (.tmp 16) 
    (.seq 
    (.region [⟨(some 17), (.q (.move (.tmp 5))), none⟩, ⟨(some 4), (.q (.move (.tmp 17))), none⟩]) .ret) .skip)))) 
    (.region [⟨(some 18), (.q (.bin .add (.tmp 8) (.const (.int .i64 1)))), none⟩, ⟨(some 8), (.q (.move (.tmp 18))), none⟩]))))))) 
    (.seq 
    (.region [⟨(some 4), (.q (.move (.const (.int .i64 (-1))))), none⟩]) .ret)))
theorem t157 : Told Try.prog 157 19 c157 [(.tmp 4)] := ⟨Try.f157, _, [], Try.func157, rfl, by kernel_rfl, rfl, by kernel_rfl, by kernel_rfl⟩
def c123 : ACode := 
    (.seq 
    (.region [⟨(some 4), (.q (.move (.const (.bool false)))), none⟩]) 
    (.seq 
    (.region [⟨(some 5), (.q (.move (.tmp 0))), none⟩, ⟨(some 6), (.q (.move (.tmp 1))), none⟩, ⟨(some 7), (.s (.call 157 [(.tmp 5), (.tmp 6)])), none⟩, ⟨(some 8), (.q (.bin .geq (.tmp 7) (.const (.int .i64 0)))), none⟩, ⟨(some 4), (.q (.move (.tmp 8))), none⟩]) .ret))
theorem t123 : Told Try.prog 123 9 c123 [(.tmp 4)] := ⟨Try.f123, _, [], Try.func123, rfl, by kernel_rfl, rfl, by kernel_rfl, by kernel_rfl⟩
def c178 : ACode := 
    (.seq 
    (.region [⟨(some 4), (.q (.move (.const (.int .i64 0)))), none⟩]) 
    (.seq 
    (.region [⟨(some 5), (.q (.move (.tmp 0))), none⟩, ⟨(some 6), (.q (.move (.tmp 1))), none⟩, ⟨(some 7), (.s (.call 188 [(.tmp 5), (.tmp 6)])), none⟩, ⟨(some 4), (.q (.move (.tmp 7))), none⟩]) .ret))
theorem t178 : Told Try.prog 178 8 c178 [(.tmp 4)] := ⟨Try.f178, _, [], Try.func178, rfl, by kernel_rfl, rfl, by kernel_rfl, by kernel_rfl⟩
def c154 : ACode := 
    (.seq 
    (.region [⟨(some 4), (.q (.move (.const (.int .i64 0)))), none⟩]) 
    (.seq 
    (.region [⟨(some 5), (.q (.move (.tmp 0))), none⟩, ⟨(some 6), (.q (.move (.tmp 1))), none⟩, ⟨(some 7), (.s (.call 178 [(.tmp 5), (.tmp 6)])), none⟩, ⟨(some 4), (.q (.move (.tmp 7))), none⟩]) .ret))
theorem t154 : Told Try.prog 154 8 c154 [(.tmp 4)] := ⟨Try.f154, _, [], Try.func154, rfl, by kernel_rfl, rfl, by kernel_rfl, by kernel_rfl⟩
def c114 : ACode := 
    (.seq 
    (.region [⟨(some 2), (.q (.move (.const (.bool false)))), none⟩]) 
    (.seq 
    (.seq 
    (.region [⟨(some 5), (.q (.move (.tmp 0))), none⟩, ⟨(some 6), (.s (.range (.tmp 5))), none⟩]) 
    (.block 0 
    (.loop 
    (.seq 
    (.region [⟨(some 7), (.s (.next (.tmp 6))), none⟩, ⟨(some 8), (.q (.extract 0 (.tmp 7))), none⟩]) 
    (.seq 
    (.cond (.tmp 8) .skip (.exit 0)) 
    (.block 1 
    (.seq 
    (.region [⟨(some 9), (.q (.extract 2 (.tmp 7))), none⟩, ⟨(some 4), (.q (.move (.tmp 9))), none⟩]) 
    (.seq 
    (.region [⟨(some 10), (.q (.move (.tmp 4))), none⟩, ⟨(some 11), (.q (.bin .lss (.tmp 10) (.const (.int .i32 97)))), none⟩, ⟨(some 12), (.q (.move (.tmp 11))), none⟩, ⟨(some 13), (.q (.move (.tmp 4))), (some (12, false))⟩, ⟨(some 14), (.q (.bin .gtr (.tmp 13) (.const (.int .i32 122)))), (some (12, false))⟩, ⟨(some 15), (.q (.pick (.tmp 12) (.const (.bool true)) (.tmp 14))), none⟩, ⟨(some 16), (.q (.move (.tmp 15))), none⟩, ⟨(some 17), (.q (.move (.tmp 4))), (some (16, true))⟩, ⟨(some 18), (.q (.bin .lss (.tmp 17) (.const (.int .i32 48)))), (some (16, true))⟩, ⟨(some 19), (.q (.move (.tmp 18))), (some (16, true))⟩, ⟨(some 20), (.q (.move (.tmp 4))), (some (19, false))⟩, ⟨(some 21), (.q (.bin .gtr (.tmp 20) (.const (.int .i32 57)))), (some (19, false))⟩, ⟨(some 22), (.q (.pick (.tmp 19) (.const (.bool true)) (.tmp 21))), (some (16, true))⟩, ⟨(some 23), (.q (.pick (.tmp 16) (.tmp 22) (.const (.bool false)))), none⟩, ⟨(some 24), (.q (.move (.tmp 23))), none⟩, ⟨(some 25), (.q (.move (.tmp 4))), (some (24, true))⟩, ⟨(some 26), (.q (.bin .neq (.tmp 25) (.const (.int .i32 46)))), (some (24, true))⟩, ⟨(some 27), (.q (.pick (.tmp 24) (.tmp 26) (.const (.bool false)))), none⟩]) 
    (.cond (.tmp 27) 
    (.seq 
    (.region [⟨(some 2), (.q (.move (.const (.bool false)))), none⟩]) .ret) .skip))))))))) 
    (.seq 
    (.region [⟨(some 28), (.q (.move (.tmp 0))), none⟩, ⟨(some 29), (.q (.bin .neq (.tmp 28) (.const (.str (B []))))), none⟩, ⟨(some 30), (.q (.move (.tmp 29))), none⟩, ⟨(some 31), (.q (.move (.tmp 0))), (some (30, true))⟩, ⟨(some 32), (.q (.len true (.tmp 31))), (some (30, true))⟩, ⟨(some 33), (.q (.bin .leq (.tmp 32) (.const (.int .i64 31)))), (some (30, true))⟩, ⟨(some 34), (.q (.pick (.tmp 30) (.tmp 33) (.const (.bool false)))), none⟩, ⟨(some 2), (.q (.move (.tmp 34))), none⟩]) .ret)))
theorem t114 : Told Try.prog 114 35 c114 [(.tmp 2)] := ⟨Try.f114, _, [], Try.func114, rfl, by kernel_rfl, rfl, by kernel_rfl, by kernel_rfl⟩
def c115 : ACode := 
    (.seq 
    (.region [⟨(some 2), (.q (.move (.const (.bool false)))), none⟩]) 
    (.seq 
    (.seq 
    (.region [⟨(some 5), (.q (.move (.tmp 0))), none⟩, ⟨(some 6), (.s (.range (.tmp 5))), none⟩]) 
    (.block 0 
    (.loop 
    (.seq 
    (.region [⟨(some 7), (.s (.next (.tmp 6))), none⟩, ⟨(some 8), (.q (.extract 0 (.tmp 7))), none⟩]) 
    (.seq 
    (.cond (.tmp 8) .skip (.exit 0)) 
    (.block 1 
    (.seq 
    (.region [⟨(some 9), (.q (.extract 2 (.tmp 7))), none⟩, ⟨(some 4), (.q (.move (.tmp 9))), none⟩]) 
    (.seq 
    (.region [⟨(some 10), (.q (.move (.tmp 4))), none⟩, ⟨(some 11), (.q (.bin .lss (.tmp 10) (.const (.int .i32 32)))), none⟩, ⟨(some 12), (.q (.move (.tmp 11))), none⟩, ⟨(some 13), (.q (.move (.tmp 4))), (some (12, false))⟩, ⟨(some 14), (.q (.bin .gtr (.tmp 13) (.const (.int .i32 126)))), (some (12, false))⟩, ⟨(some 15), (.q (.pick (.tmp 12) (.const (.bool true)) (.tmp 14))), none⟩]) 
    (.cond (.tmp 15) 
    (.seq 
    (.region [⟨(some 2), (.q (.move (.const (.bool false)))), none⟩]) .ret) .skip))))))))) 
    (.seq 
    (.region [⟨(some 16), (.q (.move (.tmp 0))), none⟩, ⟨(some 17), (.q (.len true (.tmp 16))), none⟩, ⟨(some 18), (.q (.bin .leq (.tmp 17) (.const (.int .i64 120)))), none⟩, ⟨(some 2), (.q (.move (.tmp 18))), none⟩]) .ret)))
theorem t115 : Told Try.prog 115 19 c115 [(.tmp 2)] := ⟨Try.f115, _, [], Try.func115, rfl, by kernel_rfl, rfl, by kernel_rfl, by kernel_rfl⟩
def c55 : ACode := 
    (.seq 
    (.region [⟨(some 1), (.s (.box 94 (.tmp 0))), none⟩, ⟨(some 2), (.q (.move (.const (.int .i64 0)))), none⟩]) 
    (.seq 
    (.seq 
    (.region [⟨(some 3), (.q (.fieldAddr 0 (.tmp 1))), none⟩, ⟨(some 4), (.q (.load false 1 (.tmp 3))), none⟩, ⟨(some 5), (.s (.call 114 [(.tmp 4)])), none⟩, ⟨(some 6), (.q (.un .not (.tmp 5))), none⟩, ⟨(some 7), (.q (.move (.tmp 6))), none⟩, ⟨(some 8), (.q (.fieldAddr 1 (.tmp 1))), (some (7, false))⟩, ⟨(some 9), (.q (.load false 1 (.tmp 8))), (some (7, false))⟩, ⟨(some 10), (.s (.call 115 [(.tmp 9)])), (some (7, false))⟩, ⟨(some 11), (.q (.un .not (.tmp 10))), (some (7, false))⟩, ⟨(some 12), (.q (.pick (.tmp 7) (.const (.bool true)) (.tmp 11))), none⟩]) 
    (.cond (.tmp 12) 
    (.seq 
    (.region [⟨(some 2), (.q (.move (.const (.int .i64 1)))), none⟩]) .ret) .skip)) 
    (.seq 
    (.region [⟨(some 2), (.q (.move (.const (.int .i64 0)))), none⟩]) .ret)))
theorem t55 : Told Try.prog 55 13 c55 [(.tmp 2)] := ⟨Try.f55, _, [], Try.func55, rfl, by kernel_rfl, rfl, by kernel_rfl, by kernel_rfl⟩
def c106 : ACode := 
    (.seq 
    (.region [⟨(some 2), (.q (.move (.const (.bool false)))), none⟩]) 
    (.seq 
    (.seq 
    (.region [⟨(some 5), (.q (.move (.tmp 0))), none⟩, ⟨(some 6), (.q (.len false (.tmp 5))), none⟩, ⟨(some 7), (.q (.move (.const (.int .i64 0)))), none⟩]) 
    (.block 0 
    (.loop 
    (.seq 
    (.region [⟨(some 8), (.q (.bin .lss (.tmp 7) (.tmp 6))), none⟩]) 
    (.seq 
    (.cond (.tmp 8) .skip (.exit 0)) 
    (.seq 
    (.block 1 
    (.seq 
    (.region [⟨(some 9), (.q (.move (.tmp 7))), none⟩, ⟨(some 10), (.q (.idxSl 2 (.tmp 5) (.tmp 7))), none⟩, ⟨(some 11), (.q (.load true 2 (.tmp 10))), none⟩, ⟨(some 4), (.s (.alloc 94 [(.str (B [])), (.str (B []))])), none⟩, ⟨(some 3), (.q (.move (.tmp 9))), none⟩, ⟨none, (.s (.store 2 (.tmp 4) (.tmp 11))), none⟩]) 
    (.seq 
    (.region [⟨(some 12), (.q (.load true 2 (.tmp 4))), none⟩, ⟨(some 13), (.s (.call 55 [(.tmp 12)])), none⟩, ⟨(some 14), (.q (.bin .neq (.tmp 13) (.const (.int .i64 0)))), none⟩, ⟨(some 15), (.q (.move (.tmp 14))), none⟩, ⟨(some 16), (.q (.move (.tmp 3))), (some (15, false))⟩, ⟨(some 17), (.q (.bin .gtr (.tmp 16) (.const (.int .i64 0)))), (some (15, false))⟩, ⟨(some 18), (.q (.move (.tmp 17))), (some (15, false))⟩, ⟨(some 19), (.q (.move (.tmp 0))), (some (18, true))⟩, ⟨(some 20), (.q (.move (.tmp 3))), (some (18, true))⟩, ⟨(some 21), (.q (.bin .sub (.tmp 20) (.const (.int .i64 1)))), (some (18, true))⟩, ⟨(some 22), (.q (.idxSl 2 (.tmp 19) (.tmp 21))), (some (18, true))⟩, ⟨(some 23), (.q (.fieldAddr 0 (.tmp 22))), (some (18, true))⟩, ⟨(some 24), (.q (.load false 1 (.tmp 23))), (some (18, true))⟩, ⟨(some 25), (.q (.fieldAddr 0 (.tmp 4))), (some (18, true))⟩, ⟨(some 26), (.q (.load false 1 (.tmp 25))), (some (18, true))⟩, ⟨(some 27), (.q (.bin .geq (.tmp 24) (.tmp 26))), (some (18, true))⟩, ⟨(some 28), (.q (.pick (.tmp 18) (.tmp 27) (.const (.bool false)))), (some (15, false))⟩, ⟨(some 29), (.q (.pick (.tmp 15) (.const (.bool true)) (.tmp 28))), none⟩]) 
    (.cond (.tmp 29) 
    (.seq 
    (.region [⟨(some 2), (.q (.move (.const (.bool false)))), none⟩]) .ret) .skip)))) 
    (.region [⟨(some 30), (.q (.bin .add (.tmp 7) (.const (.int .i64 1)))), none⟩, ⟨(some 7), (.q (.move (.tmp 30))), none⟩]))))))) 
    (.seq 
    (.region [⟨(some 2), (.q (.move (.const (.bool true)))), none⟩]) .ret)))
theorem t106 : Told Try.prog 106 31 c106 [(.tmp 2)] := ⟨Try.f106, _, [], Try.func106, rfl, by kernel_rfl, rfl, by kernel_rfl, by kernel_rfl⟩
def c118 : ACode := 
    (.seq 
    (.region [⟨(some 4), (.q (.move (.const (.int .i64 0)))), none⟩, ⟨(some 5), (.q (.move (.const (.bool false)))), none⟩]) 
    (.seq 
    (.region [⟨(some 6), (.q (.move (.tmp 0))), none⟩, ⟨(some 7), (.q (.move (.tmp 1))), none⟩, ⟨(some 8), (.s (.call 152 [(.tmp 6), (.tmp 7), (.const (.func (.func 153) [] []))])), none⟩, ⟨(some 9), (.q (.extract 0 (.tmp 8))), none⟩, ⟨(some 10), (.q (.extract 1 (.tmp 8))), none⟩, ⟨(some 4), (.q (.move (.tmp 9))), none⟩, ⟨(some 5), (.q (.move (.tmp 10))), none⟩]) .ret))
theorem t118 : Told Try.prog 118 11 c118 [(.tmp 4), (.tmp 5)] := ⟨Try.f118, _, [], Try.func118, rfl, by kernel_rfl, rfl, by kernel_rfl, by kernel_rfl⟩
def c153 : ACode := 
    (.seq 
    (.region [⟨(some 2), (.s (.box 94 (.tmp 0))), none⟩, ⟨(some 4), (.q (.move (.const (.int .i64 0)))), none⟩]) 
    (.seq 
    (.region [⟨(some 5), (.q (.fieldAddr 0 (.tmp 2))), none⟩, ⟨(some 6), (.q (.load false 1 (.tmp 5))), none⟩, ⟨(some 7), (.q (.move (.tmp 1))), none⟩, ⟨(some 8), (.s (.call 154 [(.tmp 6), (.tmp 7)])), none⟩, ⟨(some 4), (.q (.move (.tmp 8))), none⟩]) .ret))
theorem t153 : Told Try.prog 153 9 c153 [(.tmp 4)] := ⟨Try.f153, _, [], Try.func153, rfl, by kernel_rfl, rfl, by kernel_rfl, by kernel_rfl⟩
def c52 : ACode := 
    (.seq 
    (.region [⟨(some 3), (.s (.box 9 (.tmp 1))), none⟩, ⟨(some 4), (.q (.move (.const (.str (B []))))), none⟩, ⟨(some 5), (.q (.move (.const (.bool false)))), none⟩]) 
    (.seq 
    (.region [⟨(some 7), (.q (.move (.tmp 0))), none⟩, ⟨(some 8), (.q (.mkFunc (.func 113) [] [(.tmp 3)])), none⟩, ⟨(some 9), (.s (.call 112 [(.tmp 7), (.tmp 8)])), none⟩, ⟨(some 6), (.q (.move (.tmp 9))), none⟩]) 
    (.seq 
    (.seq 
    (.region [⟨(some 10), (.q (.move (.tmp 6))), none⟩, ⟨(some 11), (.q (.bin .lss (.tmp 10) (.const (.int .i64 0)))), none⟩]) 
    (.cond (.tmp 11) 
    (.seq 
    (.region [⟨(some 4), (.q (.move (.const (.str (B []))))), none⟩, ⟨(some 5), (.q (.move (.const (.bool false)))), none⟩]) .ret) .skip)) 
    (.seq 
    (.region [⟨(some 12), (.q (.move (.tmp 0))), none⟩, ⟨(some 13), (.q (.move (.tmp 6))), none⟩, ⟨(some 14), (.q (.idxSl 2 (.tmp 12) (.tmp 13))), none⟩, ⟨(some 15), (.q (.fieldAddr 1 (.tmp 14))), none⟩, ⟨(some 16), (.q (.load false 1 (.tmp 15))), none⟩, ⟨(some 4), (.q (.move (.tmp 16))), none⟩, ⟨(some 5), (.q (.move (.const (.bool true)))), none⟩]) .ret))))
theorem t52 : Told Try.prog 52 17 c52 [(.tmp 4), (.tmp 5)] := ⟨Try.f52, _, [], Try.func52, rfl, by kernel_rfl, rfl, by kernel_rfl, by kernel_rfl⟩
def c113 : ACode := 
    (.seq 
    (.region [⟨(some 2), (.s (.box 94 (.tmp 0))), none⟩, ⟨(some 3), (.q (.move (.const (.bool false)))), none⟩]) 
    (.seq 
    (.region [⟨(some 4), (.q (.fieldAddr 0 (.tmp 2))), none⟩, ⟨(some 5), (.q (.load false 1 (.tmp 4))), none⟩, ⟨(some 6), (.q (.load false 1 (.tmp 1))), none⟩, ⟨(some 7), (.q (.bin .eql (.tmp 5) (.tmp 6))), none⟩, ⟨(some 3), (.q (.move (.tmp 7))), none⟩]) .ret))
theorem t113 : Told Try.prog 113 8 c113 [(.tmp 3)] := ⟨Try.f113, _, [], Try.func113, rfl, by kernel_rfl, rfl, by kernel_rfl, by kernel_rfl⟩
def c58 : ACode := 
    (.seq 
    (.region [⟨(some 4), (.q (.move (.const .nils))), none⟩, ⟨(some 5), (.q (.move (.const (.int .i64 0)))), none⟩]) 
    (.seq 
    (.seq 
    (.region [⟨(some 12), (.q (.move (.tmp 0))), none⟩, ⟨(some 13), (.s (.call 106 [(.tmp 12)])), none⟩, ⟨(some 14), (.q (.un .not (.tmp 13))), none⟩]) 
    (.cond (.tmp 14) 
    (.seq 
    (.region [⟨(some 4), (.q (.move (.const .nils))), none⟩, ⟨(some 5), (.q (.move (.const (.int .i64 6)))), none⟩]) .ret) .skip)) 
    (.seq 
    (.region [⟨(some 15), (.q (.move (.tmp 0))), none⟩, ⟨(some 16), (.s (.call 117 [(.tmp 15)])), none⟩, ⟨(some 6), (.q (.move (.tmp 16))), none⟩]) 
    (.seq 
    (.seq 
    (.region [⟨(some 17), (.q (.move (.tmp 1))), none⟩, ⟨(some 18), (.q (.len false (.tmp 17))), none⟩, ⟨(some 19), (.q (.move (.const (.int .i64 0)))), none⟩]) 
    (.block 0 
    (.loop 
    (.seq 
    (.region [⟨(some 20), (.q (.bin .lss (.tmp 19) (.tmp 18))), none⟩]) 
    (.seq 
    (.cond (.tmp 20) .skip (.exit 0)) 
    (.seq 
    (.block 1 
    (.seq 
    (.region [⟨(some 21), (.q (.idxSl 2 (.tmp 17) (.tmp 19))), none⟩, ⟨(some 22), (.q (.load true 2 (.tmp 21))), none⟩, ⟨(some 8), (.s (.alloc 94 [(.str (B [])), (.str (B []))])), none⟩, ⟨none, (.s (.store 2 (.tmp 8) (.tmp 22))), none⟩]) 
    (.seq 
    (.seq 
    (.region [⟨(some 23), (.q (.load true 2 (.tmp 8))), none⟩, ⟨(some 24), (.s (.call 55 [(.tmp 23)])), none⟩, ⟨(some 9), (.q (.move (.tmp 24))), none⟩]) 
    (.seq 
    (.region [⟨(some 25), (.q (.move (.tmp 9))), none⟩, ⟨(some 26), (.q (.bin .neq (.tmp 25) (.const (.int .i64 0)))), none⟩]) 
    (.cond (.tmp 26) 
    (.seq 
    (.region [⟨(some 27), (.q (.move (.tmp 9))), none⟩, ⟨(some 4), (.q (.move (.const .nils))), none⟩, ⟨(some 5), (.q (.move (.tmp 27))), none⟩]) .ret) .skip))) 
    (.seq 
    (.region [⟨(some 29), (.q (.move (.tmp 6))), none⟩, ⟨(some 30), (.q (.fieldAddr 0 (.tmp 8))), none⟩, ⟨(some 31), (.q (.load false 1 (.tmp 30))), none⟩, ⟨(some 32), (.s (.call 118 [(.tmp 29), (.tmp 31)])), none⟩, ⟨(some 28), (.q (.move (.tmp 32))), none⟩, ⟨(some 33), (.q (.extract 0 (.tmp 28))), none⟩, ⟨(some 34), (.q (.extract 1 (.tmp 28))), none⟩, ⟨(some 10), (.q (.move (.tmp 33))), none⟩, ⟨(some 11), (.q (.move (.tmp 34))), none⟩]) 
    (.seq 
    (.region [⟨(some 35), (.q (.move (.tmp 11))), none⟩]) 
    (.cond (.tmp 35) 
    (.region [⟨(some 36), (.q (.move (.tmp 6))), none⟩, ⟨(some 37), (.q (.move (.tmp 10))), none⟩, ⟨(some 38), (.q (.load true 2 (.tmp 8))), none⟩, ⟨(some 39), (.q (.idxSl 2 (.tmp 36) (.tmp 37))), none⟩, ⟨none, (.s (.store 2 (.tmp 39) (.tmp 38))), none⟩]) 
    (.region [⟨(some 40), (.q (.move (.tmp 6))), none⟩, ⟨(some 41), (.q (.move (.tmp 10))), none⟩, ⟨(some 42), (.q (.load true 2 (.tmp 8))), none⟩, ⟨(some 43), (.s (.litw 94 2 [(.tmp 42)])), none⟩, ⟨(some 44), (.s (.call 119 [(.tmp 40), (.tmp 41), (.tmp 43)])), none⟩, ⟨(some 6), (.q (.move (.tmp 44))), none⟩]))))))) 
    (.region [⟨(some 45), (.q (.bin .add (.tmp 19) (.const (.int .i64 1)))), none⟩, ⟨(some 19), (.q (.move (.tmp 45))), none⟩]))))))) 
    (.seq 
    (.region [⟨(some 46), (.q (.move (.tmp 6))), none⟩, ⟨(some 4), (.q (.move (.tmp 46))), none⟩, ⟨(some 5), (.q (.move (.const (.int .i64 0)))), none⟩]) .ret)))))
theorem t58 : Told Try.prog 58 47 c58 [(.tmp 4), (.tmp 5)] := ⟨Try.f58, _, [43], Try.func58, rfl, by kernel_rfl, rfl, by kernel_rfl, by kernel_rfl⟩
def c60 : ACode := 
    (.seq 
    (.region [⟨(some 3), (.s (.box 96 (.tmp 1))), none⟩, ⟨(some 4), (.q (.move (.const .nils))), none⟩]) 
    (.seq 
    (.region [⟨(some 5), (.q (.move (.tmp 0))), none⟩, ⟨(some 6), (.s (.call 117 [(.tmp 5)])), none⟩, ⟨(some 7), (.q (.mkFunc (.func 122) [] [(.tmp 3)])), none⟩, ⟨(some 8), (.s (.call 121 [(.tmp 6), (.tmp 7)])), none⟩, ⟨(some 4), (.q (.move (.tmp 8))), none⟩]) .ret))
theorem t60 : Told Try.prog 60 9 c60 [(.tmp 4)] := ⟨Try.f60, _, [], Try.func60, rfl, by kernel_rfl, rfl, by kernel_rfl, by kernel_rfl⟩
def c122 : ACode := 
    (.seq 
    (.region [⟨(some 2), (.s (.box 94 (.tmp 0))), none⟩, ⟨(some 3), (.q (.move (.const (.bool false)))), none⟩]) 
    (.seq 
    (.region [⟨(some 4), (.q (.load false 1 (.tmp 1))), none⟩, ⟨(some 5), (.q (.fieldAddr 0 (.tmp 2))), none⟩, ⟨(some 6), (.q (.load false 1 (.tmp 5))), none⟩, ⟨(some 7), (.s (.call 123 [(.tmp 4), (.tmp 6)])), none⟩, ⟨(some 3), (.q (.move (.tmp 7))), none⟩]) .ret))
theorem t122 : Told Try.prog 122 8 c122 [(.tmp 3)] := ⟨Try.f122, _, [], Try.func122, rfl, by kernel_rfl, rfl, by kernel_rfl, by kernel_rfl⟩
def c48 : ACode := 
    (.seq 
    (.region [⟨(some 2), (.q (.move (.const (.str (B []))))), none⟩, ⟨(some 3), (.q (.move (.const (.int .i64 0)))), none⟩]) 
    (.seq 
    (.seq 
    (.region [⟨(some 7), (.q (.move (.tmp 0))), none⟩, ⟨(some 8), (.s (.call 106 [(.tmp 7)])), none⟩, ⟨(some 9), (.q (.un .not (.tmp 8))), none⟩]) 
    (.cond (.tmp 9) 
    (.seq 
    (.region [⟨(some 2), (.q (.move (.const (.str (B []))))), none⟩, ⟨(some 3), (.q (.move (.const (.int .i64 6)))), none⟩]) .ret) .skip)) 
    (.seq 
    (.region [⟨(some 4), (.s (.alloc 145 [.nilp, .nils])), none⟩]) 
    (.seq 
    (.seq 
    (.region [⟨(some 10), (.q (.move (.tmp 0))), none⟩, ⟨(some 11), (.q (.len false (.tmp 10))), none⟩, ⟨(some 12), (.q (.move (.const (.int .i64 0)))), none⟩]) 
    (.block 0 
    (.loop 
    (.seq 
    (.region [⟨(some 13), (.q (.bin .lss (.tmp 12) (.tmp 11))), none⟩]) 
    (.seq 
    (.cond (.tmp 13) .skip (.exit 0)) 
    (.seq 
    (.block 1 
    (.seq 
    (.region [⟨(some 14), (.q (.idxSl 2 (.tmp 10) (.tmp 12))), none⟩, ⟨(some 15), (.q (.load true 2 (.tmp 14))), none⟩, ⟨(some 6), (.s (.alloc 94 [(.str (B [])), (.str (B []))])), none⟩, ⟨none, (.s (.store 2 (.tmp 6) (.tmp 15))), none⟩]) 
    (.region [⟨(some 16), (.q (.fieldAddr 0 (.tmp 6))), none⟩, ⟨(some 17), (.q (.load false 1 (.tmp 16))), none⟩, ⟨(some 18), (.q (.bin .add (.tmp 17) (.const (.str (B [61]))))), none⟩, ⟨(some 19), (.q (.fieldAddr 1 (.tmp 6))), none⟩, ⟨(some 20), (.q (.load false 1 (.tmp 19))), none⟩, ⟨(some 21), (.q (.bin .add (.tmp 18) (.tmp 20))), none⟩, ⟨(some 22), (.q (.bin .add (.tmp 21) (.const (.str (B [10]))))), none⟩, ⟨(some 23), (.s (.call 107 [(.tmp 4), (.tmp 22)])), none⟩]))) 
    (.region [⟨(some 24), (.q (.bin .add (.tmp 12) (.const (.int .i64 1)))), none⟩, ⟨(some 12), (.q (.move (.tmp 24))), none⟩]))))))) 
    (.seq 
    (.seq 
    (.region [⟨(some 25), (.s (.call 108 [(.tmp 4)])), none⟩, ⟨(some 26), (.q (.bin .gtr (.tmp 25) (.const (.int .i64 496)))), none⟩]) 
    (.cond (.tmp 26) 
    (.seq 
    (.region [⟨(some 2), (.q (.move (.const (.str (B []))))), none⟩, ⟨(some 3), (.q (.move (.const (.int .i64 7)))), none⟩]) .ret) .skip)) 
    (.seq 
    (.region [⟨(some 27), (.s (.call 109 [(.tmp 4)])), none⟩, ⟨(some 2), (.q (.move (.tmp 27))), none⟩, ⟨(some 3), (.q (.move (.const (.int .i64 0)))), none⟩]) .ret))))))
theorem t48 : Told Try.prog 48 28 c48 [(.tmp 2), (.tmp 3)] := ⟨Try.f48, _, [], Try.func48, rfl, by kernel_rfl, rfl, by kernel_rfl, by kernel_rfl⟩
def c50 : ACode := 
    (.seq 
    (.region [⟨(some 2), (.q (.move (.const .nils))), none⟩, ⟨(some 3), (.q (.move (.const (.int .i64 0)))), none⟩]) 
    (.seq 
    (.seq 
    (.region [⟨(some 11), (.q (.move (.tmp 0))), none⟩, ⟨(some 12), (.q (.len true (.tmp 11))), none⟩, ⟨(some 13), (.q (.bin .gtr (.tmp 12) (.const (.int .i64 496)))), none⟩]) 
    (.cond (.tmp 13) 
    (.seq 
    (.region [⟨(some 2), (.q (.move (.const .nils))), none⟩, ⟨(some 3), (.q (.move (.const (.int .i64 7)))), none⟩]) .ret) .skip)) 
    (.seq 
    (.region [⟨(some 4), (.q (.move (.const .nils))), none⟩]) 
    (.seq 
    (.block 0 
    (.loop 
    (.seq 
    (.seq 
    (.region [⟨(some 14), (.q (.move (.tmp 0))), none⟩, ⟨(some 15), (.q (.bin .neq (.tmp 14) (.const (.str (B []))))), none⟩]) 
    (.cond (.tmp 15) .skip (.exit 0))) 
    (.block 1 
    (.seq 
    (.region [⟨(some 17), (.q (.move (.tmp 0))), none⟩, ⟨(some 18), (.s (.call 111 [(.tmp 17), (.const (.str (B [10])))])), none⟩, ⟨(some 16), (.q (.move (.tmp 18))), none⟩, ⟨(some 19), (.q (.extract 0 (.tmp 16))), none⟩, ⟨(some 20), (.q (.extract 1 (.tmp 16))), none⟩, ⟨(some 21), (.q (.extract 2 (.tmp 16))), none⟩, ⟨(some 5), (.q (.move (.tmp 19))), none⟩, ⟨(some 6), (.q (.move (.tmp 20))), none⟩, ⟨(some 7), (.q (.move (.tmp 21))), none⟩]) 
    (.seq 
    (.region [⟨(some 23), (.q (.move (.tmp 5))), none⟩, ⟨(some 24), (.s (.call 111 [(.tmp 23), (.const (.str (B [61])))])), none⟩, ⟨(some 22), (.q (.move (.tmp 24))), none⟩, ⟨(some 25), (.q (.extract 0 (.tmp 22))), none⟩, ⟨(some 26), (.q (.extract 1 (.tmp 22))), none⟩, ⟨(some 27), (.q (.extract 2 (.tmp 22))), none⟩, ⟨(some 8), (.q (.move (.tmp 25))), none⟩, ⟨(some 9), (.q (.move (.tmp 26))), none⟩, ⟨(some 10), (.q (.move (.tmp 27))), none⟩]) 
    (.seq 
    (.seq 
    (.region [⟨(some 28), (.q (.move (.tmp 7))), none⟩, ⟨(some 29), (.q (.un .not (.tmp 28))), none⟩, ⟨(some 30), (.q (.move (.tmp 29))), none⟩, ⟨(some 31), (.q (.move (.tmp 10))), (some (30, false))⟩, ⟨(some 32), (.q (.un .not (.tmp 31))), (some (30, false))⟩, ⟨(some 33), (.q (.pick (.tmp 30) (.const (.bool true)) (.tmp 32))), none⟩]) 
    (.cond (.tmp 33) 
    (.seq 
    (.region [⟨(some 2), (.q (.move (.const .nils))), none⟩, ⟨(some 3), (.q (.move (.const (.int .i64 6)))), none⟩]) .ret) .skip)) 
    (.seq 
    (.region [⟨(some 34), (.q (.move (.tmp 4))), none⟩, ⟨(some 35), (.q (.move (.tmp 8))), none⟩, ⟨(some 36), (.q (.move (.tmp 9))), none⟩, ⟨(some 37), (.q (.build [(.str (B [])), (.str (B []))] [(0, (1, (.tmp 35))), (1, (1, (.tmp 36)))])), none⟩, ⟨(some 38), (.s (.lit 94 2 [(.tmp 37)])), none⟩, ⟨(some 39), (.s (.app 94 2 32 (.tmp 34) (.tmp 38))), none⟩, ⟨(some 4), (.q (.move (.tmp 39))), none⟩]) 
    (.region [⟨(some 40), (.q (.move (.tmp 6))), none⟩, ⟨(some 0), (.q (.move (.tmp 40))), none⟩]))))))))) 
    (.seq 
    (.seq 
    (.region [⟨(some 41), (.q (.move (.tmp 4))), none⟩, ⟨(some 42), (.s (.call 106 [(.tmp 41)])), none⟩, ⟨(some 43), (.q (.un .not (.tmp 42))), none⟩]) 
    (.cond (.tmp 43) 
    (.seq 
    (.region [⟨(some 2), (.q (.move (.const .nils))), none⟩, ⟨(some 3), (.q (.move (.const (.int .i64 6)))), none⟩]) .ret) .skip)) 
    (.seq 
    (.region [⟨(some 44), (.q (.move (.tmp 4))), none⟩, ⟨(some 2), (.q (.move (.tmp 44))), none⟩, ⟨(some 3), (.q (.move (.const (.int .i64 0)))), none⟩]) .ret))))))
theorem t50 : Told Try.prog 50 45 c50 [(.tmp 2), (.tmp 3)] := ⟨Try.f50, _, [], Try.func50, rfl, by kernel_rfl, rfl, by kernel_rfl, by kernel_rfl⟩
def c116 : ACode := 
    (.seq 
    (.region [⟨(some 2), (.q (.move (.const (.bool false)))), none⟩]) 
    (.seq 
    (.seq 
    (.region [⟨(some 3), (.q (.move (.const (.int .i64 0)))), none⟩]) 
    (.block 0 
    (.loop 
    (.seq 
    (.seq 
    (.region [⟨(some 5), (.q (.move (.tmp 3))), none⟩, ⟨(some 6), (.q (.move (.tmp 0))), none⟩, ⟨(some 7), (.q (.len true (.tmp 6))), none⟩, ⟨(some 8), (.q (.bin .lss (.tmp 5) (.tmp 7))), none⟩]) 
    (.cond (.tmp 8) .skip (.exit 0))) 
    (.seq 
    (.block 1 
    (.seq 
    (.region [⟨(some 11), (.q (.move (.tmp 0))), none⟩, ⟨(some 12), (.q (.move (.tmp 3))), none⟩, ⟨(some 13), (.q (.idxStr (.tmp 11) (.tmp 12))), none⟩, ⟨(some 4), (.q (.move (.tmp 13))), none⟩]) 
    (.seq 
    (.region [⟨(some 14), (.q (.move (.tmp 4))), none⟩, ⟨(some 15), (.q (.bin .geq (.tmp 14) (.const (.int .u8 97)))), none⟩, ⟨(some 16), (.q (.move (.tmp 15))), none⟩, ⟨(some 17), (.q (.move (.tmp 4))), (some (16, true))⟩, ⟨(some 18), (.q (.bin .leq (.tmp 17) (.const (.int .u8 122)))), (some (16, true))⟩, ⟨(some 19), (.q (.pick (.tmp 16) (.tmp 18) (.const (.bool false)))), none⟩, ⟨(some 20), (.q (.move (.tmp 19))), none⟩, ⟨(some 21), (.q (.move (.tmp 4))), (some (20, false))⟩, ⟨(some 22), (.q (.bin .geq (.tmp 21) (.const (.int .u8 48)))), (some (20, false))⟩, ⟨(some 23), (.q (.move (.tmp 22))), (some (20, false))⟩, ⟨(some 24), (.q (.move (.tmp 4))), (some (23, true))⟩, ⟨(some 25), (.q (.bin .leq (.tmp 24) (.const (.int .u8 57)))), (some (23, true))⟩, ⟨(some 26), (.q (.pick (.tmp 23) (.tmp 25) (.const (.bool false)))), (some (20, false))⟩, ⟨(some 27), (.q (.pick (.tmp 20) (.const (.bool true)) (.tmp 26))), none⟩, ⟨(some 28), (.q (.move (.tmp 27))), none⟩, ⟨(some 29), (.q (.move (.tmp 4))), (some (28, false))⟩, ⟨(some 30), (.q (.bin .eql (.tmp 29) (.const (.int .u8 46)))), (some (28, false))⟩, ⟨(some 31), (.q (.pick (.tmp 28) (.const (.bool true)) (.tmp 30))), none⟩, ⟨(some 32), (.q (.un .not (.tmp 31))), none⟩]) 
    (.cond (.tmp 32) 
    (.seq 
    (.region [⟨(some 2), (.q (.move (.const (.bool false)))), none⟩]) .ret) .skip)))) 
    (.region [⟨(some 9), (.q (.move (.tmp 3))), none⟩, ⟨(some 10), (.q (.bin .add (.tmp 9) (.const (.int .i64 1)))), none⟩, ⟨(some 3), (.q (.move (.tmp 10))), none⟩])))))) 
    (.seq 
    (.region [⟨(some 33), (.q (.move (.tmp 0))), none⟩, ⟨(some 34), (.q (.len true (.tmp 33))), none⟩, ⟨(some 35), (.q (.bin .geq (.tmp 34) (.const (.int .i64 1)))), none⟩, ⟨(some 36), (.q (.move (.tmp 35))), none⟩, ⟨(some 37), (.q (.move (.tmp 0))), (some (36, true))⟩, ⟨(some 38), (.q (.len true (.tmp 37))), (some (36, true))⟩, ⟨(some 39), (.q (.bin .leq (.tmp 38) (.const (.int .i64 31)))), (some (36, true))⟩, ⟨(some 40), (.q (.pick (.tmp 36) (.tmp 39) (.const (.bool false)))), none⟩, ⟨(some 2), (.q (.move (.tmp 40))), none⟩]) .ret)))
theorem t116 : Told Try.prog 116 41 c116 [(.tmp 2)] := ⟨Try.f116, _, [], Try.func116, rfl, by kernel_rfl, rfl, by kernel_rfl, by kernel_rfl⟩
def c56 : ACode := 
    (.seq 
    (.region [⟨(some 1), (.s (.box 94 (.tmp 0))), none⟩, ⟨(some 2), (.q (.move (.const (.int .i64 0)))), none⟩]) 
    (.seq 
    (.seq 
    (.region [⟨(some 3), (.q (.move (.const (.int .i64 0)))), none⟩]) 
    (.block 0 
    (.loop 
    (.seq 
    (.seq 
    (.region [⟨(some 4), (.q (.move (.tmp 3))), none⟩, ⟨(some 5), (.q (.fieldAddr 1 (.tmp 1))), none⟩, ⟨(some 6), (.q (.load false 1 (.tmp 5))), none⟩, ⟨(some 7), (.q (.len true (.tmp 6))), none⟩, ⟨(some 8), (.q (.bin .lss (.tmp 4) (.tmp 7))), none⟩]) 
    (.cond (.tmp 8) .skip (.exit 0))) 
    (.seq 
    (.block 1 
    (.seq 
    (.region [⟨(some 11), (.q (.fieldAddr 1 (.tmp 1))), none⟩, ⟨(some 12), (.q (.load false 1 (.tmp 11))), none⟩, ⟨(some 13), (.q (.move (.tmp 3))), none⟩, ⟨(some 14), (.q (.idxStr (.tmp 12) (.tmp 13))), none⟩, ⟨(some 15), (.q (.bin .lss (.tmp 14) (.const (.int .u8 32)))), none⟩, ⟨(some 16), (.q (.move (.tmp 15))), none⟩, ⟨(some 17), (.q (.fieldAddr 1 (.tmp 1))), (some (16, false))⟩, ⟨(some 18), (.q (.load false 1 (.tmp 17))), (some (16, false))⟩, ⟨(some 19), (.q (.move (.tmp 3))), (some (16, false))⟩, ⟨(some 20), (.q (.idxStr (.tmp 18) (.tmp 19))), (some (16, false))⟩, ⟨(some 21), (.q (.bin .gtr (.tmp 20) (.const (.int .u8 126)))), (some (16, false))⟩, ⟨(some 22), (.q (.pick (.tmp 16) (.const (.bool true)) (.tmp 21))), none⟩]) 
    (.cond (.tmp 22) 
    (.seq 
    (.region [⟨(some 2), (.q (.move (.const (.int .i64 1)))), none⟩]) .ret) .skip))) 
    (.region [⟨(some 9), (.q (.move (.tmp 3))), none⟩, ⟨(some 10), (.q (.bin .add (.tmp 9) (.const (.int .i64 1)))), none⟩, ⟨(some 3), (.q (.move (.tmp 10))), none⟩])))))) 
    (.seq 
    (.seq 
    (.region [⟨(some 23), (.q (.fieldAddr 0 (.tmp 1))), none⟩, ⟨(some 24), (.q (.load false 1 (.tmp 23))), none⟩, ⟨(some 25), (.s (.call 116 [(.tmp 24)])), none⟩, ⟨(some 26), (.q (.un .not (.tmp 25))), none⟩, ⟨(some 27), (.q (.move (.tmp 26))), none⟩, ⟨(some 28), (.q (.fieldAddr 1 (.tmp 1))), (some (27, false))⟩, ⟨(some 29), (.q (.load false 1 (.tmp 28))), (some (27, false))⟩, ⟨(some 30), (.q (.len true (.tmp 29))), (some (27, false))⟩, ⟨(some 31), (.q (.bin .gtr (.tmp 30) (.const (.int .i64 120)))), (some (27, false))⟩, ⟨(some 32), (.q (.pick (.tmp 27) (.const (.bool true)) (.tmp 31))), none⟩]) 
    (.cond (.tmp 32) 
    (.seq 
    (.region [⟨(some 2), (.q (.move (.const (.int .i64 1)))), none⟩]) .ret) .skip)) 
    (.seq 
    (.region [⟨(some 2), (.q (.move (.const (.int .i64 0)))), none⟩]) .ret))))
theorem t56 : Told Try.prog 56 33 c56 [(.tmp 2)] := ⟨Try.f56, _, [], Try.func56, rfl, by kernel_rfl, rfl, by kernel_rfl, by kernel_rfl⟩
def c110 : ACode := 
    (.seq 
    (.region [⟨(some 2), (.q (.move (.const (.bool false)))), none⟩]) 
    (.seq 
    (.seq 
    (.region [⟨(some 3), (.q (.move (.const (.int .i64 0)))), none⟩]) 
    (.block 0 
    (.loop 
    (.seq 
    (.seq 
    (.region [⟨(some 4), (.q (.move (.tmp 3))), none⟩, ⟨(some 5), (.q (.move (.tmp 0))), none⟩, ⟨(some 6), (.q (.len false (.tmp 5))), none⟩, ⟨(some 7), (.q (.bin .lss (.tmp 4) (.tmp 6))), none⟩]) 
    (.cond (.tmp 7) .skip (.exit 0))) 
    (.seq 
    (.block 1 
    (.seq 
    (.region [⟨(some 10), (.q (.move (.tmp 0))), none⟩, ⟨(some 11), (.q (.move (.tmp 3))), none⟩, ⟨(some 12), (.q (.idxSl 2 (.tmp 10) (.tmp 11))), none⟩, ⟨(some 13), (.q (.load true 2 (.tmp 12))), none⟩, ⟨(some 14), (.s (.call 56 [(.tmp 13)])), none⟩, ⟨(some 15), (.q (.bin .neq (.tmp 14) (.const (.int .i64 0)))), none⟩, ⟨(some 16), (.q (.move (.tmp 15))), none⟩, ⟨(some 17), (.q (.move (.tmp 3))), (some (16, false))⟩, ⟨(some 18), (.q (.bin .gtr (.tmp 17) (.const (.int .i64 0)))), (some (16, false))⟩, ⟨(some 19), (.q (.move (.tmp 18))), (some (16, false))⟩, ⟨(some 20), (.q (.move (.tmp 0))), (some (19, true))⟩, ⟨(some 21), (.q (.move (.tmp 3))), (some (19, true))⟩, ⟨(some 22), (.q (.bin .sub (.tmp 21) (.const (.int .i64 1)))), (some (19, true))⟩, ⟨(some 23), (.q (.idxSl 2 (.tmp 20) (.tmp 22))), (some (19, true))⟩, ⟨(some 24), (.q (.fieldAddr 0 (.tmp 23))), (some (19, true))⟩, ⟨(some 25), (.q (.load false 1 (.tmp 24))), (some (19, true))⟩, ⟨(some 26), (.q (.move (.tmp 0))), (some (19, true))⟩, ⟨(some 27), (.q (.move (.tmp 3))), (some (19, true))⟩, ⟨(some 28), (.q (.idxSl 2 (.tmp 26) (.tmp 27))), (some (19, true))⟩, ⟨(some 29), (.q (.fieldAddr 0 (.tmp 28))), (some (19, true))⟩, ⟨(some 30), (.q (.load false 1 (.tmp 29))), (some (19, true))⟩, ⟨(some 31), (.q (.bin .geq (.tmp 25) (.tmp 30))), (some (19, true))⟩, ⟨(some 32), (.q (.pick (.tmp 19) (.tmp 31) (.const (.bool false)))), (some (16, false))⟩, ⟨(some 33), (.q (.pick (.tmp 16) (.const (.bool true)) (.tmp 32))), none⟩]) 
    (.cond (.tmp 33) 
    (.seq 
    (.region [⟨(some 2), (.q (.move (.const (.bool false)))), none⟩]) .ret) .skip))) 
    (.region [⟨(some 8), (.q (.move (.tmp 3))), none⟩, ⟨(some 9), (.q (.bin .add (.tmp 8) (.const (.int .i64 1)))), none⟩, ⟨(some 3), (.q (.move (.tmp 9))), none⟩])))))) 
    (.seq 
    (.region [⟨(some 2), (.q (.move (.const (.bool true)))), none⟩]) .ret)))
theorem t110 : Told Try.prog 110 34 c110 [(.tmp 2)] := ⟨Try.f110, _, [], Try.func110, rfl, by kernel_rfl, rfl, by kernel_rfl, by kernel_rfl⟩
def c53 : ACode := 
    (.seq 
    (.region [⟨(some 4), (.q (.move (.const (.str (B []))))), none⟩, ⟨(some 5), (.q (.move (.const (.bool false)))), none⟩]) 
    (.seq 
    (.seq 
    (.region [⟨(some 6), (.q (.move (.const (.int .i64 0)))), none⟩]) 
    (.block 0 
    (.loop 
    (.seq 
    (.seq 
    (.region [⟨(some 7), (.q (.move (.tmp 6))), none⟩, ⟨(some 8), (.q (.move (.tmp 0))), none⟩, ⟨(some 9), (.q (.len false (.tmp 8))), none⟩, ⟨(some 10), (.q (.bin .lss (.tmp 7) (.tmp 9))), none⟩]) 
    (.cond (.tmp 10) .skip (.exit 0))) 
    (.seq 
    (.block 1 
    (.seq 
    (.region [⟨(some 13), (.q (.move (.tmp 0))), none⟩, ⟨(some 14), (.q (.move (.tmp 6))), none⟩, ⟨(some 15), (.q (.idxSl 2 (.tmp 13) (.tmp 14))), none⟩, ⟨(some 16), (.q (.fieldAddr 0 (.tmp 15))), none⟩, ⟨(some 17), (.q (.load false 1 (.tmp 16))), none⟩, ⟨(some 18), (.q (.move (.tmp 1))), none⟩, ⟨(some 19), (.q (.bin .eql (.tmp 17) (.tmp 18))), none⟩]) 
    (.cond (.tmp 19) 
    (.seq 
    (.region [⟨(some 20), (.q (.move (.tmp 0))), none⟩, ⟨(some 21), (.q (.move (.tmp 6))), none⟩, ⟨(some 22), (.q (.idxSl 2 (.tmp 20) (.tmp 21))), none⟩, ⟨(some 23), (.q (.fieldAddr 1 (.tmp 22))), none⟩, ⟨(some 24), (.q (.load false 1 (.tmp 23))), none⟩, ⟨(some 4), (.q (.move (.tmp 24))), none⟩, ⟨(some 5), (.q (.move (.const (.bool true)))), none⟩]) .ret) .skip))) 
    (.region [⟨(some 11), (.q (.move (.tmp 6))), none⟩, ⟨(some 12), (.q (.bin .add (.tmp 11) (.const (.int .i64 1)))), none⟩, ⟨(some 6), (.q (.move (.tmp 12))), none⟩])))))) 
    (.seq 
    (.region [⟨(some 4), (.q (.move (.const (.str (B []))))), none⟩, ⟨(some 5), (.q (.move (.const (.bool false)))), none⟩]) .ret)))
theorem t53 : Told Try.prog 53 25 c53 [(.tmp 4), (.tmp 5)] := ⟨Try.f53, _, [], Try.func53, rfl, by kernel_rfl, rfl, by kernel_rfl, by kernel_rfl⟩
def c49 : ACode := 
    (.seq 
    (.region [⟨(some 2), (.q (.move (.const (.str (B []))))), none⟩, ⟨(some 3), (.q (.move (.const (.int .i64 0)))), none⟩]) 
    (.seq 
    (.seq 
    (.region [⟨(some 6), (.q (.move (.tmp 0))), none⟩, ⟨(some 7), (.s (.call 110 [(.tmp 6)])), none⟩, ⟨(some 8), (.q (.un .not (.tmp 7))), none⟩]) 
    (.cond (.tmp 8) 
    (.seq 
    (.region [⟨(some 2), (.q (.move (.const (.str (B []))))), none⟩, ⟨(some 3), (.q (.move (.const (.int .i64 6)))), none⟩]) .ret) .skip)) 
    (.seq 
    (.region [⟨(some 4), (.q (.move (.const (.str (B []))))), none⟩]) 
    (.seq 
    (.seq 
    (.region [⟨(some 5), (.q (.move (.const (.int .i64 0)))), none⟩]) 
    (.block 0 
    (.loop 
    (.seq 
    (.seq 
    (.region [⟨(some 9), (.q (.move (.tmp 5))), none⟩, ⟨(some 10), (.q (.move (.tmp 0))), none⟩, ⟨(some 11), (.q (.len false (.tmp 10))), none⟩, ⟨(some 12), (.q (.bin .lss (.tmp 9) (.tmp 11))), none⟩]) 
    (.cond (.tmp 12) .skip (.exit 0))) 
    (.seq 
    (.block 1 
    (.region [⟨(some 15), (.q (.move (.tmp 4))), none⟩, ⟨(some 16), (.q (.move (.tmp 0))), none⟩, ⟨(some 17), (.q (.move (.tmp 5))), none⟩, ⟨(some 18), (.q (.idxSl 2 (.tmp 16) (.tmp 17))), none⟩, ⟨(some 19), (.q (.fieldAddr 0 (.tmp 18))), none⟩, ⟨(some 20), (.q (.load false 1 (.tmp 19))), none⟩, ⟨(some 21), (.q (.bin .add (.tmp 15) (.tmp 20))), none⟩, ⟨(some 22), (.q (.bin .add (.tmp 21) (.const (.str (B [61]))))), none⟩, ⟨(some 23), (.q (.move (.tmp 0))), none⟩, ⟨(some 24), (.q (.move (.tmp 5))), none⟩, ⟨(some 25), (.q (.idxSl 2 (.tmp 23) (.tmp 24))), none⟩, ⟨(some 26), (.q (.fieldAddr 1 (.tmp 25))), none⟩, ⟨(some 27), (.q (.load false 1 (.tmp 26))), none⟩, ⟨(some 28), (.q (.bin .add (.tmp 22) (.tmp 27))), none⟩, ⟨(some 29), (.q (.bin .add (.tmp 28) (.const (.str (B [10]))))), none⟩, ⟨(some 4), (.q (.move (.tmp 29))), none⟩])) 
    (.region [⟨(some 13), (.q (.move (.tmp 5))), none⟩, ⟨(some 14), (.q (.bin .add (.tmp 13) (.const (.int .i64 1)))), none⟩, ⟨(some 5), (.q (.move (.tmp 14))), none⟩])))))) 
    (.seq 
    (.seq 
    (.region [⟨(some 30), (.q (.move (.tmp 4))), none⟩, ⟨(some 31), (.q (.len true (.tmp 30))), none⟩, ⟨(some 32), (.q (.bin .gtr (.tmp 31) (.const (.int .i64 496)))), none⟩]) 
    (.cond (.tmp 32) 
    (.seq 
    (.region [⟨(some 2), (.q (.move (.const (.str (B []))))), none⟩, ⟨(some 3), (.q (.move (.const (.int .i64 7)))), none⟩]) .ret) .skip)) 
    (.seq 
    (.region [⟨(some 33), (.q (.move (.tmp 4))), none⟩, ⟨(some 2), (.q (.move (.tmp 33))), none⟩, ⟨(some 3), (.q (.move (.const (.int .i64 0)))), none⟩]) .ret))))))
theorem t49 : Told Try.prog 49 34 c49 [(.tmp 2), (.tmp 3)] := ⟨Try.f49, _, [], Try.func49, rfl, by kernel_rfl, rfl, by kernel_rfl, by kernel_rfl⟩
def c51 : ACode := 
    (.seq 
    (.region [⟨(some 2), (.q (.move (.const .nils))), none⟩, ⟨(some 3), (.q (.move (.const (.int .i64 0)))), none⟩]) 
    (.seq 
    (.seq 
    (.region [⟨(some 8), (.q (.move (.tmp 0))), none⟩, ⟨(some 9), (.q (.len true (.tmp 8))), none⟩, ⟨(some 10), (.q (.bin .gtr (.tmp 9) (.const (.int .i64 496)))), none⟩]) 
    (.cond (.tmp 10) 
    (.seq 
    (.region [⟨(some 2), (.q (.move (.const .nils))), none⟩, ⟨(some 3), (.q (.move (.const (.int .i64 7)))), none⟩]) .ret) .skip)) 
    (.seq 
    (.region [⟨(some 4), (.q (.move (.const .nils))), none⟩]) 
    (.seq 
    (.region [⟨(some 5), (.q (.move (.const (.int .i64 0)))), none⟩, ⟨(some 6), (.q (.move (.const (.int .i64 (-1))))), none⟩]) 
    (.seq 
    (.seq 
    (.region [⟨(some 7), (.q (.move (.const (.int .i64 0)))), none⟩]) 
    (.block 0 
    (.loop 
    (.seq 
    (.seq 
    (.region [⟨(some 11), (.q (.move (.tmp 7))), none⟩, ⟨(some 12), (.q (.move (.tmp 0))), none⟩, ⟨(some 13), (.q (.len true (.tmp 12))), none⟩, ⟨(some 14), (.q (.bin .lss (.tmp 11) (.tmp 13))), none⟩]) 
    (.cond (.tmp 14) .skip (.exit 0))) 
    (.seq 
    (.block 1 
    (.seq 
    (.seq 
    (.region [⟨(some 17), (.q (.move (.tmp 0))), none⟩, ⟨(some 18), (.q (.move (.tmp 7))), none⟩, ⟨(some 19), (.q (.idxStr (.tmp 17) (.tmp 18))), none⟩, ⟨(some 20), (.q (.bin .eql (.tmp 19) (.const (.int .u8 61)))), none⟩, ⟨(some 21), (.q (.move (.tmp 20))), none⟩, ⟨(some 22), (.q (.move (.tmp 6))), (some (21, true))⟩, ⟨(some 23), (.q (.bin .lss (.tmp 22) (.const (.int .i64 0)))), (some (21, true))⟩, ⟨(some 24), (.q (.pick (.tmp 21) (.tmp 23) (.const (.bool false)))), none⟩]) 
    (.cond (.tmp 24) 
    (.region [⟨(some 25), (.q (.move (.tmp 7))), none⟩, ⟨(some 6), (.q (.move (.tmp 25))), none⟩]) .skip)) 
    (.seq 
    (.seq 
    (.region [⟨(some 26), (.q (.move (.tmp 0))), none⟩, ⟨(some 27), (.q (.move (.tmp 7))), none⟩, ⟨(some 28), (.q (.idxStr (.tmp 26) (.tmp 27))), none⟩, ⟨(some 29), (.q (.bin .neq (.tmp 28) (.const (.int .u8 10)))), none⟩]) 
    (.cond (.tmp 29) (.exit 1) .skip)) 
    (.seq 
    (.seq 
    (.region [⟨(some 30), (.q (.move (.tmp 6))), none⟩, ⟨(some 31), (.q (.bin .lss (.tmp 30) (.const (.int .i64 0)))), none⟩]) 
    (.cond (.tmp 31) 
    (.seq 
    (.region [⟨(some 2), (.q (.move (.const .nils))), none⟩, ⟨(some 3), (.q (.move (.const (.int .i64 6)))), none⟩]) .ret) .skip)) 
    (.seq 
    (.region [⟨(some 32), (.q (.move (.tmp 4))), none⟩, ⟨(some 33), (.q (.move (.tmp 0))), none⟩, ⟨(some 34), (.q (.move (.tmp 5))), none⟩, ⟨(some 35), (.q (.move (.tmp 6))), none⟩, ⟨(some 36), (.q (.sliceStr (.tmp 33) (some (.tmp 34)) (some (.tmp 35)))), none⟩, ⟨(some 37), (.q (.move (.tmp 0))), none⟩, ⟨(some 38), (.q (.move (.tmp 6))), none⟩, ⟨(some 39), (.q (.bin .add (.tmp 38) (.const (.int .i64 1)))), none⟩, ⟨(some 40), (.q (.move (.tmp 7))), none⟩, ⟨(some 41), (.q (.sliceStr (.tmp 37) (some (.tmp 39)) (some (.tmp 40)))), none⟩, ⟨(some 42), (.q (.build [(.str (B [])), (.str (B []))] [(0, (1, (.tmp 36))), (1, (1, (.tmp 41)))])), none⟩, ⟨(some 43), (.s (.lit 94 2 [(.tmp 42)])), none⟩, ⟨(some 44), (.s (.app 94 2 32 (.tmp 32) (.tmp 43))), none⟩, ⟨(some 4), (.q (.move (.tmp 44))), none⟩]) 
    (.seq 
    (.region [⟨(some 45), (.q (.move (.tmp 7))), none⟩, ⟨(some 46), (.q (.bin .add (.tmp 45) (.const (.int .i64 1)))), none⟩, ⟨(some 5), (.q (.move (.tmp 46))), none⟩]) 
    (.region [⟨(some 6), (.q (.move (.const (.int .i64 (-1))))), none⟩]))))))) 
    (.region [⟨(some 15), (.q (.move (.tmp 7))), none⟩, ⟨(some 16), (.q (.bin .add (.tmp 15) (.const (.int .i64 1)))), none⟩, ⟨(some 7), (.q (.move (.tmp 16))), none⟩])))))) 
    (.seq 
    (.seq 
    (.region [⟨(some 47), (.q (.move (.tmp 5))), none⟩, ⟨(some 48), (.q (.move (.tmp 0))), none⟩, ⟨(some 49), (.q (.len true (.tmp 48))), none⟩, ⟨(some 50), (.q (.bin .neq (.tmp 47) (.tmp 49))), none⟩, ⟨(some 51), (.q (.move (.tmp 50))), none⟩, ⟨(some 52), (.q (.move (.tmp 4))), (some (51, false))⟩, ⟨(some 53), (.s (.call 110 [(.tmp 52)])), (some (51, false))⟩, ⟨(some 54), (.q (.un .not (.tmp 53))), (some (51, false))⟩, ⟨(some 55), (.q (.pick (.tmp 51) (.const (.bool true)) (.tmp 54))), none⟩]) 
    (.cond (.tmp 55) 
    (.seq 
    (.region [⟨(some 2), (.q (.move (.const .nils))), none⟩, ⟨(some 3), (.q (.move (.const (.int .i64 6)))), none⟩]) .ret) .skip)) 
    (.seq 
    (.region [⟨(some 56), (.q (.move (.tmp 4))), none⟩, ⟨(some 2), (.q (.move (.tmp 56))), none⟩, ⟨(some 3), (.q (.move (.const (.int .i64 0)))), none⟩]) .ret)))))))
theorem t51 : Told Try.prog 51 57 c51 [(.tmp 2), (.tmp 3)] := ⟨Try.f51, _, [], Try.func51, rfl, by kernel_rfl, rfl, by kernel_rfl, by kernel_rfl⟩
def c54 : ACode := 
    (.seq 
    (.region [⟨(some 4), (.q (.move (.const (.bool false)))), none⟩]) 
    (.seq 
    (.seq 
    (.region [⟨(some 6), (.q (.move (.tmp 0))), none⟩, ⟨(some 7), (.q (.len false (.tmp 6))), none⟩, ⟨(some 8), (.q (.move (.tmp 1))), none⟩, ⟨(some 9), (.q (.len false (.tmp 8))), none⟩, ⟨(some 10), (.q (.bin .neq (.tmp 7) (.tmp 9))), none⟩]) 
    (.cond (.tmp 10) 
    (.seq 
    (.region [⟨(some 4), (.q (.move (.const (.bool false)))), none⟩]) .ret) .skip)) 
    (.seq 
    (.seq 
    (.region [⟨(some 5), (.q (.move (.const (.int .i64 0)))), none⟩]) 
    (.block 0 
    (.loop 
    (.seq 
    (.seq 
    (.region [⟨(some 11), (.q (.move (.tmp 5))), none⟩, ⟨(some 12), (.q (.move (.tmp 0))), none⟩, ⟨(some 13), (.q (.len false (.tmp 12))), none⟩, ⟨(some 14), (.q (.bin .lss (.tmp 11) (.tmp 13))), none⟩, ⟨(some 15), (.q (.move (.tmp 14))), none⟩, ⟨(some 16), (.q (.move (.tmp 5))), (some (15, true))⟩, ⟨(some 17), (.q (.move (.tmp 1))), (some (15, true))⟩, ⟨(some 18), (.q (.len false (.tmp 17))), (some (15, true))⟩, ⟨(some 19), (.q (.bin .lss (.tmp 16) (.tmp 18))), (some (15, true))⟩, ⟨(some 20), (.q (.pick (.tmp 15) (.tmp 19) (.const (.bool false)))), none⟩]) 
    (.cond (.tmp 20) .skip (.exit 0))) 
    (.seq 
    (.block 1 
    (.seq 
    (.region [⟨(some 23), (.q (.move (.tmp 0))), none⟩, ⟨(some 24), (.q (.move (.tmp 5))), none⟩, ⟨(some 25), (.q (.idxSl 2 (.tmp 23) (.tmp 24))), none⟩, ⟨(some 26), (.q (.load true 2 (.tmp 25))), none⟩, ⟨(some 27), (.q (.move (.tmp 1))), none⟩, ⟨(some 28), (.q (.move (.tmp 5))), none⟩, ⟨(some 29), (.q (.idxSl 2 (.tmp 27) (.tmp 28))), none⟩, ⟨(some 30), (.q (.load true 2 (.tmp 29))), none⟩, ⟨(some 31), (.q 
    (.seq [.s, .s] true (.tmp 26) (.tmp 30))), none⟩]) 
    (.cond (.tmp 31) 
    (.seq 
    (.region [⟨(some 4), (.q (.move (.const (.bool false)))), none⟩]) .ret) .skip))) 
    (.region [⟨(some 21), (.q (.move (.tmp 5))), none⟩, ⟨(some 22), (.q (.bin .add (.tmp 21) (.const (.int .i64 1)))), none⟩, ⟨(some 5), (.q (.move (.tmp 22))), none⟩])))))) 
    (.seq 
    (.region [⟨(some 4), (.q (.move (.const (.bool true)))), none⟩]) .ret))))
theorem t54 : Told Try.prog 54 32 c54 [(.tmp 4)] := ⟨Try.f54, _, [], Try.func54, rfl, by kernel_rfl, rfl, by kernel_rfl, by kernel_rfl⟩
def c46 : ACode := 
    (.seq 
    (.region [⟨(some 2), (.q (.move (.const (.bool false)))), none⟩]) 
    (.seq 
    (.seq 
    (.region [⟨(some 3), (.q (.move (.const (.int .i64 0)))), none⟩]) 
    (.block 0 
    (.loop 
    (.seq 
    (.seq 
    (.region [⟨(some 4), (.q (.move (.tmp 3))), none⟩, ⟨(some 5), (.q (.move (.tmp 0))), none⟩, ⟨(some 6), (.q (.len false (.tmp 5))), none⟩, ⟨(some 7), (.q (.bin .lss (.tmp 4) (.tmp 6))), none⟩, ⟨(some 8), (.q (.move (.tmp 7))), none⟩, ⟨(some 9), (.q (.move (.tmp 3))), (some (8, true))⟩, ⟨(some 10), (.q (.bin .lss (.tmp 9) (.const (.int .i64 20)))), (some (8, true))⟩, ⟨(some 11), (.q (.pick (.tmp 8) (.tmp 10) (.const (.bool false)))), none⟩]) 
    (.cond (.tmp 11) .skip (.exit 0))) 
    (.seq 
    (.block 1 
    (.seq 
    (.region [⟨(some 14), (.q (.move (.tmp 0))), none⟩, ⟨(some 15), (.q (.move (.tmp 3))), none⟩, ⟨(some 16), (.q (.idxSl 2 (.tmp 14) (.tmp 15))), none⟩, ⟨(some 17), (.q (.fieldAddr 0 (.tmp 16))), none⟩, ⟨(some 18), (.q (.load false 1 (.tmp 17))), none⟩, ⟨(some 19), (.q (.len true (.tmp 18))), none⟩, ⟨(some 20), (.q (.bin .gtr (.tmp 19) (.const (.int .i64 100)))), none⟩, ⟨(some 21), (.q (.move (.tmp 20))), none⟩, ⟨(some 22), (.q (.move (.tmp 0))), (some (21, false))⟩, ⟨(some 23), (.q (.move (.tmp 3))), (some (21, false))⟩, ⟨(some 24), (.q (.idxSl 2 (.tmp 22) (.tmp 23))), (some (21, false))⟩, ⟨(some 25), (.q (.fieldAddr 1 (.tmp 24))), (some (21, false))⟩, ⟨(some 26), (.q (.load false 1 (.tmp 25))), (some (21, false))⟩, ⟨(some 27), (.q (.len true (.tmp 26))), (some (21, false))⟩, ⟨(some 28), (.q (.bin .gtr (.tmp 27) (.const (.int .i64 200)))), (some (21, false))⟩, ⟨(some 29), (.q (.pick (.tmp 21) (.const (.bool true)) (.tmp 28))), none⟩]) 
    (.cond (.tmp 29) 
    (.seq 
    (.region [⟨(some 2), (.q (.move (.const (.bool false)))), none⟩]) .ret) .skip))) 
    (.region [⟨(some 12), (.q (.move (.tmp 3))), none⟩, ⟨(some 13), (.q (.bin .add (.tmp 12) (.const (.int .i64 1)))), none⟩, ⟨(some 3), (.q (.move (.tmp 13))), none⟩])))))) 
    (.seq 
    (.region [⟨(some 30), (.q (.move (.tmp 0))), none⟩, ⟨(some 31), (.q (.len false (.tmp 30))), none⟩, ⟨(some 32), (.q (.bin .leq (.tmp 31) (.const (.int .i64 20)))), none⟩, ⟨(some 2), (.q (.move (.tmp 32))), none⟩]) .ret)))
theorem t46 : Told Try.prog 46 33 c46 [(.tmp 2)] := ⟨Try.f46, _, [], Try.func46, rfl, by kernel_rfl, rfl, by kernel_rfl, by kernel_rfl⟩
def c47 : ACode := 
    (.seq 
    (.region [⟨(some 0), (.q (.move (.const (.bool false)))), none⟩]) 
    (.seq 
    (.region [⟨(some 10), (.q (.build [(.str (B [])), (.str (B []))] [(0, (1, (.const (.str (B [98]))))), (1, (1, (.const (.str (B [50])))))])), none⟩, ⟨(some 11), (.q (.build [(.str (B [])), (.str (B []))] [(0, (1, (.const (.str (B [97]))))), (1, (1, (.const (.str (B [49])))))])), none⟩, ⟨(some 12), (.s (.lit 94 2 [(.tmp 10), (.tmp 11)])), none⟩, ⟨(some 13), (.s (.call 58 [(.const .nils), (.tmp 12)])), none⟩, ⟨(some 9), (.q (.move (.tmp 13))), none⟩, ⟨(some 14), (.q (.extract 0 (.tmp 9))), none⟩, ⟨(some 15), (.q (.extract 1 (.tmp 9))), none⟩, ⟨(some 1), (.q (.move (.tmp 14))), none⟩, ⟨(some 2), (.q (.move (.tmp 15))), none⟩]) 
    (.seq 
    (.region [⟨(some 17), (.q (.move (.tmp 1))), none⟩, ⟨(some 18), (.s (.call 48 [(.tmp 17)])), none⟩, ⟨(some 16), (.q (.move (.tmp 18))), none⟩, ⟨(some 19), (.q (.extract 0 (.tmp 16))), none⟩, ⟨(some 20), (.q (.extract 1 (.tmp 16))), none⟩, ⟨(some 3), (.q (.move (.tmp 19))), none⟩, ⟨(some 4), (.q (.move (.tmp 20))), none⟩]) 
    (.seq 
    (.region [⟨(some 22), (.s (.call 50 [(.const (.str (B [97, 61, 49, 10, 98, 61, 50, 10])))])), none⟩, ⟨(some 21), (.q (.move (.tmp 22))), none⟩, ⟨(some 23), (.q (.extract 0 (.tmp 21))), none⟩, ⟨(some 24), (.q (.extract 1 (.tmp 21))), none⟩, ⟨(some 5), (.q (.move (.tmp 23))), none⟩, ⟨(some 6), (.q (.move (.tmp 24))), none⟩]) 
    (.seq 
    (.region [⟨(some 26), (.q (.move (.tmp 1))), none⟩, ⟨(some 27), (.s (.call 52 [(.tmp 26), (.const (.str (B [98])))])), none⟩, ⟨(some 25), (.q (.move (.tmp 27))), none⟩, ⟨(some 28), (.q (.extract 0 (.tmp 25))), none⟩, ⟨(some 29), (.q (.extract 1 (.tmp 25))), none⟩, ⟨(some 7), (.q (.move (.tmp 28))), none⟩, ⟨(some 8), (.q (.move (.tmp 29))), none⟩]) 
    (.seq 
    (.region [⟨(some 30), (.q (.move (.tmp 2))), none⟩, ⟨(some 31), (.q (.bin .eql (.tmp 30) (.const (.int .i64 0)))), none⟩, ⟨(some 32), (.q (.move (.tmp 31))), none⟩, ⟨(some 33), (.q (.move (.tmp 3))), (some (32, true))⟩, ⟨(some 34), (.q (.bin .eql (.tmp 33) (.const (.str (B [97, 61, 49, 10, 98, 61, 50, 10]))))), (some (32, true))⟩, ⟨(some 35), (.q (.pick (.tmp 32) (.tmp 34) (.const (.bool false)))), none⟩, ⟨(some 36), (.q (.move (.tmp 35))), none⟩, ⟨(some 37), (.q (.move (.tmp 4))), (some (36, true))⟩, ⟨(some 38), (.q (.bin .eql (.tmp 37) (.const (.int .i64 0)))), (some (36, true))⟩, ⟨(some 39), (.q (.pick (.tmp 36) (.tmp 38) (.const (.bool false)))), none⟩, ⟨(some 40), (.q (.move (.tmp 39))), none⟩, ⟨(some 41), (.q (.move (.tmp 5))), (some (40, true))⟩, ⟨(some 42), (.q (.move (.tmp 1))), (some (40, true))⟩, ⟨(some 43), (.s (.call 54 [(.tmp 41), (.tmp 42)])), (some (40, true))⟩, ⟨(some 44), (.q (.pick (.tmp 40) (.tmp 43) (.const (.bool false)))), none⟩, ⟨(some 45), (.q (.move (.tmp 44))), none⟩, ⟨(some 46), (.q (.move (.tmp 6))), (some (45, true))⟩, ⟨(some 47), (.q (.bin .eql (.tmp 46) (.const (.int .i64 0)))), (some (45, true))⟩, ⟨(some 48), (.q (.pick (.tmp 45) (.tmp 47) (.const (.bool false)))), none⟩, ⟨(some 49), (.q (.move (.tmp 48))), none⟩, ⟨(some 50), (.q (.move (.tmp 7))), (some (49, true))⟩, ⟨(some 51), (.q (.bin .eql (.tmp 50) (.const (.str (B [50]))))), (some (49, true))⟩, ⟨(some 52), (.q (.pick (.tmp 49) (.tmp 51) (.const (.bool false)))), none⟩, ⟨(some 53), (.q (.move (.tmp 52))), none⟩, ⟨(some 54), (.q (.move (.tmp 8))), (some (53, true))⟩, ⟨(some 55), (.q (.pick (.tmp 53) (.tmp 54) (.const (.bool false)))), none⟩, ⟨(some 56), (.q (.move (.tmp 55))), none⟩, ⟨(some 57), (.q (.move (.tmp 1))), (some (56, true))⟩, ⟨(some 58), (.s (.lit 9 1 [(.const (.str (B [97]))), (.const (.str (B [122])))])), (some (56, true))⟩, ⟨(some 59), (.s (.call 60 [(.tmp 57), (.tmp 58)])), (some (56, true))⟩, ⟨(some 60), (.q (.len false (.tmp 59))), (some (56, true))⟩, ⟨(some 61), (.q (.bin .eql (.tmp 60) (.const (.int .i64 1)))), (some (56, true))⟩, ⟨(some 62), (.q (.pick (.tmp 56) (.tmp 61) (.const (.bool false)))), none⟩, ⟨(some 63), (.q (.move (.tmp 62))), none⟩, ⟨(some 64), (.q (.build [(.str (B [])), (.str (B []))] [(0, (1, (.const (.str (B [65])))))])), (some (63, true))⟩, ⟨(some 65), (.s (.call 55 [(.tmp 64)])), (some (63, true))⟩, ⟨(some 66), (.q (.bin .eql (.tmp 65) (.const (.int .i64 1)))), (some (63, true))⟩, ⟨(some 67), (.q (.pick (.tmp 63) (.tmp 66) (.const (.bool false)))), none⟩, ⟨(some 0), (.q (.move (.tmp 67))), none⟩]) .ret))))))
theorem t47 : Told Try.prog 47 68 c47 [(.tmp 0)] := ⟨Try.f47, _, [], Try.func47, rfl, by kernel_rfl, rfl, by kernel_rfl, by kernel_rfl⟩
def c10 : ACode := 
    (.seq 
    (.region [⟨(some 6), (.q (.move (.const (.bool false)))), none⟩]) 
    (.seq 
    (.seq 
    (.region [⟨(some 20), (.q (.move (.tmp 0))), none⟩, ⟨(some 21), (.s (.call 46 [(.tmp 20)])), none⟩, ⟨(some 22), (.q (.un .not (.tmp 21))), none⟩, ⟨(some 23), (.q (.move (.tmp 22))), none⟩, ⟨(some 24), (.q (.move (.tmp 1))), (some (23, false))⟩, ⟨(some 25), (.q (.len true (.tmp 24))), (some (23, false))⟩, ⟨(some 26), (.q (.bin .gtr (.tmp 25) (.const (.int .i64 600)))), (some (23, false))⟩, ⟨(some 27), (.q (.pick (.tmp 23) (.const (.bool true)) (.tmp 26))), none⟩, ⟨(some 28), (.q (.move (.tmp 27))), none⟩, ⟨(some 29), (.q (.move (.tmp 2))), (some (28, false))⟩, ⟨(some 30), (.q (.len true (.tmp 29))), (some (28, false))⟩, ⟨(some 31), (.q (.bin .gtr (.tmp 30) (.const (.int .i64 100)))), (some (28, false))⟩, ⟨(some 32), (.q (.pick (.tmp 28) (.const (.bool true)) (.tmp 31))), none⟩]) 
    (.cond (.tmp 32) 
    (.seq 
    (.region [⟨(some 33), (.s (.call 47 [])), none⟩, ⟨(some 6), (.q (.move (.tmp 33))), none⟩]) .ret) .skip)) 
    (.seq 
    (.region [⟨(some 35), (.q (.move (.tmp 0))), none⟩, ⟨(some 36), (.s (.call 48 [(.tmp 35)])), none⟩, ⟨(some 34), (.q (.move (.tmp 36))), none⟩, ⟨(some 37), (.q (.extract 0 (.tmp 34))), none⟩, ⟨(some 38), (.q (.extract 1 (.tmp 34))), none⟩, ⟨(some 7), (.q (.move (.tmp 37))), none⟩, ⟨(some 8), (.q (.move (.tmp 38))), none⟩]) 
    (.seq 
    (.region [⟨(some 40), (.q (.move (.tmp 0))), none⟩, ⟨(some 41), (.s (.call 49 [(.tmp 40)])), none⟩, ⟨(some 39), (.q (.move (.tmp 41))), none⟩, ⟨(some 42), (.q (.extract 0 (.tmp 39))), none⟩, ⟨(some 43), (.q (.extract 1 (.tmp 39))), none⟩, ⟨(some 9), (.q (.move (.tmp 42))), none⟩, ⟨(some 10), (.q (.move (.tmp 43))), none⟩]) 
    (.seq 
    (.region [⟨(some 45), (.q (.move (.tmp 1))), none⟩, ⟨(some 46), (.s (.call 50 [(.tmp 45)])), none⟩, ⟨(some 44), (.q (.move (.tmp 46))), none⟩, ⟨(some 47), (.q (.extract 0 (.tmp 44))), none⟩, ⟨(some 48), (.q (.extract 1 (.tmp 44))), none⟩, ⟨(some 11), (.q (.move (.tmp 47))), none⟩, ⟨(some 12), (.q (.move (.tmp 48))), none⟩]) 
    (.seq 
    (.region [⟨(some 50), (.q (.move (.tmp 1))), none⟩, ⟨(some 51), (.s (.call 51 [(.tmp 50)])), none⟩, ⟨(some 49), (.q (.move (.tmp 51))), none⟩, ⟨(some 52), (.q (.extract 0 (.tmp 49))), none⟩, ⟨(some 53), (.q (.extract 1 (.tmp 49))), none⟩, ⟨(some 13), (.q (.move (.tmp 52))), none⟩, ⟨(some 14), (.q (.move (.tmp 53))), none⟩]) 
    (.seq 
    (.region [⟨(some 55), (.q (.move (.tmp 0))), none⟩, ⟨(some 56), (.q (.move (.tmp 2))), none⟩, ⟨(some 57), (.s (.call 52 [(.tmp 55), (.tmp 56)])), none⟩, ⟨(some 54), (.q (.move (.tmp 57))), none⟩, ⟨(some 58), (.q (.extract 0 (.tmp 54))), none⟩, ⟨(some 59), (.q (.extract 1 (.tmp 54))), none⟩, ⟨(some 15), (.q (.move (.tmp 58))), none⟩, ⟨(some 16), (.q (.move (.tmp 59))), none⟩]) 
    (.seq 
    (.region [⟨(some 61), (.q (.move (.tmp 0))), none⟩, ⟨(some 62), (.q (.move (.tmp 2))), none⟩, ⟨(some 63), (.s (.call 53 [(.tmp 61), (.tmp 62)])), none⟩, ⟨(some 60), (.q (.move (.tmp 63))), none⟩, ⟨(some 64), (.q (.extract 0 (.tmp 60))), none⟩, ⟨(some 65), (.q (.extract 1 (.tmp 60))), none⟩, ⟨(some 17), (.q (.move (.tmp 64))), none⟩, ⟨(some 18), (.q (.move (.tmp 65))), none⟩]) 
    (.seq 
    (.seq 
    (.region [⟨(some 66), (.q (.move (.tmp 7))), none⟩, ⟨(some 67), (.q (.move (.tmp 9))), none⟩, ⟨(some 68), (.q (.bin .neq (.tmp 66) (.tmp 67))), none⟩, ⟨(some 69), (.q (.move (.tmp 68))), none⟩, ⟨(some 70), (.q (.move (.tmp 8))), (some (69, false))⟩, ⟨(some 71), (.q (.move (.tmp 10))), (some (69, false))⟩, ⟨(some 72), (.q (.bin .neq (.tmp 70) (.tmp 71))), (some (69, false))⟩, ⟨(some 73), (.q (.pick (.tmp 69) (.const (.bool true)) (.tmp 72))), none⟩, ⟨(some 74), (.q (.move (.tmp 73))), none⟩, ⟨(some 75), (.q (.move (.tmp 11))), (some (74, false))⟩, ⟨(some 76), (.q (.move (.tmp 13))), (some (74, false))⟩, ⟨(some 77), (.s (.call 54 [(.tmp 75), (.tmp 76)])), (some (74, false))⟩, ⟨(some 78), (.q (.un .not (.tmp 77))), (some (74, false))⟩, ⟨(some 79), (.q (.pick (.tmp 74) (.const (.bool true)) (.tmp 78))), none⟩, ⟨(some 80), (.q (.move (.tmp 79))), none⟩, ⟨(some 81), (.q (.move (.tmp 12))), (some (80, false))⟩, ⟨(some 82), (.q (.move (.tmp 14))), (some (80, false))⟩, ⟨(some 83), (.q (.bin .neq (.tmp 81) (.tmp 82))), (some (80, false))⟩, ⟨(some 84), (.q (.pick (.tmp 80) (.const (.bool true)) (.tmp 83))), none⟩, ⟨(some 85), (.q (.move (.tmp 84))), none⟩, ⟨(some 86), (.q (.move (.tmp 15))), (some (85, false))⟩, ⟨(some 87), (.q (.move (.tmp 17))), (some (85, false))⟩, ⟨(some 88), (.q (.bin .neq (.tmp 86) (.tmp 87))), (some (85, false))⟩, ⟨(some 89), (.q (.pick (.tmp 85) (.const (.bool true)) (.tmp 88))), none⟩, ⟨(some 90), (.q (.move (.tmp 89))), none⟩, ⟨(some 91), (.q (.move (.tmp 16))), (some (90, false))⟩, ⟨(some 92), (.q (.move (.tmp 18))), (some (90, false))⟩, ⟨(some 93), (.q (.beq true (.tmp 91) (.tmp 92))), (some (90, false))⟩, ⟨(some 94), (.q (.pick (.tmp 90) (.const (.bool true)) (.tmp 93))), none⟩]) 
    (.cond (.tmp 94) 
    (.seq 
    (.region [⟨(some 6), (.q (.move (.const (.bool false)))), none⟩]) .ret) .skip)) 
    (.seq 
    (.seq 
    (.region [⟨(some 19), (.q (.move (.const (.int .i64 0)))), none⟩]) 
    (.block 0 
    (.loop 
    (.seq 
    (.seq 
    (.region [⟨(some 95), (.q (.move (.tmp 19))), none⟩, ⟨(some 96), (.q (.move (.tmp 0))), none⟩, ⟨(some 97), (.q (.len false (.tmp 96))), none⟩, ⟨(some 98), (.q (.bin .lss (.tmp 95) (.tmp 97))), none⟩]) 
    (.cond (.tmp 98) .skip (.exit 0))) 
    (.seq 
    (.block 1 
    (.seq 
    (.region [⟨(some 101), (.q (.move (.tmp 0))), none⟩, ⟨(some 102), (.q (.move (.tmp 19))), none⟩, ⟨(some 103), (.q (.idxSl 2 (.tmp 101) (.tmp 102))), none⟩, ⟨(some 104), (.q (.load true 2 (.tmp 103))), none⟩, ⟨(some 105), (.c (.fn 55) [(.tmp 104)]), none⟩, ⟨(some 106), (.q (.move (.tmp 0))), none⟩, ⟨(some 107), (.q (.move (.tmp 19))), none⟩, ⟨(some 108), (.q (.idxSl 2 (.tmp 106) (.tmp 107))), none⟩, ⟨(some 109), (.q (.load true 2 (.tmp 108))), none⟩, ⟨(some 110), (.s (.call 56 [(.tmp 109)])), none⟩, ⟨(some 111), (.q (.bin .neq (.tmp 105) (.tmp 110))), none⟩]) 
    (.cond (.tmp 111) 
    (.seq 
    (.region [⟨(some 6), (.q (.move (.const (.bool false)))), none⟩]) .ret) .skip))) 
    (.region [⟨(some 99), (.q (.move (.tmp 19))), none⟩, ⟨(some 100), (.q (.bin .add (.tmp 99) (.const (.int .i64 1)))), none⟩, ⟨(some 19), (.q (.move (.tmp 100))), none⟩])))))) 
    (.seq 
    (.region [⟨(some 112), (.s (.call 47 [])), none⟩, ⟨(some 6), (.q (.move (.tmp 112))), none⟩]) .ret)))))))))))
theorem t10 : Told Try.prog 10 113 c10 [(.tmp 6)] := ⟨Try.f10, _, [], Try.func10, rfl, by kernel_rfl, rfl, by kernel_rfl, by kernel_rfl⟩
end Go.Proofs.Ytfilheaaacffmaa.AL

