/- The code of the lexer, and of the document's, told. -/
import Derived.Test.YtfilheaaacffmaaQLexJoinsALA3
import Derived.Test.YtfilheaaacffmaaProg
import Derived.KernelRfl
set_option maxRecDepth 100000
namespace Go.Proofs.Ytfilheaaacffmaa.AL
open Go Go.Proofs
def c140 : ACode := 
    (.seq 
    (.region [⟨(some 4), (.q (.move (.const (.bool false)))), none⟩]) 
    (.seq 
    (.region [⟨(some 5), (.q (.move (.tmp 0))), none⟩, ⟨(some 6), (.q (.move (.tmp 1))), none⟩, ⟨(some 7), (.s (.call 170 [(.tmp 5), (.tmp 6)])), none⟩, ⟨(some 4), (.q (.move (.tmp 7))), none⟩]) .ret))
theorem t140 : Told Try.prog 140 8 c140 [(.tmp 4)] := ⟨Try.f140, _, [], Try.func140, rfl, by kernel_rfl, rfl, by kernel_rfl, by kernel_rfl⟩
def c170 : ACode := 
    (.seq 
    (.region [⟨(some 4), (.q (.move (.const (.bool false)))), none⟩]) 
    (.seq 
    (.region [⟨(some 5), (.q (.move (.tmp 0))), none⟩, ⟨(some 6), (.q (.len true (.tmp 5))), none⟩, ⟨(some 7), (.q (.move (.tmp 1))), none⟩, ⟨(some 8), (.q (.len true (.tmp 7))), none⟩, ⟨(some 9), (.q (.bin .geq (.tmp 6) (.tmp 8))), none⟩, ⟨(some 10), (.q (.move (.tmp 9))), none⟩, ⟨(some 11), (.q (.move (.tmp 0))), (some (10, true))⟩, ⟨(some 12), (.q (.move (.tmp 1))), (some (10, true))⟩, ⟨(some 13), (.q (.len true (.tmp 12))), (some (10, true))⟩, ⟨(some 14), (.q (.sliceStr (.tmp 11) none (some (.tmp 13)))), (some (10, true))⟩, ⟨(some 15), (.q (.move (.tmp 1))), (some (10, true))⟩, ⟨(some 16), (.q (.bin .eql (.tmp 14) (.tmp 15))), (some (10, true))⟩, ⟨(some 17), (.q (.pick (.tmp 10) (.tmp 16) (.const (.bool false)))), none⟩, ⟨(some 4), (.q (.move (.tmp 17))), none⟩]) .ret))
theorem t170 : Told Try.prog 170 18 c170 [(.tmp 4)] := ⟨Try.f170, _, [], Try.func170, rfl, by kernel_rfl, rfl, by kernel_rfl, by kernel_rfl⟩
def c169 : ACode := 
    (.seq 
    (.region [⟨(some 4), (.q (.move (.const (.int .i64 0)))), none⟩]) 
    (.seq 
    (.seq 
    (.region [⟨(some 7), (.q (.move (.tmp 1))), none⟩, ⟨(some 8), (.q (.len true (.tmp 7))), none⟩, ⟨(some 9), (.q (.bin .eql (.tmp 8) (.const (.int .i64 0)))), none⟩]) 
    (.cond (.tmp 9) 
    (.seq 
    (.region [⟨(some 10), (.q (.move (.tmp 0))), none⟩, ⟨(some 11), (.s (.call 182 [(.tmp 10)])), none⟩, ⟨(some 12), (.q (.bin .add (.tmp 11) (.const (.int .i64 1)))), none⟩, ⟨(some 4), (.q (.move (.tmp 12))), none⟩]) .ret) .skip)) 
    (.seq 
    (.seq 
    (.region [⟨(some 13), (.q (.move (.tmp 1))), none⟩, ⟨(some 14), (.q (.len true (.tmp 13))), none⟩, ⟨(some 15), (.q (.bin .eql (.tmp 14) (.const (.int .i64 1)))), none⟩]) 
    (.cond (.tmp 15) 
    (.seq 
    (.region [⟨(some 16), (.q (.move (.tmp 0))), none⟩, ⟨(some 17), (.q (.move (.tmp 1))), none⟩, ⟨(some 18), (.q (.idxStr (.tmp 17) (.const (.int .i64 0)))), none⟩, ⟨(some 19), (.s (.call 183 [(.tmp 16), (.tmp 18)])), none⟩, ⟨(some 4), (.q (.move (.tmp 19))), none⟩]) .ret) .skip)) 
    (.seq 
    (.region [⟨(some 5), (.q (.move (.const (.int .i64 0)))), none⟩]) 
    (.block 0 
    (.loop 
    (.block 1 
    (.seq 
    (.region [⟨(some 20), (.q (.move (.tmp 0))), none⟩, ⟨(some 21), (.q (.move (.tmp 1))), none⟩, ⟨(some 22), (.s (.call 141 [(.tmp 20), (.tmp 21)])), none⟩, ⟨(some 6), (.q (.move (.tmp 22))), none⟩]) 
    (.seq 
    (.seq 
    (.region [⟨(some 23), (.q (.move (.tmp 6))), none⟩, ⟨(some 24), (.q (.bin .eql (.tmp 23) (.const (.int .i64 (-1))))), none⟩]) 
    (.cond (.tmp 24) 
    (.seq 
    (.region [⟨(some 25), (.q (.move (.tmp 5))), none⟩, ⟨(some 4), (.q (.move (.tmp 25))), none⟩]) .ret) .skip)) 
    (.seq 
    (.region [⟨(some 26), (.q (.move (.tmp 5))), none⟩, ⟨(some 27), (.q (.bin .add (.tmp 26) (.const (.int .i64 1)))), none⟩, ⟨(some 5), (.q (.move (.tmp 27))), none⟩]) 
    (.region [⟨(some 28), (.q (.move (.tmp 0))), none⟩, ⟨(some 29), (.q (.move (.tmp 6))), none⟩, ⟨(some 30), (.q (.move (.tmp 1))), none⟩, ⟨(some 31), (.q (.len true (.tmp 30))), none⟩, ⟨(some 32), (.q (.bin .add (.tmp 29) (.tmp 31))), none⟩, ⟨(some 33), (.q (.sliceStr (.tmp 28) (some (.tmp 32)) none)), none⟩, ⟨(some 0), (.q (.move (.tmp 33))), none⟩])))))))))))
theorem t169 : Told Try.prog 169 34 c169 [(.tmp 4)] := ⟨Try.f169, _, [], Try.func169, rfl, by kernel_rfl, rfl, by kernel_rfl, by kernel_rfl⟩
def c103 : ACode := 
    (.seq 
    (.region [⟨(some 4), (.q (.move (.const (.str (B []))))), none⟩]) 
    (.seq 
    (.seq 
    (.region [⟨(some 11), (.q (.move (.tmp 0))), none⟩, ⟨(some 12), (.q (.len false (.tmp 11))), none⟩]) 
    (.block 0 
    (.seq 
    (.region [⟨(some 14), (.q (.bin .eql (.tmp 12) (.const (.int .i64 0)))), none⟩, ⟨(some 13), (.q (.move (.tmp 14))), none⟩]) 
    (.cond (.tmp 13) 
    (.seq 
    (.region [⟨(some 4), (.q (.move (.const (.str (B []))))), none⟩]) .ret) 
    (.seq 
    (.region [⟨(some 16), (.q (.bin .eql (.tmp 12) (.const (.int .i64 1)))), none⟩, ⟨(some 15), (.q (.move (.tmp 16))), none⟩]) 
    (.cond (.tmp 15) 
    (.seq 
    (.region [⟨(some 17), (.q (.move (.tmp 0))), none⟩, ⟨(some 18), (.q (.idxSl 1 (.tmp 17) (.const (.int .i64 0)))), none⟩, ⟨(some 19), (.q (.load false 1 (.tmp 18))), none⟩, ⟨(some 4), (.q (.move (.tmp 19))), none⟩]) .ret) .skip)))))) 
    (.seq 
    (.region [⟨(some 5), (.q (.move (.const (.int .i64 0)))), none⟩]) 
    (.seq 
    (.seq 
    (.region [⟨(some 20), (.q (.move (.tmp 1))), none⟩, ⟨(some 21), (.q (.len true (.tmp 20))), none⟩, ⟨(some 22), (.q (.bin .gtr (.tmp 21) (.const (.int .i64 0)))), none⟩]) 
    (.cond (.tmp 22) 
    (.seq 
    (.seq 
    (.region [⟨(some 23), (.q (.move (.tmp 1))), none⟩, ⟨(some 24), (.q (.len true (.tmp 23))), none⟩, ⟨(some 25), (.q (.move (.tmp 0))), none⟩, ⟨(some 26), (.q (.len false (.tmp 25))), none⟩, ⟨(some 27), (.q (.bin .sub (.tmp 26) (.const (.int .i64 1)))), none⟩, ⟨(some 28), (.q (.bin .quo (.const (.int .i64 9223372036854775807)) (.tmp 27))), none⟩, ⟨(some 29), (.q (.bin .geq (.tmp 24) (.tmp 28))), none⟩]) 
    (.cond (.tmp 29) 
    (.region [⟨(some 30), (.q (.iface 9 (.const (.str (B [115, 116, 114, 105, 110, 103, 115, 58, 32, 74, 111, 105, 110, 32, 111, 117, 116, 112, 117, 116, 32, 108, 101, 110, 103, 116, 104, 32, 111, 118, 101, 114, 102, 108, 111, 119]))))), none⟩, ⟨none, (.s .stop), none⟩]) .skip)) 
    (.region [⟨(some 31), (.q (.move (.tmp 5))), none⟩, ⟨(some 32), (.q (.move (.tmp 1))), none⟩, ⟨(some 33), (.q (.len true (.tmp 32))), none⟩, ⟨(some 34), (.q (.move (.tmp 0))), none⟩, ⟨(some 35), (.q (.len false (.tmp 34))), none⟩, ⟨(some 36), (.q (.bin .sub (.tmp 35) (.const (.int .i64 1)))), none⟩, ⟨(some 37), (.q (.bin .mul (.tmp 33) (.tmp 36))), none⟩, ⟨(some 38), (.q (.bin .add (.tmp 31) (.tmp 37))), none⟩, ⟨(some 5), (.q (.move (.tmp 38))), none⟩])) .skip)) 
    (.seq 
    (.seq 
    (.region [⟨(some 39), (.q (.move (.tmp 0))), none⟩, ⟨(some 40), (.q (.len false (.tmp 39))), none⟩, ⟨(some 41), (.q (.move (.const (.int .i64 0)))), none⟩]) 
    (.block 1 
    (.loop 
    (.seq 
    (.region [⟨(some 42), (.q (.bin .lss (.tmp 41) (.tmp 40))), none⟩]) 
    (.seq 
    (.cond (.tmp 42) .skip (.exit 1)) 
    (.seq 
    (.block 2 
    (.seq 
    (.region [⟨(some 43), (.q (.idxSl 1 (.tmp 39) (.tmp 41))), none⟩, ⟨(some 44), (.q (.load false 1 (.tmp 43))), none⟩, ⟨(some 7), (.q (.move (.tmp 44))), none⟩]) 
    (.seq 
    (.seq 
    (.region [⟨(some 45), (.q (.move (.tmp 7))), none⟩, ⟨(some 46), (.q (.len true (.tmp 45))), none⟩, ⟨(some 47), (.q (.move (.tmp 5))), none⟩, ⟨(some 48), (.q (.bin .sub (.const (.int .i64 9223372036854775807)) (.tmp 47))), none⟩, ⟨(some 49), (.q (.bin .gtr (.tmp 46) (.tmp 48))), none⟩]) 
    (.cond (.tmp 49) 
    (.region [⟨(some 50), (.q (.iface 9 (.const (.str (B [115, 116, 114, 105, 110, 103, 115, 58, 32, 74, 111, 105, 110, 32, 111, 117, 116, 112, 117, 116, 32, 108, 101, 110, 103, 116, 104, 32, 111, 118, 101, 114, 102, 108, 111, 119]))))), none⟩, ⟨none, (.s .stop), none⟩]) .skip)) 
    (.region [⟨(some 51), (.q (.move (.tmp 5))), none⟩, ⟨(some 52), (.q (.move (.tmp 7))), none⟩, ⟨(some 53), (.q (.len true (.tmp 52))), none⟩, ⟨(some 54), (.q (.bin .add (.tmp 51) (.tmp 53))), none⟩, ⟨(some 5), (.q (.move (.tmp 54))), none⟩])))) 
    (.region [⟨(some 55), (.q (.bin .add (.tmp 41) (.const (.int .i64 1)))), none⟩, ⟨(some 41), (.q (.move (.tmp 55))), none⟩]))))))) 
    (.seq 
    (.region [⟨(some 8), (.s (.alloc 145 [.nilp, .nils])), none⟩]) 
    (.seq 
    (.region [⟨(some 56), (.q (.move (.tmp 5))), none⟩, ⟨(some 57), (.s (.call 148 [(.tmp 8), (.tmp 56)])), none⟩]) 
    (.seq 
    (.region [⟨(some 58), (.q (.move (.tmp 0))), none⟩, ⟨(some 59), (.q (.idxSl 1 (.tmp 58) (.const (.int .i64 0)))), none⟩, ⟨(some 60), (.q (.load false 1 (.tmp 59))), none⟩, ⟨(some 61), (.s (.call 107 [(.tmp 8), (.tmp 60)])), none⟩]) 
    (.seq 
    (.seq 
    (.region [⟨(some 62), (.q (.move (.tmp 0))), none⟩, ⟨(some 63), (.q (.sliceSl 1 (.tmp 62) (some (.const (.int .i64 1))) none)), none⟩, ⟨(some 64), (.q (.len false (.tmp 63))), none⟩, ⟨(some 65), (.q (.move (.const (.int .i64 0)))), none⟩]) 
    (.block 3 
    (.loop 
    (.seq 
    (.region [⟨(some 66), (.q (.bin .lss (.tmp 65) (.tmp 64))), none⟩]) 
    (.seq 
    (.cond (.tmp 66) .skip (.exit 3)) 
    (.seq 
    (.block 4 
    (.seq 
    (.region [⟨(some 67), (.q (.idxSl 1 (.tmp 63) (.tmp 65))), none⟩, ⟨(some 68), (.q (.load false 1 (.tmp 67))), none⟩, ⟨(some 10), (.q (.move (.tmp 68))), none⟩]) 
    (.seq 
    (.region [⟨(some 69), (.q (.move (.tmp 1))), none⟩, ⟨(some 70), (.s (.call 107 [(.tmp 8), (.tmp 69)])), none⟩]) 
    (.region [⟨(some 71), (.q (.move (.tmp 10))), none⟩, ⟨(some 72), (.s (.call 107 [(.tmp 8), (.tmp 71)])), none⟩])))) 
    (.region [⟨(some 73), (.q (.bin .add (.tmp 65) (.const (.int .i64 1)))), none⟩, ⟨(some 65), (.q (.move (.tmp 73))), none⟩]))))))) 
    (.seq 
    (.region [⟨(some 74), (.s (.call 109 [(.tmp 8)])), none⟩, ⟨(some 4), (.q (.move (.tmp 74))), none⟩]) .ret))))))))))
theorem t103 : Told Try.prog 103 75 c103 [(.tmp 4)] := ⟨Try.f103, _, [], Try.func103, rfl, by kernel_rfl, rfl, by kernel_rfl, by kernel_rfl⟩
def c175 : ACode := 
    (.seq 
    (.region [⟨(some 2), (.q (.move (.const (.str (B []))))), none⟩]) 
    (.seq 
    (.region [⟨(some 3), (.q (.move (.const .nils))), none⟩]) 
    (.seq 
    (.seq 
    (.region [⟨(some 6), (.q (.move (.tmp 0))), none⟩, ⟨(some 7), (.s (.s2b 5 (.tmp 6))), none⟩, ⟨(some 8), (.q (.len false (.tmp 7))), none⟩, ⟨(some 9), (.q (.move (.const (.int .i64 0)))), none⟩]) 
    (.block 0 
    (.loop 
    (.seq 
    (.region [⟨(some 10), (.q (.bin .lss (.tmp 9) (.tmp 8))), none⟩]) 
    (.seq 
    (.cond (.tmp 10) .skip (.exit 0)) 
    (.seq 
    (.block 1 
    (.seq 
    (.region [⟨(some 11), (.q (.idxSl 1 (.tmp 7) (.tmp 9))), none⟩, ⟨(some 12), (.q (.load false 1 (.tmp 11))), none⟩, ⟨(some 5), (.q (.move (.tmp 12))), none⟩]) 
    (.region [⟨(some 13), (.q (.move (.tmp 3))), none⟩, ⟨(some 14), (.q (.move (.tmp 5))), none⟩, ⟨(some 15), (.q (.bin .shr (.tmp 14) (.const (.int .u64 4)))), none⟩, ⟨(some 16), (.q (.idxStr (.const (.str (B [48, 49, 50, 51, 52, 53, 54, 55, 56, 57, 97, 98, 99, 100, 101, 102]))) (.tmp 15))), none⟩, ⟨(some 17), (.q (.move (.tmp 5))), none⟩, ⟨(some 18), (.q (.bin .and (.tmp 17) (.const (.int .u8 15)))), none⟩, ⟨(some 19), (.q (.idxStr (.const (.str (B [48, 49, 50, 51, 52, 53, 54, 55, 56, 57, 97, 98, 99, 100, 101, 102]))) (.tmp 18))), none⟩, ⟨(some 20), (.s (.lit 5 1 [(.tmp 16), (.tmp 19)])), none⟩, ⟨(some 21), (.s (.app 5 1 1 (.tmp 13) (.tmp 20))), none⟩, ⟨(some 3), (.q (.move (.tmp 21))), none⟩]))) 
    (.region [⟨(some 22), (.q (.bin .add (.tmp 9) (.const (.int .i64 1)))), none⟩, ⟨(some 9), (.q (.move (.tmp 22))), none⟩]))))))) 
    (.seq 
    (.region [⟨(some 23), (.q (.move (.tmp 3))), none⟩, ⟨(some 24), (.q (.b2s (.tmp 23))), none⟩, ⟨(some 2), (.q (.move (.tmp 24))), none⟩]) .ret))))
theorem t175 : Told Try.prog 175 25 c175 [(.tmp 2)] := ⟨Try.f175, _, [], Try.func175, rfl, by kernel_rfl, rfl, by kernel_rfl, by kernel_rfl⟩
def c187 : ACode := 
    (.seq 
    (.region [⟨(some 2), (.q (.move (.const (.str (B []))))), none⟩, ⟨(some 3), (.q (.move (.const (.bool false)))), none⟩]) 
    (.seq 
    (.region [⟨(some 4), (.q (.move (.const .nils))), none⟩]) 
    (.seq 
    (.block 0 
    (.loop 
    (.seq 
    (.seq 
    (.region [⟨(some 7), (.q (.move (.tmp 0))), none⟩, ⟨(some 8), (.q (.len true (.tmp 7))), none⟩, ⟨(some 9), (.q (.bin .gtr (.tmp 8) (.const (.int .i64 1)))), none⟩]) 
    (.cond (.tmp 9) .skip (.exit 0))) 
    (.seq 
    (.block 1 
    (.seq 
    (.region [⟨(some 12), (.q (.move (.tmp 0))), none⟩, ⟨(some 13), (.q (.idxStr (.tmp 12) (.const (.int .i64 0)))), none⟩, ⟨(some 15), (.q (.move (.tmp 0))), none⟩, ⟨(some 16), (.q (.idxStr (.tmp 15) (.const (.int .i64 1)))), none⟩, ⟨(some 14), (.s (.call 138 [(.const (.str (B [48, 49, 50, 51, 52, 53, 54, 55, 56, 57, 97, 98, 99, 100, 101, 102]))), (.tmp 13)])), none⟩, ⟨(some 17), (.s (.call 138 [(.const (.str (B [48, 49, 50, 51, 52, 53, 54, 55, 56, 57, 97, 98, 99, 100, 101, 102]))), (.tmp 16)])), none⟩, ⟨(some 5), (.q (.move (.tmp 14))), none⟩, ⟨(some 6), (.q (.move (.tmp 17))), none⟩]) 
    (.seq 
    (.seq 
    (.region [⟨(some 18), (.q (.move (.tmp 5))), none⟩, ⟨(some 19), (.q (.bin .lss (.tmp 18) (.const (.int .i64 0)))), none⟩, ⟨(some 20), (.q (.move (.tmp 19))), none⟩, ⟨(some 21), (.q (.move (.tmp 6))), (some (20, false))⟩, ⟨(some 22), (.q (.bin .lss (.tmp 21) (.const (.int .i64 0)))), (some (20, false))⟩, ⟨(some 23), (.q (.pick (.tmp 20) (.const (.bool true)) (.tmp 22))), none⟩]) 
    (.cond (.tmp 23) 
    (.seq 
    (.region [⟨(some 2), (.q (.move (.const (.str (B []))))), none⟩, ⟨(some 3), (.q (.move (.const (.bool false)))), none⟩]) .ret) .skip)) 
    (.region [⟨(some 24), (.q (.move (.tmp 4))), none⟩, ⟨(some 25), (.q (.move (.tmp 5))), none⟩, ⟨(some 26), (.q (.bin .shl (.tmp 25) (.const (.int .u64 4)))), none⟩, ⟨(some 27), (.q (.move (.tmp 6))), none⟩, ⟨(some 28), (.q (.bin .or (.tmp 26) (.tmp 27))), none⟩, ⟨(some 29), (.q (.conv .u8 (.tmp 28))), none⟩, ⟨(some 30), (.s (.lit 5 1 [(.tmp 29)])), none⟩, ⟨(some 31), (.s (.app 5 1 1 (.tmp 24) (.tmp 30))), none⟩, ⟨(some 4), (.q (.move (.tmp 31))), none⟩])))) 
    (.region [⟨(some 10), (.q (.move (.tmp 0))), none⟩, ⟨(some 11), (.q (.sliceStr (.tmp 10) (some (.const (.int .i64 2))) none)), none⟩, ⟨(some 0), (.q (.move (.tmp 11))), none⟩]))))) 
    (.seq 
    (.seq 
    (.region [⟨(some 32), (.q (.move (.tmp 0))), none⟩, ⟨(some 33), (.q (.bin .neq (.tmp 32) (.const (.str (B []))))), none⟩]) 
    (.cond (.tmp 33) 
    (.seq 
    (.region [⟨(some 2), (.q (.move (.const (.str (B []))))), none⟩, ⟨(some 3), (.q (.move (.const (.bool false)))), none⟩]) .ret) .skip)) 
    (.seq 
    (.region [⟨(some 34), (.q (.move (.tmp 4))), none⟩, ⟨(some 35), (.q (.b2s (.tmp 34))), none⟩, ⟨(some 2), (.q (.move (.tmp 35))), none⟩, ⟨(some 3), (.q (.move (.const (.bool true)))), none⟩]) .ret)))))
theorem t187 : Told Try.prog 187 36 c187 [(.tmp 2), (.tmp 3)] := ⟨Try.f187, _, [], Try.func187, rfl, by kernel_rfl, rfl, by kernel_rfl, by kernel_rfl⟩
def c143 : ACode := 
    (.seq 
    (.region [⟨(some 2), (.q (.move (.const (.bool false)))), none⟩]) 
    (.seq 
    (.block 0 
    (.seq 
    (.seq 
    (.region [⟨(some 4), (.q (.move (.tmp 0))), none⟩, ⟨(some 5), (.q (.bin .geq (.tmp 4) (.const (.int .u8 97)))), none⟩, ⟨(some 6), (.q (.move (.tmp 5))), none⟩, ⟨(some 7), (.q (.move (.tmp 0))), (some (6, true))⟩, ⟨(some 8), (.q (.bin .leq (.tmp 7) (.const (.int .u8 122)))), (some (6, true))⟩, ⟨(some 9), (.q (.pick (.tmp 6) (.tmp 8) (.const (.bool false)))), none⟩, ⟨(some 3), (.q (.move (.tmp 9))), none⟩]) 
    (.cond (.tmp 3) .skip 
    (.seq 
    (.region [⟨(some 10), (.q (.move (.tmp 0))), none⟩, ⟨(some 11), (.q (.bin .geq (.tmp 10) (.const (.int .u8 65)))), none⟩, ⟨(some 12), (.q (.move (.tmp 11))), none⟩, ⟨(some 13), (.q (.move (.tmp 0))), (some (12, true))⟩, ⟨(some 14), (.q (.bin .leq (.tmp 13) (.const (.int .u8 90)))), (some (12, true))⟩, ⟨(some 15), (.q (.pick (.tmp 12) (.tmp 14) (.const (.bool false)))), none⟩, ⟨(some 3), (.q (.move (.tmp 15))), none⟩]) 
    (.cond (.tmp 3) .skip 
    (.region [⟨(some 16), (.q (.move (.tmp 0))), none⟩, ⟨(some 17), (.q (.bin .geq (.tmp 16) (.const (.int .u8 48)))), none⟩, ⟨(some 18), (.q (.move (.tmp 17))), none⟩, ⟨(some 19), (.q (.move (.tmp 0))), (some (18, true))⟩, ⟨(some 20), (.q (.bin .leq (.tmp 19) (.const (.int .u8 57)))), (some (18, true))⟩, ⟨(some 21), (.q (.pick (.tmp 18) (.tmp 20) (.const (.bool false)))), none⟩, ⟨(some 3), (.q (.move (.tmp 21))), none⟩]))))) 
    (.cond (.tmp 3) 
    (.seq 
    (.region [⟨(some 2), (.q (.move (.const (.bool true)))), none⟩]) .ret) .skip))) 
    (.seq 
    (.region [⟨(some 22), (.q (.move (.tmp 0))), none⟩, ⟨(some 23), (.s (.call 138 [(.const (.str (B [44, 46, 95, 43, 45, 63, 35, 64]))), (.tmp 22)])), none⟩, ⟨(some 24), (.q (.bin .geq (.tmp 23) (.const (.int .i64 0)))), none⟩, ⟨(some 2), (.q (.move (.tmp 24))), none⟩]) .ret)))
theorem t143 : Told Try.prog 143 25 c143 [(.tmp 2)] := ⟨Try.f143, _, [], Try.func143, rfl, by kernel_rfl, rfl, by kernel_rfl, by kernel_rfl⟩
def c101 : ACode := 
    (.seq 
    (.region [⟨(some 2), (.q (.move (.const (.int .i64 0)))), none⟩]) 
    (.seq 
    (.region [⟨(some 3), (.q (.move (.const (.int .i64 0)))), none⟩]) 
    (.seq 
    (.block 0 
    (.loop 
    (.seq 
    (.seq 
    (.region [⟨(some 4), (.q (.move (.tmp 3))), none⟩, ⟨(some 5), (.q (.move (.tmp 0))), none⟩, ⟨(some 6), (.q (.len true (.tmp 5))), none⟩, ⟨(some 7), (.q (.bin .lss (.tmp 4) (.tmp 6))), none⟩, ⟨(some 8), (.q (.move (.tmp 7))), none⟩, ⟨(some 9), (.q (.move (.tmp 0))), (some (8, true))⟩, ⟨(some 10), (.q (.move (.tmp 3))), (some (8, true))⟩, ⟨(some 11), (.q (.idxStr (.tmp 9) (.tmp 10))), (some (8, true))⟩, ⟨(some 12), (.s (.call 143 [(.tmp 11)])), (some (8, true))⟩, ⟨(some 13), (.q (.pick (.tmp 8) (.tmp 12) (.const (.bool false)))), none⟩]) 
    (.cond (.tmp 13) .skip (.exit 0))) 
    (.block 1 
    (.region [⟨(some 14), (.q (.move (.tmp 3))), none⟩, ⟨(some 15), (.q (.bin .add (.tmp 14) (.const (.int .i64 1)))), none⟩, ⟨(some 3), (.q (.move (.tmp 15))), none⟩]))))) 
    (.seq 
    (.region [⟨(some 16), (.q (.move (.tmp 3))), none⟩, ⟨(some 2), (.q (.move (.tmp 16))), none⟩]) .ret))))
theorem t101 : Told Try.prog 101 17 c101 [(.tmp 2)] := ⟨Try.f101, _, [], Try.func101, rfl, by kernel_rfl, rfl, by kernel_rfl, by kernel_rfl⟩
def c40 : ACode := 
    (.seq 
    (.region [⟨(some 2), (.q (.move (.const (.bool false)))), none⟩]) 
    (.seq 
    (.region [⟨(some 3), (.q (.move (.tmp 0))), none⟩, ⟨(some 4), (.q (.bin .neq (.tmp 3) (.const (.str (B []))))), none⟩, ⟨(some 5), (.q (.move (.tmp 4))), none⟩, ⟨(some 6), (.q (.move (.tmp 0))), (some (5, true))⟩, ⟨(some 7), (.s (.call 101 [(.tmp 6)])), (some (5, true))⟩, ⟨(some 8), (.q (.move (.tmp 0))), (some (5, true))⟩, ⟨(some 9), (.q (.len true (.tmp 8))), (some (5, true))⟩, ⟨(some 10), (.q (.bin .eql (.tmp 7) (.tmp 9))), (some (5, true))⟩, ⟨(some 11), (.q (.pick (.tmp 5) (.tmp 10) (.const (.bool false)))), none⟩, ⟨(some 2), (.q (.move (.tmp 11))), none⟩]) .ret))
theorem t40 : Told Try.prog 40 12 c40 [(.tmp 2)] := ⟨Try.f40, _, [], Try.func40, rfl, by kernel_rfl, rfl, by kernel_rfl, by kernel_rfl⟩
def c174 : ACode := 
    (.seq 
    (.region [⟨(some 2), (.q (.move (.const (.bool false)))), none⟩]) 
    (.seq 
    (.region [⟨(some 3), (.q (.move (.tmp 0))), none⟩, ⟨(some 4), (.q (.bin .geq (.tmp 3) (.const (.int .u8 32)))), none⟩, ⟨(some 5), (.q (.move (.tmp 4))), none⟩, ⟨(some 6), (.q (.move (.tmp 0))), (some (5, true))⟩, ⟨(some 7), (.q (.bin .leq (.tmp 6) (.const (.int .u8 126)))), (some (5, true))⟩, ⟨(some 8), (.q (.pick (.tmp 5) (.tmp 7) (.const (.bool false)))), none⟩, ⟨(some 2), (.q (.move (.tmp 8))), none⟩]) .ret))
theorem t174 : Told Try.prog 174 9 c174 [(.tmp 2)] := ⟨Try.f174, _, [], Try.func174, rfl, by kernel_rfl, rfl, by kernel_rfl, by kernel_rfl⟩
def c139 : ACode := 
    (.seq 
    (.region [⟨(some 4), (.q (.move (.const (.str (B []))))), none⟩]) 
    (.seq 
    (.region [⟨(some 6), (.q (.move (.tmp 0))), none⟩, ⟨(some 7), (.q (.nonil (.tmp 6))), none⟩, ⟨(some 8), (.q (.fieldAddr 0 (.tmp 7))), none⟩, ⟨(some 9), (.q (.load false 1 (.tmp 8))), none⟩, ⟨(some 10), (.q (.move (.tmp 1))), none⟩, ⟨(some 11), (.q (.sliceStr (.tmp 9) none (some (.tmp 10)))), none⟩, ⟨(some 5), (.q (.move (.tmp 11))), none⟩]) 
    (.seq 
    (.region [⟨(some 12), (.q (.move (.tmp 0))), none⟩, ⟨(some 13), (.q (.nonil (.tmp 12))), none⟩, ⟨(some 14), (.q (.fieldAddr 1 (.tmp 13))), none⟩, ⟨(some 15), (.q (.load false 1 (.tmp 14))), none⟩, ⟨(some 16), (.q (.move (.tmp 5))), none⟩, ⟨(some 17), (.c (.fn 169) [(.tmp 16), (.const (.str (B [10])))]), none⟩, ⟨(some 18), (.q (.bin .add (.tmp 15) (.tmp 17))), none⟩, ⟨(some 19), (.q (.nonil (.tmp 12))), none⟩, ⟨(some 20), (.q (.fieldAddr 1 (.tmp 19))), none⟩, ⟨none, (.s (.store 1 (.tmp 20) (.tmp 18))), none⟩]) 
    (.seq 
    (.region [⟨(some 21), (.q (.move (.tmp 0))), none⟩, ⟨(some 22), (.q (.move (.tmp 0))), none⟩, ⟨(some 23), (.q (.nonil (.tmp 22))), none⟩, ⟨(some 24), (.q (.fieldAddr 0 (.tmp 23))), none⟩, ⟨(some 25), (.q (.load false 1 (.tmp 24))), none⟩, ⟨(some 26), (.q (.move (.tmp 1))), none⟩, ⟨(some 27), (.q (.sliceStr (.tmp 25) (some (.tmp 26)) none)), none⟩, ⟨(some 28), (.q (.nonil (.tmp 21))), none⟩, ⟨(some 29), (.q (.fieldAddr 0 (.tmp 28))), none⟩, ⟨none, (.s (.store 1 (.tmp 29) (.tmp 27))), none⟩]) 
    (.seq 
    (.region [⟨(some 30), (.q (.move (.tmp 5))), none⟩, ⟨(some 4), (.q (.move (.tmp 30))), none⟩]) .ret)))))
theorem t139 : Told Try.prog 139 31 c139 [(.tmp 4)] := ⟨Try.f139, _, [], Try.func139, rfl, by kernel_rfl, rfl, by kernel_rfl, by kernel_rfl⟩
def c95 : ACode := 
    (.seq 
    (.region [⟨(some 2), (.q (.move (.const (.bool false)))), none⟩]) 
    (.seq .skip 
    (.seq 
    (.block 0 
    (.loop 
    (.seq 
    (.seq 
    (.region [⟨(some 7), (.q (.move (.tmp 0))), none⟩, ⟨(some 8), (.q (.nonil (.tmp 7))), none⟩, ⟨(some 9), (.q (.fieldAddr 0 (.tmp 8))), none⟩, ⟨(some 10), (.q (.load false 1 (.tmp 9))), none⟩, ⟨(some 11), (.q (.bin .neq (.tmp 10) (.const (.str (B []))))), none⟩]) 
    (.cond (.tmp 11) .skip (.exit 0))) 
    (.block 1 
    (.seq 
    (.block 2 
    (.seq 
    (.region [⟨(some 13), (.q (.move (.tmp 0))), none⟩, ⟨(some 14), (.q (.nonil (.tmp 13))), none⟩, ⟨(some 15), (.q (.fieldAddr 0 (.tmp 14))), none⟩, ⟨(some 16), (.q (.load false 1 (.tmp 15))), none⟩, ⟨(some 17), (.q (.idxStr (.tmp 16) (.const (.int .i64 0)))), none⟩, ⟨(some 18), (.s (.call 138 [(.const (.str (B [32, 9, 10, 13]))), (.tmp 17)])), none⟩, ⟨(some 19), (.q (.bin .geq (.tmp 18) (.const (.int .i64 0)))), none⟩, ⟨(some 12), (.q (.move (.tmp 19))), none⟩]) 
    (.cond (.tmp 12) 
    (.seq 
    (.region [⟨(some 20), (.q (.move (.tmp 0))), none⟩, ⟨(some 21), (.s (.call 139 [(.tmp 20), (.const (.int .i64 1))])), none⟩]) (.exit 1)) 
    (.seq 
    (.region [⟨(some 23), (.q (.move (.tmp 0))), none⟩, ⟨(some 24), (.q (.nonil (.tmp 23))), none⟩, ⟨(some 25), (.q (.fieldAddr 0 (.tmp 24))), none⟩, ⟨(some 26), (.q (.load false 1 (.tmp 25))), none⟩, ⟨(some 27), (.s (.call 140 [(.tmp 26), (.const (.str (B [47, 47])))])), none⟩, ⟨(some 22), (.q (.move (.tmp 27))), none⟩]) 
    (.cond (.tmp 22) 
    (.seq 
    (.region [⟨(some 29), (.q (.move (.tmp 0))), none⟩, ⟨(some 30), (.q (.nonil (.tmp 29))), none⟩, ⟨(some 31), (.q (.fieldAddr 0 (.tmp 30))), none⟩, ⟨(some 32), (.q (.load false 1 (.tmp 31))), none⟩, ⟨(some 33), (.s (.call 111 [(.tmp 32), (.const (.str (B [10])))])), none⟩, ⟨(some 28), (.q (.move (.tmp 33))), none⟩, ⟨(some 34), (.q (.extract 0 (.tmp 28))), none⟩, ⟨(some 35), (.q (.extract 1 (.tmp 28))), none⟩, ⟨(some 36), (.q (.extract 2 (.tmp 28))), none⟩, ⟨(some 3), (.q (.move (.tmp 34))), none⟩, ⟨(some 4), (.q (.move (.tmp 35))), none⟩, ⟨(some 5), (.q (.move (.tmp 36))), none⟩]) 
    (.seq 
    (.region [⟨(some 37), (.q (.move (.tmp 0))), none⟩, ⟨(some 38), (.q (.move (.tmp 3))), none⟩, ⟨(some 39), (.q (.len true (.tmp 38))), none⟩, ⟨(some 40), (.s (.call 139 [(.tmp 37), (.tmp 39)])), none⟩]) (.exit 1))) 
    (.seq 
    (.region [⟨(some 42), (.q (.move (.tmp 0))), none⟩, ⟨(some 43), (.q (.nonil (.tmp 42))), none⟩, ⟨(some 44), (.q (.fieldAddr 0 (.tmp 43))), none⟩, ⟨(some 45), (.q (.load false 1 (.tmp 44))), none⟩, ⟨(some 46), (.s (.call 140 [(.tmp 45), (.const (.str (B [47, 42])))])), none⟩, ⟨(some 41), (.q (.move (.tmp 46))), none⟩]) 
    (.cond (.tmp 41) 
    (.seq 
    (.region [⟨(some 47), (.q (.move (.tmp 0))), none⟩, ⟨(some 48), (.q (.nonil (.tmp 47))), none⟩, ⟨(some 49), (.q (.fieldAddr 0 (.tmp 48))), none⟩, ⟨(some 50), (.q (.load false 1 (.tmp 49))), none⟩, ⟨(some 51), (.q (.sliceStr (.tmp 50) (some (.const (.int .i64 2))) none)), none⟩, ⟨(some 52), (.s (.call 141 [(.tmp 51), (.const (.str (B [42, 47])))])), none⟩, ⟨(some 6), (.q (.move (.tmp 52))), none⟩]) 
    (.seq 
    (.seq 
    (.region [⟨(some 53), (.q (.move (.tmp 6))), none⟩, ⟨(some 54), (.q (.bin .lss (.tmp 53) (.const (.int .i64 0)))), none⟩]) 
    (.cond (.tmp 54) 
    (.seq 
    (.region [⟨(some 2), (.q (.move (.const (.bool false)))), none⟩]) .ret) .skip)) 
    (.seq 
    (.region [⟨(some 55), (.q (.move (.tmp 0))), none⟩, ⟨(some 56), (.q (.move (.tmp 6))), none⟩, ⟨(some 57), (.q (.bin .add (.const (.int .i64 2)) (.tmp 56))), none⟩, ⟨(some 58), (.q (.bin .add (.tmp 57) (.const (.int .i64 2)))), none⟩, ⟨(some 59), (.s (.call 139 [(.tmp 55), (.tmp 58)])), none⟩]) (.exit 1)))) .skip))))))) (.exit 0)))))) 
    (.seq 
    (.region [⟨(some 2), (.q (.move (.const (.bool true)))), none⟩]) .ret))))
theorem t95 : Told Try.prog 95 60 c95 [(.tmp 2)] := ⟨Try.f95, _, [], Try.func95, rfl, by kernel_rfl, rfl, by kernel_rfl, by kernel_rfl⟩
def c172 : ACode := 
    (.seq 
    (.region [⟨(some 2), (.q (.move (.const (.int .u8 0)))), none⟩, ⟨(some 3), (.q (.move (.const (.int .i64 0)))), none⟩]) 
    (.seq 
    (.region [⟨(some 7), (.q (.move (.tmp 0))), none⟩, ⟨(some 8), (.q (.idxStr (.tmp 7) (.const (.int .i64 0)))), none⟩, ⟨(some 4), (.q (.move (.tmp 8))), none⟩]) 
    (.seq 
    (.block 0 
    (.seq 
    (.region [⟨(some 10), (.q (.move (.tmp 4))), none⟩, ⟨(some 11), (.s (.call 174 [(.tmp 10)])), none⟩, ⟨(some 12), (.q (.un .not (.tmp 11))), none⟩, ⟨(some 9), (.q (.move (.tmp 12))), none⟩]) 
    (.cond (.tmp 9) 
    (.seq 
    (.region [⟨(some 2), (.q (.move (.const (.int .u8 0)))), none⟩, ⟨(some 3), (.q (.move (.const (.int .i64 0)))), none⟩]) .ret) 
    (.seq 
    (.region [⟨(some 14), (.q (.move (.tmp 4))), none⟩, ⟨(some 15), (.q (.bin .neq (.tmp 14) (.const (.int .u8 92)))), none⟩, ⟨(some 13), (.q (.move (.tmp 15))), none⟩]) 
    (.cond (.tmp 13) 
    (.seq 
    (.region [⟨(some 16), (.q (.move (.tmp 4))), none⟩, ⟨(some 2), (.q (.move (.tmp 16))), none⟩, ⟨(some 3), (.q (.move (.const (.int .i64 1)))), none⟩]) .ret) 
    (.seq 
    (.region [⟨(some 18), (.q (.move (.tmp 0))), none⟩, ⟨(some 19), (.q (.len true (.tmp 18))), none⟩, ⟨(some 20), (.q (.bin .gtr (.tmp 19) (.const (.int .i64 1)))), none⟩, ⟨(some 21), (.q (.move (.tmp 20))), none⟩, ⟨(some 22), (.q (.move (.tmp 0))), (some (21, true))⟩, ⟨(some 23), (.q (.idxStr (.tmp 22) (.const (.int .i64 1)))), (some (21, true))⟩, ⟨(some 24), (.q (.bin .eql (.tmp 23) (.const (.int .u8 34)))), (some (21, true))⟩, ⟨(some 25), (.q (.move (.tmp 24))), (some (21, true))⟩, ⟨(some 26), (.q (.move (.tmp 0))), (some (25, false))⟩, ⟨(some 27), (.q (.idxStr (.tmp 26) (.const (.int .i64 1)))), (some (25, false))⟩, ⟨(some 28), (.q (.bin .eql (.tmp 27) (.const (.int .u8 92)))), (some (25, false))⟩, ⟨(some 29), (.q (.pick (.tmp 25) (.const (.bool true)) (.tmp 28))), (some (21, true))⟩, ⟨(some 30), (.q (.pick (.tmp 21) (.tmp 29) (.const (.bool false)))), none⟩, ⟨(some 17), (.q (.move (.tmp 30))), none⟩]) 
    (.cond (.tmp 17) 
    (.seq 
    (.region [⟨(some 31), (.q (.move (.tmp 0))), none⟩, ⟨(some 32), (.q (.idxStr (.tmp 31) (.const (.int .i64 1)))), none⟩, ⟨(some 2), (.q (.move (.tmp 32))), none⟩, ⟨(some 3), (.q (.move (.const (.int .i64 2)))), none⟩]) .ret) 
    (.seq 
    (.region [⟨(some 34), (.q (.move (.tmp 0))), none⟩, ⟨(some 35), (.q (.len true (.tmp 34))), none⟩, ⟨(some 36), (.q (.bin .gtr (.tmp 35) (.const (.int .i64 3)))), none⟩, ⟨(some 37), (.q (.move (.tmp 36))), none⟩, ⟨(some 38), (.q (.move (.tmp 0))), (some (37, true))⟩, ⟨(some 39), (.q (.idxStr (.tmp 38) (.const (.int .i64 1)))), (some (37, true))⟩, ⟨(some 40), (.q (.bin .eql (.tmp 39) (.const (.int .u8 120)))), (some (37, true))⟩, ⟨(some 41), (.q (.pick (.tmp 37) (.tmp 40) (.const (.bool false)))), none⟩, ⟨(some 33), (.q (.move (.tmp 41))), none⟩]) 
    (.cond (.tmp 33) 
    (.seq 
    (.region [⟨(some 43), (.q (.move (.tmp 0))), none⟩, ⟨(some 44), (.q (.sliceStr (.tmp 43) (some (.const (.int .i64 2))) (some (.const (.int .i64 4))))), none⟩, ⟨(some 45), (.s (.call 187 [(.tmp 44)])), none⟩, ⟨(some 42), (.q (.move (.tmp 45))), none⟩, ⟨(some 46), (.q (.extract 0 (.tmp 42))), none⟩, ⟨(some 47), (.q (.extract 1 (.tmp 42))), none⟩, ⟨(some 5), (.q (.move (.tmp 46))), none⟩, ⟨(some 6), (.q (.move (.tmp 47))), none⟩]) 
    (.seq 
    (.region [⟨(some 48), (.q (.move (.tmp 6))), none⟩, ⟨(some 49), (.q (.move (.tmp 48))), none⟩, ⟨(some 50), (.q (.move (.tmp 5))), (some (49, true))⟩, ⟨(some 51), (.q (.bin .neq (.tmp 50) (.const (.str (B [0]))))), (some (49, true))⟩, ⟨(some 52), (.q (.pick (.tmp 49) (.tmp 51) (.const (.bool false)))), none⟩]) 
    (.cond (.tmp 52) 
    (.seq 
    (.region [⟨(some 53), (.q (.move (.tmp 5))), none⟩, ⟨(some 54), (.q (.idxStr (.tmp 53) (.const (.int .i64 0)))), none⟩, ⟨(some 2), (.q (.move (.tmp 54))), none⟩, ⟨(some 3), (.q (.move (.const (.int .i64 4)))), none⟩]) .ret) .skip))) .skip))))))))) 
    (.seq 
    (.region [⟨(some 2), (.q (.move (.const (.int .u8 0)))), none⟩, ⟨(some 3), (.q (.move (.const (.int .i64 0)))), none⟩]) .ret))))
theorem t172 : Told Try.prog 172 55 c172 [(.tmp 2), (.tmp 3)] := ⟨Try.f172, _, [], Try.func172, rfl, by kernel_rfl, rfl, by kernel_rfl, by kernel_rfl⟩
def c142 : ACode := 
    (.seq 
    (.region [⟨(some 2), (.q (.move (.const (.str (B []))))), none⟩, ⟨(some 3), (.q (.move (.const (.bool false)))), none⟩]) 
    (.seq 
    (.region [⟨(some 4), (.q (.move (.const .nils))), none⟩]) 
    (.seq 
    (.region [⟨(some 8), (.q (.move (.tmp 0))), none⟩, ⟨(some 9), (.q (.nonil (.tmp 8))), none⟩, ⟨(some 10), (.q (.fieldAddr 0 (.tmp 9))), none⟩, ⟨(some 11), (.q (.load false 1 (.tmp 10))), none⟩, ⟨(some 12), (.q (.sliceStr (.tmp 11) (some (.const (.int .i64 1))) none)), none⟩, ⟨(some 5), (.q (.move (.tmp 12))), none⟩]) 
    (.seq 
    (.block 0 
    (.loop 
    (.seq 
    (.seq 
    (.region [⟨(some 13), (.q (.move (.tmp 5))), none⟩, ⟨(some 14), (.q (.bin .neq (.tmp 13) (.const (.str (B []))))), none⟩, ⟨(some 15), (.q (.move (.tmp 14))), none⟩, ⟨(some 16), (.q (.move (.tmp 5))), (some (15, true))⟩, ⟨(some 17), (.q (.idxStr (.tmp 16) (.const (.int .i64 0)))), (some (15, true))⟩, ⟨(some 18), (.q (.bin .neq (.tmp 17) (.const (.int .u8 34)))), (some (15, true))⟩, ⟨(some 19), (.q (.pick (.tmp 15) (.tmp 18) (.const (.bool false)))), none⟩]) 
    (.cond (.tmp 19) .skip (.exit 0))) 
    (.block 1 
    (.seq 
    (.region [⟨(some 21), (.q (.move (.tmp 5))), none⟩, ⟨(some 22), (.s (.call 172 [(.tmp 21)])), none⟩, ⟨(some 20), (.q (.move (.tmp 22))), none⟩, ⟨(some 23), (.q (.extract 0 (.tmp 20))), none⟩, ⟨(some 24), (.q (.extract 1 (.tmp 20))), none⟩, ⟨(some 6), (.q (.move (.tmp 23))), none⟩, ⟨(some 7), (.q (.move (.tmp 24))), none⟩]) 
    (.seq 
    (.seq 
    (.region [⟨(some 25), (.q (.move (.tmp 7))), none⟩, ⟨(some 26), (.q (.bin .eql (.tmp 25) (.const (.int .i64 0)))), none⟩]) 
    (.cond (.tmp 26) 
    (.seq 
    (.region [⟨(some 2), (.q (.move (.const (.str (B []))))), none⟩, ⟨(some 3), (.q (.move (.const (.bool false)))), none⟩]) .ret) .skip)) 
    (.region [⟨(some 27), (.q (.move (.tmp 4))), none⟩, ⟨(some 28), (.q (.move (.tmp 6))), none⟩, ⟨(some 29), (.s (.lit 5 1 [(.tmp 28)])), none⟩, ⟨(some 31), (.q (.move (.tmp 5))), none⟩, ⟨(some 32), (.q (.move (.tmp 7))), none⟩, ⟨(some 33), (.q (.sliceStr (.tmp 31) (some (.tmp 32)) none)), none⟩, ⟨(some 30), (.s (.app 5 1 1 (.tmp 27) (.tmp 29))), none⟩, ⟨(some 4), (.q (.move (.tmp 30))), none⟩, ⟨(some 5), (.q (.move (.tmp 33))), none⟩]))))))) 
    (.seq 
    (.seq 
    (.region [⟨(some 34), (.q (.move (.tmp 5))), none⟩, ⟨(some 35), (.q (.bin .eql (.tmp 34) (.const (.str (B []))))), none⟩]) 
    (.cond (.tmp 35) 
    (.seq 
    (.region [⟨(some 2), (.q (.move (.const (.str (B []))))), none⟩, ⟨(some 3), (.q (.move (.const (.bool false)))), none⟩]) .ret) .skip)) 
    (.seq 
    (.region [⟨(some 36), (.q (.move (.tmp 0))), none⟩, ⟨(some 37), (.q (.move (.tmp 5))), none⟩, ⟨(some 38), (.q (.sliceStr (.tmp 37) (some (.const (.int .i64 1))) none)), none⟩, ⟨(some 39), (.q (.nonil (.tmp 36))), none⟩, ⟨(some 40), (.q (.fieldAddr 0 (.tmp 39))), none⟩, ⟨none, (.s (.store 1 (.tmp 40) (.tmp 38))), none⟩]) 
    (.seq 
    (.region [⟨(some 41), (.q (.move (.tmp 4))), none⟩, ⟨(some 42), (.q (.b2s (.tmp 41))), none⟩, ⟨(some 2), (.q (.move (.tmp 42))), none⟩, ⟨(some 3), (.q (.move (.const (.bool true)))), none⟩]) .ret)))))))
theorem t142 : Told Try.prog 142 43 c142 [(.tmp 2), (.tmp 3)] := ⟨Try.f142, _, [], Try.func142, rfl, by kernel_rfl, rfl, by kernel_rfl, by kernel_rfl⟩
def c96 : ACode := 
    (.seq 
    (.region [⟨(some 2), (.s (.alloc 80 [(.int .i64 0), (.str (B [])), (.int .i64 0)])), none⟩, ⟨(some 3), (.q (.move (.const (.bool false)))), none⟩]) 
    (.seq 
    (.region [⟨(some 7), (.q (.move (.tmp 0))), none⟩, ⟨(some 8), (.q (.nonil (.tmp 7))), none⟩, ⟨(some 9), (.q (.fieldAddr 1 (.tmp 8))), none⟩, ⟨(some 10), (.q (.load false 1 (.tmp 9))), none⟩, ⟨(some 11), (.q (.build [(.int .i64 0), (.str (B [])), (.int .i64 0)] [(2, (1, (.tmp 10)))])), none⟩, ⟨(some 4), (.s (.alloc 80 [(.int .i64 0), (.str (B [])), (.int .i64 0)])), none⟩, ⟨none, (.s (.store 3 (.tmp 4) (.tmp 11))), none⟩]) 
    (.seq 
    (.region [⟨(some 5), (.q (.move (.const (.bool true)))), none⟩]) 
    (.seq 
    (.seq 
    (.region [⟨(some 12), (.q (.move (.tmp 0))), none⟩, ⟨(some 13), (.q (.nonil (.tmp 12))), none⟩, ⟨(some 14), (.q (.fieldAddr 0 (.tmp 13))), none⟩, ⟨(some 15), (.q (.load false 1 (.tmp 14))), none⟩, ⟨(some 16), (.q (.idxStr (.tmp 15) (.const (.int .i64 0)))), none⟩, ⟨(some 6), (.q (.move (.tmp 16))), none⟩]) 
    (.block 0 
    (.seq 
    (.region [⟨(some 18), (.q (.move (.tmp 6))), none⟩, ⟨(some 19), (.q (.bin .eql (.tmp 18) (.const (.int .u8 34)))), none⟩, ⟨(some 17), (.q (.move (.tmp 19))), none⟩]) 
    (.cond (.tmp 17) 
    (.seq 
    (.region [⟨(some 20), (.q (.fieldAddr 0 (.tmp 4))), none⟩, ⟨none, (.s (.store 1 (.tmp 20) (.const (.int .i64 2)))), none⟩]) 
    (.region [⟨(some 22), (.q (.move (.tmp 0))), none⟩, ⟨(some 23), (.s (.call 142 [(.tmp 22)])), none⟩, ⟨(some 21), (.q (.move (.tmp 23))), none⟩, ⟨(some 24), (.q (.extract 0 (.tmp 21))), none⟩, ⟨(some 25), (.q (.extract 1 (.tmp 21))), none⟩, ⟨(some 26), (.q (.fieldAddr 1 (.tmp 4))), none⟩, ⟨none, (.s (.store 1 (.tmp 26) (.tmp 24))), none⟩, ⟨(some 5), (.q (.move (.tmp 25))), none⟩])) 
    (.seq 
    (.region [⟨(some 28), (.q (.move (.tmp 6))), none⟩, ⟨(some 29), (.s (.call 138 [(.const (.str (B [123, 125, 60, 62, 91, 93, 61, 59, 58, 38, 47]))), (.tmp 28)])), none⟩, ⟨(some 30), (.q (.bin .geq (.tmp 29) (.const (.int .i64 0)))), none⟩, ⟨(some 27), (.q (.move (.tmp 30))), none⟩]) 
    (.cond (.tmp 27) 
    (.region [⟨(some 31), (.q (.move (.tmp 0))), none⟩, ⟨(some 32), (.s (.call 139 [(.tmp 31), (.const (.int .i64 1))])), none⟩, ⟨(some 33), (.q (.fieldAddr 0 (.tmp 4))), none⟩, ⟨none, (.s (.store 1 (.tmp 33) (.const (.int .i64 3)))), none⟩, ⟨(some 34), (.q (.fieldAddr 1 (.tmp 4))), none⟩, ⟨none, (.s (.store 1 (.tmp 34) (.tmp 32))), none⟩]) 
    (.seq 
    (.region [⟨(some 36), (.q (.move (.tmp 6))), none⟩, ⟨(some 37), (.s (.call 143 [(.tmp 36)])), none⟩, ⟨(some 35), (.q (.move (.tmp 37))), none⟩]) 
    (.cond (.tmp 35) 
    (.region [⟨(some 38), (.q (.move (.tmp 0))), none⟩, ⟨(some 39), (.q (.move (.tmp 0))), none⟩, ⟨(some 40), (.q (.nonil (.tmp 39))), none⟩, ⟨(some 41), (.q (.fieldAddr 0 (.tmp 40))), none⟩, ⟨(some 42), (.q (.load false 1 (.tmp 41))), none⟩, ⟨(some 43), (.s (.call 101 [(.tmp 42)])), none⟩, ⟨(some 44), (.s (.call 139 [(.tmp 38), (.tmp 43)])), none⟩, ⟨(some 45), (.q (.fieldAddr 0 (.tmp 4))), none⟩, ⟨none, (.s (.store 1 (.tmp 45) (.const (.int .i64 1)))), none⟩, ⟨(some 46), (.q (.fieldAddr 1 (.tmp 4))), none⟩, ⟨none, (.s (.store 1 (.tmp 46) (.tmp 44))), none⟩]) 
    (.region [⟨(some 5), (.q (.move (.const (.bool false)))), none⟩]))))))))) 
    (.seq 
    (.region [⟨(some 47), (.q (.load true 3 (.tmp 4))), none⟩, ⟨(some 48), (.q (.move (.tmp 5))), none⟩, ⟨none, (.s (.store 3 (.tmp 2) (.tmp 47))), none⟩, ⟨(some 3), (.q (.move (.tmp 48))), none⟩]) .ret)))))
theorem t96 : Told Try.prog 96 49 c96 [(.cell 2 true 3), (.tmp 3)] := ⟨Try.f96, _, [], Try.func96, rfl, by kernel_rfl, rfl, by kernel_rfl, by kernel_rfl⟩
def c37 : ACode := 
    (.seq 
    (.region [⟨(some 2), (.q (.move (.const .nils))), none⟩, ⟨(some 3), (.q (.move (.const (.int .i64 0)))), none⟩, ⟨(some 4), (.q (.move (.const (.int .i64 0)))), none⟩]) 
    (.seq 
    (.region [⟨(some 9), (.q (.move (.tmp 0))), none⟩, ⟨(some 10), (.q (.build [(.str (B [])), (.int .i64 0)] [(0, (1, (.tmp 9))), (1, (1, (.const (.int .i64 1))))])), none⟩, ⟨(some 11), (.s (.box 130 (.tmp 10))), none⟩, ⟨(some 5), (.q (.move (.tmp 11))), none⟩]) 
    (.seq 
    (.region [⟨(some 6), (.q (.move (.const .nils))), none⟩]) 
    (.seq 
    (.block 0 
    (.loop 
    (.seq 
    (.seq 
    (.region [⟨(some 12), (.q (.move (.tmp 5))), none⟩, ⟨(some 13), (.s (.call 95 [(.tmp 12)])), none⟩]) 
    (.cond (.tmp 13) .skip (.exit 0))) 
    (.block 1 
    (.seq 
    (.seq 
    (.region [⟨(some 14), (.q (.move (.tmp 5))), none⟩, ⟨(some 15), (.q (.nonil (.tmp 14))), none⟩, ⟨(some 16), (.q (.fieldAddr 0 (.tmp 15))), none⟩, ⟨(some 17), (.q (.load false 1 (.tmp 16))), none⟩, ⟨(some 18), (.q (.bin .eql (.tmp 17) (.const (.str (B []))))), none⟩]) 
    (.cond (.tmp 18) 
    (.seq 
    (.region [⟨(some 19), (.q (.move (.tmp 6))), none⟩, ⟨(some 2), (.q (.move (.tmp 19))), none⟩, ⟨(some 3), (.q (.move (.const (.int .i64 0)))), none⟩, ⟨(some 4), (.q (.move (.const (.int .i64 0)))), none⟩]) .ret) .skip)) 
    (.seq 
    (.seq 
    (.region [⟨(some 20), (.q (.move (.tmp 6))), none⟩, ⟨(some 21), (.q (.len false (.tmp 20))), none⟩, ⟨(some 22), (.q (.bin .eql (.tmp 21) (.const (.int .i64 4096)))), none⟩]) 
    (.cond (.tmp 22) 
    (.seq 
    (.region [⟨(some 23), (.q (.move (.tmp 5))), none⟩, ⟨(some 24), (.q (.nonil (.tmp 23))), none⟩, ⟨(some 25), (.q (.fieldAddr 1 (.tmp 24))), none⟩, ⟨(some 26), (.q (.load false 1 (.tmp 25))), none⟩, ⟨(some 2), (.q (.move (.const .nils))), none⟩, ⟨(some 3), (.q (.move (.tmp 26))), none⟩, ⟨(some 4), (.q (.move (.const (.int .i64 7)))), none⟩]) .ret) .skip)) 
    (.seq 
    (.region [⟨(some 28), (.q (.move (.tmp 5))), none⟩, ⟨(some 29), (.s (.call 96 [(.tmp 28)])), none⟩, ⟨(some 27), (.q (.move (.tmp 29))), none⟩, ⟨(some 30), (.q (.extract 0 (.tmp 27))), none⟩, ⟨(some 31), (.q (.extract 1 (.tmp 27))), none⟩, ⟨(some 7), (.s (.alloc 80 [(.int .i64 0), (.str (B [])), (.int .i64 0)])), none⟩, ⟨none, (.s (.store 3 (.tmp 7) (.tmp 30))), none⟩, ⟨(some 8), (.q (.move (.tmp 31))), none⟩]) 
    (.seq 
    (.seq 
    (.region [⟨(some 32), (.q (.move (.tmp 8))), none⟩, ⟨(some 33), (.q (.un .not (.tmp 32))), none⟩]) 
    (.cond (.tmp 33) (.exit 0) .skip)) 
    (.region [⟨(some 34), (.q (.move (.tmp 6))), none⟩, ⟨(some 35), (.q (.load true 3 (.tmp 7))), none⟩, ⟨(some 36), (.s (.lit 80 3 [(.tmp 35)])), none⟩, ⟨(some 37), (.s (.app 80 3 32 (.tmp 34) (.tmp 36))), none⟩, ⟨(some 6), (.q (.move (.tmp 37))), none⟩]))))))))) 
    (.seq 
    (.region [⟨(some 38), (.q (.move (.tmp 5))), none⟩, ⟨(some 39), (.q (.nonil (.tmp 38))), none⟩, ⟨(some 40), (.q (.fieldAddr 1 (.tmp 39))), none⟩, ⟨(some 41), (.q (.load false 1 (.tmp 40))), none⟩, ⟨(some 2), (.q (.move (.const .nils))), none⟩, ⟨(some 3), (.q (.move (.tmp 41))), none⟩, ⟨(some 4), (.q (.move (.const (.int .i64 6)))), none⟩]) .ret)))))
theorem t37 : Told Try.prog 37 42 c37 [(.tmp 2), (.tmp 3), (.tmp 4)] := ⟨Try.f37, _, [], Try.func37, rfl, by kernel_rfl, rfl, by kernel_rfl, by kernel_rfl⟩
def c146 : ACode := 
    (.seq 
    (.region [⟨(some 2), (.q (.move (.const (.str (B []))))), none⟩]) 
    (.seq 
    (.region [⟨(some 6), (.s (.litw 5 1 [(.const (.int .u8 34))])), none⟩, ⟨(some 3), (.q (.move (.tmp 6))), none⟩]) 
    (.seq 
    (.seq 
    (.region [⟨(some 7), (.q (.move (.tmp 0))), none⟩, ⟨(some 8), (.s (.s2b 5 (.tmp 7))), none⟩, ⟨(some 9), (.q (.len false (.tmp 8))), none⟩, ⟨(some 10), (.q (.move (.const (.int .i64 0)))), none⟩]) 
    (.block 0 
    (.loop 
    (.seq 
    (.region [⟨(some 11), (.q (.bin .lss (.tmp 10) (.tmp 9))), none⟩]) 
    (.seq 
    (.cond (.tmp 11) .skip (.exit 0)) 
    (.seq 
    (.block 1 
    (.seq 
    (.region [⟨(some 12), (.q (.idxSl 1 (.tmp 8) (.tmp 10))), none⟩, ⟨(some 13), (.q (.load false 1 (.tmp 12))), none⟩, ⟨(some 5), (.q (.move (.tmp 13))), none⟩]) 
    (.block 2 
    (.seq 
    (.region [⟨(some 24), (.q (.move (.tmp 5))), none⟩, ⟨(some 25), (.q (.bin .eql (.tmp 24) (.const (.int .u8 34)))), none⟩, ⟨(some 26), (.q (.move (.tmp 25))), none⟩, ⟨(some 27), (.q (.move (.tmp 5))), (some (26, false))⟩, ⟨(some 28), (.q (.bin .eql (.tmp 27) (.const (.int .u8 92)))), (some (26, false))⟩, ⟨(some 29), (.q (.pick (.tmp 26) (.const (.bool true)) (.tmp 28))), none⟩, ⟨(some 23), (.q (.move (.tmp 29))), none⟩]) 
    (.cond (.tmp 23) 
    (.region [⟨(some 30), (.q (.move (.tmp 3))), none⟩, ⟨(some 31), (.q (.move (.tmp 5))), none⟩, ⟨(some 32), (.s (.lit 5 1 [(.const (.int .u8 92)), (.tmp 31)])), none⟩, ⟨(some 33), (.s (.app 5 1 1 (.tmp 30) (.tmp 32))), none⟩, ⟨(some 3), (.q (.move (.tmp 33))), none⟩]) 
    (.seq 
    (.region [⟨(some 35), (.q (.move (.tmp 5))), none⟩, ⟨(some 36), (.s (.call 174 [(.tmp 35)])), none⟩, ⟨(some 34), (.q (.move (.tmp 36))), none⟩]) 
    (.cond (.tmp 34) 
    (.region [⟨(some 37), (.q (.move (.tmp 3))), none⟩, ⟨(some 38), (.q (.move (.tmp 5))), none⟩, ⟨(some 39), (.s (.lit 5 1 [(.tmp 38)])), none⟩, ⟨(some 40), (.s (.app 5 1 1 (.tmp 37) (.tmp 39))), none⟩, ⟨(some 3), (.q (.move (.tmp 40))), none⟩]) 
    (.seq 
    (.region [⟨(some 14), (.q (.move (.tmp 3))), none⟩, ⟨(some 15), (.s (.lit 5 1 [(.const (.int .u8 92)), (.const (.int .u8 120))])), none⟩, ⟨(some 16), (.s (.app 5 1 1 (.tmp 14) (.tmp 15))), none⟩, ⟨(some 3), (.q (.move (.tmp 16))), none⟩]) 
    (.region [⟨(some 17), (.q (.move (.tmp 3))), none⟩, ⟨(some 18), (.q (.move (.tmp 5))), none⟩, ⟨(some 19), (.s (.lit 5 1 [(.tmp 18)])), none⟩, ⟨(some 20), (.q (.b2s (.tmp 19))), none⟩, ⟨(some 21), (.s (.call 175 [(.tmp 20)])), none⟩, ⟨(some 22), (.s (.app 5 1 1 (.tmp 17) (.tmp 21))), none⟩, ⟨(some 3), (.q (.move (.tmp 22))), none⟩]))))))))) 
    (.region [⟨(some 41), (.q (.bin .add (.tmp 10) (.const (.int .i64 1)))), none⟩, ⟨(some 10), (.q (.move (.tmp 41))), none⟩]))))))) 
    (.seq 
    (.region [⟨(some 42), (.q (.move (.tmp 3))), none⟩, ⟨(some 43), (.s (.lit 5 1 [(.const (.int .u8 34))])), none⟩, ⟨(some 44), (.s (.app 5 1 1 (.tmp 42) (.tmp 43))), none⟩, ⟨(some 45), (.q (.b2s (.tmp 44))), none⟩, ⟨(some 2), (.q (.move (.tmp 45))), none⟩]) .ret))))
theorem t146 : Told Try.prog 146 46 c146 [(.tmp 2)] := ⟨Try.f146, _, [6], Try.func146, rfl, by kernel_rfl, rfl, by kernel_rfl, by kernel_rfl⟩
def c102 : ACode := 
    (.seq 
    (.region [⟨(some 1), (.s (.box 80 (.tmp 0))), none⟩, ⟨(some 2), (.q (.move (.const (.str (B []))))), none⟩, ⟨(some 3), (.q (.move (.const (.bool false)))), none⟩]) 
    (.seq 
    (.seq 
    (.region [⟨(some 4), (.q (.fieldAddr 0 (.tmp 1))), none⟩, ⟨(some 5), (.q (.load false 1 (.tmp 4))), none⟩]) 
    (.block 0 
    (.seq 
    (.region [⟨(some 7), (.q (.bin .eql (.tmp 5) (.const (.int .i64 1)))), none⟩, ⟨(some 6), (.q (.move (.tmp 7))), none⟩]) 
    (.cond (.tmp 6) 
    (.seq 
    (.region [⟨(some 8), (.q (.fieldAddr 1 (.tmp 1))), none⟩, ⟨(some 9), (.q (.load false 1 (.tmp 8))), none⟩, ⟨(some 10), (.q (.fieldAddr 1 (.tmp 1))), none⟩, ⟨(some 11), (.q (.load false 1 (.tmp 10))), none⟩, ⟨(some 12), (.c (.fn 40) [(.tmp 11)]), none⟩, ⟨(some 2), (.q (.move (.tmp 9))), none⟩, ⟨(some 3), (.q (.move (.tmp 12))), none⟩]) .ret) 
    (.seq 
    (.region [⟨(some 14), (.q (.bin .eql (.tmp 5) (.const (.int .i64 2)))), none⟩, ⟨(some 13), (.q (.move (.tmp 14))), none⟩]) 
    (.cond (.tmp 13) 
    (.seq 
    (.region [⟨(some 15), (.q (.fieldAddr 1 (.tmp 1))), none⟩, ⟨(some 16), (.q (.load false 1 (.tmp 15))), none⟩, ⟨(some 17), (.c (.fn 146) [(.tmp 16)]), none⟩, ⟨(some 18), (.q (.fieldAddr 1 (.tmp 1))), none⟩, ⟨(some 19), (.q (.load false 1 (.tmp 18))), none⟩, ⟨(some 20), (.s (.call 147 [(.tmp 19), (.const (.str (B [0])))])), none⟩, ⟨(some 21), (.q (.un .not (.tmp 20))), none⟩, ⟨(some 2), (.q (.move (.tmp 17))), none⟩, ⟨(some 3), (.q (.move (.tmp 21))), none⟩]) .ret) 
    (.seq 
    (.region [⟨(some 23), (.q (.bin .eql (.tmp 5) (.const (.int .i64 3)))), none⟩, ⟨(some 22), (.q (.move (.tmp 23))), none⟩]) 
    (.cond (.tmp 22) 
    (.seq 
    (.region [⟨(some 24), (.q (.fieldAddr 1 (.tmp 1))), none⟩, ⟨(some 25), (.q (.load false 1 (.tmp 24))), none⟩, ⟨(some 26), (.q (.fieldAddr 1 (.tmp 1))), none⟩, ⟨(some 27), (.q (.load false 1 (.tmp 26))), none⟩, ⟨(some 28), (.q (.len true (.tmp 27))), none⟩, ⟨(some 29), (.q (.bin .eql (.tmp 28) (.const (.int .i64 1)))), none⟩, ⟨(some 30), (.q (.move (.tmp 29))), none⟩, ⟨(some 31), (.q (.fieldAddr 1 (.tmp 1))), (some (30, true))⟩, ⟨(some 32), (.q (.load false 1 (.tmp 31))), (some (30, true))⟩, ⟨(some 33), (.c (.fn 147) [(.const (.str (B [123, 125, 60, 62, 91, 93, 61, 59, 58, 38, 47]))), (.tmp 32)]), (some (30, true))⟩, ⟨(some 34), (.q (.pick (.tmp 30) (.tmp 33) (.const (.bool false)))), none⟩, ⟨(some 2), (.q (.move (.tmp 25))), none⟩, ⟨(some 3), (.q (.move (.tmp 34))), none⟩]) .ret) .skip)))))))) 
    (.seq 
    (.region [⟨(some 2), (.q (.move (.const (.str (B []))))), none⟩, ⟨(some 3), (.q (.move (.const (.bool false)))), none⟩]) .ret)))
theorem t102 : Told Try.prog 102 35 c102 [(.tmp 2), (.tmp 3)] := ⟨Try.f102, _, [], Try.func102, rfl, by kernel_rfl, rfl, by kernel_rfl, by kernel_rfl⟩
def c43 : ACode := 
    (.seq 
    (.region [⟨(some 2), (.q (.move (.const (.str (B []))))), none⟩, ⟨(some 3), (.q (.move (.const (.int .i64 0)))), none⟩]) 
    (.seq 
    (.seq 
    (.region [⟨(some 9), (.q (.move (.tmp 0))), none⟩, ⟨(some 10), (.q (.len false (.tmp 9))), none⟩, ⟨(some 11), (.q (.bin .gtr (.tmp 10) (.const (.int .i64 4096)))), none⟩]) 
    (.cond (.tmp 11) 
    (.seq 
    (.region [⟨(some 2), (.q (.move (.const (.str (B []))))), none⟩, ⟨(some 3), (.q (.move (.const (.int .i64 7)))), none⟩]) .ret) .skip)) 
    (.seq 
    (.region [⟨(some 4), (.q (.move (.const .nils))), none⟩]) 
    (.seq 
    (.seq 
    (.region [⟨(some 12), (.q (.move (.tmp 0))), none⟩, ⟨(some 13), (.q (.len false (.tmp 12))), none⟩, ⟨(some 14), (.q (.move (.const (.int .i64 0)))), none⟩]) 
    (.block 0 
    (.loop 
    (.seq 
    (.region [⟨(some 15), (.q (.bin .lss (.tmp 14) (.tmp 13))), none⟩]) 
    (.seq 
    (.cond (.tmp 15) .skip (.exit 0)) 
    (.seq 
    (.block 1 
    (.seq 
    (.region [⟨(some 16), (.q (.idxSl 3 (.tmp 12) (.tmp 14))), none⟩, ⟨(some 17), (.q (.load true 3 (.tmp 16))), none⟩, ⟨(some 6), (.s (.alloc 80 [(.int .i64 0), (.str (B [])), (.int .i64 0)])), none⟩, ⟨none, (.s (.store 3 (.tmp 6) (.tmp 17))), none⟩]) 
    (.seq 
    (.region [⟨(some 19), (.q (.load true 3 (.tmp 6))), none⟩, ⟨(some 20), (.s (.call 102 [(.tmp 19)])), none⟩, ⟨(some 18), (.q (.move (.tmp 20))), none⟩, ⟨(some 21), (.q (.extract 0 (.tmp 18))), none⟩, ⟨(some 22), (.q (.extract 1 (.tmp 18))), none⟩, ⟨(some 7), (.q (.move (.tmp 21))), none⟩, ⟨(some 8), (.q (.move (.tmp 22))), none⟩]) 
    (.seq 
    (.seq 
    (.region [⟨(some 23), (.q (.move (.tmp 8))), none⟩, ⟨(some 24), (.q (.un .not (.tmp 23))), none⟩]) 
    (.cond (.tmp 24) 
    (.seq 
    (.region [⟨(some 2), (.q (.move (.const (.str (B []))))), none⟩, ⟨(some 3), (.q (.move (.const (.int .i64 1)))), none⟩]) .ret) .skip)) 
    (.region [⟨(some 25), (.q (.move (.tmp 4))), none⟩, ⟨(some 26), (.q (.move (.tmp 7))), none⟩, ⟨(some 27), (.s (.lit 9 1 [(.tmp 26)])), none⟩, ⟨(some 28), (.s (.app 9 1 16 (.tmp 25) (.tmp 27))), none⟩, ⟨(some 4), (.q (.move (.tmp 28))), none⟩]))))) 
    (.region [⟨(some 29), (.q (.bin .add (.tmp 14) (.const (.int .i64 1)))), none⟩, ⟨(some 14), (.q (.move (.tmp 29))), none⟩]))))))) 
    (.seq 
    (.region [⟨(some 30), (.q (.move (.tmp 4))), none⟩, ⟨(some 31), (.s (.call 103 [(.tmp 30), (.const (.str (B [32])))])), none⟩, ⟨(some 2), (.q (.move (.tmp 31))), none⟩, ⟨(some 3), (.q (.move (.const (.int .i64 0)))), none⟩]) .ret)))))
theorem t43 : Told Try.prog 43 32 c43 [(.tmp 2), (.tmp 3)] := ⟨Try.f43, _, [], Try.func43, rfl, by kernel_rfl, rfl, by kernel_rfl, by kernel_rfl⟩
def c45 : ACode := 
    (.seq 
    (.region [⟨(some 2), (.q (.move (.const (.int .i64 0)))), none⟩]) 
    (.seq 
    (.region [⟨(some 3), (.q (.move (.const (.int .i64 0)))), none⟩]) 
    (.seq 
    (.seq 
    (.region [⟨(some 4), (.q (.move (.const (.int .i64 0)))), none⟩]) 
    (.block 0 
    (.loop 
    (.seq 
    (.seq 
    (.region [⟨(some 5), (.q (.move (.tmp 4))), none⟩, ⟨(some 6), (.q (.move (.tmp 0))), none⟩, ⟨(some 7), (.q (.len true (.tmp 6))), none⟩, ⟨(some 8), (.q (.bin .lss (.tmp 5) (.tmp 7))), none⟩]) 
    (.cond (.tmp 8) .skip (.exit 0))) 
    (.seq 
    (.block 1 
    (.seq 
    (.region [⟨(some 11), (.q (.move (.tmp 0))), none⟩, ⟨(some 12), (.q (.move (.tmp 4))), none⟩, ⟨(some 13), (.q (.idxStr (.tmp 11) (.tmp 12))), none⟩, ⟨(some 14), (.q (.bin .eql (.tmp 13) (.const (.int .u8 10)))), none⟩]) 
    (.cond (.tmp 14) 
    (.region [⟨(some 15), (.q (.move (.tmp 3))), none⟩, ⟨(some 16), (.q (.bin .add (.tmp 15) (.const (.int .i64 1)))), none⟩, ⟨(some 3), (.q (.move (.tmp 16))), none⟩]) .skip))) 
    (.region [⟨(some 9), (.q (.move (.tmp 4))), none⟩, ⟨(some 10), (.q (.bin .add (.tmp 9) (.const (.int .i64 1)))), none⟩, ⟨(some 4), (.q (.move (.tmp 10))), none⟩])))))) 
    (.seq 
    (.region [⟨(some 17), (.q (.move (.tmp 3))), none⟩, ⟨(some 2), (.q (.move (.tmp 17))), none⟩]) .ret))))
theorem t45 : Told Try.prog 45 18 c45 [(.tmp 2)] := ⟨Try.f45, _, [], Try.func45, rfl, by kernel_rfl, rfl, by kernel_rfl, by kernel_rfl⟩
def c39 : ACode := 
    (.seq 
    (.region [⟨(some 6), (.q (.move (.const (.bool false)))), none⟩]) 
    (.seq 
    (.seq 
    (.region [⟨(some 8), (.q (.move (.tmp 0))), none⟩, ⟨(some 9), (.q (.len false (.tmp 8))), none⟩, ⟨(some 10), (.q (.move (.tmp 1))), none⟩, ⟨(some 11), (.q (.len false (.tmp 10))), none⟩, ⟨(some 12), (.q (.bin .neq (.tmp 9) (.tmp 11))), none⟩]) 
    (.cond (.tmp 12) 
    (.seq 
    (.region [⟨(some 6), (.q (.move (.const (.bool false)))), none⟩]) .ret) .skip)) 
    (.seq 
    (.seq 
    (.region [⟨(some 7), (.q (.move (.const (.int .i64 0)))), none⟩]) 
    (.block 0 
    (.loop 
    (.seq 
    (.seq 
    (.region [⟨(some 13), (.q (.move (.tmp 7))), none⟩, ⟨(some 14), (.q (.move (.tmp 0))), none⟩, ⟨(some 15), (.q (.len false (.tmp 14))), none⟩, ⟨(some 16), (.q (.bin .lss (.tmp 13) (.tmp 15))), none⟩, ⟨(some 17), (.q (.move (.tmp 16))), none⟩, ⟨(some 18), (.q (.move (.tmp 7))), (some (17, true))⟩, ⟨(some 19), (.q (.move (.tmp 1))), (some (17, true))⟩, ⟨(some 20), (.q (.len false (.tmp 19))), (some (17, true))⟩, ⟨(some 21), (.q (.bin .lss (.tmp 18) (.tmp 20))), (some (17, true))⟩, ⟨(some 22), (.q (.pick (.tmp 17) (.tmp 21) (.const (.bool false)))), none⟩]) 
    (.cond (.tmp 22) .skip (.exit 0))) 
    (.seq 
    (.block 1 
    (.seq 
    (.region [⟨(some 25), (.q (.move (.tmp 0))), none⟩, ⟨(some 26), (.q (.move (.tmp 7))), none⟩, ⟨(some 27), (.q (.idxSl 3 (.tmp 25) (.tmp 26))), none⟩, ⟨(some 28), (.q (.fieldAddr 0 (.tmp 27))), none⟩, ⟨(some 29), (.q (.load false 1 (.tmp 28))), none⟩, ⟨(some 30), (.q (.move (.tmp 1))), none⟩, ⟨(some 31), (.q (.move (.tmp 7))), none⟩, ⟨(some 32), (.q (.idxSl 3 (.tmp 30) (.tmp 31))), none⟩, ⟨(some 33), (.q (.fieldAddr 0 (.tmp 32))), none⟩, ⟨(some 34), (.q (.load false 1 (.tmp 33))), none⟩, ⟨(some 35), (.q (.bin .neq (.tmp 29) (.tmp 34))), none⟩, ⟨(some 36), (.q (.move (.tmp 35))), none⟩, ⟨(some 37), (.q (.move (.tmp 0))), (some (36, false))⟩, ⟨(some 38), (.q (.move (.tmp 7))), (some (36, false))⟩, ⟨(some 39), (.q (.idxSl 3 (.tmp 37) (.tmp 38))), (some (36, false))⟩, ⟨(some 40), (.q (.fieldAddr 1 (.tmp 39))), (some (36, false))⟩, ⟨(some 41), (.q (.load false 1 (.tmp 40))), (some (36, false))⟩, ⟨(some 42), (.q (.move (.tmp 1))), (some (36, false))⟩, ⟨(some 43), (.q (.move (.tmp 7))), (some (36, false))⟩, ⟨(some 44), (.q (.idxSl 3 (.tmp 42) (.tmp 43))), (some (36, false))⟩, ⟨(some 45), (.q (.fieldAddr 1 (.tmp 44))), (some (36, false))⟩, ⟨(some 46), (.q (.load false 1 (.tmp 45))), (some (36, false))⟩, ⟨(some 47), (.q (.bin .neq (.tmp 41) (.tmp 46))), (some (36, false))⟩, ⟨(some 48), (.q (.pick (.tmp 36) (.const (.bool true)) (.tmp 47))), none⟩, ⟨(some 49), (.q (.move (.tmp 48))), none⟩, ⟨(some 50), (.q (.move (.tmp 2))), (some (49, false))⟩, ⟨(some 51), (.q (.bin .geq (.tmp 50) (.const (.int .i64 0)))), (some (49, false))⟩, ⟨(some 52), (.q (.move (.tmp 51))), (some (49, false))⟩, ⟨(some 53), (.q (.move (.tmp 0))), (some (52, true))⟩, ⟨(some 54), (.q (.move (.tmp 7))), (some (52, true))⟩, ⟨(some 55), (.q (.idxSl 3 (.tmp 53) (.tmp 54))), (some (52, true))⟩, ⟨(some 56), (.q (.fieldAddr 2 (.tmp 55))), (some (52, true))⟩, ⟨(some 57), (.q (.load false 1 (.tmp 56))), (some (52, true))⟩, ⟨(some 58), (.q (.move (.tmp 2))), (some (52, true))⟩, ⟨(some 59), (.q (.bin .add (.tmp 57) (.tmp 58))), (some (52, true))⟩, ⟨(some 60), (.q (.move (.tmp 1))), (some (52, true))⟩, ⟨(some 61), (.q (.move (.tmp 7))), (some (52, true))⟩, ⟨(some 62), (.q (.idxSl 3 (.tmp 60) (.tmp 61))), (some (52, true))⟩, ⟨(some 63), (.q (.fieldAddr 2 (.tmp 62))), (some (52, true))⟩, ⟨(some 64), (.q (.load false 1 (.tmp 63))), (some (52, true))⟩, ⟨(some 65), (.q (.bin .neq (.tmp 59) (.tmp 64))), (some (52, true))⟩, ⟨(some 66), (.q (.pick (.tmp 52) (.tmp 65) (.const (.bool false)))), (some (49, false))⟩, ⟨(some 67), (.q (.pick (.tmp 49) (.const (.bool true)) (.tmp 66))), none⟩]) 
    (.cond (.tmp 67) 
    (.seq 
    (.region [⟨(some 6), (.q (.move (.const (.bool false)))), none⟩]) .ret) .skip))) 
    (.region [⟨(some 23), (.q (.move (.tmp 7))), none⟩, ⟨(some 24), (.q (.bin .add (.tmp 23) (.const (.int .i64 1)))), none⟩, ⟨(some 7), (.q (.move (.tmp 24))), none⟩])))))) 
    (.seq 
    (.region [⟨(some 6), (.q (.move (.const (.bool true)))), none⟩]) .ret))))
theorem t39 : Told Try.prog 39 68 c39 [(.tmp 6)] := ⟨Try.f39, _, [], Try.func39, rfl, by kernel_rfl, rfl, by kernel_rfl, by kernel_rfl⟩
def c36 : ACode := 
    (.seq 
    (.region [⟨(some 0), (.q (.move (.const (.bool false)))), none⟩]) 
    (.seq 
    (.region [⟨(some 10), (.s (.call 37 [(.const (.str (B [47, 47, 32, 111, 110, 101, 10, 97, 61, 60, 48, 120, 49, 62, 59, 32, 34, 92, 120, 52, 49, 92, 34, 34])))])), none⟩, ⟨(some 9), (.q (.move (.tmp 10))), none⟩, ⟨(some 11), (.q (.extract 0 (.tmp 9))), none⟩, ⟨(some 12), (.q (.extract 1 (.tmp 9))), none⟩, ⟨(some 13), (.q (.extract 2 (.tmp 9))), none⟩, ⟨(some 1), (.q (.move (.tmp 11))), none⟩, ⟨(some 2), (.q (.move (.tmp 12))), none⟩, ⟨(some 3), (.q (.move (.tmp 13))), none⟩]) 
    (.seq 
    (.region [⟨(some 15), (.s (.call 37 [(.const (.str (B [97, 10, 33])))])), none⟩, ⟨(some 14), (.q (.move (.tmp 15))), none⟩, ⟨(some 16), (.q (.extract 0 (.tmp 14))), none⟩, ⟨(some 17), (.q (.extract 1 (.tmp 14))), none⟩, ⟨(some 18), (.q (.extract 2 (.tmp 14))), none⟩, ⟨(some 4), (.q (.move (.tmp 16))), none⟩, ⟨(some 5), (.q (.move (.tmp 17))), none⟩, ⟨(some 6), (.q (.move (.tmp 18))), none⟩]) 
    (.seq 
    (.region [⟨(some 20), (.q (.build [(.int .i64 0), (.str (B [])), (.int .i64 0)] [(0, (1, (.const (.int .i64 2)))), (1, (1, (.const (.str (B [10])))))])), none⟩, ⟨(some 21), (.q (.build [(.int .i64 0), (.str (B [])), (.int .i64 0)] [(0, (1, (.const (.int .i64 3)))), (1, (1, (.const (.str (B [59])))))])), none⟩, ⟨(some 22), (.s (.lit 80 3 [(.tmp 20), (.tmp 21)])), none⟩, ⟨(some 23), (.s (.call 43 [(.tmp 22)])), none⟩, ⟨(some 19), (.q (.move (.tmp 23))), none⟩, ⟨(some 24), (.q (.extract 0 (.tmp 19))), none⟩, ⟨(some 25), (.q (.extract 1 (.tmp 19))), none⟩, ⟨(some 7), (.q (.move (.tmp 24))), none⟩, ⟨(some 8), (.q (.move (.tmp 25))), none⟩]) 
    (.seq 
    (.region [⟨(some 26), (.q (.move (.tmp 1))), none⟩, ⟨(some 27), (.q (.len false (.tmp 26))), none⟩, ⟨(some 28), (.q (.bin .eql (.tmp 27) (.const (.int .i64 7)))), none⟩, ⟨(some 29), (.q (.move (.tmp 28))), none⟩, ⟨(some 30), (.q (.move (.tmp 1))), (some (29, true))⟩, ⟨(some 31), (.q (.idxSl 3 (.tmp 30) (.const (.int .i64 0)))), (some (29, true))⟩, ⟨(some 32), (.q (.load true 3 (.tmp 31))), (some (29, true))⟩, ⟨(some 33), (.q (.build [(.int .i64 0), (.str (B [])), (.int .i64 0)] [(0, (1, (.const (.int .i64 1)))), (1, (1, (.const (.str (B [97]))))), (2, (1, (.const (.int .i64 2))))])), (some (29, true))⟩, ⟨(some 34), (.q 
    (.seq [(.i .i64), .s, (.i .i64)] false (.tmp 32) (.tmp 33))), (some (29, true))⟩, ⟨(some 35), (.q (.pick (.tmp 29) (.tmp 34) (.const (.bool false)))), none⟩, ⟨(some 36), (.q (.move (.tmp 35))), none⟩, ⟨(some 37), (.q (.move (.tmp 1))), (some (36, true))⟩, ⟨(some 38), (.q (.idxSl 3 (.tmp 37) (.const (.int .i64 6)))), (some (36, true))⟩, ⟨(some 39), (.q (.fieldAddr 1 (.tmp 38))), (some (36, true))⟩, ⟨(some 40), (.q (.load false 1 (.tmp 39))), (some (36, true))⟩, ⟨(some 41), (.q (.bin .eql (.tmp 40) (.const (.str (B [65, 34]))))), (some (36, true))⟩, ⟨(some 42), (.q (.pick (.tmp 36) (.tmp 41) (.const (.bool false)))), none⟩, ⟨(some 43), (.q (.move (.tmp 42))), none⟩, ⟨(some 44), (.q (.move (.tmp 2))), (some (43, true))⟩, ⟨(some 45), (.q (.bin .eql (.tmp 44) (.const (.int .i64 0)))), (some (43, true))⟩, ⟨(some 46), (.q (.pick (.tmp 43) (.tmp 45) (.const (.bool false)))), none⟩, ⟨(some 47), (.q (.move (.tmp 46))), none⟩, ⟨(some 48), (.q (.move (.tmp 3))), (some (47, true))⟩, ⟨(some 49), (.q (.bin .eql (.tmp 48) (.const (.int .i64 0)))), (some (47, true))⟩, ⟨(some 50), (.q (.pick (.tmp 47) (.tmp 49) (.const (.bool false)))), none⟩, ⟨(some 51), (.q (.move (.tmp 50))), none⟩, ⟨(some 52), (.q (.move (.tmp 4))), (some (51, true))⟩, ⟨(some 53), (.q (.len false (.tmp 52))), (some (51, true))⟩, ⟨(some 54), (.q (.bin .eql (.tmp 53) (.const (.int .i64 0)))), (some (51, true))⟩, ⟨(some 55), (.q (.pick (.tmp 51) (.tmp 54) (.const (.bool false)))), none⟩, ⟨(some 56), (.q (.move (.tmp 55))), none⟩, ⟨(some 57), (.q (.move (.tmp 5))), (some (56, true))⟩, ⟨(some 58), (.q (.bin .eql (.tmp 57) (.const (.int .i64 2)))), (some (56, true))⟩, ⟨(some 59), (.q (.pick (.tmp 56) (.tmp 58) (.const (.bool false)))), none⟩, ⟨(some 60), (.q (.move (.tmp 59))), none⟩, ⟨(some 61), (.q (.move (.tmp 6))), (some (60, true))⟩, ⟨(some 62), (.q (.bin .eql (.tmp 61) (.const (.int .i64 6)))), (some (60, true))⟩, ⟨(some 63), (.q (.pick (.tmp 60) (.tmp 62) (.const (.bool false)))), none⟩, ⟨(some 64), (.q (.move (.tmp 63))), none⟩, ⟨(some 65), (.q (.move (.tmp 7))), (some (64, true))⟩, ⟨(some 66), (.q (.bin .eql (.tmp 65) (.const (.str (B [34, 92, 120, 48, 97, 34, 32, 59]))))), (some (64, true))⟩, ⟨(some 67), (.q (.pick (.tmp 64) (.tmp 66) (.const (.bool false)))), none⟩, ⟨(some 68), (.q (.move (.tmp 67))), none⟩, ⟨(some 69), (.q (.move (.tmp 8))), (some (68, true))⟩, ⟨(some 70), (.q (.bin .eql (.tmp 69) (.const (.int .i64 0)))), (some (68, true))⟩, ⟨(some 71), (.q (.pick (.tmp 68) (.tmp 70) (.const (.bool false)))), none⟩, ⟨(some 72), (.q (.move (.tmp 71))), none⟩, ⟨(some 73), (.s (.call 40 [(.const (.str (B [97, 64, 48])))])), (some (72, true))⟩, ⟨(some 74), (.q (.pick (.tmp 72) (.tmp 73) (.const (.bool false)))), none⟩, ⟨(some 75), (.q (.move (.tmp 74))), none⟩, ⟨(some 76), (.s (.call 40 [(.const (.str (B [])))])), (some (75, true))⟩, ⟨(some 77), (.q (.un .not (.tmp 76))), (some (75, true))⟩, ⟨(some 78), (.q (.pick (.tmp 75) (.tmp 77) (.const (.bool false)))), none⟩, ⟨(some 0), (.q (.move (.tmp 78))), none⟩]) .ret)))))
theorem t36 : Told Try.prog 36 79 c36 [(.tmp 0)] := ⟨Try.f36, _, [], Try.func36, rfl, by kernel_rfl, rfl, by kernel_rfl, by kernel_rfl⟩
def c9 : ACode := 
    (.seq 
    (.region [⟨(some 4), (.q (.move (.const (.bool false)))), none⟩]) 
    (.seq 
    (.seq 
    (.region [⟨(some 15), (.q (.move (.tmp 0))), none⟩, ⟨(some 16), (.q (.len true (.tmp 15))), none⟩, ⟨(some 17), (.q (.bin .gtr (.tmp 16) (.const (.int .i64 1024)))), none⟩, ⟨(some 18), (.q (.move (.tmp 17))), none⟩, ⟨(some 19), (.q (.move (.tmp 1))), (some (18, false))⟩, ⟨(some 20), (.q (.len true (.tmp 19))), (some (18, false))⟩, ⟨(some 21), (.q (.bin .gtr (.tmp 20) (.const (.int .i64 1024)))), (some (18, false))⟩, ⟨(some 22), (.q (.pick (.tmp 18) (.const (.bool true)) (.tmp 21))), none⟩]) 
    (.cond (.tmp 22) 
    (.seq 
    (.region [⟨(some 23), (.s (.call 36 [])), none⟩, ⟨(some 4), (.q (.move (.tmp 23))), none⟩]) .ret) .skip)) 
    (.seq 
    (.region [⟨(some 25), (.q (.move (.tmp 0))), none⟩, ⟨(some 26), (.s (.call 37 [(.tmp 25)])), none⟩, ⟨(some 24), (.q (.move (.tmp 26))), none⟩, ⟨(some 27), (.q (.extract 0 (.tmp 24))), none⟩, ⟨(some 28), (.q (.extract 1 (.tmp 24))), none⟩, ⟨(some 29), (.q (.extract 2 (.tmp 24))), none⟩, ⟨(some 5), (.q (.move (.tmp 27))), none⟩, ⟨(some 6), (.q (.move (.tmp 28))), none⟩, ⟨(some 7), (.q (.move (.tmp 29))), none⟩]) 
    (.seq 
    (.region [⟨(some 31), (.q (.move (.tmp 1))), none⟩, ⟨(some 32), (.s (.call 37 [(.tmp 31)])), none⟩, ⟨(some 30), (.q (.move (.tmp 32))), none⟩, ⟨(some 33), (.q (.extract 0 (.tmp 30))), none⟩, ⟨(some 34), (.q (.extract 1 (.tmp 30))), none⟩, ⟨(some 35), (.q (.extract 2 (.tmp 30))), none⟩, ⟨(some 8), (.q (.move (.tmp 33))), none⟩, ⟨(some 9), (.q (.move (.tmp 34))), none⟩, ⟨(some 10), (.q (.move (.tmp 35))), none⟩]) 
    (.seq 
    (.region [⟨(some 37), (.q (.move (.tmp 0))), none⟩, ⟨(some 38), (.q (.bin .add (.tmp 37) (.const (.str (B [10]))))), none⟩, ⟨(some 39), (.q (.move (.tmp 1))), none⟩, ⟨(some 40), (.q (.bin .add (.tmp 38) (.tmp 39))), none⟩, ⟨(some 41), (.s (.call 37 [(.tmp 40)])), none⟩, ⟨(some 36), (.q (.move (.tmp 41))), none⟩, ⟨(some 42), (.q (.extract 0 (.tmp 36))), none⟩, ⟨(some 43), (.q (.extract 1 (.tmp 36))), none⟩, ⟨(some 44), (.q (.extract 2 (.tmp 36))), none⟩, ⟨(some 11), (.q (.move (.tmp 42))), none⟩, ⟨(some 12), (.q (.move (.tmp 43))), none⟩, ⟨(some 13), (.q (.move (.tmp 44))), none⟩]) 
    (.seq 
    (.seq 
    (.region [⟨(some 45), (.q (.move (.tmp 7))), none⟩, ⟨(some 46), (.q (.bin .neq (.tmp 45) (.const (.int .i64 0)))), none⟩]) 
    (.cond (.tmp 46) 
    (.seq 
    (.region [⟨(some 47), (.s (.call 36 [])), none⟩, ⟨(some 4), (.q (.move (.tmp 47))), none⟩]) .ret) .skip)) 
    (.seq 
    (.region [⟨(some 48), (.q (.move (.tmp 0))), none⟩, ⟨(some 49), (.s (.call 45 [(.tmp 48)])), none⟩, ⟨(some 50), (.q (.bin .add (.tmp 49) (.const (.int .i64 1)))), none⟩, ⟨(some 14), (.q (.move (.tmp 50))), none⟩]) 
    (.seq 
    (.seq 
    (.region [⟨(some 51), (.q (.move (.tmp 10))), none⟩, ⟨(some 52), (.q (.bin .neq (.tmp 51) (.const (.int .i64 0)))), none⟩]) 
    (.cond (.tmp 52) 
    (.seq 
    (.region [⟨(some 53), (.q (.move (.tmp 13))), none⟩, ⟨(some 54), (.q (.move (.tmp 10))), none⟩, ⟨(some 55), (.q (.bin .eql (.tmp 53) (.tmp 54))), none⟩, ⟨(some 56), (.q (.move (.tmp 55))), none⟩, ⟨(some 57), (.q (.move (.tmp 12))), (some (56, true))⟩, ⟨(some 58), (.q (.move (.tmp 9))), (some (56, true))⟩, ⟨(some 59), (.q (.move (.tmp 14))), (some (56, true))⟩, ⟨(some 60), (.q (.bin .add (.tmp 58) (.tmp 59))), (some (56, true))⟩, ⟨(some 61), (.q (.bin .eql (.tmp 57) (.tmp 60))), (some (56, true))⟩, ⟨(some 62), (.q (.pick (.tmp 56) (.tmp 61) (.const (.bool false)))), none⟩, ⟨(some 63), (.q (.move (.tmp 62))), none⟩, ⟨(some 64), (.q (.move (.tmp 11))), (some (63, true))⟩, ⟨(some 65), (.q (.len false (.tmp 64))), (some (63, true))⟩, ⟨(some 66), (.q (.bin .eql (.tmp 65) (.const (.int .i64 0)))), (some (63, true))⟩, ⟨(some 67), (.q (.pick (.tmp 63) (.tmp 66) (.const (.bool false)))), none⟩, ⟨(some 68), (.q (.move (.tmp 67))), none⟩, ⟨(some 69), (.s (.call 36 [])), (some (68, true))⟩, ⟨(some 70), (.q (.pick (.tmp 68) (.tmp 69) (.const (.bool false)))), none⟩, ⟨(some 4), (.q (.move (.tmp 70))), none⟩]) .ret) .skip)) 
    (.seq 
    (.seq 
    (.region [⟨(some 71), (.q (.move (.tmp 13))), none⟩, ⟨(some 72), (.q (.bin .neq (.tmp 71) (.const (.int .i64 0)))), none⟩, ⟨(some 73), (.q (.move (.tmp 72))), none⟩, ⟨(some 74), (.q (.move (.tmp 12))), (some (73, false))⟩, ⟨(some 75), (.q (.bin .neq (.tmp 74) (.const (.int .i64 0)))), (some (73, false))⟩, ⟨(some 76), (.q (.pick (.tmp 73) (.const (.bool true)) (.tmp 75))), none⟩, ⟨(some 77), (.q (.move (.tmp 76))), none⟩, ⟨(some 78), (.q (.move (.tmp 11))), (some (77, false))⟩, ⟨(some 79), (.q (.len false (.tmp 78))), (some (77, false))⟩, ⟨(some 80), (.q (.move (.tmp 5))), (some (77, false))⟩, ⟨(some 81), (.q (.len false (.tmp 80))), (some (77, false))⟩, ⟨(some 82), (.q (.move (.tmp 8))), (some (77, false))⟩, ⟨(some 83), (.q (.len false (.tmp 82))), (some (77, false))⟩, ⟨(some 84), (.q (.bin .add (.tmp 81) (.tmp 83))), (some (77, false))⟩, ⟨(some 85), (.q (.bin .neq (.tmp 79) (.tmp 84))), (some (77, false))⟩, ⟨(some 86), (.q (.pick (.tmp 77) (.const (.bool true)) (.tmp 85))), none⟩]) 
    (.cond (.tmp 86) 
    (.seq 
    (.region [⟨(some 4), (.q (.move (.const (.bool false)))), none⟩]) .ret) .skip)) 
    (.seq 
    (.region [⟨(some 87), (.q (.move (.tmp 5))), none⟩, ⟨(some 88), (.q (.move (.tmp 11))), none⟩, ⟨(some 89), (.q (.move (.tmp 5))), none⟩, ⟨(some 90), (.q (.len false (.tmp 89))), none⟩, ⟨(some 91), (.q (.sliceSl 3 (.tmp 88) none (some (.tmp 90)))), none⟩, ⟨(some 92), (.s (.call 39 [(.tmp 87), (.tmp 91), (.const (.int .i64 0))])), none⟩, ⟨(some 93), (.q (.move (.tmp 92))), none⟩, ⟨(some 94), (.q (.move (.tmp 8))), (some (93, true))⟩, ⟨(some 95), (.q (.move (.tmp 11))), (some (93, true))⟩, ⟨(some 96), (.q (.move (.tmp 5))), (some (93, true))⟩, ⟨(some 97), (.q (.len false (.tmp 96))), (some (93, true))⟩, ⟨(some 98), (.q (.sliceSl 3 (.tmp 95) (some (.tmp 97)) none)), (some (93, true))⟩, ⟨(some 99), (.q (.move (.tmp 14))), (some (93, true))⟩, ⟨(some 100), (.s (.call 39 [(.tmp 94), (.tmp 98), (.tmp 99)])), (some (93, true))⟩, ⟨(some 101), (.q (.pick (.tmp 93) (.tmp 100) (.const (.bool false)))), none⟩, ⟨(some 102), (.q (.move (.tmp 101))), none⟩, ⟨(some 103), (.s (.call 36 [])), (some (102, true))⟩, ⟨(some 104), (.q (.pick (.tmp 102) (.tmp 103) (.const (.bool false)))), none⟩, ⟨(some 4), (.q (.move (.tmp 104))), none⟩]) .ret))))))))))
theorem t9 : Told Try.prog 9 105 c9 [(.tmp 4)] := ⟨Try.f9, _, [], Try.func9, rfl, by kernel_rfl, rfl, by kernel_rfl, by kernel_rfl⟩
end Go.Proofs.Ytfilheaaacffmaa.AL

