/- The code of the library's functions over texts told, as the kernel evaluates it. -/
import Derived.Test.YtfilheaaacffmaaQKvTextsALA3
import Derived.Test.YtfilheaaacffmaaProg
import Derived.KernelRfl
set_option maxRecDepth 100000
namespace Go.Proofs.Ytfilheaaacffmaa.AL
open Go Go.Proofs
def c168 : ACode := 
    (.seq 
    (.region [⟨(some 4), (.q (.move (.const (.int .i64 0)))), none⟩]) 
    (.seq 
    (.region [⟨(some 5), (.q (.move (.tmp 0))), none⟩, ⟨(some 6), (.q (.move (.tmp 1))), none⟩, ⟨(some 7), (.s (.call 181 [(.tmp 5), (.tmp 6)])), none⟩, ⟨(some 4), (.q (.move (.tmp 7))), none⟩]) .ret))
theorem t168 : Told Try.prog 168 8 c168 [(.tmp 4)] := ⟨Try.f168, _, [], Try.func168, rfl, by kernel_rfl, rfl, by kernel_rfl, by kernel_rfl⟩
def c171 : ACode := 
    (.seq 
    (.region [⟨(some 4), (.q (.move (.const (.int .i64 0)))), none⟩]) 
    (.seq 
    (.region [⟨(some 14), (.q (.move (.tmp 1))), none⟩, ⟨(some 15), (.q (.len true (.tmp 14))), none⟩, ⟨(some 5), (.q (.move (.tmp 15))), none⟩]) 
    (.seq 
    (.block 0 
    (.seq 
    (.region [⟨(some 17), (.q (.move (.tmp 5))), none⟩, ⟨(some 18), (.q (.bin .eql (.tmp 17) (.const (.int .i64 0)))), none⟩, ⟨(some 19), (.q (.move (.tmp 18))), none⟩, ⟨(some 20), (.q (.move (.tmp 1))), (some (19, false))⟩, ⟨(some 21), (.q (.move (.tmp 0))), (some (19, false))⟩, ⟨(some 22), (.q (.bin .eql (.tmp 20) (.tmp 21))), (some (19, false))⟩, ⟨(some 23), (.q (.pick (.tmp 19) (.const (.bool true)) (.tmp 22))), none⟩, ⟨(some 16), (.q (.move (.tmp 23))), none⟩]) 
    (.cond (.tmp 16) 
    (.seq 
    (.region [⟨(some 4), (.q (.move (.const (.int .i64 0)))), none⟩]) .ret) 
    (.seq 
    (.region [⟨(some 25), (.q (.move (.tmp 5))), none⟩, ⟨(some 26), (.q (.bin .eql (.tmp 25) (.const (.int .i64 1)))), none⟩, ⟨(some 24), (.q (.move (.tmp 26))), none⟩]) 
    (.cond (.tmp 24) 
    (.seq 
    (.region [⟨(some 27), (.q (.move (.tmp 0))), none⟩, ⟨(some 28), (.q (.move (.tmp 1))), none⟩, ⟨(some 29), (.q (.idxStr (.tmp 28) (.const (.int .i64 0)))), none⟩, ⟨(some 30), (.s (.call 168 [(.tmp 27), (.tmp 29)])), none⟩, ⟨(some 4), (.q (.move (.tmp 30))), none⟩]) .ret) 
    (.seq 
    (.region [⟨(some 32), (.q (.move (.tmp 5))), none⟩, ⟨(some 33), (.q (.move (.tmp 0))), none⟩, ⟨(some 34), (.q (.len true (.tmp 33))), none⟩, ⟨(some 35), (.q (.bin .geq (.tmp 32) (.tmp 34))), none⟩, ⟨(some 31), (.q (.move (.tmp 35))), none⟩]) 
    (.cond (.tmp 31) 
    (.seq 
    (.region [⟨(some 4), (.q (.move (.const (.int .i64 (-1))))), none⟩]) .ret) 
    (.seq 
    (.region [⟨(some 37), (.q (.move (.tmp 5))), none⟩, ⟨(some 38), (.s .stop), none⟩, ⟨(some 39), (.q (.bin .leq (.tmp 37) (.tmp 38))), none⟩, ⟨(some 40), (.q (.move (.tmp 39))), none⟩, ⟨(some 41), (.q (.move (.tmp 0))), (some (40, true))⟩, ⟨(some 42), (.q (.len true (.tmp 41))), (some (40, true))⟩, ⟨(some 43), (.q (.bin .leq (.tmp 42) (.const (.int .i64 64)))), (some (40, true))⟩, ⟨(some 44), (.q (.pick (.tmp 40) (.tmp 43) (.const (.bool false)))), none⟩, ⟨(some 36), (.q (.move (.tmp 44))), none⟩]) 
    (.cond (.tmp 36) 
    (.seq 
    (.region [⟨(some 45), (.q (.move (.tmp 0))), none⟩, ⟨(some 46), (.q (.move (.tmp 1))), none⟩, ⟨(some 47), (.s (.call 184 [(.tmp 45), (.tmp 46)])), none⟩, ⟨(some 4), (.q (.move (.tmp 47))), none⟩]) .ret) .skip))))))))) 
    (.seq 
    (.region [⟨(some 48), (.q (.move (.tmp 1))), none⟩, ⟨(some 49), (.q (.idxStr (.tmp 48) (.const (.int .i64 0)))), none⟩, ⟨(some 6), (.q (.move (.tmp 49))), none⟩]) 
    (.seq 
    (.region [⟨(some 50), (.q (.move (.tmp 1))), none⟩, ⟨(some 51), (.q (.idxStr (.tmp 50) (.const (.int .i64 1)))), none⟩, ⟨(some 7), (.q (.move (.tmp 51))), none⟩]) 
    (.seq 
    (.region [⟨(some 8), (.q (.move (.const (.int .i64 0)))), none⟩]) 
    (.seq 
    (.region [⟨(some 52), (.q (.move (.tmp 0))), none⟩, ⟨(some 53), (.q (.len true (.tmp 52))), none⟩, ⟨(some 54), (.q (.move (.tmp 5))), none⟩, ⟨(some 55), (.q (.bin .sub (.tmp 53) (.tmp 54))), none⟩, ⟨(some 56), (.q (.bin .add (.tmp 55) (.const (.int .i64 1)))), none⟩, ⟨(some 9), (.q (.move (.tmp 56))), none⟩]) 
    (.seq 
    (.region [⟨(some 10), (.q (.move (.const (.int .i64 0)))), none⟩]) 
    (.seq 
    (.block 1 
    (.loop 
    (.seq 
    (.seq 
    (.region [⟨(some 57), (.q (.move (.tmp 8))), none⟩, ⟨(some 58), (.q (.move (.tmp 9))), none⟩, ⟨(some 59), (.q (.bin .lss (.tmp 57) (.tmp 58))), none⟩]) 
    (.cond (.tmp 59) .skip (.exit 1))) 
    (.block 2 
    (.seq 
    (.seq 
    (.region [⟨(some 60), (.q (.move (.tmp 0))), none⟩, ⟨(some 61), (.q (.move (.tmp 8))), none⟩, ⟨(some 62), (.q (.idxStr (.tmp 60) (.tmp 61))), none⟩, ⟨(some 63), (.q (.move (.tmp 6))), none⟩, ⟨(some 64), (.q (.bin .neq (.tmp 62) (.tmp 63))), none⟩]) 
    (.cond (.tmp 64) 
    (.seq 
    (.region [⟨(some 65), (.q (.move (.tmp 0))), none⟩, ⟨(some 66), (.q (.move (.tmp 8))), none⟩, ⟨(some 67), (.q (.bin .add (.tmp 66) (.const (.int .i64 1)))), none⟩, ⟨(some 68), (.q (.move (.tmp 9))), none⟩, ⟨(some 69), (.q (.sliceStr (.tmp 65) (some (.tmp 67)) (some (.tmp 68)))), none⟩, ⟨(some 70), (.q (.move (.tmp 6))), none⟩, ⟨(some 71), (.s (.call 168 [(.tmp 69), (.tmp 70)])), none⟩, ⟨(some 11), (.q (.move (.tmp 71))), none⟩]) 
    (.seq 
    (.seq 
    (.region [⟨(some 72), (.q (.move (.tmp 11))), none⟩, ⟨(some 73), (.q (.bin .lss (.tmp 72) (.const (.int .i64 0)))), none⟩]) 
    (.cond (.tmp 73) 
    (.seq 
    (.region [⟨(some 4), (.q (.move (.const (.int .i64 (-1))))), none⟩]) .ret) .skip)) 
    (.region [⟨(some 74), (.q (.move (.tmp 8))), none⟩, ⟨(some 75), (.q (.move (.tmp 11))), none⟩, ⟨(some 76), (.q (.bin .add (.tmp 75) (.const (.int .i64 1)))), none⟩, ⟨(some 77), (.q (.bin .add (.tmp 74) (.tmp 76))), none⟩, ⟨(some 8), (.q (.move (.tmp 77))), none⟩]))) .skip)) 
    (.seq 
    (.seq 
    (.region [⟨(some 78), (.q (.move (.tmp 0))), none⟩, ⟨(some 79), (.q (.move (.tmp 8))), none⟩, ⟨(some 80), (.q (.bin .add (.tmp 79) (.const (.int .i64 1)))), none⟩, ⟨(some 81), (.q (.idxStr (.tmp 78) (.tmp 80))), none⟩, ⟨(some 82), (.q (.move (.tmp 7))), none⟩, ⟨(some 83), (.q (.bin .eql (.tmp 81) (.tmp 82))), none⟩, ⟨(some 84), (.q (.move (.tmp 83))), none⟩, ⟨(some 85), (.q (.move (.tmp 0))), (some (84, true))⟩, ⟨(some 86), (.q (.move (.tmp 8))), (some (84, true))⟩, ⟨(some 87), (.q (.move (.tmp 8))), (some (84, true))⟩, ⟨(some 88), (.q (.move (.tmp 5))), (some (84, true))⟩, ⟨(some 89), (.q (.bin .add (.tmp 87) (.tmp 88))), (some (84, true))⟩, ⟨(some 90), (.q (.sliceStr (.tmp 85) (some (.tmp 86)) (some (.tmp 89)))), (some (84, true))⟩, ⟨(some 91), (.q (.move (.tmp 1))), (some (84, true))⟩, ⟨(some 92), (.q (.bin .eql (.tmp 90) (.tmp 91))), (some (84, true))⟩, ⟨(some 93), (.q (.pick (.tmp 84) (.tmp 92) (.const (.bool false)))), none⟩]) 
    (.cond (.tmp 93) 
    (.seq 
    (.region [⟨(some 94), (.q (.move (.tmp 8))), none⟩, ⟨(some 4), (.q (.move (.tmp 94))), none⟩]) .ret) .skip)) 
    (.seq 
    (.region [⟨(some 95), (.q (.move (.tmp 8))), none⟩, ⟨(some 96), (.q (.bin .add (.tmp 95) (.const (.int .i64 1)))), none⟩, ⟨(some 8), (.q (.move (.tmp 96))), none⟩]) 
    (.seq 
    (.region [⟨(some 97), (.q (.move (.tmp 10))), none⟩, ⟨(some 98), (.q (.bin .add (.tmp 97) (.const (.int .i64 1)))), none⟩, ⟨(some 10), (.q (.move (.tmp 98))), none⟩]) 
    (.seq 
    (.region [⟨(some 99), (.q (.move (.tmp 5))), none⟩, ⟨(some 100), (.s .stop), none⟩, ⟨(some 101), (.q (.bin .leq (.tmp 99) (.tmp 100))), none⟩, ⟨(some 102), (.q (.move (.tmp 101))), none⟩, ⟨(some 103), (.q (.move (.tmp 10))), (some (102, true))⟩, ⟨(some 104), (.q (.move (.tmp 8))), (some (102, true))⟩, ⟨(some 105), (.s (.call 185 [(.tmp 104)])), (some (102, true))⟩, ⟨(some 106), (.q (.bin .gtr (.tmp 103) (.tmp 105))), (some (102, true))⟩, ⟨(some 107), (.q (.pick (.tmp 102) (.tmp 106) (.const (.bool false)))), none⟩]) 
    (.cond (.tmp 107) 
    (.seq 
    (.region [⟨(some 108), (.q (.move (.tmp 0))), none⟩, ⟨(some 109), (.q (.move (.tmp 8))), none⟩, ⟨(some 110), (.q (.sliceStr (.tmp 108) (some (.tmp 109)) none)), none⟩, ⟨(some 111), (.q (.move (.tmp 1))), none⟩, ⟨(some 112), (.s (.call 184 [(.tmp 110), (.tmp 111)])), none⟩, ⟨(some 12), (.q (.move (.tmp 112))), none⟩]) 
    (.seq 
    (.seq 
    (.region [⟨(some 113), (.q (.move (.tmp 12))), none⟩, ⟨(some 114), (.q (.bin .geq (.tmp 113) (.const (.int .i64 0)))), none⟩]) 
    (.cond (.tmp 114) 
    (.seq 
    (.region [⟨(some 115), (.q (.move (.tmp 12))), none⟩, ⟨(some 116), (.q (.move (.tmp 8))), none⟩, ⟨(some 117), (.q (.bin .add (.tmp 115) (.tmp 116))), none⟩, ⟨(some 4), (.q (.move (.tmp 117))), none⟩]) .ret) .skip)) 
    (.seq 
    (.region [⟨(some 4), (.q (.move (.const (.int .i64 (-1))))), none⟩]) .ret))) 
    (.seq 
    (.region [⟨(some 118), (.q (.move (.tmp 5))), none⟩, ⟨(some 119), (.s .stop), none⟩, ⟨(some 120), (.q (.bin .gtr (.tmp 118) (.tmp 119))), none⟩, ⟨(some 121), (.q (.move (.tmp 120))), none⟩, ⟨(some 122), (.q (.move (.tmp 10))), (some (121, true))⟩, ⟨(some 123), (.q (.move (.tmp 8))), (some (121, true))⟩, ⟨(some 124), (.q (.bin .shr (.tmp 123) (.const (.int .u64 4)))), (some (121, true))⟩, ⟨(some 125), (.q (.bin .add (.const (.int .i64 4)) (.tmp 124))), (some (121, true))⟩, ⟨(some 126), (.q (.bin .geq (.tmp 122) (.tmp 125))), (some (121, true))⟩, ⟨(some 127), (.q (.pick (.tmp 121) (.tmp 126) (.const (.bool false)))), none⟩, ⟨(some 128), (.q (.move (.tmp 127))), none⟩, ⟨(some 129), (.q (.move (.tmp 8))), (some (128, true))⟩, ⟨(some 130), (.q (.move (.tmp 9))), (some (128, true))⟩, ⟨(some 131), (.q (.bin .lss (.tmp 129) (.tmp 130))), (some (128, true))⟩, ⟨(some 132), (.q (.pick (.tmp 128) (.tmp 131) (.const (.bool false)))), none⟩]) 
    (.cond (.tmp 132) 
    (.seq 
    (.region [⟨(some 133), (.q (.move (.tmp 0))), none⟩, ⟨(some 134), (.q (.move (.tmp 8))), none⟩, ⟨(some 135), (.q (.sliceStr (.tmp 133) (some (.tmp 134)) none)), none⟩, ⟨(some 136), (.q (.move (.tmp 1))), none⟩, ⟨(some 137), (.s (.call 186 [(.tmp 135), (.tmp 136)])), none⟩, ⟨(some 13), (.q (.move (.tmp 137))), none⟩]) 
    (.seq 
    (.seq 
    (.region [⟨(some 138), (.q (.move (.tmp 13))), none⟩, ⟨(some 139), (.q (.bin .lss (.tmp 138) (.const (.int .i64 0)))), none⟩]) 
    (.cond (.tmp 139) 
    (.seq 
    (.region [⟨(some 4), (.q (.move (.const (.int .i64 (-1))))), none⟩]) .ret) .skip)) 
    (.seq 
    (.region [⟨(some 140), (.q (.move (.tmp 8))), none⟩, ⟨(some 141), (.q (.move (.tmp 13))), none⟩, ⟨(some 142), (.q (.bin .add (.tmp 140) (.tmp 141))), none⟩, ⟨(some 4), (.q (.move (.tmp 142))), none⟩]) .ret))) .skip)))))))))))) 
    (.seq 
    (.region [⟨(some 4), (.q (.move (.const (.int .i64 (-1))))), none⟩]) .ret))))))))))
theorem t171 : Told Try.prog 171 143 c171 [(.tmp 4)] := ⟨Try.f171, _, [], Try.func171, rfl, by kernel_rfl, rfl, by kernel_rfl, by kernel_rfl⟩
def c151 : ACode := 
    (.seq 
    (.region [⟨(some 4), (.q (.move (.const (.str (B []))))), none⟩, ⟨(some 5), (.q (.move (.const (.str (B []))))), none⟩, ⟨(some 6), (.q (.move (.const (.bool false)))), none⟩]) 
    (.seq 
    (.seq 
    (.region [⟨(some 8), (.q (.move (.tmp 0))), none⟩, ⟨(some 9), (.q (.move (.tmp 1))), none⟩, ⟨(some 10), (.s (.call 171 [(.tmp 8), (.tmp 9)])), none⟩, ⟨(some 7), (.q (.move (.tmp 10))), none⟩]) 
    (.seq 
    (.region [⟨(some 11), (.q (.move (.tmp 7))), none⟩, ⟨(some 12), (.q (.bin .geq (.tmp 11) (.const (.int .i64 0)))), none⟩]) 
    (.cond (.tmp 12) 
    (.seq 
    (.region [⟨(some 13), (.q (.move (.tmp 0))), none⟩, ⟨(some 14), (.q (.move (.tmp 7))), none⟩, ⟨(some 15), (.q (.sliceStr (.tmp 13) none (some (.tmp 14)))), none⟩, ⟨(some 16), (.q (.move (.tmp 0))), none⟩, ⟨(some 17), (.q (.move (.tmp 7))), none⟩, ⟨(some 18), (.q (.move (.tmp 1))), none⟩, ⟨(some 19), (.q (.len true (.tmp 18))), none⟩, ⟨(some 20), (.q (.bin .add (.tmp 17) (.tmp 19))), none⟩, ⟨(some 21), (.q (.sliceStr (.tmp 16) (some (.tmp 20)) none)), none⟩, ⟨(some 4), (.q (.move (.tmp 15))), none⟩, ⟨(some 5), (.q (.move (.tmp 21))), none⟩, ⟨(some 6), (.q (.move (.const (.bool true)))), none⟩]) .ret) .skip))) 
    (.seq 
    (.region [⟨(some 22), (.q (.move (.tmp 0))), none⟩, ⟨(some 4), (.q (.move (.tmp 22))), none⟩, ⟨(some 5), (.q (.move (.const (.str (B []))))), none⟩, ⟨(some 6), (.q (.move (.const (.bool false)))), none⟩]) .ret)))
theorem t151 : Told Try.prog 151 23 c151 [(.tmp 4), (.tmp 5), (.tmp 6)] := ⟨Try.f151, _, [], Try.func151, rfl, by kernel_rfl, rfl, by kernel_rfl, by kernel_rfl⟩
def c111 : ACode := 
    (.seq 
    (.region [⟨(some 4), (.q (.move (.const (.str (B []))))), none⟩, ⟨(some 5), (.q (.move (.const (.str (B []))))), none⟩, ⟨(some 6), (.q (.move (.const (.bool false)))), none⟩]) 
    (.seq 
    (.region [⟨(some 7), (.q (.move (.tmp 0))), none⟩, ⟨(some 8), (.q (.move (.tmp 1))), none⟩, ⟨(some 9), (.s (.call 151 [(.tmp 7), (.tmp 8)])), none⟩, ⟨(some 10), (.q (.extract 0 (.tmp 9))), none⟩, ⟨(some 11), (.q (.extract 1 (.tmp 9))), none⟩, ⟨(some 12), (.q (.extract 2 (.tmp 9))), none⟩, ⟨(some 4), (.q (.move (.tmp 10))), none⟩, ⟨(some 5), (.q (.move (.tmp 11))), none⟩, ⟨(some 6), (.q (.move (.tmp 12))), none⟩]) .ret))
theorem t111 : Told Try.prog 111 13 c111 [(.tmp 4), (.tmp 5), (.tmp 6)] := ⟨Try.f111, _, [], Try.func111, rfl, by kernel_rfl, rfl, by kernel_rfl, by kernel_rfl⟩
end Go.Proofs.Ytfilheaaacffmaa.AL

