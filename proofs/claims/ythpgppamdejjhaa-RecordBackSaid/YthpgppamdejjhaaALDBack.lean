/- The code of the law RecordBack told, as the kernel evaluates it. -/
import Derived.Test.YthpgppamdejjhaaAL14
import Derived.Test.YthpgppamdejjhaaProg
import Derived.KernelRfl
set_option maxRecDepth 100000
namespace Go.Proofs.Ythpgppamdejjhaa.AL
open Go Go.Proofs
def c30 : ACode := 
    (.seq 
    (.region [⟨(some 0), (.q (.move (.const (.bool false)))), none⟩]) 
    (.seq 
    (.region [⟨(some 8), (.q (.build [(.int .i64 0), (.str (B []))] [(0, (1, (.const (.int .i64 7)))), (1, (1, (.const (.str (B [97, 61, 49])))))])), none⟩, ⟨(some 9), (.s (.call 31 [(.tmp 8)])), none⟩, ⟨(some 7), (.q (.move (.tmp 9))), none⟩, ⟨(some 10), (.q (.extract 0 (.tmp 7))), none⟩, ⟨(some 11), (.q (.extract 1 (.tmp 7))), none⟩, ⟨(some 1), (.q (.move (.tmp 10))), none⟩, ⟨(some 2), (.q (.move (.tmp 11))), none⟩]) 
    (.seq 
    (.region [⟨(some 13), (.q (.move (.tmp 1))), none⟩, ⟨(some 14), (.q (.bin .add (.const (.str (B [80, 69, 78, 86]))) (.tmp 13))), none⟩, ⟨(some 15), (.q (.bin .add (.tmp 14) (.const (.str (B [255, 255]))))), none⟩, ⟨(some 16), (.s (.call 33 [(.tmp 15)])), none⟩, ⟨(some 12), (.q (.move (.tmp 16))), none⟩, ⟨(some 17), (.q (.extract 0 (.tmp 12))), none⟩, ⟨(some 18), (.q (.extract 1 (.tmp 12))), none⟩, ⟨(some 3), (.s (.alloc 46 [(.int .i64 0), (.str (B []))])), none⟩, ⟨none, (.s (.store 2 (.tmp 3) (.tmp 17))), none⟩, ⟨(some 4), (.q (.move (.tmp 18))), none⟩]) 
    (.seq 
    (.region [⟨(some 20), (.q (.move (.tmp 1))), none⟩, ⟨(some 21), (.q (.bin .add (.const (.str (B [80, 69, 78, 88]))) (.tmp 20))), none⟩, ⟨(some 22), (.s (.call 33 [(.tmp 21)])), none⟩, ⟨(some 19), (.q (.move (.tmp 22))), none⟩, ⟨(some 23), (.q (.extract 0 (.tmp 19))), none⟩, ⟨(some 24), (.q (.extract 1 (.tmp 19))), none⟩, ⟨(some 5), (.s (.alloc 46 [(.int .i64 0), (.str (B []))])), none⟩, ⟨none, (.s (.store 2 (.tmp 5) (.tmp 23))), none⟩, ⟨(some 6), (.q (.move (.tmp 24))), none⟩]) 
    (.seq 
    (.region [⟨(some 25), (.q (.move (.tmp 1))), none⟩, ⟨(some 26), (.q (.len true (.tmp 25))), none⟩, ⟨(some 27), (.q (.bin .eql (.tmp 26) (.const (.int .i64 15)))), none⟩, ⟨(some 28), (.q (.move (.tmp 27))), none⟩, ⟨(some 29), (.q (.move (.tmp 2))), (some (28, true))⟩, ⟨(some 30), (.q (.bin .eql (.tmp 29) (.const (.int .i64 0)))), (some (28, true))⟩, ⟨(some 31), (.q (.pick (.tmp 28) (.tmp 30) (.const (.bool false)))), none⟩, ⟨(some 32), (.q (.move (.tmp 31))), none⟩, ⟨(some 33), (.q (.load true 2 (.tmp 3))), (some (32, true))⟩, ⟨(some 34), (.q (.build [(.int .i64 0), (.str (B []))] [(0, (1, (.const (.int .i64 7)))), (1, (1, (.const (.str (B [97, 61, 49])))))])), (some (32, true))⟩, ⟨(some 35), (.q 
    (.seq [(.i .i64), .s] false (.tmp 33) (.tmp 34))), (some (32, true))⟩, ⟨(some 36), (.q (.pick (.tmp 32) (.tmp 35) (.const (.bool false)))), none⟩, ⟨(some 37), (.q (.move (.tmp 36))), none⟩, ⟨(some 38), (.q (.move (.tmp 4))), (some (37, true))⟩, ⟨(some 39), (.q (.bin .eql (.tmp 38) (.const (.int .i64 0)))), (some (37, true))⟩, ⟨(some 40), (.q (.pick (.tmp 37) (.tmp 39) (.const (.bool false)))), none⟩, ⟨(some 41), (.q (.move (.tmp 40))), none⟩, ⟨(some 42), (.q (.move (.tmp 6))), (some (41, true))⟩, ⟨(some 43), (.q (.bin .eql (.tmp 42) (.const (.int .i64 6)))), (some (41, true))⟩, ⟨(some 44), (.q (.pick (.tmp 41) (.tmp 43) (.const (.bool false)))), none⟩, ⟨(some 45), (.q (.move (.tmp 44))), none⟩, ⟨(some 46), (.s (.call 35 [(.const (.int .i64 0)), (.const (.int .i64 4294967295))])), (some (45, true))⟩, ⟨(some 47), (.q (.pick (.tmp 45) (.tmp 46) (.const (.bool false)))), none⟩, ⟨(some 48), (.q (.move (.tmp 47))), none⟩, ⟨(some 49), (.s (.call 37 [(.const (.int .i64 4294967295))])), (some (48, true))⟩, ⟨(some 50), (.q (.bin .eql (.tmp 49) (.const (.int .i64 0)))), (some (48, true))⟩, ⟨(some 51), (.q (.pick (.tmp 48) (.tmp 50) (.const (.bool false)))), none⟩, ⟨(some 0), (.q (.move (.tmp 51))), none⟩]) .ret)))))
theorem t30 : Told Try.prog 30 52 c30 [(.tmp 0)] := ⟨Try.f30, _, Try.func30, rfl, by kernel_rfl, rfl, by kernel_rfl, by kernel_rfl⟩
def c9 : ACode := 
    (.seq 
    (.region [⟨(some 3), (.s (.box 46 (.tmp 0))), none⟩, ⟨(some 6), (.q (.move (.const (.bool false)))), none⟩]) 
    (.seq 
    (.region [⟨(some 18), (.q (.move (.tmp 2))), none⟩, ⟨(some 19), (.q (.bin .rem (.tmp 18) (.const (.int .u32 65536)))), none⟩, ⟨(some 20), (.q (.move (.tmp 2))), none⟩, ⟨(some 21), (.q (.bin .shr (.tmp 20) (.const (.int .u64 16)))), none⟩, ⟨(some 22), (.q (.conv .u8 (.tmp 21))), none⟩, ⟨(some 7), (.q (.move (.tmp 19))), none⟩, ⟨(some 8), (.q (.move (.tmp 22))), none⟩]) 
    (.seq 
    (.seq 
    (.region [⟨(some 23), (.q (.fieldAddr 1 (.tmp 3))), none⟩, ⟨(some 24), (.q (.load false 1 (.tmp 23))), none⟩, ⟨(some 25), (.q (.len true (.tmp 24))), none⟩, ⟨(some 26), (.q (.bin .gtr (.tmp 25) (.const (.int .i64 496)))), none⟩, ⟨(some 27), (.q (.move (.tmp 26))), none⟩, ⟨(some 28), (.q (.move (.tmp 1))), (some (27, false))⟩, ⟨(some 29), (.q (.len true (.tmp 28))), (some (27, false))⟩, ⟨(some 30), (.q (.bin .gtr (.tmp 29) (.const (.int .i64 100)))), (some (27, false))⟩, ⟨(some 31), (.q (.pick (.tmp 27) (.const (.bool true)) (.tmp 30))), none⟩]) 
    (.cond (.tmp 31) 
    (.seq 
    (.region [⟨(some 32), (.s (.call 30 [])), none⟩, ⟨(some 6), (.q (.move (.tmp 32))), none⟩]) .ret) .skip)) 
    (.seq 
    (.region [⟨(some 34), (.q (.load true 2 (.tmp 3))), none⟩, ⟨(some 35), (.s (.call 31 [(.tmp 34)])), none⟩, ⟨(some 33), (.q (.move (.tmp 35))), none⟩, ⟨(some 36), (.q (.extract 0 (.tmp 33))), none⟩, ⟨(some 37), (.q (.extract 1 (.tmp 33))), none⟩, ⟨(some 9), (.q (.move (.tmp 36))), none⟩, ⟨(some 10), (.q (.move (.tmp 37))), none⟩]) 
    (.seq 
    (.seq 
    (.region [⟨(some 38), (.q (.move (.tmp 10))), none⟩, ⟨(some 39), (.q (.bin .neq (.tmp 38) (.const (.int .i64 0)))), none⟩]) 
    (.cond (.tmp 39) 
    (.seq 
    (.region [⟨(some 40), (.q (.fieldAddr 0 (.tmp 3))), none⟩, ⟨(some 41), (.q (.load false 1 (.tmp 40))), none⟩, ⟨(some 42), (.q (.bin .lss (.tmp 41) (.const (.int .i64 0)))), none⟩, ⟨(some 43), (.q (.move (.tmp 42))), none⟩, ⟨(some 44), (.q (.fieldAddr 0 (.tmp 3))), (some (43, false))⟩, ⟨(some 45), (.q (.load false 1 (.tmp 44))), (some (43, false))⟩, ⟨(some 46), (.q (.bin .gtr (.tmp 45) (.const (.int .i64 4294967295)))), (some (43, false))⟩, ⟨(some 47), (.q (.pick (.tmp 43) (.const (.bool true)) (.tmp 46))), none⟩, ⟨(some 48), (.q (.move (.tmp 47))), none⟩, ⟨(some 49), (.q (.move (.tmp 9))), (some (48, true))⟩, ⟨(some 50), (.q (.bin .eql (.tmp 49) (.const (.str (B []))))), (some (48, true))⟩, ⟨(some 51), (.q (.pick (.tmp 48) (.tmp 50) (.const (.bool false)))), none⟩, ⟨(some 52), (.q (.move (.tmp 51))), none⟩, ⟨(some 53), (.s (.call 30 [])), (some (52, true))⟩, ⟨(some 54), (.q (.pick (.tmp 52) (.tmp 53) (.const (.bool false)))), none⟩, ⟨(some 6), (.q (.move (.tmp 54))), none⟩]) .ret) .skip)) 
    (.seq 
    (.region [⟨(some 55), (.q (.move (.tmp 9))), none⟩, ⟨(some 56), (.q (.bin .add (.const (.str (B [80, 69, 78, 86]))) (.tmp 55))), none⟩, ⟨(some 11), (.q (.move (.tmp 56))), none⟩]) 
    (.seq 
    (.region [⟨(some 58), (.q (.move (.tmp 11))), none⟩, ⟨(some 59), (.q (.move (.tmp 1))), none⟩, ⟨(some 60), (.q (.bin .add (.tmp 58) (.tmp 59))), none⟩, ⟨(some 61), (.s (.call 33 [(.tmp 60)])), none⟩, ⟨(some 57), (.q (.move (.tmp 61))), none⟩, ⟨(some 62), (.q (.extract 0 (.tmp 57))), none⟩, ⟨(some 63), (.q (.extract 1 (.tmp 57))), none⟩, ⟨(some 12), (.s (.alloc 46 [(.int .i64 0), (.str (B []))])), none⟩, ⟨none, (.s (.store 2 (.tmp 12) (.tmp 62))), none⟩, ⟨(some 13), (.q (.move (.tmp 63))), none⟩]) 
    (.seq 
    (.seq 
    (.region [⟨(some 64), (.q (.load true 2 (.tmp 12))), none⟩, ⟨(some 65), (.q (.load true 2 (.tmp 3))), none⟩, ⟨(some 66), (.q 
    (.seq [(.i .i64), .s] true (.tmp 64) (.tmp 65))), none⟩, ⟨(some 67), (.q (.move (.tmp 66))), none⟩, ⟨(some 68), (.q (.move (.tmp 13))), (some (67, false))⟩, ⟨(some 69), (.q (.bin .neq (.tmp 68) (.const (.int .i64 0)))), (some (67, false))⟩, ⟨(some 70), (.q (.pick (.tmp 67) (.const (.bool true)) (.tmp 69))), none⟩, ⟨(some 71), (.q (.move (.tmp 70))), none⟩, ⟨(some 72), (.q (.move (.tmp 11))), (some (71, false))⟩, ⟨(some 73), (.q (.len true (.tmp 72))), (some (71, false))⟩, ⟨(some 74), (.q (.fieldAddr 1 (.tmp 3))), (some (71, false))⟩, ⟨(some 75), (.q (.load false 1 (.tmp 74))), (some (71, false))⟩, ⟨(some 76), (.q (.len true (.tmp 75))), (some (71, false))⟩, ⟨(some 77), (.q (.bin .add (.const (.int .i64 16)) (.tmp 76))), (some (71, false))⟩, ⟨(some 78), (.q (.bin .neq (.tmp 73) (.tmp 77))), (some (71, false))⟩, ⟨(some 79), (.q (.pick (.tmp 71) (.const (.bool true)) (.tmp 78))), none⟩, ⟨(some 80), (.q (.move (.tmp 79))), none⟩, ⟨(some 81), (.q (.move (.tmp 8))), (some (80, false))⟩, ⟨(some 82), (.q (.bin .eql (.tmp 81) (.const (.int .u8 0)))), (some (80, false))⟩, ⟨(some 83), (.q (.pick (.tmp 80) (.const (.bool true)) (.tmp 82))), none⟩]) 
    (.cond (.tmp 83) 
    (.seq 
    (.region [⟨(some 84), (.q (.move (.tmp 8))), none⟩, ⟨(some 85), (.q (.bin .eql (.tmp 84) (.const (.int .u8 0)))), none⟩, ⟨(some 86), (.q (.move (.tmp 85))), none⟩, ⟨(some 87), (.q (.load true 2 (.tmp 12))), (some (86, true))⟩, ⟨(some 88), (.q (.load true 2 (.tmp 3))), (some (86, true))⟩, ⟨(some 89), (.q 
    (.seq [(.i .i64), .s] false (.tmp 87) (.tmp 88))), (some (86, true))⟩, ⟨(some 90), (.q (.pick (.tmp 86) (.tmp 89) (.const (.bool false)))), none⟩, ⟨(some 91), (.q (.move (.tmp 90))), none⟩, ⟨(some 92), (.q (.move (.tmp 13))), (some (91, true))⟩, ⟨(some 93), (.q (.bin .eql (.tmp 92) (.const (.int .i64 0)))), (some (91, true))⟩, ⟨(some 94), (.q (.pick (.tmp 91) (.tmp 93) (.const (.bool false)))), none⟩, ⟨(some 95), (.q (.move (.tmp 94))), none⟩, ⟨(some 96), (.s (.call 30 [])), (some (95, true))⟩, ⟨(some 97), (.q (.pick (.tmp 95) (.tmp 96) (.const (.bool false)))), none⟩, ⟨(some 6), (.q (.move (.tmp 97))), none⟩]) .ret) .skip)) 
    (.seq 
    (.region [⟨(some 98), (.q (.move (.tmp 11))), none⟩, ⟨(some 99), (.s (.s2b 5 (.tmp 98))), none⟩, ⟨(some 14), (.q (.move (.tmp 99))), none⟩]) 
    (.seq 
    (.region [⟨(some 100), (.q (.move (.tmp 7))), none⟩, ⟨(some 101), (.q (.conv .i64 (.tmp 100))), none⟩, ⟨(some 102), (.q (.move (.tmp 14))), none⟩, ⟨(some 103), (.q (.len false (.tmp 102))), none⟩, ⟨(some 104), (.q (.bin .rem (.tmp 101) (.tmp 103))), none⟩, ⟨(some 15), (.q (.move (.tmp 104))), none⟩]) 
    (.seq 
    (.seq 
    (.region [⟨(some 105), (.q (.move (.tmp 15))), none⟩, ⟨(some 106), (.q (.bin .geq (.tmp 105) (.const (.int .i64 8)))), none⟩, ⟨(some 107), (.q (.move (.tmp 106))), none⟩, ⟨(some 108), (.q (.move (.tmp 15))), (some (107, true))⟩, ⟨(some 109), (.q (.bin .lss (.tmp 108) (.const (.int .i64 12)))), (some (107, true))⟩, ⟨(some 110), (.q (.pick (.tmp 107) (.tmp 109) (.const (.bool false)))), none⟩]) 
    (.cond (.tmp 110) 
    (.seq 
    (.region [⟨(some 111), (.s (.call 30 [])), none⟩, ⟨(some 6), (.q (.move (.tmp 111))), none⟩]) .ret) .skip)) 
    (.seq 
    (.region [⟨(some 112), (.q (.move (.tmp 14))), none⟩, ⟨(some 113), (.q (.move (.tmp 15))), none⟩, ⟨(some 114), (.q (.move (.tmp 14))), none⟩, ⟨(some 115), (.q (.move (.tmp 15))), none⟩, ⟨(some 116), (.q (.idxSl 1 (.tmp 114) (.tmp 115))), none⟩, ⟨(some 117), (.q (.load false 1 (.tmp 116))), none⟩, ⟨(some 118), (.q (.move (.tmp 8))), none⟩, ⟨(some 119), (.q (.bin .xor (.tmp 117) (.tmp 118))), none⟩, ⟨(some 120), (.q (.idxSl 1 (.tmp 112) (.tmp 113))), none⟩, ⟨none, (.s (.store 1 (.tmp 120) (.tmp 119))), none⟩]) 
    (.seq 
    (.region [⟨(some 122), (.q (.move (.tmp 14))), none⟩, ⟨(some 123), (.q (.b2s (.tmp 122))), none⟩, ⟨(some 124), (.s (.call 33 [(.tmp 123)])), none⟩, ⟨(some 121), (.q (.move (.tmp 124))), none⟩, ⟨(some 125), (.q (.extract 0 (.tmp 121))), none⟩, ⟨(some 126), (.q (.extract 1 (.tmp 121))), none⟩, ⟨(some 16), (.s (.alloc 46 [(.int .i64 0), (.str (B []))])), none⟩, ⟨none, (.s (.store 2 (.tmp 16) (.tmp 125))), none⟩, ⟨(some 17), (.q (.move (.tmp 126))), none⟩]) 
    (.seq 
    (.region [⟨(some 127), (.q (.move (.tmp 17))), none⟩, ⟨(some 128), (.q (.bin .neq (.tmp 127) (.const (.int .i64 0)))), none⟩, ⟨(some 129), (.q (.move (.tmp 128))), none⟩, ⟨(some 130), (.q (.load true 2 (.tmp 16))), (some (129, true))⟩, ⟨(some 131), (.q (.build [(.int .i64 0), (.str (B []))] [])), (some (129, true))⟩, ⟨(some 132), (.q 
    (.seq [(.i .i64), .s] false (.tmp 130) (.tmp 131))), (some (129, true))⟩, ⟨(some 133), (.q (.pick (.tmp 129) (.tmp 132) (.const (.bool false)))), none⟩, ⟨(some 134), (.q (.move (.tmp 133))), none⟩, ⟨(some 135), (.s (.call 30 [])), (some (134, true))⟩, ⟨(some 136), (.q (.pick (.tmp 134) (.tmp 135) (.const (.bool false)))), none⟩, ⟨(some 6), (.q (.move (.tmp 136))), none⟩]) .ret))))))))))))))
theorem t9 : Told Try.prog 9 137 c9 [(.tmp 6)] := ⟨Try.f9, _, Try.func9, rfl, by kernel_rfl, rfl, by kernel_rfl, by kernel_rfl⟩
end Go.Proofs.Ythpgppamdejjhaa.AL
