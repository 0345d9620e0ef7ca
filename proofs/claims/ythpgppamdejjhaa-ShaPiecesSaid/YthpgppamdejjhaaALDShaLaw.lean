/- The code of sha's laws told, as the kernel evaluates it. -/
import Derived.Test.YthpgppamdejjhaaAL14
import Derived.Test.YthpgppamdejjhaaProg
import Derived.KernelRfl
set_option maxRecDepth 100000
namespace Go.Proofs.Ythpgppamdejjhaa.AL
open Go Go.Proofs
def c70 : ACode := 
    (.seq 
    (.region [⟨(some 2), (.q (.move (.const (.str (B []))))), none⟩]) 
    (.seq 
    (.region [⟨(some 3), (.q (.move (.const (.str (B []))))), none⟩]) 
    (.seq 
    (.seq 
    (.region [⟨(some 4), (.q (.move (.const (.int .i64 0)))), none⟩]) 
    (.block 0 
    (.loop 
    (.seq 
    (.seq 
    (.region [⟨(some 7), (.q (.move (.tmp 4))), none⟩, ⟨(some 8), (.q (.move (.tmp 0))), none⟩, ⟨(some 9), (.q (.len true (.tmp 8))), none⟩, ⟨(some 10), (.q (.bin .lss (.tmp 7) (.tmp 9))), none⟩]) 
    (.cond (.tmp 10) .skip (.exit 0))) 
    (.seq 
    (.block 1 
    (.seq 
    (.region [⟨(some 13), (.q (.move (.tmp 0))), none⟩, ⟨(some 14), (.q (.move (.tmp 4))), none⟩, ⟨(some 15), (.q (.idxStr (.tmp 13) (.tmp 14))), none⟩, ⟨(some 16), (.q (.conv .i64 (.tmp 15))), none⟩, ⟨(some 17), (.q (.bin .quo (.tmp 16) (.const (.int .i64 16)))), none⟩, ⟨(some 18), (.q (.move (.tmp 0))), none⟩, ⟨(some 19), (.q (.move (.tmp 4))), none⟩, ⟨(some 20), (.q (.idxStr (.tmp 18) (.tmp 19))), none⟩, ⟨(some 21), (.q (.conv .i64 (.tmp 20))), none⟩, ⟨(some 22), (.q (.bin .rem (.tmp 21) (.const (.int .i64 16)))), none⟩, ⟨(some 5), (.q (.move (.tmp 17))), none⟩, ⟨(some 6), (.q (.move (.tmp 22))), none⟩]) 
    (.region [⟨(some 23), (.q (.move (.tmp 3))), none⟩, ⟨(some 24), (.q (.move (.tmp 5))), none⟩, ⟨(some 25), (.q (.move (.tmp 5))), none⟩, ⟨(some 26), (.q (.bin .add (.tmp 25) (.const (.int .i64 1)))), none⟩, ⟨(some 27), (.q (.sliceStr (.const (.str (B [48, 49, 50, 51, 52, 53, 54, 55, 56, 57, 97, 98, 99, 100, 101, 102]))) (some (.tmp 24)) (some (.tmp 26)))), none⟩, ⟨(some 28), (.q (.bin .add (.tmp 23) (.tmp 27))), none⟩, ⟨(some 29), (.q (.move (.tmp 6))), none⟩, ⟨(some 30), (.q (.move (.tmp 6))), none⟩, ⟨(some 31), (.q (.bin .add (.tmp 30) (.const (.int .i64 1)))), none⟩, ⟨(some 32), (.q (.sliceStr (.const (.str (B [48, 49, 50, 51, 52, 53, 54, 55, 56, 57, 97, 98, 99, 100, 101, 102]))) (some (.tmp 29)) (some (.tmp 31)))), none⟩, ⟨(some 33), (.q (.bin .add (.tmp 28) (.tmp 32))), none⟩, ⟨(some 3), (.q (.move (.tmp 33))), none⟩]))) 
    (.region [⟨(some 11), (.q (.move (.tmp 4))), none⟩, ⟨(some 12), (.q (.bin .add (.tmp 11) (.const (.int .i64 1)))), none⟩, ⟨(some 4), (.q (.move (.tmp 12))), none⟩])))))) 
    (.seq 
    (.region [⟨(some 34), (.q (.move (.tmp 3))), none⟩, ⟨(some 2), (.q (.move (.tmp 34))), none⟩]) .ret))))
theorem t70 : Told Try.prog 70 35 c70 [(.tmp 2)] := ⟨Try.f70, _, [], Try.func70, rfl, by kernel_rfl, rfl, by kernel_rfl, by kernel_rfl⟩
def c48 : ACode := 
    (.seq 
    (.region [⟨(some 0), (.q (.move (.const (.bool false)))), none⟩]) 
    (.seq 
    (.region [⟨(some 1), (.s (.alloc 72 [(.bool false), (.int .u32 0), (.int .u32 0), (.int .u32 0), (.int .u32 0), (.int .u32 0), (.int .u32 0), (.int .u32 0), (.int .u32 0), (.int .u8 0), (.int .u8 0), (.int .u8 0), (.int .u8 0), (.int .u8 0), (.int .u8 0), (.int .u8 0), (.int .u8 0), (.int .u8 0), (.int .u8 0), (.int .u8 0), (.int .u8 0), (.int .u8 0), (.int .u8 0), (.int .u8 0), (.int .u8 0), (.int .u8 0), (.int .u8 0), (.int .u8 0), (.int .u8 0), (.int .u8 0), (.int .u8 0), (.int .u8 0), (.int .u8 0), (.int .u8 0), (.int .u8 0), (.int .u8 0), (.int .u8 0), (.int .u8 0), (.int .u8 0), (.int .u8 0), (.int .u8 0), (.int .u8 0), (.int .u8 0), (.int .u8 0), (.int .u8 0), (.int .u8 0), (.int .u8 0), (.int .u8 0), (.int .u8 0), (.int .u8 0), (.int .u8 0), (.int .u8 0), (.int .u8 0), (.int .u8 0), (.int .u8 0), (.int .u8 0), (.int .u8 0), (.int .u8 0), (.int .u8 0), (.int .u8 0), (.int .u8 0), (.int .u8 0), (.int .u8 0), (.int .u8 0), (.int .u8 0), (.int .u8 0), (.int .u8 0), (.int .u8 0), (.int .u8 0), (.int .u8 0), (.int .u8 0), (.int .u8 0), (.int .u8 0), (.int .i64 0), (.int .i64 0)])), none⟩]) 
    (.seq 
    (.region [⟨(some 2), (.s (.lit 9 1 [(.const (.str (B [97]))), (.const (.str (B [98, 99])))])), none⟩, ⟨(some 3), (.s (.call 50 [(.tmp 1), (.tmp 2)])), none⟩]) 
    (.seq 
    (.region [⟨(some 4), (.s (.lit 9 1 [(.const (.str (B [97, 98, 99])))])), none⟩, ⟨(some 5), (.s (.call 45 [(.tmp 4)])), none⟩, ⟨(some 6), (.s (.call 70 [(.tmp 5)])), none⟩, ⟨(some 7), (.q (.bin .eql (.tmp 6) (.const (.str (B [98, 97, 55, 56, 49, 54, 98, 102, 56, 102, 48, 49, 99, 102, 101, 97, 52, 49, 52, 49, 52, 48, 100, 101, 53, 100, 97, 101, 50, 50, 50, 51, 98, 48, 48, 51, 54, 49, 97, 51, 57, 54, 49, 55, 55, 97, 57, 99, 98, 52, 49, 48, 102, 102, 54, 49, 102, 50, 48, 48, 49, 53, 97, 100]))))), none⟩, ⟨(some 8), (.q (.move (.tmp 7))), none⟩, ⟨(some 9), (.s (.call 51 [(.tmp 1)])), (some (8, true))⟩, ⟨(some 10), (.s (.lit 9 1 [(.const (.str (B [97, 98, 99])))])), (some (8, true))⟩, ⟨(some 11), (.s (.call 45 [(.tmp 10)])), (some (8, true))⟩, ⟨(some 12), (.q (.bin .eql (.tmp 9) (.tmp 11))), (some (8, true))⟩, ⟨(some 13), (.q (.pick (.tmp 8) (.tmp 12) (.const (.bool false)))), none⟩, ⟨(some 14), (.q (.move (.tmp 13))), none⟩, ⟨(some 15), (.s (.call 52 [(.tmp 1)])), (some (14, true))⟩, ⟨(some 16), (.q (.bin .eql (.tmp 15) (.const (.int .i64 3)))), (some (14, true))⟩, ⟨(some 17), (.q (.pick (.tmp 14) (.tmp 16) (.const (.bool false)))), none⟩, ⟨(some 18), (.q (.move (.tmp 17))), none⟩, ⟨(some 19), (.s (.call 47 [(.const (.str (B [97]))), (.const (.str (B [97])))])), (some (18, true))⟩, ⟨(some 20), (.q (.pick (.tmp 18) (.tmp 19) (.const (.bool false)))), none⟩, ⟨(some 21), (.q (.move (.tmp 20))), none⟩, ⟨(some 22), (.s (.call 47 [(.const (.str (B [97]))), (.const (.str (B [98])))])), (some (21, true))⟩, ⟨(some 23), (.q (.un .not (.tmp 22))), (some (21, true))⟩, ⟨(some 24), (.q (.pick (.tmp 21) (.tmp 23) (.const (.bool false)))), none⟩, ⟨(some 0), (.q (.move (.tmp 24))), none⟩]) .ret))))
theorem t48 : Told Try.prog 48 25 c48 [(.tmp 0)] := ⟨Try.f48, _, [], Try.func48, rfl, by kernel_rfl, rfl, by kernel_rfl, by kernel_rfl⟩
def c13 : ACode := 
    (.seq 
    (.region [⟨(some 4), (.q (.move (.const (.bool false)))), none⟩]) 
    (.seq 
    (.region [⟨(some 5), (.q (.move (.tmp 0))), none⟩, ⟨(some 6), (.q (.len true (.tmp 5))), none⟩, ⟨(some 7), (.q (.bin .gtr (.tmp 6) (.const (.int .i64 1024)))), none⟩, ⟨(some 8), (.q (.move (.tmp 7))), none⟩, ⟨(some 9), (.q (.move (.tmp 1))), (some (8, false))⟩, ⟨(some 10), (.q (.len true (.tmp 9))), (some (8, false))⟩, ⟨(some 11), (.q (.bin .gtr (.tmp 10) (.const (.int .i64 1024)))), (some (8, false))⟩, ⟨(some 12), (.q (.pick (.tmp 8) (.const (.bool true)) (.tmp 11))), none⟩, ⟨(some 13), (.q (.move (.tmp 12))), none⟩, ⟨(some 14), (.q (.move (.tmp 0))), (some (13, false))⟩, ⟨(some 15), (.s (.lit 9 1 [(.tmp 14)])), (some (13, false))⟩, ⟨(some 16), (.s (.call 45 [(.tmp 15)])), (some (13, false))⟩, ⟨(some 17), (.q (.move (.tmp 0))), (some (13, false))⟩, ⟨(some 18), (.s (.call 46 [(.tmp 17)])), (some (13, false))⟩, ⟨(some 19), (.q (.bin .eql (.tmp 16) (.tmp 18))), (some (13, false))⟩, ⟨(some 20), (.q (.move (.tmp 19))), (some (13, false))⟩, ⟨(some 21), (.q (.move (.tmp 0))), (some (20, true))⟩, ⟨(some 22), (.q (.move (.tmp 1))), (some (20, true))⟩, ⟨(some 23), (.s (.call 47 [(.tmp 21), (.tmp 22)])), (some (20, true))⟩, ⟨(some 24), (.q (.move (.tmp 0))), (some (20, true))⟩, ⟨(some 25), (.q (.move (.tmp 1))), (some (20, true))⟩, ⟨(some 26), (.q (.bin .eql (.tmp 24) (.tmp 25))), (some (20, true))⟩, ⟨(some 27), (.q (.beq false (.tmp 23) (.tmp 26))), (some (20, true))⟩, ⟨(some 28), (.q (.pick (.tmp 20) (.tmp 27) (.const (.bool false)))), (some (13, false))⟩, ⟨(some 29), (.q (.move (.tmp 28))), (some (13, false))⟩, ⟨(some 30), (.q (.move (.tmp 0))), (some (29, true))⟩, ⟨(some 31), (.q (.move (.tmp 0))), (some (29, true))⟩, ⟨(some 32), (.s (.call 47 [(.tmp 30), (.tmp 31)])), (some (29, true))⟩, ⟨(some 33), (.q (.pick (.tmp 29) (.tmp 32) (.const (.bool false)))), (some (13, false))⟩, ⟨(some 34), (.q (.pick (.tmp 13) (.const (.bool true)) (.tmp 33))), none⟩, ⟨(some 35), (.q (.move (.tmp 34))), none⟩, ⟨(some 36), (.s (.call 48 [])), (some (35, true))⟩, ⟨(some 37), (.q (.pick (.tmp 35) (.tmp 36) (.const (.bool false)))), none⟩, ⟨(some 4), (.q (.move (.tmp 37))), none⟩]) .ret))
theorem t13 : Told Try.prog 13 38 c13 [(.tmp 4)] := ⟨Try.f13, _, [], Try.func13, rfl, by kernel_rfl, rfl, by kernel_rfl, by kernel_rfl⟩
def c14 : ACode := 
    (.seq 
    (.region [⟨(some 2), (.q (.move (.const (.bool false)))), none⟩]) 
    (.seq 
    (.seq 
    (.region [⟨(some 9), (.q (.move (.tmp 0))), none⟩, ⟨(some 10), (.s (.call 49 [(.tmp 9)])), none⟩, ⟨(some 11), (.q (.un .not (.tmp 10))), none⟩]) 
    (.cond (.tmp 11) 
    (.seq 
    (.region [⟨(some 12), (.s (.call 48 [])), none⟩, ⟨(some 2), (.q (.move (.tmp 12))), none⟩]) .ret) .skip)) 
    (.seq 
    (.region [⟨(some 13), (.q (.build [(.bool false), (.int .u32 0), (.int .u32 0), (.int .u32 0), (.int .u32 0), (.int .u32 0), (.int .u32 0), (.int .u32 0), (.int .u32 0), (.int .u8 0), (.int .u8 0), (.int .u8 0), (.int .u8 0), (.int .u8 0), (.int .u8 0), (.int .u8 0), (.int .u8 0), (.int .u8 0), (.int .u8 0), (.int .u8 0), (.int .u8 0), (.int .u8 0), (.int .u8 0), (.int .u8 0), (.int .u8 0), (.int .u8 0), (.int .u8 0), (.int .u8 0), (.int .u8 0), (.int .u8 0), (.int .u8 0), (.int .u8 0), (.int .u8 0), (.int .u8 0), (.int .u8 0), (.int .u8 0), (.int .u8 0), (.int .u8 0), (.int .u8 0), (.int .u8 0), (.int .u8 0), (.int .u8 0), (.int .u8 0), (.int .u8 0), (.int .u8 0), (.int .u8 0), (.int .u8 0), (.int .u8 0), (.int .u8 0), (.int .u8 0), (.int .u8 0), (.int .u8 0), (.int .u8 0), (.int .u8 0), (.int .u8 0), (.int .u8 0), (.int .u8 0), (.int .u8 0), (.int .u8 0), (.int .u8 0), (.int .u8 0), (.int .u8 0), (.int .u8 0), (.int .u8 0), (.int .u8 0), (.int .u8 0), (.int .u8 0), (.int .u8 0), (.int .u8 0), (.int .u8 0), (.int .u8 0), (.int .u8 0), (.int .u8 0), (.int .i64 0), (.int .i64 0)] [])), none⟩, ⟨(some 14), (.s (.box 72 (.tmp 13))), none⟩, ⟨(some 15), (.q (.build [(.bool false), (.int .u32 0), (.int .u32 0), (.int .u32 0), (.int .u32 0), (.int .u32 0), (.int .u32 0), (.int .u32 0), (.int .u32 0), (.int .u8 0), (.int .u8 0), (.int .u8 0), (.int .u8 0), (.int .u8 0), (.int .u8 0), (.int .u8 0), (.int .u8 0), (.int .u8 0), (.int .u8 0), (.int .u8 0), (.int .u8 0), (.int .u8 0), (.int .u8 0), (.int .u8 0), (.int .u8 0), (.int .u8 0), (.int .u8 0), (.int .u8 0), (.int .u8 0), (.int .u8 0), (.int .u8 0), (.int .u8 0), (.int .u8 0), (.int .u8 0), (.int .u8 0), (.int .u8 0), (.int .u8 0), (.int .u8 0), (.int .u8 0), (.int .u8 0), (.int .u8 0), (.int .u8 0), (.int .u8 0), (.int .u8 0), (.int .u8 0), (.int .u8 0), (.int .u8 0), (.int .u8 0), (.int .u8 0), (.int .u8 0), (.int .u8 0), (.int .u8 0), (.int .u8 0), (.int .u8 0), (.int .u8 0), (.int .u8 0), (.int .u8 0), (.int .u8 0), (.int .u8 0), (.int .u8 0), (.int .u8 0), (.int .u8 0), (.int .u8 0), (.int .u8 0), (.int .u8 0), (.int .u8 0), (.int .u8 0), (.int .u8 0), (.int .u8 0), (.int .u8 0), (.int .u8 0), (.int .u8 0), (.int .u8 0), (.int .i64 0), (.int .i64 0)] [])), none⟩, ⟨(some 16), (.s (.box 72 (.tmp 15))), none⟩, ⟨(some 3), (.q (.move (.tmp 14))), none⟩, ⟨(some 4), (.q (.move (.tmp 16))), none⟩]) 
    (.seq 
    (.region [⟨(some 5), (.q (.move (.const .nilp))), none⟩]) 
    (.seq 
    (.region [⟨(some 6), (.q (.move (.const (.str (B []))))), none⟩]) 
    (.seq 
    (.seq 
    (.region [⟨(some 7), (.q (.move (.const (.int .i64 0)))), none⟩]) 
    (.block 0 
    (.loop 
    (.seq 
    (.seq 
    (.region [⟨(some 17), (.q (.move (.tmp 7))), none⟩, ⟨(some 18), (.q (.move (.tmp 0))), none⟩, ⟨(some 19), (.q (.len false (.tmp 18))), none⟩, ⟨(some 20), (.q (.bin .lss (.tmp 17) (.tmp 19))), none⟩]) 
    (.cond (.tmp 20) .skip (.exit 0))) 
    (.seq 
    (.block 1 
    (.seq 
    (.region [⟨(some 23), (.q (.move (.tmp 3))), none⟩, ⟨(some 24), (.q (.move (.tmp 0))), none⟩, ⟨(some 25), (.q (.move (.tmp 7))), none⟩, ⟨(some 26), (.q (.idxSl 1 (.tmp 24) (.tmp 25))), none⟩, ⟨(some 27), (.q (.load false 1 (.tmp 26))), none⟩, ⟨(some 28), (.s (.lit 9 1 [(.tmp 27)])), none⟩, ⟨(some 29), (.s (.call 50 [(.tmp 23), (.tmp 28)])), none⟩]) 
    (.seq 
    (.region [⟨(some 30), (.q (.move (.tmp 5))), none⟩, ⟨(some 31), (.q (.move (.tmp 0))), none⟩, ⟨(some 32), (.q (.move (.tmp 7))), none⟩, ⟨(some 33), (.q (.idxSl 1 (.tmp 31) (.tmp 32))), none⟩, ⟨(some 34), (.q (.load false 1 (.tmp 33))), none⟩, ⟨(some 35), (.s (.lit 9 1 [(.tmp 34)])), none⟩, ⟨(some 36), (.s (.call 50 [(.tmp 30), (.tmp 35)])), none⟩]) 
    (.seq 
    (.region [⟨(some 37), (.q (.move (.tmp 6))), none⟩, ⟨(some 38), (.q (.move (.tmp 0))), none⟩, ⟨(some 39), (.q (.move (.tmp 7))), none⟩, ⟨(some 40), (.q (.idxSl 1 (.tmp 38) (.tmp 39))), none⟩, ⟨(some 41), (.q (.load false 1 (.tmp 40))), none⟩, ⟨(some 42), (.q (.bin .add (.tmp 37) (.tmp 41))), none⟩, ⟨(some 6), (.q (.move (.tmp 42))), none⟩]) 
    (.seq 
    (.region [⟨(some 43), (.q (.move (.tmp 7))), none⟩, ⟨(some 44), (.q (.bin .rem (.tmp 43) (.const (.int .i64 3)))), none⟩, ⟨(some 45), (.q (.bin .eql (.tmp 44) (.const (.int .i64 0)))), none⟩, ⟨(some 46), (.q (.move (.tmp 45))), none⟩, ⟨(some 47), (.q (.move (.tmp 3))), (some (46, true))⟩, ⟨(some 48), (.s (.call 51 [(.tmp 47)])), (some (46, true))⟩, ⟨(some 49), (.q (.move (.tmp 6))), (some (46, true))⟩, ⟨(some 50), (.s (.call 46 [(.tmp 49)])), (some (46, true))⟩, ⟨(some 51), (.q (.bin .neq (.tmp 48) (.tmp 50))), (some (46, true))⟩, ⟨(some 52), (.q (.pick (.tmp 46) (.tmp 51) (.const (.bool false)))), none⟩, ⟨(some 53), (.q (.move (.tmp 52))), none⟩, ⟨(some 54), (.q (.move (.tmp 3))), (some (53, false))⟩, ⟨(some 55), (.s (.call 52 [(.tmp 54)])), (some (53, false))⟩, ⟨(some 56), (.q (.move (.tmp 6))), (some (53, false))⟩, ⟨(some 57), (.q (.len true (.tmp 56))), (some (53, false))⟩, ⟨(some 58), (.q (.bin .neq (.tmp 55) (.tmp 57))), (some (53, false))⟩, ⟨(some 59), (.q (.pick (.tmp 53) (.const (.bool true)) (.tmp 58))), none⟩]) 
    (.cond (.tmp 59) 
    (.seq 
    (.region [⟨(some 2), (.q (.move (.const (.bool false)))), none⟩]) .ret) .skip)))))) 
    (.region [⟨(some 21), (.q (.move (.tmp 7))), none⟩, ⟨(some 22), (.q (.bin .add (.tmp 21) (.const (.int .i64 1)))), none⟩, ⟨(some 7), (.q (.move (.tmp 22))), none⟩])))))) 
    (.seq 
    (.region [⟨(some 60), (.q (.move (.tmp 4))), none⟩, ⟨(some 61), (.q (.move (.tmp 0))), none⟩, ⟨(some 62), (.s (.call 50 [(.tmp 60), (.tmp 61)])), none⟩]) 
    (.seq 
    (.region [⟨(some 63), (.q (.move (.tmp 6))), none⟩, ⟨(some 64), (.s (.call 46 [(.tmp 63)])), none⟩, ⟨(some 8), (.q (.move (.tmp 64))), none⟩]) 
    (.seq 
    (.region [⟨(some 65), (.q (.move (.tmp 3))), none⟩, ⟨(some 66), (.s (.call 51 [(.tmp 65)])), none⟩, ⟨(some 67), (.q (.move (.tmp 8))), none⟩, ⟨(some 68), (.q (.bin .eql (.tmp 66) (.tmp 67))), none⟩, ⟨(some 69), (.q (.move (.tmp 68))), none⟩, ⟨(some 70), (.q (.move (.tmp 3))), (some (69, true))⟩, ⟨(some 71), (.s (.call 51 [(.tmp 70)])), (some (69, true))⟩, ⟨(some 72), (.q (.move (.tmp 8))), (some (69, true))⟩, ⟨(some 73), (.q (.bin .eql (.tmp 71) (.tmp 72))), (some (69, true))⟩, ⟨(some 74), (.q (.pick (.tmp 69) (.tmp 73) (.const (.bool false)))), none⟩, ⟨(some 75), (.q (.move (.tmp 74))), none⟩, ⟨(some 76), (.q (.move (.tmp 4))), (some (75, true))⟩, ⟨(some 77), (.s (.call 51 [(.tmp 76)])), (some (75, true))⟩, ⟨(some 78), (.q (.move (.tmp 8))), (some (75, true))⟩, ⟨(some 79), (.q (.bin .eql (.tmp 77) (.tmp 78))), (some (75, true))⟩, ⟨(some 80), (.q (.pick (.tmp 75) (.tmp 79) (.const (.bool false)))), none⟩, ⟨(some 81), (.q (.move (.tmp 80))), none⟩, ⟨(some 82), (.q (.move (.tmp 0))), (some (81, true))⟩, ⟨(some 83), (.s (.call 45 [(.tmp 82)])), (some (81, true))⟩, ⟨(some 84), (.q (.move (.tmp 8))), (some (81, true))⟩, ⟨(some 85), (.q (.bin .eql (.tmp 83) (.tmp 84))), (some (81, true))⟩, ⟨(some 86), (.q (.pick (.tmp 81) (.tmp 85) (.const (.bool false)))), none⟩, ⟨(some 87), (.q (.move (.tmp 86))), none⟩, ⟨(some 88), (.q (.move (.tmp 5))), (some (87, true))⟩, ⟨(some 89), (.s (.call 51 [(.tmp 88)])), (some (87, true))⟩, ⟨(some 90), (.q (.bin .eql (.tmp 89) (.const (.str (B []))))), (some (87, true))⟩, ⟨(some 91), (.q (.pick (.tmp 87) (.tmp 90) (.const (.bool false)))), none⟩, ⟨(some 92), (.q (.move (.tmp 91))), none⟩, ⟨(some 93), (.q (.move (.tmp 5))), (some (92, true))⟩, ⟨(some 94), (.s (.call 52 [(.tmp 93)])), (some (92, true))⟩, ⟨(some 95), (.q (.bin .eql (.tmp 94) (.const (.int .i64 0)))), (some (92, true))⟩, ⟨(some 96), (.q (.pick (.tmp 92) (.tmp 95) (.const (.bool false)))), none⟩, ⟨(some 97), (.q (.move (.tmp 96))), none⟩, ⟨(some 98), (.s (.call 48 [])), (some (97, true))⟩, ⟨(some 99), (.q (.pick (.tmp 97) (.tmp 98) (.const (.bool false)))), none⟩, ⟨(some 2), (.q (.move (.tmp 99))), none⟩]) .ret)))))))))
theorem t14 : Told Try.prog 14 100 c14 [(.tmp 2)] := ⟨Try.f14, _, [], Try.func14, rfl, by kernel_rfl, rfl, by kernel_rfl, by kernel_rfl⟩
end Go.Proofs.Ythpgppamdejjhaa.AL
