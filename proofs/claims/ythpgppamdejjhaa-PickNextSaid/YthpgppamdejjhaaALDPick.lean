/- The code of pick and its reference told, as the kernel evaluates it. -/
import Derived.Test.YthpgppamdejjhaaAL14
import Derived.Test.YthpgppamdejjhaaProg
import Derived.KernelRfl
set_option maxRecDepth 100000
namespace Go.Proofs.Ythpgppamdejjhaa.AL
open Go Go.Proofs
def c40 : ACode := 
    (.seq 
    (.region [⟨(some 4), (.q (.move (.const (.int .i64 0)))), none⟩, ⟨(some 5), (.s (.alloc 46 [(.int .i64 0), (.str (B []))])), none⟩]) 
    (.seq 
    (.region [⟨(some 6), (.q (.move (.const (.int .i64 (-1))))), none⟩]) 
    (.seq 
    (.region [⟨(some 7), (.s (.alloc 46 [(.int .i64 0), (.str (B []))])), none⟩]) 
    (.seq 
    (.seq 
    (.region [⟨(some 12), (.q (.move (.tmp 0))), none⟩, ⟨(some 13), (.q (.move (.tmp 1))), none⟩, ⟨(some 14), (.q (.build [(.str (B [])), (.str (B []))] [(0, (1, (.tmp 12))), (1, (1, (.tmp 13)))])), none⟩, ⟨(some 15), (.q (.move (.const (.int .i64 0)))), none⟩]) 
    (.block 0 
    (.loop 
    (.seq 
    (.region [⟨(some 16), (.q (.bin .lss (.tmp 15) (.const (.int .i64 2)))), none⟩]) 
    (.seq 
    (.cond (.tmp 16) .skip (.exit 0)) 
    (.seq 
    (.block 1 
    (.seq 
    (.region [⟨(some 17), (.q (.move (.tmp 15))), none⟩, ⟨(some 18), (.q (.idxArr false 1 2 (.tmp 14) (.tmp 15))), none⟩, ⟨(some 8), (.q (.move (.tmp 17))), none⟩, ⟨(some 9), (.q (.move (.tmp 18))), none⟩]) 
    (.seq 
    (.region [⟨(some 20), (.q (.move (.tmp 9))), none⟩, ⟨(some 21), (.s (.call 33 [(.tmp 20)])), none⟩, ⟨(some 19), (.q (.move (.tmp 21))), none⟩, ⟨(some 22), (.q (.extract 0 (.tmp 19))), none⟩, ⟨(some 23), (.q (.extract 1 (.tmp 19))), none⟩, ⟨(some 10), (.s (.alloc 46 [(.int .i64 0), (.str (B []))])), none⟩, ⟨none, (.s (.store 2 (.tmp 10) (.tmp 22))), none⟩, ⟨(some 11), (.q (.move (.tmp 23))), none⟩]) 
    (.seq 
    (.region [⟨(some 24), (.q (.move (.tmp 11))), none⟩, ⟨(some 25), (.q (.bin .eql (.tmp 24) (.const (.int .i64 0)))), none⟩, ⟨(some 26), (.q (.move (.tmp 25))), none⟩, ⟨(some 27), (.q (.move (.tmp 6))), (some (26, true))⟩, ⟨(some 28), (.q (.bin .eql (.tmp 27) (.const (.int .i64 (-1))))), (some (26, true))⟩, ⟨(some 29), (.q (.move (.tmp 28))), (some (26, true))⟩, ⟨(some 30), (.q (.fieldAddr 0 (.tmp 10))), (some (29, false))⟩, ⟨(some 31), (.q (.load false 1 (.tmp 30))), (some (29, false))⟩, ⟨(some 32), (.q (.fieldAddr 0 (.tmp 7))), (some (29, false))⟩, ⟨(some 33), (.q (.load false 1 (.tmp 32))), (some (29, false))⟩, ⟨(some 34), (.s (.call 35 [(.tmp 31), (.tmp 33)])), (some (29, false))⟩, ⟨(some 35), (.q (.pick (.tmp 29) (.const (.bool true)) (.tmp 34))), (some (26, true))⟩, ⟨(some 36), (.q (.pick (.tmp 26) (.tmp 35) (.const (.bool false)))), none⟩]) 
    (.cond (.tmp 36) 
    (.region [⟨(some 37), (.q (.move (.tmp 8))), none⟩, ⟨(some 38), (.q (.load true 2 (.tmp 10))), none⟩, ⟨(some 6), (.q (.move (.tmp 37))), none⟩, ⟨none, (.s (.store 2 (.tmp 7) (.tmp 38))), none⟩]) .skip))))) 
    (.region [⟨(some 39), (.q (.bin .add (.tmp 15) (.const (.int .i64 1)))), none⟩, ⟨(some 15), (.q (.move (.tmp 39))), none⟩]))))))) 
    (.seq 
    (.region [⟨(some 40), (.q (.move (.tmp 6))), none⟩, ⟨(some 41), (.q (.load true 2 (.tmp 7))), none⟩, ⟨(some 4), (.q (.move (.tmp 40))), none⟩, ⟨none, (.s (.store 2 (.tmp 5) (.tmp 41))), none⟩]) .ret)))))
theorem t40 : Told Try.prog 40 42 c40 [(.tmp 4), (.cell 5 true 2)] := ⟨Try.f40, _, Try.func40, rfl, by kernel_rfl, rfl, by kernel_rfl, by kernel_rfl⟩
def c42 : ACode := 
    (.seq 
    (.region [⟨(some 4), (.q (.move (.const (.int .i64 0)))), none⟩, ⟨(some 5), (.q (.move (.const (.int .i64 0)))), none⟩]) 
    (.seq 
    (.region [⟨(some 9), (.q (.move (.tmp 0))), none⟩, ⟨(some 10), (.q (.move (.tmp 1))), none⟩, ⟨(some 11), (.s (.call 40 [(.tmp 9), (.tmp 10)])), none⟩, ⟨(some 8), (.q (.move (.tmp 11))), none⟩, ⟨(some 12), (.q (.extract 0 (.tmp 8))), none⟩, ⟨(some 13), (.q (.extract 1 (.tmp 8))), none⟩, ⟨(some 7), (.s (.alloc 46 [(.int .i64 0), (.str (B []))])), none⟩, ⟨(some 6), (.q (.move (.tmp 12))), none⟩, ⟨none, (.s (.store 2 (.tmp 7) (.tmp 13))), none⟩]) 
    (.seq 
    (.seq 
    (.region [⟨(some 14), (.q (.move (.tmp 6))), none⟩, ⟨(some 15), (.q (.bin .eql (.tmp 14) (.const (.int .i64 (-1))))), none⟩]) 
    (.cond (.tmp 15) 
    (.seq 
    (.region [⟨(some 4), (.q (.move (.const (.int .i64 0)))), none⟩, ⟨(some 5), (.q (.move (.const (.int .i64 1)))), none⟩]) .ret) .skip)) 
    (.seq 
    (.region [⟨(some 16), (.q (.move (.tmp 6))), none⟩, ⟨(some 17), (.q (.bin .sub (.const (.int .i64 1)) (.tmp 16))), none⟩, ⟨(some 18), (.q (.fieldAddr 0 (.tmp 7))), none⟩, ⟨(some 19), (.q (.load false 1 (.tmp 18))), none⟩, ⟨(some 20), (.s (.call 37 [(.tmp 19)])), none⟩, ⟨(some 4), (.q (.move (.tmp 17))), none⟩, ⟨(some 5), (.q (.move (.tmp 20))), none⟩]) .ret))))
theorem t42 : Told Try.prog 42 21 c42 [(.tmp 4), (.tmp 5)] := ⟨Try.f42, _, Try.func42, rfl, by kernel_rfl, rfl, by kernel_rfl, by kernel_rfl⟩
def c41 : ACode := 
    (.seq 
    (.region [⟨(some 4), (.q (.move (.const (.int .i64 0)))), none⟩, ⟨(some 5), (.s (.alloc 46 [(.int .i64 0), (.str (B []))])), none⟩]) 
    (.seq 
    (.region [⟨(some 11), (.q (.move (.tmp 0))), none⟩, ⟨(some 12), (.s (.call 34 [(.tmp 11)])), none⟩, ⟨(some 10), (.q (.move (.tmp 12))), none⟩, ⟨(some 13), (.q (.extract 0 (.tmp 10))), none⟩, ⟨(some 14), (.q (.extract 1 (.tmp 10))), none⟩, ⟨(some 6), (.s (.alloc 46 [(.int .i64 0), (.str (B []))])), none⟩, ⟨none, (.s (.store 2 (.tmp 6) (.tmp 13))), none⟩, ⟨(some 7), (.q (.move (.tmp 14))), none⟩]) 
    (.seq 
    (.region [⟨(some 16), (.q (.move (.tmp 1))), none⟩, ⟨(some 17), (.s (.call 34 [(.tmp 16)])), none⟩, ⟨(some 15), (.q (.move (.tmp 17))), none⟩, ⟨(some 18), (.q (.extract 0 (.tmp 15))), none⟩, ⟨(some 19), (.q (.extract 1 (.tmp 15))), none⟩, ⟨(some 8), (.s (.alloc 46 [(.int .i64 0), (.str (B []))])), none⟩, ⟨none, (.s (.store 2 (.tmp 8) (.tmp 18))), none⟩, ⟨(some 9), (.q (.move (.tmp 19))), none⟩]) 
    (.seq 
    (.block 0 
    (.seq 
    (.region [⟨(some 21), (.q (.move (.tmp 9))), none⟩, ⟨(some 22), (.q (.bin .eql (.tmp 21) (.const (.int .i64 0)))), none⟩, ⟨(some 23), (.q (.move (.tmp 22))), none⟩, ⟨(some 24), (.q (.move (.tmp 7))), (some (23, true))⟩, ⟨(some 25), (.q (.bin .neq (.tmp 24) (.const (.int .i64 0)))), (some (23, true))⟩, ⟨(some 26), (.q (.move (.tmp 25))), (some (23, true))⟩, ⟨(some 27), (.q (.fieldAddr 0 (.tmp 8))), (some (26, false))⟩, ⟨(some 28), (.q (.load false 1 (.tmp 27))), (some (26, false))⟩, ⟨(some 29), (.q (.fieldAddr 0 (.tmp 6))), (some (26, false))⟩, ⟨(some 30), (.q (.load false 1 (.tmp 29))), (some (26, false))⟩, ⟨(some 31), (.s (.call 36 [(.tmp 28), (.tmp 30)])), (some (26, false))⟩, ⟨(some 32), (.q (.pick (.tmp 26) (.const (.bool true)) (.tmp 31))), (some (23, true))⟩, ⟨(some 33), (.q (.pick (.tmp 23) (.tmp 32) (.const (.bool false)))), none⟩, ⟨(some 20), (.q (.move (.tmp 33))), none⟩]) 
    (.cond (.tmp 20) 
    (.seq 
    (.region [⟨(some 34), (.q (.load true 2 (.tmp 8))), none⟩, ⟨(some 4), (.q (.move (.const (.int .i64 1)))), none⟩, ⟨none, (.s (.store 2 (.tmp 5) (.tmp 34))), none⟩]) .ret) 
    (.seq 
    (.region [⟨(some 36), (.q (.move (.tmp 7))), none⟩, ⟨(some 37), (.q (.bin .eql (.tmp 36) (.const (.int .i64 0)))), none⟩, ⟨(some 35), (.q (.move (.tmp 37))), none⟩]) 
    (.cond (.tmp 35) 
    (.seq 
    (.region [⟨(some 38), (.q (.load true 2 (.tmp 6))), none⟩, ⟨(some 4), (.q (.move (.const (.int .i64 0)))), none⟩, ⟨none, (.s (.store 2 (.tmp 5) (.tmp 38))), none⟩]) .ret) .skip))))) 
    (.seq 
    (.region [⟨(some 39), (.q (.build [(.int .i64 0), (.str (B []))] [])), none⟩, ⟨(some 4), (.q (.move (.const (.int .i64 (-1))))), none⟩, ⟨none, (.s (.store 2 (.tmp 5) (.tmp 39))), none⟩]) .ret)))))
theorem t41 : Told Try.prog 41 40 c41 [(.tmp 4), (.cell 5 true 2)] := ⟨Try.f41, _, Try.func41, rfl, by kernel_rfl, rfl, by kernel_rfl, by kernel_rfl⟩
def c43 : ACode := 
    (.seq 
    (.region [⟨(some 4), (.q (.move (.const (.int .i64 0)))), none⟩, ⟨(some 5), (.q (.move (.const (.int .i64 0)))), none⟩]) 
    (.seq 
    (.region [⟨(some 9), (.q (.move (.tmp 0))), none⟩, ⟨(some 10), (.q (.move (.tmp 1))), none⟩, ⟨(some 11), (.s (.call 41 [(.tmp 9), (.tmp 10)])), none⟩, ⟨(some 8), (.q (.move (.tmp 11))), none⟩, ⟨(some 12), (.q (.extract 0 (.tmp 8))), none⟩, ⟨(some 13), (.q (.extract 1 (.tmp 8))), none⟩, ⟨(some 7), (.s (.alloc 46 [(.int .i64 0), (.str (B []))])), none⟩, ⟨(some 6), (.q (.move (.tmp 12))), none⟩, ⟨none, (.s (.store 2 (.tmp 7) (.tmp 13))), none⟩]) 
    (.seq 
    (.seq 
    (.region [⟨(some 14), (.q (.move (.tmp 6))), none⟩, ⟨(some 15), (.q (.bin .lss (.tmp 14) (.const (.int .i64 0)))), none⟩]) 
    (.cond (.tmp 15) 
    (.seq 
    (.region [⟨(some 4), (.q (.move (.const (.int .i64 0)))), none⟩, ⟨(some 5), (.q (.move (.const (.int .i64 1)))), none⟩]) .ret) .skip)) 
    (.seq 
    (.region [⟨(some 16), (.q (.move (.tmp 6))), none⟩, ⟨(some 17), (.q (.bin .sub (.const (.int .i64 1)) (.tmp 16))), none⟩, ⟨(some 18), (.q (.fieldAddr 0 (.tmp 7))), none⟩, ⟨(some 19), (.q (.load false 1 (.tmp 18))), none⟩, ⟨(some 20), (.s (.call 38 [(.tmp 19)])), none⟩, ⟨(some 4), (.q (.move (.tmp 17))), none⟩, ⟨(some 5), (.q (.move (.tmp 20))), none⟩]) .ret))))
theorem t43 : Told Try.prog 43 21 c43 [(.tmp 4), (.tmp 5)] := ⟨Try.f43, _, Try.func43, rfl, by kernel_rfl, rfl, by kernel_rfl, by kernel_rfl⟩
def c44 : ACode := 
    (.seq 
    (.region [⟨(some 1), (.s (.box 46 (.tmp 0))), none⟩, ⟨(some 2), (.q (.move (.const (.str (B []))))), none⟩]) 
    (.seq 
    (.region [⟨(some 6), (.q (.load true 2 (.tmp 1))), none⟩, ⟨(some 7), (.s (.call 32 [(.tmp 6)])), none⟩, ⟨(some 5), (.q (.move (.tmp 7))), none⟩, ⟨(some 8), (.q (.extract 0 (.tmp 5))), none⟩, ⟨(some 9), (.q (.extract 1 (.tmp 5))), none⟩, ⟨(some 3), (.q (.move (.tmp 8))), none⟩, ⟨(some 4), (.q (.move (.tmp 9))), none⟩]) 
    (.seq 
    (.region [⟨(some 10), (.q (.move (.tmp 3))), none⟩, ⟨(some 11), (.q (.bin .add (.const (.str (B [80, 69, 78, 86]))) (.tmp 10))), none⟩, ⟨(some 2), (.q (.move (.tmp 11))), none⟩]) .ret)))
theorem t44 : Told Try.prog 44 12 c44 [(.tmp 2)] := ⟨Try.f44, _, Try.func44, rfl, by kernel_rfl, rfl, by kernel_rfl, by kernel_rfl⟩
def c39 : ACode := 
    (.seq 
    (.region [⟨(some 0), (.q (.move (.const (.bool false)))), none⟩]) 
    (.seq 
    (.region [⟨(some 11), (.q (.build [(.int .i64 0), (.str (B []))] [(0, (1, (.const (.int .i64 5)))), (1, (1, (.const (.str (B [120])))))])), none⟩, ⟨(some 12), (.s (.call 44 [(.tmp 11)])), none⟩, ⟨(some 13), (.q (.build [(.int .i64 0), (.str (B []))] [(0, (1, (.const (.int .i64 6)))), (1, (1, (.const (.str (B [121])))))])), none⟩, ⟨(some 14), (.s (.call 44 [(.tmp 13)])), none⟩, ⟨(some 1), (.q (.move (.tmp 12))), none⟩, ⟨(some 2), (.q (.move (.tmp 14))), none⟩]) 
    (.seq 
    (.region [⟨(some 16), (.q (.move (.tmp 1))), none⟩, ⟨(some 17), (.q (.move (.tmp 2))), none⟩, ⟨(some 18), (.s (.call 40 [(.tmp 16), (.tmp 17)])), none⟩, ⟨(some 15), (.q (.move (.tmp 18))), none⟩, ⟨(some 19), (.q (.extract 0 (.tmp 15))), none⟩, ⟨(some 20), (.q (.extract 1 (.tmp 15))), none⟩, ⟨(some 4), (.s (.alloc 46 [(.int .i64 0), (.str (B []))])), none⟩, ⟨(some 3), (.q (.move (.tmp 19))), none⟩, ⟨none, (.s (.store 2 (.tmp 4) (.tmp 20))), none⟩]) 
    (.seq 
    (.region [⟨(some 22), (.q (.move (.tmp 1))), none⟩, ⟨(some 23), (.q (.move (.tmp 2))), none⟩, ⟨(some 24), (.s (.call 42 [(.tmp 22), (.tmp 23)])), none⟩, ⟨(some 21), (.q (.move (.tmp 24))), none⟩, ⟨(some 25), (.q (.extract 0 (.tmp 21))), none⟩, ⟨(some 26), (.q (.extract 1 (.tmp 21))), none⟩, ⟨(some 5), (.q (.move (.tmp 25))), none⟩, ⟨(some 6), (.q (.move (.tmp 26))), none⟩]) 
    (.seq 
    (.region [⟨(some 28), (.s (.call 42 [(.const (.str (B []))), (.const (.str (B [])))])), none⟩, ⟨(some 27), (.q (.move (.tmp 28))), none⟩, ⟨(some 29), (.q (.extract 0 (.tmp 27))), none⟩, ⟨(some 30), (.q (.extract 1 (.tmp 27))), none⟩, ⟨(some 7), (.q (.move (.tmp 29))), none⟩, ⟨(some 8), (.q (.move (.tmp 30))), none⟩]) 
    (.seq 
    (.region [⟨(some 32), (.s (.call 40 [(.const (.str (B []))), (.const (.str (B [])))])), none⟩, ⟨(some 31), (.q (.move (.tmp 32))), none⟩, ⟨(some 33), (.q (.extract 0 (.tmp 31))), none⟩, ⟨(some 34), (.q (.extract 1 (.tmp 31))), none⟩, ⟨(some 10), (.s (.alloc 46 [(.int .i64 0), (.str (B []))])), none⟩, ⟨(some 9), (.q (.move (.tmp 33))), none⟩, ⟨none, (.s (.store 2 (.tmp 10) (.tmp 34))), none⟩]) 
    (.seq 
    (.region [⟨(some 35), (.q (.move (.tmp 3))), none⟩, ⟨(some 36), (.q (.bin .eql (.tmp 35) (.const (.int .i64 1)))), none⟩, ⟨(some 37), (.q (.move (.tmp 36))), none⟩, ⟨(some 38), (.q (.fieldAddr 1 (.tmp 4))), (some (37, true))⟩, ⟨(some 39), (.q (.load false 1 (.tmp 38))), (some (37, true))⟩, ⟨(some 40), (.q (.bin .eql (.tmp 39) (.const (.str (B [121]))))), (some (37, true))⟩, ⟨(some 41), (.q (.pick (.tmp 37) (.tmp 40) (.const (.bool false)))), none⟩, ⟨(some 42), (.q (.move (.tmp 41))), none⟩, ⟨(some 43), (.q (.move (.tmp 5))), (some (42, true))⟩, ⟨(some 44), (.q (.bin .eql (.tmp 43) (.const (.int .i64 0)))), (some (42, true))⟩, ⟨(some 45), (.q (.pick (.tmp 42) (.tmp 44) (.const (.bool false)))), none⟩, ⟨(some 46), (.q (.move (.tmp 45))), none⟩, ⟨(some 47), (.q (.move (.tmp 6))), (some (46, true))⟩, ⟨(some 48), (.q (.bin .eql (.tmp 47) (.const (.int .i64 7)))), (some (46, true))⟩, ⟨(some 49), (.q (.pick (.tmp 46) (.tmp 48) (.const (.bool false)))), none⟩, ⟨(some 50), (.q (.move (.tmp 49))), none⟩, ⟨(some 51), (.q (.move (.tmp 7))), (some (50, true))⟩, ⟨(some 52), (.q (.bin .eql (.tmp 51) (.const (.int .i64 0)))), (some (50, true))⟩, ⟨(some 53), (.q (.pick (.tmp 50) (.tmp 52) (.const (.bool false)))), none⟩, ⟨(some 54), (.q (.move (.tmp 53))), none⟩, ⟨(some 55), (.q (.move (.tmp 8))), (some (54, true))⟩, ⟨(some 56), (.q (.bin .eql (.tmp 55) (.const (.int .i64 1)))), (some (54, true))⟩, ⟨(some 57), (.q (.pick (.tmp 54) (.tmp 56) (.const (.bool false)))), none⟩, ⟨(some 58), (.q (.move (.tmp 57))), none⟩, ⟨(some 59), (.q (.move (.tmp 9))), (some (58, true))⟩, ⟨(some 60), (.q (.bin .eql (.tmp 59) (.const (.int .i64 (-1))))), (some (58, true))⟩, ⟨(some 61), (.q (.pick (.tmp 58) (.tmp 60) (.const (.bool false)))), none⟩, ⟨(some 0), (.q (.move (.tmp 61))), none⟩]) .ret)))))))
theorem t39 : Told Try.prog 39 62 c39 [(.tmp 0)] := ⟨Try.f39, _, Try.func39, rfl, by kernel_rfl, rfl, by kernel_rfl, by kernel_rfl⟩
def c11 : ACode := 
    (.seq 
    (.region [⟨(some 4), (.q (.move (.const (.bool false)))), none⟩]) 
    (.seq 
    (.seq 
    (.region [⟨(some 13), (.q (.move (.tmp 0))), none⟩, ⟨(some 14), (.q (.len true (.tmp 13))), none⟩, ⟨(some 15), (.q (.bin .gtr (.tmp 14) (.const (.int .i64 600)))), none⟩, ⟨(some 16), (.q (.move (.tmp 15))), none⟩, ⟨(some 17), (.q (.move (.tmp 1))), (some (16, false))⟩, ⟨(some 18), (.q (.len true (.tmp 17))), (some (16, false))⟩, ⟨(some 19), (.q (.bin .gtr (.tmp 18) (.const (.int .i64 600)))), (some (16, false))⟩, ⟨(some 20), (.q (.pick (.tmp 16) (.const (.bool true)) (.tmp 19))), none⟩]) 
    (.cond (.tmp 20) 
    (.seq 
    (.region [⟨(some 21), (.s (.call 39 [])), none⟩, ⟨(some 4), (.q (.move (.tmp 21))), none⟩]) .ret) .skip)) 
    (.seq 
    (.region [⟨(some 23), (.q (.move (.tmp 0))), none⟩, ⟨(some 24), (.q (.move (.tmp 1))), none⟩, ⟨(some 25), (.s (.call 40 [(.tmp 23), (.tmp 24)])), none⟩, ⟨(some 22), (.q (.move (.tmp 25))), none⟩, ⟨(some 26), (.q (.extract 0 (.tmp 22))), none⟩, ⟨(some 27), (.q (.extract 1 (.tmp 22))), none⟩, ⟨(some 6), (.s (.alloc 46 [(.int .i64 0), (.str (B []))])), none⟩, ⟨(some 5), (.q (.move (.tmp 26))), none⟩, ⟨none, (.s (.store 2 (.tmp 6) (.tmp 27))), none⟩]) 
    (.seq 
    (.region [⟨(some 29), (.q (.move (.tmp 0))), none⟩, ⟨(some 30), (.q (.move (.tmp 1))), none⟩, ⟨(some 31), (.s (.call 41 [(.tmp 29), (.tmp 30)])), none⟩, ⟨(some 28), (.q (.move (.tmp 31))), none⟩, ⟨(some 32), (.q (.extract 0 (.tmp 28))), none⟩, ⟨(some 33), (.q (.extract 1 (.tmp 28))), none⟩, ⟨(some 8), (.s (.alloc 46 [(.int .i64 0), (.str (B []))])), none⟩, ⟨(some 7), (.q (.move (.tmp 32))), none⟩, ⟨none, (.s (.store 2 (.tmp 8) (.tmp 33))), none⟩]) 
    (.seq 
    (.region [⟨(some 35), (.q (.move (.tmp 0))), none⟩, ⟨(some 36), (.q (.move (.tmp 1))), none⟩, ⟨(some 37), (.s (.call 42 [(.tmp 35), (.tmp 36)])), none⟩, ⟨(some 34), (.q (.move (.tmp 37))), none⟩, ⟨(some 38), (.q (.extract 0 (.tmp 34))), none⟩, ⟨(some 39), (.q (.extract 1 (.tmp 34))), none⟩, ⟨(some 9), (.q (.move (.tmp 38))), none⟩, ⟨(some 10), (.q (.move (.tmp 39))), none⟩]) 
    (.seq 
    (.region [⟨(some 41), (.q (.move (.tmp 0))), none⟩, ⟨(some 42), (.q (.move (.tmp 1))), none⟩, ⟨(some 43), (.s (.call 43 [(.tmp 41), (.tmp 42)])), none⟩, ⟨(some 40), (.q (.move (.tmp 43))), none⟩, ⟨(some 44), (.q (.extract 0 (.tmp 40))), none⟩, ⟨(some 45), (.q (.extract 1 (.tmp 40))), none⟩, ⟨(some 11), (.q (.move (.tmp 44))), none⟩, ⟨(some 12), (.q (.move (.tmp 45))), none⟩]) 
    (.seq 
    (.region [⟨(some 46), (.q (.move (.tmp 5))), none⟩, ⟨(some 47), (.q (.move (.tmp 7))), none⟩, ⟨(some 48), (.q (.bin .eql (.tmp 46) (.tmp 47))), none⟩, ⟨(some 49), (.q (.move (.tmp 48))), none⟩, ⟨(some 50), (.q (.load true 2 (.tmp 6))), (some (49, true))⟩, ⟨(some 51), (.q (.load true 2 (.tmp 8))), (some (49, true))⟩, ⟨(some 52), (.q 
    (.seq [(.i .i64), .s] false (.tmp 50) (.tmp 51))), (some (49, true))⟩, ⟨(some 53), (.q (.pick (.tmp 49) (.tmp 52) (.const (.bool false)))), none⟩, ⟨(some 54), (.q (.move (.tmp 53))), none⟩, ⟨(some 55), (.q (.move (.tmp 9))), (some (54, true))⟩, ⟨(some 56), (.q (.move (.tmp 11))), (some (54, true))⟩, ⟨(some 57), (.q (.bin .eql (.tmp 55) (.tmp 56))), (some (54, true))⟩, ⟨(some 58), (.q (.pick (.tmp 54) (.tmp 57) (.const (.bool false)))), none⟩, ⟨(some 59), (.q (.move (.tmp 58))), none⟩, ⟨(some 60), (.q (.move (.tmp 10))), (some (59, true))⟩, ⟨(some 61), (.q (.move (.tmp 12))), (some (59, true))⟩, ⟨(some 62), (.q (.bin .eql (.tmp 60) (.tmp 61))), (some (59, true))⟩, ⟨(some 63), (.q (.pick (.tmp 59) (.tmp 62) (.const (.bool false)))), none⟩, ⟨(some 64), (.q (.move (.tmp 63))), none⟩, ⟨(some 65), (.s (.call 39 [])), (some (64, true))⟩, ⟨(some 66), (.q (.pick (.tmp 64) (.tmp 65) (.const (.bool false)))), none⟩, ⟨(some 4), (.q (.move (.tmp 66))), none⟩]) .ret)))))))
theorem t11 : Told Try.prog 11 67 c11 [(.tmp 4)] := ⟨Try.f11, _, Try.func11, rfl, by kernel_rfl, rfl, by kernel_rfl, by kernel_rfl⟩
def c12 : ACode := 
    (.seq 
    (.region [⟨(some 6), (.q (.move (.const (.bool false)))), none⟩]) 
    (.seq 
    (.seq 
    (.region [⟨(some 16), (.q (.move (.tmp 0))), none⟩, ⟨(some 17), (.q (.len true (.tmp 16))), none⟩, ⟨(some 18), (.q (.bin .gtr (.tmp 17) (.const (.int .i64 600)))), none⟩, ⟨(some 19), (.q (.move (.tmp 18))), none⟩, ⟨(some 20), (.q (.move (.tmp 1))), (some (19, false))⟩, ⟨(some 21), (.q (.len true (.tmp 20))), (some (19, false))⟩, ⟨(some 22), (.q (.bin .gtr (.tmp 21) (.const (.int .i64 600)))), (some (19, false))⟩, ⟨(some 23), (.q (.pick (.tmp 19) (.const (.bool true)) (.tmp 22))), none⟩, ⟨(some 24), (.q (.move (.tmp 23))), none⟩, ⟨(some 25), (.q (.move (.tmp 2))), (some (24, false))⟩, ⟨(some 26), (.q (.len true (.tmp 25))), (some (24, false))⟩, ⟨(some 27), (.q (.bin .gtr (.tmp 26) (.const (.int .i64 496)))), (some (24, false))⟩, ⟨(some 28), (.q (.pick (.tmp 24) (.const (.bool true)) (.tmp 27))), none⟩]) 
    (.cond (.tmp 28) 
    (.seq 
    (.region [⟨(some 29), (.s (.call 39 [])), none⟩, ⟨(some 6), (.q (.move (.tmp 29))), none⟩]) .ret) .skip)) 
    (.seq 
    (.region [⟨(some 31), (.q (.move (.tmp 0))), none⟩, ⟨(some 32), (.q (.move (.tmp 1))), none⟩, ⟨(some 33), (.s (.call 40 [(.tmp 31), (.tmp 32)])), none⟩, ⟨(some 30), (.q (.move (.tmp 33))), none⟩, ⟨(some 34), (.q (.extract 0 (.tmp 30))), none⟩, ⟨(some 35), (.q (.extract 1 (.tmp 30))), none⟩, ⟨(some 8), (.s (.alloc 46 [(.int .i64 0), (.str (B []))])), none⟩, ⟨(some 7), (.q (.move (.tmp 34))), none⟩, ⟨none, (.s (.store 2 (.tmp 8) (.tmp 35))), none⟩]) 
    (.seq 
    (.region [⟨(some 37), (.q (.move (.tmp 0))), none⟩, ⟨(some 38), (.q (.move (.tmp 1))), none⟩, ⟨(some 39), (.s (.call 42 [(.tmp 37), (.tmp 38)])), none⟩, ⟨(some 36), (.q (.move (.tmp 39))), none⟩, ⟨(some 40), (.q (.extract 0 (.tmp 36))), none⟩, ⟨(some 41), (.q (.extract 1 (.tmp 36))), none⟩, ⟨(some 9), (.q (.move (.tmp 40))), none⟩, ⟨(some 10), (.q (.move (.tmp 41))), none⟩]) 
    (.seq 
    (.seq 
    (.region [⟨(some 42), (.q (.move (.tmp 9))), none⟩, ⟨(some 43), (.q (.bin .lss (.tmp 42) (.const (.int .i64 0)))), none⟩, ⟨(some 44), (.q (.move (.tmp 43))), none⟩, ⟨(some 45), (.q (.move (.tmp 9))), (some (44, false))⟩, ⟨(some 46), (.q (.bin .gtr (.tmp 45) (.const (.int .i64 1)))), (some (44, false))⟩, ⟨(some 47), (.q (.pick (.tmp 44) (.const (.bool true)) (.tmp 46))), none⟩, ⟨(some 48), (.q (.move (.tmp 47))), none⟩, ⟨(some 49), (.q (.move (.tmp 9))), (some (48, false))⟩, ⟨(some 50), (.q (.move (.tmp 7))), (some (48, false))⟩, ⟨(some 51), (.q (.bin .eql (.tmp 49) (.tmp 50))), (some (48, false))⟩, ⟨(some 52), (.q (.pick (.tmp 48) (.const (.bool true)) (.tmp 51))), none⟩]) 
    (.cond (.tmp 52) 
    (.seq 
    (.region [⟨(some 6), (.q (.move (.const (.bool false)))), none⟩]) .ret) .skip)) 
    (.seq 
    (.region [⟨(some 53), (.q (.move (.tmp 0))), none⟩, ⟨(some 54), (.q (.move (.tmp 1))), none⟩, ⟨(some 55), (.q (.build [(.str (B [])), (.str (B []))] [(0, (1, (.tmp 53))), (1, (1, (.tmp 54)))])), none⟩, ⟨(some 11), (.s (.alloc 61 [(.str (B [])), (.str (B []))])), none⟩, ⟨none, (.s (.store 2 (.tmp 11) (.tmp 55))), none⟩]) 
    (.seq 
    (.region [⟨(some 56), (.q (.move (.tmp 9))), none⟩, ⟨(some 57), (.q (.move (.tmp 10))), none⟩, ⟨(some 58), (.q (.move (.tmp 2))), none⟩, ⟨(some 59), (.q (.build [(.int .i64 0), (.str (B []))] [(0, (1, (.tmp 57))), (1, (1, (.tmp 58)))])), none⟩, ⟨(some 60), (.s (.call 44 [(.tmp 59)])), none⟩, ⟨(some 61), (.q (.idxPt 1 2 (.tmp 11) (.tmp 56))), none⟩, ⟨none, (.s (.store 1 (.tmp 61) (.tmp 60))), none⟩]) 
    (.seq 
    (.region [⟨(some 63), (.q (.idxPt 1 2 (.tmp 11) (.const (.int .i64 0)))), none⟩, ⟨(some 64), (.q (.load false 1 (.tmp 63))), none⟩, ⟨(some 65), (.q (.idxPt 1 2 (.tmp 11) (.const (.int .i64 1)))), none⟩, ⟨(some 66), (.q (.load false 1 (.tmp 65))), none⟩, ⟨(some 67), (.s (.call 40 [(.tmp 64), (.tmp 66)])), none⟩, ⟨(some 62), (.q (.move (.tmp 67))), none⟩, ⟨(some 68), (.q (.extract 0 (.tmp 62))), none⟩, ⟨(some 69), (.q (.extract 1 (.tmp 62))), none⟩, ⟨(some 13), (.s (.alloc 46 [(.int .i64 0), (.str (B []))])), none⟩, ⟨(some 12), (.q (.move (.tmp 68))), none⟩, ⟨none, (.s (.store 2 (.tmp 13) (.tmp 69))), none⟩]) 
    (.seq 
    (.seq 
    (.region [⟨(some 70), (.q (.move (.tmp 12))), none⟩, ⟨(some 71), (.q (.move (.tmp 9))), none⟩, ⟨(some 72), (.q (.bin .neq (.tmp 70) (.tmp 71))), none⟩, ⟨(some 73), (.q (.move (.tmp 72))), none⟩, ⟨(some 74), (.q (.fieldAddr 1 (.tmp 13))), (some (73, false))⟩, ⟨(some 75), (.q (.load false 1 (.tmp 74))), (some (73, false))⟩, ⟨(some 76), (.q (.move (.tmp 2))), (some (73, false))⟩, ⟨(some 77), (.q (.bin .neq (.tmp 75) (.tmp 76))), (some (73, false))⟩, ⟨(some 78), (.q (.pick (.tmp 73) (.const (.bool true)) (.tmp 77))), none⟩, ⟨(some 79), (.q (.move (.tmp 78))), none⟩, ⟨(some 80), (.q (.fieldAddr 0 (.tmp 13))), (some (79, false))⟩, ⟨(some 81), (.q (.load false 1 (.tmp 80))), (some (79, false))⟩, ⟨(some 82), (.q (.move (.tmp 10))), (some (79, false))⟩, ⟨(some 83), (.q (.bin .neq (.tmp 81) (.tmp 82))), (some (79, false))⟩, ⟨(some 84), (.q (.pick (.tmp 79) (.const (.bool true)) (.tmp 83))), none⟩]) 
    (.cond (.tmp 84) 
    (.seq 
    (.region [⟨(some 6), (.q (.move (.const (.bool false)))), none⟩]) .ret) .skip)) 
    (.seq 
    (.region [⟨(some 85), (.q (.move (.tmp 9))), none⟩, ⟨(some 86), (.q (.move (.tmp 9))), none⟩, ⟨(some 87), (.q (.idxPt 1 2 (.tmp 11) (.tmp 86))), none⟩, ⟨(some 88), (.q (.load false 1 (.tmp 87))), none⟩, ⟨(some 89), (.q (.sliceStr (.tmp 88) (some (.const (.int .i64 4))) none)), none⟩, ⟨(some 90), (.q (.bin .add (.const (.str (B [255, 255, 255, 255]))) (.tmp 89))), none⟩, ⟨(some 91), (.q (.idxPt 1 2 (.tmp 11) (.tmp 85))), none⟩, ⟨none, (.s (.store 1 (.tmp 91) (.tmp 90))), none⟩]) 
    (.seq 
    (.region [⟨(some 93), (.q (.idxPt 1 2 (.tmp 11) (.const (.int .i64 0)))), none⟩, ⟨(some 94), (.q (.load false 1 (.tmp 93))), none⟩, ⟨(some 95), (.q (.idxPt 1 2 (.tmp 11) (.const (.int .i64 1)))), none⟩, ⟨(some 96), (.q (.load false 1 (.tmp 95))), none⟩, ⟨(some 97), (.s (.call 40 [(.tmp 94), (.tmp 96)])), none⟩, ⟨(some 92), (.q (.move (.tmp 97))), none⟩, ⟨(some 98), (.q (.extract 0 (.tmp 92))), none⟩, ⟨(some 99), (.q (.extract 1 (.tmp 92))), none⟩, ⟨(some 15), (.s (.alloc 46 [(.int .i64 0), (.str (B []))])), none⟩, ⟨(some 14), (.q (.move (.tmp 98))), none⟩, ⟨none, (.s (.store 2 (.tmp 15) (.tmp 99))), none⟩]) 
    (.seq 
    (.region [⟨(some 100), (.q (.move (.tmp 14))), none⟩, ⟨(some 101), (.q (.move (.tmp 7))), none⟩, ⟨(some 102), (.q (.bin .eql (.tmp 100) (.tmp 101))), none⟩, ⟨(some 103), (.q (.move (.tmp 102))), none⟩, ⟨(some 104), (.q (.load true 2 (.tmp 15))), (some (103, true))⟩, ⟨(some 105), (.q (.load true 2 (.tmp 8))), (some (103, true))⟩, ⟨(some 106), (.q 
    (.seq [(.i .i64), .s] false (.tmp 104) (.tmp 105))), (some (103, true))⟩, ⟨(some 107), (.q (.pick (.tmp 103) (.tmp 106) (.const (.bool false)))), none⟩, ⟨(some 108), (.q (.move (.tmp 107))), none⟩, ⟨(some 109), (.s (.call 39 [])), (some (108, true))⟩, ⟨(some 110), (.q (.pick (.tmp 108) (.tmp 109) (.const (.bool false)))), none⟩, ⟨(some 6), (.q (.move (.tmp 110))), none⟩]) .ret))))))))))))
theorem t12 : Told Try.prog 12 111 c12 [(.tmp 6)] := ⟨Try.f12, _, Try.func12, rfl, by kernel_rfl, rfl, by kernel_rfl, by kernel_rfl⟩
end Go.Proofs.Ythpgppamdejjhaa.AL
