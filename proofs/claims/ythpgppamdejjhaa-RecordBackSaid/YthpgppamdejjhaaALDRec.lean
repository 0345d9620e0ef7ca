/- The code of record and its reference told, as the kernel evaluates it. -/
import Derived.Test.YthpgppamdejjhaaAL14
import Derived.Test.YthpgppamdejjhaaProg
import Derived.KernelRfl
set_option maxRecDepth 100000
namespace Go.Proofs.Ythpgppamdejjhaa.AL
open Go Go.Proofs
def c81 : ACode := 
    (.seq 
    (.region [⟨(some 4), (.q (.move (.const (.bool false)))), none⟩]) 
    (.seq 
    (.region [⟨(some 5), (.q (.move (.tmp 0))), none⟩, ⟨(some 6), (.q (.len true (.tmp 5))), none⟩, ⟨(some 7), (.q (.move (.tmp 1))), none⟩, ⟨(some 8), (.q (.len true (.tmp 7))), none⟩, ⟨(some 9), (.q (.bin .geq (.tmp 6) (.tmp 8))), none⟩, ⟨(some 10), (.q (.move (.tmp 9))), none⟩, ⟨(some 11), (.q (.move (.tmp 0))), (some (10, true))⟩, ⟨(some 12), (.q (.move (.tmp 1))), (some (10, true))⟩, ⟨(some 13), (.q (.len true (.tmp 12))), (some (10, true))⟩, ⟨(some 14), (.q (.sliceStr (.tmp 11) none (some (.tmp 13)))), (some (10, true))⟩, ⟨(some 15), (.q (.move (.tmp 1))), (some (10, true))⟩, ⟨(some 16), (.q (.bin .eql (.tmp 14) (.tmp 15))), (some (10, true))⟩, ⟨(some 17), (.q (.pick (.tmp 10) (.tmp 16) (.const (.bool false)))), none⟩, ⟨(some 4), (.q (.move (.tmp 17))), none⟩]) .ret))
theorem t81 : Told Try.prog 81 18 c81 [(.tmp 4)] := ⟨Try.f81, _, Try.func81, rfl, by kernel_rfl, rfl, by kernel_rfl, by kernel_rfl⟩
def c77 : ACode := 
    (.seq 
    (.region [⟨(some 4), (.q (.move (.const (.str (B []))))), none⟩, ⟨(some 5), (.q (.move (.const (.bool false)))), none⟩]) 
    (.seq 
    (.seq 
    (.region [⟨(some 6), (.q (.move (.tmp 0))), none⟩, ⟨(some 7), (.q (.move (.tmp 1))), none⟩, ⟨(some 8), (.s (.call 81 [(.tmp 6), (.tmp 7)])), none⟩, ⟨(some 9), (.q (.un .not (.tmp 8))), none⟩]) 
    (.cond (.tmp 9) 
    (.seq 
    (.region [⟨(some 10), (.q (.move (.tmp 0))), none⟩, ⟨(some 4), (.q (.move (.tmp 10))), none⟩, ⟨(some 5), (.q (.move (.const (.bool false)))), none⟩]) .ret) .skip)) 
    (.seq 
    (.region [⟨(some 11), (.q (.move (.tmp 0))), none⟩, ⟨(some 12), (.q (.move (.tmp 1))), none⟩, ⟨(some 13), (.q (.len true (.tmp 12))), none⟩, ⟨(some 14), (.q (.sliceStr (.tmp 11) (some (.tmp 13)) none)), none⟩, ⟨(some 4), (.q (.move (.tmp 14))), none⟩, ⟨(some 5), (.q (.move (.const (.bool true)))), none⟩]) .ret)))
theorem t77 : Told Try.prog 77 15 c77 [(.tmp 4), (.tmp 5)] := ⟨Try.f77, _, Try.func77, rfl, by kernel_rfl, rfl, by kernel_rfl, by kernel_rfl⟩
def c66 : ACode := 
    (.seq 
    (.region [⟨(some 4), (.q (.move (.const (.str (B []))))), none⟩, ⟨(some 5), (.q (.move (.const (.bool false)))), none⟩]) 
    (.seq 
    (.region [⟨(some 6), (.q (.move (.tmp 0))), none⟩, ⟨(some 7), (.q (.move (.tmp 1))), none⟩, ⟨(some 8), (.s (.call 77 [(.tmp 6), (.tmp 7)])), none⟩, ⟨(some 9), (.q (.extract 0 (.tmp 8))), none⟩, ⟨(some 10), (.q (.extract 1 (.tmp 8))), none⟩, ⟨(some 4), (.q (.move (.tmp 9))), none⟩, ⟨(some 5), (.q (.move (.tmp 10))), none⟩]) .ret))
theorem t66 : Told Try.prog 66 11 c66 [(.tmp 4), (.tmp 5)] := ⟨Try.f66, _, Try.func66, rfl, by kernel_rfl, rfl, by kernel_rfl, by kernel_rfl⟩
def c33 : ACode := 
    (.seq 
    (.region [⟨(some 2), (.s (.alloc 46 [(.int .i64 0), (.str (B []))])), none⟩, ⟨(some 3), (.q (.move (.const (.int .i64 0)))), none⟩]) 
    (.seq 
    (.seq 
    (.region [⟨(some 10), (.q (.move (.tmp 0))), none⟩, ⟨(some 11), (.q (.len true (.tmp 10))), none⟩, ⟨(some 12), (.q (.bin .lss (.tmp 11) (.const (.int .i64 16)))), none⟩]) 
    (.cond (.tmp 12) 
    (.seq 
    (.region [⟨(some 13), (.q (.build [(.int .i64 0), (.str (B []))] [])), none⟩, ⟨none, (.s (.store 2 (.tmp 2) (.tmp 13))), none⟩, ⟨(some 3), (.q (.move (.const (.int .i64 14)))), none⟩]) .ret) .skip)) 
    (.seq 
    (.region [⟨(some 15), (.q (.move (.tmp 0))), none⟩, ⟨(some 16), (.s (.call 66 [(.tmp 15), (.const (.str (B [80, 69, 78, 86])))])), none⟩, ⟨(some 14), (.q (.move (.tmp 16))), none⟩, ⟨(some 17), (.q (.extract 0 (.tmp 14))), none⟩, ⟨(some 18), (.q (.extract 1 (.tmp 14))), none⟩, ⟨(some 4), (.q (.move (.tmp 17))), none⟩, ⟨(some 5), (.q (.move (.tmp 18))), none⟩]) 
    (.seq 
    (.seq 
    (.region [⟨(some 19), (.q (.move (.tmp 5))), none⟩, ⟨(some 20), (.q (.un .not (.tmp 19))), none⟩]) 
    (.cond (.tmp 20) 
    (.seq 
    (.region [⟨(some 21), (.q (.build [(.int .i64 0), (.str (B []))] [])), none⟩, ⟨none, (.s (.store 2 (.tmp 2) (.tmp 21))), none⟩, ⟨(some 3), (.q (.move (.const (.int .i64 6)))), none⟩]) .ret) .skip)) 
    (.seq 
    (.region [⟨(some 23), (.q (.move (.tmp 4))), none⟩, ⟨(some 24), (.q (.sliceStr (.tmp 23) none (some (.const (.int .i64 12))))), none⟩, ⟨(some 25), (.s (.call 62 [(.tmp 24)])), none⟩, ⟨(some 22), (.q (.move (.tmp 25))), none⟩, ⟨(some 26), (.q (.extract 0 (.tmp 22))), none⟩, ⟨(some 27), (.q (.extract 1 (.tmp 22))), none⟩, ⟨(some 6), (.q (.move (.tmp 26))), none⟩, ⟨(some 7), (.q (.move (.tmp 27))), none⟩]) 
    (.seq 
    (.region [⟨(some 28), (.q (.move (.tmp 6))), none⟩, ⟨(some 29), (.q (.idxSl 1 (.tmp 28) (.const (.int .i64 1)))), none⟩, ⟨(some 30), (.q (.load false 1 (.tmp 29))), none⟩, ⟨(some 31), (.q (.move (.tmp 4))), none⟩, ⟨(some 32), (.q (.sliceStr (.tmp 31) (some (.const (.int .i64 12))) none)), none⟩, ⟨(some 8), (.q (.move (.tmp 30))), none⟩, ⟨(some 9), (.q (.move (.tmp 32))), none⟩]) 
    (.seq 
    (.block 0 
    (.seq 
    (.region [⟨(some 34), (.q (.move (.tmp 8))), none⟩, ⟨(some 35), (.q (.bin .gtr (.tmp 34) (.const (.int .i64 496)))), none⟩, ⟨(some 33), (.q (.move (.tmp 35))), none⟩]) 
    (.cond (.tmp 33) 
    (.seq 
    (.region [⟨(some 36), (.q (.build [(.int .i64 0), (.str (B []))] [])), none⟩, ⟨none, (.s (.store 2 (.tmp 2) (.tmp 36))), none⟩, ⟨(some 3), (.q (.move (.const (.int .i64 7)))), none⟩]) .ret) 
    (.seq 
    (.region [⟨(some 38), (.q (.move (.tmp 8))), none⟩, ⟨(some 39), (.q (.move (.tmp 9))), none⟩, ⟨(some 40), (.q (.len true (.tmp 39))), none⟩, ⟨(some 41), (.q (.bin .gtr (.tmp 38) (.tmp 40))), none⟩, ⟨(some 37), (.q (.move (.tmp 41))), none⟩]) 
    (.cond (.tmp 37) 
    (.seq 
    (.region [⟨(some 42), (.q (.build [(.int .i64 0), (.str (B []))] [])), none⟩, ⟨none, (.s (.store 2 (.tmp 2) (.tmp 42))), none⟩, ⟨(some 3), (.q (.move (.const (.int .i64 14)))), none⟩]) .ret) 
    (.seq 
    (.region [⟨(some 44), (.q (.move (.tmp 4))), none⟩, ⟨(some 45), (.q (.sliceStr (.tmp 44) none (some (.const (.int .i64 8))))), none⟩, ⟨(some 46), (.q (.move (.tmp 9))), none⟩, ⟨(some 47), (.q (.move (.tmp 8))), none⟩, ⟨(some 48), (.q (.sliceStr (.tmp 46) none (some (.tmp 47)))), none⟩, ⟨(some 49), (.s (.lit 1 [(.tmp 45), (.tmp 48)])), none⟩, ⟨(some 50), (.c 15 [(.tmp 49)]), none⟩, ⟨(some 51), (.q (.move (.tmp 6))), none⟩, ⟨(some 52), (.q (.idxSl 1 (.tmp 51) (.const (.int .i64 2)))), none⟩, ⟨(some 53), (.q (.load false 1 (.tmp 52))), none⟩, ⟨(some 54), (.q (.bin .neq (.tmp 50) (.tmp 53))), none⟩, ⟨(some 43), (.q (.move (.tmp 54))), none⟩]) 
    (.cond (.tmp 43) 
    (.seq 
    (.region [⟨(some 55), (.q (.build [(.int .i64 0), (.str (B []))] [])), none⟩, ⟨none, (.s (.store 2 (.tmp 2) (.tmp 55))), none⟩, ⟨(some 3), (.q (.move (.const (.int .i64 9)))), none⟩]) .ret) .skip))))))) 
    (.seq 
    (.region [⟨(some 56), (.q (.move (.tmp 6))), none⟩, ⟨(some 57), (.q (.idxSl 1 (.tmp 56) (.const (.int .i64 0)))), none⟩, ⟨(some 58), (.q (.load false 1 (.tmp 57))), none⟩, ⟨(some 59), (.q (.move (.tmp 9))), none⟩, ⟨(some 60), (.q (.move (.tmp 8))), none⟩, ⟨(some 61), (.q (.sliceStr (.tmp 59) none (some (.tmp 60)))), none⟩, ⟨(some 62), (.q (.build [(.int .i64 0), (.str (B []))] [(0, (1, (.tmp 58))), (1, (1, (.tmp 61)))])), none⟩, ⟨none, (.s (.store 2 (.tmp 2) (.tmp 62))), none⟩, ⟨(some 3), (.q (.move (.const (.int .i64 0)))), none⟩]) .ret))))))))
theorem t33 : Told Try.prog 33 63 c33 [(.cell 2 true 2), (.tmp 3)] := ⟨Try.f33, _, Try.func33, rfl, by kernel_rfl, rfl, by kernel_rfl, by kernel_rfl⟩
def c31 : ACode := 
    (.seq 
    (.region [⟨(some 1), (.s (.box 46 (.tmp 0))), none⟩, ⟨(some 2), (.q (.move (.const (.str (B []))))), none⟩, ⟨(some 3), (.q (.move (.const (.int .i64 0)))), none⟩]) 
    (.seq 
    (.block 0 
    (.seq 
    (.region [⟨(some 6), (.q (.fieldAddr 0 (.tmp 1))), none⟩, ⟨(some 7), (.q (.load false 1 (.tmp 6))), none⟩, ⟨(some 8), (.q (.bin .lss (.tmp 7) (.const (.int .i64 0)))), none⟩, ⟨(some 9), (.q (.move (.tmp 8))), none⟩, ⟨(some 10), (.q (.fieldAddr 0 (.tmp 1))), (some (9, false))⟩, ⟨(some 11), (.q (.load false 1 (.tmp 10))), (some (9, false))⟩, ⟨(some 12), (.q (.bin .gtr (.tmp 11) (.const (.int .i64 4294967295)))), (some (9, false))⟩, ⟨(some 13), (.q (.pick (.tmp 9) (.const (.bool true)) (.tmp 12))), none⟩, ⟨(some 5), (.q (.move (.tmp 13))), none⟩]) 
    (.cond (.tmp 5) 
    (.seq 
    (.region [⟨(some 2), (.q (.move (.const (.str (B []))))), none⟩, ⟨(some 3), (.q (.move (.const (.int .i64 1)))), none⟩]) .ret) 
    (.seq 
    (.region [⟨(some 15), (.q (.fieldAddr 1 (.tmp 1))), none⟩, ⟨(some 16), (.q (.load false 1 (.tmp 15))), none⟩, ⟨(some 17), (.q (.len true (.tmp 16))), none⟩, ⟨(some 18), (.q (.bin .gtr (.tmp 17) (.const (.int .i64 496)))), none⟩, ⟨(some 14), (.q (.move (.tmp 18))), none⟩]) 
    (.cond (.tmp 14) 
    (.seq 
    (.region [⟨(some 2), (.q (.move (.const (.str (B []))))), none⟩, ⟨(some 3), (.q (.move (.const (.int .i64 7)))), none⟩]) .ret) .skip))))) 
    (.seq 
    (.region [⟨(some 19), (.q (.fieldAddr 0 (.tmp 1))), none⟩, ⟨(some 20), (.q (.load false 1 (.tmp 19))), none⟩, ⟨(some 21), (.q (.fieldAddr 1 (.tmp 1))), none⟩, ⟨(some 22), (.q (.load false 1 (.tmp 21))), none⟩, ⟨(some 23), (.q (.len true (.tmp 22))), none⟩, ⟨(some 24), (.s (.lit 1 [(.tmp 20), (.tmp 23)])), none⟩, ⟨(some 25), (.s (.call 58 [(.tmp 24)])), none⟩, ⟨(some 4), (.q (.move (.tmp 25))), none⟩]) 
    (.seq 
    (.region [⟨(some 26), (.q (.move (.tmp 4))), none⟩, ⟨(some 27), (.q (.move (.tmp 4))), none⟩, ⟨(some 28), (.q (.fieldAddr 1 (.tmp 1))), none⟩, ⟨(some 29), (.q (.load false 1 (.tmp 28))), none⟩, ⟨(some 30), (.s (.lit 1 [(.tmp 27), (.tmp 29)])), none⟩, ⟨(some 31), (.c 15 [(.tmp 30)]), none⟩, ⟨(some 32), (.c 64 [(.tmp 31)]), none⟩, ⟨(some 33), (.q (.bin .add (.tmp 26) (.tmp 32))), none⟩, ⟨(some 34), (.q (.fieldAddr 1 (.tmp 1))), none⟩, ⟨(some 35), (.q (.load false 1 (.tmp 34))), none⟩, ⟨(some 36), (.q (.bin .add (.tmp 33) (.tmp 35))), none⟩, ⟨(some 2), (.q (.move (.tmp 36))), none⟩, ⟨(some 3), (.q (.move (.const (.int .i64 0)))), none⟩]) .ret))))
theorem t31 : Told Try.prog 31 37 c31 [(.tmp 2), (.tmp 3)] := ⟨Try.f31, _, Try.func31, rfl, by kernel_rfl, rfl, by kernel_rfl, by kernel_rfl⟩
def c35 : ACode := 
    (.seq 
    (.region [⟨(some 4), (.q (.move (.const (.bool false)))), none⟩]) 
    (.seq 
    (.region [⟨(some 6), (.q (.move (.tmp 0))), none⟩, ⟨(some 7), (.q (.conv .u32 (.tmp 6))), none⟩, ⟨(some 8), (.q (.move (.tmp 1))), none⟩, ⟨(some 9), (.q (.conv .u32 (.tmp 8))), none⟩, ⟨(some 10), (.q (.bin .sub (.tmp 7) (.tmp 9))), none⟩, ⟨(some 5), (.q (.move (.tmp 10))), none⟩]) 
    (.seq 
    (.region [⟨(some 11), (.q (.move (.tmp 5))), none⟩, ⟨(some 12), (.q (.bin .gtr (.tmp 11) (.const (.int .u32 0)))), none⟩, ⟨(some 13), (.q (.move (.tmp 12))), none⟩, ⟨(some 14), (.q (.move (.tmp 5))), (some (13, true))⟩, ⟨(some 15), (.q (.bin .lss (.tmp 14) (.const (.int .u32 2147483648)))), (some (13, true))⟩, ⟨(some 16), (.q (.pick (.tmp 13) (.tmp 15) (.const (.bool false)))), none⟩, ⟨(some 4), (.q (.move (.tmp 16))), none⟩]) .ret)))
theorem t35 : Told Try.prog 35 17 c35 [(.tmp 4)] := ⟨Try.f35, _, Try.func35, rfl, by kernel_rfl, rfl, by kernel_rfl, by kernel_rfl⟩
def c37 : ACode := 
    (.seq 
    (.region [⟨(some 2), (.q (.move (.const (.int .i64 0)))), none⟩]) 
    (.seq 
    (.region [⟨(some 3), (.q (.move (.tmp 0))), none⟩, ⟨(some 4), (.q (.conv .u32 (.tmp 3))), none⟩, ⟨(some 5), (.q (.bin .add (.tmp 4) (.const (.int .u32 1)))), none⟩, ⟨(some 6), (.q (.conv .i64 (.tmp 5))), none⟩, ⟨(some 2), (.q (.move (.tmp 6))), none⟩]) .ret))
theorem t37 : Told Try.prog 37 7 c37 [(.tmp 2)] := ⟨Try.f37, _, Try.func37, rfl, by kernel_rfl, rfl, by kernel_rfl, by kernel_rfl⟩
def c34 : ACode := 
    (.seq 
    (.region [⟨(some 2), (.s (.alloc 46 [(.int .i64 0), (.str (B []))])), none⟩, ⟨(some 3), (.q (.move (.const (.int .i64 0)))), none⟩]) 
    (.seq 
    (.seq 
    (.region [⟨(some 10), (.q (.move (.tmp 0))), none⟩, ⟨(some 11), (.q (.len true (.tmp 10))), none⟩, ⟨(some 12), (.q (.bin .lss (.tmp 11) (.const (.int .i64 16)))), none⟩]) 
    (.cond (.tmp 12) 
    (.seq 
    (.region [⟨(some 13), (.q (.build [(.int .i64 0), (.str (B []))] [])), none⟩, ⟨none, (.s (.store 2 (.tmp 2) (.tmp 13))), none⟩, ⟨(some 3), (.q (.move (.const (.int .i64 14)))), none⟩]) .ret) .skip)) 
    (.seq 
    (.seq 
    (.region [⟨(some 14), (.q (.move (.tmp 0))), none⟩, ⟨(some 15), (.q (.sliceStr (.tmp 14) none (some (.const (.int .i64 4))))), none⟩, ⟨(some 16), (.q (.bin .neq (.tmp 15) (.const (.str (B [80, 69, 78, 86]))))), none⟩]) 
    (.cond (.tmp 16) 
    (.seq 
    (.region [⟨(some 17), (.q (.build [(.int .i64 0), (.str (B []))] [])), none⟩, ⟨none, (.s (.store 2 (.tmp 2) (.tmp 17))), none⟩, ⟨(some 3), (.q (.move (.const (.int .i64 6)))), none⟩]) .ret) .skip)) 
    (.seq 
    (.region [⟨(some 19), (.q (.move (.tmp 0))), none⟩, ⟨(some 20), (.q (.sliceStr (.tmp 19) (some (.const (.int .i64 4))) none)), none⟩, ⟨(some 21), (.s (.call 67 [(.tmp 20)])), none⟩, ⟨(some 18), (.q (.move (.tmp 21))), none⟩, ⟨(some 22), (.q (.extract 0 (.tmp 18))), none⟩, ⟨(some 23), (.q (.extract 1 (.tmp 18))), none⟩, ⟨(some 4), (.q (.move (.tmp 22))), none⟩, ⟨(some 5), (.q (.move (.tmp 23))), none⟩]) 
    (.seq 
    (.region [⟨(some 25), (.q (.move (.tmp 0))), none⟩, ⟨(some 26), (.q (.sliceStr (.tmp 25) (some (.const (.int .i64 8))) none)), none⟩, ⟨(some 27), (.s (.call 67 [(.tmp 26)])), none⟩, ⟨(some 24), (.q (.move (.tmp 27))), none⟩, ⟨(some 28), (.q (.extract 0 (.tmp 24))), none⟩, ⟨(some 29), (.q (.extract 1 (.tmp 24))), none⟩, ⟨(some 6), (.q (.move (.tmp 28))), none⟩, ⟨(some 7), (.q (.move (.tmp 29))), none⟩]) 
    (.seq 
    (.region [⟨(some 31), (.q (.move (.tmp 0))), none⟩, ⟨(some 32), (.q (.sliceStr (.tmp 31) (some (.const (.int .i64 12))) none)), none⟩, ⟨(some 33), (.s (.call 67 [(.tmp 32)])), none⟩, ⟨(some 30), (.q (.move (.tmp 33))), none⟩, ⟨(some 34), (.q (.extract 0 (.tmp 30))), none⟩, ⟨(some 35), (.q (.extract 1 (.tmp 30))), none⟩, ⟨(some 8), (.q (.move (.tmp 34))), none⟩, ⟨(some 9), (.q (.move (.tmp 35))), none⟩]) 
    (.seq 
    (.block 0 
    (.seq 
    (.region [⟨(some 37), (.q (.move (.tmp 6))), none⟩, ⟨(some 38), (.q (.bin .gtr (.tmp 37) (.const (.int .i64 496)))), none⟩, ⟨(some 36), (.q (.move (.tmp 38))), none⟩]) 
    (.cond (.tmp 36) 
    (.seq 
    (.region [⟨(some 39), (.q (.build [(.int .i64 0), (.str (B []))] [])), none⟩, ⟨none, (.s (.store 2 (.tmp 2) (.tmp 39))), none⟩, ⟨(some 3), (.q (.move (.const (.int .i64 7)))), none⟩]) .ret) 
    (.seq 
    (.region [⟨(some 41), (.q (.move (.tmp 6))), none⟩, ⟨(some 42), (.q (.move (.tmp 0))), none⟩, ⟨(some 43), (.q (.len true (.tmp 42))), none⟩, ⟨(some 44), (.q (.bin .sub (.tmp 43) (.const (.int .i64 16)))), none⟩, ⟨(some 45), (.q (.bin .gtr (.tmp 41) (.tmp 44))), none⟩, ⟨(some 40), (.q (.move (.tmp 45))), none⟩]) 
    (.cond (.tmp 40) 
    (.seq 
    (.region [⟨(some 46), (.q (.build [(.int .i64 0), (.str (B []))] [])), none⟩, ⟨none, (.s (.store 2 (.tmp 2) (.tmp 46))), none⟩, ⟨(some 3), (.q (.move (.const (.int .i64 14)))), none⟩]) .ret) 
    (.seq 
    (.region [⟨(some 48), (.q (.move (.tmp 0))), none⟩, ⟨(some 49), (.q (.sliceStr (.tmp 48) (some (.const (.int .i64 4))) (some (.const (.int .i64 12))))), none⟩, ⟨(some 50), (.q (.move (.tmp 0))), none⟩, ⟨(some 51), (.q (.move (.tmp 6))), none⟩, ⟨(some 52), (.q (.bin .add (.const (.int .i64 16)) (.tmp 51))), none⟩, ⟨(some 53), (.q (.sliceStr (.tmp 50) (some (.const (.int .i64 16))) (some (.tmp 52)))), none⟩, ⟨(some 54), (.q (.bin .add (.tmp 49) (.tmp 53))), none⟩, ⟨(some 56), (.q (.move (.tmp 8))), none⟩, ⟨(some 55), (.s (.call 16 [(.tmp 54)])), none⟩, ⟨(some 57), (.q (.bin .neq (.tmp 55) (.tmp 56))), none⟩, ⟨(some 47), (.q (.move (.tmp 57))), none⟩]) 
    (.cond (.tmp 47) 
    (.seq 
    (.region [⟨(some 58), (.q (.build [(.int .i64 0), (.str (B []))] [])), none⟩, ⟨none, (.s (.store 2 (.tmp 2) (.tmp 58))), none⟩, ⟨(some 3), (.q (.move (.const (.int .i64 9)))), none⟩]) .ret) .skip))))))) 
    (.seq 
    (.region [⟨(some 59), (.q (.move (.tmp 4))), none⟩, ⟨(some 60), (.q (.move (.tmp 0))), none⟩, ⟨(some 61), (.q (.move (.tmp 6))), none⟩, ⟨(some 62), (.q (.bin .add (.const (.int .i64 16)) (.tmp 61))), none⟩, ⟨(some 63), (.q (.sliceStr (.tmp 60) (some (.const (.int .i64 16))) (some (.tmp 62)))), none⟩, ⟨(some 64), (.q (.build [(.int .i64 0), (.str (B []))] [(0, (1, (.tmp 59))), (1, (1, (.tmp 63)))])), none⟩, ⟨none, (.s (.store 2 (.tmp 2) (.tmp 64))), none⟩, ⟨(some 3), (.q (.move (.const (.int .i64 0)))), none⟩]) .ret))))))))
theorem t34 : Told Try.prog 34 65 c34 [(.cell 2 true 2), (.tmp 3)] := ⟨Try.f34, _, Try.func34, rfl, by kernel_rfl, rfl, by kernel_rfl, by kernel_rfl⟩
def c32 : ACode := 
    (.seq 
    (.region [⟨(some 1), (.s (.box 46 (.tmp 0))), none⟩, ⟨(some 2), (.q (.move (.const (.str (B []))))), none⟩, ⟨(some 3), (.q (.move (.const (.int .i64 0)))), none⟩]) 
    (.seq 
    (.seq 
    (.region [⟨(some 5), (.q (.fieldAddr 0 (.tmp 1))), none⟩, ⟨(some 6), (.q (.load false 1 (.tmp 5))), none⟩, ⟨(some 7), (.q (.bin .lss (.tmp 6) (.const (.int .i64 0)))), none⟩, ⟨(some 8), (.q (.move (.tmp 7))), none⟩, ⟨(some 9), (.q (.fieldAddr 0 (.tmp 1))), (some (8, false))⟩, ⟨(some 10), (.q (.load false 1 (.tmp 9))), (some (8, false))⟩, ⟨(some 11), (.q (.bin .gtr (.tmp 10) (.const (.int .i64 4294967295)))), (some (8, false))⟩, ⟨(some 12), (.q (.pick (.tmp 8) (.const (.bool true)) (.tmp 11))), none⟩]) 
    (.cond (.tmp 12) 
    (.seq 
    (.region [⟨(some 2), (.q (.move (.const (.str (B []))))), none⟩, ⟨(some 3), (.q (.move (.const (.int .i64 1)))), none⟩]) .ret) .skip)) 
    (.seq 
    (.seq 
    (.region [⟨(some 13), (.q (.fieldAddr 1 (.tmp 1))), none⟩, ⟨(some 14), (.q (.load false 1 (.tmp 13))), none⟩, ⟨(some 15), (.q (.len true (.tmp 14))), none⟩, ⟨(some 16), (.q (.bin .gtr (.tmp 15) (.const (.int .i64 496)))), none⟩]) 
    (.cond (.tmp 16) 
    (.seq 
    (.region [⟨(some 2), (.q (.move (.const (.str (B []))))), none⟩, ⟨(some 3), (.q (.move (.const (.int .i64 7)))), none⟩]) .ret) .skip)) 
    (.seq 
    (.region [⟨(some 17), (.q (.fieldAddr 0 (.tmp 1))), none⟩, ⟨(some 18), (.q (.load false 1 (.tmp 17))), none⟩, ⟨(some 19), (.q (.fieldAddr 1 (.tmp 1))), none⟩, ⟨(some 20), (.q (.load false 1 (.tmp 19))), none⟩, ⟨(some 21), (.q (.len true (.tmp 20))), none⟩, ⟨(some 22), (.s (.lit 1 [(.tmp 18), (.tmp 21)])), none⟩, ⟨(some 23), (.s (.call 60 [(.tmp 22)])), none⟩, ⟨(some 4), (.q (.move (.tmp 23))), none⟩]) 
    (.seq 
    (.region [⟨(some 24), (.q (.move (.tmp 4))), none⟩, ⟨(some 25), (.q (.move (.tmp 4))), none⟩, ⟨(some 26), (.q (.fieldAddr 1 (.tmp 1))), none⟩, ⟨(some 27), (.q (.load false 1 (.tmp 26))), none⟩, ⟨(some 28), (.q (.bin .add (.tmp 25) (.tmp 27))), none⟩, ⟨(some 29), (.c 16 [(.tmp 28)]), none⟩, ⟨(some 30), (.c 65 [(.tmp 29)]), none⟩, ⟨(some 31), (.q (.bin .add (.tmp 24) (.tmp 30))), none⟩, ⟨(some 32), (.q (.fieldAddr 1 (.tmp 1))), none⟩, ⟨(some 33), (.q (.load false 1 (.tmp 32))), none⟩, ⟨(some 34), (.q (.bin .add (.tmp 31) (.tmp 33))), none⟩, ⟨(some 2), (.q (.move (.tmp 34))), none⟩, ⟨(some 3), (.q (.move (.const (.int .i64 0)))), none⟩]) .ret)))))
theorem t32 : Told Try.prog 32 35 c32 [(.tmp 2), (.tmp 3)] := ⟨Try.f32, _, Try.func32, rfl, by kernel_rfl, rfl, by kernel_rfl, by kernel_rfl⟩
def c36 : ACode := 
    (.seq 
    (.region [⟨(some 4), (.q (.move (.const (.bool false)))), none⟩]) 
    (.seq 
    (.region [⟨(some 6), (.q (.move (.tmp 0))), none⟩, ⟨(some 7), (.q (.conv .u32 (.tmp 6))), none⟩, ⟨(some 8), (.q (.move (.tmp 1))), none⟩, ⟨(some 9), (.q (.conv .u32 (.tmp 8))), none⟩, ⟨(some 10), (.q (.bin .sub (.tmp 7) (.tmp 9))), none⟩, ⟨(some 5), (.q (.move (.tmp 10))), none⟩]) 
    (.seq 
    (.region [⟨(some 11), (.q (.move (.tmp 5))), none⟩, ⟨(some 12), (.q (.bin .geq (.tmp 11) (.const (.int .u32 1)))), none⟩, ⟨(some 13), (.q (.move (.tmp 12))), none⟩, ⟨(some 14), (.q (.move (.tmp 5))), (some (13, true))⟩, ⟨(some 15), (.q (.bin .lss (.tmp 14) (.const (.int .u32 2147483648)))), (some (13, true))⟩, ⟨(some 16), (.q (.pick (.tmp 13) (.tmp 15) (.const (.bool false)))), none⟩, ⟨(some 4), (.q (.move (.tmp 16))), none⟩]) .ret)))
theorem t36 : Told Try.prog 36 17 c36 [(.tmp 4)] := ⟨Try.f36, _, Try.func36, rfl, by kernel_rfl, rfl, by kernel_rfl, by kernel_rfl⟩
def c38 : ACode := 
    (.seq 
    (.region [⟨(some 2), (.q (.move (.const (.int .i64 0)))), none⟩]) 
    (.seq 
    (.region [⟨(some 3), (.q (.move (.tmp 0))), none⟩, ⟨(some 4), (.q (.conv .u32 (.tmp 3))), none⟩, ⟨(some 5), (.q (.bin .add (.tmp 4) (.const (.int .u32 1)))), none⟩, ⟨(some 6), (.q (.conv .i64 (.tmp 5))), none⟩, ⟨(some 2), (.q (.move (.tmp 6))), none⟩]) .ret))
theorem t38 : Told Try.prog 38 7 c38 [(.tmp 2)] := ⟨Try.f38, _, Try.func38, rfl, by kernel_rfl, rfl, by kernel_rfl, by kernel_rfl⟩
end Go.Proofs.Ythpgppamdejjhaa.AL
