/- The code of rom and its reference told, as the kernel evaluates it. -/
import Derived.Test.YtblflecalomgfaaAL14
import Derived.Test.YtblflecalomgfaaProg
import Derived.KernelRfl
set_option maxRecDepth 100000
namespace Go.Proofs.Ytblflecalomgfaa.AL
open Go Go.Proofs
def c178 : ACode := 
    (.seq 
    (.region [⟨(some 4), (.q (.move (.const (.bool false)))), none⟩]) 
    (.seq 
    (.region [⟨(some 5), (.q (.move (.tmp 0))), none⟩, ⟨(some 6), (.q (.len true (.tmp 5))), none⟩, ⟨(some 7), (.q (.move (.tmp 1))), none⟩, ⟨(some 8), (.q (.len true (.tmp 7))), none⟩, ⟨(some 9), (.q (.bin .geq (.tmp 6) (.tmp 8))), none⟩, ⟨(some 10), (.q (.move (.tmp 9))), none⟩, ⟨(some 11), (.q (.move (.tmp 0))), (some (10, true))⟩, ⟨(some 12), (.q (.move (.tmp 1))), (some (10, true))⟩, ⟨(some 13), (.q (.len true (.tmp 12))), (some (10, true))⟩, ⟨(some 14), (.q (.sliceStr (.tmp 11) none (some (.tmp 13)))), (some (10, true))⟩, ⟨(some 15), (.q (.move (.tmp 1))), (some (10, true))⟩, ⟨(some 16), (.q (.bin .eql (.tmp 14) (.tmp 15))), (some (10, true))⟩, ⟨(some 17), (.q (.pick (.tmp 10) (.tmp 16) (.const (.bool false)))), none⟩, ⟨(some 4), (.q (.move (.tmp 17))), none⟩]) .ret))
theorem t178 : Told Try.prog 178 18 c178 [(.tmp 4)] := ⟨Try.f178, _, [], Try.func178, rfl, by kernel_rfl, rfl, by kernel_rfl, by kernel_rfl⟩
def c156 : ACode := 
    (.seq 
    (.region [⟨(some 4), (.q (.move (.const (.str (B []))))), none⟩, ⟨(some 5), (.q (.move (.const (.bool false)))), none⟩]) 
    (.seq 
    (.seq 
    (.region [⟨(some 6), (.q (.move (.tmp 0))), none⟩, ⟨(some 7), (.q (.move (.tmp 1))), none⟩, ⟨(some 8), (.s (.call 178 [(.tmp 6), (.tmp 7)])), none⟩, ⟨(some 9), (.q (.un .not (.tmp 8))), none⟩]) 
    (.cond (.tmp 9) 
    (.seq 
    (.region [⟨(some 10), (.q (.move (.tmp 0))), none⟩, ⟨(some 4), (.q (.move (.tmp 10))), none⟩, ⟨(some 5), (.q (.move (.const (.bool false)))), none⟩]) .ret) .skip)) 
    (.seq 
    (.region [⟨(some 11), (.q (.move (.tmp 0))), none⟩, ⟨(some 12), (.q (.move (.tmp 1))), none⟩, ⟨(some 13), (.q (.len true (.tmp 12))), none⟩, ⟨(some 14), (.q (.sliceStr (.tmp 11) (some (.tmp 13)) none)), none⟩, ⟨(some 4), (.q (.move (.tmp 14))), none⟩, ⟨(some 5), (.q (.move (.const (.bool true)))), none⟩]) .ret)))
theorem t156 : Told Try.prog 156 15 c156 [(.tmp 4), (.tmp 5)] := ⟨Try.f156, _, [], Try.func156, rfl, by kernel_rfl, rfl, by kernel_rfl, by kernel_rfl⟩
def c100 : ACode := 
    (.seq 
    (.region [⟨(some 4), (.q (.move (.const (.str (B []))))), none⟩, ⟨(some 5), (.q (.move (.const (.bool false)))), none⟩]) 
    (.seq 
    (.region [⟨(some 6), (.q (.move (.tmp 0))), none⟩, ⟨(some 7), (.q (.move (.tmp 1))), none⟩, ⟨(some 8), (.s (.call 156 [(.tmp 6), (.tmp 7)])), none⟩, ⟨(some 9), (.q (.extract 0 (.tmp 8))), none⟩, ⟨(some 10), (.q (.extract 1 (.tmp 8))), none⟩, ⟨(some 4), (.q (.move (.tmp 9))), none⟩, ⟨(some 5), (.q (.move (.tmp 10))), none⟩]) .ret))
theorem t100 : Told Try.prog 100 11 c100 [(.tmp 4), (.tmp 5)] := ⟨Try.f100, _, [], Try.func100, rfl, by kernel_rfl, rfl, by kernel_rfl, by kernel_rfl⟩
def c39 : ACode := 
    (.seq 
    (.region [⟨(some 4), (.q (.move (.const (.str (B []))))), none⟩, ⟨(some 5), (.q (.move (.const (.int .i64 0)))), none⟩]) 
    (.seq 
    (.block 0 
    (.seq 
    (.region [⟨(some 8), (.q (.move (.tmp 0))), none⟩, ⟨(some 9), (.q (.bin .lss (.tmp 8) (.const (.int .i64 0)))), none⟩, ⟨(some 10), (.q (.move (.tmp 9))), none⟩, ⟨(some 11), (.q (.move (.tmp 0))), (some (10, false))⟩, ⟨(some 12), (.q (.bin .gtr (.tmp 11) (.const (.int .i64 4294967295)))), (some (10, false))⟩, ⟨(some 13), (.q (.pick (.tmp 10) (.const (.bool true)) (.tmp 12))), none⟩, ⟨(some 14), (.q (.move (.tmp 13))), none⟩, ⟨(some 15), (.q (.move (.tmp 1))), (some (14, false))⟩, ⟨(some 16), (.q (.bin .eql (.tmp 15) (.const (.str (B []))))), (some (14, false))⟩, ⟨(some 17), (.q (.pick (.tmp 14) (.const (.bool true)) (.tmp 16))), none⟩, ⟨(some 7), (.q (.move (.tmp 17))), none⟩]) 
    (.cond (.tmp 7) 
    (.seq 
    (.region [⟨(some 4), (.q (.move (.const (.str (B []))))), none⟩, ⟨(some 5), (.q (.move (.const (.int .i64 1)))), none⟩]) .ret) 
    (.seq 
    (.region [⟨(some 19), (.q (.move (.tmp 1))), none⟩, ⟨(some 20), (.q (.len true (.tmp 19))), none⟩, ⟨(some 21), (.q (.bin .gtr (.tmp 20) (.const (.int .i64 992)))), none⟩, ⟨(some 18), (.q (.move (.tmp 21))), none⟩]) 
    (.cond (.tmp 18) 
    (.seq 
    (.region [⟨(some 4), (.q (.move (.const (.str (B []))))), none⟩, ⟨(some 5), (.q (.move (.const (.int .i64 7)))), none⟩]) .ret) .skip))))) 
    (.seq 
    (.region [⟨(some 22), (.q (.move (.tmp 0))), none⟩, ⟨(some 23), (.q (.move (.tmp 1))), none⟩, ⟨(some 24), (.q (.len true (.tmp 23))), none⟩, ⟨(some 25), (.s (.lit 3 1 [(.tmp 22), (.tmp 24)])), none⟩, ⟨(some 26), (.s (.call 92 [(.tmp 25)])), none⟩, ⟨(some 6), (.q (.move (.tmp 26))), none⟩]) 
    (.seq 
    (.region [⟨(some 27), (.q (.move (.tmp 6))), none⟩, ⟨(some 28), (.q (.bin .add (.const (.str (B [80, 83, 84, 50]))) (.tmp 27))), none⟩, ⟨(some 29), (.q (.move (.tmp 6))), none⟩, ⟨(some 30), (.q (.move (.tmp 1))), none⟩, ⟨(some 31), (.s (.lit 9 1 [(.tmp 29), (.tmp 30)])), none⟩, ⟨(some 32), (.s (.call 94 [(.tmp 31)])), none⟩, ⟨(some 33), (.s (.call 93 [(.tmp 32)])), none⟩, ⟨(some 34), (.q (.bin .add (.tmp 28) (.tmp 33))), none⟩, ⟨(some 35), (.q (.move (.tmp 1))), none⟩, ⟨(some 36), (.s (.lit 9 1 [(.tmp 35)])), none⟩, ⟨(some 37), (.s (.call 95 [(.tmp 36)])), none⟩, ⟨(some 38), (.q (.sliceStr (.tmp 37) none (some (.const (.int .i64 8))))), none⟩, ⟨(some 39), (.q (.bin .add (.tmp 34) (.tmp 38))), none⟩, ⟨(some 40), (.q (.move (.tmp 1))), none⟩, ⟨(some 41), (.q (.bin .add (.tmp 39) (.tmp 40))), none⟩, ⟨(some 4), (.q (.move (.tmp 41))), none⟩, ⟨(some 5), (.q (.move (.const (.int .i64 0)))), none⟩]) .ret))))
theorem t39 : Told Try.prog 39 42 c39 [(.tmp 4), (.tmp 5)] := ⟨Try.f39, _, [], Try.func39, rfl, by kernel_rfl, rfl, by kernel_rfl, by kernel_rfl⟩
def c41 : ACode := 
    (.seq 
    (.region [⟨(some 2), (.q (.move (.const (.int .i64 0)))), none⟩, ⟨(some 3), (.q (.move (.const (.str (B []))))), none⟩, ⟨(some 4), (.q (.move (.const (.int .i64 0)))), none⟩]) 
    (.seq 
    (.seq 
    (.region [⟨(some 13), (.q (.move (.tmp 0))), none⟩, ⟨(some 14), (.q (.len true (.tmp 13))), none⟩, ⟨(some 15), (.q (.bin .lss (.tmp 14) (.const (.int .i64 24)))), none⟩]) 
    (.cond (.tmp 15) 
    (.seq 
    (.region [⟨(some 2), (.q (.move (.const (.int .i64 0)))), none⟩, ⟨(some 3), (.q (.move (.const (.str (B []))))), none⟩, ⟨(some 4), (.q (.move (.const (.int .i64 14)))), none⟩]) .ret) .skip)) 
    (.seq 
    (.region [⟨(some 17), (.q (.move (.tmp 0))), none⟩, ⟨(some 18), (.s (.call 100 [(.tmp 17), (.const (.str (B [80, 83, 84, 50])))])), none⟩, ⟨(some 16), (.q (.move (.tmp 18))), none⟩, ⟨(some 19), (.q (.extract 0 (.tmp 16))), none⟩, ⟨(some 20), (.q (.extract 1 (.tmp 16))), none⟩, ⟨(some 5), (.q (.move (.tmp 19))), none⟩, ⟨(some 6), (.q (.move (.tmp 20))), none⟩]) 
    (.seq 
    (.seq 
    (.region [⟨(some 21), (.q (.move (.tmp 6))), none⟩, ⟨(some 22), (.q (.un .not (.tmp 21))), none⟩]) 
    (.cond (.tmp 22) 
    (.seq 
    (.region [⟨(some 2), (.q (.move (.const (.int .i64 0)))), none⟩, ⟨(some 3), (.q (.move (.const (.str (B []))))), none⟩, ⟨(some 4), (.q (.move (.const (.int .i64 6)))), none⟩]) .ret) .skip)) 
    (.seq 
    (.region [⟨(some 24), (.q (.move (.tmp 5))), none⟩, ⟨(some 25), (.q (.sliceStr (.tmp 24) none (some (.const (.int .i64 12))))), none⟩, ⟨(some 26), (.s (.call 101 [(.tmp 25)])), none⟩, ⟨(some 23), (.q (.move (.tmp 26))), none⟩, ⟨(some 27), (.q (.extract 0 (.tmp 23))), none⟩, ⟨(some 28), (.q (.extract 1 (.tmp 23))), none⟩, ⟨(some 7), (.q (.move (.tmp 27))), none⟩, ⟨(some 8), (.q (.move (.tmp 28))), none⟩]) 
    (.seq 
    (.region [⟨(some 29), (.q (.move (.tmp 5))), none⟩, ⟨(some 30), (.q (.sliceStr (.tmp 29) (some (.const (.int .i64 12))) (some (.const (.int .i64 20))))), none⟩, ⟨(some 31), (.q (.move (.tmp 5))), none⟩, ⟨(some 32), (.q (.sliceStr (.tmp 31) (some (.const (.int .i64 20))) none)), none⟩, ⟨(some 9), (.q (.move (.tmp 30))), none⟩, ⟨(some 10), (.q (.move (.tmp 32))), none⟩]) 
    (.seq 
    (.seq 
    (.region [⟨(some 33), (.q (.move (.tmp 7))), none⟩, ⟨(some 34), (.q (.idxSl 1 (.tmp 33) (.const (.int .i64 1)))), none⟩, ⟨(some 35), (.q (.load false 1 (.tmp 34))), none⟩, ⟨(some 11), (.q (.move (.tmp 35))), none⟩]) 
    (.block 0 
    (.seq 
    (.region [⟨(some 40), (.q (.move (.tmp 11))), none⟩, ⟨(some 41), (.q (.bin .eql (.tmp 40) (.const (.int .i64 0)))), none⟩, ⟨(some 39), (.q (.move (.tmp 41))), none⟩]) 
    (.cond (.tmp 39) 
    (.seq 
    (.region [⟨(some 2), (.q (.move (.const (.int .i64 0)))), none⟩, ⟨(some 3), (.q (.move (.const (.str (B []))))), none⟩, ⟨(some 4), (.q (.move (.const (.int .i64 6)))), none⟩]) .ret) 
    (.seq 
    (.region [⟨(some 43), (.q (.move (.tmp 11))), none⟩, ⟨(some 44), (.q (.bin .gtr (.tmp 43) (.const (.int .i64 992)))), none⟩, ⟨(some 42), (.q (.move (.tmp 44))), none⟩]) 
    (.cond (.tmp 42) 
    (.seq 
    (.region [⟨(some 2), (.q (.move (.const (.int .i64 0)))), none⟩, ⟨(some 3), (.q (.move (.const (.str (B []))))), none⟩, ⟨(some 4), (.q (.move (.const (.int .i64 7)))), none⟩]) .ret) 
    (.seq 
    (.region [⟨(some 46), (.q (.move (.tmp 11))), none⟩, ⟨(some 47), (.q (.move (.tmp 10))), none⟩, ⟨(some 48), (.q (.len true (.tmp 47))), none⟩, ⟨(some 49), (.q (.bin .gtr (.tmp 46) (.tmp 48))), none⟩, ⟨(some 45), (.q (.move (.tmp 49))), none⟩]) 
    (.cond (.tmp 45) 
    (.seq 
    (.region [⟨(some 2), (.q (.move (.const (.int .i64 0)))), none⟩, ⟨(some 3), (.q (.move (.const (.str (B []))))), none⟩, ⟨(some 4), (.q (.move (.const (.int .i64 14)))), none⟩]) .ret) 
    (.region [⟨(some 36), (.q (.move (.tmp 10))), none⟩, ⟨(some 37), (.q (.move (.tmp 11))), none⟩, ⟨(some 38), (.q (.sliceStr (.tmp 36) none (some (.tmp 37)))), none⟩, ⟨(some 10), (.q (.move (.tmp 38))), none⟩]))))))))) 
    (.seq 
    (.region [⟨(some 50), (.q (.move (.tmp 5))), none⟩, ⟨(some 51), (.q (.sliceStr (.tmp 50) none (some (.const (.int .i64 8))))), none⟩, ⟨(some 52), (.q (.move (.tmp 10))), none⟩, ⟨(some 53), (.s (.lit 9 1 [(.tmp 51), (.tmp 52)])), none⟩, ⟨(some 54), (.c (.fn 94) [(.tmp 53)]), none⟩, ⟨(some 55), (.q (.move (.tmp 7))), none⟩, ⟨(some 56), (.q (.idxSl 1 (.tmp 55) (.const (.int .i64 2)))), none⟩, ⟨(some 57), (.q (.load false 1 (.tmp 56))), none⟩, ⟨(some 58), (.q (.bin .eql (.tmp 54) (.tmp 57))), none⟩, ⟨(some 59), (.q (.move (.tmp 58))), none⟩, ⟨(some 60), (.q (.move (.tmp 10))), (some (59, true))⟩, ⟨(some 61), (.s (.lit 9 1 [(.tmp 60)])), (some (59, true))⟩, ⟨(some 64), (.q (.move (.tmp 9))), (some (59, true))⟩, ⟨(some 62), (.s (.call 95 [(.tmp 61)])), (some (59, true))⟩, ⟨(some 63), (.q (.sliceStr (.tmp 62) none (some (.const (.int .i64 8))))), (some (59, true))⟩, ⟨(some 65), (.s (.call 102 [(.tmp 63), (.tmp 64)])), (some (59, true))⟩, ⟨(some 66), (.q (.pick (.tmp 59) (.tmp 65) (.const (.bool false)))), none⟩, ⟨(some 12), (.q (.move (.tmp 66))), none⟩]) 
    (.seq 
    (.seq 
    (.region [⟨(some 67), (.q (.move (.tmp 12))), none⟩, ⟨(some 68), (.q (.un .not (.tmp 67))), none⟩]) 
    (.cond (.tmp 68) 
    (.seq 
    (.region [⟨(some 2), (.q (.move (.const (.int .i64 0)))), none⟩, ⟨(some 3), (.q (.move (.const (.str (B []))))), none⟩, ⟨(some 4), (.q (.move (.const (.int .i64 9)))), none⟩]) .ret) .skip)) 
    (.seq 
    (.region [⟨(some 69), (.q (.move (.tmp 7))), none⟩, ⟨(some 70), (.q (.idxSl 1 (.tmp 69) (.const (.int .i64 0)))), none⟩, ⟨(some 71), (.q (.load false 1 (.tmp 70))), none⟩, ⟨(some 72), (.q (.move (.tmp 10))), none⟩, ⟨(some 2), (.q (.move (.tmp 71))), none⟩, ⟨(some 3), (.q (.move (.tmp 72))), none⟩, ⟨(some 4), (.q (.move (.const (.int .i64 0)))), none⟩]) .ret))))))))))
theorem t41 : Told Try.prog 41 73 c41 [(.tmp 2), (.tmp 3), (.tmp 4)] := ⟨Try.f41, _, [], Try.func41, rfl, by kernel_rfl, rfl, by kernel_rfl, by kernel_rfl⟩
def c104 : ACode := 
    (.seq 
    (.region [⟨(some 2), (.q (.move (.const (.int .i64 0)))), none⟩, ⟨(some 3), (.q (.move (.const (.int .i64 0)))), none⟩, ⟨(some 4), (.q (.move (.const (.str (B []))))), none⟩]) 
    (.seq 
    (.seq 
    (.region [⟨(some 10), (.q (.move (.tmp 0))), none⟩, ⟨(some 11), (.q (.len false (.tmp 10))), none⟩, ⟨(some 12), (.q (.move (.const (.int .i64 0)))), none⟩]) 
    (.block 0 
    (.loop 
    (.seq 
    (.region [⟨(some 13), (.q (.bin .lss (.tmp 12) (.tmp 11))), none⟩]) 
    (.seq 
    (.cond (.tmp 13) .skip (.exit 0)) 
    (.seq 
    (.block 1 
    (.seq 
    (.region [⟨(some 14), (.q (.move (.tmp 12))), none⟩, ⟨(some 15), (.q (.idxSl 1 (.tmp 10) (.tmp 12))), none⟩, ⟨(some 16), (.q (.load false 1 (.tmp 15))), none⟩, ⟨(some 5), (.q (.move (.tmp 14))), none⟩, ⟨(some 6), (.q (.move (.tmp 16))), none⟩]) 
    (.seq 
    (.region [⟨(some 18), (.q (.move (.tmp 6))), none⟩, ⟨(some 19), (.s (.call 41 [(.tmp 18)])), none⟩, ⟨(some 17), (.q (.move (.tmp 19))), none⟩, ⟨(some 20), (.q (.extract 0 (.tmp 17))), none⟩, ⟨(some 21), (.q (.extract 1 (.tmp 17))), none⟩, ⟨(some 22), (.q (.extract 2 (.tmp 17))), none⟩, ⟨(some 7), (.q (.move (.tmp 20))), none⟩, ⟨(some 8), (.q (.move (.tmp 21))), none⟩, ⟨(some 9), (.q (.move (.tmp 22))), none⟩]) 
    (.seq 
    (.region [⟨(some 23), (.q (.move (.tmp 9))), none⟩, ⟨(some 24), (.q (.bin .eql (.tmp 23) (.const (.int .i64 0)))), none⟩]) 
    (.cond (.tmp 24) 
    (.seq 
    (.region [⟨(some 25), (.q (.move (.tmp 5))), none⟩, ⟨(some 26), (.q (.move (.tmp 7))), none⟩, ⟨(some 27), (.q (.move (.tmp 8))), none⟩, ⟨(some 2), (.q (.move (.tmp 25))), none⟩, ⟨(some 3), (.q (.move (.tmp 26))), none⟩, ⟨(some 4), (.q (.move (.tmp 27))), none⟩]) .ret) .skip))))) 
    (.region [⟨(some 28), (.q (.bin .add (.tmp 12) (.const (.int .i64 1)))), none⟩, ⟨(some 12), (.q (.move (.tmp 28))), none⟩]))))))) 
    (.seq 
    (.region [⟨(some 2), (.q (.move (.const (.int .i64 (-1))))), none⟩, ⟨(some 3), (.q (.move (.const (.int .i64 0)))), none⟩, ⟨(some 4), (.q (.move (.const (.str (B []))))), none⟩]) .ret)))
theorem t104 : Told Try.prog 104 29 c104 [(.tmp 2), (.tmp 3), (.tmp 4)] := ⟨Try.f104, _, [], Try.func104, rfl, by kernel_rfl, rfl, by kernel_rfl, by kernel_rfl⟩
def c43 : ACode := 
    (.seq 
    (.region [⟨(some 4), (.q (.move (.const (.int .i64 0)))), none⟩, ⟨(some 5), (.q (.move (.const (.int .i64 0)))), none⟩, ⟨(some 6), (.q (.move (.const (.str (B []))))), none⟩]) 
    (.seq 
    (.region [⟨(some 7), (.q (.move (.tmp 0))), none⟩, ⟨(some 8), (.q (.move (.tmp 1))), none⟩, ⟨(some 9), (.s (.lit 9 1 [(.tmp 7), (.tmp 8)])), none⟩, ⟨(some 10), (.s (.call 104 [(.tmp 9)])), none⟩, ⟨(some 11), (.q (.extract 0 (.tmp 10))), none⟩, ⟨(some 12), (.q (.extract 1 (.tmp 10))), none⟩, ⟨(some 13), (.q (.extract 2 (.tmp 10))), none⟩, ⟨(some 4), (.q (.move (.tmp 11))), none⟩, ⟨(some 5), (.q (.move (.tmp 12))), none⟩, ⟨(some 6), (.q (.move (.tmp 13))), none⟩]) .ret))
theorem t43 : Told Try.prog 43 14 c43 [(.tmp 4), (.tmp 5), (.tmp 6)] := ⟨Try.f43, _, [], Try.func43, rfl, by kernel_rfl, rfl, by kernel_rfl, by kernel_rfl⟩
def c40 : ACode := 
    (.seq 
    (.region [⟨(some 4), (.q (.move (.const (.str (B []))))), none⟩, ⟨(some 5), (.q (.move (.const (.int .i64 0)))), none⟩]) 
    (.seq 
    (.seq 
    (.region [⟨(some 7), (.q (.move (.tmp 0))), none⟩, ⟨(some 8), (.q (.bin .lss (.tmp 7) (.const (.int .i64 0)))), none⟩, ⟨(some 9), (.q (.move (.tmp 8))), none⟩, ⟨(some 10), (.q (.move (.tmp 0))), (some (9, false))⟩, ⟨(some 11), (.q (.bin .gtr (.tmp 10) (.const (.int .i64 4294967295)))), (some (9, false))⟩, ⟨(some 12), (.q (.pick (.tmp 9) (.const (.bool true)) (.tmp 11))), none⟩, ⟨(some 13), (.q (.move (.tmp 12))), none⟩, ⟨(some 14), (.q (.move (.tmp 1))), (some (13, false))⟩, ⟨(some 15), (.q (.bin .eql (.tmp 14) (.const (.str (B []))))), (some (13, false))⟩, ⟨(some 16), (.q (.pick (.tmp 13) (.const (.bool true)) (.tmp 15))), none⟩]) 
    (.cond (.tmp 16) 
    (.seq 
    (.region [⟨(some 4), (.q (.move (.const (.str (B []))))), none⟩, ⟨(some 5), (.q (.move (.const (.int .i64 1)))), none⟩]) .ret) .skip)) 
    (.seq 
    (.seq 
    (.region [⟨(some 17), (.q (.move (.tmp 1))), none⟩, ⟨(some 18), (.q (.len true (.tmp 17))), none⟩, ⟨(some 19), (.q (.bin .gtr (.tmp 18) (.const (.int .i64 992)))), none⟩]) 
    (.cond (.tmp 19) 
    (.seq 
    (.region [⟨(some 4), (.q (.move (.const (.str (B []))))), none⟩, ⟨(some 5), (.q (.move (.const (.int .i64 7)))), none⟩]) .ret) .skip)) 
    (.seq 
    (.region [⟨(some 20), (.q (.move (.tmp 0))), none⟩, ⟨(some 21), (.q (.move (.tmp 1))), none⟩, ⟨(some 22), (.q (.len true (.tmp 21))), none⟩, ⟨(some 23), (.s (.lit 3 1 [(.tmp 20), (.tmp 22)])), none⟩, ⟨(some 24), (.s (.call 96 [(.tmp 23)])), none⟩, ⟨(some 6), (.q (.move (.tmp 24))), none⟩]) 
    (.seq 
    (.region [⟨(some 25), (.q (.move (.tmp 6))), none⟩, ⟨(some 26), (.q (.bin .add (.const (.str (B [80, 83, 84, 50]))) (.tmp 25))), none⟩, ⟨(some 27), (.q (.move (.tmp 6))), none⟩, ⟨(some 28), (.q (.move (.tmp 1))), none⟩, ⟨(some 29), (.q (.bin .add (.tmp 27) (.tmp 28))), none⟩, ⟨(some 30), (.s (.call 98 [(.tmp 29)])), none⟩, ⟨(some 31), (.s (.call 97 [(.tmp 30)])), none⟩, ⟨(some 32), (.q (.bin .add (.tmp 26) (.tmp 31))), none⟩, ⟨(some 33), (.q (.move (.tmp 1))), none⟩, ⟨(some 34), (.s (.call 99 [(.tmp 33)])), none⟩, ⟨(some 35), (.q (.sliceStr (.tmp 34) none (some (.const (.int .i64 8))))), none⟩, ⟨(some 36), (.q (.bin .add (.tmp 32) (.tmp 35))), none⟩, ⟨(some 37), (.q (.move (.tmp 1))), none⟩, ⟨(some 38), (.q (.bin .add (.tmp 36) (.tmp 37))), none⟩, ⟨(some 4), (.q (.move (.tmp 38))), none⟩, ⟨(some 5), (.q (.move (.const (.int .i64 0)))), none⟩]) .ret)))))
theorem t40 : Told Try.prog 40 39 c40 [(.tmp 4), (.tmp 5)] := ⟨Try.f40, _, [], Try.func40, rfl, by kernel_rfl, rfl, by kernel_rfl, by kernel_rfl⟩
def c42 : ACode := 
    (.seq 
    (.region [⟨(some 2), (.q (.move (.const (.int .i64 0)))), none⟩, ⟨(some 3), (.q (.move (.const (.str (B []))))), none⟩, ⟨(some 4), (.q (.move (.const (.int .i64 0)))), none⟩]) 
    (.seq 
    (.seq 
    (.region [⟨(some 11), (.q (.move (.tmp 0))), none⟩, ⟨(some 12), (.q (.len true (.tmp 11))), none⟩, ⟨(some 13), (.q (.bin .lss (.tmp 12) (.const (.int .i64 24)))), none⟩]) 
    (.cond (.tmp 13) 
    (.seq 
    (.region [⟨(some 2), (.q (.move (.const (.int .i64 0)))), none⟩, ⟨(some 3), (.q (.move (.const (.str (B []))))), none⟩, ⟨(some 4), (.q (.move (.const (.int .i64 14)))), none⟩]) .ret) .skip)) 
    (.seq 
    (.region [⟨(some 15), (.q (.move (.tmp 0))), none⟩, ⟨(some 16), (.q (.sliceStr (.tmp 15) (some (.const (.int .i64 4))) none)), none⟩, ⟨(some 17), (.s (.call 103 [(.tmp 16)])), none⟩, ⟨(some 14), (.q (.move (.tmp 17))), none⟩, ⟨(some 18), (.q (.extract 0 (.tmp 14))), none⟩, ⟨(some 19), (.q (.extract 1 (.tmp 14))), none⟩, ⟨(some 5), (.q (.move (.tmp 18))), none⟩, ⟨(some 6), (.q (.move (.tmp 19))), none⟩]) 
    (.seq 
    (.region [⟨(some 21), (.q (.move (.tmp 0))), none⟩, ⟨(some 22), (.q (.sliceStr (.tmp 21) (some (.const (.int .i64 8))) none)), none⟩, ⟨(some 23), (.s (.call 103 [(.tmp 22)])), none⟩, ⟨(some 20), (.q (.move (.tmp 23))), none⟩, ⟨(some 24), (.q (.extract 0 (.tmp 20))), none⟩, ⟨(some 25), (.q (.extract 1 (.tmp 20))), none⟩, ⟨(some 7), (.q (.move (.tmp 24))), none⟩, ⟨(some 8), (.q (.move (.tmp 25))), none⟩]) 
    (.seq 
    (.region [⟨(some 27), (.q (.move (.tmp 0))), none⟩, ⟨(some 28), (.q (.sliceStr (.tmp 27) (some (.const (.int .i64 12))) none)), none⟩, ⟨(some 29), (.s (.call 103 [(.tmp 28)])), none⟩, ⟨(some 26), (.q (.move (.tmp 29))), none⟩, ⟨(some 30), (.q (.extract 0 (.tmp 26))), none⟩, ⟨(some 31), (.q (.extract 1 (.tmp 26))), none⟩, ⟨(some 9), (.q (.move (.tmp 30))), none⟩, ⟨(some 10), (.q (.move (.tmp 31))), none⟩]) 
    (.seq 
    (.block 0 
    (.seq 
    (.region [⟨(some 33), (.q (.move (.tmp 0))), none⟩, ⟨(some 34), (.q (.sliceStr (.tmp 33) none (some (.const (.int .i64 4))))), none⟩, ⟨(some 35), (.q (.bin .neq (.tmp 34) (.const (.str (B [80, 83, 84, 50]))))), none⟩, ⟨(some 36), (.q (.move (.tmp 35))), none⟩, ⟨(some 37), (.q (.move (.tmp 7))), (some (36, false))⟩, ⟨(some 38), (.q (.bin .eql (.tmp 37) (.const (.int .i64 0)))), (some (36, false))⟩, ⟨(some 39), (.q (.pick (.tmp 36) (.const (.bool true)) (.tmp 38))), none⟩, ⟨(some 32), (.q (.move (.tmp 39))), none⟩]) 
    (.cond (.tmp 32) 
    (.seq 
    (.region [⟨(some 2), (.q (.move (.const (.int .i64 0)))), none⟩, ⟨(some 3), (.q (.move (.const (.str (B []))))), none⟩, ⟨(some 4), (.q (.move (.const (.int .i64 6)))), none⟩]) .ret) 
    (.seq 
    (.region [⟨(some 41), (.q (.move (.tmp 7))), none⟩, ⟨(some 42), (.q (.bin .gtr (.tmp 41) (.const (.int .i64 992)))), none⟩, ⟨(some 40), (.q (.move (.tmp 42))), none⟩]) 
    (.cond (.tmp 40) 
    (.seq 
    (.region [⟨(some 2), (.q (.move (.const (.int .i64 0)))), none⟩, ⟨(some 3), (.q (.move (.const (.str (B []))))), none⟩, ⟨(some 4), (.q (.move (.const (.int .i64 7)))), none⟩]) .ret) 
    (.seq 
    (.region [⟨(some 44), (.q (.move (.tmp 7))), none⟩, ⟨(some 45), (.q (.move (.tmp 0))), none⟩, ⟨(some 46), (.q (.len true (.tmp 45))), none⟩, ⟨(some 47), (.q (.bin .sub (.tmp 46) (.const (.int .i64 24)))), none⟩, ⟨(some 48), (.q (.bin .gtr (.tmp 44) (.tmp 47))), none⟩, ⟨(some 43), (.q (.move (.tmp 48))), none⟩]) 
    (.cond (.tmp 43) 
    (.seq 
    (.region [⟨(some 2), (.q (.move (.const (.int .i64 0)))), none⟩, ⟨(some 3), (.q (.move (.const (.str (B []))))), none⟩, ⟨(some 4), (.q (.move (.const (.int .i64 14)))), none⟩]) .ret) 
    (.seq 
    (.region [⟨(some 50), (.q (.move (.tmp 0))), none⟩, ⟨(some 51), (.q (.sliceStr (.tmp 50) (some (.const (.int .i64 4))) (some (.const (.int .i64 12))))), none⟩, ⟨(some 52), (.q (.move (.tmp 0))), none⟩, ⟨(some 53), (.q (.move (.tmp 7))), none⟩, ⟨(some 54), (.q (.bin .add (.const (.int .i64 24)) (.tmp 53))), none⟩, ⟨(some 55), (.q (.sliceStr (.tmp 52) (some (.const (.int .i64 24))) (some (.tmp 54)))), none⟩, ⟨(some 56), (.q (.bin .add (.tmp 51) (.tmp 55))), none⟩, ⟨(some 58), (.q (.move (.tmp 9))), none⟩, ⟨(some 57), (.s (.call 98 [(.tmp 56)])), none⟩, ⟨(some 59), (.q (.bin .neq (.tmp 57) (.tmp 58))), none⟩, ⟨(some 60), (.q (.move (.tmp 59))), none⟩, ⟨(some 61), (.q (.move (.tmp 0))), (some (60, false))⟩, ⟨(some 62), (.q (.move (.tmp 7))), (some (60, false))⟩, ⟨(some 63), (.q (.bin .add (.const (.int .i64 24)) (.tmp 62))), (some (60, false))⟩, ⟨(some 64), (.q (.sliceStr (.tmp 61) (some (.const (.int .i64 24))) (some (.tmp 63)))), (some (60, false))⟩, ⟨(some 67), (.q (.move (.tmp 0))), (some (60, false))⟩, ⟨(some 68), (.q (.sliceStr (.tmp 67) (some (.const (.int .i64 16))) (some (.const (.int .i64 24))))), (some (60, false))⟩, ⟨(some 65), (.s (.call 99 [(.tmp 64)])), (some (60, false))⟩, ⟨(some 66), (.q (.sliceStr (.tmp 65) none (some (.const (.int .i64 8))))), (some (60, false))⟩, ⟨(some 69), (.q (.bin .neq (.tmp 66) (.tmp 68))), (some (60, false))⟩, ⟨(some 70), (.q (.pick (.tmp 60) (.const (.bool true)) (.tmp 69))), none⟩, ⟨(some 49), (.q (.move (.tmp 70))), none⟩]) 
    (.cond (.tmp 49) 
    (.seq 
    (.region [⟨(some 2), (.q (.move (.const (.int .i64 0)))), none⟩, ⟨(some 3), (.q (.move (.const (.str (B []))))), none⟩, ⟨(some 4), (.q (.move (.const (.int .i64 9)))), none⟩]) .ret) .skip))))))))) 
    (.seq 
    (.region [⟨(some 71), (.q (.move (.tmp 5))), none⟩, ⟨(some 72), (.q (.move (.tmp 0))), none⟩, ⟨(some 73), (.q (.move (.tmp 7))), none⟩, ⟨(some 74), (.q (.bin .add (.const (.int .i64 24)) (.tmp 73))), none⟩, ⟨(some 75), (.q (.sliceStr (.tmp 72) (some (.const (.int .i64 24))) (some (.tmp 74)))), none⟩, ⟨(some 2), (.q (.move (.tmp 71))), none⟩, ⟨(some 3), (.q (.move (.tmp 75))), none⟩, ⟨(some 4), (.q (.move (.const (.int .i64 0)))), none⟩]) .ret)))))))
theorem t42 : Told Try.prog 42 76 c42 [(.tmp 2), (.tmp 3), (.tmp 4)] := ⟨Try.f42, _, [], Try.func42, rfl, by kernel_rfl, rfl, by kernel_rfl, by kernel_rfl⟩
def c44 : ACode := 
    (.seq 
    (.region [⟨(some 4), (.q (.move (.const (.int .i64 0)))), none⟩, ⟨(some 5), (.q (.move (.const (.int .i64 0)))), none⟩, ⟨(some 6), (.q (.move (.const (.str (B []))))), none⟩]) 
    (.seq 
    (.region [⟨(some 11), (.q (.move (.tmp 0))), none⟩, ⟨(some 12), (.s (.call 42 [(.tmp 11)])), none⟩, ⟨(some 10), (.q (.move (.tmp 12))), none⟩, ⟨(some 13), (.q (.extract 0 (.tmp 10))), none⟩, ⟨(some 14), (.q (.extract 1 (.tmp 10))), none⟩, ⟨(some 15), (.q (.extract 2 (.tmp 10))), none⟩, ⟨(some 7), (.q (.move (.tmp 13))), none⟩, ⟨(some 8), (.q (.move (.tmp 14))), none⟩, ⟨(some 9), (.q (.move (.tmp 15))), none⟩]) 
    (.seq 
    (.seq 
    (.region [⟨(some 16), (.q (.move (.tmp 9))), none⟩, ⟨(some 17), (.q (.bin .eql (.tmp 16) (.const (.int .i64 0)))), none⟩]) 
    (.cond (.tmp 17) 
    (.seq 
    (.region [⟨(some 18), (.q (.move (.tmp 7))), none⟩, ⟨(some 19), (.q (.move (.tmp 8))), none⟩, ⟨(some 4), (.q (.move (.const (.int .i64 0)))), none⟩, ⟨(some 5), (.q (.move (.tmp 18))), none⟩, ⟨(some 6), (.q (.move (.tmp 19))), none⟩]) .ret) .skip)) 
    (.seq 
    (.region [⟨(some 21), (.q (.move (.tmp 1))), none⟩, ⟨(some 22), (.s (.call 42 [(.tmp 21)])), none⟩, ⟨(some 20), (.q (.move (.tmp 22))), none⟩, ⟨(some 23), (.q (.extract 0 (.tmp 20))), none⟩, ⟨(some 24), (.q (.extract 1 (.tmp 20))), none⟩, ⟨(some 25), (.q (.extract 2 (.tmp 20))), none⟩, ⟨(some 7), (.q (.move (.tmp 23))), none⟩, ⟨(some 8), (.q (.move (.tmp 24))), none⟩, ⟨(some 9), (.q (.move (.tmp 25))), none⟩]) 
    (.seq 
    (.seq 
    (.region [⟨(some 26), (.q (.move (.tmp 9))), none⟩, ⟨(some 27), (.q (.bin .eql (.tmp 26) (.const (.int .i64 0)))), none⟩]) 
    (.cond (.tmp 27) 
    (.seq 
    (.region [⟨(some 28), (.q (.move (.tmp 7))), none⟩, ⟨(some 29), (.q (.move (.tmp 8))), none⟩, ⟨(some 4), (.q (.move (.const (.int .i64 1)))), none⟩, ⟨(some 5), (.q (.move (.tmp 28))), none⟩, ⟨(some 6), (.q (.move (.tmp 29))), none⟩]) .ret) .skip)) 
    (.seq 
    (.region [⟨(some 4), (.q (.move (.const (.int .i64 (-1))))), none⟩, ⟨(some 5), (.q (.move (.const (.int .i64 0)))), none⟩, ⟨(some 6), (.q (.move (.const (.str (B []))))), none⟩]) .ret))))))
theorem t44 : Told Try.prog 44 30 c44 [(.tmp 4), (.tmp 5), (.tmp 6)] := ⟨Try.f44, _, [], Try.func44, rfl, by kernel_rfl, rfl, by kernel_rfl, by kernel_rfl⟩
def c38 : ACode := 
    (.seq 
    (.region [⟨(some 0), (.q (.move (.const (.bool false)))), none⟩]) 
    (.seq 
    (.region [⟨(some 13), (.s (.call 39 [(.const (.int .i64 7)), (.const (.str (B [99, 111, 100, 101])))])), none⟩, ⟨(some 12), (.q (.move (.tmp 13))), none⟩, ⟨(some 14), (.q (.extract 0 (.tmp 12))), none⟩, ⟨(some 15), (.q (.extract 1 (.tmp 12))), none⟩, ⟨(some 1), (.q (.move (.tmp 14))), none⟩, ⟨(some 2), (.q (.move (.tmp 15))), none⟩]) 
    (.seq 
    (.region [⟨(some 17), (.q (.move (.tmp 1))), none⟩, ⟨(some 18), (.q (.bin .add (.tmp 17) (.const (.str (B [255]))))), none⟩, ⟨(some 19), (.s (.call 41 [(.tmp 18)])), none⟩, ⟨(some 16), (.q (.move (.tmp 19))), none⟩, ⟨(some 20), (.q (.extract 0 (.tmp 16))), none⟩, ⟨(some 21), (.q (.extract 1 (.tmp 16))), none⟩, ⟨(some 22), (.q (.extract 2 (.tmp 16))), none⟩, ⟨(some 3), (.q (.move (.tmp 20))), none⟩, ⟨(some 4), (.q (.move (.tmp 21))), none⟩, ⟨(some 5), (.q (.move (.tmp 22))), none⟩]) 
    (.seq 
    (.region [⟨(some 24), (.q (.move (.tmp 1))), none⟩, ⟨(some 25), (.s (.call 43 [(.const (.str (B [116, 111, 114, 110]))), (.tmp 24)])), none⟩, ⟨(some 23), (.q (.move (.tmp 25))), none⟩, ⟨(some 26), (.q (.extract 0 (.tmp 23))), none⟩, ⟨(some 27), (.q (.extract 1 (.tmp 23))), none⟩, ⟨(some 28), (.q (.extract 2 (.tmp 23))), none⟩, ⟨(some 6), (.q (.move (.tmp 26))), none⟩, ⟨(some 7), (.q (.move (.tmp 27))), none⟩, ⟨(some 8), (.q (.move (.tmp 28))), none⟩]) 
    (.seq 
    (.region [⟨(some 30), (.s (.call 43 [(.const (.str (B []))), (.const (.str (B [])))])), none⟩, ⟨(some 29), (.q (.move (.tmp 30))), none⟩, ⟨(some 31), (.q (.extract 0 (.tmp 29))), none⟩, ⟨(some 32), (.q (.extract 1 (.tmp 29))), none⟩, ⟨(some 33), (.q (.extract 2 (.tmp 29))), none⟩, ⟨(some 9), (.q (.move (.tmp 31))), none⟩, ⟨(some 10), (.q (.move (.tmp 32))), none⟩, ⟨(some 11), (.q (.move (.tmp 33))), none⟩]) 
    (.seq 
    (.region [⟨(some 34), (.q (.move (.tmp 1))), none⟩, ⟨(some 35), (.q (.len true (.tmp 34))), none⟩, ⟨(some 36), (.q (.bin .eql (.tmp 35) (.const (.int .i64 28)))), none⟩, ⟨(some 37), (.q (.move (.tmp 36))), none⟩, ⟨(some 38), (.q (.move (.tmp 2))), (some (37, true))⟩, ⟨(some 39), (.q (.bin .eql (.tmp 38) (.const (.int .i64 0)))), (some (37, true))⟩, ⟨(some 40), (.q (.pick (.tmp 37) (.tmp 39) (.const (.bool false)))), none⟩, ⟨(some 41), (.q (.move (.tmp 40))), none⟩, ⟨(some 42), (.q (.move (.tmp 3))), (some (41, true))⟩, ⟨(some 43), (.q (.bin .eql (.tmp 42) (.const (.int .i64 7)))), (some (41, true))⟩, ⟨(some 44), (.q (.pick (.tmp 41) (.tmp 43) (.const (.bool false)))), none⟩, ⟨(some 45), (.q (.move (.tmp 44))), none⟩, ⟨(some 46), (.q (.move (.tmp 4))), (some (45, true))⟩, ⟨(some 47), (.q (.bin .eql (.tmp 46) (.const (.str (B [99, 111, 100, 101]))))), (some (45, true))⟩, ⟨(some 48), (.q (.pick (.tmp 45) (.tmp 47) (.const (.bool false)))), none⟩, ⟨(some 49), (.q (.move (.tmp 48))), none⟩, ⟨(some 50), (.q (.move (.tmp 5))), (some (49, true))⟩, ⟨(some 51), (.q (.bin .eql (.tmp 50) (.const (.int .i64 0)))), (some (49, true))⟩, ⟨(some 52), (.q (.pick (.tmp 49) (.tmp 51) (.const (.bool false)))), none⟩, ⟨(some 53), (.q (.move (.tmp 52))), none⟩, ⟨(some 54), (.q (.move (.tmp 6))), (some (53, true))⟩, ⟨(some 55), (.q (.bin .eql (.tmp 54) (.const (.int .i64 1)))), (some (53, true))⟩, ⟨(some 56), (.q (.pick (.tmp 53) (.tmp 55) (.const (.bool false)))), none⟩, ⟨(some 57), (.q (.move (.tmp 56))), none⟩, ⟨(some 58), (.q (.move (.tmp 7))), (some (57, true))⟩, ⟨(some 59), (.q (.bin .eql (.tmp 58) (.const (.int .i64 7)))), (some (57, true))⟩, ⟨(some 60), (.q (.pick (.tmp 57) (.tmp 59) (.const (.bool false)))), none⟩, ⟨(some 61), (.q (.move (.tmp 60))), none⟩, ⟨(some 62), (.q (.move (.tmp 8))), (some (61, true))⟩, ⟨(some 63), (.q (.bin .eql (.tmp 62) (.const (.str (B [99, 111, 100, 101]))))), (some (61, true))⟩, ⟨(some 64), (.q (.pick (.tmp 61) (.tmp 63) (.const (.bool false)))), none⟩, ⟨(some 65), (.q (.move (.tmp 64))), none⟩, ⟨(some 66), (.q (.move (.tmp 9))), (some (65, true))⟩, ⟨(some 67), (.q (.bin .eql (.tmp 66) (.const (.int .i64 (-1))))), (some (65, true))⟩, ⟨(some 68), (.q (.pick (.tmp 65) (.tmp 67) (.const (.bool false)))), none⟩, ⟨(some 0), (.q (.move (.tmp 68))), none⟩]) .ret))))))
theorem t38 : Told Try.prog 38 69 c38 [(.tmp 0)] := ⟨Try.f38, _, [], Try.func38, rfl, by kernel_rfl, rfl, by kernel_rfl, by kernel_rfl⟩
def c8 : ACode := 
    (.seq 
    (.region [⟨(some 6), (.q (.move (.const (.bool false)))), none⟩]) 
    (.seq 
    (.seq 
    (.region [⟨(some 23), (.q (.move (.tmp 1))), none⟩, ⟨(some 24), (.q (.len true (.tmp 23))), none⟩, ⟨(some 25), (.q (.bin .gtr (.tmp 24) (.const (.int .i64 1100)))), none⟩, ⟨(some 26), (.q (.move (.tmp 25))), none⟩, ⟨(some 27), (.q (.move (.tmp 2))), (some (26, false))⟩, ⟨(some 28), (.q (.len true (.tmp 27))), (some (26, false))⟩, ⟨(some 29), (.q (.bin .gtr (.tmp 28) (.const (.int .i64 1100)))), (some (26, false))⟩, ⟨(some 30), (.q (.pick (.tmp 26) (.const (.bool true)) (.tmp 29))), none⟩]) 
    (.cond (.tmp 30) 
    (.seq 
    (.region [⟨(some 31), (.s (.call 38 [])), none⟩, ⟨(some 6), (.q (.move (.tmp 31))), none⟩]) .ret) .skip)) 
    (.seq 
    (.region [⟨(some 33), (.q (.move (.tmp 0))), none⟩, ⟨(some 34), (.q (.move (.tmp 1))), none⟩, ⟨(some 35), (.s (.call 39 [(.tmp 33), (.tmp 34)])), none⟩, ⟨(some 32), (.q (.move (.tmp 35))), none⟩, ⟨(some 36), (.q (.extract 0 (.tmp 32))), none⟩, ⟨(some 37), (.q (.extract 1 (.tmp 32))), none⟩, ⟨(some 7), (.q (.move (.tmp 36))), none⟩, ⟨(some 8), (.q (.move (.tmp 37))), none⟩]) 
    (.seq 
    (.region [⟨(some 39), (.q (.move (.tmp 0))), none⟩, ⟨(some 40), (.q (.move (.tmp 1))), none⟩, ⟨(some 41), (.s (.call 40 [(.tmp 39), (.tmp 40)])), none⟩, ⟨(some 38), (.q (.move (.tmp 41))), none⟩, ⟨(some 42), (.q (.extract 0 (.tmp 38))), none⟩, ⟨(some 43), (.q (.extract 1 (.tmp 38))), none⟩, ⟨(some 9), (.q (.move (.tmp 42))), none⟩, ⟨(some 10), (.q (.move (.tmp 43))), none⟩]) 
    (.seq 
    (.region [⟨(some 45), (.q (.move (.tmp 1))), none⟩, ⟨(some 46), (.s (.call 41 [(.tmp 45)])), none⟩, ⟨(some 44), (.q (.move (.tmp 46))), none⟩, ⟨(some 47), (.q (.extract 0 (.tmp 44))), none⟩, ⟨(some 48), (.q (.extract 1 (.tmp 44))), none⟩, ⟨(some 49), (.q (.extract 2 (.tmp 44))), none⟩, ⟨(some 11), (.q (.move (.tmp 47))), none⟩, ⟨(some 12), (.q (.move (.tmp 48))), none⟩, ⟨(some 13), (.q (.move (.tmp 49))), none⟩]) 
    (.seq 
    (.region [⟨(some 51), (.q (.move (.tmp 1))), none⟩, ⟨(some 52), (.s (.call 42 [(.tmp 51)])), none⟩, ⟨(some 50), (.q (.move (.tmp 52))), none⟩, ⟨(some 53), (.q (.extract 0 (.tmp 50))), none⟩, ⟨(some 54), (.q (.extract 1 (.tmp 50))), none⟩, ⟨(some 55), (.q (.extract 2 (.tmp 50))), none⟩, ⟨(some 14), (.q (.move (.tmp 53))), none⟩, ⟨(some 15), (.q (.move (.tmp 54))), none⟩, ⟨(some 16), (.q (.move (.tmp 55))), none⟩]) 
    (.seq 
    (.region [⟨(some 57), (.q (.move (.tmp 1))), none⟩, ⟨(some 58), (.q (.move (.tmp 2))), none⟩, ⟨(some 59), (.s (.call 43 [(.tmp 57), (.tmp 58)])), none⟩, ⟨(some 56), (.q (.move (.tmp 59))), none⟩, ⟨(some 60), (.q (.extract 0 (.tmp 56))), none⟩, ⟨(some 61), (.q (.extract 1 (.tmp 56))), none⟩, ⟨(some 62), (.q (.extract 2 (.tmp 56))), none⟩, ⟨(some 17), (.q (.move (.tmp 60))), none⟩, ⟨(some 18), (.q (.move (.tmp 61))), none⟩, ⟨(some 19), (.q (.move (.tmp 62))), none⟩]) 
    (.seq 
    (.region [⟨(some 64), (.q (.move (.tmp 1))), none⟩, ⟨(some 65), (.q (.move (.tmp 2))), none⟩, ⟨(some 66), (.s (.call 44 [(.tmp 64), (.tmp 65)])), none⟩, ⟨(some 63), (.q (.move (.tmp 66))), none⟩, ⟨(some 67), (.q (.extract 0 (.tmp 63))), none⟩, ⟨(some 68), (.q (.extract 1 (.tmp 63))), none⟩, ⟨(some 69), (.q (.extract 2 (.tmp 63))), none⟩, ⟨(some 20), (.q (.move (.tmp 67))), none⟩, ⟨(some 21), (.q (.move (.tmp 68))), none⟩, ⟨(some 22), (.q (.move (.tmp 69))), none⟩]) 
    (.seq 
    (.region [⟨(some 70), (.q (.move (.tmp 7))), none⟩, ⟨(some 71), (.q (.move (.tmp 9))), none⟩, ⟨(some 72), (.q (.bin .eql (.tmp 70) (.tmp 71))), none⟩, ⟨(some 73), (.q (.move (.tmp 72))), none⟩, ⟨(some 74), (.q (.move (.tmp 8))), (some (73, true))⟩, ⟨(some 75), (.q (.move (.tmp 10))), (some (73, true))⟩, ⟨(some 76), (.q (.bin .eql (.tmp 74) (.tmp 75))), (some (73, true))⟩, ⟨(some 77), (.q (.pick (.tmp 73) (.tmp 76) (.const (.bool false)))), none⟩, ⟨(some 78), (.q (.move (.tmp 77))), none⟩, ⟨(some 79), (.q (.move (.tmp 11))), (some (78, true))⟩, ⟨(some 80), (.q (.move (.tmp 14))), (some (78, true))⟩, ⟨(some 81), (.q (.bin .eql (.tmp 79) (.tmp 80))), (some (78, true))⟩, ⟨(some 82), (.q (.pick (.tmp 78) (.tmp 81) (.const (.bool false)))), none⟩, ⟨(some 83), (.q (.move (.tmp 82))), none⟩, ⟨(some 84), (.q (.move (.tmp 12))), (some (83, true))⟩, ⟨(some 85), (.q (.move (.tmp 15))), (some (83, true))⟩, ⟨(some 86), (.q (.bin .eql (.tmp 84) (.tmp 85))), (some (83, true))⟩, ⟨(some 87), (.q (.pick (.tmp 83) (.tmp 86) (.const (.bool false)))), none⟩, ⟨(some 88), (.q (.move (.tmp 87))), none⟩, ⟨(some 89), (.q (.move (.tmp 13))), (some (88, true))⟩, ⟨(some 90), (.q (.move (.tmp 16))), (some (88, true))⟩, ⟨(some 91), (.q (.bin .eql (.tmp 89) (.tmp 90))), (some (88, true))⟩, ⟨(some 92), (.q (.pick (.tmp 88) (.tmp 91) (.const (.bool false)))), none⟩, ⟨(some 93), (.q (.move (.tmp 92))), none⟩, ⟨(some 94), (.q (.move (.tmp 17))), (some (93, true))⟩, ⟨(some 95), (.q (.move (.tmp 20))), (some (93, true))⟩, ⟨(some 96), (.q (.bin .eql (.tmp 94) (.tmp 95))), (some (93, true))⟩, ⟨(some 97), (.q (.pick (.tmp 93) (.tmp 96) (.const (.bool false)))), none⟩, ⟨(some 98), (.q (.move (.tmp 97))), none⟩, ⟨(some 99), (.q (.move (.tmp 18))), (some (98, true))⟩, ⟨(some 100), (.q (.move (.tmp 21))), (some (98, true))⟩, ⟨(some 101), (.q (.bin .eql (.tmp 99) (.tmp 100))), (some (98, true))⟩, ⟨(some 102), (.q (.pick (.tmp 98) (.tmp 101) (.const (.bool false)))), none⟩, ⟨(some 103), (.q (.move (.tmp 102))), none⟩, ⟨(some 104), (.q (.move (.tmp 19))), (some (103, true))⟩, ⟨(some 105), (.q (.move (.tmp 22))), (some (103, true))⟩, ⟨(some 106), (.q (.bin .eql (.tmp 104) (.tmp 105))), (some (103, true))⟩, ⟨(some 107), (.q (.pick (.tmp 103) (.tmp 106) (.const (.bool false)))), none⟩, ⟨(some 108), (.q (.move (.tmp 107))), none⟩, ⟨(some 109), (.s (.call 38 [])), (some (108, true))⟩, ⟨(some 110), (.q (.pick (.tmp 108) (.tmp 109) (.const (.bool false)))), none⟩, ⟨(some 6), (.q (.move (.tmp 110))), none⟩]) .ret)))))))))
theorem t8 : Told Try.prog 8 111 c8 [(.tmp 6)] := ⟨Try.f8, _, [], Try.func8, rfl, by kernel_rfl, rfl, by kernel_rfl, by kernel_rfl⟩
def c9 : ACode := 
    (.seq 
    (.region [⟨(some 5), (.s (.box 75 (.tmp 2))), none⟩, ⟨(some 6), (.q (.move (.const (.bool false)))), none⟩]) 
    (.seq 
    (.seq 
    (.region [⟨(some 24), (.q (.move (.tmp 0))), none⟩, ⟨(some 25), (.q (.len true (.tmp 24))), none⟩, ⟨(some 26), (.q (.bin .gtr (.tmp 25) (.const (.int .i64 992)))), none⟩, ⟨(some 27), (.q (.move (.tmp 26))), none⟩, ⟨(some 28), (.q (.move (.tmp 0))), (some (27, false))⟩, ⟨(some 29), (.q (.len true (.tmp 28))), (some (27, false))⟩, ⟨(some 30), (.q (.bin .lss (.tmp 29) (.const (.int .i64 4)))), (some (27, false))⟩, ⟨(some 31), (.q (.pick (.tmp 27) (.const (.bool true)) (.tmp 30))), none⟩, ⟨(some 32), (.q (.move (.tmp 31))), none⟩, ⟨(some 33), (.q (.move (.tmp 1))), (some (32, false))⟩, ⟨(some 34), (.q (.len true (.tmp 33))), (some (32, false))⟩, ⟨(some 35), (.q (.bin .gtr (.tmp 34) (.const (.int .i64 1100)))), (some (32, false))⟩, ⟨(some 36), (.q (.pick (.tmp 32) (.const (.bool true)) (.tmp 35))), none⟩]) 
    (.cond (.tmp 36) 
    (.seq 
    (.region [⟨(some 37), (.s (.call 38 [])), none⟩, ⟨(some 6), (.q (.move (.tmp 37))), none⟩]) .ret) .skip)) 
    (.seq 
    (.region [⟨(some 39), (.q (.idxPt 1 3 (.tmp 5) (.const (.int .i64 0)))), none⟩, ⟨(some 40), (.q (.load false 1 (.tmp 39))), none⟩, ⟨(some 41), (.q (.conv .i64 (.tmp 40))), none⟩, ⟨(some 42), (.q (.move (.tmp 0))), none⟩, ⟨(some 43), (.s (.call 39 [(.tmp 41), (.tmp 42)])), none⟩, ⟨(some 38), (.q (.move (.tmp 43))), none⟩, ⟨(some 44), (.q (.extract 0 (.tmp 38))), none⟩, ⟨(some 45), (.q (.extract 1 (.tmp 38))), none⟩, ⟨(some 7), (.q (.move (.tmp 44))), none⟩, ⟨(some 8), (.q (.move (.tmp 45))), none⟩]) 
    (.seq 
    (.seq 
    (.region [⟨(some 46), (.q (.move (.tmp 8))), none⟩, ⟨(some 47), (.q (.bin .neq (.tmp 46) (.const (.int .i64 0)))), none⟩]) 
    (.cond (.tmp 47) 
    (.seq 
    (.region [⟨(some 6), (.q (.move (.const (.bool false)))), none⟩]) .ret) .skip)) 
    (.seq 
    (.region [⟨(some 49), (.q (.move (.tmp 7))), none⟩, ⟨(some 50), (.q (.move (.tmp 1))), none⟩, ⟨(some 51), (.q (.bin .add (.tmp 49) (.tmp 50))), none⟩, ⟨(some 52), (.s (.call 41 [(.tmp 51)])), none⟩, ⟨(some 48), (.q (.move (.tmp 52))), none⟩, ⟨(some 53), (.q (.extract 0 (.tmp 48))), none⟩, ⟨(some 54), (.q (.extract 1 (.tmp 48))), none⟩, ⟨(some 55), (.q (.extract 2 (.tmp 48))), none⟩, ⟨(some 9), (.q (.move (.tmp 53))), none⟩, ⟨(some 10), (.q (.move (.tmp 54))), none⟩, ⟨(some 11), (.q (.move (.tmp 55))), none⟩]) 
    (.seq 
    (.region [⟨(some 57), (.q (.move (.tmp 7))), none⟩, ⟨(some 58), (.q (.move (.tmp 1))), none⟩, ⟨(some 59), (.q (.bin .add (.tmp 57) (.tmp 58))), none⟩, ⟨(some 60), (.q (.move (.tmp 1))), none⟩, ⟨(some 61), (.s (.call 43 [(.tmp 59), (.tmp 60)])), none⟩, ⟨(some 56), (.q (.move (.tmp 61))), none⟩, ⟨(some 62), (.q (.extract 0 (.tmp 56))), none⟩, ⟨(some 63), (.q (.extract 1 (.tmp 56))), none⟩, ⟨(some 64), (.q (.extract 2 (.tmp 56))), none⟩, ⟨(some 12), (.q (.move (.tmp 62))), none⟩, ⟨(some 13), (.q (.move (.tmp 63))), none⟩, ⟨(some 14), (.q (.move (.tmp 64))), none⟩]) 
    (.seq 
    (.seq 
    (.region [⟨(some 65), (.q (.move (.tmp 9))), none⟩, ⟨(some 66), (.q (.idxPt 1 3 (.tmp 5) (.const (.int .i64 0)))), none⟩, ⟨(some 67), (.q (.load false 1 (.tmp 66))), none⟩, ⟨(some 68), (.q (.conv .i64 (.tmp 67))), none⟩, ⟨(some 69), (.q (.bin .neq (.tmp 65) (.tmp 68))), none⟩, ⟨(some 70), (.q (.move (.tmp 69))), none⟩, ⟨(some 71), (.q (.move (.tmp 10))), (some (70, false))⟩, ⟨(some 72), (.q (.move (.tmp 0))), (some (70, false))⟩, ⟨(some 73), (.q (.bin .neq (.tmp 71) (.tmp 72))), (some (70, false))⟩, ⟨(some 74), (.q (.pick (.tmp 70) (.const (.bool true)) (.tmp 73))), none⟩, ⟨(some 75), (.q (.move (.tmp 74))), none⟩, ⟨(some 76), (.q (.move (.tmp 11))), (some (75, false))⟩, ⟨(some 77), (.q (.bin .neq (.tmp 76) (.const (.int .i64 0)))), (some (75, false))⟩, ⟨(some 78), (.q (.pick (.tmp 75) (.const (.bool true)) (.tmp 77))), none⟩, ⟨(some 79), (.q (.move (.tmp 78))), none⟩, ⟨(some 80), (.q (.move (.tmp 12))), (some (79, false))⟩, ⟨(some 81), (.q (.bin .neq (.tmp 80) (.const (.int .i64 0)))), (some (79, false))⟩, ⟨(some 82), (.q (.pick (.tmp 79) (.const (.bool true)) (.tmp 81))), none⟩, ⟨(some 83), (.q (.move (.tmp 82))), none⟩, ⟨(some 84), (.q (.move (.tmp 13))), (some (83, false))⟩, ⟨(some 85), (.q (.move (.tmp 9))), (some (83, false))⟩, ⟨(some 86), (.q (.bin .neq (.tmp 84) (.tmp 85))), (some (83, false))⟩, ⟨(some 87), (.q (.pick (.tmp 83) (.const (.bool true)) (.tmp 86))), none⟩, ⟨(some 88), (.q (.move (.tmp 87))), none⟩, ⟨(some 89), (.q (.move (.tmp 14))), (some (88, false))⟩, ⟨(some 90), (.q (.move (.tmp 0))), (some (88, false))⟩, ⟨(some 91), (.q (.bin .neq (.tmp 89) (.tmp 90))), (some (88, false))⟩, ⟨(some 92), (.q (.pick (.tmp 88) (.const (.bool true)) (.tmp 91))), none⟩]) 
    (.cond (.tmp 92) 
    (.seq 
    (.region [⟨(some 6), (.q (.move (.const (.bool false)))), none⟩]) .ret) .skip)) 
    (.seq 
    (.region [⟨(some 93), (.q (.move (.tmp 7))), none⟩, ⟨(some 94), (.s (.s2b 5 (.tmp 93))), none⟩, ⟨(some 15), (.q (.move (.tmp 94))), none⟩]) 
    (.seq 
    (.region [⟨(some 95), (.q (.move (.tmp 15))), none⟩, ⟨(some 96), (.q (.len false (.tmp 95))), none⟩, ⟨(some 97), (.q (.move (.tmp 0))), none⟩, ⟨(some 98), (.q (.len true (.tmp 97))), none⟩, ⟨(some 99), (.q (.bin .sub (.tmp 96) (.tmp 98))), none⟩, ⟨(some 100), (.q (.idxPt 1 3 (.tmp 5) (.const (.int .i64 1)))), none⟩, ⟨(some 101), (.q (.load false 1 (.tmp 100))), none⟩, ⟨(some 102), (.q (.conv .i64 (.tmp 101))), none⟩, ⟨(some 103), (.q (.move (.tmp 0))), none⟩, ⟨(some 104), (.q (.len true (.tmp 103))), none⟩, ⟨(some 105), (.q (.bin .sub (.tmp 104) (.const (.int .i64 3)))), none⟩, ⟨(some 106), (.q (.bin .rem (.tmp 102) (.tmp 105))), none⟩, ⟨(some 107), (.q (.bin .add (.tmp 99) (.tmp 106))), none⟩, ⟨(some 16), (.q (.move (.tmp 107))), none⟩]) 
    (.seq 
    (.seq 
    (.region [⟨(some 17), (.q (.move (.const (.int .i64 0)))), none⟩]) 
    (.block 0 
    (.loop 
    (.seq 
    (.seq 
    (.region [⟨(some 108), (.q (.move (.tmp 17))), none⟩, ⟨(some 109), (.q (.bin .lss (.tmp 108) (.const (.int .i64 4)))), none⟩]) 
    (.cond (.tmp 109) .skip (.exit 0))) 
    (.seq 
    (.block 1 
    (.region [⟨(some 112), (.q (.move (.tmp 15))), none⟩, ⟨(some 113), (.q (.move (.tmp 16))), none⟩, ⟨(some 114), (.q (.move (.tmp 17))), none⟩, ⟨(some 115), (.q (.bin .add (.tmp 113) (.tmp 114))), none⟩, ⟨(some 116), (.q (.move (.tmp 15))), none⟩, ⟨(some 117), (.q (.move (.tmp 16))), none⟩, ⟨(some 118), (.q (.move (.tmp 17))), none⟩, ⟨(some 119), (.q (.bin .add (.tmp 117) (.tmp 118))), none⟩, ⟨(some 120), (.q (.idxSl 1 (.tmp 116) (.tmp 119))), none⟩, ⟨(some 121), (.q (.load false 1 (.tmp 120))), none⟩, ⟨(some 122), (.q (.idxPt 1 3 (.tmp 5) (.const (.int .i64 2)))), none⟩, ⟨(some 123), (.q (.load false 1 (.tmp 122))), none⟩, ⟨(some 124), (.q (.move (.tmp 17))), none⟩, ⟨(some 125), (.q (.bin .mul (.const (.int .i64 8)) (.tmp 124))), none⟩, ⟨(some 126), (.q (.bin .shr (.tmp 123) (.tmp 125))), none⟩, ⟨(some 127), (.q (.conv .u8 (.tmp 126))), none⟩, ⟨(some 128), (.q (.bin .xor (.tmp 121) (.tmp 127))), none⟩, ⟨(some 129), (.q (.idxSl 1 (.tmp 112) (.tmp 115))), none⟩, ⟨none, (.s (.store 1 (.tmp 129) (.tmp 128))), none⟩])) 
    (.region [⟨(some 110), (.q (.move (.tmp 17))), none⟩, ⟨(some 111), (.q (.bin .add (.tmp 110) (.const (.int .i64 1)))), none⟩, ⟨(some 17), (.q (.move (.tmp 111))), none⟩])))))) 
    (.seq 
    (.region [⟨(some 131), (.q (.move (.tmp 15))), none⟩, ⟨(some 132), (.q (.b2s (.tmp 131))), none⟩, ⟨(some 133), (.s (.call 41 [(.tmp 132)])), none⟩, ⟨(some 130), (.q (.move (.tmp 133))), none⟩, ⟨(some 134), (.q (.extract 0 (.tmp 130))), none⟩, ⟨(some 135), (.q (.extract 1 (.tmp 130))), none⟩, ⟨(some 136), (.q (.extract 2 (.tmp 130))), none⟩, ⟨(some 18), (.q (.move (.tmp 134))), none⟩, ⟨(some 19), (.q (.move (.tmp 135))), none⟩, ⟨(some 20), (.q (.move (.tmp 136))), none⟩]) 
    (.seq 
    (.region [⟨(some 138), (.q (.move (.tmp 15))), none⟩, ⟨(some 139), (.q (.b2s (.tmp 138))), none⟩, ⟨(some 140), (.q (.move (.tmp 7))), none⟩, ⟨(some 141), (.s (.call 43 [(.tmp 139), (.tmp 140)])), none⟩, ⟨(some 137), (.q (.move (.tmp 141))), none⟩, ⟨(some 142), (.q (.extract 0 (.tmp 137))), none⟩, ⟨(some 143), (.q (.extract 1 (.tmp 137))), none⟩, ⟨(some 144), (.q (.extract 2 (.tmp 137))), none⟩, ⟨(some 21), (.q (.move (.tmp 142))), none⟩, ⟨(some 22), (.q (.move (.tmp 143))), none⟩, ⟨(some 23), (.q (.move (.tmp 144))), none⟩]) 
    (.seq 
    (.region [⟨(some 145), (.q (.idxPt 1 3 (.tmp 5) (.const (.int .i64 2)))), none⟩, ⟨(some 146), (.q (.load false 1 (.tmp 145))), none⟩, ⟨(some 147), (.q (.bin .eql (.tmp 146) (.const (.int .u32 0)))), none⟩, ⟨(some 148), (.q (.move (.tmp 147))), none⟩, ⟨(some 149), (.q (.move (.tmp 20))), (some (148, false))⟩, ⟨(some 150), (.q (.bin .eql (.tmp 149) (.const (.int .i64 9)))), (some (148, false))⟩, ⟨(some 151), (.q (.move (.tmp 150))), (some (148, false))⟩, ⟨(some 152), (.q (.move (.tmp 21))), (some (151, true))⟩, ⟨(some 153), (.q (.bin .eql (.tmp 152) (.const (.int .i64 1)))), (some (151, true))⟩, ⟨(some 154), (.q (.pick (.tmp 151) (.tmp 153) (.const (.bool false)))), (some (148, false))⟩, ⟨(some 155), (.q (.move (.tmp 154))), (some (148, false))⟩, ⟨(some 156), (.q (.move (.tmp 23))), (some (155, true))⟩, ⟨(some 157), (.q (.move (.tmp 0))), (some (155, true))⟩, ⟨(some 158), (.q (.bin .eql (.tmp 156) (.tmp 157))), (some (155, true))⟩, ⟨(some 159), (.q (.pick (.tmp 155) (.tmp 158) (.const (.bool false)))), (some (148, false))⟩, ⟨(some 160), (.q (.pick (.tmp 148) (.const (.bool true)) (.tmp 159))), none⟩, ⟨(some 161), (.q (.move (.tmp 160))), none⟩, ⟨(some 162), (.s (.call 38 [])), (some (161, true))⟩, ⟨(some 163), (.q (.pick (.tmp 161) (.tmp 162) (.const (.bool false)))), none⟩, ⟨(some 6), (.q (.move (.tmp 163))), none⟩]) .ret)))))))))))))
theorem t9 : Told Try.prog 9 164 c9 [(.tmp 6)] := ⟨Try.f9, _, [], Try.func9, rfl, by kernel_rfl, rfl, by kernel_rfl, by kernel_rfl⟩
end Go.Proofs.Ytblflecalomgfaa.AL
