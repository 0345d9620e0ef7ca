/- Package guard, its law: the code told. -/
import Derived.Test.YtblflecalomgfaaAL14
import Derived.Test.YtblflecalomgfaaProg
import Derived.KernelRfl
set_option linter.unusedSimpArgs false
set_option linter.unusedVariables false
set_option maxRecDepth 100000
namespace Go.Proofs.Ytblflecalomgfaa.AL
open Go Go.Proofs
def c61 : ACode := 
    (.seq 
    (.region [⟨(some 4), (.q (.move (.const .nilp))), none⟩]) 
    (.seq 
    (.region [⟨(some 8), (.q (.move (.tmp 0))), none⟩, ⟨(some 9), (.q (.build [.nilp, (.bool false), (.bool false), (.bool false), (.bool false), (.bool false), (.bool false), (.bool false), (.bool false), (.bool false), (.bool false), (.bool false), (.bool false), (.bool false), (.bool false), (.bool false), (.bool false), (.bool false), (.bool false), (.bool false), (.bool false), (.bool false), (.bool false), (.bool false), (.bool false), (.bool false), (.bool false), (.bool false), (.bool false), (.bool false), (.bool false), (.bool false), (.bool false), (.bool false), (.bool false), (.bool false), (.bool false), (.bool false), (.bool false), (.bool false), (.bool false), (.bool false), (.bool false), (.bool false), (.bool false), (.bool false), (.bool false), (.bool false), (.bool false)] [(0, (1, (.tmp 8)))])), none⟩, ⟨(some 10), (.s (.box 154 (.tmp 9))), none⟩, ⟨(some 5), (.q (.move (.tmp 10))), none⟩]) 
    (.seq 
    (.seq 
    (.region [⟨(some 11), (.q (.move (.tmp 1))), none⟩, ⟨(some 12), (.q (.len false (.tmp 11))), none⟩, ⟨(some 13), (.q (.move (.const (.int .i64 0)))), none⟩]) 
    (.block 0 
    (.loop 
    (.seq 
    (.region [⟨(some 14), (.q (.bin .lss (.tmp 13) (.tmp 12))), none⟩]) 
    (.seq 
    (.cond (.tmp 14) .skip (.exit 0)) 
    (.seq 
    (.block 1 
    (.seq 
    (.region [⟨(some 15), (.q (.idxSl 1 (.tmp 11) (.tmp 13))), none⟩, ⟨(some 16), (.q (.load false 1 (.tmp 15))), none⟩, ⟨(some 7), (.q (.move (.tmp 16))), none⟩]) 
    (.seq 
    (.region [⟨(some 17), (.q (.move (.tmp 7))), none⟩, ⟨(some 18), (.q (.bin .geq (.tmp 17) (.const (.int .i64 0)))), none⟩, ⟨(some 19), (.q (.move (.tmp 18))), none⟩, ⟨(some 20), (.q (.move (.tmp 7))), (some (19, true))⟩, ⟨(some 21), (.q (.bin .lss (.tmp 20) (.const (.int .i64 48)))), (some (19, true))⟩, ⟨(some 22), (.q (.pick (.tmp 19) (.tmp 21) (.const (.bool false)))), none⟩]) 
    (.cond (.tmp 22) 
    (.region [⟨(some 23), (.q (.move (.tmp 5))), none⟩, ⟨(some 24), (.q (.move (.tmp 7))), none⟩, ⟨(some 25), (.q (.nonil (.tmp 23))), none⟩, ⟨(some 26), (.q (.fieldAddr 1 (.tmp 25))), none⟩, ⟨(some 27), (.q (.idxPt 1 48 (.tmp 26) (.tmp 24))), none⟩, ⟨none, (.s (.store 1 (.tmp 27) (.const (.bool true)))), none⟩]) .skip)))) 
    (.region [⟨(some 28), (.q (.bin .add (.tmp 13) (.const (.int .i64 1)))), none⟩, ⟨(some 13), (.q (.move (.tmp 28))), none⟩]))))))) 
    (.seq 
    (.region [⟨(some 29), (.q (.move (.tmp 5))), none⟩, ⟨(some 4), (.q (.move (.tmp 29))), none⟩]) .ret))))
theorem t61 : Told Try.prog 61 30 c61 [(.tmp 4)] := ⟨Try.f61, _, [], Try.func61, rfl, by kernel_rfl, rfl, by kernel_rfl, by kernel_rfl⟩
def c127 : ACode := 
    (.seq 
    (.region [⟨(some 4), (.q (.move (.const (.bool false)))), none⟩]) 
    (.seq 
    (.region [⟨(some 5), (.q (.move (.tmp 0))), none⟩, ⟨(some 6), (.q (.nil .ptr true (.tmp 5) (.const .nilp))), none⟩, ⟨(some 7), (.q (.move (.tmp 6))), none⟩, ⟨(some 8), (.q (.move (.tmp 1))), (some (7, true))⟩, ⟨(some 9), (.q (.bin .geq (.tmp 8) (.const (.int .i64 0)))), (some (7, true))⟩, ⟨(some 10), (.q (.pick (.tmp 7) (.tmp 9) (.const (.bool false)))), none⟩, ⟨(some 11), (.q (.move (.tmp 10))), none⟩, ⟨(some 12), (.q (.move (.tmp 1))), (some (11, true))⟩, ⟨(some 13), (.q (.bin .lss (.tmp 12) (.const (.int .i64 48)))), (some (11, true))⟩, ⟨(some 14), (.q (.pick (.tmp 11) (.tmp 13) (.const (.bool false)))), none⟩, ⟨(some 15), (.q (.move (.tmp 14))), none⟩, ⟨(some 16), (.q (.move (.tmp 0))), (some (15, true))⟩, ⟨(some 17), (.q (.move (.tmp 1))), (some (15, true))⟩, ⟨(some 18), (.q (.nonil (.tmp 16))), (some (15, true))⟩, ⟨(some 19), (.q (.fieldAddr 1 (.tmp 18))), (some (15, true))⟩, ⟨(some 20), (.q (.idxPt 1 48 (.tmp 19) (.tmp 17))), (some (15, true))⟩, ⟨(some 21), (.q (.load false 1 (.tmp 20))), (some (15, true))⟩, ⟨(some 22), (.q (.pick (.tmp 15) (.tmp 21) (.const (.bool false)))), none⟩, ⟨(some 4), (.q (.move (.tmp 22))), none⟩]) .ret))
theorem t127 : Told Try.prog 127 23 c127 [(.tmp 4)] := ⟨Try.f127, _, [], Try.func127, rfl, by kernel_rfl, rfl, by kernel_rfl, by kernel_rfl⟩
def c63 : ACode := 
    (.seq 
    (.region [⟨(some 4), (.q (.move (.const (.bool false)))), none⟩]) 
    (.seq 
    (.seq 
    (.region [⟨(some 7), (.q (.move (.tmp 1))), none⟩, ⟨(some 8), (.q (.len false (.tmp 7))), none⟩, ⟨(some 9), (.q (.move (.const (.int .i64 0)))), none⟩]) 
    (.block 0 
    (.loop 
    (.seq 
    (.region [⟨(some 10), (.q (.bin .lss (.tmp 9) (.tmp 8))), none⟩]) 
    (.seq 
    (.cond (.tmp 10) .skip (.exit 0)) 
    (.seq 
    (.block 1 
    (.seq 
    (.region [⟨(some 11), (.q (.idxSl 1 (.tmp 7) (.tmp 9))), none⟩, ⟨(some 12), (.q (.load false 1 (.tmp 11))), none⟩, ⟨(some 6), (.q (.move (.tmp 12))), none⟩]) 
    (.seq 
    (.region [⟨(some 13), (.q (.move (.tmp 0))), none⟩, ⟨(some 14), (.q (.move (.tmp 6))), none⟩, ⟨(some 15), (.s (.call 127 [(.tmp 13), (.tmp 14)])), none⟩, ⟨(some 16), (.q (.un .not (.tmp 15))), none⟩]) 
    (.cond (.tmp 16) 
    (.seq 
    (.region [⟨(some 4), (.q (.move (.const (.bool false)))), none⟩]) .ret) .skip)))) 
    (.region [⟨(some 17), (.q (.bin .add (.tmp 9) (.const (.int .i64 1)))), none⟩, ⟨(some 9), (.q (.move (.tmp 17))), none⟩]))))))) 
    (.seq 
    (.region [⟨(some 18), (.q (.move (.tmp 1))), none⟩, ⟨(some 19), (.q (.len false (.tmp 18))), none⟩, ⟨(some 20), (.q (.bin .gtr (.tmp 19) (.const (.int .i64 0)))), none⟩, ⟨(some 4), (.q (.move (.tmp 20))), none⟩]) .ret)))
theorem t63 : Told Try.prog 63 21 c63 [(.tmp 4)] := ⟨Try.f63, _, [], Try.func63, rfl, by kernel_rfl, rfl, by kernel_rfl, by kernel_rfl⟩
def c164 : ACode := 
    (.seq 
    (.region [⟨(some 2), (.q (.move (.const .nilp))), none⟩]) 
    (.seq 
    (.seq 
    (.region [⟨(some 3), (.q (.move (.tmp 0))), none⟩, ⟨(some 4), (.q (.nil .ptr false (.tmp 3) (.const .nilp))), none⟩]) 
    (.cond (.tmp 4) 
    (.seq 
    (.region [⟨(some 2), (.q (.move (.const .nilp))), none⟩]) .ret) .skip)) 
    (.seq 
    (.region [⟨(some 5), (.q (.move (.tmp 0))), none⟩, ⟨(some 6), (.q (.nonil (.tmp 5))), none⟩, ⟨(some 7), (.q (.fieldAddr 0 (.tmp 6))), none⟩, ⟨(some 8), (.q (.load false 1 (.tmp 7))), none⟩, ⟨(some 2), (.q (.move (.tmp 8))), none⟩]) .ret)))
theorem t164 : Told Try.prog 164 9 c164 [(.tmp 2)] := ⟨Try.f164, _, [], Try.func164, rfl, by kernel_rfl, rfl, by kernel_rfl, by kernel_rfl⟩
def c165 : ACode := 
    (.seq 
    (.region [⟨(some 6), (.q (.move (.const (.bool false)))), none⟩]) 
    (.seq 
    (.seq 
    (.region [⟨(some 9), (.q (.move (.tmp 1))), none⟩, ⟨(some 10), (.q (.bin .lss (.tmp 9) (.const (.int .i64 0)))), none⟩, ⟨(some 11), (.q (.move (.tmp 10))), none⟩, ⟨(some 12), (.q (.move (.tmp 1))), (some (11, false))⟩, ⟨(some 13), (.q (.bin .geq (.tmp 12) (.const (.int .i64 24576)))), (some (11, false))⟩, ⟨(some 14), (.q (.pick (.tmp 11) (.const (.bool true)) (.tmp 13))), none⟩, ⟨(some 15), (.q (.move (.tmp 14))), none⟩, ⟨(some 16), (.q (.move (.tmp 2))), (some (15, false))⟩, ⟨(some 17), (.q (.bin .eql (.tmp 16) (.const (.int .i64 0)))), (some (15, false))⟩, ⟨(some 18), (.q (.pick (.tmp 15) (.const (.bool true)) (.tmp 17))), none⟩]) 
    (.cond (.tmp 18) 
    (.seq 
    (.region [⟨(some 6), (.q (.move (.const (.bool false)))), none⟩]) .ret) .skip)) 
    (.seq 
    (.region [⟨(some 19), (.q (.move (.tmp 1))), none⟩, ⟨(some 20), (.q (.move (.tmp 2))), none⟩, ⟨(some 21), (.q (.move (.tmp 1))), none⟩, ⟨(some 22), (.q (.bin .sub (.const (.int .i64 24576)) (.tmp 21))), none⟩, ⟨(some 23), (.q (.best false (.tmp 20) (.tmp 22))), none⟩, ⟨(some 24), (.q (.bin .add (.tmp 19) (.tmp 23))), none⟩, ⟨(some 25), (.q (.bin .sub (.tmp 24) (.const (.int .i64 1)))), none⟩, ⟨(some 7), (.q (.move (.tmp 25))), none⟩]) 
    (.seq 
    (.seq 
    (.region [⟨(some 26), (.q (.move (.tmp 1))), none⟩, ⟨(some 27), (.q (.bin .quo (.tmp 26) (.const (.int .i64 512)))), none⟩, ⟨(some 8), (.q (.move (.tmp 27))), none⟩]) 
    (.block 0 
    (.loop 
    (.seq 
    (.seq 
    (.region [⟨(some 28), (.q (.move (.tmp 8))), none⟩, ⟨(some 29), (.q (.move (.tmp 7))), none⟩, ⟨(some 30), (.q (.bin .quo (.tmp 29) (.const (.int .i64 512)))), none⟩, ⟨(some 31), (.q (.bin .leq (.tmp 28) (.tmp 30))), none⟩]) 
    (.cond (.tmp 31) .skip (.exit 0))) 
    (.seq 
    (.block 1 
    (.seq 
    (.region [⟨(some 34), (.q (.move (.tmp 0))), none⟩, ⟨(some 35), (.q (.move (.tmp 8))), none⟩, ⟨(some 36), (.s (.call 127 [(.tmp 34), (.tmp 35)])), none⟩]) 
    (.cond (.tmp 36) 
    (.seq 
    (.region [⟨(some 6), (.q (.move (.const (.bool true)))), none⟩]) .ret) .skip))) 
    (.region [⟨(some 32), (.q (.move (.tmp 8))), none⟩, ⟨(some 33), (.q (.bin .add (.tmp 32) (.const (.int .i64 1)))), none⟩, ⟨(some 8), (.q (.move (.tmp 33))), none⟩])))))) 
    (.seq 
    (.region [⟨(some 6), (.q (.move (.const (.bool false)))), none⟩]) .ret)))))
theorem t165 : Told Try.prog 165 37 c165 [(.tmp 6)] := ⟨Try.f165, _, [], Try.func165, rfl, by kernel_rfl, rfl, by kernel_rfl, by kernel_rfl⟩
def c121 : ACode := 
    (.seq 
    (.region [⟨(some 4), (.q (.move (.const (.int .i64 0)))), none⟩]) 
    (.seq 
    (.seq 
    (.region [⟨(some 5), (.q (.move (.tmp 0))), none⟩, ⟨(some 6), (.q (.move (.tmp 1))), none⟩, ⟨(some 7), (.s (.call 127 [(.tmp 5), (.tmp 6)])), none⟩]) 
    (.cond (.tmp 7) 
    (.seq 
    (.region [⟨(some 4), (.q (.move (.const (.int .i64 3)))), none⟩]) .ret) .skip)) 
    (.seq 
    (.region [⟨(some 8), (.q (.move (.tmp 0))), none⟩, ⟨(some 9), (.s (.call 164 [(.tmp 8)])), none⟩, ⟨(some 10), (.q (.move (.tmp 1))), none⟩, ⟨(some 11), (.s (.call 28 [(.tmp 9), (.tmp 10)])), none⟩, ⟨(some 4), (.q (.move (.tmp 11))), none⟩]) .ret)))
theorem t121 : Told Try.prog 121 12 c121 [(.tmp 4)] := ⟨Try.f121, _, [], Try.func121, rfl, by kernel_rfl, rfl, by kernel_rfl, by kernel_rfl⟩
def c123 : ACode := 
    (.seq 
    (.region [⟨(some 6), (.q (.move (.const (.int .i64 0)))), none⟩]) 
    (.seq 
    (.seq 
    (.region [⟨(some 7), (.q (.move (.tmp 0))), none⟩, ⟨(some 8), (.q (.move (.tmp 1))), none⟩, ⟨(some 9), (.q (.move (.tmp 2))), none⟩, ⟨(some 10), (.q (.len true (.tmp 9))), none⟩, ⟨(some 11), (.s (.call 165 [(.tmp 7), (.tmp 8), (.tmp 10)])), none⟩]) 
    (.cond (.tmp 11) 
    (.seq 
    (.region [⟨(some 6), (.q (.move (.const (.int .i64 3)))), none⟩]) .ret) .skip)) 
    (.seq 
    (.region [⟨(some 12), (.q (.move (.tmp 0))), none⟩, ⟨(some 13), (.s (.call 164 [(.tmp 12)])), none⟩, ⟨(some 14), (.q (.move (.tmp 1))), none⟩, ⟨(some 15), (.q (.move (.tmp 2))), none⟩, ⟨(some 16), (.s (.call 78 [(.tmp 13), (.tmp 14), (.tmp 15)])), none⟩, ⟨(some 6), (.q (.move (.tmp 16))), none⟩]) .ret)))
theorem t123 : Told Try.prog 123 17 c123 [(.tmp 6)] := ⟨Try.f123, _, [], Try.func123, rfl, by kernel_rfl, rfl, by kernel_rfl, by kernel_rfl⟩
def c122 : ACode := 
    (.seq 
    (.region [⟨(some 6), (.q (.move (.const (.int .i64 0)))), none⟩]) 
    (.seq 
    (.seq 
    (.region [⟨(some 7), (.q (.move (.tmp 0))), none⟩, ⟨(some 8), (.q (.move (.tmp 1))), none⟩, ⟨(some 9), (.q (.move (.tmp 2))), none⟩, ⟨(some 10), (.q (.len true (.tmp 9))), none⟩, ⟨(some 11), (.s (.call 165 [(.tmp 7), (.tmp 8), (.tmp 10)])), none⟩]) 
    (.cond (.tmp 11) 
    (.seq 
    (.region [⟨(some 6), (.q (.move (.const (.int .i64 3)))), none⟩]) .ret) .skip)) 
    (.seq 
    (.region [⟨(some 12), (.q (.move (.tmp 0))), none⟩, ⟨(some 13), (.s (.call 164 [(.tmp 12)])), none⟩, ⟨(some 14), (.q (.move (.tmp 1))), none⟩, ⟨(some 15), (.q (.move (.tmp 2))), none⟩, ⟨(some 16), (.s (.call 27 [(.tmp 13), (.tmp 14), (.tmp 15)])), none⟩, ⟨(some 6), (.q (.move (.tmp 16))), none⟩]) .ret)))
theorem t122 : Told Try.prog 122 17 c122 [(.tmp 6)] := ⟨Try.f122, _, [], Try.func122, rfl, by kernel_rfl, rfl, by kernel_rfl, by kernel_rfl⟩
def c124 : ACode := 
    (.seq 
    (.region [⟨(some 6), (.q (.move (.const (.str (B []))))), none⟩, ⟨(some 7), (.q (.move (.const (.int .i64 0)))), none⟩]) 
    (.seq 
    (.region [⟨(some 8), (.q (.move (.tmp 0))), none⟩, ⟨(some 9), (.s (.call 164 [(.tmp 8)])), none⟩, ⟨(some 10), (.q (.move (.tmp 1))), none⟩, ⟨(some 11), (.q (.move (.tmp 2))), none⟩, ⟨(some 12), (.s (.call 29 [(.tmp 9), (.tmp 10), (.tmp 11)])), none⟩, ⟨(some 13), (.q (.extract 0 (.tmp 12))), none⟩, ⟨(some 14), (.q (.extract 1 (.tmp 12))), none⟩, ⟨(some 6), (.q (.move (.tmp 13))), none⟩, ⟨(some 7), (.q (.move (.tmp 14))), none⟩]) .ret))
theorem t124 : Told Try.prog 124 15 c124 [(.tmp 6), (.tmp 7)] := ⟨Try.f124, _, [], Try.func124, rfl, by kernel_rfl, rfl, by kernel_rfl, by kernel_rfl⟩
def c125 : ACode := 
    (.seq 
    (.region [⟨(some 2), (.q (.move (.const (.bool false)))), none⟩]) 
    (.seq 
    (.region [⟨(some 3), (.q (.move (.tmp 0))), none⟩, ⟨(some 4), (.s (.call 164 [(.tmp 3)])), none⟩, ⟨(some 5), (.s (.call 34 [(.tmp 4)])), none⟩, ⟨(some 2), (.q (.move (.tmp 5))), none⟩]) .ret))
theorem t125 : Told Try.prog 125 6 c125 [(.tmp 2)] := ⟨Try.f125, _, [], Try.func125, rfl, by kernel_rfl, rfl, by kernel_rfl, by kernel_rfl⟩
def c126 : ACode := 
    (.seq 
    (.region [⟨(some 2), (.q (.move (.const (.int .i64 0)))), none⟩]) 
    (.seq 
    (.region [⟨(some 3), (.q (.move (.tmp 0))), none⟩, ⟨(some 4), (.s (.call 164 [(.tmp 3)])), none⟩, ⟨(some 5), (.s (.call 35 [(.tmp 4)])), none⟩, ⟨(some 2), (.q (.move (.tmp 5))), none⟩]) .ret))
theorem t126 : Told Try.prog 126 6 c126 [(.tmp 2)] := ⟨Try.f126, _, [], Try.func126, rfl, by kernel_rfl, rfl, by kernel_rfl, by kernel_rfl⟩
def c62 : ACode := 
    (.seq 
    (.region [⟨(some 5), (.s (.box 61 (.tmp 2))), none⟩, ⟨(some 6), (.q (.move (.const (.str (B []))))), none⟩, ⟨(some 7), (.q (.move (.const (.int .i64 0)))), none⟩]) 
    (.seq 
    (.seq 
    (.region [⟨(some 8), (.q (.fieldAddr 0 (.tmp 5))), none⟩, ⟨(some 9), (.q (.load false 1 (.tmp 8))), none⟩]) 
    (.block 0 
    (.seq 
    (.region [⟨(some 11), (.q (.bin .eql (.tmp 9) (.const (.int .i64 1)))), none⟩, ⟨(some 10), (.q (.move (.tmp 11))), none⟩]) 
    (.cond (.tmp 10) 
    (.seq 
    (.region [⟨(some 12), (.q (.move (.tmp 0))), none⟩, ⟨(some 13), (.q (.fieldAddr 1 (.tmp 5))), none⟩, ⟨(some 14), (.q (.load false 1 (.tmp 13))), none⟩, ⟨(some 15), (.s (.call 121 [(.tmp 12), (.tmp 14)])), none⟩, ⟨(some 6), (.q (.move (.const (.str (B []))))), none⟩, ⟨(some 7), (.q (.move (.tmp 15))), none⟩]) .ret) 
    (.seq 
    (.region [⟨(some 17), (.q (.bin .eql (.tmp 9) (.const (.int .i64 2)))), none⟩, ⟨(some 16), (.q (.move (.tmp 17))), none⟩]) 
    (.cond (.tmp 16) 
    (.seq 
    (.region [⟨(some 18), (.q (.move (.tmp 0))), none⟩, ⟨(some 19), (.q (.fieldAddr 1 (.tmp 5))), none⟩, ⟨(some 20), (.q (.load false 1 (.tmp 19))), none⟩, ⟨(some 21), (.q (.fieldAddr 3 (.tmp 5))), none⟩, ⟨(some 22), (.q (.load false 1 (.tmp 21))), none⟩, ⟨(some 23), (.s (.call 123 [(.tmp 18), (.tmp 20), (.tmp 22)])), none⟩, ⟨(some 6), (.q (.move (.const (.str (B []))))), none⟩, ⟨(some 7), (.q (.move (.tmp 23))), none⟩]) .ret) 
    (.seq 
    (.region [⟨(some 25), (.q (.bin .eql (.tmp 9) (.const (.int .i64 3)))), none⟩, ⟨(some 24), (.q (.move (.tmp 25))), none⟩]) 
    (.cond (.tmp 24) 
    (.seq 
    (.region [⟨(some 26), (.q (.move (.tmp 0))), none⟩, ⟨(some 27), (.q (.fieldAddr 1 (.tmp 5))), none⟩, ⟨(some 28), (.q (.load false 1 (.tmp 27))), none⟩, ⟨(some 29), (.q (.fieldAddr 3 (.tmp 5))), none⟩, ⟨(some 30), (.q (.load false 1 (.tmp 29))), none⟩, ⟨(some 31), (.s (.call 122 [(.tmp 26), (.tmp 28), (.tmp 30)])), none⟩, ⟨(some 6), (.q (.move (.const (.str (B []))))), none⟩, ⟨(some 7), (.q (.move (.tmp 31))), none⟩]) .ret) 
    (.seq 
    (.region [⟨(some 33), (.q (.bin .eql (.tmp 9) (.const (.int .i64 4)))), none⟩, ⟨(some 32), (.q (.move (.tmp 33))), none⟩]) 
    (.cond (.tmp 32) 
    (.region [⟨(some 34), (.q (.move (.tmp 1))), none⟩, ⟨(some 35), (.q (.fieldAddr 2 (.tmp 5))), none⟩, ⟨(some 36), (.q (.load false 1 (.tmp 35))), none⟩, ⟨(some 37), (.q (.fieldAddr 3 (.tmp 5))), none⟩, ⟨(some 38), (.q (.load false 1 (.tmp 37))), none⟩, ⟨(some 39), (.s (.call 79 [(.tmp 34), (.tmp 36), (.tmp 38)])), none⟩]) 
    (.seq 
    (.region [⟨(some 41), (.q (.bin .eql (.tmp 9) (.const (.int .i64 5)))), none⟩, ⟨(some 40), (.q (.move (.tmp 41))), none⟩]) 
    (.cond (.tmp 40) 
    (.region [⟨(some 42), (.q (.move (.tmp 1))), none⟩, ⟨(some 43), (.s (.call 80 [(.tmp 42)])), none⟩]) 
    (.seq 
    (.region [⟨(some 45), (.q (.bin .eql (.tmp 9) (.const (.int .i64 6)))), none⟩, ⟨(some 44), (.q (.move (.tmp 45))), none⟩]) 
    (.cond (.tmp 44) 
    (.seq 
    (.region [⟨(some 46), (.q (.move (.tmp 0))), none⟩, ⟨(some 47), (.q (.fieldAddr 1 (.tmp 5))), none⟩, ⟨(some 48), (.q (.load false 1 (.tmp 47))), none⟩, ⟨(some 49), (.q (.fieldAddr 2 (.tmp 5))), none⟩, ⟨(some 50), (.q (.load false 1 (.tmp 49))), none⟩, ⟨(some 51), (.s (.call 124 [(.tmp 46), (.tmp 48), (.tmp 50)])), none⟩, ⟨(some 52), (.q (.extract 0 (.tmp 51))), none⟩, ⟨(some 53), (.q (.extract 1 (.tmp 51))), none⟩, ⟨(some 6), (.q (.move (.tmp 52))), none⟩, ⟨(some 7), (.q (.move (.tmp 53))), none⟩]) .ret) .skip)))))))))))))) 
    (.seq 
    (.region [⟨(some 6), (.q (.move (.const (.str (B []))))), none⟩, ⟨(some 7), (.q (.move (.const (.int .i64 0)))), none⟩]) .ret)))
theorem t62 : Told Try.prog 62 54 c62 [(.tmp 6), (.tmp 7)] := ⟨Try.f62, _, [], Try.func62, rfl, by kernel_rfl, rfl, by kernel_rfl, by kernel_rfl⟩
def c60 : ACode := 
    (.seq 
    (.region [⟨(some 0), (.q (.move (.const (.bool false)))), none⟩]) 
    (.seq 
    (.region [⟨(some 8), (.s (.call 37 [])), none⟩, ⟨(some 1), (.q (.move (.tmp 8))), none⟩]) 
    (.seq 
    (.region [⟨(some 9), (.q (.move (.tmp 1))), none⟩, ⟨(some 10), (.s (.lit 3 1 [(.const (.int .i64 0)), (.const (.int .i64 3)), (.const (.int .i64 99))])), none⟩, ⟨(some 11), (.s (.call 61 [(.tmp 9), (.tmp 10)])), none⟩, ⟨(some 2), (.q (.move (.tmp 11))), none⟩]) 
    (.seq 
    (.region [⟨(some 12), (.q (.move (.tmp 2))), none⟩, ⟨(some 13), (.s (.call 121 [(.tmp 12), (.const (.int .i64 0))])), none⟩, ⟨(some 14), (.q (.move (.tmp 2))), none⟩, ⟨(some 15), (.s (.call 122 [(.tmp 14), (.const (.int .i64 510)), (.const (.str (B [97, 98, 99])))])), none⟩, ⟨(some 3), (.q (.move (.tmp 13))), none⟩, ⟨(some 4), (.q (.move (.tmp 15))), none⟩]) 
    (.seq 
    (.region [⟨(some 16), (.q (.move (.tmp 2))), none⟩, ⟨(some 17), (.s (.call 123 [(.tmp 16), (.const (.int .i64 512)), (.const (.str (B [120])))])), none⟩, ⟨(some 5), (.q (.move (.tmp 17))), none⟩]) 
    (.seq 
    (.region [⟨(some 19), (.q (.move (.tmp 2))), none⟩, ⟨(some 20), (.s (.call 124 [(.tmp 19), (.const (.int .i64 512)), (.const (.int .i64 1))])), none⟩, ⟨(some 18), (.q (.move (.tmp 20))), none⟩, ⟨(some 21), (.q (.extract 0 (.tmp 18))), none⟩, ⟨(some 22), (.q (.extract 1 (.tmp 18))), none⟩, ⟨(some 6), (.q (.move (.tmp 21))), none⟩, ⟨(some 7), (.q (.move (.tmp 22))), none⟩]) 
    (.seq 
    (.region [⟨(some 23), (.q (.move (.tmp 3))), none⟩, ⟨(some 24), (.q (.bin .eql (.tmp 23) (.const (.int .i64 3)))), none⟩, ⟨(some 25), (.q (.move (.tmp 24))), none⟩, ⟨(some 26), (.q (.move (.tmp 4))), (some (25, true))⟩, ⟨(some 27), (.q (.bin .eql (.tmp 26) (.const (.int .i64 3)))), (some (25, true))⟩, ⟨(some 28), (.q (.pick (.tmp 25) (.tmp 27) (.const (.bool false)))), none⟩, ⟨(some 29), (.q (.move (.tmp 28))), none⟩, ⟨(some 30), (.q (.move (.tmp 5))), (some (29, true))⟩, ⟨(some 31), (.q (.bin .eql (.tmp 30) (.const (.int .i64 0)))), (some (29, true))⟩, ⟨(some 32), (.q (.pick (.tmp 29) (.tmp 31) (.const (.bool false)))), none⟩, ⟨(some 33), (.q (.move (.tmp 32))), none⟩, ⟨(some 34), (.q (.move (.tmp 6))), (some (33, true))⟩, ⟨(some 35), (.q (.bin .eql (.tmp 34) (.const (.str (B [120]))))), (some (33, true))⟩, ⟨(some 36), (.q (.pick (.tmp 33) (.tmp 35) (.const (.bool false)))), none⟩, ⟨(some 37), (.q (.move (.tmp 36))), none⟩, ⟨(some 38), (.q (.move (.tmp 7))), (some (37, true))⟩, ⟨(some 39), (.q (.bin .eql (.tmp 38) (.const (.int .i64 0)))), (some (37, true))⟩, ⟨(some 40), (.q (.pick (.tmp 37) (.tmp 39) (.const (.bool false)))), none⟩, ⟨(some 41), (.q (.move (.tmp 40))), none⟩, ⟨(some 42), (.q (.move (.tmp 2))), (some (41, true))⟩, ⟨(some 43), (.s (.lit 3 1 [(.const (.int .i64 0)), (.const (.int .i64 3))])), (some (41, true))⟩, ⟨(some 44), (.s (.call 63 [(.tmp 42), (.tmp 43)])), (some (41, true))⟩, ⟨(some 45), (.q (.pick (.tmp 41) (.tmp 44) (.const (.bool false)))), none⟩, ⟨(some 46), (.q (.move (.tmp 45))), none⟩, ⟨(some 47), (.q (.move (.tmp 2))), (some (46, true))⟩, ⟨(some 48), (.s (.lit 3 1 [(.const (.int .i64 0)), (.const (.int .i64 1))])), (some (46, true))⟩, ⟨(some 49), (.s (.call 63 [(.tmp 47), (.tmp 48)])), (some (46, true))⟩, ⟨(some 50), (.q (.un .not (.tmp 49))), (some (46, true))⟩, ⟨(some 51), (.q (.pick (.tmp 46) (.tmp 50) (.const (.bool false)))), none⟩, ⟨(some 52), (.q (.move (.tmp 51))), none⟩, ⟨(some 53), (.q (.move (.tmp 2))), (some (52, true))⟩, ⟨(some 54), (.s (.call 63 [(.tmp 53), (.const .nils)])), (some (52, true))⟩, ⟨(some 55), (.q (.un .not (.tmp 54))), (some (52, true))⟩, ⟨(some 56), (.q (.pick (.tmp 52) (.tmp 55) (.const (.bool false)))), none⟩, ⟨(some 57), (.q (.move (.tmp 56))), none⟩, ⟨(some 58), (.q (.move (.tmp 2))), (some (57, true))⟩, ⟨(some 59), (.s (.lit 3 1 [(.const (.int .i64 99))])), (some (57, true))⟩, ⟨(some 60), (.s (.call 63 [(.tmp 58), (.tmp 59)])), (some (57, true))⟩, ⟨(some 61), (.q (.un .not (.tmp 60))), (some (57, true))⟩, ⟨(some 62), (.q (.pick (.tmp 57) (.tmp 61) (.const (.bool false)))), none⟩, ⟨(some 63), (.q (.move (.tmp 62))), none⟩, ⟨(some 64), (.q (.move (.tmp 2))), (some (63, true))⟩, ⟨(some 65), (.s (.call 125 [(.tmp 64)])), (some (63, true))⟩, ⟨(some 66), (.q (.pick (.tmp 63) (.tmp 65) (.const (.bool false)))), none⟩, ⟨(some 67), (.q (.move (.tmp 66))), none⟩, ⟨(some 68), (.q (.move (.tmp 2))), (some (67, true))⟩, ⟨(some 69), (.s (.call 126 [(.tmp 68)])), (some (67, true))⟩, ⟨(some 70), (.q (.bin .eql (.tmp 69) (.const (.int .i64 1)))), (some (67, true))⟩, ⟨(some 71), (.q (.pick (.tmp 67) (.tmp 70) (.const (.bool false)))), none⟩, ⟨(some 0), (.q (.move (.tmp 71))), none⟩]) .ret)))))))
theorem t60 : Told Try.prog 60 72 c60 [(.tmp 0)] := ⟨Try.f60, _, [], Try.func60, rfl, by kernel_rfl, rfl, by kernel_rfl, by kernel_rfl⟩
def c13 : ACode := 
    (.seq 
    (.region [⟨(some 6), (.q (.move (.const (.bool false)))), none⟩]) 
    (.seq 
    (.seq 
    (.region [⟨(some 13), (.q (.move (.tmp 0))), none⟩, ⟨(some 14), (.q (.len true (.tmp 13))), none⟩, ⟨(some 15), (.q (.bin .gtr (.tmp 14) (.const (.int .i64 300)))), none⟩, ⟨(some 16), (.q (.move (.tmp 15))), none⟩, ⟨(some 17), (.q (.move (.tmp 2))), (some (16, false))⟩, ⟨(some 18), (.s (.call 30 [(.tmp 17), (.const (.int .i64 12))])), (some (16, false))⟩, ⟨(some 19), (.q (.un .not (.tmp 18))), (some (16, false))⟩, ⟨(some 20), (.q (.pick (.tmp 16) (.const (.bool true)) (.tmp 19))), none⟩]) 
    (.cond (.tmp 20) 
    (.seq 
    (.region [⟨(some 21), (.s (.call 60 [])), none⟩, ⟨(some 6), (.q (.move (.tmp 21))), none⟩]) .ret) .skip)) 
    (.seq 
    (.region [⟨(some 22), (.q (.move (.tmp 1))), none⟩, ⟨(some 23), (.q (.conv .i64 (.tmp 22))), none⟩, ⟨(some 24), (.q (.bin .rem (.tmp 23) (.const (.int .i64 48)))), none⟩, ⟨(some 7), (.q (.move (.tmp 24))), none⟩]) 
    (.seq 
    (.region [⟨(some 25), (.q (.move (.tmp 0))), none⟩, ⟨(some 26), (.s (.call 26 [(.tmp 25)])), none⟩, ⟨(some 8), (.q (.move (.tmp 26))), none⟩]) 
    (.seq 
    (.region [⟨(some 27), (.q (.move (.tmp 8))), none⟩, ⟨(some 28), (.q (.move (.tmp 7))), none⟩, ⟨(some 29), (.s (.lit 3 1 [(.tmp 28)])), none⟩, ⟨(some 30), (.s (.call 61 [(.tmp 27), (.tmp 29)])), none⟩, ⟨(some 9), (.q (.move (.tmp 30))), none⟩]) 
    (.seq 
    (.region [⟨(some 31), (.q (.move (.tmp 8))), none⟩, ⟨(some 32), (.s (.call 36 [(.tmp 31)])), none⟩, ⟨(some 10), (.q (.move (.tmp 32))), none⟩]) 
    (.seq 
    (.seq 
    (.region [⟨(some 11), (.q (.move (.const (.int .i64 0)))), none⟩]) 
    (.block 0 
    (.loop 
    (.seq 
    (.seq 
    (.region [⟨(some 33), (.q (.move (.tmp 11))), none⟩, ⟨(some 34), (.q (.move (.tmp 2))), none⟩, ⟨(some 35), (.q (.len false (.tmp 34))), none⟩, ⟨(some 36), (.q (.bin .lss (.tmp 33) (.tmp 35))), none⟩]) 
    (.cond (.tmp 36) .skip (.exit 0))) 
    (.seq 
    (.block 1 
    (.region [⟨(some 39), (.q (.move (.tmp 9))), none⟩, ⟨(some 40), (.q (.move (.tmp 8))), none⟩, ⟨(some 41), (.q (.move (.tmp 2))), none⟩, ⟨(some 42), (.q (.move (.tmp 11))), none⟩, ⟨(some 43), (.q (.idxSl 4 (.tmp 41) (.tmp 42))), none⟩, ⟨(some 44), (.q (.load true 4 (.tmp 43))), none⟩, ⟨(some 45), (.s (.call 62 [(.tmp 39), (.tmp 40), (.tmp 44)])), none⟩])) 
    (.region [⟨(some 37), (.q (.move (.tmp 11))), none⟩, ⟨(some 38), (.q (.bin .add (.tmp 37) (.const (.int .i64 1)))), none⟩, ⟨(some 11), (.q (.move (.tmp 38))), none⟩])))))) 
    (.seq 
    (.region [⟨(some 46), (.q (.move (.tmp 8))), none⟩, ⟨(some 47), (.s (.call 36 [(.tmp 46)])), none⟩, ⟨(some 12), (.q (.move (.tmp 47))), none⟩]) 
    (.seq 
    (.seq 
    (.region [⟨(some 48), (.q (.move (.tmp 10))), none⟩, ⟨(some 49), (.q (.len true (.tmp 48))), none⟩, ⟨(some 50), (.q (.bin .neq (.tmp 49) (.const (.int .i64 24576)))), none⟩, ⟨(some 51), (.q (.move (.tmp 50))), none⟩, ⟨(some 52), (.q (.move (.tmp 12))), (some (51, false))⟩, ⟨(some 53), (.q (.len true (.tmp 52))), (some (51, false))⟩, ⟨(some 54), (.q (.move (.tmp 10))), (some (51, false))⟩, ⟨(some 55), (.q (.len true (.tmp 54))), (some (51, false))⟩, ⟨(some 56), (.q (.bin .neq (.tmp 53) (.tmp 55))), (some (51, false))⟩, ⟨(some 57), (.q (.pick (.tmp 51) (.const (.bool true)) (.tmp 56))), none⟩]) 
    (.cond (.tmp 57) 
    (.seq 
    (.region [⟨(some 6), (.q (.move (.const (.bool false)))), none⟩]) .ret) .skip)) 
    (.seq 
    (.region [⟨(some 58), (.q (.move (.tmp 12))), none⟩, ⟨(some 59), (.q (.move (.tmp 7))), none⟩, ⟨(some 60), (.q (.bin .mul (.tmp 59) (.const (.int .i64 512)))), none⟩, ⟨(some 61), (.q (.move (.tmp 7))), none⟩, ⟨(some 62), (.q (.bin .add (.tmp 61) (.const (.int .i64 1)))), none⟩, ⟨(some 63), (.q (.bin .mul (.tmp 62) (.const (.int .i64 512)))), none⟩, ⟨(some 64), (.q (.sliceStr (.tmp 58) (some (.tmp 60)) (some (.tmp 63)))), none⟩, ⟨(some 65), (.q (.move (.tmp 10))), none⟩, ⟨(some 66), (.q (.move (.tmp 7))), none⟩, ⟨(some 67), (.q (.bin .mul (.tmp 66) (.const (.int .i64 512)))), none⟩, ⟨(some 68), (.q (.move (.tmp 7))), none⟩, ⟨(some 69), (.q (.bin .add (.tmp 68) (.const (.int .i64 1)))), none⟩, ⟨(some 70), (.q (.bin .mul (.tmp 69) (.const (.int .i64 512)))), none⟩, ⟨(some 71), (.q (.sliceStr (.tmp 65) (some (.tmp 67)) (some (.tmp 70)))), none⟩, ⟨(some 72), (.q (.bin .eql (.tmp 64) (.tmp 71))), none⟩, ⟨(some 73), (.q (.move (.tmp 72))), none⟩, ⟨(some 74), (.q (.move (.tmp 9))), (some (73, true))⟩, ⟨(some 75), (.q (.move (.tmp 7))), (some (73, true))⟩, ⟨(some 76), (.s (.lit 3 1 [(.tmp 75)])), (some (73, true))⟩, ⟨(some 77), (.s (.call 63 [(.tmp 74), (.tmp 76)])), (some (73, true))⟩, ⟨(some 78), (.q (.pick (.tmp 73) (.tmp 77) (.const (.bool false)))), none⟩, ⟨(some 79), (.q (.move (.tmp 78))), none⟩, ⟨(some 80), (.s (.call 60 [])), (some (79, true))⟩, ⟨(some 81), (.q (.pick (.tmp 79) (.tmp 80) (.const (.bool false)))), none⟩, ⟨(some 6), (.q (.move (.tmp 81))), none⟩]) .ret))))))))))
theorem t13 : Told Try.prog 13 82 c13 [(.tmp 6)] := ⟨Try.f13, _, [], Try.func13, rfl, by kernel_rfl, rfl, by kernel_rfl, by kernel_rfl⟩
end Go.Proofs.Ytblflecalomgfaa.AL
