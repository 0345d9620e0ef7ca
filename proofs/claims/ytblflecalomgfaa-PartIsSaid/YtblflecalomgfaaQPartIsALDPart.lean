/- Package part, its reference and its law: the code told. -/
import Derived.Test.YtblflecalomgfaaQPartIsALA3
import Derived.Test.YtblflecalomgfaaProg
import Derived.KernelRfl
set_option maxRecDepth 100000
namespace Go.Proofs.Ytblflecalomgfaa.AL
open Go Go.Proofs
def c133 : ACode := 
    (.seq 
    (.region [⟨(some 1), (.s (.box 109 (.tmp 0))), none⟩, ⟨(some 2), (.q (.move (.const (.bool false)))), none⟩]) 
    (.seq 
    (.region [⟨(some 3), (.q (.fieldAddr 0 (.tmp 1))), none⟩, ⟨(some 4), (.q (.load false 1 (.tmp 3))), none⟩, ⟨(some 5), (.q (.bin .neq (.tmp 4) (.const (.str (B []))))), none⟩, ⟨(some 6), (.q (.move (.tmp 5))), none⟩, ⟨(some 7), (.q (.fieldAddr 0 (.tmp 1))), (some (6, true))⟩, ⟨(some 8), (.q (.load false 1 (.tmp 7))), (some (6, true))⟩, ⟨(some 9), (.q (.len true (.tmp 8))), (some (6, true))⟩, ⟨(some 10), (.q (.bin .leq (.tmp 9) (.const (.int .i64 31)))), (some (6, true))⟩, ⟨(some 11), (.q (.pick (.tmp 6) (.tmp 10) (.const (.bool false)))), none⟩, ⟨(some 2), (.q (.move (.tmp 11))), none⟩]) .ret))
theorem t133 : Told Try.prog 133 12 c133 [(.tmp 2)] := ⟨Try.f133, _, [], Try.func133, rfl, by kernel_rfl, rfl, by kernel_rfl, by kernel_rfl⟩
def c134 : ACode := 
    (.seq 
    (.region [⟨(some 1), (.s (.box 109 (.tmp 0))), none⟩, ⟨(some 2), (.q (.move (.const (.bool false)))), none⟩]) 
    (.seq 
    (.region [⟨(some 3), (.q (.fieldAddr 1 (.tmp 1))), none⟩, ⟨(some 4), (.q (.load false 1 (.tmp 3))), none⟩, ⟨(some 5), (.q (.bin .geq (.tmp 4) (.const (.int .i64 0)))), none⟩, ⟨(some 6), (.q (.move (.tmp 5))), none⟩, ⟨(some 7), (.q (.fieldAddr 1 (.tmp 1))), (some (6, true))⟩, ⟨(some 8), (.q (.load false 1 (.tmp 7))), (some (6, true))⟩, ⟨(some 9), (.q (.bin .leq (.tmp 8) (.const (.int .i64 48)))), (some (6, true))⟩, ⟨(some 10), (.q (.pick (.tmp 6) (.tmp 9) (.const (.bool false)))), none⟩, ⟨(some 11), (.q (.move (.tmp 10))), none⟩, ⟨(some 12), (.q (.fieldAddr 2 (.tmp 1))), (some (11, true))⟩, ⟨(some 13), (.q (.load false 1 (.tmp 12))), (some (11, true))⟩, ⟨(some 14), (.q (.bin .gtr (.tmp 13) (.const (.int .i64 0)))), (some (11, true))⟩, ⟨(some 15), (.q (.pick (.tmp 11) (.tmp 14) (.const (.bool false)))), none⟩, ⟨(some 16), (.q (.move (.tmp 15))), none⟩, ⟨(some 17), (.q (.fieldAddr 2 (.tmp 1))), (some (16, true))⟩, ⟨(some 18), (.q (.load false 1 (.tmp 17))), (some (16, true))⟩, ⟨(some 19), (.q (.fieldAddr 1 (.tmp 1))), (some (16, true))⟩, ⟨(some 20), (.q (.load false 1 (.tmp 19))), (some (16, true))⟩, ⟨(some 21), (.q (.bin .sub (.const (.int .i64 48)) (.tmp 20))), (some (16, true))⟩, ⟨(some 22), (.q (.bin .leq (.tmp 18) (.tmp 21))), (some (16, true))⟩, ⟨(some 23), (.q (.pick (.tmp 16) (.tmp 22) (.const (.bool false)))), none⟩, ⟨(some 2), (.q (.move (.tmp 23))), none⟩]) .ret))
theorem t134 : Told Try.prog 134 24 c134 [(.tmp 2)] := ⟨Try.f134, _, [], Try.func134, rfl, by kernel_rfl, rfl, by kernel_rfl, by kernel_rfl⟩
def c136 : ACode := 
    (.seq 
    (.region [⟨(some 2), (.s (.box 109 (.tmp 0))), none⟩, ⟨(some 3), (.s (.box 109 (.tmp 1))), none⟩, ⟨(some 4), (.q (.move (.const (.bool false)))), none⟩]) 
    (.seq 
    (.region [⟨(some 5), (.q (.fieldAddr 0 (.tmp 2))), none⟩, ⟨(some 6), (.q (.load false 1 (.tmp 5))), none⟩, ⟨(some 7), (.q (.fieldAddr 0 (.tmp 3))), none⟩, ⟨(some 8), (.q (.load false 1 (.tmp 7))), none⟩, ⟨(some 9), (.q (.bin .eql (.tmp 6) (.tmp 8))), none⟩, ⟨(some 10), (.q (.move (.tmp 9))), none⟩, ⟨(some 11), (.q (.fieldAddr 1 (.tmp 2))), (some (10, false))⟩, ⟨(some 12), (.q (.load false 1 (.tmp 11))), (some (10, false))⟩, ⟨(some 13), (.q (.fieldAddr 1 (.tmp 3))), (some (10, false))⟩, ⟨(some 14), (.q (.load false 1 (.tmp 13))), (some (10, false))⟩, ⟨(some 15), (.q (.fieldAddr 2 (.tmp 3))), (some (10, false))⟩, ⟨(some 16), (.q (.load false 1 (.tmp 15))), (some (10, false))⟩, ⟨(some 17), (.q (.bin .add (.tmp 14) (.tmp 16))), (some (10, false))⟩, ⟨(some 18), (.q (.bin .lss (.tmp 12) (.tmp 17))), (some (10, false))⟩, ⟨(some 19), (.q (.move (.tmp 18))), (some (10, false))⟩, ⟨(some 20), (.q (.fieldAddr 1 (.tmp 3))), (some (19, true))⟩, ⟨(some 21), (.q (.load false 1 (.tmp 20))), (some (19, true))⟩, ⟨(some 22), (.q (.fieldAddr 1 (.tmp 2))), (some (19, true))⟩, ⟨(some 23), (.q (.load false 1 (.tmp 22))), (some (19, true))⟩, ⟨(some 24), (.q (.fieldAddr 2 (.tmp 2))), (some (19, true))⟩, ⟨(some 25), (.q (.load false 1 (.tmp 24))), (some (19, true))⟩, ⟨(some 26), (.q (.bin .add (.tmp 23) (.tmp 25))), (some (19, true))⟩, ⟨(some 27), (.q (.bin .lss (.tmp 21) (.tmp 26))), (some (19, true))⟩, ⟨(some 28), (.q (.pick (.tmp 19) (.tmp 27) (.const (.bool false)))), (some (10, false))⟩, ⟨(some 29), (.q (.pick (.tmp 10) (.const (.bool true)) (.tmp 28))), none⟩, ⟨(some 4), (.q (.move (.tmp 29))), none⟩]) .ret))
theorem t136 : Told Try.prog 136 30 c136 [(.tmp 4)] := ⟨Try.f136, _, [], Try.func136, rfl, by kernel_rfl, rfl, by kernel_rfl, by kernel_rfl⟩
def c66 : ACode := 
    (.seq 
    (.region [⟨(some 2), (.q (.move (.const .nilp))), none⟩, ⟨(some 3), (.q (.move (.const (.int .i64 0)))), none⟩]) 
    (.seq 
    (.region [⟨(some 4), (.q (.move (.const (.func (.func 130) [] [])))), none⟩]) 
    (.seq 
    (.block 0 
    (.seq 
    (.region [⟨(some 8), (.q (.move (.tmp 0))), none⟩, ⟨(some 9), (.q (.len false (.tmp 8))), none⟩, ⟨(some 10), (.q (.bin .gtr (.tmp 9) (.const (.int .i64 16)))), none⟩, ⟨(some 11), (.q (.move (.tmp 10))), none⟩, ⟨(some 12), (.q (.move (.tmp 0))), (some (11, false))⟩, ⟨(some 13), (.q (.move (.tmp 4))), (some (11, false))⟩, ⟨(some 14), (.s (.callv (.tmp 13) [(.const (.func (.func 133) [] []))])), (some (11, false))⟩, ⟨(some 15), (.s (.call 132 [(.tmp 12), (.tmp 14)])), (some (11, false))⟩, ⟨(some 16), (.q (.pick (.tmp 11) (.const (.bool true)) (.tmp 15))), none⟩, ⟨(some 7), (.q (.move (.tmp 16))), none⟩]) 
    (.cond (.tmp 7) 
    (.seq 
    (.region [⟨(some 2), (.q (.move (.const .nilp))), none⟩, ⟨(some 3), (.q (.move (.const (.int .i64 1)))), none⟩]) .ret) 
    (.seq 
    (.region [⟨(some 18), (.q (.move (.tmp 0))), none⟩, ⟨(some 19), (.q (.move (.tmp 4))), none⟩, ⟨(some 20), (.s (.callv (.tmp 19) [(.const (.func (.func 134) [] []))])), none⟩, ⟨(some 21), (.s (.call 132 [(.tmp 18), (.tmp 20)])), none⟩, ⟨(some 17), (.q (.move (.tmp 21))), none⟩]) 
    (.cond (.tmp 17) 
    (.seq 
    (.region [⟨(some 2), (.q (.move (.const .nilp))), none⟩, ⟨(some 3), (.q (.move (.const (.int .i64 2)))), none⟩]) .ret) .skip))))) 
    (.seq 
    (.seq 
    (.region [⟨(some 22), (.q (.move (.tmp 0))), none⟩, ⟨(some 23), (.q (.len false (.tmp 22))), none⟩, ⟨(some 24), (.q (.move (.const (.int .i64 0)))), none⟩]) 
    (.block 1 
    (.loop 
    (.seq 
    (.region [⟨(some 25), (.q (.bin .lss (.tmp 24) (.tmp 23))), none⟩]) 
    (.seq 
    (.cond (.tmp 25) .skip (.exit 1)) 
    (.seq 
    (.block 2 
    (.seq 
    (.region [⟨(some 26), (.q (.move (.tmp 24))), none⟩, ⟨(some 27), (.q (.idxSl 3 (.tmp 22) (.tmp 24))), none⟩, ⟨(some 28), (.q (.load true 3 (.tmp 27))), none⟩, ⟨(some 6), (.s (.alloc 109 [(.str (B [])), (.int .i64 0), (.int .i64 0)])), none⟩, ⟨(some 5), (.q (.move (.tmp 26))), none⟩, ⟨none, (.s (.store 3 (.tmp 6) (.tmp 28))), none⟩]) 
    (.seq 
    (.region [⟨(some 29), (.q (.move (.tmp 0))), none⟩, ⟨(some 30), (.q (.move (.tmp 5))), none⟩, ⟨(some 31), (.q (.sliceSl 3 (.tmp 29) none (some (.tmp 30)))), none⟩, ⟨(some 32), (.q (.mkFunc (.func 135) [] [(.tmp 6)])), none⟩, ⟨(some 33), (.s (.call 132 [(.tmp 31), (.tmp 32)])), none⟩]) 
    (.cond (.tmp 33) 
    (.seq 
    (.region [⟨(some 2), (.q (.move (.const .nilp))), none⟩, ⟨(some 3), (.q (.move (.const (.int .i64 12)))), none⟩]) .ret) .skip)))) 
    (.region [⟨(some 34), (.q (.bin .add (.tmp 24) (.const (.int .i64 1)))), none⟩, ⟨(some 24), (.q (.move (.tmp 34))), none⟩]))))))) 
    (.seq 
    (.region [⟨(some 35), (.q (.move (.tmp 0))), none⟩, ⟨(some 36), (.s (.call 137 [(.tmp 35)])), none⟩, ⟨(some 37), (.q (.build [.nils] [(0, (1, (.tmp 36)))])), none⟩, ⟨(some 38), (.s (.box 164 (.tmp 37))), none⟩, ⟨(some 2), (.q (.move (.tmp 38))), none⟩, ⟨(some 3), (.q (.move (.const (.int .i64 0)))), none⟩]) .ret)))))
theorem t66 : Told Try.prog 66 39 c66 [(.tmp 2), (.tmp 3)] := ⟨Try.f66, _, [], Try.func66, rfl, by kernel_rfl, rfl, by kernel_rfl, by kernel_rfl⟩
def c130 : ACode := 
    (.seq 
    (.region [⟨(some 1), (.s (.box 158 (.tmp 0))), none⟩, ⟨(some 2), (.q (.move (.const .nilf))), none⟩]) 
    (.seq 
    (.region [⟨(some 3), (.q (.mkFunc (.func 131) [] [(.tmp 1)])), none⟩, ⟨(some 2), (.q (.move (.tmp 3))), none⟩]) .ret))
theorem t130 : Told Try.prog 130 4 c130 [(.tmp 2)] := ⟨Try.f130, _, [], Try.func130, rfl, by kernel_rfl, rfl, by kernel_rfl, by kernel_rfl⟩
def c131 : ACode := 
    (.seq 
    (.region [⟨(some 2), (.s (.box 109 (.tmp 0))), none⟩, ⟨(some 3), (.q (.move (.const (.bool false)))), none⟩]) 
    (.seq 
    (.region [⟨(some 4), (.q (.load false 1 (.tmp 1))), none⟩, ⟨(some 5), (.q (.load true 3 (.tmp 2))), none⟩, ⟨(some 6), (.s (.callv (.tmp 4) [(.tmp 5)])), none⟩, ⟨(some 7), (.q (.un .not (.tmp 6))), none⟩, ⟨(some 3), (.q (.move (.tmp 7))), none⟩]) .ret))
theorem t131 : Told Try.prog 131 8 c131 [(.tmp 3)] := ⟨Try.f131, _, [], Try.func131, rfl, by kernel_rfl, rfl, by kernel_rfl, by kernel_rfl⟩
def c135 : ACode := 
    (.seq 
    (.region [⟨(some 2), (.s (.box 109 (.tmp 0))), none⟩, ⟨(some 3), (.q (.move (.const (.bool false)))), none⟩]) 
    (.seq 
    (.region [⟨(some 4), (.q (.load true 3 (.tmp 1))), none⟩, ⟨(some 5), (.q (.load true 3 (.tmp 2))), none⟩, ⟨(some 6), (.s (.call 136 [(.tmp 4), (.tmp 5)])), none⟩, ⟨(some 3), (.q (.move (.tmp 6))), none⟩]) .ret))
theorem t135 : Told Try.prog 135 7 c135 [(.tmp 3)] := ⟨Try.f135, _, [], Try.func135, rfl, by kernel_rfl, rfl, by kernel_rfl, by kernel_rfl⟩
def c132 : ACode := 
    (.seq 
    (.region [⟨(some 4), (.q (.move (.const (.bool false)))), none⟩]) 
    (.seq 
    (.region [⟨(some 5), (.q (.move (.tmp 0))), none⟩, ⟨(some 6), (.q (.move (.tmp 1))), none⟩, ⟨(some 7), (.s (.call 138 [(.tmp 5), (.tmp 6)])), none⟩, ⟨(some 8), (.q (.bin .geq (.tmp 7) (.const (.int .i64 0)))), none⟩, ⟨(some 4), (.q (.move (.tmp 8))), none⟩]) .ret))
theorem t132 : Told Try.prog 132 9 c132 [(.tmp 4)] := ⟨Try.f132, _, [], Try.func132, rfl, by kernel_rfl, rfl, by kernel_rfl, by kernel_rfl⟩
def c138 : ACode := 
    (.seq 
    (.region [⟨(some 4), (.q (.move (.const (.int .i64 0)))), none⟩]) 
    (.seq 
    (.seq 
    (.region [⟨(some 6), (.q (.move (.tmp 0))), none⟩, ⟨(some 7), (.q (.len false (.tmp 6))), none⟩, ⟨(some 8), (.q (.move (.const (.int .i64 0)))), none⟩]) 
    (.block 0 
    (.loop 
    (.seq 
    (.region [⟨(some 9), (.q (.bin .lss (.tmp 8) (.tmp 7))), none⟩]) 
    (.seq 
    (.cond (.tmp 9) .skip (.exit 0)) 
    (.seq 
    (.block 1 
    (.seq 
    (.region [⟨(some 10), (.q (.move (.tmp 8))), none⟩, ⟨(some 5), (.q (.move (.tmp 10))), none⟩]) 
    (.seq 
    (.region [⟨(some 11), (.q (.move (.tmp 1))), none⟩, ⟨(some 12), (.q (.move (.tmp 0))), none⟩, ⟨(some 13), (.q (.move (.tmp 5))), none⟩, ⟨(some 14), (.q (.idxSl 3 (.tmp 12) (.tmp 13))), none⟩, ⟨(some 15), (.q (.load true 3 (.tmp 14))), none⟩, ⟨(some 16), (.s (.callv (.tmp 11) [(.tmp 15)])), none⟩]) 
    (.cond (.tmp 16) 
    (.seq 
    (.region [⟨(some 17), (.q (.move (.tmp 5))), none⟩, ⟨(some 4), (.q (.move (.tmp 17))), none⟩]) .ret) .skip)))) 
    (.region [⟨(some 18), (.q (.bin .add (.tmp 8) (.const (.int .i64 1)))), none⟩, ⟨(some 8), (.q (.move (.tmp 18))), none⟩]))))))) 
    (.seq 
    (.region [⟨(some 4), (.q (.move (.const (.int .i64 (-1))))), none⟩]) .ret)))
theorem t138 : Told Try.prog 138 19 c138 [(.tmp 4)] := ⟨Try.f138, _, [], Try.func138, rfl, by kernel_rfl, rfl, by kernel_rfl, by kernel_rfl⟩
def c137 : ACode := 
    (.seq 
    (.region [⟨(some 2), (.q (.move (.const .nils))), none⟩]) 
    (.seq 
    (.seq 
    (.region [⟨(some 3), (.q (.move (.tmp 0))), none⟩, ⟨(some 4), (.q (.nil .sl false (.tmp 3) (.const .nils))), none⟩]) 
    (.cond (.tmp 4) 
    (.seq 
    (.region [⟨(some 2), (.q (.move (.const .nils))), none⟩]) .ret) .skip)) 
    (.seq 
    (.region [⟨(some 5), (.s (.litw 109 3 [])), none⟩, ⟨(some 6), (.q (.move (.tmp 0))), none⟩, ⟨(some 7), (.s (.app 109 3 32 (.tmp 5) (.tmp 6))), none⟩, ⟨(some 2), (.q (.move (.tmp 7))), none⟩]) .ret)))
theorem t137 : Told Try.prog 137 8 c137 [(.tmp 2)] := ⟨Try.f137, _, [5], Try.func137, rfl, by kernel_rfl, rfl, by kernel_rfl, by kernel_rfl⟩
def c68 : ACode := 
    (.seq 
    (.region [⟨(some 2), (.q (.move (.const .nils))), none⟩]) 
    (.seq 
    (.seq 
    (.region [⟨(some 3), (.q (.move (.tmp 0))), none⟩, ⟨(some 4), (.q (.nil .ptr false (.tmp 3) (.const .nilp))), none⟩]) 
    (.cond (.tmp 4) 
    (.seq 
    (.region [⟨(some 2), (.q (.move (.const .nils))), none⟩]) .ret) .skip)) 
    (.seq 
    (.region [⟨(some 5), (.q (.move (.tmp 0))), none⟩, ⟨(some 6), (.q (.nonil (.tmp 5))), none⟩, ⟨(some 7), (.q (.fieldAddr 0 (.tmp 6))), none⟩, ⟨(some 8), (.q (.load false 1 (.tmp 7))), none⟩, ⟨(some 9), (.s (.call 137 [(.tmp 8)])), none⟩, ⟨(some 2), (.q (.move (.tmp 9))), none⟩]) .ret)))
theorem t68 : Told Try.prog 68 10 c68 [(.tmp 2)] := ⟨Try.f68, _, [], Try.func68, rfl, by kernel_rfl, rfl, by kernel_rfl, by kernel_rfl⟩
def c69 : ACode := 
    (.seq 
    (.region [⟨(some 3), (.s (.box 9 (.tmp 1))), none⟩, ⟨(some 4), (.s (.alloc 109 [(.str (B [])), (.int .i64 0), (.int .i64 0)])), none⟩, ⟨(some 5), (.q (.move (.const (.bool false)))), none⟩]) 
    (.seq 
    (.region [⟨(some 8), (.q (.move (.tmp 0))), none⟩, ⟨(some 9), (.s (.call 68 [(.tmp 8)])), none⟩, ⟨(some 6), (.q (.move (.tmp 9))), none⟩]) 
    (.seq 
    (.region [⟨(some 10), (.q (.move (.tmp 6))), none⟩, ⟨(some 11), (.q (.mkFunc (.func 139) [] [(.tmp 3)])), none⟩, ⟨(some 12), (.s (.call 138 [(.tmp 10), (.tmp 11)])), none⟩, ⟨(some 7), (.q (.move (.tmp 12))), none⟩]) 
    (.seq 
    (.seq 
    (.region [⟨(some 13), (.q (.move (.tmp 7))), none⟩, ⟨(some 14), (.q (.bin .lss (.tmp 13) (.const (.int .i64 0)))), none⟩]) 
    (.cond (.tmp 14) 
    (.seq 
    (.region [⟨(some 15), (.q (.build [(.str (B [])), (.int .i64 0), (.int .i64 0)] [])), none⟩, ⟨none, (.s (.store 3 (.tmp 4) (.tmp 15))), none⟩, ⟨(some 5), (.q (.move (.const (.bool false)))), none⟩]) .ret) .skip)) 
    (.seq 
    (.region [⟨(some 16), (.q (.move (.tmp 6))), none⟩, ⟨(some 17), (.q (.move (.tmp 7))), none⟩, ⟨(some 18), (.q (.idxSl 3 (.tmp 16) (.tmp 17))), none⟩, ⟨(some 19), (.q (.load true 3 (.tmp 18))), none⟩, ⟨none, (.s (.store 3 (.tmp 4) (.tmp 19))), none⟩, ⟨(some 5), (.q (.move (.const (.bool true)))), none⟩]) .ret)))))
theorem t69 : Told Try.prog 69 20 c69 [(.cell 4 true 3), (.tmp 5)] := ⟨Try.f69, _, [], Try.func69, rfl, by kernel_rfl, rfl, by kernel_rfl, by kernel_rfl⟩
def c139 : ACode := 
    (.seq 
    (.region [⟨(some 2), (.s (.box 109 (.tmp 0))), none⟩, ⟨(some 3), (.q (.move (.const (.bool false)))), none⟩]) 
    (.seq 
    (.region [⟨(some 4), (.q (.fieldAddr 0 (.tmp 2))), none⟩, ⟨(some 5), (.q (.load false 1 (.tmp 4))), none⟩, ⟨(some 6), (.q (.load false 1 (.tmp 1))), none⟩, ⟨(some 7), (.q (.bin .eql (.tmp 5) (.tmp 6))), none⟩, ⟨(some 3), (.q (.move (.tmp 7))), none⟩]) .ret))
theorem t139 : Told Try.prog 139 8 c139 [(.tmp 3)] := ⟨Try.f139, _, [], Try.func139, rfl, by kernel_rfl, rfl, by kernel_rfl, by kernel_rfl⟩
def c71 : ACode := 
    (.seq 
    (.region [⟨(some 4), (.q (.move (.const (.int .i64 0)))), none⟩]) 
    (.seq 
    (.region [⟨(some 8), (.q (.move (.tmp 0))), none⟩, ⟨(some 9), (.q (.move (.tmp 1))), none⟩, ⟨(some 10), (.s (.call 69 [(.tmp 8), (.tmp 9)])), none⟩, ⟨(some 7), (.q (.move (.tmp 10))), none⟩, ⟨(some 11), (.q (.extract 0 (.tmp 7))), none⟩, ⟨(some 12), (.q (.extract 1 (.tmp 7))), none⟩, ⟨(some 5), (.s (.alloc 109 [(.str (B [])), (.int .i64 0), (.int .i64 0)])), none⟩, ⟨none, (.s (.store 3 (.tmp 5) (.tmp 11))), none⟩, ⟨(some 6), (.q (.move (.tmp 12))), none⟩]) 
    (.seq 
    (.region [⟨(some 13), (.q (.fieldAddr 2 (.tmp 5))), none⟩, ⟨(some 14), (.q (.load false 1 (.tmp 13))), none⟩, ⟨(some 15), (.q (.bin .mul (.tmp 14) (.const (.int .i64 512)))), none⟩, ⟨(some 4), (.q (.move (.tmp 15))), none⟩]) .ret)))
theorem t71 : Told Try.prog 71 16 c71 [(.tmp 4)] := ⟨Try.f71, _, [], Try.func71, rfl, by kernel_rfl, rfl, by kernel_rfl, by kernel_rfl⟩
def c166 : ACode := 
    (.seq 
    (.region [⟨(some 8), (.q (.move (.const (.int .i64 0)))), none⟩, ⟨(some 9), (.q (.move (.const (.int .i64 0)))), none⟩]) 
    (.seq 
    (.region [⟨(some 14), (.q (.move (.tmp 0))), none⟩, ⟨(some 15), (.q (.move (.tmp 1))), none⟩, ⟨(some 16), (.s (.call 69 [(.tmp 14), (.tmp 15)])), none⟩, ⟨(some 13), (.q (.move (.tmp 16))), none⟩, ⟨(some 17), (.q (.extract 0 (.tmp 13))), none⟩, ⟨(some 18), (.q (.extract 1 (.tmp 13))), none⟩, ⟨(some 10), (.s (.alloc 109 [(.str (B [])), (.int .i64 0), (.int .i64 0)])), none⟩, ⟨none, (.s (.store 3 (.tmp 10) (.tmp 17))), none⟩, ⟨(some 11), (.q (.move (.tmp 18))), none⟩]) 
    (.seq 
    (.seq 
    (.region [⟨(some 19), (.q (.move (.tmp 11))), none⟩, ⟨(some 20), (.q (.un .not (.tmp 19))), none⟩]) 
    (.cond (.tmp 20) 
    (.seq 
    (.region [⟨(some 8), (.q (.move (.const (.int .i64 0)))), none⟩, ⟨(some 9), (.q (.move (.const (.int .i64 8)))), none⟩]) .ret) .skip)) 
    (.seq 
    (.seq 
    (.region [⟨(some 21), (.q (.move (.tmp 0))), none⟩, ⟨(some 22), (.q (.move (.tmp 1))), none⟩, ⟨(some 23), (.s (.call 71 [(.tmp 21), (.tmp 22)])), none⟩, ⟨(some 12), (.q (.move (.tmp 23))), none⟩]) 
    (.seq 
    (.region [⟨(some 24), (.q (.move (.tmp 2))), none⟩, ⟨(some 25), (.q (.bin .lss (.tmp 24) (.const (.int .i64 0)))), none⟩, ⟨(some 26), (.q (.move (.tmp 25))), none⟩, ⟨(some 27), (.q (.move (.tmp 3))), (some (26, false))⟩, ⟨(some 28), (.q (.bin .lss (.tmp 27) (.const (.int .i64 0)))), (some (26, false))⟩, ⟨(some 29), (.q (.pick (.tmp 26) (.const (.bool true)) (.tmp 28))), none⟩, ⟨(some 30), (.q (.move (.tmp 29))), none⟩, ⟨(some 31), (.q (.move (.tmp 2))), (some (30, false))⟩, ⟨(some 32), (.q (.move (.tmp 12))), (some (30, false))⟩, ⟨(some 33), (.q (.bin .gtr (.tmp 31) (.tmp 32))), (some (30, false))⟩, ⟨(some 34), (.q (.pick (.tmp 30) (.const (.bool true)) (.tmp 33))), none⟩, ⟨(some 35), (.q (.move (.tmp 34))), none⟩, ⟨(some 36), (.q (.move (.tmp 3))), (some (35, false))⟩, ⟨(some 37), (.q (.move (.tmp 12))), (some (35, false))⟩, ⟨(some 38), (.q (.move (.tmp 2))), (some (35, false))⟩, ⟨(some 39), (.q (.bin .sub (.tmp 37) (.tmp 38))), (some (35, false))⟩, ⟨(some 40), (.q (.bin .gtr (.tmp 36) (.tmp 39))), (some (35, false))⟩, ⟨(some 41), (.q (.pick (.tmp 35) (.const (.bool true)) (.tmp 40))), none⟩]) 
    (.cond (.tmp 41) 
    (.seq 
    (.region [⟨(some 8), (.q (.move (.const (.int .i64 0)))), none⟩, ⟨(some 9), (.q (.move (.const (.int .i64 2)))), none⟩]) .ret) .skip))) 
    (.seq 
    (.region [⟨(some 42), (.q (.fieldAddr 1 (.tmp 10))), none⟩, ⟨(some 43), (.q (.load false 1 (.tmp 42))), none⟩, ⟨(some 44), (.q (.bin .mul (.tmp 43) (.const (.int .i64 512)))), none⟩, ⟨(some 45), (.q (.move (.tmp 2))), none⟩, ⟨(some 46), (.q (.bin .add (.tmp 44) (.tmp 45))), none⟩, ⟨(some 8), (.q (.move (.tmp 46))), none⟩, ⟨(some 9), (.q (.move (.const (.int .i64 0)))), none⟩]) .ret)))))
theorem t166 : Told Try.prog 166 47 c166 [(.tmp 8), (.tmp 9)] := ⟨Try.f166, _, [], Try.func166, rfl, by kernel_rfl, rfl, by kernel_rfl, by kernel_rfl⟩
def c128 : ACode := 
    (.seq 
    (.region [⟨(some 10), (.q (.move (.const (.int .i64 0)))), none⟩]) 
    (.seq 
    (.region [⟨(some 14), (.q (.move (.tmp 0))), none⟩, ⟨(some 15), (.q (.move (.tmp 2))), none⟩, ⟨(some 16), (.q (.move (.tmp 3))), none⟩, ⟨(some 17), (.q (.move (.tmp 4))), none⟩, ⟨(some 18), (.q (.len true (.tmp 17))), none⟩, ⟨(some 19), (.s (.call 166 [(.tmp 14), (.tmp 15), (.tmp 16), (.tmp 18)])), none⟩, ⟨(some 13), (.q (.move (.tmp 19))), none⟩, ⟨(some 20), (.q (.extract 0 (.tmp 13))), none⟩, ⟨(some 21), (.q (.extract 1 (.tmp 13))), none⟩, ⟨(some 11), (.q (.move (.tmp 20))), none⟩, ⟨(some 12), (.q (.move (.tmp 21))), none⟩]) 
    (.seq 
    (.seq 
    (.region [⟨(some 22), (.q (.move (.tmp 12))), none⟩, ⟨(some 23), (.q (.bin .neq (.tmp 22) (.const (.int .i64 0)))), none⟩]) 
    (.cond (.tmp 23) 
    (.seq 
    (.region [⟨(some 24), (.q (.move (.tmp 12))), none⟩, ⟨(some 10), (.q (.move (.tmp 24))), none⟩]) .ret) .skip)) 
    (.seq 
    (.region [⟨(some 25), (.q (.move (.tmp 1))), none⟩, ⟨(some 26), (.q (.move (.tmp 11))), none⟩, ⟨(some 27), (.q (.move (.tmp 4))), none⟩, ⟨(some 28), (.s (.call 122 [(.tmp 25), (.tmp 26), (.tmp 27)])), none⟩, ⟨(some 10), (.q (.move (.tmp 28))), none⟩]) .ret))))
theorem t128 : Told Try.prog 128 29 c128 [(.tmp 10)] := ⟨Try.f128, _, [], Try.func128, rfl, by kernel_rfl, rfl, by kernel_rfl, by kernel_rfl⟩
def c129 : ACode := 
    (.seq 
    (.region [⟨(some 8), (.q (.move (.const (.int .i64 0)))), none⟩]) 
    (.seq 
    (.region [⟨(some 12), (.q (.move (.tmp 0))), none⟩, ⟨(some 13), (.q (.move (.tmp 2))), none⟩, ⟨(some 14), (.s (.call 69 [(.tmp 12), (.tmp 13)])), none⟩, ⟨(some 11), (.q (.move (.tmp 14))), none⟩, ⟨(some 15), (.q (.extract 0 (.tmp 11))), none⟩, ⟨(some 16), (.q (.extract 1 (.tmp 11))), none⟩, ⟨(some 9), (.s (.alloc 109 [(.str (B [])), (.int .i64 0), (.int .i64 0)])), none⟩, ⟨none, (.s (.store 3 (.tmp 9) (.tmp 15))), none⟩, ⟨(some 10), (.q (.move (.tmp 16))), none⟩]) 
    (.seq 
    (.block 0 
    (.seq 
    (.region [⟨(some 18), (.q (.move (.tmp 10))), none⟩, ⟨(some 19), (.q (.un .not (.tmp 18))), none⟩, ⟨(some 17), (.q (.move (.tmp 19))), none⟩]) 
    (.cond (.tmp 17) 
    (.seq 
    (.region [⟨(some 8), (.q (.move (.const (.int .i64 8)))), none⟩]) .ret) 
    (.seq 
    (.region [⟨(some 21), (.q (.move (.tmp 3))), none⟩, ⟨(some 22), (.q (.bin .lss (.tmp 21) (.const (.int .i64 0)))), none⟩, ⟨(some 23), (.q (.move (.tmp 22))), none⟩, ⟨(some 24), (.q (.move (.tmp 3))), (some (23, false))⟩, ⟨(some 25), (.q (.fieldAddr 2 (.tmp 9))), (some (23, false))⟩, ⟨(some 26), (.q (.load false 1 (.tmp 25))), (some (23, false))⟩, ⟨(some 27), (.q (.bin .geq (.tmp 24) (.tmp 26))), (some (23, false))⟩, ⟨(some 28), (.q (.pick (.tmp 23) (.const (.bool true)) (.tmp 27))), none⟩, ⟨(some 20), (.q (.move (.tmp 28))), none⟩]) 
    (.cond (.tmp 20) 
    (.seq 
    (.region [⟨(some 8), (.q (.move (.const (.int .i64 2)))), none⟩]) .ret) .skip))))) 
    (.seq 
    (.region [⟨(some 29), (.q (.move (.tmp 1))), none⟩, ⟨(some 30), (.q (.fieldAddr 1 (.tmp 9))), none⟩, ⟨(some 31), (.q (.load false 1 (.tmp 30))), none⟩, ⟨(some 32), (.q (.move (.tmp 3))), none⟩, ⟨(some 33), (.q (.bin .add (.tmp 31) (.tmp 32))), none⟩, ⟨(some 34), (.s (.call 121 [(.tmp 29), (.tmp 33)])), none⟩, ⟨(some 8), (.q (.move (.tmp 34))), none⟩]) .ret))))
theorem t129 : Told Try.prog 129 35 c129 [(.tmp 8)] := ⟨Try.f129, _, [], Try.func129, rfl, by kernel_rfl, rfl, by kernel_rfl, by kernel_rfl⟩
def c73 : ACode := 
    (.seq 
    (.region [⟨(some 4), (.q (.move (.const .nils))), none⟩]) 
    (.seq 
    (.region [⟨(some 5), (.q (.move (.const .nils))), none⟩]) 
    (.seq 
    (.seq 
    (.region [⟨(some 11), (.q (.move (.tmp 1))), none⟩, ⟨(some 12), (.q (.len false (.tmp 11))), none⟩, ⟨(some 13), (.q (.move (.const (.int .i64 0)))), none⟩]) 
    (.block 0 
    (.loop 
    (.seq 
    (.region [⟨(some 14), (.q (.bin .lss (.tmp 13) (.tmp 12))), none⟩]) 
    (.seq 
    (.cond (.tmp 14) .skip (.exit 0)) 
    (.seq 
    (.block 1 
    (.seq 
    (.region [⟨(some 15), (.q (.idxSl 1 (.tmp 11) (.tmp 13))), none⟩, ⟨(some 16), (.q (.load false 1 (.tmp 15))), none⟩, ⟨(some 7), (.q (.move (.tmp 16))), none⟩]) 
    (.seq 
    (.region [⟨(some 18), (.q (.move (.tmp 0))), none⟩, ⟨(some 19), (.q (.move (.tmp 7))), none⟩, ⟨(some 20), (.s (.call 69 [(.tmp 18), (.tmp 19)])), none⟩, ⟨(some 17), (.q (.move (.tmp 20))), none⟩, ⟨(some 21), (.q (.extract 0 (.tmp 17))), none⟩, ⟨(some 22), (.q (.extract 1 (.tmp 17))), none⟩, ⟨(some 8), (.s (.alloc 109 [(.str (B [])), (.int .i64 0), (.int .i64 0)])), none⟩, ⟨none, (.s (.store 3 (.tmp 8) (.tmp 21))), none⟩, ⟨(some 9), (.q (.move (.tmp 22))), none⟩]) 
    (.seq 
    (.region [⟨(some 23), (.q (.fieldAddr 2 (.tmp 8))), none⟩, ⟨(some 24), (.q (.load false 1 (.tmp 23))), none⟩, ⟨(some 25), (.q (.move (.const (.int .i64 0)))), none⟩]) 
    (.block 2 
    (.loop 
    (.seq 
    (.region [⟨(some 26), (.q (.bin .lss (.tmp 25) (.tmp 24))), none⟩]) 
    (.seq 
    (.cond (.tmp 26) .skip (.exit 2)) 
    (.seq 
    (.block 3 
    (.seq 
    (.region [⟨(some 27), (.q (.move (.tmp 25))), none⟩, ⟨(some 10), (.q (.move (.tmp 27))), none⟩]) 
    (.region [⟨(some 28), (.q (.move (.tmp 5))), none⟩, ⟨(some 29), (.q (.fieldAddr 1 (.tmp 8))), none⟩, ⟨(some 30), (.q (.load false 1 (.tmp 29))), none⟩, ⟨(some 31), (.q (.move (.tmp 10))), none⟩, ⟨(some 32), (.q (.bin .add (.tmp 30) (.tmp 31))), none⟩, ⟨(some 33), (.s (.lit 3 1 [(.tmp 32)])), none⟩, ⟨(some 34), (.s (.app 3 1 8 (.tmp 28) (.tmp 33))), none⟩, ⟨(some 5), (.q (.move (.tmp 34))), none⟩]))) 
    (.region [⟨(some 35), (.q (.bin .add (.tmp 25) (.const (.int .i64 1)))), none⟩, ⟨(some 25), (.q (.move (.tmp 35))), none⟩])))))))))) 
    (.region [⟨(some 36), (.q (.bin .add (.tmp 13) (.const (.int .i64 1)))), none⟩, ⟨(some 13), (.q (.move (.tmp 36))), none⟩]))))))) 
    (.seq 
    (.region [⟨(some 37), (.q (.move (.tmp 5))), none⟩, ⟨(some 4), (.q (.move (.tmp 37))), none⟩]) .ret))))
theorem t73 : Told Try.prog 73 38 c73 [(.tmp 4)] := ⟨Try.f73, _, [], Try.func73, rfl, by kernel_rfl, rfl, by kernel_rfl, by kernel_rfl⟩
def c67 : ACode := 
    (.seq 
    (.region [⟨(some 2), (.q (.move (.const (.int .i64 0)))), none⟩]) 
    (.seq 
    (.seq 
    (.region [⟨(some 9), (.q (.move (.tmp 0))), none⟩, ⟨(some 10), (.q (.len false (.tmp 9))), none⟩, ⟨(some 11), (.q (.bin .gtr (.tmp 10) (.const (.int .i64 16)))), none⟩]) 
    (.cond (.tmp 11) 
    (.seq 
    (.region [⟨(some 2), (.q (.move (.const (.int .i64 1)))), none⟩]) .ret) .skip)) 
    (.seq 
    (.seq 
    (.region [⟨(some 3), (.q (.move (.const (.int .i64 0)))), none⟩]) 
    (.block 0 
    (.loop 
    (.seq 
    (.seq 
    (.region [⟨(some 12), (.q (.move (.tmp 3))), none⟩, ⟨(some 13), (.q (.move (.tmp 0))), none⟩, ⟨(some 14), (.q (.len false (.tmp 13))), none⟩, ⟨(some 15), (.q (.bin .lss (.tmp 12) (.tmp 14))), none⟩]) 
    (.cond (.tmp 15) .skip (.exit 0))) 
    (.seq 
    (.block 1 
    (.seq 
    (.region [⟨(some 18), (.q (.move (.tmp 0))), none⟩, ⟨(some 19), (.q (.move (.tmp 3))), none⟩, ⟨(some 20), (.q (.idxSl 3 (.tmp 18) (.tmp 19))), none⟩, ⟨(some 21), (.q (.fieldAddr 0 (.tmp 20))), none⟩, ⟨(some 22), (.q (.load false 1 (.tmp 21))), none⟩, ⟨(some 23), (.q (.bin .eql (.tmp 22) (.const (.str (B []))))), none⟩, ⟨(some 24), (.q (.move (.tmp 23))), none⟩, ⟨(some 25), (.q (.move (.tmp 0))), (some (24, false))⟩, ⟨(some 26), (.q (.move (.tmp 3))), (some (24, false))⟩, ⟨(some 27), (.q (.idxSl 3 (.tmp 25) (.tmp 26))), (some (24, false))⟩, ⟨(some 28), (.q (.fieldAddr 0 (.tmp 27))), (some (24, false))⟩, ⟨(some 29), (.q (.load false 1 (.tmp 28))), (some (24, false))⟩, ⟨(some 30), (.q (.len true (.tmp 29))), (some (24, false))⟩, ⟨(some 31), (.q (.bin .gtr (.tmp 30) (.const (.int .i64 31)))), (some (24, false))⟩, ⟨(some 32), (.q (.pick (.tmp 24) (.const (.bool true)) (.tmp 31))), none⟩]) 
    (.cond (.tmp 32) 
    (.seq 
    (.region [⟨(some 2), (.q (.move (.const (.int .i64 1)))), none⟩]) .ret) .skip))) 
    (.region [⟨(some 16), (.q (.move (.tmp 3))), none⟩, ⟨(some 17), (.q (.bin .add (.tmp 16) (.const (.int .i64 1)))), none⟩, ⟨(some 3), (.q (.move (.tmp 17))), none⟩])))))) 
    (.seq 
    (.seq 
    (.region [⟨(some 4), (.q (.move (.const (.int .i64 0)))), none⟩]) 
    (.block 2 
    (.loop 
    (.seq 
    (.seq 
    (.region [⟨(some 33), (.q (.move (.tmp 4))), none⟩, ⟨(some 34), (.q (.move (.tmp 0))), none⟩, ⟨(some 35), (.q (.len false (.tmp 34))), none⟩, ⟨(some 36), (.q (.bin .lss (.tmp 33) (.tmp 35))), none⟩]) 
    (.cond (.tmp 36) .skip (.exit 2))) 
    (.seq 
    (.block 3 
    (.seq 
    (.region [⟨(some 39), (.q (.move (.tmp 0))), none⟩, ⟨(some 40), (.q (.move (.tmp 4))), none⟩, ⟨(some 41), (.q (.idxSl 3 (.tmp 39) (.tmp 40))), none⟩, ⟨(some 42), (.q (.fieldAddr 1 (.tmp 41))), none⟩, ⟨(some 43), (.q (.load false 1 (.tmp 42))), none⟩, ⟨(some 44), (.q (.bin .lss (.tmp 43) (.const (.int .i64 0)))), none⟩, ⟨(some 45), (.q (.move (.tmp 44))), none⟩, ⟨(some 46), (.q (.move (.tmp 0))), (some (45, false))⟩, ⟨(some 47), (.q (.move (.tmp 4))), (some (45, false))⟩, ⟨(some 48), (.q (.idxSl 3 (.tmp 46) (.tmp 47))), (some (45, false))⟩, ⟨(some 49), (.q (.fieldAddr 2 (.tmp 48))), (some (45, false))⟩, ⟨(some 50), (.q (.load false 1 (.tmp 49))), (some (45, false))⟩, ⟨(some 51), (.q (.bin .lss (.tmp 50) (.const (.int .i64 1)))), (some (45, false))⟩, ⟨(some 52), (.q (.pick (.tmp 45) (.const (.bool true)) (.tmp 51))), none⟩, ⟨(some 53), (.q (.move (.tmp 52))), none⟩, ⟨(some 54), (.q (.move (.tmp 0))), (some (53, false))⟩, ⟨(some 55), (.q (.move (.tmp 4))), (some (53, false))⟩, ⟨(some 56), (.q (.idxSl 3 (.tmp 54) (.tmp 55))), (some (53, false))⟩, ⟨(some 57), (.q (.fieldAddr 1 (.tmp 56))), (some (53, false))⟩, ⟨(some 58), (.q (.load false 1 (.tmp 57))), (some (53, false))⟩, ⟨(some 59), (.q (.bin .gtr (.tmp 58) (.const (.int .i64 48)))), (some (53, false))⟩, ⟨(some 60), (.q (.pick (.tmp 53) (.const (.bool true)) (.tmp 59))), none⟩, ⟨(some 61), (.q (.move (.tmp 60))), none⟩, ⟨(some 62), (.q (.move (.tmp 0))), (some (61, false))⟩, ⟨(some 63), (.q (.move (.tmp 4))), (some (61, false))⟩, ⟨(some 64), (.q (.idxSl 3 (.tmp 62) (.tmp 63))), (some (61, false))⟩, ⟨(some 65), (.q (.fieldAddr 2 (.tmp 64))), (some (61, false))⟩, ⟨(some 66), (.q (.load false 1 (.tmp 65))), (some (61, false))⟩, ⟨(some 67), (.q (.move (.tmp 0))), (some (61, false))⟩, ⟨(some 68), (.q (.move (.tmp 4))), (some (61, false))⟩, ⟨(some 69), (.q (.idxSl 3 (.tmp 67) (.tmp 68))), (some (61, false))⟩, ⟨(some 70), (.q (.fieldAddr 1 (.tmp 69))), (some (61, false))⟩, ⟨(some 71), (.q (.load false 1 (.tmp 70))), (some (61, false))⟩, ⟨(some 72), (.q (.bin .sub (.const (.int .i64 48)) (.tmp 71))), (some (61, false))⟩, ⟨(some 73), (.q (.bin .gtr (.tmp 66) (.tmp 72))), (some (61, false))⟩, ⟨(some 74), (.q (.pick (.tmp 61) (.const (.bool true)) (.tmp 73))), none⟩]) 
    (.cond (.tmp 74) 
    (.seq 
    (.region [⟨(some 2), (.q (.move (.const (.int .i64 2)))), none⟩]) .ret) .skip))) 
    (.region [⟨(some 37), (.q (.move (.tmp 4))), none⟩, ⟨(some 38), (.q (.bin .add (.tmp 37) (.const (.int .i64 1)))), none⟩, ⟨(some 4), (.q (.move (.tmp 38))), none⟩])))))) 
    (.seq 
    (.seq 
    (.region [⟨(some 5), (.q (.move (.const (.int .i64 0)))), none⟩]) 
    (.block 4 
    (.loop 
    (.seq 
    (.seq 
    (.region [⟨(some 75), (.q (.move (.tmp 5))), none⟩, ⟨(some 76), (.q (.move (.tmp 0))), none⟩, ⟨(some 77), (.q (.len false (.tmp 76))), none⟩, ⟨(some 78), (.q (.bin .lss (.tmp 75) (.tmp 77))), none⟩]) 
    (.cond (.tmp 78) .skip (.exit 4))) 
    (.seq 
    (.block 5 
    (.seq 
    (.region [⟨(some 6), (.q (.move (.const (.int .i64 0)))), none⟩]) 
    (.block 6 
    (.loop 
    (.seq 
    (.seq 
    (.region [⟨(some 81), (.q (.move (.tmp 6))), none⟩, ⟨(some 82), (.q (.move (.tmp 5))), none⟩, ⟨(some 83), (.q (.bin .lss (.tmp 81) (.tmp 82))), none⟩]) 
    (.cond (.tmp 83) .skip (.exit 6))) 
    (.seq 
    (.block 7 
    (.seq 
    (.regionN 9 [⟨(some 86), (.q (.move (.tmp 0))), none⟩, ⟨(some 87), (.q (.move (.tmp 5))), none⟩, ⟨(some 88), (.q (.idxSl 3 (.tmp 86) (.tmp 87))), none⟩, ⟨(some 89), (.q (.load true 3 (.tmp 88))), none⟩, ⟨(some 90), (.q (.move (.tmp 0))), none⟩, ⟨(some 91), (.q (.move (.tmp 6))), none⟩, ⟨(some 92), (.q (.idxSl 3 (.tmp 90) (.tmp 91))), none⟩, ⟨(some 93), (.q (.loadr true 3 (.tmp 92))), none⟩, ⟨(some 7), (.q (.move (.const .top))), none⟩, ⟨(some 8), (.q (.move (.const .top))), none⟩, ⟨(some 7), (.s (.put 109 3 (.tmp 89))), none⟩, ⟨(some 8), (.s (.put 109 3 (.tmp 93))), none⟩]) 
    (.seq 
    (.region [⟨(some 94), (.q (.fieldAddr 0 (.tmp 7))), none⟩, ⟨(some 95), (.q (.load false 1 (.tmp 94))), none⟩, ⟨(some 96), (.q (.fieldAddr 0 (.tmp 8))), none⟩, ⟨(some 97), (.q (.load false 1 (.tmp 96))), none⟩, ⟨(some 98), (.q (.bin .eql (.tmp 95) (.tmp 97))), none⟩, ⟨(some 99), (.q (.move (.tmp 98))), none⟩, ⟨(some 100), (.q (.fieldAddr 1 (.tmp 7))), (some (99, false))⟩, ⟨(some 101), (.q (.load false 1 (.tmp 100))), (some (99, false))⟩, ⟨(some 102), (.q (.fieldAddr 1 (.tmp 8))), (some (99, false))⟩, ⟨(some 103), (.q (.load false 1 (.tmp 102))), (some (99, false))⟩, ⟨(some 104), (.q (.fieldAddr 2 (.tmp 8))), (some (99, false))⟩, ⟨(some 105), (.q (.load false 1 (.tmp 104))), (some (99, false))⟩, ⟨(some 106), (.q (.bin .add (.tmp 103) (.tmp 105))), (some (99, false))⟩, ⟨(some 107), (.q (.bin .lss (.tmp 101) (.tmp 106))), (some (99, false))⟩, ⟨(some 108), (.q (.move (.tmp 107))), (some (99, false))⟩, ⟨(some 109), (.q (.fieldAddr 1 (.tmp 8))), (some (108, true))⟩, ⟨(some 110), (.q (.load false 1 (.tmp 109))), (some (108, true))⟩, ⟨(some 111), (.q (.fieldAddr 1 (.tmp 7))), (some (108, true))⟩, ⟨(some 112), (.q (.load false 1 (.tmp 111))), (some (108, true))⟩, ⟨(some 113), (.q (.fieldAddr 2 (.tmp 7))), (some (108, true))⟩, ⟨(some 114), (.q (.load false 1 (.tmp 113))), (some (108, true))⟩, ⟨(some 115), (.q (.bin .add (.tmp 112) (.tmp 114))), (some (108, true))⟩, ⟨(some 116), (.q (.bin .lss (.tmp 110) (.tmp 115))), (some (108, true))⟩, ⟨(some 117), (.q (.pick (.tmp 108) (.tmp 116) (.const (.bool false)))), (some (99, false))⟩, ⟨(some 118), (.q (.pick (.tmp 99) (.const (.bool true)) (.tmp 117))), none⟩]) 
    (.cond (.tmp 118) 
    (.seq 
    (.region [⟨(some 2), (.q (.move (.const (.int .i64 12)))), none⟩]) .ret) .skip)))) 
    (.region [⟨(some 84), (.q (.move (.tmp 6))), none⟩, ⟨(some 85), (.q (.bin .add (.tmp 84) (.const (.int .i64 1)))), none⟩, ⟨(some 6), (.q (.move (.tmp 85))), none⟩]))))))) 
    (.region [⟨(some 79), (.q (.move (.tmp 5))), none⟩, ⟨(some 80), (.q (.bin .add (.tmp 79) (.const (.int .i64 1)))), none⟩, ⟨(some 5), (.q (.move (.tmp 80))), none⟩])))))) 
    (.seq 
    (.region [⟨(some 2), (.q (.move (.const (.int .i64 0)))), none⟩]) .ret))))))
theorem t67 : Told Try.prog 67 119 c67 [(.tmp 2)] := ⟨Try.f67, _, [], Try.func67, rfl, by kernel_rfl, rfl, by kernel_rfl, by kernel_rfl⟩
def c70 : ACode := 
    (.seq 
    (.region [⟨(some 4), (.s (.alloc 109 [(.str (B [])), (.int .i64 0), (.int .i64 0)])), none⟩, ⟨(some 5), (.q (.move (.const (.bool false)))), none⟩]) 
    (.seq 
    (.seq 
    (.region [⟨(some 6), (.q (.move (.const (.int .i64 0)))), none⟩]) 
    (.block 0 
    (.loop 
    (.seq 
    (.seq 
    (.region [⟨(some 7), (.q (.move (.tmp 6))), none⟩, ⟨(some 8), (.q (.move (.tmp 0))), none⟩, ⟨(some 9), (.q (.len false (.tmp 8))), none⟩, ⟨(some 10), (.q (.bin .lss (.tmp 7) (.tmp 9))), none⟩]) 
    (.cond (.tmp 10) .skip (.exit 0))) 
    (.seq 
    (.block 1 
    (.seq 
    (.region [⟨(some 13), (.q (.move (.tmp 0))), none⟩, ⟨(some 14), (.q (.move (.tmp 6))), none⟩, ⟨(some 15), (.q (.idxSl 3 (.tmp 13) (.tmp 14))), none⟩, ⟨(some 16), (.q (.fieldAddr 0 (.tmp 15))), none⟩, ⟨(some 17), (.q (.load false 1 (.tmp 16))), none⟩, ⟨(some 18), (.q (.move (.tmp 1))), none⟩, ⟨(some 19), (.q (.bin .eql (.tmp 17) (.tmp 18))), none⟩]) 
    (.cond (.tmp 19) 
    (.seq 
    (.region [⟨(some 20), (.q (.move (.tmp 0))), none⟩, ⟨(some 21), (.q (.move (.tmp 6))), none⟩, ⟨(some 22), (.q (.idxSl 3 (.tmp 20) (.tmp 21))), none⟩, ⟨(some 23), (.q (.load true 3 (.tmp 22))), none⟩, ⟨none, (.s (.store 3 (.tmp 4) (.tmp 23))), none⟩, ⟨(some 5), (.q (.move (.const (.bool true)))), none⟩]) .ret) .skip))) 
    (.region [⟨(some 11), (.q (.move (.tmp 6))), none⟩, ⟨(some 12), (.q (.bin .add (.tmp 11) (.const (.int .i64 1)))), none⟩, ⟨(some 6), (.q (.move (.tmp 12))), none⟩])))))) 
    (.seq 
    (.region [⟨(some 24), (.q (.build [(.str (B [])), (.int .i64 0), (.int .i64 0)] [])), none⟩, ⟨none, (.s (.store 3 (.tmp 4) (.tmp 24))), none⟩, ⟨(some 5), (.q (.move (.const (.bool false)))), none⟩]) .ret)))
theorem t70 : Told Try.prog 70 25 c70 [(.cell 4 true 3), (.tmp 5)] := ⟨Try.f70, _, [], Try.func70, rfl, by kernel_rfl, rfl, by kernel_rfl, by kernel_rfl⟩
def c74 : ACode := 
    (.seq 
    (.region [⟨(some 4), (.q (.move (.const .nils))), none⟩]) 
    (.seq 
    (.region [⟨(some 5), (.q (.move (.const .nils))), none⟩]) 
    (.seq 
    (.seq 
    (.region [⟨(some 6), (.q (.move (.const (.int .i64 0)))), none⟩]) 
    (.block 0 
    (.loop 
    (.seq 
    (.seq 
    (.region [⟨(some 10), (.q (.move (.tmp 6))), none⟩, ⟨(some 11), (.q (.move (.tmp 1))), none⟩, ⟨(some 12), (.q (.len false (.tmp 11))), none⟩, ⟨(some 13), (.q (.bin .lss (.tmp 10) (.tmp 12))), none⟩]) 
    (.cond (.tmp 13) .skip (.exit 0))) 
    (.seq 
    (.block 1 
    (.seq 
    (.region [⟨(some 17), (.q (.move (.tmp 0))), none⟩, ⟨(some 18), (.q (.move (.tmp 1))), none⟩, ⟨(some 19), (.q (.move (.tmp 6))), none⟩, ⟨(some 20), (.q (.idxSl 1 (.tmp 18) (.tmp 19))), none⟩, ⟨(some 21), (.q (.load false 1 (.tmp 20))), none⟩, ⟨(some 22), (.s (.call 70 [(.tmp 17), (.tmp 21)])), none⟩, ⟨(some 16), (.q (.move (.tmp 22))), none⟩, ⟨(some 23), (.q (.extract 0 (.tmp 16))), none⟩, ⟨(some 24), (.q (.extract 1 (.tmp 16))), none⟩, ⟨(some 7), (.s (.alloc 109 [(.str (B [])), (.int .i64 0), (.int .i64 0)])), none⟩, ⟨none, (.s (.store 3 (.tmp 7) (.tmp 23))), none⟩, ⟨(some 8), (.q (.move (.tmp 24))), none⟩]) 
    (.seq 
    (.region [⟨(some 9), (.q (.move (.const (.int .i64 0)))), none⟩]) 
    (.block 2 
    (.loop 
    (.seq 
    (.seq 
    (.region [⟨(some 25), (.q (.move (.tmp 9))), none⟩, ⟨(some 26), (.q (.fieldAddr 2 (.tmp 7))), none⟩, ⟨(some 27), (.q (.load false 1 (.tmp 26))), none⟩, ⟨(some 28), (.q (.bin .lss (.tmp 25) (.tmp 27))), none⟩]) 
    (.cond (.tmp 28) .skip (.exit 2))) 
    (.seq 
    (.block 3 
    (.region [⟨(some 31), (.q (.move (.tmp 5))), none⟩, ⟨(some 32), (.q (.fieldAddr 1 (.tmp 7))), none⟩, ⟨(some 33), (.q (.load false 1 (.tmp 32))), none⟩, ⟨(some 34), (.q (.move (.tmp 9))), none⟩, ⟨(some 35), (.q (.bin .add (.tmp 33) (.tmp 34))), none⟩, ⟨(some 36), (.s (.lit 3 1 [(.tmp 35)])), none⟩, ⟨(some 37), (.s (.app 3 1 8 (.tmp 31) (.tmp 36))), none⟩, ⟨(some 5), (.q (.move (.tmp 37))), none⟩])) 
    (.region [⟨(some 29), (.q (.move (.tmp 9))), none⟩, ⟨(some 30), (.q (.bin .add (.tmp 29) (.const (.int .i64 1)))), none⟩, ⟨(some 9), (.q (.move (.tmp 30))), none⟩])))))))) 
    (.region [⟨(some 14), (.q (.move (.tmp 6))), none⟩, ⟨(some 15), (.q (.bin .add (.tmp 14) (.const (.int .i64 1)))), none⟩, ⟨(some 6), (.q (.move (.tmp 15))), none⟩])))))) 
    (.seq 
    (.region [⟨(some 38), (.q (.move (.tmp 5))), none⟩, ⟨(some 4), (.q (.move (.tmp 38))), none⟩]) .ret))))
theorem t74 : Told Try.prog 74 39 c74 [(.tmp 4)] := ⟨Try.f74, _, [], Try.func74, rfl, by kernel_rfl, rfl, by kernel_rfl, by kernel_rfl⟩
def c72 : ACode := 
    (.seq 
    (.region [⟨(some 4), (.q (.move (.const (.bool false)))), none⟩]) 
    (.seq 
    (.seq 
    (.region [⟨(some 6), (.q (.move (.tmp 0))), none⟩, ⟨(some 7), (.q (.len false (.tmp 6))), none⟩, ⟨(some 8), (.q (.move (.tmp 1))), none⟩, ⟨(some 9), (.q (.len false (.tmp 8))), none⟩, ⟨(some 10), (.q (.bin .neq (.tmp 7) (.tmp 9))), none⟩]) 
    (.cond (.tmp 10) 
    (.seq 
    (.region [⟨(some 4), (.q (.move (.const (.bool false)))), none⟩]) .ret) .skip)) 
    (.seq 
    (.seq 
    (.region [⟨(some 5), (.q (.move (.const (.int .i64 0)))), none⟩]) 
    (.block 0 
    (.loop 
    (.seq 
    (.seq 
    (.region [⟨(some 11), (.q (.move (.tmp 5))), none⟩, ⟨(some 12), (.q (.move (.tmp 0))), none⟩, ⟨(some 13), (.q (.len false (.tmp 12))), none⟩, ⟨(some 14), (.q (.bin .lss (.tmp 11) (.tmp 13))), none⟩, ⟨(some 15), (.q (.move (.tmp 14))), none⟩, ⟨(some 16), (.q (.move (.tmp 5))), (some (15, true))⟩, ⟨(some 17), (.q (.move (.tmp 1))), (some (15, true))⟩, ⟨(some 18), (.q (.len false (.tmp 17))), (some (15, true))⟩, ⟨(some 19), (.q (.bin .lss (.tmp 16) (.tmp 18))), (some (15, true))⟩, ⟨(some 20), (.q (.pick (.tmp 15) (.tmp 19) (.const (.bool false)))), none⟩]) 
    (.cond (.tmp 20) .skip (.exit 0))) 
    (.seq 
    (.block 1 
    (.seq 
    (.region [⟨(some 23), (.q (.move (.tmp 0))), none⟩, ⟨(some 24), (.q (.move (.tmp 5))), none⟩, ⟨(some 25), (.q (.idxSl 3 (.tmp 23) (.tmp 24))), none⟩, ⟨(some 26), (.q (.load true 3 (.tmp 25))), none⟩, ⟨(some 27), (.q (.move (.tmp 1))), none⟩, ⟨(some 28), (.q (.move (.tmp 5))), none⟩, ⟨(some 29), (.q (.idxSl 3 (.tmp 27) (.tmp 28))), none⟩, ⟨(some 30), (.q (.load true 3 (.tmp 29))), none⟩, ⟨(some 31), (.q 
    (.seq [.s, (.i .i64), (.i .i64)] true (.tmp 26) (.tmp 30))), none⟩]) 
    (.cond (.tmp 31) 
    (.seq 
    (.region [⟨(some 4), (.q (.move (.const (.bool false)))), none⟩]) .ret) .skip))) 
    (.region [⟨(some 21), (.q (.move (.tmp 5))), none⟩, ⟨(some 22), (.q (.bin .add (.tmp 21) (.const (.int .i64 1)))), none⟩, ⟨(some 5), (.q (.move (.tmp 22))), none⟩])))))) 
    (.seq 
    (.region [⟨(some 4), (.q (.move (.const (.bool true)))), none⟩]) .ret))))
theorem t72 : Told Try.prog 72 32 c72 [(.tmp 4)] := ⟨Try.f72, _, [], Try.func72, rfl, by kernel_rfl, rfl, by kernel_rfl, by kernel_rfl⟩
def c64 : ACode := 
    (.seq 
    (.region [⟨(some 2), (.q (.move (.const (.bool false)))), none⟩]) 
    (.seq 
    (.seq 
    (.region [⟨(some 3), (.q (.move (.const (.int .i64 0)))), none⟩]) 
    (.block 0 
    (.loop 
    (.seq 
    (.seq 
    (.region [⟨(some 4), (.q (.move (.tmp 3))), none⟩, ⟨(some 5), (.q (.move (.tmp 0))), none⟩, ⟨(some 6), (.q (.len false (.tmp 5))), none⟩, ⟨(some 7), (.q (.bin .lss (.tmp 4) (.tmp 6))), none⟩, ⟨(some 8), (.q (.move (.tmp 7))), none⟩, ⟨(some 9), (.q (.move (.tmp 3))), (some (8, true))⟩, ⟨(some 10), (.q (.bin .lss (.tmp 9) (.const (.int .i64 20)))), (some (8, true))⟩, ⟨(some 11), (.q (.pick (.tmp 8) (.tmp 10) (.const (.bool false)))), none⟩]) 
    (.cond (.tmp 11) .skip (.exit 0))) 
    (.seq 
    (.block 1 
    (.seq 
    (.region [⟨(some 14), (.q (.move (.tmp 0))), none⟩, ⟨(some 15), (.q (.move (.tmp 3))), none⟩, ⟨(some 16), (.q (.idxSl 3 (.tmp 14) (.tmp 15))), none⟩, ⟨(some 17), (.q (.fieldAddr 0 (.tmp 16))), none⟩, ⟨(some 18), (.q (.load false 1 (.tmp 17))), none⟩, ⟨(some 19), (.q (.len true (.tmp 18))), none⟩, ⟨(some 20), (.q (.bin .gtr (.tmp 19) (.const (.int .i64 100)))), none⟩]) 
    (.cond (.tmp 20) 
    (.seq 
    (.region [⟨(some 2), (.q (.move (.const (.bool false)))), none⟩]) .ret) .skip))) 
    (.region [⟨(some 12), (.q (.move (.tmp 3))), none⟩, ⟨(some 13), (.q (.bin .add (.tmp 12) (.const (.int .i64 1)))), none⟩, ⟨(some 3), (.q (.move (.tmp 13))), none⟩])))))) 
    (.seq 
    (.region [⟨(some 21), (.q (.move (.tmp 0))), none⟩, ⟨(some 22), (.q (.len false (.tmp 21))), none⟩, ⟨(some 23), (.q (.bin .leq (.tmp 22) (.const (.int .i64 20)))), none⟩, ⟨(some 2), (.q (.move (.tmp 23))), none⟩]) .ret)))
theorem t64 : Told Try.prog 64 24 c64 [(.tmp 2)] := ⟨Try.f64, _, [], Try.func64, rfl, by kernel_rfl, rfl, by kernel_rfl, by kernel_rfl⟩
def c24 : ACode := 
    (.seq 
    (.region [⟨(some 4), (.q (.move (.const (.bool false)))), none⟩]) 
    (.seq 
    (.seq 
    (.region [⟨(some 6), (.q (.move (.tmp 0))), none⟩, ⟨(some 7), (.q (.len false (.tmp 6))), none⟩, ⟨(some 8), (.q (.move (.tmp 1))), none⟩, ⟨(some 9), (.q (.len false (.tmp 8))), none⟩, ⟨(some 10), (.q (.bin .neq (.tmp 7) (.tmp 9))), none⟩]) 
    (.cond (.tmp 10) 
    (.seq 
    (.region [⟨(some 4), (.q (.move (.const (.bool false)))), none⟩]) .ret) .skip)) 
    (.seq 
    (.seq 
    (.region [⟨(some 5), (.q (.move (.const (.int .i64 0)))), none⟩]) 
    (.block 0 
    (.loop 
    (.seq 
    (.seq 
    (.region [⟨(some 11), (.q (.move (.tmp 5))), none⟩, ⟨(some 12), (.q (.move (.tmp 0))), none⟩, ⟨(some 13), (.q (.len false (.tmp 12))), none⟩, ⟨(some 14), (.q (.bin .lss (.tmp 11) (.tmp 13))), none⟩, ⟨(some 15), (.q (.move (.tmp 14))), none⟩, ⟨(some 16), (.q (.move (.tmp 5))), (some (15, true))⟩, ⟨(some 17), (.q (.move (.tmp 1))), (some (15, true))⟩, ⟨(some 18), (.q (.len false (.tmp 17))), (some (15, true))⟩, ⟨(some 19), (.q (.bin .lss (.tmp 16) (.tmp 18))), (some (15, true))⟩, ⟨(some 20), (.q (.pick (.tmp 15) (.tmp 19) (.const (.bool false)))), none⟩]) 
    (.cond (.tmp 20) .skip (.exit 0))) 
    (.seq 
    (.block 1 
    (.seq 
    (.region [⟨(some 23), (.q (.move (.tmp 0))), none⟩, ⟨(some 24), (.q (.move (.tmp 5))), none⟩, ⟨(some 25), (.q (.idxSl 1 (.tmp 23) (.tmp 24))), none⟩, ⟨(some 26), (.q (.load false 1 (.tmp 25))), none⟩, ⟨(some 27), (.q (.move (.tmp 1))), none⟩, ⟨(some 28), (.q (.move (.tmp 5))), none⟩, ⟨(some 29), (.q (.idxSl 1 (.tmp 27) (.tmp 28))), none⟩, ⟨(some 30), (.q (.load false 1 (.tmp 29))), none⟩, ⟨(some 31), (.q (.bin .neq (.tmp 26) (.tmp 30))), none⟩]) 
    (.cond (.tmp 31) 
    (.seq 
    (.region [⟨(some 4), (.q (.move (.const (.bool false)))), none⟩]) .ret) .skip))) 
    (.region [⟨(some 21), (.q (.move (.tmp 5))), none⟩, ⟨(some 22), (.q (.bin .add (.tmp 21) (.const (.int .i64 1)))), none⟩, ⟨(some 5), (.q (.move (.tmp 22))), none⟩])))))) 
    (.seq 
    (.region [⟨(some 4), (.q (.move (.const (.bool true)))), none⟩]) .ret))))
theorem t24 : Told Try.prog 24 32 c24 [(.tmp 4)] := ⟨Try.f24, _, [], Try.func24, rfl, by kernel_rfl, rfl, by kernel_rfl, by kernel_rfl⟩
def c65 : ACode := 
    (.seq 
    (.region [⟨(some 0), (.q (.move (.const (.bool false)))), none⟩]) 
    (.seq 
    (.region [⟨(some 10), (.q (.build [(.str (B [])), (.int .i64 0), (.int .i64 0)] [(0, (1, (.const (.str (B [97]))))), (1, (1, (.const (.int .i64 4)))), (2, (1, (.const (.int .i64 2))))])), none⟩, ⟨(some 11), (.q (.build [(.str (B [])), (.int .i64 0), (.int .i64 0)] [(0, (1, (.const (.str (B [98]))))), (1, (1, (.const (.int .i64 6)))), (2, (1, (.const (.int .i64 1))))])), none⟩, ⟨(some 12), (.s (.lit 109 3 [(.tmp 10), (.tmp 11)])), none⟩, ⟨(some 13), (.s (.call 66 [(.tmp 12)])), none⟩, ⟨(some 9), (.q (.move (.tmp 13))), none⟩, ⟨(some 14), (.q (.extract 0 (.tmp 9))), none⟩, ⟨(some 15), (.q (.extract 1 (.tmp 9))), none⟩, ⟨(some 1), (.q (.move (.tmp 14))), none⟩, ⟨(some 2), (.q (.move (.tmp 15))), none⟩]) 
    (.seq 
    (.region [⟨(some 17), (.q (.build [(.str (B [])), (.int .i64 0), (.int .i64 0)] [(0, (1, (.const (.str (B [97]))))), (1, (1, (.const (.int .i64 4)))), (2, (1, (.const (.int .i64 2))))])), none⟩, ⟨(some 18), (.q (.build [(.str (B [])), (.int .i64 0), (.int .i64 0)] [(0, (1, (.const (.str (B [98]))))), (1, (1, (.const (.int .i64 5)))), (2, (1, (.const (.int .i64 1))))])), none⟩, ⟨(some 19), (.s (.lit 109 3 [(.tmp 17), (.tmp 18)])), none⟩, ⟨(some 20), (.s (.call 66 [(.tmp 19)])), none⟩, ⟨(some 16), (.q (.move (.tmp 20))), none⟩, ⟨(some 21), (.q (.extract 0 (.tmp 16))), none⟩, ⟨(some 22), (.q (.extract 1 (.tmp 16))), none⟩, ⟨(some 3), (.q (.move (.tmp 21))), none⟩, ⟨(some 4), (.q (.move (.tmp 22))), none⟩]) 
    (.seq 
    (.region [⟨(some 23), (.s (.call 37 [])), none⟩, ⟨(some 24), (.s (.call 61 [(.tmp 23), (.const .nils)])), none⟩, ⟨(some 5), (.q (.move (.tmp 24))), none⟩]) 
    (.seq 
    (.region [⟨(some 25), (.q (.move (.tmp 1))), none⟩, ⟨(some 26), (.q (.move (.tmp 5))), none⟩, ⟨(some 27), (.s (.call 128 [(.tmp 25), (.tmp 26), (.const (.str (B [97]))), (.const (.int .i64 1023)), (.const (.str (B [120])))])), none⟩, ⟨(some 6), (.q (.move (.tmp 27))), none⟩]) 
    (.seq 
    (.region [⟨(some 29), (.q (.move (.tmp 5))), none⟩, ⟨(some 30), (.s (.call 124 [(.tmp 29), (.const (.int .i64 3071)), (.const (.int .i64 1))])), none⟩, ⟨(some 28), (.q (.move (.tmp 30))), none⟩, ⟨(some 31), (.q (.extract 0 (.tmp 28))), none⟩, ⟨(some 32), (.q (.extract 1 (.tmp 28))), none⟩, ⟨(some 7), (.q (.move (.tmp 31))), none⟩, ⟨(some 8), (.q (.move (.tmp 32))), none⟩]) 
    (.seq 
    (.region [⟨(some 33), (.q (.move (.tmp 2))), none⟩, ⟨(some 34), (.q (.bin .eql (.tmp 33) (.const (.int .i64 0)))), none⟩, ⟨(some 35), (.q (.move (.tmp 34))), none⟩, ⟨(some 36), (.q (.move (.tmp 4))), (some (35, true))⟩, ⟨(some 37), (.q (.bin .eql (.tmp 36) (.const (.int .i64 12)))), (some (35, true))⟩, ⟨(some 38), (.q (.pick (.tmp 35) (.tmp 37) (.const (.bool false)))), none⟩, ⟨(some 39), (.q (.move (.tmp 38))), none⟩, ⟨(some 40), (.q (.move (.tmp 6))), (some (39, true))⟩, ⟨(some 41), (.q (.bin .eql (.tmp 40) (.const (.int .i64 0)))), (some (39, true))⟩, ⟨(some 42), (.q (.pick (.tmp 39) (.tmp 41) (.const (.bool false)))), none⟩, ⟨(some 43), (.q (.move (.tmp 42))), none⟩, ⟨(some 44), (.q (.move (.tmp 7))), (some (43, true))⟩, ⟨(some 45), (.q (.bin .eql (.tmp 44) (.const (.str (B [120]))))), (some (43, true))⟩, ⟨(some 46), (.q (.pick (.tmp 43) (.tmp 45) (.const (.bool false)))), none⟩, ⟨(some 47), (.q (.move (.tmp 46))), none⟩, ⟨(some 48), (.q (.move (.tmp 8))), (some (47, true))⟩, ⟨(some 49), (.q (.bin .eql (.tmp 48) (.const (.int .i64 0)))), (some (47, true))⟩, ⟨(some 50), (.q (.pick (.tmp 47) (.tmp 49) (.const (.bool false)))), none⟩, ⟨(some 51), (.q (.move (.tmp 50))), none⟩, ⟨(some 52), (.q (.move (.tmp 1))), (some (51, true))⟩, ⟨(some 53), (.s (.call 71 [(.tmp 52), (.const (.str (B [97])))])), (some (51, true))⟩, ⟨(some 54), (.q (.bin .eql (.tmp 53) (.const (.int .i64 1024)))), (some (51, true))⟩, ⟨(some 55), (.q (.pick (.tmp 51) (.tmp 54) (.const (.bool false)))), none⟩, ⟨(some 56), (.q (.move (.tmp 55))), none⟩, ⟨(some 57), (.q (.move (.tmp 1))), (some (56, true))⟩, ⟨(some 58), (.s (.lit 9 1 [(.const (.str (B [98]))), (.const (.str (B [97])))])), (some (56, true))⟩, ⟨(some 59), (.s (.call 73 [(.tmp 57), (.tmp 58)])), (some (56, true))⟩, ⟨(some 60), (.s (.lit 3 1 [(.const (.int .i64 6)), (.const (.int .i64 4)), (.const (.int .i64 5))])), (some (56, true))⟩, ⟨(some 61), (.s (.call 24 [(.tmp 59), (.tmp 60)])), (some (56, true))⟩, ⟨(some 62), (.q (.pick (.tmp 56) (.tmp 61) (.const (.bool false)))), none⟩, ⟨(some 63), (.q (.move (.tmp 62))), none⟩, ⟨(some 64), (.q (.move (.tmp 1))), (some (63, true))⟩, ⟨(some 65), (.q (.move (.tmp 5))), (some (63, true))⟩, ⟨(some 66), (.s (.call 129 [(.tmp 64), (.tmp 65), (.const (.str (B [98]))), (.const (.int .i64 1))])), (some (63, true))⟩, ⟨(some 67), (.q (.bin .eql (.tmp 66) (.const (.int .i64 2)))), (some (63, true))⟩, ⟨(some 68), (.q (.pick (.tmp 63) (.tmp 67) (.const (.bool false)))), none⟩, ⟨(some 69), (.q (.move (.tmp 68))), none⟩, ⟨(some 70), (.q (.move (.tmp 1))), (some (69, true))⟩, ⟨(some 71), (.q (.move (.tmp 5))), (some (69, true))⟩, ⟨(some 72), (.s (.call 128 [(.tmp 70), (.tmp 71), (.const (.str (B [99]))), (.const (.int .i64 0)), (.const (.str (B [])))])), (some (69, true))⟩, ⟨(some 73), (.q (.bin .eql (.tmp 72) (.const (.int .i64 8)))), (some (69, true))⟩, ⟨(some 74), (.q (.pick (.tmp 69) (.tmp 73) (.const (.bool false)))), none⟩, ⟨(some 0), (.q (.move (.tmp 74))), none⟩]) .ret)))))))
theorem t65 : Told Try.prog 65 75 c65 [(.tmp 0)] := ⟨Try.f65, _, [], Try.func65, rfl, by kernel_rfl, rfl, by kernel_rfl, by kernel_rfl⟩
def c14 : ACode := 
    (.seq 
    (.region [⟨(some 4), (.q (.move (.const (.bool false)))), none⟩]) 
    (.seq 
    (.seq 
    (.region [⟨(some 12), (.q (.move (.tmp 0))), none⟩, ⟨(some 13), (.s (.call 64 [(.tmp 12)])), none⟩, ⟨(some 14), (.q (.un .not (.tmp 13))), none⟩, ⟨(some 15), (.q (.move (.tmp 14))), none⟩, ⟨(some 16), (.q (.move (.tmp 1))), (some (15, false))⟩, ⟨(some 17), (.q (.len false (.tmp 16))), (some (15, false))⟩, ⟨(some 18), (.q (.bin .gtr (.tmp 17) (.const (.int .i64 20)))), (some (15, false))⟩, ⟨(some 19), (.q (.pick (.tmp 15) (.const (.bool true)) (.tmp 18))), none⟩]) 
    (.cond (.tmp 19) 
    (.seq 
    (.region [⟨(some 20), (.s (.call 65 [])), none⟩, ⟨(some 4), (.q (.move (.tmp 20))), none⟩]) .ret) .skip)) 
    (.seq 
    (.region [⟨(some 22), (.q (.move (.tmp 0))), none⟩, ⟨(some 23), (.s (.call 66 [(.tmp 22)])), none⟩, ⟨(some 21), (.q (.move (.tmp 23))), none⟩, ⟨(some 24), (.q (.extract 0 (.tmp 21))), none⟩, ⟨(some 25), (.q (.extract 1 (.tmp 21))), none⟩, ⟨(some 5), (.q (.move (.tmp 24))), none⟩, ⟨(some 6), (.q (.move (.tmp 25))), none⟩]) 
    (.seq 
    (.seq 
    (.region [⟨(some 26), (.q (.move (.tmp 6))), none⟩, ⟨(some 27), (.q (.move (.tmp 0))), none⟩, ⟨(some 28), (.s (.call 67 [(.tmp 27)])), none⟩, ⟨(some 29), (.q (.bin .neq (.tmp 26) (.tmp 28))), none⟩, ⟨(some 30), (.q (.move (.tmp 29))), none⟩, ⟨(some 31), (.q (.move (.tmp 6))), (some (30, false))⟩, ⟨(some 32), (.q (.bin .neq (.tmp 31) (.const (.int .i64 0)))), (some (30, false))⟩, ⟨(some 33), (.q (.move (.tmp 32))), (some (30, false))⟩, ⟨(some 34), (.q (.move (.tmp 5))), (some (33, true))⟩, ⟨(some 35), (.q (.nil .ptr true (.tmp 34) (.const .nilp))), (some (33, true))⟩, ⟨(some 36), (.q (.pick (.tmp 33) (.tmp 35) (.const (.bool false)))), (some (30, false))⟩, ⟨(some 37), (.q (.pick (.tmp 30) (.const (.bool true)) (.tmp 36))), none⟩]) 
    (.cond (.tmp 37) 
    (.seq 
    (.region [⟨(some 4), (.q (.move (.const (.bool false)))), none⟩]) .ret) .skip)) 
    (.seq 
    (.seq 
    (.region [⟨(some 38), (.q (.move (.tmp 6))), none⟩, ⟨(some 39), (.q (.bin .neq (.tmp 38) (.const (.int .i64 0)))), none⟩]) 
    (.cond (.tmp 39) 
    (.seq 
    (.region [⟨(some 40), (.q (.move (.tmp 5))), none⟩, ⟨(some 41), (.s (.call 68 [(.tmp 40)])), none⟩, ⟨(some 42), (.q (.len false (.tmp 41))), none⟩, ⟨(some 43), (.q (.bin .eql (.tmp 42) (.const (.int .i64 0)))), none⟩, ⟨(some 44), (.q (.move (.tmp 43))), none⟩, ⟨(some 45), (.s (.call 65 [])), (some (44, true))⟩, ⟨(some 46), (.q (.pick (.tmp 44) (.tmp 45) (.const (.bool false)))), none⟩, ⟨(some 4), (.q (.move (.tmp 46))), none⟩]) .ret) .skip)) 
    (.seq 
    (.seq 
    (.region [⟨(some 7), (.q (.move (.const (.int .i64 0)))), none⟩]) 
    (.block 0 
    (.loop 
    (.seq 
    (.seq 
    (.region [⟨(some 47), (.q (.move (.tmp 7))), none⟩, ⟨(some 48), (.q (.move (.tmp 1))), none⟩, ⟨(some 49), (.q (.len false (.tmp 48))), none⟩, ⟨(some 50), (.q (.bin .lss (.tmp 47) (.tmp 49))), none⟩]) 
    (.cond (.tmp 50) .skip (.exit 0))) 
    (.seq 
    (.block 1 
    (.seq 
    (.region [⟨(some 54), (.q (.move (.tmp 5))), none⟩, ⟨(some 55), (.q (.move (.tmp 1))), none⟩, ⟨(some 56), (.q (.move (.tmp 7))), none⟩, ⟨(some 57), (.q (.idxSl 1 (.tmp 55) (.tmp 56))), none⟩, ⟨(some 58), (.q (.load false 1 (.tmp 57))), none⟩, ⟨(some 59), (.s (.call 69 [(.tmp 54), (.tmp 58)])), none⟩, ⟨(some 53), (.q (.move (.tmp 59))), none⟩, ⟨(some 60), (.q (.extract 0 (.tmp 53))), none⟩, ⟨(some 61), (.q (.extract 1 (.tmp 53))), none⟩, ⟨(some 8), (.s (.alloc 109 [(.str (B [])), (.int .i64 0), (.int .i64 0)])), none⟩, ⟨none, (.s (.store 3 (.tmp 8) (.tmp 60))), none⟩, ⟨(some 9), (.q (.move (.tmp 61))), none⟩]) 
    (.seq 
    (.region [⟨(some 63), (.q (.move (.tmp 0))), none⟩, ⟨(some 64), (.q (.move (.tmp 1))), none⟩, ⟨(some 65), (.q (.move (.tmp 7))), none⟩, ⟨(some 66), (.q (.idxSl 1 (.tmp 64) (.tmp 65))), none⟩, ⟨(some 67), (.q (.load false 1 (.tmp 66))), none⟩, ⟨(some 68), (.s (.call 70 [(.tmp 63), (.tmp 67)])), none⟩, ⟨(some 62), (.q (.move (.tmp 68))), none⟩, ⟨(some 69), (.q (.extract 0 (.tmp 62))), none⟩, ⟨(some 70), (.q (.extract 1 (.tmp 62))), none⟩, ⟨(some 10), (.s (.alloc 109 [(.str (B [])), (.int .i64 0), (.int .i64 0)])), none⟩, ⟨none, (.s (.store 3 (.tmp 10) (.tmp 69))), none⟩, ⟨(some 11), (.q (.move (.tmp 70))), none⟩]) 
    (.seq 
    (.region [⟨(some 71), (.q (.load true 3 (.tmp 8))), none⟩, ⟨(some 72), (.q (.load true 3 (.tmp 10))), none⟩, ⟨(some 73), (.q 
    (.seq [.s, (.i .i64), (.i .i64)] true (.tmp 71) (.tmp 72))), none⟩, ⟨(some 74), (.q (.move (.tmp 73))), none⟩, ⟨(some 75), (.q (.move (.tmp 9))), (some (74, false))⟩, ⟨(some 76), (.q (.move (.tmp 11))), (some (74, false))⟩, ⟨(some 77), (.q (.beq true (.tmp 75) (.tmp 76))), (some (74, false))⟩, ⟨(some 78), (.q (.pick (.tmp 74) (.const (.bool true)) (.tmp 77))), none⟩, ⟨(some 79), (.q (.move (.tmp 78))), none⟩, ⟨(some 80), (.q (.move (.tmp 5))), (some (79, false))⟩, ⟨(some 81), (.q (.move (.tmp 1))), (some (79, false))⟩, ⟨(some 82), (.q (.move (.tmp 7))), (some (79, false))⟩, ⟨(some 83), (.q (.idxSl 1 (.tmp 81) (.tmp 82))), (some (79, false))⟩, ⟨(some 84), (.q (.load false 1 (.tmp 83))), (some (79, false))⟩, ⟨(some 85), (.c (.fn 71) [(.tmp 80), (.tmp 84)]), (some (79, false))⟩, ⟨(some 86), (.q (.fieldAddr 2 (.tmp 10))), (some (79, false))⟩, ⟨(some 87), (.q (.load false 1 (.tmp 86))), (some (79, false))⟩, ⟨(some 88), (.q (.bin .mul (.tmp 87) (.const (.int .i64 512)))), (some (79, false))⟩, ⟨(some 89), (.q (.bin .neq (.tmp 85) (.tmp 88))), (some (79, false))⟩, ⟨(some 90), (.q (.pick (.tmp 79) (.const (.bool true)) (.tmp 89))), none⟩]) 
    (.cond (.tmp 90) 
    (.seq 
    (.region [⟨(some 4), (.q (.move (.const (.bool false)))), none⟩]) .ret) .skip))))) 
    (.region [⟨(some 51), (.q (.move (.tmp 7))), none⟩, ⟨(some 52), (.q (.bin .add (.tmp 51) (.const (.int .i64 1)))), none⟩, ⟨(some 7), (.q (.move (.tmp 52))), none⟩])))))) 
    (.seq 
    (.region [⟨(some 91), (.q (.move (.tmp 5))), none⟩, ⟨(some 92), (.s (.call 68 [(.tmp 91)])), none⟩, ⟨(some 93), (.q (.move (.tmp 0))), none⟩, ⟨(some 94), (.s (.call 72 [(.tmp 92), (.tmp 93)])), none⟩, ⟨(some 95), (.q (.move (.tmp 94))), none⟩, ⟨(some 96), (.q (.move (.tmp 5))), (some (95, true))⟩, ⟨(some 97), (.q (.move (.tmp 1))), (some (95, true))⟩, ⟨(some 98), (.s (.call 73 [(.tmp 96), (.tmp 97)])), (some (95, true))⟩, ⟨(some 99), (.q (.move (.tmp 0))), (some (95, true))⟩, ⟨(some 100), (.q (.move (.tmp 1))), (some (95, true))⟩, ⟨(some 101), (.s (.call 74 [(.tmp 99), (.tmp 100)])), (some (95, true))⟩, ⟨(some 102), (.s (.call 24 [(.tmp 98), (.tmp 101)])), (some (95, true))⟩, ⟨(some 103), (.q (.pick (.tmp 95) (.tmp 102) (.const (.bool false)))), none⟩, ⟨(some 104), (.q (.move (.tmp 103))), none⟩, ⟨(some 105), (.s (.call 65 [])), (some (104, true))⟩, ⟨(some 106), (.q (.pick (.tmp 104) (.tmp 105) (.const (.bool false)))), none⟩, ⟨(some 4), (.q (.move (.tmp 106))), none⟩]) .ret)))))))
theorem t14 : Told Try.prog 14 107 c14 [(.tmp 4)] := ⟨Try.f14, _, [], Try.func14, rfl, by kernel_rfl, rfl, by kernel_rfl, by kernel_rfl⟩
end Go.Proofs.Ytblflecalomgfaa.AL

