/- Package part, its reference and its law: the code told. -/
import Derived.Test.YtfilheaaacffmaaQPartPlaysALA3
import Derived.Test.YtfilheaaacffmaaProg
import Derived.KernelRfl
set_option maxRecDepth 100000
namespace Go.Proofs.Ytfilheaaacffmaa.AL
open Go Go.Proofs
def c86 : ACode := 
    (.seq 
    (.region [⟨(some 1), (.s (.box 62 (.tmp 0))), none⟩, ⟨(some 2), (.q (.move (.const (.bool false)))), none⟩]) 
    (.seq 
    (.region [⟨(some 3), (.q (.fieldAddr 0 (.tmp 1))), none⟩, ⟨(some 4), (.q (.load false 1 (.tmp 3))), none⟩, ⟨(some 5), (.q (.bin .neq (.tmp 4) (.const (.str (B []))))), none⟩, ⟨(some 6), (.q (.move (.tmp 5))), none⟩, ⟨(some 7), (.q (.fieldAddr 0 (.tmp 1))), (some (6, true))⟩, ⟨(some 8), (.q (.load false 1 (.tmp 7))), (some (6, true))⟩, ⟨(some 9), (.q (.len true (.tmp 8))), (some (6, true))⟩, ⟨(some 10), (.q (.bin .leq (.tmp 9) (.const (.int .i64 31)))), (some (6, true))⟩, ⟨(some 11), (.q (.pick (.tmp 6) (.tmp 10) (.const (.bool false)))), none⟩, ⟨(some 2), (.q (.move (.tmp 11))), none⟩]) .ret))
theorem t86 : Told Try.prog 86 12 c86 [(.tmp 2)] := ⟨Try.f86, _, [], Try.func86, rfl, by kernel_rfl, rfl, by kernel_rfl, by kernel_rfl⟩
def c87 : ACode := 
    (.seq 
    (.region [⟨(some 1), (.s (.box 62 (.tmp 0))), none⟩, ⟨(some 2), (.q (.move (.const (.bool false)))), none⟩]) 
    (.seq 
    (.region [⟨(some 3), (.q (.fieldAddr 1 (.tmp 1))), none⟩, ⟨(some 4), (.q (.load false 1 (.tmp 3))), none⟩, ⟨(some 5), (.q (.bin .geq (.tmp 4) (.const (.int .i64 0)))), none⟩, ⟨(some 6), (.q (.move (.tmp 5))), none⟩, ⟨(some 7), (.q (.fieldAddr 1 (.tmp 1))), (some (6, true))⟩, ⟨(some 8), (.q (.load false 1 (.tmp 7))), (some (6, true))⟩, ⟨(some 9), (.q (.bin .leq (.tmp 8) (.const (.int .i64 48)))), (some (6, true))⟩, ⟨(some 10), (.q (.pick (.tmp 6) (.tmp 9) (.const (.bool false)))), none⟩, ⟨(some 11), (.q (.move (.tmp 10))), none⟩, ⟨(some 12), (.q (.fieldAddr 2 (.tmp 1))), (some (11, true))⟩, ⟨(some 13), (.q (.load false 1 (.tmp 12))), (some (11, true))⟩, ⟨(some 14), (.q (.bin .gtr (.tmp 13) (.const (.int .i64 0)))), (some (11, true))⟩, ⟨(some 15), (.q (.pick (.tmp 11) (.tmp 14) (.const (.bool false)))), none⟩, ⟨(some 16), (.q (.move (.tmp 15))), none⟩, ⟨(some 17), (.q (.fieldAddr 2 (.tmp 1))), (some (16, true))⟩, ⟨(some 18), (.q (.load false 1 (.tmp 17))), (some (16, true))⟩, ⟨(some 19), (.q (.fieldAddr 1 (.tmp 1))), (some (16, true))⟩, ⟨(some 20), (.q (.load false 1 (.tmp 19))), (some (16, true))⟩, ⟨(some 21), (.q (.bin .sub (.const (.int .i64 48)) (.tmp 20))), (some (16, true))⟩, ⟨(some 22), (.q (.bin .leq (.tmp 18) (.tmp 21))), (some (16, true))⟩, ⟨(some 23), (.q (.pick (.tmp 16) (.tmp 22) (.const (.bool false)))), none⟩, ⟨(some 2), (.q (.move (.tmp 23))), none⟩]) .ret))
theorem t87 : Told Try.prog 87 24 c87 [(.tmp 2)] := ⟨Try.f87, _, [], Try.func87, rfl, by kernel_rfl, rfl, by kernel_rfl, by kernel_rfl⟩
def c89 : ACode := 
    (.seq 
    (.region [⟨(some 2), (.s (.box 62 (.tmp 0))), none⟩, ⟨(some 3), (.s (.box 62 (.tmp 1))), none⟩, ⟨(some 4), (.q (.move (.const (.bool false)))), none⟩]) 
    (.seq 
    (.region [⟨(some 5), (.q (.fieldAddr 0 (.tmp 2))), none⟩, ⟨(some 6), (.q (.load false 1 (.tmp 5))), none⟩, ⟨(some 7), (.q (.fieldAddr 0 (.tmp 3))), none⟩, ⟨(some 8), (.q (.load false 1 (.tmp 7))), none⟩, ⟨(some 9), (.q (.bin .eql (.tmp 6) (.tmp 8))), none⟩, ⟨(some 10), (.q (.move (.tmp 9))), none⟩, ⟨(some 11), (.q (.fieldAddr 1 (.tmp 2))), (some (10, false))⟩, ⟨(some 12), (.q (.load false 1 (.tmp 11))), (some (10, false))⟩, ⟨(some 13), (.q (.fieldAddr 1 (.tmp 3))), (some (10, false))⟩, ⟨(some 14), (.q (.load false 1 (.tmp 13))), (some (10, false))⟩, ⟨(some 15), (.q (.fieldAddr 2 (.tmp 3))), (some (10, false))⟩, ⟨(some 16), (.q (.load false 1 (.tmp 15))), (some (10, false))⟩, ⟨(some 17), (.q (.bin .add (.tmp 14) (.tmp 16))), (some (10, false))⟩, ⟨(some 18), (.q (.bin .lss (.tmp 12) (.tmp 17))), (some (10, false))⟩, ⟨(some 19), (.q (.move (.tmp 18))), (some (10, false))⟩, ⟨(some 20), (.q (.fieldAddr 1 (.tmp 3))), (some (19, true))⟩, ⟨(some 21), (.q (.load false 1 (.tmp 20))), (some (19, true))⟩, ⟨(some 22), (.q (.fieldAddr 1 (.tmp 2))), (some (19, true))⟩, ⟨(some 23), (.q (.load false 1 (.tmp 22))), (some (19, true))⟩, ⟨(some 24), (.q (.fieldAddr 2 (.tmp 2))), (some (19, true))⟩, ⟨(some 25), (.q (.load false 1 (.tmp 24))), (some (19, true))⟩, ⟨(some 26), (.q (.bin .add (.tmp 23) (.tmp 25))), (some (19, true))⟩, ⟨(some 27), (.q (.bin .lss (.tmp 21) (.tmp 26))), (some (19, true))⟩, ⟨(some 28), (.q (.pick (.tmp 19) (.tmp 27) (.const (.bool false)))), (some (10, false))⟩, ⟨(some 29), (.q (.pick (.tmp 10) (.const (.bool true)) (.tmp 28))), none⟩, ⟨(some 4), (.q (.move (.tmp 29))), none⟩]) .ret))
theorem t89 : Told Try.prog 89 30 c89 [(.tmp 4)] := ⟨Try.f89, _, [], Try.func89, rfl, by kernel_rfl, rfl, by kernel_rfl, by kernel_rfl⟩
def c28 : ACode := 
    (.seq 
    (.region [⟨(some 2), (.q (.move (.const .nilp))), none⟩, ⟨(some 3), (.q (.move (.const (.int .i64 0)))), none⟩]) 
    (.seq 
    (.region [⟨(some 4), (.q (.move (.const (.func (.func 83) [] [])))), none⟩]) 
    (.seq 
    (.block 0 
    (.seq 
    (.region [⟨(some 8), (.q (.move (.tmp 0))), none⟩, ⟨(some 9), (.q (.len false (.tmp 8))), none⟩, ⟨(some 10), (.q (.bin .gtr (.tmp 9) (.const (.int .i64 16)))), none⟩, ⟨(some 11), (.q (.move (.tmp 10))), none⟩, ⟨(some 12), (.q (.move (.tmp 0))), (some (11, false))⟩, ⟨(some 13), (.q (.move (.tmp 4))), (some (11, false))⟩, ⟨(some 14), (.s (.callv (.tmp 13) [(.const (.func (.func 86) [] []))])), (some (11, false))⟩, ⟨(some 15), (.s (.call 85 [(.tmp 12), (.tmp 14)])), (some (11, false))⟩, ⟨(some 16), (.q (.pick (.tmp 11) (.const (.bool true)) (.tmp 15))), none⟩, ⟨(some 7), (.q (.move (.tmp 16))), none⟩]) 
    (.cond (.tmp 7) 
    (.seq 
    (.region [⟨(some 2), (.q (.move (.const .nilp))), none⟩, ⟨(some 3), (.q (.move (.const (.int .i64 1)))), none⟩]) .ret) 
    (.seq 
    (.region [⟨(some 18), (.q (.move (.tmp 0))), none⟩, ⟨(some 19), (.q (.move (.tmp 4))), none⟩, ⟨(some 20), (.s (.callv (.tmp 19) [(.const (.func (.func 87) [] []))])), none⟩, ⟨(some 21), (.s (.call 85 [(.tmp 18), (.tmp 20)])), none⟩, ⟨(some 17), (.q (.move (.tmp 21))), none⟩]) 
    (.cond (.tmp 17) 
    (.seq 
    (.region [⟨(some 2), (.q (.move (.const .nilp))), none⟩, ⟨(some 3), (.q (.move (.const (.int .i64 2)))), none⟩]) .ret) .skip))))) 
    (.seq 
    (.seq 
    (.region [⟨(some 22), (.q (.move (.tmp 0))), none⟩, ⟨(some 23), (.q (.len false (.tmp 22))), none⟩, ⟨(some 24), (.q (.move (.const (.int .i64 0)))), none⟩]) 
    (.block 1 
    (.loop 
    (.seq 
    (.region [⟨(some 25), (.q (.bin .lss (.tmp 24) (.tmp 23))), none⟩]) 
    (.seq 
    (.cond (.tmp 25) .skip (.exit 1)) 
    (.seq 
    (.block 2 
    (.seq 
    (.region [⟨(some 26), (.q (.move (.tmp 24))), none⟩, ⟨(some 27), (.q (.idxSl 3 (.tmp 22) (.tmp 24))), none⟩, ⟨(some 28), (.q (.load true 3 (.tmp 27))), none⟩, ⟨(some 6), (.s (.alloc 62 [(.str (B [])), (.int .i64 0), (.int .i64 0)])), none⟩, ⟨(some 5), (.q (.move (.tmp 26))), none⟩, ⟨none, (.s (.store 3 (.tmp 6) (.tmp 28))), none⟩]) 
    (.seq 
    (.region [⟨(some 29), (.q (.move (.tmp 0))), none⟩, ⟨(some 30), (.q (.move (.tmp 5))), none⟩, ⟨(some 31), (.q (.sliceSl 3 (.tmp 29) none (some (.tmp 30)))), none⟩, ⟨(some 32), (.q (.mkFunc (.func 88) [] [(.tmp 6)])), none⟩, ⟨(some 33), (.s (.call 85 [(.tmp 31), (.tmp 32)])), none⟩]) 
    (.cond (.tmp 33) 
    (.seq 
    (.region [⟨(some 2), (.q (.move (.const .nilp))), none⟩, ⟨(some 3), (.q (.move (.const (.int .i64 12)))), none⟩]) .ret) .skip)))) 
    (.region [⟨(some 34), (.q (.bin .add (.tmp 24) (.const (.int .i64 1)))), none⟩, ⟨(some 24), (.q (.move (.tmp 34))), none⟩]))))))) 
    (.seq 
    (.region [⟨(some 35), (.q (.move (.tmp 0))), none⟩, ⟨(some 36), (.s (.call 90 [(.tmp 35)])), none⟩, ⟨(some 37), (.q (.build [.nils] [(0, (1, (.tmp 36)))])), none⟩, ⟨(some 38), (.s (.box 121 (.tmp 37))), none⟩, ⟨(some 2), (.q (.move (.tmp 38))), none⟩, ⟨(some 3), (.q (.move (.const (.int .i64 0)))), none⟩]) .ret)))))
theorem t28 : Told Try.prog 28 39 c28 [(.tmp 2), (.tmp 3)] := ⟨Try.f28, _, [], Try.func28, rfl, by kernel_rfl, rfl, by kernel_rfl, by kernel_rfl⟩
def c83 : ACode := 
    (.seq 
    (.region [⟨(some 1), (.s (.box 115 (.tmp 0))), none⟩, ⟨(some 2), (.q (.move (.const .nilf))), none⟩]) 
    (.seq 
    (.region [⟨(some 3), (.q (.mkFunc (.func 84) [] [(.tmp 1)])), none⟩, ⟨(some 2), (.q (.move (.tmp 3))), none⟩]) .ret))
theorem t83 : Told Try.prog 83 4 c83 [(.tmp 2)] := ⟨Try.f83, _, [], Try.func83, rfl, by kernel_rfl, rfl, by kernel_rfl, by kernel_rfl⟩
def c84 : ACode := 
    (.seq 
    (.region [⟨(some 2), (.s (.box 62 (.tmp 0))), none⟩, ⟨(some 3), (.q (.move (.const (.bool false)))), none⟩]) 
    (.seq 
    (.region [⟨(some 4), (.q (.load false 1 (.tmp 1))), none⟩, ⟨(some 5), (.q (.load true 3 (.tmp 2))), none⟩, ⟨(some 6), (.s (.callv (.tmp 4) [(.tmp 5)])), none⟩, ⟨(some 7), (.q (.un .not (.tmp 6))), none⟩, ⟨(some 3), (.q (.move (.tmp 7))), none⟩]) .ret))
theorem t84 : Told Try.prog 84 8 c84 [(.tmp 3)] := ⟨Try.f84, _, [], Try.func84, rfl, by kernel_rfl, rfl, by kernel_rfl, by kernel_rfl⟩
def c88 : ACode := 
    (.seq 
    (.region [⟨(some 2), (.s (.box 62 (.tmp 0))), none⟩, ⟨(some 3), (.q (.move (.const (.bool false)))), none⟩]) 
    (.seq 
    (.region [⟨(some 4), (.q (.load true 3 (.tmp 1))), none⟩, ⟨(some 5), (.q (.load true 3 (.tmp 2))), none⟩, ⟨(some 6), (.s (.call 89 [(.tmp 4), (.tmp 5)])), none⟩, ⟨(some 3), (.q (.move (.tmp 6))), none⟩]) .ret))
theorem t88 : Told Try.prog 88 7 c88 [(.tmp 3)] := ⟨Try.f88, _, [], Try.func88, rfl, by kernel_rfl, rfl, by kernel_rfl, by kernel_rfl⟩
def c85 : ACode := 
    (.seq 
    (.region [⟨(some 4), (.q (.move (.const (.bool false)))), none⟩]) 
    (.seq 
    (.region [⟨(some 5), (.q (.move (.tmp 0))), none⟩, ⟨(some 6), (.q (.move (.tmp 1))), none⟩, ⟨(some 7), (.s (.call 135 [(.tmp 5), (.tmp 6)])), none⟩, ⟨(some 8), (.q (.bin .geq (.tmp 7) (.const (.int .i64 0)))), none⟩, ⟨(some 4), (.q (.move (.tmp 8))), none⟩]) .ret))
theorem t85 : Told Try.prog 85 9 c85 [(.tmp 4)] := ⟨Try.f85, _, [], Try.func85, rfl, by kernel_rfl, rfl, by kernel_rfl, by kernel_rfl⟩
def c135 : ACode := 
    (.seq 
    (.region [⟨(some 4), (.q (.move (.const (.int .i64 0)))), none⟩]) 
    (.seq 
    (.seq 
    (.region [⟨(some 6), (.q (.move (.tmp 0))), none⟩, ⟨(some 7), (.q (.len false (.tmp 6))), none⟩, ⟨(some 8), (.q (.move (.const (.int .i64 0)))), none⟩]) 
    (.block 0 
    (.loop 
    (.seq 
    (.region [⟨(some 9), (.q (.bin .lss (.tmp 8) (.tmp 7))), none⟩]) 
    (.seq 
    (.cond (.tmp 9) .skip (.exit 0)) 
    (.seq 
    (.block 1 
    (.seq 
    (.region [⟨(some 10), (.q (.move (.tmp 8))), none⟩, ⟨(some 5), (.q (.move (.tmp 10))), none⟩]) 
    (.seq 
    (.region [⟨(some 11), (.q (.move (.tmp 1))), none⟩, ⟨(some 12), (.q (.move (.tmp 0))), none⟩, ⟨(some 13), (.q (.move (.tmp 5))), none⟩, ⟨(some 14), (.q (.idxSl 3 (.tmp 12) (.tmp 13))), none⟩, ⟨(some 15), (.q (.load true 3 (.tmp 14))), none⟩, ⟨(some 16), (.s (.callv (.tmp 11) [(.tmp 15)])), none⟩]) 
    (.cond (.tmp 16) 
    (.seq 
    (.region [⟨(some 17), (.q (.move (.tmp 5))), none⟩, ⟨(some 4), (.q (.move (.tmp 17))), none⟩]) .ret) .skip)))) 
    (.region [⟨(some 18), (.q (.bin .add (.tmp 8) (.const (.int .i64 1)))), none⟩, ⟨(some 8), (.q (.move (.tmp 18))), none⟩]))))))) 
    (.seq 
    (.region [⟨(some 4), (.q (.move (.const (.int .i64 (-1))))), none⟩]) .ret)))
theorem t135 : Told Try.prog 135 19 c135 [(.tmp 4)] := ⟨Try.f135, _, [], Try.func135, rfl, by kernel_rfl, rfl, by kernel_rfl, by kernel_rfl⟩
def c90 : ACode := 
    (.seq 
    (.region [⟨(some 2), (.q (.move (.const .nils))), none⟩]) 
    (.seq 
    (.seq 
    (.region [⟨(some 3), (.q (.move (.tmp 0))), none⟩, ⟨(some 4), (.q (.nil .sl false (.tmp 3) (.const .nils))), none⟩]) 
    (.cond (.tmp 4) 
    (.seq 
    (.region [⟨(some 2), (.q (.move (.const .nils))), none⟩]) .ret) .skip)) 
    (.seq 
    (.region [⟨(some 5), (.s (.litw 62 3 [])), none⟩, ⟨(some 6), (.q (.move (.tmp 0))), none⟩, ⟨(some 7), (.s (.app 62 3 32 (.tmp 5) (.tmp 6))), none⟩, ⟨(some 2), (.q (.move (.tmp 7))), none⟩]) .ret)))
theorem t90 : Told Try.prog 90 8 c90 [(.tmp 2)] := ⟨Try.f90, _, [5], Try.func90, rfl, by kernel_rfl, rfl, by kernel_rfl, by kernel_rfl⟩
def c136 : ACode := 
    (.seq 
    (.region [⟨(some 2), (.q (.move (.const .nils))), none⟩]) 
    (.seq 
    (.seq 
    (.region [⟨(some 3), (.q (.move (.tmp 0))), none⟩, ⟨(some 4), (.q (.nil .ptr false (.tmp 3) (.const .nilp))), none⟩]) 
    (.cond (.tmp 4) 
    (.seq 
    (.region [⟨(some 2), (.q (.move (.const .nils))), none⟩]) .ret) .skip)) 
    (.seq 
    (.region [⟨(some 5), (.q (.move (.tmp 0))), none⟩, ⟨(some 6), (.q (.nonil (.tmp 5))), none⟩, ⟨(some 7), (.q (.fieldAddr 0 (.tmp 6))), none⟩, ⟨(some 8), (.q (.load false 1 (.tmp 7))), none⟩, ⟨(some 9), (.s (.call 90 [(.tmp 8)])), none⟩, ⟨(some 2), (.q (.move (.tmp 9))), none⟩]) .ret)))
theorem t136 : Told Try.prog 136 10 c136 [(.tmp 2)] := ⟨Try.f136, _, [], Try.func136, rfl, by kernel_rfl, rfl, by kernel_rfl, by kernel_rfl⟩
def c92 : ACode := 
    (.seq 
    (.region [⟨(some 3), (.s (.box 9 (.tmp 1))), none⟩, ⟨(some 4), (.s (.alloc 62 [(.str (B [])), (.int .i64 0), (.int .i64 0)])), none⟩, ⟨(some 5), (.q (.move (.const (.bool false)))), none⟩]) 
    (.seq 
    (.region [⟨(some 8), (.q (.move (.tmp 0))), none⟩, ⟨(some 9), (.s (.call 136 [(.tmp 8)])), none⟩, ⟨(some 6), (.q (.move (.tmp 9))), none⟩]) 
    (.seq 
    (.region [⟨(some 10), (.q (.move (.tmp 6))), none⟩, ⟨(some 11), (.q (.mkFunc (.func 137) [] [(.tmp 3)])), none⟩, ⟨(some 12), (.s (.call 135 [(.tmp 10), (.tmp 11)])), none⟩, ⟨(some 7), (.q (.move (.tmp 12))), none⟩]) 
    (.seq 
    (.seq 
    (.region [⟨(some 13), (.q (.move (.tmp 7))), none⟩, ⟨(some 14), (.q (.bin .lss (.tmp 13) (.const (.int .i64 0)))), none⟩]) 
    (.cond (.tmp 14) 
    (.seq 
    (.region [⟨(some 15), (.q (.build [(.str (B [])), (.int .i64 0), (.int .i64 0)] [])), none⟩, ⟨none, (.s (.store 3 (.tmp 4) (.tmp 15))), none⟩, ⟨(some 5), (.q (.move (.const (.bool false)))), none⟩]) .ret) .skip)) 
    (.seq 
    (.region [⟨(some 16), (.q (.move (.tmp 6))), none⟩, ⟨(some 17), (.q (.move (.tmp 7))), none⟩, ⟨(some 18), (.q (.idxSl 3 (.tmp 16) (.tmp 17))), none⟩, ⟨(some 19), (.q (.load true 3 (.tmp 18))), none⟩, ⟨none, (.s (.store 3 (.tmp 4) (.tmp 19))), none⟩, ⟨(some 5), (.q (.move (.const (.bool true)))), none⟩]) .ret)))))
theorem t92 : Told Try.prog 92 20 c92 [(.cell 4 true 3), (.tmp 5)] := ⟨Try.f92, _, [], Try.func92, rfl, by kernel_rfl, rfl, by kernel_rfl, by kernel_rfl⟩
def c137 : ACode := 
    (.seq 
    (.region [⟨(some 2), (.s (.box 62 (.tmp 0))), none⟩, ⟨(some 3), (.q (.move (.const (.bool false)))), none⟩]) 
    (.seq 
    (.region [⟨(some 4), (.q (.fieldAddr 0 (.tmp 2))), none⟩, ⟨(some 5), (.q (.load false 1 (.tmp 4))), none⟩, ⟨(some 6), (.q (.load false 1 (.tmp 1))), none⟩, ⟨(some 7), (.q (.bin .eql (.tmp 5) (.tmp 6))), none⟩, ⟨(some 3), (.q (.move (.tmp 7))), none⟩]) .ret))
theorem t137 : Told Try.prog 137 8 c137 [(.tmp 3)] := ⟨Try.f137, _, [], Try.func137, rfl, by kernel_rfl, rfl, by kernel_rfl, by kernel_rfl⟩
def c80 : ACode := 
    (.seq 
    (.region [⟨(some 4), (.q (.move (.const (.int .i64 0)))), none⟩]) 
    (.seq 
    (.region [⟨(some 8), (.q (.move (.tmp 0))), none⟩, ⟨(some 9), (.q (.move (.tmp 1))), none⟩, ⟨(some 10), (.s (.call 92 [(.tmp 8), (.tmp 9)])), none⟩, ⟨(some 7), (.q (.move (.tmp 10))), none⟩, ⟨(some 11), (.q (.extract 0 (.tmp 7))), none⟩, ⟨(some 12), (.q (.extract 1 (.tmp 7))), none⟩, ⟨(some 5), (.s (.alloc 62 [(.str (B [])), (.int .i64 0), (.int .i64 0)])), none⟩, ⟨none, (.s (.store 3 (.tmp 5) (.tmp 11))), none⟩, ⟨(some 6), (.q (.move (.tmp 12))), none⟩]) 
    (.seq 
    (.region [⟨(some 13), (.q (.fieldAddr 2 (.tmp 5))), none⟩, ⟨(some 14), (.q (.load false 1 (.tmp 13))), none⟩, ⟨(some 15), (.q (.bin .mul (.tmp 14) (.const (.int .i64 512)))), none⟩, ⟨(some 4), (.q (.move (.tmp 15))), none⟩]) .ret)))
theorem t80 : Told Try.prog 80 16 c80 [(.tmp 4)] := ⟨Try.f80, _, [], Try.func80, rfl, by kernel_rfl, rfl, by kernel_rfl, by kernel_rfl⟩
def c91 : ACode := 
    (.seq 
    (.region [⟨(some 8), (.q (.move (.const (.int .i64 0)))), none⟩, ⟨(some 9), (.q (.move (.const (.int .i64 0)))), none⟩]) 
    (.seq 
    (.region [⟨(some 14), (.q (.move (.tmp 0))), none⟩, ⟨(some 15), (.q (.move (.tmp 1))), none⟩, ⟨(some 16), (.s (.call 92 [(.tmp 14), (.tmp 15)])), none⟩, ⟨(some 13), (.q (.move (.tmp 16))), none⟩, ⟨(some 17), (.q (.extract 0 (.tmp 13))), none⟩, ⟨(some 18), (.q (.extract 1 (.tmp 13))), none⟩, ⟨(some 10), (.s (.alloc 62 [(.str (B [])), (.int .i64 0), (.int .i64 0)])), none⟩, ⟨none, (.s (.store 3 (.tmp 10) (.tmp 17))), none⟩, ⟨(some 11), (.q (.move (.tmp 18))), none⟩]) 
    (.seq 
    (.seq 
    (.region [⟨(some 19), (.q (.move (.tmp 11))), none⟩, ⟨(some 20), (.q (.un .not (.tmp 19))), none⟩]) 
    (.cond (.tmp 20) 
    (.seq 
    (.region [⟨(some 8), (.q (.move (.const (.int .i64 0)))), none⟩, ⟨(some 9), (.q (.move (.const (.int .i64 8)))), none⟩]) .ret) .skip)) 
    (.seq 
    (.seq 
    (.region [⟨(some 21), (.q (.move (.tmp 0))), none⟩, ⟨(some 22), (.q (.move (.tmp 1))), none⟩, ⟨(some 23), (.s (.call 80 [(.tmp 21), (.tmp 22)])), none⟩, ⟨(some 12), (.q (.move (.tmp 23))), none⟩]) 
    (.seq 
    (.region [⟨(some 24), (.q (.move (.tmp 2))), none⟩, ⟨(some 25), (.q (.bin .lss (.tmp 24) (.const (.int .i64 0)))), none⟩, ⟨(some 26), (.q (.move (.tmp 25))), none⟩, ⟨(some 27), (.q (.move (.tmp 3))), (some (26, false))⟩, ⟨(some 28), (.q (.bin .lss (.tmp 27) (.const (.int .i64 0)))), (some (26, false))⟩, ⟨(some 29), (.q (.pick (.tmp 26) (.const (.bool true)) (.tmp 28))), none⟩, ⟨(some 30), (.q (.move (.tmp 29))), none⟩, ⟨(some 31), (.q (.move (.tmp 2))), (some (30, false))⟩, ⟨(some 32), (.q (.move (.tmp 12))), (some (30, false))⟩, ⟨(some 33), (.q (.bin .gtr (.tmp 31) (.tmp 32))), (some (30, false))⟩, ⟨(some 34), (.q (.pick (.tmp 30) (.const (.bool true)) (.tmp 33))), none⟩, ⟨(some 35), (.q (.move (.tmp 34))), none⟩, ⟨(some 36), (.q (.move (.tmp 3))), (some (35, false))⟩, ⟨(some 37), (.q (.move (.tmp 12))), (some (35, false))⟩, ⟨(some 38), (.q (.move (.tmp 2))), (some (35, false))⟩, ⟨(some 39), (.q (.bin .sub (.tmp 37) (.tmp 38))), (some (35, false))⟩, ⟨(some 40), (.q (.bin .gtr (.tmp 36) (.tmp 39))), (some (35, false))⟩, ⟨(some 41), (.q (.pick (.tmp 35) (.const (.bool true)) (.tmp 40))), none⟩]) 
    (.cond (.tmp 41) 
    (.seq 
    (.region [⟨(some 8), (.q (.move (.const (.int .i64 0)))), none⟩, ⟨(some 9), (.q (.move (.const (.int .i64 2)))), none⟩]) .ret) .skip))) 
    (.seq 
    (.region [⟨(some 42), (.q (.fieldAddr 1 (.tmp 10))), none⟩, ⟨(some 43), (.q (.load false 1 (.tmp 42))), none⟩, ⟨(some 44), (.q (.bin .mul (.tmp 43) (.const (.int .i64 512)))), none⟩, ⟨(some 45), (.q (.move (.tmp 2))), none⟩, ⟨(some 46), (.q (.bin .add (.tmp 44) (.tmp 45))), none⟩, ⟨(some 8), (.q (.move (.tmp 46))), none⟩, ⟨(some 9), (.q (.move (.const (.int .i64 0)))), none⟩]) .ret)))))
theorem t91 : Told Try.prog 91 47 c91 [(.tmp 8), (.tmp 9)] := ⟨Try.f91, _, [], Try.func91, rfl, by kernel_rfl, rfl, by kernel_rfl, by kernel_rfl⟩
def c32 : ACode := 
    (.seq 
    (.region [⟨(some 10), (.q (.move (.const (.str (B []))))), none⟩, ⟨(some 11), (.q (.move (.const (.int .i64 0)))), none⟩]) 
    (.seq 
    (.region [⟨(some 15), (.q (.move (.tmp 0))), none⟩, ⟨(some 16), (.q (.move (.tmp 2))), none⟩, ⟨(some 17), (.q (.move (.tmp 3))), none⟩, ⟨(some 18), (.q (.move (.tmp 4))), none⟩, ⟨(some 19), (.s (.call 91 [(.tmp 15), (.tmp 16), (.tmp 17), (.tmp 18)])), none⟩, ⟨(some 14), (.q (.move (.tmp 19))), none⟩, ⟨(some 20), (.q (.extract 0 (.tmp 14))), none⟩, ⟨(some 21), (.q (.extract 1 (.tmp 14))), none⟩, ⟨(some 12), (.q (.move (.tmp 20))), none⟩, ⟨(some 13), (.q (.move (.tmp 21))), none⟩]) 
    (.seq 
    (.seq 
    (.region [⟨(some 22), (.q (.move (.tmp 13))), none⟩, ⟨(some 23), (.q (.bin .neq (.tmp 22) (.const (.int .i64 0)))), none⟩]) 
    (.cond (.tmp 23) 
    (.seq 
    (.region [⟨(some 24), (.q (.move (.tmp 13))), none⟩, ⟨(some 10), (.q (.move (.const (.str (B []))))), none⟩, ⟨(some 11), (.q (.move (.tmp 24))), none⟩]) .ret) .skip)) 
    (.seq 
    (.region [⟨(some 25), (.q (.move (.tmp 1))), none⟩, ⟨(some 26), (.q (.move (.tmp 12))), none⟩, ⟨(some 27), (.q (.move (.tmp 4))), none⟩, ⟨(some 28), (.s (.call 65 [(.tmp 25), (.tmp 26), (.tmp 27)])), none⟩, ⟨(some 29), (.q (.extract 0 (.tmp 28))), none⟩, ⟨(some 30), (.q (.extract 1 (.tmp 28))), none⟩, ⟨(some 10), (.q (.move (.tmp 29))), none⟩, ⟨(some 11), (.q (.move (.tmp 30))), none⟩]) .ret))))
theorem t32 : Told Try.prog 32 31 c32 [(.tmp 10), (.tmp 11)] := ⟨Try.f32, _, [], Try.func32, rfl, by kernel_rfl, rfl, by kernel_rfl, by kernel_rfl⟩
def c30 : ACode := 
    (.seq 
    (.region [⟨(some 10), (.q (.move (.const (.int .i64 0)))), none⟩]) 
    (.seq 
    (.region [⟨(some 14), (.q (.move (.tmp 0))), none⟩, ⟨(some 15), (.q (.move (.tmp 2))), none⟩, ⟨(some 16), (.q (.move (.tmp 3))), none⟩, ⟨(some 17), (.q (.move (.tmp 4))), none⟩, ⟨(some 18), (.q (.len true (.tmp 17))), none⟩, ⟨(some 19), (.s (.call 91 [(.tmp 14), (.tmp 15), (.tmp 16), (.tmp 18)])), none⟩, ⟨(some 13), (.q (.move (.tmp 19))), none⟩, ⟨(some 20), (.q (.extract 0 (.tmp 13))), none⟩, ⟨(some 21), (.q (.extract 1 (.tmp 13))), none⟩, ⟨(some 11), (.q (.move (.tmp 20))), none⟩, ⟨(some 12), (.q (.move (.tmp 21))), none⟩]) 
    (.seq 
    (.seq 
    (.region [⟨(some 22), (.q (.move (.tmp 12))), none⟩, ⟨(some 23), (.q (.bin .neq (.tmp 22) (.const (.int .i64 0)))), none⟩]) 
    (.cond (.tmp 23) 
    (.seq 
    (.region [⟨(some 24), (.q (.move (.tmp 12))), none⟩, ⟨(some 10), (.q (.move (.tmp 24))), none⟩]) .ret) .skip)) 
    (.seq 
    (.region [⟨(some 25), (.q (.move (.tmp 1))), none⟩, ⟨(some 26), (.q (.move (.tmp 11))), none⟩, ⟨(some 27), (.q (.move (.tmp 4))), none⟩, ⟨(some 28), (.s (.call 63 [(.tmp 25), (.tmp 26), (.tmp 27)])), none⟩, ⟨(some 10), (.q (.move (.tmp 28))), none⟩]) .ret))))
theorem t30 : Told Try.prog 30 29 c30 [(.tmp 10)] := ⟨Try.f30, _, [], Try.func30, rfl, by kernel_rfl, rfl, by kernel_rfl, by kernel_rfl⟩
def c31 : ACode := 
    (.seq 
    (.region [⟨(some 8), (.q (.move (.const (.int .i64 0)))), none⟩]) 
    (.seq 
    (.region [⟨(some 12), (.q (.move (.tmp 0))), none⟩, ⟨(some 13), (.q (.move (.tmp 2))), none⟩, ⟨(some 14), (.s (.call 92 [(.tmp 12), (.tmp 13)])), none⟩, ⟨(some 11), (.q (.move (.tmp 14))), none⟩, ⟨(some 15), (.q (.extract 0 (.tmp 11))), none⟩, ⟨(some 16), (.q (.extract 1 (.tmp 11))), none⟩, ⟨(some 9), (.s (.alloc 62 [(.str (B [])), (.int .i64 0), (.int .i64 0)])), none⟩, ⟨none, (.s (.store 3 (.tmp 9) (.tmp 15))), none⟩, ⟨(some 10), (.q (.move (.tmp 16))), none⟩]) 
    (.seq 
    (.block 0 
    (.seq 
    (.region [⟨(some 18), (.q (.move (.tmp 10))), none⟩, ⟨(some 19), (.q (.un .not (.tmp 18))), none⟩, ⟨(some 17), (.q (.move (.tmp 19))), none⟩]) 
    (.cond (.tmp 17) 
    (.seq 
    (.region [⟨(some 8), (.q (.move (.const (.int .i64 8)))), none⟩]) .ret) 
    (.seq 
    (.region [⟨(some 21), (.q (.move (.tmp 3))), none⟩, ⟨(some 22), (.q (.bin .lss (.tmp 21) (.const (.int .i64 0)))), none⟩, ⟨(some 23), (.q (.move (.tmp 22))), none⟩, ⟨(some 24), (.q (.move (.tmp 3))), (some (23, false))⟩, ⟨(some 25), (.q (.fieldAddr 2 (.tmp 9))), (some (23, false))⟩, ⟨(some 26), (.q (.load false 1 (.tmp 25))), (some (23, false))⟩, ⟨(some 27), (.q (.bin .geq (.tmp 24) (.tmp 26))), (some (23, false))⟩, ⟨(some 28), (.q (.pick (.tmp 23) (.const (.bool true)) (.tmp 27))), none⟩, ⟨(some 20), (.q (.move (.tmp 28))), none⟩]) 
    (.cond (.tmp 20) 
    (.seq 
    (.region [⟨(some 8), (.q (.move (.const (.int .i64 2)))), none⟩]) .ret) .skip))))) 
    (.seq 
    (.region [⟨(some 29), (.q (.move (.tmp 1))), none⟩, ⟨(some 30), (.q (.fieldAddr 1 (.tmp 9))), none⟩, ⟨(some 31), (.q (.load false 1 (.tmp 30))), none⟩, ⟨(some 32), (.q (.move (.tmp 3))), none⟩, ⟨(some 33), (.q (.bin .add (.tmp 31) (.tmp 32))), none⟩, ⟨(some 34), (.s (.call 62 [(.tmp 29), (.tmp 33)])), none⟩, ⟨(some 8), (.q (.move (.tmp 34))), none⟩]) .ret))))
theorem t31 : Told Try.prog 31 35 c31 [(.tmp 8)] := ⟨Try.f31, _, [], Try.func31, rfl, by kernel_rfl, rfl, by kernel_rfl, by kernel_rfl⟩
def c82 : ACode := 
    (.seq 
    (.region [⟨(some 4), (.q (.move (.const .nils))), none⟩]) 
    (.seq 
    (.region [⟨(some 5), (.q (.move (.const .nils))), none⟩]) 
    (.seq 
    (.seq 
    (.region [⟨(some 11), (.q (.move (.tmp 1))), none⟩, ⟨(some 12), (.q (.len false (.tmp 11))), none⟩, ⟨(some 13), (.q (.move (.const (.int .i64 0)))), none⟩]) 
    (.block 0 
    (.loop 
    (.seq 
    (.region [⟨(some 14), (.q (.bin .lss (.tmp 13) (.tmp 12))), none⟩]) 
    (.seq 
    (.cond (.tmp 14) .skip (.exit 0)) 
    (.seq 
    (.block 1 
    (.seq 
    (.region [⟨(some 15), (.q (.idxSl 1 (.tmp 11) (.tmp 13))), none⟩, ⟨(some 16), (.q (.load false 1 (.tmp 15))), none⟩, ⟨(some 7), (.q (.move (.tmp 16))), none⟩]) 
    (.seq 
    (.region [⟨(some 18), (.q (.move (.tmp 0))), none⟩, ⟨(some 19), (.q (.move (.tmp 7))), none⟩, ⟨(some 20), (.s (.call 92 [(.tmp 18), (.tmp 19)])), none⟩, ⟨(some 17), (.q (.move (.tmp 20))), none⟩, ⟨(some 21), (.q (.extract 0 (.tmp 17))), none⟩, ⟨(some 22), (.q (.extract 1 (.tmp 17))), none⟩, ⟨(some 8), (.s (.alloc 62 [(.str (B [])), (.int .i64 0), (.int .i64 0)])), none⟩, ⟨none, (.s (.store 3 (.tmp 8) (.tmp 21))), none⟩, ⟨(some 9), (.q (.move (.tmp 22))), none⟩]) 
    (.seq 
    (.region [⟨(some 23), (.q (.fieldAddr 2 (.tmp 8))), none⟩, ⟨(some 24), (.q (.load false 1 (.tmp 23))), none⟩, ⟨(some 25), (.q (.move (.const (.int .i64 0)))), none⟩]) 
    (.block 2 
    (.loop 
    (.seq 
    (.region [⟨(some 26), (.q (.bin .lss (.tmp 25) (.tmp 24))), none⟩]) 
    (.seq 
    (.cond (.tmp 26) .skip (.exit 2)) 
    (.seq 
    (.block 3 
    (.seq 
    (.region [⟨(some 27), (.q (.move (.tmp 25))), none⟩, ⟨(some 10), (.q (.move (.tmp 27))), none⟩]) 
    (.region [⟨(some 28), (.q (.move (.tmp 5))), none⟩, ⟨(some 29), (.q (.fieldAddr 1 (.tmp 8))), none⟩, ⟨(some 30), (.q (.load false 1 (.tmp 29))), none⟩, ⟨(some 31), (.q (.move (.tmp 10))), none⟩, ⟨(some 32), (.q (.bin .add (.tmp 30) (.tmp 31))), none⟩, ⟨(some 33), (.s (.lit 3 1 [(.tmp 32)])), none⟩, ⟨(some 34), (.s (.app 3 1 8 (.tmp 28) (.tmp 33))), none⟩, ⟨(some 5), (.q (.move (.tmp 34))), none⟩]))) 
    (.region [⟨(some 35), (.q (.bin .add (.tmp 25) (.const (.int .i64 1)))), none⟩, ⟨(some 25), (.q (.move (.tmp 35))), none⟩])))))))))) 
    (.region [⟨(some 36), (.q (.bin .add (.tmp 13) (.const (.int .i64 1)))), none⟩, ⟨(some 13), (.q (.move (.tmp 36))), none⟩]))))))) 
    (.seq 
    (.region [⟨(some 37), (.q (.move (.tmp 5))), none⟩, ⟨(some 4), (.q (.move (.tmp 37))), none⟩]) .ret))))
theorem t82 : Told Try.prog 82 38 c82 [(.tmp 4)] := ⟨Try.f82, _, [], Try.func82, rfl, by kernel_rfl, rfl, by kernel_rfl, by kernel_rfl⟩
def c26 : ACode := 
    (.seq 
    (.region [⟨(some 2), (.q (.move (.const (.int .i64 0)))), none⟩]) 
    (.seq 
    (.seq 
    (.region [⟨(some 9), (.q (.move (.tmp 0))), none⟩, ⟨(some 10), (.q (.len false (.tmp 9))), none⟩, ⟨(some 11), (.q (.bin .gtr (.tmp 10) (.const (.int .i64 16)))), none⟩]) 
    (.cond (.tmp 11) 
    (.seq 
    (.region [⟨(some 2), (.q (.move (.const (.int .i64 1)))), none⟩]) .ret) .skip)) 
    (.seq 
    (.seq 
    (.region [⟨(some 3), (.q (.move (.const (.int .i64 0)))), none⟩]) 
    (.block 0 
    (.loop 
    (.seq 
    (.seq 
    (.region [⟨(some 12), (.q (.move (.tmp 3))), none⟩, ⟨(some 13), (.q (.move (.tmp 0))), none⟩, ⟨(some 14), (.q (.len false (.tmp 13))), none⟩, ⟨(some 15), (.q (.bin .lss (.tmp 12) (.tmp 14))), none⟩]) 
    (.cond (.tmp 15) .skip (.exit 0))) 
    (.seq 
    (.block 1 
    (.seq 
    (.region [⟨(some 18), (.q (.move (.tmp 0))), none⟩, ⟨(some 19), (.q (.move (.tmp 3))), none⟩, ⟨(some 20), (.q (.idxSl 3 (.tmp 18) (.tmp 19))), none⟩, ⟨(some 21), (.q (.fieldAddr 0 (.tmp 20))), none⟩, ⟨(some 22), (.q (.load false 1 (.tmp 21))), none⟩, ⟨(some 23), (.q (.bin .eql (.tmp 22) (.const (.str (B []))))), none⟩, ⟨(some 24), (.q (.move (.tmp 23))), none⟩, ⟨(some 25), (.q (.move (.tmp 0))), (some (24, false))⟩, ⟨(some 26), (.q (.move (.tmp 3))), (some (24, false))⟩, ⟨(some 27), (.q (.idxSl 3 (.tmp 25) (.tmp 26))), (some (24, false))⟩, ⟨(some 28), (.q (.fieldAddr 0 (.tmp 27))), (some (24, false))⟩, ⟨(some 29), (.q (.load false 1 (.tmp 28))), (some (24, false))⟩, ⟨(some 30), (.q (.len true (.tmp 29))), (some (24, false))⟩, ⟨(some 31), (.q (.bin .gtr (.tmp 30) (.const (.int .i64 31)))), (some (24, false))⟩, ⟨(some 32), (.q (.pick (.tmp 24) (.const (.bool true)) (.tmp 31))), none⟩]) 
    (.cond (.tmp 32) 
    (.seq 
    (.region [⟨(some 2), (.q (.move (.const (.int .i64 1)))), none⟩]) .ret) .skip))) 
    (.region [⟨(some 16), (.q (.move (.tmp 3))), none⟩, ⟨(some 17), (.q (.bin .add (.tmp 16) (.const (.int .i64 1)))), none⟩, ⟨(some 3), (.q (.move (.tmp 17))), none⟩])))))) 
    (.seq 
    (.seq 
    (.region [⟨(some 4), (.q (.move (.const (.int .i64 0)))), none⟩]) 
    (.block 2 
    (.loop 
    (.seq 
    (.seq 
    (.region [⟨(some 33), (.q (.move (.tmp 4))), none⟩, ⟨(some 34), (.q (.move (.tmp 0))), none⟩, ⟨(some 35), (.q (.len false (.tmp 34))), none⟩, ⟨(some 36), (.q (.bin .lss (.tmp 33) (.tmp 35))), none⟩]) 
    (.cond (.tmp 36) .skip (.exit 2))) 
    (.seq 
    (.block 3 
    (.seq 
    (.region [⟨(some 39), (.q (.move (.tmp 0))), none⟩, ⟨(some 40), (.q (.move (.tmp 4))), none⟩, ⟨(some 41), (.q (.idxSl 3 (.tmp 39) (.tmp 40))), none⟩, ⟨(some 42), (.q (.fieldAddr 1 (.tmp 41))), none⟩, ⟨(some 43), (.q (.load false 1 (.tmp 42))), none⟩, ⟨(some 44), (.q (.bin .lss (.tmp 43) (.const (.int .i64 0)))), none⟩, ⟨(some 45), (.q (.move (.tmp 44))), none⟩, ⟨(some 46), (.q (.move (.tmp 0))), (some (45, false))⟩, ⟨(some 47), (.q (.move (.tmp 4))), (some (45, false))⟩, ⟨(some 48), (.q (.idxSl 3 (.tmp 46) (.tmp 47))), (some (45, false))⟩, ⟨(some 49), (.q (.fieldAddr 2 (.tmp 48))), (some (45, false))⟩, ⟨(some 50), (.q (.load false 1 (.tmp 49))), (some (45, false))⟩, ⟨(some 51), (.q (.bin .lss (.tmp 50) (.const (.int .i64 1)))), (some (45, false))⟩, ⟨(some 52), (.q (.pick (.tmp 45) (.const (.bool true)) (.tmp 51))), none⟩, ⟨(some 53), (.q (.move (.tmp 52))), none⟩, ⟨(some 54), (.q (.move (.tmp 0))), (some (53, false))⟩, ⟨(some 55), (.q (.move (.tmp 4))), (some (53, false))⟩, ⟨(some 56), (.q (.idxSl 3 (.tmp 54) (.tmp 55))), (some (53, false))⟩, ⟨(some 57), (.q (.fieldAddr 1 (.tmp 56))), (some (53, false))⟩, ⟨(some 58), (.q (.load false 1 (.tmp 57))), (some (53, false))⟩, ⟨(some 59), (.q (.bin .gtr (.tmp 58) (.const (.int .i64 48)))), (some (53, false))⟩, ⟨(some 60), (.q (.pick (.tmp 53) (.const (.bool true)) (.tmp 59))), none⟩, ⟨(some 61), (.q (.move (.tmp 60))), none⟩, ⟨(some 62), (.q (.move (.tmp 0))), (some (61, false))⟩, ⟨(some 63), (.q (.move (.tmp 4))), (some (61, false))⟩, ⟨(some 64), (.q (.idxSl 3 (.tmp 62) (.tmp 63))), (some (61, false))⟩, ⟨(some 65), (.q (.fieldAddr 2 (.tmp 64))), (some (61, false))⟩, ⟨(some 66), (.q (.load false 1 (.tmp 65))), (some (61, false))⟩, ⟨(some 67), (.q (.move (.tmp 0))), (some (61, false))⟩, ⟨(some 68), (.q (.move (.tmp 4))), (some (61, false))⟩, ⟨(some 69), (.q (.idxSl 3 (.tmp 67) (.tmp 68))), (some (61, false))⟩, ⟨(some 70), (.q (.fieldAddr 1 (.tmp 69))), (some (61, false))⟩, ⟨(some 71), (.q (.load false 1 (.tmp 70))), (some (61, false))⟩, ⟨(some 72), (.q (.bin .sub (.const (.int .i64 48)) (.tmp 71))), (some (61, false))⟩, ⟨(some 73), (.q (.bin .gtr (.tmp 66) (.tmp 72))), (some (61, false))⟩, ⟨(some 74), (.q (.pick (.tmp 61) (.const (.bool true)) (.tmp 73))), none⟩]) 
    (.cond (.tmp 74) 
    (.seq 
    (.region [⟨(some 2), (.q (.move (.const (.int .i64 2)))), none⟩]) .ret) .skip))) 
    (.region [⟨(some 37), (.q (.move (.tmp 4))), none⟩, ⟨(some 38), (.q (.bin .add (.tmp 37) (.const (.int .i64 1)))), none⟩, ⟨(some 4), (.q (.move (.tmp 38))), none⟩])))))) 
    (.seq 
    (.seq 
    (.region [⟨(some 5), (.q (.move (.const (.int .i64 0)))), none⟩]) 
    (.block 4 
    (.loop 
    (.seq 
    (.seq 
    (.region [⟨(some 75), (.q (.move (.tmp 5))), none⟩, ⟨(some 76), (.q (.move (.tmp 0))), none⟩, ⟨(some 77), (.q (.len false (.tmp 76))), none⟩, ⟨(some 78), (.q (.bin .lss (.tmp 75) (.tmp 77))), none⟩]) 
    (.cond (.tmp 78) .skip (.exit 4))) 
    (.seq 
    (.block 5 
    (.seq 
    (.region [⟨(some 6), (.q (.move (.const (.int .i64 0)))), none⟩]) 
    (.block 6 
    (.loop 
    (.seq 
    (.seq 
    (.region [⟨(some 81), (.q (.move (.tmp 6))), none⟩, ⟨(some 82), (.q (.move (.tmp 5))), none⟩, ⟨(some 83), (.q (.bin .lss (.tmp 81) (.tmp 82))), none⟩]) 
    (.cond (.tmp 83) .skip (.exit 6))) 
    (.seq 
    (.block 7 
    (.seq 
    (.regionN 9 [⟨(some 86), (.q (.move (.tmp 0))), none⟩, ⟨(some 87), (.q (.move (.tmp 5))), none⟩, ⟨(some 88), (.q (.idxSl 3 (.tmp 86) (.tmp 87))), none⟩, ⟨(some 89), (.q (.load true 3 (.tmp 88))), none⟩, ⟨(some 90), (.q (.move (.tmp 0))), none⟩, ⟨(some 91), (.q (.move (.tmp 6))), none⟩, ⟨(some 92), (.q (.idxSl 3 (.tmp 90) (.tmp 91))), none⟩, ⟨(some 93), (.q (.loadr true 3 (.tmp 92))), none⟩, ⟨(some 7), (.q (.move (.const .top))), none⟩, ⟨(some 8), (.q (.move (.const .top))), none⟩, ⟨(some 7), (.s (.put 62 3 (.tmp 89))), none⟩, ⟨(some 8), (.s (.put 62 3 (.tmp 93))), none⟩]) 
    (.seq 
    (.region [⟨(some 94), (.q (.fieldAddr 0 (.tmp 7))), none⟩, ⟨(some 95), (.q (.load false 1 (.tmp 94))), none⟩, ⟨(some 96), (.q (.fieldAddr 0 (.tmp 8))), none⟩, ⟨(some 97), (.q (.load false 1 (.tmp 96))), none⟩, ⟨(some 98), (.q (.bin .eql (.tmp 95) (.tmp 97))), none⟩, ⟨(some 99), (.q (.move (.tmp 98))), none⟩, ⟨(some 100), (.q (.fieldAddr 1 (.tmp 7))), (some (99, false))⟩, ⟨(some 101), (.q (.load false 1 (.tmp 100))), (some (99, false))⟩, ⟨(some 102), (.q (.fieldAddr 1 (.tmp 8))), (some (99, false))⟩, ⟨(some 103), (.q (.load false 1 (.tmp 102))), (some (99, false))⟩, ⟨(some 104), (.q (.fieldAddr 2 (.tmp 8))), (some (99, false))⟩, ⟨(some 105), (.q (.load false 1 (.tmp 104))), (some (99, false))⟩, ⟨(some 106), (.q (.bin .add (.tmp 103) (.tmp 105))), (some (99, false))⟩, ⟨(some 107), (.q (.bin .lss (.tmp 101) (.tmp 106))), (some (99, false))⟩, ⟨(some 108), (.q (.move (.tmp 107))), (some (99, false))⟩, ⟨(some 109), (.q (.fieldAddr 1 (.tmp 8))), (some (108, true))⟩, ⟨(some 110), (.q (.load false 1 (.tmp 109))), (some (108, true))⟩, ⟨(some 111), (.q (.fieldAddr 1 (.tmp 7))), (some (108, true))⟩, ⟨(some 112), (.q (.load false 1 (.tmp 111))), (some (108, true))⟩, ⟨(some 113), (.q (.fieldAddr 2 (.tmp 7))), (some (108, true))⟩, ⟨(some 114), (.q (.load false 1 (.tmp 113))), (some (108, true))⟩, ⟨(some 115), (.q (.bin .add (.tmp 112) (.tmp 114))), (some (108, true))⟩, ⟨(some 116), (.q (.bin .lss (.tmp 110) (.tmp 115))), (some (108, true))⟩, ⟨(some 117), (.q (.pick (.tmp 108) (.tmp 116) (.const (.bool false)))), (some (99, false))⟩, ⟨(some 118), (.q (.pick (.tmp 99) (.const (.bool true)) (.tmp 117))), none⟩]) 
    (.cond (.tmp 118) 
    (.seq 
    (.region [⟨(some 2), (.q (.move (.const (.int .i64 12)))), none⟩]) .ret) .skip)))) 
    (.region [⟨(some 84), (.q (.move (.tmp 6))), none⟩, ⟨(some 85), (.q (.bin .add (.tmp 84) (.const (.int .i64 1)))), none⟩, ⟨(some 6), (.q (.move (.tmp 85))), none⟩]))))))) 
    (.region [⟨(some 79), (.q (.move (.tmp 5))), none⟩, ⟨(some 80), (.q (.bin .add (.tmp 79) (.const (.int .i64 1)))), none⟩, ⟨(some 5), (.q (.move (.tmp 80))), none⟩])))))) 
    (.seq 
    (.region [⟨(some 2), (.q (.move (.const (.int .i64 0)))), none⟩]) .ret))))))
theorem t26 : Told Try.prog 26 119 c26 [(.tmp 2)] := ⟨Try.f26, _, [], Try.func26, rfl, by kernel_rfl, rfl, by kernel_rfl, by kernel_rfl⟩
def c94 : ACode := 
    (.seq 
    (.region [⟨(some 4), (.s (.alloc 62 [(.str (B [])), (.int .i64 0), (.int .i64 0)])), none⟩, ⟨(some 5), (.q (.move (.const (.bool false)))), none⟩]) 
    (.seq 
    (.seq 
    (.region [⟨(some 6), (.q (.move (.const (.int .i64 0)))), none⟩]) 
    (.block 0 
    (.loop 
    (.seq 
    (.seq 
    (.region [⟨(some 7), (.q (.move (.tmp 6))), none⟩, ⟨(some 8), (.q (.move (.tmp 0))), none⟩, ⟨(some 9), (.q (.len false (.tmp 8))), none⟩, ⟨(some 10), (.q (.bin .lss (.tmp 7) (.tmp 9))), none⟩]) 
    (.cond (.tmp 10) .skip (.exit 0))) 
    (.seq 
    (.block 1 
    (.seq 
    (.region [⟨(some 13), (.q (.move (.tmp 0))), none⟩, ⟨(some 14), (.q (.move (.tmp 6))), none⟩, ⟨(some 15), (.q (.idxSl 3 (.tmp 13) (.tmp 14))), none⟩, ⟨(some 16), (.q (.fieldAddr 0 (.tmp 15))), none⟩, ⟨(some 17), (.q (.load false 1 (.tmp 16))), none⟩, ⟨(some 18), (.q (.move (.tmp 1))), none⟩, ⟨(some 19), (.q (.bin .eql (.tmp 17) (.tmp 18))), none⟩]) 
    (.cond (.tmp 19) 
    (.seq 
    (.region [⟨(some 20), (.q (.move (.tmp 0))), none⟩, ⟨(some 21), (.q (.move (.tmp 6))), none⟩, ⟨(some 22), (.q (.idxSl 3 (.tmp 20) (.tmp 21))), none⟩, ⟨(some 23), (.q (.load true 3 (.tmp 22))), none⟩, ⟨none, (.s (.store 3 (.tmp 4) (.tmp 23))), none⟩, ⟨(some 5), (.q (.move (.const (.bool true)))), none⟩]) .ret) .skip))) 
    (.region [⟨(some 11), (.q (.move (.tmp 6))), none⟩, ⟨(some 12), (.q (.bin .add (.tmp 11) (.const (.int .i64 1)))), none⟩, ⟨(some 6), (.q (.move (.tmp 12))), none⟩])))))) 
    (.seq 
    (.region [⟨(some 24), (.q (.build [(.str (B [])), (.int .i64 0), (.int .i64 0)] [])), none⟩, ⟨none, (.s (.store 3 (.tmp 4) (.tmp 24))), none⟩, ⟨(some 5), (.q (.move (.const (.bool false)))), none⟩]) .ret)))
theorem t94 : Told Try.prog 94 25 c94 [(.cell 4 true 3), (.tmp 5)] := ⟨Try.f94, _, [], Try.func94, rfl, by kernel_rfl, rfl, by kernel_rfl, by kernel_rfl⟩
def c93 : ACode := 
    (.seq 
    (.region [⟨(some 8), (.q (.move (.const (.int .i64 0)))), none⟩, ⟨(some 9), (.q (.move (.const (.int .i64 0)))), none⟩]) 
    (.seq 
    (.region [⟨(some 14), (.q (.move (.tmp 0))), none⟩, ⟨(some 15), (.q (.move (.tmp 1))), none⟩, ⟨(some 16), (.s (.call 94 [(.tmp 14), (.tmp 15)])), none⟩, ⟨(some 13), (.q (.move (.tmp 16))), none⟩, ⟨(some 17), (.q (.extract 0 (.tmp 13))), none⟩, ⟨(some 18), (.q (.extract 1 (.tmp 13))), none⟩, ⟨(some 10), (.s (.alloc 62 [(.str (B [])), (.int .i64 0), (.int .i64 0)])), none⟩, ⟨none, (.s (.store 3 (.tmp 10) (.tmp 17))), none⟩, ⟨(some 11), (.q (.move (.tmp 18))), none⟩]) 
    (.seq 
    (.seq 
    (.region [⟨(some 19), (.q (.move (.tmp 11))), none⟩, ⟨(some 20), (.q (.un .not (.tmp 19))), none⟩]) 
    (.cond (.tmp 20) 
    (.seq 
    (.region [⟨(some 8), (.q (.move (.const (.int .i64 0)))), none⟩, ⟨(some 9), (.q (.move (.const (.int .i64 8)))), none⟩]) .ret) .skip)) 
    (.seq 
    (.region [⟨(some 21), (.q (.fieldAddr 2 (.tmp 10))), none⟩, ⟨(some 22), (.q (.load false 1 (.tmp 21))), none⟩, ⟨(some 23), (.q (.bin .mul (.tmp 22) (.const (.int .i64 512)))), none⟩, ⟨(some 12), (.q (.move (.tmp 23))), none⟩]) 
    (.seq 
    (.seq 
    (.region [⟨(some 24), (.q (.move (.tmp 2))), none⟩, ⟨(some 25), (.q (.bin .lss (.tmp 24) (.const (.int .i64 0)))), none⟩, ⟨(some 26), (.q (.move (.tmp 25))), none⟩, ⟨(some 27), (.q (.move (.tmp 3))), (some (26, false))⟩, ⟨(some 28), (.q (.bin .lss (.tmp 27) (.const (.int .i64 0)))), (some (26, false))⟩, ⟨(some 29), (.q (.pick (.tmp 26) (.const (.bool true)) (.tmp 28))), none⟩, ⟨(some 30), (.q (.move (.tmp 29))), none⟩, ⟨(some 31), (.q (.move (.tmp 2))), (some (30, false))⟩, ⟨(some 32), (.q (.move (.tmp 12))), (some (30, false))⟩, ⟨(some 33), (.q (.bin .gtr (.tmp 31) (.tmp 32))), (some (30, false))⟩, ⟨(some 34), (.q (.pick (.tmp 30) (.const (.bool true)) (.tmp 33))), none⟩, ⟨(some 35), (.q (.move (.tmp 34))), none⟩, ⟨(some 36), (.q (.move (.tmp 3))), (some (35, false))⟩, ⟨(some 37), (.q (.move (.tmp 12))), (some (35, false))⟩, ⟨(some 38), (.q (.move (.tmp 2))), (some (35, false))⟩, ⟨(some 39), (.q (.bin .sub (.tmp 37) (.tmp 38))), (some (35, false))⟩, ⟨(some 40), (.q (.bin .gtr (.tmp 36) (.tmp 39))), (some (35, false))⟩, ⟨(some 41), (.q (.pick (.tmp 35) (.const (.bool true)) (.tmp 40))), none⟩]) 
    (.cond (.tmp 41) 
    (.seq 
    (.region [⟨(some 8), (.q (.move (.const (.int .i64 0)))), none⟩, ⟨(some 9), (.q (.move (.const (.int .i64 2)))), none⟩]) .ret) .skip)) 
    (.seq 
    (.region [⟨(some 42), (.q (.fieldAddr 1 (.tmp 10))), none⟩, ⟨(some 43), (.q (.load false 1 (.tmp 42))), none⟩, ⟨(some 44), (.q (.bin .mul (.tmp 43) (.const (.int .i64 512)))), none⟩, ⟨(some 45), (.q (.move (.tmp 2))), none⟩, ⟨(some 46), (.q (.bin .add (.tmp 44) (.tmp 45))), none⟩, ⟨(some 8), (.q (.move (.tmp 46))), none⟩, ⟨(some 9), (.q (.move (.const (.int .i64 0)))), none⟩]) .ret))))))
theorem t93 : Told Try.prog 93 47 c93 [(.tmp 8), (.tmp 9)] := ⟨Try.f93, _, [], Try.func93, rfl, by kernel_rfl, rfl, by kernel_rfl, by kernel_rfl⟩
def c33 : ACode := 
    (.seq 
    (.region [⟨(some 10), (.q (.move (.const (.str (B []))))), none⟩, ⟨(some 11), (.q (.move (.const (.int .i64 0)))), none⟩]) 
    (.seq 
    (.region [⟨(some 15), (.q (.move (.tmp 0))), none⟩, ⟨(some 16), (.q (.move (.tmp 2))), none⟩, ⟨(some 17), (.q (.move (.tmp 3))), none⟩, ⟨(some 18), (.q (.move (.tmp 4))), none⟩, ⟨(some 19), (.s (.call 93 [(.tmp 15), (.tmp 16), (.tmp 17), (.tmp 18)])), none⟩, ⟨(some 14), (.q (.move (.tmp 19))), none⟩, ⟨(some 20), (.q (.extract 0 (.tmp 14))), none⟩, ⟨(some 21), (.q (.extract 1 (.tmp 14))), none⟩, ⟨(some 12), (.q (.move (.tmp 20))), none⟩, ⟨(some 13), (.q (.move (.tmp 21))), none⟩]) 
    (.seq 
    (.seq 
    (.region [⟨(some 22), (.q (.move (.tmp 13))), none⟩, ⟨(some 23), (.q (.bin .neq (.tmp 22) (.const (.int .i64 0)))), none⟩]) 
    (.cond (.tmp 23) 
    (.seq 
    (.region [⟨(some 24), (.q (.move (.tmp 13))), none⟩, ⟨(some 10), (.q (.move (.const (.str (B []))))), none⟩, ⟨(some 11), (.q (.move (.tmp 24))), none⟩]) .ret) .skip)) 
    (.seq 
    (.region [⟨(some 25), (.q (.move (.tmp 1))), none⟩, ⟨(some 26), (.q (.nonil (.tmp 25))), none⟩, ⟨(some 27), (.q (.fieldAddr 0 (.tmp 26))), none⟩, ⟨(some 28), (.q (.load false 1 (.tmp 27))), none⟩, ⟨(some 29), (.q (.move (.tmp 12))), none⟩, ⟨(some 30), (.q (.move (.tmp 4))), none⟩, ⟨(some 31), (.s (.call 74 [(.tmp 28), (.tmp 29), (.tmp 30)])), none⟩, ⟨(some 32), (.q (.extract 0 (.tmp 31))), none⟩, ⟨(some 33), (.q (.extract 1 (.tmp 31))), none⟩, ⟨(some 10), (.q (.move (.tmp 32))), none⟩, ⟨(some 11), (.q (.move (.tmp 33))), none⟩]) .ret))))
theorem t33 : Told Try.prog 33 34 c33 [(.tmp 10), (.tmp 11)] := ⟨Try.f33, _, [], Try.func33, rfl, by kernel_rfl, rfl, by kernel_rfl, by kernel_rfl⟩
def c34 : ACode := 
    (.seq 
    (.region [⟨(some 10), (.q (.move (.const (.int .i64 0)))), none⟩]) 
    (.seq 
    (.region [⟨(some 14), (.q (.move (.tmp 0))), none⟩, ⟨(some 15), (.q (.move (.tmp 2))), none⟩, ⟨(some 16), (.q (.move (.tmp 3))), none⟩, ⟨(some 17), (.q (.move (.tmp 4))), none⟩, ⟨(some 18), (.q (.len true (.tmp 17))), none⟩, ⟨(some 19), (.s (.call 93 [(.tmp 14), (.tmp 15), (.tmp 16), (.tmp 18)])), none⟩, ⟨(some 13), (.q (.move (.tmp 19))), none⟩, ⟨(some 20), (.q (.extract 0 (.tmp 13))), none⟩, ⟨(some 21), (.q (.extract 1 (.tmp 13))), none⟩, ⟨(some 11), (.q (.move (.tmp 20))), none⟩, ⟨(some 12), (.q (.move (.tmp 21))), none⟩]) 
    (.seq 
    (.seq 
    (.region [⟨(some 22), (.q (.move (.tmp 12))), none⟩, ⟨(some 23), (.q (.bin .neq (.tmp 22) (.const (.int .i64 0)))), none⟩]) 
    (.cond (.tmp 23) 
    (.seq 
    (.region [⟨(some 24), (.q (.move (.tmp 12))), none⟩, ⟨(some 10), (.q (.move (.tmp 24))), none⟩]) .ret) .skip)) 
    (.seq 
    (.region [⟨(some 25), (.q (.move (.tmp 1))), none⟩, ⟨(some 26), (.q (.move (.tmp 11))), none⟩, ⟨(some 27), (.q (.move (.tmp 4))), none⟩, ⟨(some 28), (.s (.call 71 [(.tmp 25), (.tmp 26), (.tmp 27)])), none⟩, ⟨(some 10), (.q (.move (.tmp 28))), none⟩]) .ret))))
theorem t34 : Told Try.prog 34 29 c34 [(.tmp 10)] := ⟨Try.f34, _, [], Try.func34, rfl, by kernel_rfl, rfl, by kernel_rfl, by kernel_rfl⟩
def c35 : ACode := 
    (.seq 
    (.region [⟨(some 8), (.q (.move (.const (.int .i64 0)))), none⟩]) 
    (.seq 
    (.region [⟨(some 12), (.q (.move (.tmp 0))), none⟩, ⟨(some 13), (.q (.move (.tmp 2))), none⟩, ⟨(some 14), (.s (.call 94 [(.tmp 12), (.tmp 13)])), none⟩, ⟨(some 11), (.q (.move (.tmp 14))), none⟩, ⟨(some 15), (.q (.extract 0 (.tmp 11))), none⟩, ⟨(some 16), (.q (.extract 1 (.tmp 11))), none⟩, ⟨(some 9), (.s (.alloc 62 [(.str (B [])), (.int .i64 0), (.int .i64 0)])), none⟩, ⟨none, (.s (.store 3 (.tmp 9) (.tmp 15))), none⟩, ⟨(some 10), (.q (.move (.tmp 16))), none⟩]) 
    (.seq 
    (.seq 
    (.region [⟨(some 17), (.q (.move (.tmp 10))), none⟩, ⟨(some 18), (.q (.un .not (.tmp 17))), none⟩]) 
    (.cond (.tmp 18) 
    (.seq 
    (.region [⟨(some 8), (.q (.move (.const (.int .i64 8)))), none⟩]) .ret) .skip)) 
    (.seq 
    (.seq 
    (.region [⟨(some 19), (.q (.move (.tmp 3))), none⟩, ⟨(some 20), (.q (.bin .lss (.tmp 19) (.const (.int .i64 0)))), none⟩, ⟨(some 21), (.q (.move (.tmp 20))), none⟩, ⟨(some 22), (.q (.move (.tmp 3))), (some (21, false))⟩, ⟨(some 23), (.q (.fieldAddr 2 (.tmp 9))), (some (21, false))⟩, ⟨(some 24), (.q (.load false 1 (.tmp 23))), (some (21, false))⟩, ⟨(some 25), (.q (.bin .geq (.tmp 22) (.tmp 24))), (some (21, false))⟩, ⟨(some 26), (.q (.pick (.tmp 21) (.const (.bool true)) (.tmp 25))), none⟩]) 
    (.cond (.tmp 26) 
    (.seq 
    (.region [⟨(some 8), (.q (.move (.const (.int .i64 2)))), none⟩]) .ret) .skip)) 
    (.seq 
    (.region [⟨(some 27), (.q (.move (.tmp 1))), none⟩, ⟨(some 28), (.q (.fieldAddr 1 (.tmp 9))), none⟩, ⟨(some 29), (.q (.load false 1 (.tmp 28))), none⟩, ⟨(some 30), (.q (.move (.tmp 3))), none⟩, ⟨(some 31), (.q (.bin .add (.tmp 29) (.tmp 30))), none⟩, ⟨(some 32), (.s (.call 69 [(.tmp 27), (.tmp 31)])), none⟩, ⟨(some 8), (.q (.move (.tmp 32))), none⟩]) .ret)))))
theorem t35 : Told Try.prog 35 33 c35 [(.tmp 8)] := ⟨Try.f35, _, [], Try.func35, rfl, by kernel_rfl, rfl, by kernel_rfl, by kernel_rfl⟩
def c25 : ACode := 
    (.seq 
    (.region [⟨(some 2), (.q (.move (.const (.bool false)))), none⟩]) 
    (.seq 
    (.seq 
    (.region [⟨(some 3), (.q (.move (.const (.int .i64 0)))), none⟩]) 
    (.block 0 
    (.loop 
    (.seq 
    (.seq 
    (.region [⟨(some 4), (.q (.move (.tmp 3))), none⟩, ⟨(some 5), (.q (.move (.tmp 0))), none⟩, ⟨(some 6), (.q (.len false (.tmp 5))), none⟩, ⟨(some 7), (.q (.bin .lss (.tmp 4) (.tmp 6))), none⟩, ⟨(some 8), (.q (.move (.tmp 7))), none⟩, ⟨(some 9), (.q (.move (.tmp 3))), (some (8, true))⟩, ⟨(some 10), (.q (.bin .lss (.tmp 9) (.const (.int .i64 20)))), (some (8, true))⟩, ⟨(some 11), (.q (.pick (.tmp 8) (.tmp 10) (.const (.bool false)))), none⟩]) 
    (.cond (.tmp 11) .skip (.exit 0))) 
    (.seq 
    (.block 1 
    (.seq 
    (.region [⟨(some 14), (.q (.move (.tmp 0))), none⟩, ⟨(some 15), (.q (.move (.tmp 3))), none⟩, ⟨(some 16), (.q (.idxSl 3 (.tmp 14) (.tmp 15))), none⟩, ⟨(some 17), (.q (.fieldAddr 0 (.tmp 16))), none⟩, ⟨(some 18), (.q (.load false 1 (.tmp 17))), none⟩, ⟨(some 19), (.q (.len true (.tmp 18))), none⟩, ⟨(some 20), (.q (.bin .gtr (.tmp 19) (.const (.int .i64 100)))), none⟩]) 
    (.cond (.tmp 20) 
    (.seq 
    (.region [⟨(some 2), (.q (.move (.const (.bool false)))), none⟩]) .ret) .skip))) 
    (.region [⟨(some 12), (.q (.move (.tmp 3))), none⟩, ⟨(some 13), (.q (.bin .add (.tmp 12) (.const (.int .i64 1)))), none⟩, ⟨(some 3), (.q (.move (.tmp 13))), none⟩])))))) 
    (.seq 
    (.region [⟨(some 21), (.q (.move (.tmp 0))), none⟩, ⟨(some 22), (.q (.len false (.tmp 21))), none⟩, ⟨(some 23), (.q (.bin .leq (.tmp 22) (.const (.int .i64 20)))), none⟩, ⟨(some 2), (.q (.move (.tmp 23))), none⟩]) .ret)))
theorem t25 : Told Try.prog 25 24 c25 [(.tmp 2)] := ⟨Try.f25, _, [], Try.func25, rfl, by kernel_rfl, rfl, by kernel_rfl, by kernel_rfl⟩
def c81 : ACode := 
    (.seq 
    (.region [⟨(some 4), (.q (.move (.const (.bool false)))), none⟩]) 
    (.seq 
    (.seq 
    (.region [⟨(some 6), (.q (.move (.tmp 0))), none⟩, ⟨(some 7), (.q (.len false (.tmp 6))), none⟩, ⟨(some 8), (.q (.move (.tmp 1))), none⟩, ⟨(some 9), (.q (.len false (.tmp 8))), none⟩, ⟨(some 10), (.q (.bin .neq (.tmp 7) (.tmp 9))), none⟩]) 
    (.cond (.tmp 10) 
    (.seq 
    (.region [⟨(some 4), (.q (.move (.const (.bool false)))), none⟩]) .ret) .skip)) 
    (.seq 
    (.seq 
    (.region [⟨(some 5), (.q (.move (.const (.int .i64 0)))), none⟩]) 
    (.block 0 
    (.loop 
    (.seq 
    (.seq 
    (.region [⟨(some 11), (.q (.move (.tmp 5))), none⟩, ⟨(some 12), (.q (.move (.tmp 0))), none⟩, ⟨(some 13), (.q (.len false (.tmp 12))), none⟩, ⟨(some 14), (.q (.bin .lss (.tmp 11) (.tmp 13))), none⟩, ⟨(some 15), (.q (.move (.tmp 14))), none⟩, ⟨(some 16), (.q (.move (.tmp 5))), (some (15, true))⟩, ⟨(some 17), (.q (.move (.tmp 1))), (some (15, true))⟩, ⟨(some 18), (.q (.len false (.tmp 17))), (some (15, true))⟩, ⟨(some 19), (.q (.bin .lss (.tmp 16) (.tmp 18))), (some (15, true))⟩, ⟨(some 20), (.q (.pick (.tmp 15) (.tmp 19) (.const (.bool false)))), none⟩]) 
    (.cond (.tmp 20) .skip (.exit 0))) 
    (.seq 
    (.block 1 
    (.seq 
    (.region [⟨(some 23), (.q (.move (.tmp 0))), none⟩, ⟨(some 24), (.q (.move (.tmp 5))), none⟩, ⟨(some 25), (.q (.idxSl 1 (.tmp 23) (.tmp 24))), none⟩, ⟨(some 26), (.q (.load false 1 (.tmp 25))), none⟩, ⟨(some 27), (.q (.move (.tmp 1))), none⟩, ⟨(some 28), (.q (.move (.tmp 5))), none⟩, ⟨(some 29), (.q (.idxSl 1 (.tmp 27) (.tmp 28))), none⟩, ⟨(some 30), (.q (.load false 1 (.tmp 29))), none⟩, ⟨(some 31), (.q (.bin .neq (.tmp 26) (.tmp 30))), none⟩]) 
    (.cond (.tmp 31) 
    (.seq 
    (.region [⟨(some 4), (.q (.move (.const (.bool false)))), none⟩]) .ret) .skip))) 
    (.region [⟨(some 21), (.q (.move (.tmp 5))), none⟩, ⟨(some 22), (.q (.bin .add (.tmp 21) (.const (.int .i64 1)))), none⟩, ⟨(some 5), (.q (.move (.tmp 22))), none⟩])))))) 
    (.seq 
    (.region [⟨(some 4), (.q (.move (.const (.bool true)))), none⟩]) .ret))))
theorem t81 : Told Try.prog 81 32 c81 [(.tmp 4)] := ⟨Try.f81, _, [], Try.func81, rfl, by kernel_rfl, rfl, by kernel_rfl, by kernel_rfl⟩
def c27 : ACode := 
    (.seq 
    (.region [⟨(some 0), (.q (.move (.const (.bool false)))), none⟩]) 
    (.seq 
    (.region [⟨(some 10), (.q (.build [(.str (B [])), (.int .i64 0), (.int .i64 0)] [(0, (1, (.const (.str (B [97]))))), (1, (1, (.const (.int .i64 4)))), (2, (1, (.const (.int .i64 2))))])), none⟩, ⟨(some 11), (.q (.build [(.str (B [])), (.int .i64 0), (.int .i64 0)] [(0, (1, (.const (.str (B [98]))))), (1, (1, (.const (.int .i64 6)))), (2, (1, (.const (.int .i64 1))))])), none⟩, ⟨(some 12), (.s (.lit 62 3 [(.tmp 10), (.tmp 11)])), none⟩, ⟨(some 13), (.s (.call 28 [(.tmp 12)])), none⟩, ⟨(some 9), (.q (.move (.tmp 13))), none⟩, ⟨(some 14), (.q (.extract 0 (.tmp 9))), none⟩, ⟨(some 15), (.q (.extract 1 (.tmp 9))), none⟩, ⟨(some 1), (.q (.move (.tmp 14))), none⟩, ⟨(some 2), (.q (.move (.tmp 15))), none⟩]) 
    (.seq 
    (.region [⟨(some 17), (.q (.build [(.str (B [])), (.int .i64 0), (.int .i64 0)] [(0, (1, (.const (.str (B [97]))))), (1, (1, (.const (.int .i64 4)))), (2, (1, (.const (.int .i64 2))))])), none⟩, ⟨(some 18), (.q (.build [(.str (B [])), (.int .i64 0), (.int .i64 0)] [(0, (1, (.const (.str (B [98]))))), (1, (1, (.const (.int .i64 5)))), (2, (1, (.const (.int .i64 1))))])), none⟩, ⟨(some 19), (.s (.lit 62 3 [(.tmp 17), (.tmp 18)])), none⟩, ⟨(some 20), (.s (.call 28 [(.tmp 19)])), none⟩, ⟨(some 16), (.q (.move (.tmp 20))), none⟩, ⟨(some 21), (.q (.extract 0 (.tmp 16))), none⟩, ⟨(some 22), (.q (.extract 1 (.tmp 16))), none⟩, ⟨(some 3), (.q (.move (.tmp 21))), none⟩, ⟨(some 4), (.q (.move (.tmp 22))), none⟩]) 
    (.seq 
    (.region [⟨(some 23), (.s (.call 29 [])), none⟩, ⟨(some 24), (.s (.call 16 [(.tmp 23), (.const .nils)])), none⟩, ⟨(some 5), (.q (.move (.tmp 24))), none⟩]) 
    (.seq 
    (.region [⟨(some 25), (.q (.move (.tmp 1))), none⟩, ⟨(some 26), (.q (.move (.tmp 5))), none⟩, ⟨(some 27), (.s (.call 30 [(.tmp 25), (.tmp 26), (.const (.str (B [97]))), (.const (.int .i64 1023)), (.const (.str (B [120])))])), none⟩, ⟨(some 6), (.q (.move (.tmp 27))), none⟩]) 
    (.seq 
    (.region [⟨(some 29), (.q (.move (.tmp 5))), none⟩, ⟨(some 30), (.s (.call 65 [(.tmp 29), (.const (.int .i64 3071)), (.const (.int .i64 1))])), none⟩, ⟨(some 28), (.q (.move (.tmp 30))), none⟩, ⟨(some 31), (.q (.extract 0 (.tmp 28))), none⟩, ⟨(some 32), (.q (.extract 1 (.tmp 28))), none⟩, ⟨(some 7), (.q (.move (.tmp 31))), none⟩, ⟨(some 8), (.q (.move (.tmp 32))), none⟩]) 
    (.seq 
    (.region [⟨(some 33), (.q (.move (.tmp 2))), none⟩, ⟨(some 34), (.q (.bin .eql (.tmp 33) (.const (.int .i64 0)))), none⟩, ⟨(some 35), (.q (.move (.tmp 34))), none⟩, ⟨(some 36), (.q (.move (.tmp 4))), (some (35, true))⟩, ⟨(some 37), (.q (.bin .eql (.tmp 36) (.const (.int .i64 12)))), (some (35, true))⟩, ⟨(some 38), (.q (.pick (.tmp 35) (.tmp 37) (.const (.bool false)))), none⟩, ⟨(some 39), (.q (.move (.tmp 38))), none⟩, ⟨(some 40), (.q (.move (.tmp 6))), (some (39, true))⟩, ⟨(some 41), (.q (.bin .eql (.tmp 40) (.const (.int .i64 0)))), (some (39, true))⟩, ⟨(some 42), (.q (.pick (.tmp 39) (.tmp 41) (.const (.bool false)))), none⟩, ⟨(some 43), (.q (.move (.tmp 42))), none⟩, ⟨(some 44), (.q (.move (.tmp 7))), (some (43, true))⟩, ⟨(some 45), (.q (.bin .eql (.tmp 44) (.const (.str (B [120]))))), (some (43, true))⟩, ⟨(some 46), (.q (.pick (.tmp 43) (.tmp 45) (.const (.bool false)))), none⟩, ⟨(some 47), (.q (.move (.tmp 46))), none⟩, ⟨(some 48), (.q (.move (.tmp 8))), (some (47, true))⟩, ⟨(some 49), (.q (.bin .eql (.tmp 48) (.const (.int .i64 0)))), (some (47, true))⟩, ⟨(some 50), (.q (.pick (.tmp 47) (.tmp 49) (.const (.bool false)))), none⟩, ⟨(some 51), (.q (.move (.tmp 50))), none⟩, ⟨(some 52), (.q (.move (.tmp 1))), (some (51, true))⟩, ⟨(some 53), (.s (.call 80 [(.tmp 52), (.const (.str (B [97])))])), (some (51, true))⟩, ⟨(some 54), (.q (.bin .eql (.tmp 53) (.const (.int .i64 1024)))), (some (51, true))⟩, ⟨(some 55), (.q (.pick (.tmp 51) (.tmp 54) (.const (.bool false)))), none⟩, ⟨(some 56), (.q (.move (.tmp 55))), none⟩, ⟨(some 57), (.q (.move (.tmp 1))), (some (56, true))⟩, ⟨(some 58), (.s (.lit 9 1 [(.const (.str (B [98]))), (.const (.str (B [97])))])), (some (56, true))⟩, ⟨(some 59), (.s (.call 82 [(.tmp 57), (.tmp 58)])), (some (56, true))⟩, ⟨(some 60), (.s (.lit 3 1 [(.const (.int .i64 6)), (.const (.int .i64 4)), (.const (.int .i64 5))])), (some (56, true))⟩, ⟨(some 61), (.s (.call 81 [(.tmp 59), (.tmp 60)])), (some (56, true))⟩, ⟨(some 62), (.q (.pick (.tmp 56) (.tmp 61) (.const (.bool false)))), none⟩, ⟨(some 63), (.q (.move (.tmp 62))), none⟩, ⟨(some 64), (.q (.move (.tmp 1))), (some (63, true))⟩, ⟨(some 65), (.q (.move (.tmp 5))), (some (63, true))⟩, ⟨(some 66), (.s (.call 31 [(.tmp 64), (.tmp 65), (.const (.str (B [98]))), (.const (.int .i64 1))])), (some (63, true))⟩, ⟨(some 67), (.q (.bin .eql (.tmp 66) (.const (.int .i64 2)))), (some (63, true))⟩, ⟨(some 68), (.q (.pick (.tmp 63) (.tmp 67) (.const (.bool false)))), none⟩, ⟨(some 69), (.q (.move (.tmp 68))), none⟩, ⟨(some 70), (.q (.move (.tmp 1))), (some (69, true))⟩, ⟨(some 71), (.q (.move (.tmp 5))), (some (69, true))⟩, ⟨(some 72), (.s (.call 30 [(.tmp 70), (.tmp 71), (.const (.str (B [99]))), (.const (.int .i64 0)), (.const (.str (B [])))])), (some (69, true))⟩, ⟨(some 73), (.q (.bin .eql (.tmp 72) (.const (.int .i64 8)))), (some (69, true))⟩, ⟨(some 74), (.q (.pick (.tmp 69) (.tmp 73) (.const (.bool false)))), none⟩, ⟨(some 0), (.q (.move (.tmp 74))), none⟩]) .ret)))))))
theorem t27 : Told Try.prog 27 75 c27 [(.tmp 0)] := ⟨Try.f27, _, [], Try.func27, rfl, by kernel_rfl, rfl, by kernel_rfl, by kernel_rfl⟩
def c5 : ACode := 
    (.seq 
    (.region [⟨(some 6), (.q (.move (.const (.bool false)))), none⟩]) 
    (.seq 
    (.seq 
    (.region [⟨(some 18), (.q (.move (.tmp 0))), none⟩, ⟨(some 19), (.s (.call 25 [(.tmp 18)])), none⟩, ⟨(some 20), (.q (.un .not (.tmp 19))), none⟩, ⟨(some 21), (.q (.move (.tmp 20))), none⟩, ⟨(some 22), (.q (.move (.tmp 0))), (some (21, false))⟩, ⟨(some 23), (.s (.call 26 [(.tmp 22)])), (some (21, false))⟩, ⟨(some 24), (.q (.bin .neq (.tmp 23) (.const (.int .i64 0)))), (some (21, false))⟩, ⟨(some 25), (.q (.pick (.tmp 21) (.const (.bool true)) (.tmp 24))), none⟩, ⟨(some 26), (.q (.move (.tmp 25))), none⟩, ⟨(some 27), (.q (.move (.tmp 1))), (some (26, false))⟩, ⟨(some 28), (.q (.len false (.tmp 27))), (some (26, false))⟩, ⟨(some 29), (.q (.bin .gtr (.tmp 28) (.const (.int .i64 12)))), (some (26, false))⟩, ⟨(some 30), (.q (.pick (.tmp 26) (.const (.bool true)) (.tmp 29))), none⟩]) 
    (.cond (.tmp 30) 
    (.seq 
    (.region [⟨(some 31), (.s (.call 27 [])), none⟩, ⟨(some 6), (.q (.move (.tmp 31))), none⟩]) .ret) .skip)) 
    (.seq 
    (.region [⟨(some 33), (.q (.move (.tmp 0))), none⟩, ⟨(some 34), (.s (.call 28 [(.tmp 33)])), none⟩, ⟨(some 32), (.q (.move (.tmp 34))), none⟩, ⟨(some 35), (.q (.extract 0 (.tmp 32))), none⟩, ⟨(some 36), (.q (.extract 1 (.tmp 32))), none⟩, ⟨(some 7), (.q (.move (.tmp 35))), none⟩, ⟨(some 8), (.q (.move (.tmp 36))), none⟩]) 
    (.seq 
    (.seq 
    (.region [⟨(some 37), (.q (.move (.tmp 8))), none⟩, ⟨(some 38), (.q (.bin .neq (.tmp 37) (.const (.int .i64 0)))), none⟩]) 
    (.cond (.tmp 38) 
    (.seq 
    (.region [⟨(some 6), (.q (.move (.const (.bool false)))), none⟩]) .ret) .skip)) 
    (.seq 
    (.region [⟨(some 39), (.s (.call 29 [])), none⟩, ⟨(some 9), (.q (.move (.tmp 39))), none⟩]) 
    (.seq 
    (.region [⟨(some 40), (.q (.move (.tmp 9))), none⟩, ⟨(some 41), (.q (.move (.tmp 2))), none⟩, ⟨(some 42), (.s (.lit 3 1 [(.tmp 41)])), none⟩, ⟨(some 43), (.s (.call 16 [(.tmp 40), (.tmp 42)])), none⟩, ⟨(some 10), (.q (.move (.tmp 43))), none⟩]) 
    (.seq 
    (.region [⟨(some 44), (.s (.call 17 [(.const (.str (B [])))])), none⟩, ⟨(some 45), (.q (.move (.tmp 2))), none⟩, ⟨(some 46), (.s (.lit 3 1 [(.tmp 45)])), none⟩, ⟨(some 47), (.q (.build [.nilp, .nils] [(0, (1, (.tmp 44))), (1, (1, (.tmp 46)))])), none⟩, ⟨(some 48), (.s (.box 34 (.tmp 47))), none⟩, ⟨(some 11), (.q (.move (.tmp 48))), none⟩]) 
    (.seq 
    (.seq 
    (.region [⟨(some 12), (.q (.move (.const (.int .i64 0)))), none⟩]) 
    (.block 0 
    (.loop 
    (.seq 
    (.seq 
    (.region [⟨(some 49), (.q (.move (.tmp 12))), none⟩, ⟨(some 50), (.q (.move (.tmp 1))), none⟩, ⟨(some 51), (.q (.len false (.tmp 50))), none⟩, ⟨(some 52), (.q (.bin .lss (.tmp 49) (.tmp 51))), none⟩]) 
    (.cond (.tmp 52) .skip (.exit 0))) 
    (.seq 
    (.block 1 
    (.seq 
    (.region [⟨(some 55), (.q (.move (.tmp 1))), none⟩, ⟨(some 56), (.q (.move (.tmp 12))), none⟩, ⟨(some 57), (.q (.idxSl 5 (.tmp 55) (.tmp 56))), none⟩, ⟨(some 58), (.q (.load true 5 (.tmp 57))), none⟩, ⟨(some 13), (.s (.alloc 64 [(.int .i64 0), (.str (B [])), (.int .i64 0), (.int .i64 0), (.str (B []))])), none⟩, ⟨none, (.s (.store 5 (.tmp 13) (.tmp 58))), none⟩]) 
    (.seq 
    (.seq 
    (.region [⟨(some 59), (.q (.fieldAddr 4 (.tmp 13))), none⟩, ⟨(some 60), (.q (.load false 1 (.tmp 59))), none⟩, ⟨(some 61), (.q (.len true (.tmp 60))), none⟩, ⟨(some 62), (.q (.bin .gtr (.tmp 61) (.const (.int .i64 200)))), none⟩]) 
    (.cond (.tmp 62) 
    (.seq 
    (.region [⟨(some 63), (.s (.call 27 [])), none⟩, ⟨(some 6), (.q (.move (.tmp 63))), none⟩]) .ret) .skip)) 
    (.seq 
    (.region [⟨(some 64), (.q (.fieldAddr 0 (.tmp 13))), none⟩, ⟨(some 65), (.q (.load false 1 (.tmp 64))), none⟩]) 
    (.block 2 
    (.seq 
    (.region [⟨(some 67), (.q (.bin .eql (.tmp 65) (.const (.int .i64 1)))), none⟩, ⟨(some 66), (.q (.move (.tmp 67))), none⟩]) 
    (.cond (.tmp 66) 
    (.seq 
    (.region [⟨(some 69), (.q (.move (.tmp 7))), none⟩, ⟨(some 70), (.q (.move (.tmp 10))), none⟩, ⟨(some 71), (.q (.fieldAddr 1 (.tmp 13))), none⟩, ⟨(some 72), (.q (.load false 1 (.tmp 71))), none⟩, ⟨(some 73), (.q (.fieldAddr 2 (.tmp 13))), none⟩, ⟨(some 74), (.q (.load false 1 (.tmp 73))), none⟩, ⟨(some 75), (.q (.fieldAddr 3 (.tmp 13))), none⟩, ⟨(some 76), (.q (.load false 1 (.tmp 75))), none⟩, ⟨(some 77), (.s (.call 32 [(.tmp 69), (.tmp 70), (.tmp 72), (.tmp 74), (.tmp 76)])), none⟩, ⟨(some 68), (.q (.move (.tmp 77))), none⟩, ⟨(some 78), (.q (.extract 0 (.tmp 68))), none⟩, ⟨(some 79), (.q (.extract 1 (.tmp 68))), none⟩, ⟨(some 14), (.q (.move (.tmp 78))), none⟩, ⟨(some 15), (.q (.move (.tmp 79))), none⟩]) 
    (.seq 
    (.region [⟨(some 81), (.q (.move (.tmp 0))), none⟩, ⟨(some 82), (.q (.move (.tmp 11))), none⟩, ⟨(some 83), (.q (.fieldAddr 1 (.tmp 13))), none⟩, ⟨(some 84), (.q (.load false 1 (.tmp 83))), none⟩, ⟨(some 85), (.q (.fieldAddr 2 (.tmp 13))), none⟩, ⟨(some 86), (.q (.load false 1 (.tmp 85))), none⟩, ⟨(some 87), (.q (.fieldAddr 3 (.tmp 13))), none⟩, ⟨(some 88), (.q (.load false 1 (.tmp 87))), none⟩, ⟨(some 89), (.s (.call 33 [(.tmp 81), (.tmp 82), (.tmp 84), (.tmp 86), (.tmp 88)])), none⟩, ⟨(some 80), (.q (.move (.tmp 89))), none⟩, ⟨(some 90), (.q (.extract 0 (.tmp 80))), none⟩, ⟨(some 91), (.q (.extract 1 (.tmp 80))), none⟩, ⟨(some 16), (.q (.move (.tmp 90))), none⟩, ⟨(some 17), (.q (.move (.tmp 91))), none⟩]) 
    (.seq 
    (.region [⟨(some 92), (.q (.move (.tmp 14))), none⟩, ⟨(some 93), (.q (.move (.tmp 16))), none⟩, ⟨(some 94), (.q (.bin .neq (.tmp 92) (.tmp 93))), none⟩, ⟨(some 95), (.q (.move (.tmp 94))), none⟩, ⟨(some 96), (.q (.move (.tmp 15))), (some (95, false))⟩, ⟨(some 97), (.q (.move (.tmp 17))), (some (95, false))⟩, ⟨(some 98), (.q (.bin .neq (.tmp 96) (.tmp 97))), (some (95, false))⟩, ⟨(some 99), (.q (.pick (.tmp 95) (.const (.bool true)) (.tmp 98))), none⟩]) 
    (.cond (.tmp 99) 
    (.seq 
    (.region [⟨(some 6), (.q (.move (.const (.bool false)))), none⟩]) .ret) .skip)))) 
    (.seq 
    (.region [⟨(some 101), (.q (.bin .eql (.tmp 65) (.const (.int .i64 2)))), none⟩, ⟨(some 100), (.q (.move (.tmp 101))), none⟩]) 
    (.cond (.tmp 100) 
    (.seq (.fregion [13] [⟨(some 102), (.q (.move (.tmp 7))), none⟩, ⟨(some 103), (.q (.move (.tmp 10))), none⟩, ⟨(some 104), (.q (.fieldAddr 1 (.tmp 13))), none⟩, ⟨(some 105), (.q (.load false 1 (.tmp 104))), none⟩, ⟨(some 106), (.q (.fieldAddr 2 (.tmp 13))), none⟩, ⟨(some 107), (.q (.load false 1 (.tmp 106))), none⟩, ⟨(some 108), (.q (.fieldAddr 4 (.tmp 13))), none⟩, ⟨(some 109), (.q (.load false 1 (.tmp 108))), none⟩, ⟨(some 111), (.q (.move (.tmp 0))), none⟩, ⟨(some 112), (.q (.move (.tmp 11))), none⟩, ⟨(some 113), (.q (.fieldAddr 1 (.tmp 13))), none⟩, ⟨(some 114), (.q (.loadr false 1 (.tmp 113))), none⟩, ⟨(some 115), (.q (.fieldAddr 2 (.tmp 13))), none⟩, ⟨(some 116), (.q (.loadr false 1 (.tmp 115))), none⟩, ⟨(some 117), (.q (.fieldAddr 4 (.tmp 13))), none⟩, ⟨(some 118), (.q (.loadr false 1 (.tmp 117))), none⟩, ⟨(some 110), (.s (.call 30 [(.tmp 102), (.tmp 103), (.tmp 105), (.tmp 107), (.tmp 109)])), none⟩, ⟨(some 119), (.s (.call 34 [(.tmp 111), (.tmp 112), (.tmp 114), (.tmp 116), (.tmp 118)])), none⟩, ⟨(some 120), (.q (.bin .neq (.tmp 110) (.tmp 119))), none⟩]) 
    (.cond (.tmp 120) 
    (.seq 
    (.region [⟨(some 6), (.q (.move (.const (.bool false)))), none⟩]) .ret) .skip)) 
    (.seq 
    (.region [⟨(some 122), (.q (.bin .eql (.tmp 65) (.const (.int .i64 3)))), none⟩, ⟨(some 121), (.q (.move (.tmp 122))), none⟩]) 
    (.cond (.tmp 121) 
    (.seq (.fregion [13] [⟨(some 123), (.q (.move (.tmp 7))), none⟩, ⟨(some 124), (.q (.move (.tmp 10))), none⟩, ⟨(some 125), (.q (.fieldAddr 1 (.tmp 13))), none⟩, ⟨(some 126), (.q (.load false 1 (.tmp 125))), none⟩, ⟨(some 127), (.q (.fieldAddr 2 (.tmp 13))), none⟩, ⟨(some 128), (.q (.load false 1 (.tmp 127))), none⟩, ⟨(some 130), (.q (.move (.tmp 0))), none⟩, ⟨(some 131), (.q (.move (.tmp 11))), none⟩, ⟨(some 132), (.q (.fieldAddr 1 (.tmp 13))), none⟩, ⟨(some 133), (.q (.loadr false 1 (.tmp 132))), none⟩, ⟨(some 134), (.q (.fieldAddr 2 (.tmp 13))), none⟩, ⟨(some 135), (.q (.loadr false 1 (.tmp 134))), none⟩, ⟨(some 129), (.s (.call 31 [(.tmp 123), (.tmp 124), (.tmp 126), (.tmp 128)])), none⟩, ⟨(some 136), (.s (.call 35 [(.tmp 130), (.tmp 131), (.tmp 133), (.tmp 135)])), none⟩, ⟨(some 137), (.q (.bin .neq (.tmp 129) (.tmp 136))), none⟩]) 
    (.cond (.tmp 137) 
    (.seq 
    (.region [⟨(some 6), (.q (.move (.const (.bool false)))), none⟩]) .ret) .skip)) .skip))))))))))) 
    (.region [⟨(some 53), (.q (.move (.tmp 12))), none⟩, ⟨(some 54), (.q (.bin .add (.tmp 53) (.const (.int .i64 1)))), none⟩, ⟨(some 12), (.q (.move (.tmp 54))), none⟩])))))) 
    (.seq 
    (.region [⟨(some 138), (.q (.move (.tmp 9))), none⟩, ⟨(some 139), (.c (.fn 20) [(.tmp 138)]), none⟩, ⟨(some 140), (.q (.move (.tmp 11))), none⟩, ⟨(some 141), (.q (.nonil (.tmp 140))), none⟩, ⟨(some 142), (.q (.fieldAddr 0 (.tmp 141))), none⟩, ⟨(some 143), (.q (.load false 1 (.tmp 142))), none⟩, ⟨(some 144), (.q (.nonil (.tmp 143))), none⟩, ⟨(some 145), (.q (.fieldAddr 0 (.tmp 144))), none⟩, ⟨(some 146), (.q (.load false 1 (.tmp 145))), none⟩, ⟨(some 147), (.q (.bin .eql (.tmp 139) (.tmp 146))), none⟩, ⟨(some 148), (.q (.move (.tmp 147))), none⟩, ⟨(some 149), (.s (.call 27 [])), (some (148, true))⟩, ⟨(some 150), (.q (.pick (.tmp 148) (.tmp 149) (.const (.bool false)))), none⟩, ⟨(some 6), (.q (.move (.tmp 150))), none⟩]) .ret)))))))))
theorem t5 : Told Try.prog 5 151 c5 [(.tmp 6)] := ⟨Try.f5, _, [23000013, 26000013], Try.func5, rfl, by kernel_rfl, rfl, by kernel_rfl, by kernel_rfl⟩
def c4 : ACode := 
    (.seq 
    (.region [⟨(some 6), (.q (.move (.const (.bool false)))), none⟩]) 
    (.seq 
    (.seq 
    (.region [⟨(some 19), (.q (.move (.tmp 0))), none⟩, ⟨(some 20), (.s (.call 25 [(.tmp 19)])), none⟩, ⟨(some 21), (.q (.un .not (.tmp 20))), none⟩, ⟨(some 22), (.q (.move (.tmp 21))), none⟩, ⟨(some 23), (.q (.move (.tmp 0))), (some (22, false))⟩, ⟨(some 24), (.s (.call 26 [(.tmp 23)])), (some (22, false))⟩, ⟨(some 25), (.q (.bin .neq (.tmp 24) (.const (.int .i64 0)))), (some (22, false))⟩, ⟨(some 26), (.q (.pick (.tmp 22) (.const (.bool true)) (.tmp 25))), none⟩, ⟨(some 27), (.q (.move (.tmp 26))), none⟩, ⟨(some 28), (.q (.move (.tmp 2))), (some (27, false))⟩, ⟨(some 29), (.q (.len false (.tmp 28))), (some (27, false))⟩, ⟨(some 30), (.q (.bin .gtr (.tmp 29) (.const (.int .i64 12)))), (some (27, false))⟩, ⟨(some 31), (.q (.pick (.tmp 27) (.const (.bool true)) (.tmp 30))), none⟩, ⟨(some 32), (.q (.move (.tmp 31))), none⟩, ⟨(some 33), (.q (.move (.tmp 1))), (some (32, false))⟩, ⟨(some 34), (.q (.len true (.tmp 33))), (some (32, false))⟩, ⟨(some 35), (.q (.bin .gtr (.tmp 34) (.const (.int .i64 100)))), (some (32, false))⟩, ⟨(some 36), (.q (.pick (.tmp 32) (.const (.bool true)) (.tmp 35))), none⟩]) 
    (.cond (.tmp 36) 
    (.seq 
    (.region [⟨(some 37), (.s (.call 27 [])), none⟩, ⟨(some 6), (.q (.move (.tmp 37))), none⟩]) .ret) .skip)) 
    (.seq 
    (.region [⟨(some 39), (.q (.move (.tmp 0))), none⟩, ⟨(some 40), (.s (.call 28 [(.tmp 39)])), none⟩, ⟨(some 38), (.q (.move (.tmp 40))), none⟩, ⟨(some 41), (.q (.extract 0 (.tmp 38))), none⟩, ⟨(some 42), (.q (.extract 1 (.tmp 38))), none⟩, ⟨(some 7), (.q (.move (.tmp 41))), none⟩, ⟨(some 8), (.q (.move (.tmp 42))), none⟩]) 
    (.seq 
    (.seq 
    (.region [⟨(some 43), (.q (.move (.tmp 8))), none⟩, ⟨(some 44), (.q (.bin .neq (.tmp 43) (.const (.int .i64 0)))), none⟩]) 
    (.cond (.tmp 44) 
    (.seq 
    (.region [⟨(some 6), (.q (.move (.const (.bool false)))), none⟩]) .ret) .skip)) 
    (.seq 
    (.region [⟨(some 45), (.s (.call 29 [])), none⟩, ⟨(some 9), (.q (.move (.tmp 45))), none⟩]) 
    (.seq 
    (.region [⟨(some 46), (.q (.move (.tmp 9))), none⟩, ⟨(some 47), (.s (.call 16 [(.tmp 46), (.const .nils)])), none⟩, ⟨(some 10), (.q (.move (.tmp 47))), none⟩]) 
    (.seq 
    (.seq 
    (.region [⟨(some 11), (.q (.move (.const (.int .i64 0)))), none⟩]) 
    (.block 0 
    (.loop 
    (.seq 
    (.seq 
    (.region [⟨(some 48), (.q (.move (.tmp 11))), none⟩, ⟨(some 49), (.q (.move (.tmp 0))), none⟩, ⟨(some 50), (.q (.len false (.tmp 49))), none⟩, ⟨(some 51), (.q (.bin .lss (.tmp 48) (.tmp 50))), none⟩]) 
    (.cond (.tmp 51) .skip (.exit 0))) 
    (.seq 
    (.block 1 
    (.region [⟨(some 54), (.q (.move (.tmp 7))), none⟩, ⟨(some 55), (.q (.move (.tmp 10))), none⟩, ⟨(some 56), (.q (.move (.tmp 0))), none⟩, ⟨(some 57), (.q (.move (.tmp 11))), none⟩, ⟨(some 58), (.q (.idxSl 3 (.tmp 56) (.tmp 57))), none⟩, ⟨(some 59), (.q (.fieldAddr 0 (.tmp 58))), none⟩, ⟨(some 60), (.q (.load false 1 (.tmp 59))), none⟩, ⟨(some 61), (.s (.call 30 [(.tmp 54), (.tmp 55), (.tmp 60), (.const (.int .i64 0)), (.const (.str (B [115, 111, 109, 101, 32, 98, 121, 116, 101, 115, 32, 111, 102, 32, 105, 116])))])), none⟩])) 
    (.region [⟨(some 52), (.q (.move (.tmp 11))), none⟩, ⟨(some 53), (.q (.bin .add (.tmp 52) (.const (.int .i64 1)))), none⟩, ⟨(some 11), (.q (.move (.tmp 53))), none⟩])))))) 
    (.seq 
    (.region [⟨(some 62), (.q (.move (.tmp 9))), none⟩, ⟨(some 63), (.s (.call 20 [(.tmp 62)])), none⟩, ⟨(some 12), (.q (.move (.tmp 63))), none⟩]) 
    (.seq 
    (.seq 
    (.region [⟨(some 13), (.q (.move (.const (.int .i64 0)))), none⟩]) 
    (.block 2 
    (.loop 
    (.seq 
    (.seq 
    (.region [⟨(some 64), (.q (.move (.tmp 13))), none⟩, ⟨(some 65), (.q (.move (.tmp 2))), none⟩, ⟨(some 66), (.q (.len false (.tmp 65))), none⟩, ⟨(some 67), (.q (.bin .lss (.tmp 64) (.tmp 66))), none⟩]) 
    (.cond (.tmp 67) .skip (.exit 2))) 
    (.seq 
    (.block 3 
    (.seq 
    (.region [⟨(some 70), (.q (.move (.tmp 2))), none⟩, ⟨(some 71), (.q (.move (.tmp 13))), none⟩, ⟨(some 72), (.q (.idxSl 5 (.tmp 70) (.tmp 71))), none⟩, ⟨(some 73), (.q (.load true 5 (.tmp 72))), none⟩, ⟨(some 14), (.s (.alloc 64 [(.int .i64 0), (.str (B [])), (.int .i64 0), (.int .i64 0), (.str (B []))])), none⟩, ⟨none, (.s (.store 5 (.tmp 14) (.tmp 73))), none⟩]) 
    (.seq 
    (.seq 
    (.region [⟨(some 74), (.q (.fieldAddr 4 (.tmp 14))), none⟩, ⟨(some 75), (.q (.load false 1 (.tmp 74))), none⟩, ⟨(some 76), (.q (.len true (.tmp 75))), none⟩, ⟨(some 77), (.q (.bin .gtr (.tmp 76) (.const (.int .i64 200)))), none⟩]) 
    (.cond (.tmp 77) 
    (.seq 
    (.region [⟨(some 78), (.s (.call 27 [])), none⟩, ⟨(some 6), (.q (.move (.tmp 78))), none⟩]) .ret) .skip)) 
    (.seq 
    (.region [⟨(some 79), (.q (.fieldAddr 0 (.tmp 14))), none⟩, ⟨(some 80), (.q (.load false 1 (.tmp 79))), none⟩, ⟨(some 81), (.q (.bin .eql (.tmp 80) (.const (.int .i64 2)))), none⟩]) 
    (.cond (.tmp 81) 
    (.region [⟨(some 82), (.q (.move (.tmp 7))), none⟩, ⟨(some 83), (.q (.move (.tmp 10))), none⟩, ⟨(some 84), (.q (.move (.tmp 1))), none⟩, ⟨(some 85), (.q (.fieldAddr 2 (.tmp 14))), none⟩, ⟨(some 86), (.q (.load false 1 (.tmp 85))), none⟩, ⟨(some 87), (.q (.fieldAddr 4 (.tmp 14))), none⟩, ⟨(some 88), (.q (.load false 1 (.tmp 87))), none⟩, ⟨(some 89), (.s (.call 30 [(.tmp 82), (.tmp 83), (.tmp 84), (.tmp 86), (.tmp 88)])), none⟩]) 
    (.region [⟨(some 90), (.q (.move (.tmp 7))), none⟩, ⟨(some 91), (.q (.move (.tmp 10))), none⟩, ⟨(some 92), (.q (.move (.tmp 1))), none⟩, ⟨(some 93), (.q (.fieldAddr 2 (.tmp 14))), none⟩, ⟨(some 94), (.q (.load false 1 (.tmp 93))), none⟩, ⟨(some 95), (.s (.call 31 [(.tmp 90), (.tmp 91), (.tmp 92), (.tmp 94)])), none⟩])))))) 
    (.region [⟨(some 68), (.q (.move (.tmp 13))), none⟩, ⟨(some 69), (.q (.bin .add (.tmp 68) (.const (.int .i64 1)))), none⟩, ⟨(some 13), (.q (.move (.tmp 69))), none⟩])))))) 
    (.seq 
    (.region [⟨(some 96), (.q (.move (.tmp 9))), none⟩, ⟨(some 97), (.s (.call 20 [(.tmp 96)])), none⟩, ⟨(some 15), (.q (.move (.tmp 97))), none⟩]) 
    (.seq 
    (.seq 
    (.region [⟨(some 98), (.q (.move (.tmp 12))), none⟩, ⟨(some 99), (.q (.len true (.tmp 98))), none⟩, ⟨(some 100), (.q (.bin .neq (.tmp 99) (.const (.int .i64 24576)))), none⟩, ⟨(some 101), (.q (.move (.tmp 100))), none⟩, ⟨(some 102), (.q (.move (.tmp 15))), (some (101, false))⟩, ⟨(some 103), (.q (.len true (.tmp 102))), (some (101, false))⟩, ⟨(some 104), (.q (.move (.tmp 12))), (some (101, false))⟩, ⟨(some 105), (.q (.len true (.tmp 104))), (some (101, false))⟩, ⟨(some 106), (.q (.bin .neq (.tmp 103) (.tmp 105))), (some (101, false))⟩, ⟨(some 107), (.q (.pick (.tmp 101) (.const (.bool true)) (.tmp 106))), none⟩]) 
    (.cond (.tmp 107) 
    (.seq 
    (.region [⟨(some 6), (.q (.move (.const (.bool false)))), none⟩]) .ret) .skip)) 
    (.seq 
    (.seq 
    (.region [⟨(some 16), (.q (.move (.const (.int .i64 0)))), none⟩]) 
    (.block 4 
    (.loop 
    (.seq 
    (.seq 
    (.region [⟨(some 108), (.q (.move (.tmp 16))), none⟩, ⟨(some 109), (.q (.bin .lss (.tmp 108) (.const (.int .i64 48)))), none⟩]) 
    (.cond (.tmp 109) .skip (.exit 4))) 
    (.seq 
    (.block 5 
    (.seq 
    (.region [⟨(some 17), (.q (.move (.const (.bool false)))), none⟩]) 
    (.seq 
    (.seq 
    (.region [⟨(some 18), (.q (.move (.const (.int .i64 0)))), none⟩]) 
    (.block 6 
    (.loop 
    (.seq 
    (.seq 
    (.region [⟨(some 112), (.q (.move (.tmp 18))), none⟩, ⟨(some 113), (.q (.move (.tmp 0))), none⟩, ⟨(some 114), (.q (.len false (.tmp 113))), none⟩, ⟨(some 115), (.q (.bin .lss (.tmp 112) (.tmp 114))), none⟩]) 
    (.cond (.tmp 115) .skip (.exit 6))) 
    (.seq 
    (.block 7 
    (.region [⟨(some 118), (.q (.move (.tmp 17))), none⟩, ⟨(some 119), (.q (.move (.tmp 118))), none⟩, ⟨(some 120), (.q (.move (.tmp 0))), (some (119, false))⟩, ⟨(some 121), (.q (.move (.tmp 18))), (some (119, false))⟩, ⟨(some 122), (.q (.idxSl 3 (.tmp 120) (.tmp 121))), (some (119, false))⟩, ⟨(some 123), (.q (.fieldAddr 0 (.tmp 122))), (some (119, false))⟩, ⟨(some 124), (.q (.load false 1 (.tmp 123))), (some (119, false))⟩, ⟨(some 125), (.q (.move (.tmp 1))), (some (119, false))⟩, ⟨(some 126), (.q (.bin .eql (.tmp 124) (.tmp 125))), (some (119, false))⟩, ⟨(some 127), (.q (.move (.tmp 126))), (some (119, false))⟩, ⟨(some 128), (.q (.move (.tmp 16))), (some (127, true))⟩, ⟨(some 129), (.q (.move (.tmp 0))), (some (127, true))⟩, ⟨(some 130), (.q (.move (.tmp 18))), (some (127, true))⟩, ⟨(some 131), (.q (.idxSl 3 (.tmp 129) (.tmp 130))), (some (127, true))⟩, ⟨(some 132), (.q (.fieldAddr 1 (.tmp 131))), (some (127, true))⟩, ⟨(some 133), (.q (.load false 1 (.tmp 132))), (some (127, true))⟩, ⟨(some 134), (.q (.bin .geq (.tmp 128) (.tmp 133))), (some (127, true))⟩, ⟨(some 135), (.q (.pick (.tmp 127) (.tmp 134) (.const (.bool false)))), (some (119, false))⟩, ⟨(some 136), (.q (.move (.tmp 135))), (some (119, false))⟩, ⟨(some 137), (.q (.move (.tmp 16))), (some (136, true))⟩, ⟨(some 138), (.q (.move (.tmp 0))), (some (136, true))⟩, ⟨(some 139), (.q (.move (.tmp 18))), (some (136, true))⟩, ⟨(some 140), (.q (.idxSl 3 (.tmp 138) (.tmp 139))), (some (136, true))⟩, ⟨(some 141), (.q (.fieldAddr 1 (.tmp 140))), (some (136, true))⟩, ⟨(some 142), (.q (.load false 1 (.tmp 141))), (some (136, true))⟩, ⟨(some 143), (.q (.bin .sub (.tmp 137) (.tmp 142))), (some (136, true))⟩, ⟨(some 144), (.q (.move (.tmp 0))), (some (136, true))⟩, ⟨(some 145), (.q (.move (.tmp 18))), (some (136, true))⟩, ⟨(some 146), (.q (.idxSl 3 (.tmp 144) (.tmp 145))), (some (136, true))⟩, ⟨(some 147), (.q (.fieldAddr 2 (.tmp 146))), (some (136, true))⟩, ⟨(some 148), (.q (.load false 1 (.tmp 147))), (some (136, true))⟩, ⟨(some 149), (.q (.bin .lss (.tmp 143) (.tmp 148))), (some (136, true))⟩, ⟨(some 150), (.q (.pick (.tmp 136) (.tmp 149) (.const (.bool false)))), (some (119, false))⟩, ⟨(some 151), (.q (.pick (.tmp 119) (.const (.bool true)) (.tmp 150))), none⟩, ⟨(some 17), (.q (.move (.tmp 151))), none⟩])) 
    (.region [⟨(some 116), (.q (.move (.tmp 18))), none⟩, ⟨(some 117), (.q (.bin .add (.tmp 116) (.const (.int .i64 1)))), none⟩, ⟨(some 18), (.q (.move (.tmp 117))), none⟩])))))) 
    (.seq 
    (.region [⟨(some 152), (.q (.move (.tmp 17))), none⟩, ⟨(some 153), (.q (.un .not (.tmp 152))), none⟩, ⟨(some 154), (.q (.move (.tmp 153))), none⟩, ⟨(some 155), (.q (.move (.tmp 15))), (some (154, true))⟩, ⟨(some 156), (.q (.move (.tmp 16))), (some (154, true))⟩, ⟨(some 157), (.q (.bin .mul (.tmp 156) (.const (.int .i64 512)))), (some (154, true))⟩, ⟨(some 158), (.q (.move (.tmp 16))), (some (154, true))⟩, ⟨(some 159), (.q (.bin .add (.tmp 158) (.const (.int .i64 1)))), (some (154, true))⟩, ⟨(some 160), (.q (.bin .mul (.tmp 159) (.const (.int .i64 512)))), (some (154, true))⟩, ⟨(some 161), (.q (.sliceStr (.tmp 155) (some (.tmp 157)) (some (.tmp 160)))), (some (154, true))⟩, ⟨(some 162), (.q (.move (.tmp 12))), (some (154, true))⟩, ⟨(some 163), (.q (.move (.tmp 16))), (some (154, true))⟩, ⟨(some 164), (.q (.bin .mul (.tmp 163) (.const (.int .i64 512)))), (some (154, true))⟩, ⟨(some 165), (.q (.move (.tmp 16))), (some (154, true))⟩, ⟨(some 166), (.q (.bin .add (.tmp 165) (.const (.int .i64 1)))), (some (154, true))⟩, ⟨(some 167), (.q (.bin .mul (.tmp 166) (.const (.int .i64 512)))), (some (154, true))⟩, ⟨(some 168), (.q (.sliceStr (.tmp 162) (some (.tmp 164)) (some (.tmp 167)))), (some (154, true))⟩, ⟨(some 169), (.q (.bin .neq (.tmp 161) (.tmp 168))), (some (154, true))⟩, ⟨(some 170), (.q (.pick (.tmp 154) (.tmp 169) (.const (.bool false)))), none⟩]) 
    (.cond (.tmp 170) 
    (.seq 
    (.region [⟨(some 6), (.q (.move (.const (.bool false)))), none⟩]) .ret) .skip))))) 
    (.region [⟨(some 110), (.q (.move (.tmp 16))), none⟩, ⟨(some 111), (.q (.bin .add (.tmp 110) (.const (.int .i64 1)))), none⟩, ⟨(some 16), (.q (.move (.tmp 111))), none⟩])))))) 
    (.seq 
    (.region [⟨(some 171), (.s (.call 27 [])), none⟩, ⟨(some 6), (.q (.move (.tmp 171))), none⟩]) .ret)))))))))))))
end Go.Proofs.Ytfilheaaacffmaa.AL

