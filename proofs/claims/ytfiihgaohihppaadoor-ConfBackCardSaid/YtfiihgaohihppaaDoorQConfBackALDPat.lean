/- The code of paths, told. -/
import Derived.Test.YtfiihgaohihppaaDoorQConfBackALA3
import Derived.Test.YtfiihgaohihppaaDoorProg
import Derived.KernelRfl
set_option maxRecDepth 100000
namespace Go.Proofs.YtfiihgaohihppaaDoor.AL
open Go Go.Proofs
def c120 : ACode := 
    (.seq 
    (.region [⟨(some 4), (.q (.move (.const (.bool false)))), none⟩]) 
    (.seq 
    (.region [⟨(some 5), (.q (.move (.tmp 0))), none⟩, ⟨(some 6), (.q (.len true (.tmp 5))), none⟩, ⟨(some 7), (.q (.move (.tmp 1))), none⟩, ⟨(some 8), (.q (.len true (.tmp 7))), none⟩, ⟨(some 9), (.q (.bin .geq (.tmp 6) (.tmp 8))), none⟩, ⟨(some 10), (.q (.move (.tmp 9))), none⟩, ⟨(some 11), (.q (.move (.tmp 0))), (some (10, true))⟩, ⟨(some 12), (.q (.move (.tmp 1))), (some (10, true))⟩, ⟨(some 13), (.q (.len true (.tmp 12))), (some (10, true))⟩, ⟨(some 14), (.q (.sliceStr (.tmp 11) none (some (.tmp 13)))), (some (10, true))⟩, ⟨(some 15), (.q (.move (.tmp 1))), (some (10, true))⟩, ⟨(some 16), (.q (.bin .eql (.tmp 14) (.tmp 15))), (some (10, true))⟩, ⟨(some 17), (.q (.pick (.tmp 10) (.tmp 16) (.const (.bool false)))), none⟩, ⟨(some 4), (.q (.move (.tmp 17))), none⟩]) .ret))
theorem t120 : Told Tryd.prog 120 18 c120 [(.tmp 4)] := ⟨Tryd.f120, _, [], Tryd.func120, rfl, by kernel_rfl, rfl, by kernel_rfl, by kernel_rfl⟩
def c98 : ACode := 
    (.seq 
    (.region [⟨(some 4), (.q (.move (.const (.str (B []))))), none⟩, ⟨(some 5), (.q (.move (.const (.bool false)))), none⟩]) 
    (.seq 
    (.seq 
    (.region [⟨(some 6), (.q (.move (.tmp 0))), none⟩, ⟨(some 7), (.q (.move (.tmp 1))), none⟩, ⟨(some 8), (.s (.call 120 [(.tmp 6), (.tmp 7)])), none⟩, ⟨(some 9), (.q (.un .not (.tmp 8))), none⟩]) 
    (.cond (.tmp 9) 
    (.seq 
    (.region [⟨(some 10), (.q (.move (.tmp 0))), none⟩, ⟨(some 4), (.q (.move (.tmp 10))), none⟩, ⟨(some 5), (.q (.move (.const (.bool false)))), none⟩]) .ret) .skip)) 
    (.seq 
    (.region [⟨(some 11), (.q (.move (.tmp 0))), none⟩, ⟨(some 12), (.q (.move (.tmp 1))), none⟩, ⟨(some 13), (.q (.len true (.tmp 12))), none⟩, ⟨(some 14), (.q (.sliceStr (.tmp 11) (some (.tmp 13)) none)), none⟩, ⟨(some 4), (.q (.move (.tmp 14))), none⟩, ⟨(some 5), (.q (.move (.const (.bool true)))), none⟩]) .ret)))
theorem t98 : Told Tryd.prog 98 15 c98 [(.tmp 4), (.tmp 5)] := ⟨Tryd.f98, _, [], Tryd.func98, rfl, by kernel_rfl, rfl, by kernel_rfl, by kernel_rfl⟩
def c51 : ACode := 
    (.seq 
    (.region [⟨(some 4), (.q (.move (.const (.str (B []))))), none⟩, ⟨(some 5), (.q (.move (.const (.bool false)))), none⟩]) 
    (.seq 
    (.region [⟨(some 6), (.q (.move (.tmp 0))), none⟩, ⟨(some 7), (.q (.move (.tmp 1))), none⟩, ⟨(some 8), (.s (.call 98 [(.tmp 6), (.tmp 7)])), none⟩, ⟨(some 9), (.q (.extract 0 (.tmp 8))), none⟩, ⟨(some 10), (.q (.extract 1 (.tmp 8))), none⟩, ⟨(some 4), (.q (.move (.tmp 9))), none⟩, ⟨(some 5), (.q (.move (.tmp 10))), none⟩]) .ret))
theorem t51 : Told Tryd.prog 51 11 c51 [(.tmp 4), (.tmp 5)] := ⟨Tryd.f51, _, [], Tryd.func51, rfl, by kernel_rfl, rfl, by kernel_rfl, by kernel_rfl⟩
def c100 : ACode := 
    (.seq 
    (.region [⟨(some 4), (.q (.move (.const (.int .i64 0)))), none⟩]) 
    (.seq 
    (.seq 
    (.region [⟨(some 6), (.q (.move (.tmp 0))), none⟩, ⟨(some 7), (.q (.len false (.tmp 6))), none⟩, ⟨(some 8), (.q (.move (.const (.int .i64 0)))), none⟩]) 
    (.block 0 
    (.loop 
    (.seq 
    (.region [⟨(some 9), (.q (.bin .lss (.tmp 8) (.tmp 7))), none⟩]) 
    (.seq 
    (.cond (.tmp 9) .skip (.exit 0)) 
    (.seq 
    (.block 1 
    (.seq 
    (.region [⟨(some 10), (.q (.move (.tmp 8))), none⟩, ⟨(some 5), (.q (.move (.tmp 10))), none⟩]) 
    (.seq 
    (.region [⟨(some 11), (.q (.move (.tmp 1))), none⟩, ⟨(some 12), (.q (.move (.tmp 0))), none⟩, ⟨(some 13), (.q (.move (.tmp 5))), none⟩, ⟨(some 14), (.q (.idxSl 1 (.tmp 12) (.tmp 13))), none⟩, ⟨(some 15), (.q (.load false 1 (.tmp 14))), none⟩, ⟨(some 16), (.q (.bin .eql (.tmp 11) (.tmp 15))), none⟩]) 
    (.cond (.tmp 16) 
    (.seq 
    (.region [⟨(some 17), (.q (.move (.tmp 5))), none⟩, ⟨(some 4), (.q (.move (.tmp 17))), none⟩]) .ret) .skip)))) 
    (.region [⟨(some 18), (.q (.bin .add (.tmp 8) (.const (.int .i64 1)))), none⟩, ⟨(some 8), (.q (.move (.tmp 18))), none⟩]))))))) 
    (.seq 
    (.region [⟨(some 4), (.q (.move (.const (.int .i64 (-1))))), none⟩]) .ret)))
theorem t100 : Told Tryd.prog 100 19 c100 [(.tmp 4)] := ⟨Tryd.f100, _, [], Tryd.func100, rfl, by kernel_rfl, rfl, by kernel_rfl, by kernel_rfl⟩
def c53 : ACode := 
    (.seq 
    (.region [⟨(some 4), (.q (.move (.const (.bool false)))), none⟩]) 
    (.seq 
    (.region [⟨(some 5), (.q (.move (.tmp 0))), none⟩, ⟨(some 6), (.q (.move (.tmp 1))), none⟩, ⟨(some 7), (.s (.call 100 [(.tmp 5), (.tmp 6)])), none⟩, ⟨(some 8), (.q (.bin .geq (.tmp 7) (.const (.int .i64 0)))), none⟩, ⟨(some 4), (.q (.move (.tmp 8))), none⟩]) .ret))
theorem t53 : Told Tryd.prog 53 9 c53 [(.tmp 4)] := ⟨Tryd.f53, _, [], Tryd.func53, rfl, by kernel_rfl, rfl, by kernel_rfl, by kernel_rfl⟩
def c57 : ACode := 
    (.seq 
    (.region [⟨(some 4), (.q (.move (.const (.int .i64 0)))), none⟩]) 
    (.seq 
    (.seq 
    (.region [⟨(some 6), (.q (.move (.tmp 0))), none⟩, ⟨(some 7), (.q (.len false (.tmp 6))), none⟩, ⟨(some 8), (.q (.move (.const (.int .i64 0)))), none⟩]) 
    (.block 0 
    (.loop 
    (.seq 
    (.region [⟨(some 9), (.q (.bin .lss (.tmp 8) (.tmp 7))), none⟩]) 
    (.seq 
    (.cond (.tmp 9) .skip (.exit 0)) 
    (.seq 
    (.block 1 
    (.seq 
    (.region [⟨(some 10), (.q (.move (.tmp 8))), none⟩, ⟨(some 5), (.q (.move (.tmp 10))), none⟩]) 
    (.seq 
    (.region [⟨(some 11), (.q (.move (.tmp 1))), none⟩, ⟨(some 12), (.q (.move (.tmp 0))), none⟩, ⟨(some 13), (.q (.move (.tmp 5))), none⟩, ⟨(some 14), (.q (.idxSl 3 (.tmp 12) (.tmp 13))), none⟩, ⟨(some 15), (.q (.load true 3 (.tmp 14))), none⟩, ⟨(some 16), (.s (.callv (.tmp 11) [(.tmp 15)])), none⟩]) 
    (.cond (.tmp 16) 
    (.seq 
    (.region [⟨(some 17), (.q (.move (.tmp 5))), none⟩, ⟨(some 4), (.q (.move (.tmp 17))), none⟩]) .ret) .skip)))) 
    (.region [⟨(some 18), (.q (.bin .add (.tmp 8) (.const (.int .i64 1)))), none⟩, ⟨(some 8), (.q (.move (.tmp 18))), none⟩]))))))) 
    (.seq 
    (.region [⟨(some 4), (.q (.move (.const (.int .i64 (-1))))), none⟩]) .ret)))
theorem t57 : Told Tryd.prog 57 19 c57 [(.tmp 4)] := ⟨Tryd.f57, _, [], Tryd.func57, rfl, by kernel_rfl, rfl, by kernel_rfl, by kernel_rfl⟩
def c60 : ACode := 
    (.seq 
    (.region [⟨(some 4), (.q (.move (.const (.int .i64 0)))), none⟩]) 
    (.seq 
    (.seq 
    (.region [⟨(some 6), (.q (.move (.tmp 0))), none⟩, ⟨(some 7), (.q (.len false (.tmp 6))), none⟩, ⟨(some 8), (.q (.move (.const (.int .i64 0)))), none⟩]) 
    (.block 0 
    (.loop 
    (.seq 
    (.region [⟨(some 9), (.q (.bin .lss (.tmp 8) (.tmp 7))), none⟩]) 
    (.seq 
    (.cond (.tmp 9) .skip (.exit 0)) 
    (.seq 
    (.block 1 
    (.seq 
    (.region [⟨(some 10), (.q (.move (.tmp 8))), none⟩, ⟨(some 5), (.q (.move (.tmp 10))), none⟩]) 
    (.seq 
    (.region [⟨(some 11), (.q (.move (.tmp 1))), none⟩, ⟨(some 12), (.q (.move (.tmp 0))), none⟩, ⟨(some 13), (.q (.move (.tmp 5))), none⟩, ⟨(some 14), (.q (.idxSl 2 (.tmp 12) (.tmp 13))), none⟩, ⟨(some 15), (.q (.load true 2 (.tmp 14))), none⟩, ⟨(some 16), (.s (.callv (.tmp 11) [(.tmp 15)])), none⟩]) 
    (.cond (.tmp 16) 
    (.seq 
    (.region [⟨(some 17), (.q (.move (.tmp 5))), none⟩, ⟨(some 4), (.q (.move (.tmp 17))), none⟩]) .ret) .skip)))) 
    (.region [⟨(some 18), (.q (.bin .add (.tmp 8) (.const (.int .i64 1)))), none⟩, ⟨(some 8), (.q (.move (.tmp 18))), none⟩]))))))) 
    (.seq 
    (.region [⟨(some 4), (.q (.move (.const (.int .i64 (-1))))), none⟩]) .ret)))
theorem t60 : Told Tryd.prog 60 19 c60 [(.tmp 4)] := ⟨Tryd.f60, _, [], Tryd.func60, rfl, by kernel_rfl, rfl, by kernel_rfl, by kernel_rfl⟩
def c12 : ACode := 
    (.seq 
    (.region [⟨(some 2), (.q (.move (.const .nils))), none⟩, ⟨(some 3), (.q (.move (.const (.bool false)))), none⟩]) 
    (.seq 
    (.seq 
    (.region [⟨(some 7), (.q (.move (.tmp 0))), none⟩, ⟨(some 8), (.q (.bin .eql (.tmp 7) (.const (.str (B [47]))))), none⟩]) 
    (.cond (.tmp 8) 
    (.seq 
    (.region [⟨(some 2), (.q (.move (.const .nils))), none⟩, ⟨(some 3), (.q (.move (.const (.bool true)))), none⟩]) .ret) .skip)) 
    (.seq 
    (.region [⟨(some 10), (.q (.move (.tmp 0))), none⟩, ⟨(some 11), (.s (.call 51 [(.tmp 10), (.const (.str (B [47])))])), none⟩, ⟨(some 9), (.q (.move (.tmp 11))), none⟩, ⟨(some 12), (.q (.extract 0 (.tmp 9))), none⟩, ⟨(some 13), (.q (.extract 1 (.tmp 9))), none⟩, ⟨(some 4), (.q (.move (.tmp 12))), none⟩, ⟨(some 5), (.q (.move (.tmp 13))), none⟩]) 
    (.seq 
    (.region [⟨(some 14), (.q (.move (.tmp 4))), none⟩, ⟨(some 15), (.s (.call 52 [(.tmp 14), (.const (.str (B [47])))])), none⟩, ⟨(some 6), (.q (.move (.tmp 15))), none⟩]) 
    (.seq 
    (.seq 
    (.region [⟨(some 16), (.q (.move (.tmp 5))), none⟩, ⟨(some 17), (.q (.un .not (.tmp 16))), none⟩, ⟨(some 18), (.q (.move (.tmp 17))), none⟩, ⟨(some 19), (.q (.move (.tmp 6))), (some (18, false))⟩, ⟨(some 20), (.q (.len false (.tmp 19))), (some (18, false))⟩, ⟨(some 21), (.q (.bin .geq (.tmp 20) (.const (.int .i64 8)))), (some (18, false))⟩, ⟨(some 22), (.q (.pick (.tmp 18) (.const (.bool true)) (.tmp 21))), none⟩, ⟨(some 23), (.q (.move (.tmp 22))), none⟩, ⟨(some 24), (.q (.move (.tmp 6))), (some (23, false))⟩, ⟨(some 25), (.s (.call 53 [(.tmp 24), (.const (.str (B [])))])), (some (23, false))⟩, ⟨(some 26), (.q (.pick (.tmp 23) (.const (.bool true)) (.tmp 25))), none⟩]) 
    (.cond (.tmp 26) 
    (.seq 
    (.region [⟨(some 2), (.q (.move (.const .nils))), none⟩, ⟨(some 3), (.q (.move (.const (.bool false)))), none⟩]) .ret) .skip)) 
    (.seq 
    (.region [⟨(some 27), (.q (.move (.tmp 6))), none⟩, ⟨(some 2), (.q (.move (.tmp 27))), none⟩, ⟨(some 3), (.q (.move (.const (.bool true)))), none⟩]) .ret))))))
theorem t12 : Told Tryd.prog 12 28 c12 [(.tmp 2), (.tmp 3)] := ⟨Tryd.f12, _, [], Tryd.func12, rfl, by kernel_rfl, rfl, by kernel_rfl, by kernel_rfl⟩
def c20 : ACode := 
    (.seq 
    (.region [⟨(some 2), (.s (.box 34 (.tmp 0))), none⟩, ⟨(some 3), (.s (.box 9 (.tmp 1))), none⟩, ⟨(some 4), (.s (.alloc 34 [(.str (B [])), .nils, .nils])), none⟩, ⟨(some 5), (.q (.move (.const (.bool false)))), none⟩]) 
    (.seq 
    (.region [⟨(some 7), (.q (.fieldAddr 2 (.tmp 2))), none⟩, ⟨(some 8), (.q (.load false 1 (.tmp 7))), none⟩, ⟨(some 9), (.q (.mkFunc (.func 58) [] [(.tmp 3)])), none⟩, ⟨(some 10), (.s (.call 57 [(.tmp 8), (.tmp 9)])), none⟩, ⟨(some 6), (.q (.move (.tmp 10))), none⟩]) 
    (.seq 
    (.seq 
    (.region [⟨(some 11), (.q (.move (.tmp 6))), none⟩, ⟨(some 12), (.q (.bin .lss (.tmp 11) (.const (.int .i64 0)))), none⟩]) 
    (.cond (.tmp 12) 
    (.seq 
    (.region [⟨(some 13), (.q (.build [(.str (B [])), .nils, .nils] [])), none⟩, ⟨none, (.s (.store 3 (.tmp 4) (.tmp 13))), none⟩, ⟨(some 5), (.q (.move (.const (.bool false)))), none⟩]) .ret) .skip)) 
    (.seq 
    (.region [⟨(some 14), (.q (.fieldAddr 2 (.tmp 2))), none⟩, ⟨(some 15), (.q (.load false 1 (.tmp 14))), none⟩, ⟨(some 16), (.q (.move (.tmp 6))), none⟩, ⟨(some 17), (.q (.idxSl 3 (.tmp 15) (.tmp 16))), none⟩, ⟨(some 18), (.q (.load true 3 (.tmp 17))), none⟩, ⟨none, (.s (.store 3 (.tmp 4) (.tmp 18))), none⟩, ⟨(some 5), (.q (.move (.const (.bool true)))), none⟩]) .ret))))
theorem t20 : Told Tryd.prog 20 19 c20 [(.cell 4 true 3), (.tmp 5)] := ⟨Tryd.f20, _, [], Tryd.func20, rfl, by kernel_rfl, rfl, by kernel_rfl, by kernel_rfl⟩
def c58 : ACode := 
    (.seq 
    (.region [⟨(some 2), (.s (.box 34 (.tmp 0))), none⟩, ⟨(some 3), (.q (.move (.const (.bool false)))), none⟩]) 
    (.seq 
    (.region [⟨(some 4), (.q (.fieldAddr 0 (.tmp 2))), none⟩, ⟨(some 5), (.q (.load false 1 (.tmp 4))), none⟩, ⟨(some 6), (.q (.load false 1 (.tmp 1))), none⟩, ⟨(some 7), (.q (.bin .eql (.tmp 5) (.tmp 6))), none⟩, ⟨(some 3), (.q (.move (.tmp 7))), none⟩]) .ret))
theorem t58 : Told Tryd.prog 58 8 c58 [(.tmp 3)] := ⟨Tryd.f58, _, [], Tryd.func58, rfl, by kernel_rfl, rfl, by kernel_rfl, by kernel_rfl⟩
def c18 : ACode := 
    (.seq 
    (.region [⟨(some 2), (.s (.box 34 (.tmp 0))), none⟩, ⟨(some 4), (.s (.alloc 34 [(.str (B [])), .nils, .nils])), none⟩, ⟨(some 5), (.q (.move (.const (.bool false)))), none⟩]) 
    (.seq 
    (.region [⟨(some 11), (.q (.move (.tmp 1))), none⟩, ⟨(some 12), (.s (.call 12 [(.tmp 11)])), none⟩, ⟨(some 10), (.q (.move (.tmp 12))), none⟩, ⟨(some 13), (.q (.extract 0 (.tmp 10))), none⟩, ⟨(some 14), (.q (.extract 1 (.tmp 10))), none⟩, ⟨(some 6), (.q (.move (.tmp 13))), none⟩, ⟨(some 7), (.q (.move (.tmp 14))), none⟩]) 
    (.seq 
    (.seq 
    (.region [⟨(some 15), (.q (.move (.tmp 6))), none⟩, ⟨(some 16), (.q (.len false (.tmp 15))), none⟩, ⟨(some 17), (.q (.move (.const (.int .i64 0)))), none⟩]) 
    (.block 0 
    (.loop 
    (.seq 
    (.region [⟨(some 18), (.q (.bin .lss (.tmp 17) (.tmp 16))), none⟩]) 
    (.seq 
    (.cond (.tmp 18) .skip (.exit 0)) 
    (.seq 
    (.block 1 
    (.seq 
    (.region [⟨(some 19), (.q (.idxSl 1 (.tmp 15) (.tmp 17))), none⟩, ⟨(some 20), (.q (.load false 1 (.tmp 19))), none⟩, ⟨(some 9), (.q (.move (.tmp 20))), none⟩]) 
    (.seq 
    (.region [⟨(some 21), (.q (.move (.tmp 7))), none⟩]) 
    (.cond (.tmp 21) 
    (.region [⟨(some 23), (.q (.load true 3 (.tmp 2))), none⟩, ⟨(some 24), (.q (.move (.tmp 9))), none⟩, ⟨(some 25), (.s (.call 20 [(.tmp 23), (.tmp 24)])), none⟩, ⟨(some 22), (.q (.move (.tmp 25))), none⟩, ⟨(some 26), (.q (.extract 0 (.tmp 22))), none⟩, ⟨(some 27), (.q (.extract 1 (.tmp 22))), none⟩, ⟨none, (.s (.store 3 (.tmp 2) (.tmp 26))), none⟩, ⟨(some 7), (.q (.move (.tmp 27))), none⟩]) .skip)))) 
    (.region [⟨(some 28), (.q (.bin .add (.tmp 17) (.const (.int .i64 1)))), none⟩, ⟨(some 17), (.q (.move (.tmp 28))), none⟩]))))))) 
    (.seq 
    (.seq 
    (.region [⟨(some 29), (.q (.move (.tmp 7))), none⟩, ⟨(some 30), (.q (.un .not (.tmp 29))), none⟩]) 
    (.cond (.tmp 30) 
    (.seq 
    (.region [⟨(some 31), (.q (.build [(.str (B [])), .nils, .nils] [])), none⟩, ⟨none, (.s (.store 3 (.tmp 4) (.tmp 31))), none⟩, ⟨(some 5), (.q (.move (.const (.bool false)))), none⟩]) .ret) .skip)) 
    (.seq 
    (.region [⟨(some 32), (.q (.load true 3 (.tmp 2))), none⟩, ⟨none, (.s (.store 3 (.tmp 4) (.tmp 32))), none⟩, ⟨(some 5), (.q (.move (.const (.bool true)))), none⟩]) .ret)))))
theorem t18 : Told Tryd.prog 18 33 c18 [(.cell 4 true 3), (.tmp 5)] := ⟨Tryd.f18, _, [], Tryd.func18, rfl, by kernel_rfl, rfl, by kernel_rfl, by kernel_rfl⟩
def c23 : ACode := 
    (.seq 
    (.region [⟨(some 2), (.s (.box 34 (.tmp 0))), none⟩, ⟨(some 3), (.s (.box 9 (.tmp 1))), none⟩, ⟨(some 4), (.q (.move (.const (.str (B []))))), none⟩, ⟨(some 5), (.q (.move (.const (.bool false)))), none⟩]) 
    (.seq 
    (.region [⟨(some 7), (.q (.fieldAddr 1 (.tmp 2))), none⟩, ⟨(some 8), (.q (.load false 1 (.tmp 7))), none⟩, ⟨(some 9), (.q (.mkFunc (.func 61) [] [(.tmp 3)])), none⟩, ⟨(some 10), (.s (.call 60 [(.tmp 8), (.tmp 9)])), none⟩, ⟨(some 6), (.q (.move (.tmp 10))), none⟩]) 
    (.seq 
    (.seq 
    (.region [⟨(some 11), (.q (.move (.tmp 6))), none⟩, ⟨(some 12), (.q (.bin .lss (.tmp 11) (.const (.int .i64 0)))), none⟩]) 
    (.cond (.tmp 12) 
    (.seq 
    (.region [⟨(some 4), (.q (.move (.const (.str (B []))))), none⟩, ⟨(some 5), (.q (.move (.const (.bool false)))), none⟩]) .ret) .skip)) 
    (.seq 
    (.region [⟨(some 13), (.q (.fieldAddr 1 (.tmp 2))), none⟩, ⟨(some 14), (.q (.load false 1 (.tmp 13))), none⟩, ⟨(some 15), (.q (.move (.tmp 6))), none⟩, ⟨(some 16), (.q (.idxSl 2 (.tmp 14) (.tmp 15))), none⟩, ⟨(some 17), (.q (.fieldAddr 1 (.tmp 16))), none⟩, ⟨(some 18), (.q (.load false 1 (.tmp 17))), none⟩, ⟨(some 4), (.q (.move (.tmp 18))), none⟩, ⟨(some 5), (.q (.move (.const (.bool true)))), none⟩]) .ret))))
theorem t23 : Told Tryd.prog 23 19 c23 [(.tmp 4), (.tmp 5)] := ⟨Tryd.f23, _, [], Tryd.func23, rfl, by kernel_rfl, rfl, by kernel_rfl, by kernel_rfl⟩
def c61 : ACode := 
    (.seq 
    (.region [⟨(some 2), (.s (.box 80 (.tmp 0))), none⟩, ⟨(some 3), (.q (.move (.const (.bool false)))), none⟩]) 
    (.seq 
    (.region [⟨(some 4), (.q (.fieldAddr 0 (.tmp 2))), none⟩, ⟨(some 5), (.q (.load false 1 (.tmp 4))), none⟩, ⟨(some 6), (.q (.load false 1 (.tmp 1))), none⟩, ⟨(some 7), (.q (.bin .eql (.tmp 5) (.tmp 6))), none⟩, ⟨(some 3), (.q (.move (.tmp 7))), none⟩]) .ret))
theorem t61 : Told Tryd.prog 61 8 c61 [(.tmp 3)] := ⟨Tryd.f61, _, [], Tryd.func61, rfl, by kernel_rfl, rfl, by kernel_rfl, by kernel_rfl⟩
def c25 : ACode := 
    (.seq 
    (.region [⟨(some 3), (.s (.box 34 (.tmp 0))), none⟩, ⟨(some 6), (.q (.move (.const (.str (B []))))), none⟩, ⟨(some 7), (.q (.move (.const (.bool false)))), none⟩]) 
    (.seq 
    (.region [⟨(some 13), (.q (.load true 3 (.tmp 3))), none⟩, ⟨(some 14), (.q (.move (.tmp 1))), none⟩, ⟨(some 15), (.s (.call 18 [(.tmp 13), (.tmp 14)])), none⟩, ⟨(some 12), (.q (.move (.tmp 15))), none⟩, ⟨(some 16), (.q (.extract 0 (.tmp 12))), none⟩, ⟨(some 17), (.q (.extract 1 (.tmp 12))), none⟩, ⟨(some 8), (.s (.alloc 34 [(.str (B [])), .nils, .nils])), none⟩, ⟨none, (.s (.store 3 (.tmp 8) (.tmp 16))), none⟩, ⟨(some 9), (.q (.move (.tmp 17))), none⟩]) 
    (.seq 
    (.region [⟨(some 19), (.q (.load true 3 (.tmp 8))), none⟩, ⟨(some 20), (.q (.move (.tmp 2))), none⟩, ⟨(some 21), (.s (.call 23 [(.tmp 19), (.tmp 20)])), none⟩, ⟨(some 18), (.q (.move (.tmp 21))), none⟩, ⟨(some 22), (.q (.extract 0 (.tmp 18))), none⟩, ⟨(some 23), (.q (.extract 1 (.tmp 18))), none⟩, ⟨(some 10), (.q (.move (.tmp 22))), none⟩, ⟨(some 11), (.q (.move (.tmp 23))), none⟩]) 
    (.seq 
    (.region [⟨(some 24), (.q (.move (.tmp 10))), none⟩, ⟨(some 25), (.s (.call 62 [(.tmp 24)])), none⟩, ⟨(some 26), (.q (.extract 0 (.tmp 25))), none⟩, ⟨(some 27), (.q (.extract 1 (.tmp 25))), none⟩, ⟨(some 6), (.q (.move (.tmp 26))), none⟩, ⟨(some 7), (.q (.move (.tmp 27))), none⟩]) .ret))))
theorem t25 : Told Tryd.prog 25 28 c25 [(.tmp 6), (.tmp 7)] := ⟨Tryd.f25, _, [], Tryd.func25, rfl, by kernel_rfl, rfl, by kernel_rfl, by kernel_rfl⟩
def c27 : ACode := 
    (.seq 
    (.region [⟨(some 3), (.s (.box 34 (.tmp 0))), none⟩, ⟨(some 6), (.q (.move (.const (.int .i64 0)))), none⟩, ⟨(some 7), (.q (.move (.const (.bool false)))), none⟩]) 
    (.seq 
    (.region [⟨(some 13), (.q (.load true 3 (.tmp 3))), none⟩, ⟨(some 14), (.q (.move (.tmp 1))), none⟩, ⟨(some 15), (.s (.call 18 [(.tmp 13), (.tmp 14)])), none⟩, ⟨(some 12), (.q (.move (.tmp 15))), none⟩, ⟨(some 16), (.q (.extract 0 (.tmp 12))), none⟩, ⟨(some 17), (.q (.extract 1 (.tmp 12))), none⟩, ⟨(some 8), (.s (.alloc 34 [(.str (B [])), .nils, .nils])), none⟩, ⟨none, (.s (.store 3 (.tmp 8) (.tmp 16))), none⟩, ⟨(some 9), (.q (.move (.tmp 17))), none⟩]) 
    (.seq 
    (.region [⟨(some 19), (.q (.load true 3 (.tmp 8))), none⟩, ⟨(some 20), (.q (.move (.tmp 2))), none⟩, ⟨(some 21), (.s (.call 23 [(.tmp 19), (.tmp 20)])), none⟩, ⟨(some 18), (.q (.move (.tmp 21))), none⟩, ⟨(some 22), (.q (.extract 0 (.tmp 18))), none⟩, ⟨(some 23), (.q (.extract 1 (.tmp 18))), none⟩, ⟨(some 10), (.q (.move (.tmp 22))), none⟩, ⟨(some 11), (.q (.move (.tmp 23))), none⟩]) 
    (.seq 
    (.region [⟨(some 24), (.q (.move (.tmp 10))), none⟩, ⟨(some 25), (.s (.call 65 [(.tmp 24)])), none⟩, ⟨(some 26), (.q (.extract 0 (.tmp 25))), none⟩, ⟨(some 27), (.q (.extract 1 (.tmp 25))), none⟩, ⟨(some 6), (.q (.move (.tmp 26))), none⟩, ⟨(some 7), (.q (.move (.tmp 27))), none⟩]) .ret))))
theorem t27 : Told Tryd.prog 27 28 c27 [(.tmp 6), (.tmp 7)] := ⟨Tryd.f27, _, [], Tryd.func27, rfl, by kernel_rfl, rfl, by kernel_rfl, by kernel_rfl⟩
def c3 : ACode := 
    (.seq 
    (.region [⟨(some 4), (.q (.move (.const (.bool false)))), none⟩]) 
    (.seq 
    (.seq 
    (.region [⟨(some 9), (.q (.move (.tmp 0))), none⟩, ⟨(some 10), (.q (.len true (.tmp 9))), none⟩, ⟨(some 11), (.q (.bin .gtr (.tmp 10) (.const (.int .i64 200)))), none⟩, ⟨(some 12), (.q (.move (.tmp 11))), none⟩, ⟨(some 13), (.q (.move (.tmp 1))), (some (12, false))⟩, ⟨(some 14), (.s (.call 10 [(.tmp 13)])), (some (12, false))⟩, ⟨(some 15), (.q (.un .not (.tmp 14))), (some (12, false))⟩, ⟨(some 16), (.q (.pick (.tmp 12) (.const (.bool true)) (.tmp 15))), none⟩]) 
    (.cond (.tmp 16) 
    (.seq 
    (.region [⟨(some 17), (.s (.call 11 [])), none⟩, ⟨(some 4), (.q (.move (.tmp 17))), none⟩]) .ret) .skip)) 
    (.seq 
    (.region [⟨(some 19), (.q (.move (.tmp 0))), none⟩, ⟨(some 20), (.s (.call 12 [(.tmp 19)])), none⟩, ⟨(some 18), (.q (.move (.tmp 20))), none⟩, ⟨(some 21), (.q (.extract 0 (.tmp 18))), none⟩, ⟨(some 22), (.q (.extract 1 (.tmp 18))), none⟩, ⟨(some 5), (.q (.move (.tmp 21))), none⟩, ⟨(some 6), (.q (.move (.tmp 22))), none⟩]) 
    (.seq 
    (.region [⟨(some 24), (.q (.move (.tmp 0))), none⟩, ⟨(some 25), (.s (.call 13 [(.tmp 24)])), none⟩, ⟨(some 23), (.q (.move (.tmp 25))), none⟩, ⟨(some 26), (.q (.extract 0 (.tmp 23))), none⟩, ⟨(some 27), (.q (.extract 1 (.tmp 23))), none⟩, ⟨(some 7), (.q (.move (.tmp 26))), none⟩, ⟨(some 8), (.q (.move (.tmp 27))), none⟩]) 
    (.seq 
    (.region [⟨(some 28), (.q (.move (.tmp 5))), none⟩, ⟨(some 29), (.q (.move (.tmp 7))), none⟩, ⟨(some 30), (.s (.call 14 [(.tmp 28), (.tmp 29)])), none⟩, ⟨(some 31), (.q (.move (.tmp 30))), none⟩, ⟨(some 32), (.q (.move (.tmp 6))), (some (31, true))⟩, ⟨(some 33), (.q (.move (.tmp 8))), (some (31, true))⟩, ⟨(some 34), (.q (.beq false (.tmp 32) (.tmp 33))), (some (31, true))⟩, ⟨(some 35), (.q (.pick (.tmp 31) (.tmp 34) (.const (.bool false)))), none⟩, ⟨(some 36), (.q (.move (.tmp 35))), none⟩, ⟨(some 37), (.q (.move (.tmp 1))), (some (36, true))⟩, ⟨(some 38), (.s (.call 15 [(.tmp 37)])), (some (36, true))⟩, ⟨(some 39), (.q (.move (.tmp 1))), (some (36, true))⟩, ⟨(some 40), (.s (.call 16 [(.tmp 39)])), (some (36, true))⟩, ⟨(some 41), (.q (.bin .eql (.tmp 38) (.tmp 40))), (some (36, true))⟩, ⟨(some 42), (.q (.pick (.tmp 36) (.tmp 41) (.const (.bool false)))), none⟩, ⟨(some 43), (.q (.move (.tmp 42))), none⟩, ⟨(some 44), (.s (.call 11 [])), (some (43, true))⟩, ⟨(some 45), (.q (.pick (.tmp 43) (.tmp 44) (.const (.bool false)))), none⟩, ⟨(some 4), (.q (.move (.tmp 45))), none⟩]) .ret)))))
theorem t3 : Told Tryd.prog 3 46 c3 [(.tmp 4)] := ⟨Tryd.f3, _, [], Tryd.func3, rfl, by kernel_rfl, rfl, by kernel_rfl, by kernel_rfl⟩
def c4 : ACode := 
    (.seq 
    (.region [⟨(some 3), (.s (.box 34 (.tmp 0))), none⟩, ⟨(some 6), (.q (.move (.const (.bool false)))), none⟩]) 
    (.seq 
    (.seq 
    (.region [⟨(some 27), (.q (.load true 3 (.tmp 3))), none⟩, ⟨(some 28), (.s (.call 17 [(.tmp 27)])), none⟩, ⟨(some 29), (.q (.un .not (.tmp 28))), none⟩, ⟨(some 30), (.q (.move (.tmp 29))), none⟩, ⟨(some 31), (.q (.move (.tmp 1))), (some (30, false))⟩, ⟨(some 32), (.q (.len true (.tmp 31))), (some (30, false))⟩, ⟨(some 33), (.q (.bin .gtr (.tmp 32) (.const (.int .i64 200)))), (some (30, false))⟩, ⟨(some 34), (.q (.pick (.tmp 30) (.const (.bool true)) (.tmp 33))), none⟩, ⟨(some 35), (.q (.move (.tmp 34))), none⟩, ⟨(some 36), (.q (.move (.tmp 2))), (some (35, false))⟩, ⟨(some 37), (.q (.len true (.tmp 36))), (some (35, false))⟩, ⟨(some 38), (.q (.bin .gtr (.tmp 37) (.const (.int .i64 200)))), (some (35, false))⟩, ⟨(some 39), (.q (.pick (.tmp 35) (.const (.bool true)) (.tmp 38))), none⟩]) 
    (.cond (.tmp 39) 
    (.seq 
    (.region [⟨(some 40), (.s (.call 11 [])), none⟩, ⟨(some 6), (.q (.move (.tmp 40))), none⟩]) .ret) .skip)) 
    (.seq 
    (.region [⟨(some 42), (.q (.load true 3 (.tmp 3))), none⟩, ⟨(some 43), (.q (.move (.tmp 1))), none⟩, ⟨(some 44), (.s (.call 18 [(.tmp 42), (.tmp 43)])), none⟩, ⟨(some 41), (.q (.move (.tmp 44))), none⟩, ⟨(some 45), (.q (.extract 0 (.tmp 41))), none⟩, ⟨(some 46), (.q (.extract 1 (.tmp 41))), none⟩, ⟨(some 7), (.s (.alloc 34 [(.str (B [])), .nils, .nils])), none⟩, ⟨none, (.s (.store 3 (.tmp 7) (.tmp 45))), none⟩, ⟨(some 8), (.q (.move (.tmp 46))), none⟩]) 
    (.seq 
    (.region [⟨(some 48), (.q (.load true 3 (.tmp 3))), none⟩, ⟨(some 49), (.q (.move (.tmp 1))), none⟩, ⟨(some 50), (.s (.call 19 [(.tmp 48), (.tmp 49)])), none⟩, ⟨(some 47), (.q (.move (.tmp 50))), none⟩, ⟨(some 51), (.q (.extract 0 (.tmp 47))), none⟩, ⟨(some 52), (.q (.extract 1 (.tmp 47))), none⟩, ⟨(some 9), (.s (.alloc 34 [(.str (B [])), .nils, .nils])), none⟩, ⟨none, (.s (.store 3 (.tmp 9) (.tmp 51))), none⟩, ⟨(some 10), (.q (.move (.tmp 52))), none⟩]) 
    (.seq 
    (.region [⟨(some 54), (.q (.load true 3 (.tmp 3))), none⟩, ⟨(some 55), (.q (.move (.tmp 2))), none⟩, ⟨(some 56), (.s (.call 20 [(.tmp 54), (.tmp 55)])), none⟩, ⟨(some 53), (.q (.move (.tmp 56))), none⟩, ⟨(some 57), (.q (.extract 0 (.tmp 53))), none⟩, ⟨(some 58), (.q (.extract 1 (.tmp 53))), none⟩, ⟨(some 11), (.s (.alloc 34 [(.str (B [])), .nils, .nils])), none⟩, ⟨none, (.s (.store 3 (.tmp 11) (.tmp 57))), none⟩, ⟨(some 12), (.q (.move (.tmp 58))), none⟩]) 
    (.seq 
    (.region [⟨(some 60), (.q (.load true 3 (.tmp 3))), none⟩, ⟨(some 61), (.q (.move (.tmp 2))), none⟩, ⟨(some 62), (.s (.call 21 [(.tmp 60), (.tmp 61)])), none⟩, ⟨(some 59), (.q (.move (.tmp 62))), none⟩, ⟨(some 63), (.q (.extract 0 (.tmp 59))), none⟩, ⟨(some 64), (.q (.extract 1 (.tmp 59))), none⟩, ⟨(some 13), (.s (.alloc 34 [(.str (B [])), .nils, .nils])), none⟩, ⟨none, (.s (.store 3 (.tmp 13) (.tmp 63))), none⟩, ⟨(some 14), (.q (.move (.tmp 64))), none⟩]) 
    (.seq 
    (.seq 
    (.region [⟨(some 65), (.q (.load true 3 (.tmp 7))), none⟩, ⟨(some 66), (.q (.load true 3 (.tmp 9))), none⟩, ⟨(some 67), (.s (.call 22 [(.tmp 65), (.tmp 66)])), none⟩, ⟨(some 68), (.q (.un .not (.tmp 67))), none⟩, ⟨(some 69), (.q (.move (.tmp 68))), none⟩, ⟨(some 70), (.q (.move (.tmp 8))), (some (69, false))⟩, ⟨(some 71), (.q (.move (.tmp 10))), (some (69, false))⟩, ⟨(some 72), (.q (.beq true (.tmp 70) (.tmp 71))), (some (69, false))⟩, ⟨(some 73), (.q (.pick (.tmp 69) (.const (.bool true)) (.tmp 72))), none⟩, ⟨(some 74), (.q (.move (.tmp 73))), none⟩, ⟨(some 75), (.q (.load true 3 (.tmp 11))), (some (74, false))⟩, ⟨(some 76), (.q (.load true 3 (.tmp 13))), (some (74, false))⟩, ⟨(some 77), (.s (.call 22 [(.tmp 75), (.tmp 76)])), (some (74, false))⟩, ⟨(some 78), (.q (.un .not (.tmp 77))), (some (74, false))⟩, ⟨(some 79), (.q (.pick (.tmp 74) (.const (.bool true)) (.tmp 78))), none⟩, ⟨(some 80), (.q (.move (.tmp 79))), none⟩, ⟨(some 81), (.q (.move (.tmp 12))), (some (80, false))⟩, ⟨(some 82), (.q (.move (.tmp 14))), (some (80, false))⟩, ⟨(some 83), (.q (.beq true (.tmp 81) (.tmp 82))), (some (80, false))⟩, ⟨(some 84), (.q (.pick (.tmp 80) (.const (.bool true)) (.tmp 83))), none⟩]) 
    (.cond (.tmp 84) 
    (.seq 
    (.region [⟨(some 6), (.q (.move (.const (.bool false)))), none⟩]) .ret) .skip)) 
    (.seq 
    (.region [⟨(some 86), (.q (.load true 3 (.tmp 7))), none⟩, ⟨(some 87), (.q (.move (.tmp 2))), none⟩, ⟨(some 88), (.s (.call 23 [(.tmp 86), (.tmp 87)])), none⟩, ⟨(some 85), (.q (.move (.tmp 88))), none⟩, ⟨(some 89), (.q (.extract 0 (.tmp 85))), none⟩, ⟨(some 90), (.q (.extract 1 (.tmp 85))), none⟩, ⟨(some 15), (.q (.move (.tmp 89))), none⟩, ⟨(some 16), (.q (.move (.tmp 90))), none⟩]) 
    (.seq 
    (.region [⟨(some 92), (.q (.load true 3 (.tmp 9))), none⟩, ⟨(some 93), (.q (.move (.tmp 2))), none⟩, ⟨(some 94), (.s (.call 24 [(.tmp 92), (.tmp 93)])), none⟩, ⟨(some 91), (.q (.move (.tmp 94))), none⟩, ⟨(some 95), (.q (.extract 0 (.tmp 91))), none⟩, ⟨(some 96), (.q (.extract 1 (.tmp 91))), none⟩, ⟨(some 17), (.q (.move (.tmp 95))), none⟩, ⟨(some 18), (.q (.move (.tmp 96))), none⟩]) 
    (.seq 
    (.region [⟨(some 98), (.q (.load true 3 (.tmp 3))), none⟩, ⟨(some 99), (.q (.move (.tmp 1))), none⟩, ⟨(some 100), (.q (.move (.tmp 2))), none⟩, ⟨(some 101), (.s (.call 25 [(.tmp 98), (.tmp 99), (.tmp 100)])), none⟩, ⟨(some 97), (.q (.move (.tmp 101))), none⟩, ⟨(some 102), (.q (.extract 0 (.tmp 97))), none⟩, ⟨(some 103), (.q (.extract 1 (.tmp 97))), none⟩, ⟨(some 19), (.q (.move (.tmp 102))), none⟩, ⟨(some 20), (.q (.move (.tmp 103))), none⟩]) 
    (.seq 
    (.region [⟨(some 105), (.q (.load true 3 (.tmp 3))), none⟩, ⟨(some 106), (.q (.move (.tmp 1))), none⟩, ⟨(some 107), (.q (.move (.tmp 2))), none⟩, ⟨(some 108), (.s (.call 26 [(.tmp 105), (.tmp 106), (.tmp 107)])), none⟩, ⟨(some 104), (.q (.move (.tmp 108))), none⟩, ⟨(some 109), (.q (.extract 0 (.tmp 104))), none⟩, ⟨(some 110), (.q (.extract 1 (.tmp 104))), none⟩, ⟨(some 21), (.q (.move (.tmp 109))), none⟩, ⟨(some 22), (.q (.move (.tmp 110))), none⟩]) 
    (.seq 
    (.region [⟨(some 112), (.q (.load true 3 (.tmp 3))), none⟩, ⟨(some 113), (.q (.move (.tmp 1))), none⟩, ⟨(some 114), (.q (.move (.tmp 2))), none⟩, ⟨(some 115), (.s (.call 27 [(.tmp 112), (.tmp 113), (.tmp 114)])), none⟩, ⟨(some 111), (.q (.move (.tmp 115))), none⟩, ⟨(some 116), (.q (.extract 0 (.tmp 111))), none⟩, ⟨(some 117), (.q (.extract 1 (.tmp 111))), none⟩, ⟨(some 23), (.q (.move (.tmp 116))), none⟩, ⟨(some 24), (.q (.move (.tmp 117))), none⟩]) 
    (.seq 
    (.region [⟨(some 119), (.q (.load true 3 (.tmp 3))), none⟩, ⟨(some 120), (.q (.move (.tmp 1))), none⟩, ⟨(some 121), (.q (.move (.tmp 2))), none⟩, ⟨(some 122), (.s (.call 28 [(.tmp 119), (.tmp 120), (.tmp 121)])), none⟩, ⟨(some 118), (.q (.move (.tmp 122))), none⟩, ⟨(some 123), (.q (.extract 0 (.tmp 118))), none⟩, ⟨(some 124), (.q (.extract 1 (.tmp 118))), none⟩, ⟨(some 25), (.q (.move (.tmp 123))), none⟩, ⟨(some 26), (.q (.move (.tmp 124))), none⟩]) 
    (.seq 
    (.region [⟨(some 125), (.q (.move (.tmp 15))), none⟩, ⟨(some 126), (.q (.move (.tmp 17))), none⟩, ⟨(some 127), (.q (.bin .eql (.tmp 125) (.tmp 126))), none⟩, ⟨(some 128), (.q (.move (.tmp 127))), none⟩, ⟨(some 129), (.q (.move (.tmp 16))), (some (128, true))⟩, ⟨(some 130), (.q (.move (.tmp 18))), (some (128, true))⟩, ⟨(some 131), (.q (.beq false (.tmp 129) (.tmp 130))), (some (128, true))⟩, ⟨(some 132), (.q (.pick (.tmp 128) (.tmp 131) (.const (.bool false)))), none⟩, ⟨(some 133), (.q (.move (.tmp 132))), none⟩, ⟨(some 134), (.q (.move (.tmp 19))), (some (133, true))⟩, ⟨(some 135), (.q (.move (.tmp 21))), (some (133, true))⟩, ⟨(some 136), (.q (.bin .eql (.tmp 134) (.tmp 135))), (some (133, true))⟩, ⟨(some 137), (.q (.pick (.tmp 133) (.tmp 136) (.const (.bool false)))), none⟩, ⟨(some 138), (.q (.move (.tmp 137))), none⟩, ⟨(some 139), (.q (.move (.tmp 20))), (some (138, true))⟩, ⟨(some 140), (.q (.move (.tmp 22))), (some (138, true))⟩, ⟨(some 141), (.q (.beq false (.tmp 139) (.tmp 140))), (some (138, true))⟩, ⟨(some 142), (.q (.pick (.tmp 138) (.tmp 141) (.const (.bool false)))), none⟩, ⟨(some 143), (.q (.move (.tmp 142))), none⟩, ⟨(some 144), (.q (.move (.tmp 23))), (some (143, true))⟩, ⟨(some 145), (.q (.move (.tmp 25))), (some (143, true))⟩, ⟨(some 146), (.q (.bin .eql (.tmp 144) (.tmp 145))), (some (143, true))⟩, ⟨(some 147), (.q (.pick (.tmp 143) (.tmp 146) (.const (.bool false)))), none⟩, ⟨(some 148), (.q (.move (.tmp 147))), none⟩, ⟨(some 149), (.q (.move (.tmp 24))), (some (148, true))⟩, ⟨(some 150), (.q (.move (.tmp 26))), (some (148, true))⟩, ⟨(some 151), (.q (.beq false (.tmp 149) (.tmp 150))), (some (148, true))⟩, ⟨(some 152), (.q (.pick (.tmp 148) (.tmp 151) (.const (.bool false)))), none⟩, ⟨(some 153), (.q (.move (.tmp 152))), none⟩, ⟨(some 154), (.s (.call 11 [])), (some (153, true))⟩, ⟨(some 155), (.q (.pick (.tmp 153) (.tmp 154) (.const (.bool false)))), none⟩, ⟨(some 6), (.q (.move (.tmp 155))), none⟩]) .ret))))))))))))))
theorem t4 : Told Tryd.prog 4 156 c4 [(.tmp 6)] := ⟨Tryd.f4, _, [], Tryd.func4, rfl, by kernel_rfl, rfl, by kernel_rfl, by kernel_rfl⟩
def c5 : ACode := 
    (.seq 
    (.region [⟨(some 2), (.s (.box 34 (.tmp 0))), none⟩, ⟨(some 4), (.q (.move (.const (.bool false)))), none⟩]) 
    (.seq 
    (.seq 
    (.region [⟨(some 17), (.q (.load true 3 (.tmp 2))), none⟩, ⟨(some 18), (.s (.call 17 [(.tmp 17)])), none⟩, ⟨(some 19), (.q (.un .not (.tmp 18))), none⟩, ⟨(some 20), (.q (.move (.tmp 19))), none⟩, ⟨(some 21), (.q (.move (.tmp 1))), (some (20, false))⟩, ⟨(some 22), (.q (.len true (.tmp 21))), (some (20, false))⟩, ⟨(some 23), (.q (.bin .gtr (.tmp 22) (.const (.int .i64 200)))), (some (20, false))⟩, ⟨(some 24), (.q (.pick (.tmp 20) (.const (.bool true)) (.tmp 23))), none⟩]) 
    (.cond (.tmp 24) 
    (.seq 
    (.region [⟨(some 25), (.s (.call 11 [])), none⟩, ⟨(some 4), (.q (.move (.tmp 25))), none⟩]) .ret) .skip)) 
    (.seq 
    (.region [⟨(some 27), (.q (.move (.tmp 1))), none⟩, ⟨(some 28), (.s (.call 12 [(.tmp 27)])), none⟩, ⟨(some 26), (.q (.move (.tmp 28))), none⟩, ⟨(some 29), (.q (.extract 0 (.tmp 26))), none⟩, ⟨(some 30), (.q (.extract 1 (.tmp 26))), none⟩, ⟨(some 5), (.q (.move (.tmp 29))), none⟩, ⟨(some 6), (.q (.move (.tmp 30))), none⟩]) 
    (.seq 
    (.seq 
    (.region [⟨(some 31), (.q (.move (.tmp 6))), none⟩, ⟨(some 32), (.q (.move (.tmp 31))), none⟩, ⟨(some 33), (.q (.move (.tmp 5))), (some (32, true))⟩, ⟨(some 34), (.s (.call 15 [(.tmp 33)])), (some (32, true))⟩, ⟨(some 35), (.q (.move (.tmp 1))), (some (32, true))⟩, ⟨(some 36), (.q (.bin .neq (.tmp 34) (.tmp 35))), (some (32, true))⟩, ⟨(some 37), (.q (.pick (.tmp 32) (.tmp 36) (.const (.bool false)))), none⟩]) 
    (.cond (.tmp 37) 
    (.seq 
    (.region [⟨(some 4), (.q (.move (.const (.bool false)))), none⟩]) .ret) .skip)) 
    (.seq 
    (.region [⟨(some 38), (.q (.load true 3 (.tmp 2))), none⟩, ⟨(some 39), (.s (.call 29 [(.tmp 38)])), none⟩, ⟨(some 7), (.q (.move (.tmp 39))), none⟩]) 
    (.seq 
    (.seq 
    (.region [⟨(some 8), (.q (.move (.const (.int .i64 0)))), none⟩]) 
    (.block 0 
    (.loop 
    (.seq 
    (.seq 
    (.region [⟨(some 40), (.q (.move (.tmp 8))), none⟩, ⟨(some 41), (.q (.move (.tmp 7))), none⟩, ⟨(some 42), (.q (.len false (.tmp 41))), none⟩, ⟨(some 43), (.q (.bin .lss (.tmp 40) (.tmp 42))), none⟩]) 
    (.cond (.tmp 43) .skip (.exit 0))) 
    (.seq 
    (.block 1 
    (.seq 
    (.region [⟨(some 46), (.q (.move (.tmp 7))), none⟩, ⟨(some 47), (.q (.move (.tmp 8))), none⟩, ⟨(some 48), (.q (.idxSl 4 (.tmp 46) (.tmp 47))), none⟩, ⟨(some 49), (.q (.fieldAddr 1 (.tmp 48))), none⟩, ⟨(some 50), (.q (.fieldAddr 2 (.tmp 49))), none⟩, ⟨(some 51), (.q (.load false 1 (.tmp 50))), none⟩, ⟨(some 9), (.q (.move (.tmp 51))), none⟩]) 
    (.seq 
    (.region [⟨(some 10), (.q (.move (.const (.int .i64 0)))), none⟩]) 
    (.block 2 
    (.loop 
    (.seq 
    (.seq 
    (.region [⟨(some 52), (.q (.move (.tmp 10))), none⟩, ⟨(some 53), (.q (.move (.tmp 9))), none⟩, ⟨(some 54), (.q (.len false (.tmp 53))), none⟩, ⟨(some 55), (.q (.bin .lss (.tmp 52) (.tmp 54))), none⟩]) 
    (.cond (.tmp 55) .skip (.exit 2))) 
    (.seq 
    (.block 3 
    (.seq 
    (.seq 
    (.region [⟨(some 59), (.q (.move (.tmp 9))), none⟩, ⟨(some 60), (.q (.move (.tmp 10))), none⟩, ⟨(some 61), (.q (.idxSl 3 (.tmp 59) (.tmp 60))), none⟩, ⟨(some 62), (.q (.fieldAddr 0 (.tmp 61))), none⟩, ⟨(some 63), (.q (.load false 1 (.tmp 62))), none⟩, ⟨(some 64), (.q (.bin .add (.const (.str (B [47]))) (.tmp 63))), none⟩, ⟨(some 65), (.s (.call 12 [(.tmp 64)])), none⟩, ⟨(some 58), (.q (.move (.tmp 65))), none⟩, ⟨(some 66), (.q (.extract 0 (.tmp 58))), none⟩, ⟨(some 67), (.q (.extract 1 (.tmp 58))), none⟩, ⟨(some 11), (.q (.move (.tmp 66))), none⟩, ⟨(some 12), (.q (.move (.tmp 67))), none⟩]) 
    (.seq 
    (.region [⟨(some 68), (.q (.move (.tmp 12))), none⟩, ⟨(some 69), (.q (.un .not (.tmp 68))), none⟩, ⟨(some 70), (.q (.move (.tmp 69))), none⟩, ⟨(some 71), (.q (.move (.tmp 11))), (some (70, false))⟩, ⟨(some 72), (.q (.len false (.tmp 71))), (some (70, false))⟩, ⟨(some 73), (.q (.bin .neq (.tmp 72) (.const (.int .i64 1)))), (some (70, false))⟩, ⟨(some 74), (.q (.pick (.tmp 70) (.const (.bool true)) (.tmp 73))), none⟩]) 
    (.cond (.tmp 74) 
    (.seq 
    (.region [⟨(some 75), (.s (.call 11 [])), none⟩, ⟨(some 4), (.q (.move (.tmp 75))), none⟩]) .ret) .skip))) 
    (.seq 
    (.region [⟨(some 13), (.q (.move (.const (.int .i64 0)))), none⟩]) 
    (.block 4 
    (.loop 
    (.seq 
    (.seq 
    (.region [⟨(some 76), (.q (.move (.tmp 13))), none⟩, ⟨(some 77), (.q (.move (.tmp 10))), none⟩, ⟨(some 78), (.q (.bin .lss (.tmp 76) (.tmp 77))), none⟩]) 
    (.cond (.tmp 78) .skip (.exit 4))) 
    (.seq 
    (.block 5 
    (.seq 
    (.region [⟨(some 81), (.q (.move (.tmp 9))), none⟩, ⟨(some 82), (.q (.move (.tmp 10))), none⟩, ⟨(some 83), (.q (.idxSl 3 (.tmp 81) (.tmp 82))), none⟩, ⟨(some 84), (.q (.fieldAddr 0 (.tmp 83))), none⟩, ⟨(some 85), (.q (.load false 1 (.tmp 84))), none⟩, ⟨(some 86), (.q (.move (.tmp 9))), none⟩, ⟨(some 87), (.q (.move (.tmp 13))), none⟩, ⟨(some 88), (.q (.idxSl 3 (.tmp 86) (.tmp 87))), none⟩, ⟨(some 89), (.q (.fieldAddr 0 (.tmp 88))), none⟩, ⟨(some 90), (.q (.load false 1 (.tmp 89))), none⟩, ⟨(some 91), (.q (.bin .eql (.tmp 85) (.tmp 90))), none⟩]) 
    (.cond (.tmp 91) 
    (.seq 
    (.region [⟨(some 92), (.s (.call 11 [])), none⟩, ⟨(some 4), (.q (.move (.tmp 92))), none⟩]) .ret) .skip))) 
    (.region [⟨(some 79), (.q (.move (.tmp 13))), none⟩, ⟨(some 80), (.q (.bin .add (.tmp 79) (.const (.int .i64 1)))), none⟩, ⟨(some 13), (.q (.move (.tmp 80))), none⟩])))))))) 
    (.region [⟨(some 56), (.q (.move (.tmp 10))), none⟩, ⟨(some 57), (.q (.bin .add (.tmp 56) (.const (.int .i64 1)))), none⟩, ⟨(some 10), (.q (.move (.tmp 57))), none⟩])))))))) 
    (.region [⟨(some 44), (.q (.move (.tmp 8))), none⟩, ⟨(some 45), (.q (.bin .add (.tmp 44) (.const (.int .i64 1)))), none⟩, ⟨(some 8), (.q (.move (.tmp 45))), none⟩])))))) 
    (.seq 
    (.seq 
    (.region [⟨(some 14), (.q (.move (.const (.int .i64 0)))), none⟩]) 
    (.block 6 
    (.loop 
    (.seq 
    (.seq 
    (.region [⟨(some 93), (.q (.move (.tmp 14))), none⟩, ⟨(some 94), (.q (.move (.tmp 7))), none⟩, ⟨(some 95), (.q (.len false (.tmp 94))), none⟩, ⟨(some 96), (.q (.bin .lss (.tmp 93) (.tmp 95))), none⟩]) 
    (.cond (.tmp 96) .skip (.exit 6))) 
    (.seq 
    (.block 7 
    (.seq 
    (.regionN 16 [⟨(some 100), (.q (.load true 3 (.tmp 2))), none⟩, ⟨(some 101), (.q (.move (.tmp 7))), none⟩, ⟨(some 102), (.q (.move (.tmp 14))), none⟩, ⟨(some 103), (.q (.idxSl 4 (.tmp 101) (.tmp 102))), none⟩, ⟨(some 104), (.q (.fieldAddr 0 (.tmp 103))), none⟩, ⟨(some 105), (.q (.load false 1 (.tmp 104))), none⟩, ⟨(some 15), (.q (.move (.const .top))), none⟩, ⟨(some 106), (.s (.call 18 [(.tmp 100), (.tmp 105)])), none⟩, ⟨(some 99), (.q (.move (.tmp 106))), none⟩, ⟨(some 107), (.q (.extract 0 (.tmp 99))), none⟩, ⟨(some 108), (.q (.extract 1 (.tmp 99))), none⟩, ⟨(some 15), (.s (.put 34 3 (.tmp 107))), none⟩, ⟨(some 16), (.q (.move (.tmp 108))), none⟩]) 
    (.seq 
    (.region [⟨(some 109), (.q (.move (.tmp 16))), none⟩, ⟨(some 110), (.q (.un .not (.tmp 109))), none⟩, ⟨(some 111), (.q (.move (.tmp 110))), none⟩, ⟨(some 112), (.q (.load true 3 (.tmp 15))), (some (111, false))⟩, ⟨(some 113), (.q (.move (.tmp 7))), (some (111, false))⟩, ⟨(some 114), (.q (.move (.tmp 14))), (some (111, false))⟩, ⟨(some 115), (.q (.idxSl 4 (.tmp 113) (.tmp 114))), (some (111, false))⟩, ⟨(some 116), (.q (.fieldAddr 1 (.tmp 115))), (some (111, false))⟩, ⟨(some 117), (.q (.load true 3 (.tmp 116))), (some (111, false))⟩, ⟨(some 118), (.s (.call 22 [(.tmp 112), (.tmp 117)])), (some (111, false))⟩, ⟨(some 119), (.q (.un .not (.tmp 118))), (some (111, false))⟩, ⟨(some 120), (.q (.pick (.tmp 111) (.const (.bool true)) (.tmp 119))), none⟩]) 
    (.cond (.tmp 120) 
    (.seq 
    (.region [⟨(some 4), (.q (.move (.const (.bool false)))), none⟩]) .ret) .skip)))) 
    (.region [⟨(some 97), (.q (.move (.tmp 14))), none⟩, ⟨(some 98), (.q (.bin .add (.tmp 97) (.const (.int .i64 1)))), none⟩, ⟨(some 14), (.q (.move (.tmp 98))), none⟩])))))) 
    (.seq 
    (.region [⟨(some 121), (.s (.call 11 [])), none⟩, ⟨(some 4), (.q (.move (.tmp 121))), none⟩]) .ret))))))))
theorem t5 : Told Tryd.prog 5 122 c5 [(.tmp 4)] := ⟨Tryd.f5, _, [], Tryd.func5, rfl, by kernel_rfl, rfl, by kernel_rfl, by kernel_rfl⟩
end Go.Proofs.YtfiihgaohihppaaDoor.AL

