/- The code of values, and of the document's, told. -/
import Derived.Test.YtfilheaaacffmaaDoorQValueIsALA3
import Derived.Test.YtfilheaaacffmaaDoorProg
import Derived.KernelRfl
set_option maxRecDepth 100000
namespace Go.Proofs.YtfilheaaacffmaaDoor.AL
open Go Go.Proofs
def c11 : ACode := 
    (.seq 
    (.region [⟨(some 4), (.q (.move (.const (.bool false)))), none⟩]) 
    (.seq 
    (.seq 
    (.region [⟨(some 6), (.q (.move (.tmp 0))), none⟩, ⟨(some 7), (.q (.len false (.tmp 6))), none⟩, ⟨(some 8), (.q (.move (.tmp 1))), none⟩, ⟨(some 9), (.q (.len false (.tmp 8))), none⟩, ⟨(some 10), (.q (.bin .neq (.tmp 7) (.tmp 9))), none⟩]) 
    (.cond (.tmp 10) 
    (.seq 
    (.region [⟨(some 4), (.q (.move (.const (.bool false)))), none⟩]) .ret) .skip)) 
    (.seq 
    (.seq 
    (.region [⟨(some 5), (.q (.move (.const (.int .i64 0)))), none⟩]) 
    (.block 0 
    (.loop 
    (.seq 
    (.seq 
    (.region [⟨(some 11), (.q (.move (.tmp 5))), none⟩, ⟨(some 12), (.q (.move (.tmp 0))), none⟩, ⟨(some 13), (.q (.len false (.tmp 12))), none⟩, ⟨(some 14), (.q (.bin .lss (.tmp 11) (.tmp 13))), none⟩, ⟨(some 15), (.q (.move (.tmp 14))), none⟩, ⟨(some 16), (.q (.move (.tmp 5))), (some (15, true))⟩, ⟨(some 17), (.q (.move (.tmp 1))), (some (15, true))⟩, ⟨(some 18), (.q (.len false (.tmp 17))), (some (15, true))⟩, ⟨(some 19), (.q (.bin .lss (.tmp 16) (.tmp 18))), (some (15, true))⟩, ⟨(some 20), (.q (.pick (.tmp 15) (.tmp 19) (.const (.bool false)))), none⟩]) 
    (.cond (.tmp 20) .skip (.exit 0))) 
    (.seq 
    (.block 1 
    (.seq 
    (.region [⟨(some 23), (.q (.move (.tmp 0))), none⟩, ⟨(some 24), (.q (.move (.tmp 5))), none⟩, ⟨(some 25), (.q (.idxSl 1 (.tmp 23) (.tmp 24))), none⟩, ⟨(some 26), (.q (.load false 1 (.tmp 25))), none⟩, ⟨(some 27), (.q (.move (.tmp 1))), none⟩, ⟨(some 28), (.q (.move (.tmp 5))), none⟩, ⟨(some 29), (.q (.idxSl 1 (.tmp 27) (.tmp 28))), none⟩, ⟨(some 30), (.q (.load false 1 (.tmp 29))), none⟩, ⟨(some 31), (.q (.bin .neq (.tmp 26) (.tmp 30))), none⟩]) 
    (.cond (.tmp 31) 
    (.seq 
    (.region [⟨(some 4), (.q (.move (.const (.bool false)))), none⟩]) .ret) .skip))) 
    (.region [⟨(some 21), (.q (.move (.tmp 5))), none⟩, ⟨(some 22), (.q (.bin .add (.tmp 21) (.const (.int .i64 1)))), none⟩, ⟨(some 5), (.q (.move (.tmp 22))), none⟩])))))) 
    (.seq 
    (.region [⟨(some 4), (.q (.move (.const (.bool true)))), none⟩]) .ret))))
theorem t11 : Told Tryd.prog 11 32 c11 [(.tmp 4)] := ⟨Tryd.f11, _, [], Tryd.func11, rfl, by kernel_rfl, rfl, by kernel_rfl, by kernel_rfl⟩
def c16 : ACode := 
    (.seq 
    (.region [⟨(some 4), (.q (.move (.const (.bool false)))), none⟩]) 
    (.seq 
    (.seq 
    (.region [⟨(some 6), (.q (.move (.tmp 0))), none⟩, ⟨(some 7), (.q (.len false (.tmp 6))), none⟩, ⟨(some 8), (.q (.move (.tmp 1))), none⟩, ⟨(some 9), (.q (.len false (.tmp 8))), none⟩, ⟨(some 10), (.q (.bin .neq (.tmp 7) (.tmp 9))), none⟩]) 
    (.cond (.tmp 10) 
    (.seq 
    (.region [⟨(some 4), (.q (.move (.const (.bool false)))), none⟩]) .ret) .skip)) 
    (.seq 
    (.seq 
    (.region [⟨(some 5), (.q (.move (.const (.int .i64 0)))), none⟩]) 
    (.block 0 
    (.loop 
    (.seq 
    (.seq 
    (.region [⟨(some 11), (.q (.move (.tmp 5))), none⟩, ⟨(some 12), (.q (.move (.tmp 0))), none⟩, ⟨(some 13), (.q (.len false (.tmp 12))), none⟩, ⟨(some 14), (.q (.bin .lss (.tmp 11) (.tmp 13))), none⟩, ⟨(some 15), (.q (.move (.tmp 14))), none⟩, ⟨(some 16), (.q (.move (.tmp 5))), (some (15, true))⟩, ⟨(some 17), (.q (.move (.tmp 1))), (some (15, true))⟩, ⟨(some 18), (.q (.len false (.tmp 17))), (some (15, true))⟩, ⟨(some 19), (.q (.bin .lss (.tmp 16) (.tmp 18))), (some (15, true))⟩, ⟨(some 20), (.q (.pick (.tmp 15) (.tmp 19) (.const (.bool false)))), none⟩]) 
    (.cond (.tmp 20) .skip (.exit 0))) 
    (.seq 
    (.block 1 
    (.seq 
    (.region [⟨(some 23), (.q (.move (.tmp 0))), none⟩, ⟨(some 24), (.q (.move (.tmp 5))), none⟩, ⟨(some 25), (.q (.idxSl 1 (.tmp 23) (.tmp 24))), none⟩, ⟨(some 26), (.q (.load false 1 (.tmp 25))), none⟩, ⟨(some 27), (.q (.move (.tmp 1))), none⟩, ⟨(some 28), (.q (.move (.tmp 5))), none⟩, ⟨(some 29), (.q (.idxSl 1 (.tmp 27) (.tmp 28))), none⟩, ⟨(some 30), (.q (.load false 1 (.tmp 29))), none⟩, ⟨(some 31), (.q (.bin .neq (.tmp 26) (.tmp 30))), none⟩]) 
    (.cond (.tmp 31) 
    (.seq 
    (.region [⟨(some 4), (.q (.move (.const (.bool false)))), none⟩]) .ret) .skip))) 
    (.region [⟨(some 21), (.q (.move (.tmp 5))), none⟩, ⟨(some 22), (.q (.bin .add (.tmp 21) (.const (.int .i64 1)))), none⟩, ⟨(some 5), (.q (.move (.tmp 22))), none⟩])))))) 
    (.seq 
    (.region [⟨(some 4), (.q (.move (.const (.bool true)))), none⟩]) .ret))))
theorem t16 : Told Tryd.prog 16 32 c16 [(.tmp 4)] := ⟨Tryd.f16, _, [], Tryd.func16, rfl, by kernel_rfl, rfl, by kernel_rfl, by kernel_rfl⟩
def c5 : ACode := 
    (.seq 
    (.region [⟨(some 2), (.q (.move (.const (.bool false)))), none⟩]) 
    (.seq 
    (.seq 
    (.region [⟨(some 3), (.q (.move (.const (.int .i64 0)))), none⟩]) 
    (.block 0 
    (.loop 
    (.seq 
    (.seq 
    (.region [⟨(some 4), (.q (.move (.tmp 3))), none⟩, ⟨(some 5), (.q (.move (.tmp 0))), none⟩, ⟨(some 6), (.q (.len false (.tmp 5))), none⟩, ⟨(some 7), (.q (.bin .lss (.tmp 4) (.tmp 6))), none⟩, ⟨(some 8), (.q (.move (.tmp 7))), none⟩, ⟨(some 9), (.q (.move (.tmp 3))), (some (8, true))⟩, ⟨(some 10), (.q (.bin .lss (.tmp 9) (.const (.int .i64 40)))), (some (8, true))⟩, ⟨(some 11), (.q (.pick (.tmp 8) (.tmp 10) (.const (.bool false)))), none⟩]) 
    (.cond (.tmp 11) .skip (.exit 0))) 
    (.seq 
    (.block 1 
    (.seq 
    (.region [⟨(some 14), (.q (.move (.tmp 0))), none⟩, ⟨(some 15), (.q (.move (.tmp 3))), none⟩, ⟨(some 16), (.q (.idxSl 1 (.tmp 14) (.tmp 15))), none⟩, ⟨(some 17), (.q (.load false 1 (.tmp 16))), none⟩, ⟨(some 18), (.q (.len true (.tmp 17))), none⟩, ⟨(some 19), (.q (.bin .gtr (.tmp 18) (.const (.int .i64 100)))), none⟩]) 
    (.cond (.tmp 19) 
    (.seq 
    (.region [⟨(some 2), (.q (.move (.const (.bool false)))), none⟩]) .ret) .skip))) 
    (.region [⟨(some 12), (.q (.move (.tmp 3))), none⟩, ⟨(some 13), (.q (.bin .add (.tmp 12) (.const (.int .i64 1)))), none⟩, ⟨(some 3), (.q (.move (.tmp 13))), none⟩])))))) 
    (.seq 
    (.region [⟨(some 20), (.q (.move (.tmp 0))), none⟩, ⟨(some 21), (.q (.len false (.tmp 20))), none⟩, ⟨(some 22), (.q (.bin .leq (.tmp 21) (.const (.int .i64 40)))), none⟩, ⟨(some 2), (.q (.move (.tmp 22))), none⟩]) .ret)))
theorem t5 : Told Tryd.prog 5 23 c5 [(.tmp 2)] := ⟨Tryd.f5, _, [], Tryd.func5, rfl, by kernel_rfl, rfl, by kernel_rfl, by kernel_rfl⟩
def c17 : ACode := 
    (.seq 
    (.region [⟨(some 2), (.q (.move (.const (.str (B []))))), none⟩]) 
    (.seq 
    (.region [⟨(some 3), (.q (.move (.tmp 0))), none⟩, ⟨(some 4), (.s (.call 28 [(.tmp 3)])), none⟩, ⟨(some 2), (.q (.move (.tmp 4))), none⟩]) .ret))
theorem t17 : Told Tryd.prog 17 5 c17 [(.tmp 2)] := ⟨Tryd.f17, _, [], Tryd.func17, rfl, by kernel_rfl, rfl, by kernel_rfl, by kernel_rfl⟩
def c19 : ACode := 
    (.seq 
    (.region [⟨(some 2), (.q (.move (.const (.str (B []))))), none⟩]) 
    (.seq 
    (.region [⟨(some 3), (.s (.alloc 50 [.nilp, .nils])), none⟩]) 
    (.seq 
    (.seq 
    (.region [⟨(some 9), (.q (.move (.tmp 0))), none⟩, ⟨(some 10), (.q (.len false (.tmp 9))), none⟩, ⟨(some 11), (.q (.move (.const (.int .i64 0)))), none⟩]) 
    (.block 0 
    (.loop 
    (.seq 
    (.region [⟨(some 12), (.q (.bin .lss (.tmp 11) (.tmp 10))), none⟩]) 
    (.seq 
    (.cond (.tmp 12) .skip (.exit 0)) 
    (.seq 
    (.block 1 
    (.seq 
    (.region [⟨(some 13), (.q (.idxSl 1 (.tmp 9) (.tmp 11))), none⟩, ⟨(some 14), (.q (.load false 1 (.tmp 13))), none⟩, ⟨(some 5), (.q (.move (.tmp 14))), none⟩]) 
    (.seq 
    (.region [⟨(some 16), (.q (.move (.tmp 5))), none⟩, ⟨(some 17), (.s (.call 30 [(.tmp 16), (.const (.str (B [0])))])), none⟩, ⟨(some 15), (.q (.move (.tmp 17))), none⟩, ⟨(some 18), (.q (.extract 0 (.tmp 15))), none⟩, ⟨(some 19), (.q (.extract 1 (.tmp 15))), none⟩, ⟨(some 20), (.q (.extract 2 (.tmp 15))), none⟩, ⟨(some 6), (.q (.move (.tmp 18))), none⟩, ⟨(some 7), (.q (.move (.tmp 19))), none⟩, ⟨(some 8), (.q (.move (.tmp 20))), none⟩]) 
    (.region [⟨(some 21), (.q (.move (.tmp 6))), none⟩, ⟨(some 22), (.q (.bin .add (.tmp 21) (.const (.str (B [0]))))), none⟩, ⟨(some 23), (.s (.call 31 [(.tmp 3), (.tmp 22)])), none⟩])))) 
    (.region [⟨(some 24), (.q (.bin .add (.tmp 11) (.const (.int .i64 1)))), none⟩, ⟨(some 11), (.q (.move (.tmp 24))), none⟩]))))))) 
    (.seq 
    (.region [⟨(some 25), (.s (.call 32 [(.tmp 3)])), none⟩, ⟨(some 2), (.q (.move (.tmp 25))), none⟩]) .ret))))
theorem t19 : Told Tryd.prog 19 26 c19 [(.tmp 2)] := ⟨Tryd.f19, _, [], Tryd.func19, rfl, by kernel_rfl, rfl, by kernel_rfl, by kernel_rfl⟩
def c7 : ACode := 
    (.seq 
    (.region [⟨(some 2), (.q (.move (.const .nils))), none⟩, ⟨(some 3), (.q (.move (.const (.bool false)))), none⟩]) 
    (.seq 
    (.seq 
    (.region [⟨(some 4), (.q (.move (.tmp 0))), none⟩, ⟨(some 5), (.q (.bin .eql (.tmp 4) (.const (.str (B []))))), none⟩]) 
    (.cond (.tmp 5) 
    (.seq 
    (.region [⟨(some 2), (.q (.move (.const .nils))), none⟩, ⟨(some 3), (.q (.move (.const (.bool false)))), none⟩]) .ret) .skip)) 
    (.seq 
    (.region [⟨(some 6), (.q (.move (.tmp 0))), none⟩, ⟨(some 7), (.s (.call 21 [(.tmp 6)])), none⟩, ⟨(some 8), (.q (.extract 0 (.tmp 7))), none⟩, ⟨(some 9), (.q (.extract 1 (.tmp 7))), none⟩, ⟨(some 2), (.q (.move (.tmp 8))), none⟩, ⟨(some 3), (.q (.move (.tmp 9))), none⟩]) .ret)))
theorem t7 : Told Tryd.prog 7 10 c7 [(.tmp 2), (.tmp 3)] := ⟨Tryd.f7, _, [], Tryd.func7, rfl, by kernel_rfl, rfl, by kernel_rfl, by kernel_rfl⟩
def c9 : ACode := 
    (.seq 
    (.region [⟨(some 2), (.q (.move (.const (.int .i64 0)))), none⟩, ⟨(some 3), (.q (.move (.const (.bool false)))), none⟩]) 
    (.seq 
    (.seq 
    (.region [⟨(some 4), (.q (.move (.tmp 0))), none⟩, ⟨(some 5), (.q (.len true (.tmp 4))), none⟩, ⟨(some 6), (.q (.bin .neq (.tmp 5) (.const (.int .i64 4)))), none⟩]) 
    (.cond (.tmp 6) 
    (.seq 
    (.region [⟨(some 2), (.q (.move (.const (.int .i64 0)))), none⟩, ⟨(some 3), (.q (.move (.const (.bool false)))), none⟩]) .ret) .skip)) 
    (.seq 
    (.region [⟨(some 7), (.q (.move (.tmp 0))), none⟩, ⟨(some 8), (.s (.call 23 [(.tmp 7)])), none⟩, ⟨(some 9), (.q (.extract 0 (.tmp 8))), none⟩, ⟨(some 10), (.q (.extract 1 (.tmp 8))), none⟩, ⟨(some 2), (.q (.move (.tmp 9))), none⟩, ⟨(some 3), (.q (.move (.tmp 10))), none⟩]) .ret)))
theorem t9 : Told Tryd.prog 9 11 c9 [(.tmp 2), (.tmp 3)] := ⟨Tryd.f9, _, [], Tryd.func9, rfl, by kernel_rfl, rfl, by kernel_rfl, by kernel_rfl⟩
def c12 : ACode := 
    (.seq 
    (.region [⟨(some 2), (.q (.move (.const .nils))), none⟩, ⟨(some 3), (.q (.move (.const (.bool false)))), none⟩]) 
    (.seq 
    (.region [⟨(some 7), (.q (.move (.tmp 0))), none⟩, ⟨(some 8), (.s (.call 25 [(.tmp 7), (.const (.str (B [0])))])), none⟩, ⟨(some 6), (.q (.move (.tmp 8))), none⟩, ⟨(some 9), (.q (.extract 0 (.tmp 6))), none⟩, ⟨(some 10), (.q (.extract 1 (.tmp 6))), none⟩, ⟨(some 4), (.q (.move (.tmp 9))), none⟩, ⟨(some 5), (.q (.move (.tmp 10))), none⟩]) 
    (.seq 
    (.seq 
    (.region [⟨(some 11), (.q (.move (.tmp 5))), none⟩, ⟨(some 12), (.q (.un .not (.tmp 11))), none⟩]) 
    (.cond (.tmp 12) 
    (.seq 
    (.region [⟨(some 2), (.q (.move (.const .nils))), none⟩, ⟨(some 3), (.q (.move (.const (.bool false)))), none⟩]) .ret) .skip)) 
    (.seq 
    (.region [⟨(some 13), (.q (.move (.tmp 4))), none⟩, ⟨(some 14), (.s (.call 26 [(.tmp 13), (.const (.str (B [0])))])), none⟩, ⟨(some 2), (.q (.move (.tmp 14))), none⟩, ⟨(some 3), (.q (.move (.const (.bool true)))), none⟩]) .ret))))
theorem t12 : Told Tryd.prog 12 15 c12 [(.tmp 2), (.tmp 3)] := ⟨Tryd.f12, _, [], Tryd.func12, rfl, by kernel_rfl, rfl, by kernel_rfl, by kernel_rfl⟩
def c14 : ACode := 
    (.seq 
    (.region [⟨(some 2), (.q (.move (.const (.str (B []))))), none⟩, ⟨(some 3), (.q (.move (.const (.bool false)))), none⟩]) 
    (.seq 
    (.region [⟨(some 7), (.q (.move (.tmp 0))), none⟩, ⟨(some 8), (.s (.call 12 [(.tmp 7)])), none⟩, ⟨(some 6), (.q (.move (.tmp 8))), none⟩, ⟨(some 9), (.q (.extract 0 (.tmp 6))), none⟩, ⟨(some 10), (.q (.extract 1 (.tmp 6))), none⟩, ⟨(some 4), (.q (.move (.tmp 9))), none⟩, ⟨(some 5), (.q (.move (.tmp 10))), none⟩]) 
    (.seq 
    (.seq 
    (.region [⟨(some 11), (.q (.move (.tmp 5))), none⟩, ⟨(some 12), (.q (.un .not (.tmp 11))), none⟩, ⟨(some 13), (.q (.move (.tmp 12))), none⟩, ⟨(some 14), (.q (.move (.tmp 4))), (some (13, false))⟩, ⟨(some 15), (.q (.len false (.tmp 14))), (some (13, false))⟩, ⟨(some 16), (.q (.bin .neq (.tmp 15) (.const (.int .i64 1)))), (some (13, false))⟩, ⟨(some 17), (.q (.pick (.tmp 13) (.const (.bool true)) (.tmp 16))), none⟩]) 
    (.cond (.tmp 17) 
    (.seq 
    (.region [⟨(some 2), (.q (.move (.const (.str (B []))))), none⟩, ⟨(some 3), (.q (.move (.const (.bool false)))), none⟩]) .ret) .skip)) 
    (.seq 
    (.region [⟨(some 18), (.q (.move (.tmp 4))), none⟩, ⟨(some 19), (.q (.idxSl 1 (.tmp 18) (.const (.int .i64 0)))), none⟩, ⟨(some 20), (.q (.load false 1 (.tmp 19))), none⟩, ⟨(some 2), (.q (.move (.tmp 20))), none⟩, ⟨(some 3), (.q (.move (.const (.bool true)))), none⟩]) .ret))))
theorem t14 : Told Tryd.prog 14 21 c14 [(.tmp 2), (.tmp 3)] := ⟨Tryd.f14, _, [], Tryd.func14, rfl, by kernel_rfl, rfl, by kernel_rfl, by kernel_rfl⟩
def c27 : ACode := 
    (.seq 
    (.region [⟨(some 2), (.q (.move (.const (.str (B []))))), none⟩]) 
    (.seq 
    (.seq 
    (.region [⟨(some 3), (.q (.move (.const (.int .i64 0)))), none⟩]) 
    (.block 0 
    (.loop 
    (.seq 
    (.seq 
    (.region [⟨(some 4), (.q (.move (.tmp 3))), none⟩, ⟨(some 5), (.q (.move (.tmp 0))), none⟩, ⟨(some 6), (.q (.len true (.tmp 5))), none⟩, ⟨(some 7), (.q (.bin .lss (.tmp 4) (.tmp 6))), none⟩]) 
    (.cond (.tmp 7) .skip (.exit 0))) 
    (.seq 
    (.block 1 
    (.seq 
    (.region [⟨(some 10), (.q (.move (.tmp 0))), none⟩, ⟨(some 11), (.q (.move (.tmp 3))), none⟩, ⟨(some 12), (.q (.idxStr (.tmp 10) (.tmp 11))), none⟩, ⟨(some 13), (.q (.bin .eql (.tmp 12) (.const (.int .u8 0)))), none⟩]) 
    (.cond (.tmp 13) 
    (.seq 
    (.region [⟨(some 14), (.q (.move (.tmp 0))), none⟩, ⟨(some 15), (.q (.move (.tmp 3))), none⟩, ⟨(some 16), (.q (.sliceStr (.tmp 14) none (some (.tmp 15)))), none⟩, ⟨(some 2), (.q (.move (.tmp 16))), none⟩]) .ret) .skip))) 
    (.region [⟨(some 8), (.q (.move (.tmp 3))), none⟩, ⟨(some 9), (.q (.bin .add (.tmp 8) (.const (.int .i64 1)))), none⟩, ⟨(some 3), (.q (.move (.tmp 9))), none⟩])))))) 
    (.seq 
    (.region [⟨(some 17), (.q (.move (.tmp 0))), none⟩, ⟨(some 2), (.q (.move (.tmp 17))), none⟩]) .ret)))
theorem t27 : Told Tryd.prog 27 18 c27 [(.tmp 2)] := ⟨Tryd.f27, _, [], Tryd.func27, rfl, by kernel_rfl, rfl, by kernel_rfl, by kernel_rfl⟩
def c20 : ACode := 
    (.seq 
    (.region [⟨(some 2), (.q (.move (.const (.str (B []))))), none⟩]) 
    (.seq 
    (.region [⟨(some 3), (.q (.move (.const (.str (B []))))), none⟩]) 
    (.seq 
    (.seq 
    (.region [⟨(some 4), (.q (.move (.const (.int .i64 0)))), none⟩]) 
    (.block 0 
    (.loop 
    (.seq 
    (.seq 
    (.region [⟨(some 5), (.q (.move (.tmp 4))), none⟩, ⟨(some 6), (.q (.move (.tmp 0))), none⟩, ⟨(some 7), (.q (.len false (.tmp 6))), none⟩, ⟨(some 8), (.q (.bin .lss (.tmp 5) (.tmp 7))), none⟩]) 
    (.cond (.tmp 8) .skip (.exit 0))) 
    (.seq 
    (.block 1 
    (.region [⟨(some 11), (.q (.move (.tmp 3))), none⟩, ⟨(some 12), (.q (.move (.tmp 0))), none⟩, ⟨(some 13), (.q (.move (.tmp 4))), none⟩, ⟨(some 14), (.q (.idxSl 1 (.tmp 12) (.tmp 13))), none⟩, ⟨(some 15), (.q (.load false 1 (.tmp 14))), none⟩, ⟨(some 16), (.s (.call 27 [(.tmp 15)])), none⟩, ⟨(some 17), (.q (.bin .add (.tmp 11) (.tmp 16))), none⟩, ⟨(some 18), (.q (.bin .add (.tmp 17) (.const (.str (B [0]))))), none⟩, ⟨(some 3), (.q (.move (.tmp 18))), none⟩])) 
    (.region [⟨(some 9), (.q (.move (.tmp 4))), none⟩, ⟨(some 10), (.q (.bin .add (.tmp 9) (.const (.int .i64 1)))), none⟩, ⟨(some 4), (.q (.move (.tmp 10))), none⟩])))))) 
    (.seq 
    (.region [⟨(some 19), (.q (.move (.tmp 3))), none⟩, ⟨(some 2), (.q (.move (.tmp 19))), none⟩]) .ret))))
theorem t20 : Told Tryd.prog 20 20 c20 [(.tmp 2)] := ⟨Tryd.f20, _, [], Tryd.func20, rfl, by kernel_rfl, rfl, by kernel_rfl, by kernel_rfl⟩
def c8 : ACode := 
    (.seq 
    (.region [⟨(some 2), (.q (.move (.const .nils))), none⟩, ⟨(some 3), (.q (.move (.const (.bool false)))), none⟩]) 
    (.seq 
    (.seq 
    (.region [⟨(some 4), (.q (.move (.tmp 0))), none⟩, ⟨(some 5), (.q (.bin .eql (.tmp 4) (.const (.str (B []))))), none⟩]) 
    (.cond (.tmp 5) 
    (.seq 
    (.region [⟨(some 2), (.q (.move (.const .nils))), none⟩, ⟨(some 3), (.q (.move (.const (.bool false)))), none⟩]) .ret) .skip)) 
    (.seq 
    (.region [⟨(some 6), (.q (.move (.tmp 0))), none⟩, ⟨(some 7), (.s (.call 22 [(.tmp 6)])), none⟩, ⟨(some 8), (.q (.extract 0 (.tmp 7))), none⟩, ⟨(some 9), (.q (.extract 1 (.tmp 7))), none⟩, ⟨(some 2), (.q (.move (.tmp 8))), none⟩, ⟨(some 3), (.q (.move (.tmp 9))), none⟩]) .ret)))
theorem t8 : Told Tryd.prog 8 10 c8 [(.tmp 2), (.tmp 3)] := ⟨Tryd.f8, _, [], Tryd.func8, rfl, by kernel_rfl, rfl, by kernel_rfl, by kernel_rfl⟩
def c10 : ACode := 
    (.seq 
    (.region [⟨(some 2), (.q (.move (.const (.int .i64 0)))), none⟩, ⟨(some 3), (.q (.move (.const (.bool false)))), none⟩]) 
    (.seq 
    (.seq 
    (.region [⟨(some 4), (.q (.move (.tmp 0))), none⟩, ⟨(some 5), (.q (.len true (.tmp 4))), none⟩, ⟨(some 6), (.q (.bin .neq (.tmp 5) (.const (.int .i64 4)))), none⟩]) 
    (.cond (.tmp 6) 
    (.seq 
    (.region [⟨(some 2), (.q (.move (.const (.int .i64 0)))), none⟩, ⟨(some 3), (.q (.move (.const (.bool false)))), none⟩]) .ret) .skip)) 
    (.seq 
    (.region [⟨(some 7), (.q (.move (.tmp 0))), none⟩, ⟨(some 8), (.s (.call 24 [(.tmp 7)])), none⟩, ⟨(some 9), (.q (.extract 0 (.tmp 8))), none⟩, ⟨(some 10), (.q (.extract 1 (.tmp 8))), none⟩, ⟨(some 2), (.q (.move (.tmp 9))), none⟩, ⟨(some 3), (.q (.move (.tmp 10))), none⟩]) .ret)))
theorem t10 : Told Tryd.prog 10 11 c10 [(.tmp 2), (.tmp 3)] := ⟨Tryd.f10, _, [], Tryd.func10, rfl, by kernel_rfl, rfl, by kernel_rfl, by kernel_rfl⟩
def c13 : ACode := 
    (.seq 
    (.region [⟨(some 2), (.q (.move (.const .nils))), none⟩, ⟨(some 3), (.q (.move (.const (.bool false)))), none⟩]) 
    (.seq 
    (.seq 
    (.region [⟨(some 6), (.q (.move (.tmp 0))), none⟩, ⟨(some 7), (.q (.bin .eql (.tmp 6) (.const (.str (B []))))), none⟩, ⟨(some 8), (.q (.move (.tmp 7))), none⟩, ⟨(some 9), (.q (.move (.tmp 0))), (some (8, false))⟩, ⟨(some 10), (.q (.move (.tmp 0))), (some (8, false))⟩, ⟨(some 11), (.q (.len true (.tmp 10))), (some (8, false))⟩, ⟨(some 12), (.q (.bin .sub (.tmp 11) (.const (.int .i64 1)))), (some (8, false))⟩, ⟨(some 13), (.q (.idxStr (.tmp 9) (.tmp 12))), (some (8, false))⟩, ⟨(some 14), (.q (.bin .neq (.tmp 13) (.const (.int .u8 0)))), (some (8, false))⟩, ⟨(some 15), (.q (.pick (.tmp 8) (.const (.bool true)) (.tmp 14))), none⟩]) 
    (.cond (.tmp 15) 
    (.seq 
    (.region [⟨(some 2), (.q (.move (.const .nils))), none⟩, ⟨(some 3), (.q (.move (.const (.bool false)))), none⟩]) .ret) .skip)) 
    (.seq 
    (.region [⟨(some 4), (.q (.move (.const .nils))), none⟩]) 
    (.seq 
    (.block 0 
    (.loop 
    (.seq 
    (.seq 
    (.region [⟨(some 16), (.q (.move (.tmp 0))), none⟩, ⟨(some 17), (.q (.bin .neq (.tmp 16) (.const (.str (B []))))), none⟩]) 
    (.cond (.tmp 17) .skip (.exit 0))) 
    (.block 1 
    (.seq 
    (.region [⟨(some 18), (.q (.move (.tmp 0))), none⟩, ⟨(some 19), (.s (.call 27 [(.tmp 18)])), none⟩, ⟨(some 5), (.q (.move (.tmp 19))), none⟩]) 
    (.seq 
    (.region [⟨(some 20), (.q (.move (.tmp 4))), none⟩, ⟨(some 21), (.q (.move (.tmp 5))), none⟩, ⟨(some 22), (.s (.lit 9 1 [(.tmp 21)])), none⟩, ⟨(some 23), (.s (.app 9 1 16 (.tmp 20) (.tmp 22))), none⟩, ⟨(some 4), (.q (.move (.tmp 23))), none⟩]) 
    (.region [⟨(some 24), (.q (.move (.tmp 0))), none⟩, ⟨(some 25), (.q (.move (.tmp 5))), none⟩, ⟨(some 26), (.q (.len true (.tmp 25))), none⟩, ⟨(some 27), (.q (.bin .add (.tmp 26) (.const (.int .i64 1)))), none⟩, ⟨(some 28), (.q (.sliceStr (.tmp 24) (some (.tmp 27)) none)), none⟩, ⟨(some 0), (.q (.move (.tmp 28))), none⟩]))))))) 
    (.seq 
    (.region [⟨(some 29), (.q (.move (.tmp 4))), none⟩, ⟨(some 2), (.q (.move (.tmp 29))), none⟩, ⟨(some 3), (.q (.move (.const (.bool true)))), none⟩]) .ret)))))
theorem t13 : Told Tryd.prog 13 30 c13 [(.tmp 2), (.tmp 3)] := ⟨Tryd.f13, _, [], Tryd.func13, rfl, by kernel_rfl, rfl, by kernel_rfl, by kernel_rfl⟩
def c15 : ACode := 
    (.seq 
    (.region [⟨(some 2), (.q (.move (.const (.str (B []))))), none⟩, ⟨(some 3), (.q (.move (.const (.bool false)))), none⟩]) 
    (.seq 
    (.region [⟨(some 7), (.q (.move (.tmp 0))), none⟩, ⟨(some 8), (.s (.call 13 [(.tmp 7)])), none⟩, ⟨(some 6), (.q (.move (.tmp 8))), none⟩, ⟨(some 9), (.q (.extract 0 (.tmp 6))), none⟩, ⟨(some 10), (.q (.extract 1 (.tmp 6))), none⟩, ⟨(some 4), (.q (.move (.tmp 9))), none⟩, ⟨(some 5), (.q (.move (.tmp 10))), none⟩]) 
    (.seq 
    (.seq 
    (.region [⟨(some 11), (.q (.move (.tmp 5))), none⟩, ⟨(some 12), (.q (.un .not (.tmp 11))), none⟩, ⟨(some 13), (.q (.move (.tmp 12))), none⟩, ⟨(some 14), (.q (.move (.tmp 4))), (some (13, false))⟩, ⟨(some 15), (.q (.len false (.tmp 14))), (some (13, false))⟩, ⟨(some 16), (.q (.bin .neq (.tmp 15) (.const (.int .i64 1)))), (some (13, false))⟩, ⟨(some 17), (.q (.pick (.tmp 13) (.const (.bool true)) (.tmp 16))), none⟩]) 
    (.cond (.tmp 17) 
    (.seq 
    (.region [⟨(some 2), (.q (.move (.const (.str (B []))))), none⟩, ⟨(some 3), (.q (.move (.const (.bool false)))), none⟩]) .ret) .skip)) 
    (.seq 
    (.region [⟨(some 18), (.q (.move (.tmp 4))), none⟩, ⟨(some 19), (.q (.idxSl 1 (.tmp 18) (.const (.int .i64 0)))), none⟩, ⟨(some 20), (.q (.load false 1 (.tmp 19))), none⟩, ⟨(some 2), (.q (.move (.tmp 20))), none⟩, ⟨(some 3), (.q (.move (.const (.bool true)))), none⟩]) .ret))))
theorem t15 : Told Tryd.prog 15 21 c15 [(.tmp 2), (.tmp 3)] := ⟨Tryd.f15, _, [], Tryd.func15, rfl, by kernel_rfl, rfl, by kernel_rfl, by kernel_rfl⟩
def c6 : ACode := 
    (.seq 
    (.region [⟨(some 0), (.q (.move (.const (.bool false)))), none⟩]) 
    (.seq 
    (.region [⟨(some 8), (.s (.lit 3 1 [(.const (.int .i64 7))])), none⟩, ⟨(some 9), (.s (.call 17 [(.tmp 8)])), none⟩, ⟨(some 10), (.s (.call 9 [(.tmp 9)])), none⟩, ⟨(some 7), (.q (.move (.tmp 10))), none⟩, ⟨(some 11), (.q (.extract 0 (.tmp 7))), none⟩, ⟨(some 12), (.q (.extract 1 (.tmp 7))), none⟩, ⟨(some 1), (.q (.move (.tmp 11))), none⟩, ⟨(some 2), (.q (.move (.tmp 12))), none⟩]) 
    (.seq 
    (.region [⟨(some 14), (.s (.lit 9 1 [(.const (.str (B [97]))), (.const (.str (B [98])))])), none⟩, ⟨(some 15), (.s (.call 19 [(.tmp 14)])), none⟩, ⟨(some 16), (.s (.call 12 [(.tmp 15)])), none⟩, ⟨(some 13), (.q (.move (.tmp 16))), none⟩, ⟨(some 17), (.q (.extract 0 (.tmp 13))), none⟩, ⟨(some 18), (.q (.extract 1 (.tmp 13))), none⟩, ⟨(some 3), (.q (.move (.tmp 17))), none⟩, ⟨(some 4), (.q (.move (.tmp 18))), none⟩]) 
    (.seq 
    (.region [⟨(some 20), (.s (.call 14 [(.const (.str (B [120, 0])))])), none⟩, ⟨(some 19), (.q (.move (.tmp 20))), none⟩, ⟨(some 21), (.q (.extract 0 (.tmp 19))), none⟩, ⟨(some 22), (.q (.extract 1 (.tmp 19))), none⟩, ⟨(some 5), (.q (.move (.tmp 21))), none⟩, ⟨(some 6), (.q (.move (.tmp 22))), none⟩]) 
    (.seq 
    (.region [⟨(some 23), (.q (.move (.tmp 1))), none⟩, ⟨(some 24), (.q (.bin .eql (.tmp 23) (.const (.int .i64 7)))), none⟩, ⟨(some 25), (.q (.move (.tmp 24))), none⟩, ⟨(some 26), (.q (.move (.tmp 2))), (some (25, true))⟩, ⟨(some 27), (.q (.pick (.tmp 25) (.tmp 26) (.const (.bool false)))), none⟩, ⟨(some 28), (.q (.move (.tmp 27))), none⟩, ⟨(some 29), (.q (.move (.tmp 3))), (some (28, true))⟩, ⟨(some 30), (.s (.lit 9 1 [(.const (.str (B [97]))), (.const (.str (B [98])))])), (some (28, true))⟩, ⟨(some 31), (.s (.call 16 [(.tmp 29), (.tmp 30)])), (some (28, true))⟩, ⟨(some 32), (.q (.pick (.tmp 28) (.tmp 31) (.const (.bool false)))), none⟩, ⟨(some 33), (.q (.move (.tmp 32))), none⟩, ⟨(some 34), (.q (.move (.tmp 4))), (some (33, true))⟩, ⟨(some 35), (.q (.pick (.tmp 33) (.tmp 34) (.const (.bool false)))), none⟩, ⟨(some 36), (.q (.move (.tmp 35))), none⟩, ⟨(some 37), (.q (.move (.tmp 5))), (some (36, true))⟩, ⟨(some 38), (.q (.bin .eql (.tmp 37) (.const (.str (B [120]))))), (some (36, true))⟩, ⟨(some 39), (.q (.pick (.tmp 36) (.tmp 38) (.const (.bool false)))), none⟩, ⟨(some 40), (.q (.move (.tmp 39))), none⟩, ⟨(some 41), (.q (.move (.tmp 6))), (some (40, true))⟩, ⟨(some 42), (.q (.pick (.tmp 40) (.tmp 41) (.const (.bool false)))), none⟩, ⟨(some 0), (.q (.move (.tmp 42))), none⟩]) .ret)))))
theorem t6 : Told Tryd.prog 6 43 c6 [(.tmp 0)] := ⟨Tryd.f6, _, [], Tryd.func6, rfl, by kernel_rfl, rfl, by kernel_rfl, by kernel_rfl⟩
def c3 : ACode := 
    (.seq 
    (.region [⟨(some 6), (.q (.move (.const (.bool false)))), none⟩]) 
    (.seq 
    (.seq 
    (.region [⟨(some 23), (.q (.move (.tmp 0))), none⟩, ⟨(some 24), (.q (.len false (.tmp 23))), none⟩, ⟨(some 25), (.q (.bin .gtr (.tmp 24) (.const (.int .i64 40)))), none⟩, ⟨(some 26), (.q (.move (.tmp 25))), none⟩, ⟨(some 27), (.q (.move (.tmp 1))), (some (26, false))⟩, ⟨(some 28), (.s (.call 5 [(.tmp 27)])), (some (26, false))⟩, ⟨(some 29), (.q (.un .not (.tmp 28))), (some (26, false))⟩, ⟨(some 30), (.q (.pick (.tmp 26) (.const (.bool true)) (.tmp 29))), none⟩, ⟨(some 31), (.q (.move (.tmp 30))), none⟩, ⟨(some 32), (.q (.move (.tmp 2))), (some (31, false))⟩, ⟨(some 33), (.q (.len true (.tmp 32))), (some (31, false))⟩, ⟨(some 34), (.q (.bin .gtr (.tmp 33) (.const (.int .i64 200)))), (some (31, false))⟩, ⟨(some 35), (.q (.pick (.tmp 31) (.const (.bool true)) (.tmp 34))), none⟩]) 
    (.cond (.tmp 35) 
    (.seq 
    (.region [⟨(some 36), (.s (.call 6 [])), none⟩, ⟨(some 6), (.q (.move (.tmp 36))), none⟩]) .ret) .skip)) 
    (.seq 
    (.region [⟨(some 38), (.q (.move (.tmp 2))), none⟩, ⟨(some 39), (.s (.call 7 [(.tmp 38)])), none⟩, ⟨(some 37), (.q (.move (.tmp 39))), none⟩, ⟨(some 40), (.q (.extract 0 (.tmp 37))), none⟩, ⟨(some 41), (.q (.extract 1 (.tmp 37))), none⟩, ⟨(some 7), (.q (.move (.tmp 40))), none⟩, ⟨(some 8), (.q (.move (.tmp 41))), none⟩]) 
    (.seq 
    (.region [⟨(some 43), (.q (.move (.tmp 2))), none⟩, ⟨(some 44), (.s (.call 8 [(.tmp 43)])), none⟩, ⟨(some 42), (.q (.move (.tmp 44))), none⟩, ⟨(some 45), (.q (.extract 0 (.tmp 42))), none⟩, ⟨(some 46), (.q (.extract 1 (.tmp 42))), none⟩, ⟨(some 9), (.q (.move (.tmp 45))), none⟩, ⟨(some 10), (.q (.move (.tmp 46))), none⟩]) 
    (.seq 
    (.region [⟨(some 48), (.q (.move (.tmp 2))), none⟩, ⟨(some 49), (.s (.call 9 [(.tmp 48)])), none⟩, ⟨(some 47), (.q (.move (.tmp 49))), none⟩, ⟨(some 50), (.q (.extract 0 (.tmp 47))), none⟩, ⟨(some 51), (.q (.extract 1 (.tmp 47))), none⟩, ⟨(some 11), (.q (.move (.tmp 50))), none⟩, ⟨(some 12), (.q (.move (.tmp 51))), none⟩]) 
    (.seq 
    (.region [⟨(some 53), (.q (.move (.tmp 2))), none⟩, ⟨(some 54), (.s (.call 10 [(.tmp 53)])), none⟩, ⟨(some 52), (.q (.move (.tmp 54))), none⟩, ⟨(some 55), (.q (.extract 0 (.tmp 52))), none⟩, ⟨(some 56), (.q (.extract 1 (.tmp 52))), none⟩, ⟨(some 13), (.q (.move (.tmp 55))), none⟩, ⟨(some 14), (.q (.move (.tmp 56))), none⟩]) 
    (.seq 
    (.seq 
    (.region [⟨(some 57), (.q (.move (.tmp 7))), none⟩, ⟨(some 58), (.q (.move (.tmp 9))), none⟩, ⟨(some 59), (.s (.call 11 [(.tmp 57), (.tmp 58)])), none⟩, ⟨(some 60), (.q (.un .not (.tmp 59))), none⟩, ⟨(some 61), (.q (.move (.tmp 60))), none⟩, ⟨(some 62), (.q (.move (.tmp 8))), (some (61, false))⟩, ⟨(some 63), (.q (.move (.tmp 10))), (some (61, false))⟩, ⟨(some 64), (.q (.beq true (.tmp 62) (.tmp 63))), (some (61, false))⟩, ⟨(some 65), (.q (.pick (.tmp 61) (.const (.bool true)) (.tmp 64))), none⟩, ⟨(some 66), (.q (.move (.tmp 65))), none⟩, ⟨(some 67), (.q (.move (.tmp 11))), (some (66, false))⟩, ⟨(some 68), (.q (.move (.tmp 13))), (some (66, false))⟩, ⟨(some 69), (.q (.bin .neq (.tmp 67) (.tmp 68))), (some (66, false))⟩, ⟨(some 70), (.q (.pick (.tmp 66) (.const (.bool true)) (.tmp 69))), none⟩, ⟨(some 71), (.q (.move (.tmp 70))), none⟩, ⟨(some 72), (.q (.move (.tmp 12))), (some (71, false))⟩, ⟨(some 73), (.q (.move (.tmp 14))), (some (71, false))⟩, ⟨(some 74), (.q (.beq true (.tmp 72) (.tmp 73))), (some (71, false))⟩, ⟨(some 75), (.q (.pick (.tmp 71) (.const (.bool true)) (.tmp 74))), none⟩]) 
    (.cond (.tmp 75) 
    (.seq 
    (.region [⟨(some 6), (.q (.move (.const (.bool false)))), none⟩]) .ret) .skip)) 
    (.seq 
    (.region [⟨(some 77), (.q (.move (.tmp 2))), none⟩, ⟨(some 78), (.s (.call 12 [(.tmp 77)])), none⟩, ⟨(some 76), (.q (.move (.tmp 78))), none⟩, ⟨(some 79), (.q (.extract 0 (.tmp 76))), none⟩, ⟨(some 80), (.q (.extract 1 (.tmp 76))), none⟩, ⟨(some 15), (.q (.move (.tmp 79))), none⟩, ⟨(some 16), (.q (.move (.tmp 80))), none⟩]) 
    (.seq 
    (.region [⟨(some 82), (.q (.move (.tmp 2))), none⟩, ⟨(some 83), (.s (.call 13 [(.tmp 82)])), none⟩, ⟨(some 81), (.q (.move (.tmp 83))), none⟩, ⟨(some 84), (.q (.extract 0 (.tmp 81))), none⟩, ⟨(some 85), (.q (.extract 1 (.tmp 81))), none⟩, ⟨(some 17), (.q (.move (.tmp 84))), none⟩, ⟨(some 18), (.q (.move (.tmp 85))), none⟩]) 
    (.seq 
    (.region [⟨(some 87), (.q (.move (.tmp 2))), none⟩, ⟨(some 88), (.s (.call 14 [(.tmp 87)])), none⟩, ⟨(some 86), (.q (.move (.tmp 88))), none⟩, ⟨(some 89), (.q (.extract 0 (.tmp 86))), none⟩, ⟨(some 90), (.q (.extract 1 (.tmp 86))), none⟩, ⟨(some 19), (.q (.move (.tmp 89))), none⟩, ⟨(some 20), (.q (.move (.tmp 90))), none⟩]) 
    (.seq 
    (.region [⟨(some 92), (.q (.move (.tmp 2))), none⟩, ⟨(some 93), (.s (.call 15 [(.tmp 92)])), none⟩, ⟨(some 91), (.q (.move (.tmp 93))), none⟩, ⟨(some 94), (.q (.extract 0 (.tmp 91))), none⟩, ⟨(some 95), (.q (.extract 1 (.tmp 91))), none⟩, ⟨(some 21), (.q (.move (.tmp 94))), none⟩, ⟨(some 22), (.q (.move (.tmp 95))), none⟩]) 
    (.seq 
    (.region [⟨(some 96), (.q (.move (.tmp 15))), none⟩, ⟨(some 97), (.q (.move (.tmp 17))), none⟩, ⟨(some 98), (.s (.call 16 [(.tmp 96), (.tmp 97)])), none⟩, ⟨(some 99), (.q (.move (.tmp 98))), none⟩, ⟨(some 100), (.q (.move (.tmp 16))), (some (99, true))⟩, ⟨(some 101), (.q (.move (.tmp 18))), (some (99, true))⟩, ⟨(some 102), (.q (.beq false (.tmp 100) (.tmp 101))), (some (99, true))⟩, ⟨(some 103), (.q (.pick (.tmp 99) (.tmp 102) (.const (.bool false)))), none⟩, ⟨(some 104), (.q (.move (.tmp 103))), none⟩, ⟨(some 105), (.q (.move (.tmp 19))), (some (104, true))⟩, ⟨(some 106), (.q (.move (.tmp 21))), (some (104, true))⟩, ⟨(some 107), (.q (.bin .eql (.tmp 105) (.tmp 106))), (some (104, true))⟩, ⟨(some 108), (.q (.pick (.tmp 104) (.tmp 107) (.const (.bool false)))), none⟩, ⟨(some 109), (.q (.move (.tmp 108))), none⟩, ⟨(some 110), (.q (.move (.tmp 20))), (some (109, true))⟩, ⟨(some 111), (.q (.move (.tmp 22))), (some (109, true))⟩, ⟨(some 112), (.q (.beq false (.tmp 110) (.tmp 111))), (some (109, true))⟩, ⟨(some 113), (.q (.pick (.tmp 109) (.tmp 112) (.const (.bool false)))), none⟩, ⟨(some 114), (.q (.move (.tmp 113))), none⟩, ⟨(some 115), (.q (.move (.tmp 0))), (some (114, true))⟩, ⟨(some 116), (.s (.call 17 [(.tmp 115)])), (some (114, true))⟩, ⟨(some 117), (.q (.move (.tmp 0))), (some (114, true))⟩, ⟨(some 118), (.s (.call 18 [(.tmp 117)])), (some (114, true))⟩, ⟨(some 119), (.q (.bin .eql (.tmp 116) (.tmp 118))), (some (114, true))⟩, ⟨(some 120), (.q (.pick (.tmp 114) (.tmp 119) (.const (.bool false)))), none⟩, ⟨(some 121), (.q (.move (.tmp 120))), none⟩, ⟨(some 122), (.q (.move (.tmp 1))), (some (121, true))⟩, ⟨(some 123), (.s (.call 19 [(.tmp 122)])), (some (121, true))⟩, ⟨(some 124), (.q (.move (.tmp 1))), (some (121, true))⟩, ⟨(some 125), (.s (.call 20 [(.tmp 124)])), (some (121, true))⟩, ⟨(some 126), (.q (.bin .eql (.tmp 123) (.tmp 125))), (some (121, true))⟩, ⟨(some 127), (.q (.pick (.tmp 121) (.tmp 126) (.const (.bool false)))), none⟩, ⟨(some 128), (.q (.move (.tmp 127))), none⟩, ⟨(some 129), (.s (.call 6 [])), (some (128, true))⟩, ⟨(some 130), (.q (.pick (.tmp 128) (.tmp 129) (.const (.bool false)))), none⟩, ⟨(some 6), (.q (.move (.tmp 130))), none⟩]) .ret))))))))))))
theorem t3 : Told Tryd.prog 3 131 c3 [(.tmp 6)] := ⟨Tryd.f3, _, [], Tryd.func3, rfl, by kernel_rfl, rfl, by kernel_rfl, by kernel_rfl⟩
def c4 : ACode := 
    (.seq 
    (.region [⟨(some 4), (.q (.move (.const (.bool false)))), none⟩]) 
    (.seq 
    (.seq 
    (.region [⟨(some 12), (.q (.move (.tmp 0))), none⟩, ⟨(some 13), (.q (.len false (.tmp 12))), none⟩, ⟨(some 14), (.q (.bin .gtr (.tmp 13) (.const (.int .i64 40)))), none⟩, ⟨(some 15), (.q (.move (.tmp 14))), none⟩, ⟨(some 16), (.q (.move (.tmp 1))), (some (15, false))⟩, ⟨(some 17), (.s (.call 5 [(.tmp 16)])), (some (15, false))⟩, ⟨(some 18), (.q (.un .not (.tmp 17))), (some (15, false))⟩, ⟨(some 19), (.q (.pick (.tmp 15) (.const (.bool true)) (.tmp 18))), none⟩]) 
    (.cond (.tmp 19) 
    (.seq 
    (.region [⟨(some 20), (.s (.call 6 [])), none⟩, ⟨(some 4), (.q (.move (.tmp 20))), none⟩]) .ret) .skip)) 
    (.seq 
    (.region [⟨(some 22), (.q (.move (.tmp 0))), none⟩, ⟨(some 23), (.s (.call 17 [(.tmp 22)])), none⟩, ⟨(some 24), (.s (.call 7 [(.tmp 23)])), none⟩, ⟨(some 21), (.q (.move (.tmp 24))), none⟩, ⟨(some 25), (.q (.extract 0 (.tmp 21))), none⟩, ⟨(some 26), (.q (.extract 1 (.tmp 21))), none⟩, ⟨(some 5), (.q (.move (.tmp 25))), none⟩, ⟨(some 6), (.q (.move (.tmp 26))), none⟩]) 
    (.seq 
    (.seq 
    (.region [⟨(some 27), (.q (.move (.tmp 6))), none⟩, ⟨(some 28), (.q (.move (.tmp 0))), none⟩, ⟨(some 29), (.q (.len false (.tmp 28))), none⟩, ⟨(some 30), (.q (.bin .gtr (.tmp 29) (.const (.int .i64 0)))), none⟩, ⟨(some 31), (.q (.beq true (.tmp 27) (.tmp 30))), none⟩, ⟨(some 32), (.q (.move (.tmp 31))), none⟩, ⟨(some 33), (.q (.move (.tmp 5))), (some (32, false))⟩, ⟨(some 34), (.q (.len false (.tmp 33))), (some (32, false))⟩, ⟨(some 35), (.q (.move (.tmp 0))), (some (32, false))⟩, ⟨(some 36), (.q (.len false (.tmp 35))), (some (32, false))⟩, ⟨(some 37), (.q (.bin .neq (.tmp 34) (.tmp 36))), (some (32, false))⟩, ⟨(some 38), (.q (.pick (.tmp 32) (.const (.bool true)) (.tmp 37))), none⟩]) 
    (.cond (.tmp 38) 
    (.seq 
    (.region [⟨(some 4), (.q (.move (.const (.bool false)))), none⟩]) .ret) .skip)) 
    (.seq 
    (.seq 
    (.region [⟨(some 7), (.q (.move (.const (.int .i64 0)))), none⟩]) 
    (.block 0 
    (.loop 
    (.seq 
    (.seq 
    (.region [⟨(some 39), (.q (.move (.tmp 7))), none⟩, ⟨(some 40), (.q (.move (.tmp 0))), none⟩, ⟨(some 41), (.q (.len false (.tmp 40))), none⟩, ⟨(some 42), (.q (.bin .lss (.tmp 39) (.tmp 41))), none⟩, ⟨(some 43), (.q (.move (.tmp 42))), none⟩, ⟨(some 44), (.q (.move (.tmp 7))), (some (43, true))⟩, ⟨(some 45), (.q (.move (.tmp 5))), (some (43, true))⟩, ⟨(some 46), (.q (.len false (.tmp 45))), (some (43, true))⟩, ⟨(some 47), (.q (.bin .lss (.tmp 44) (.tmp 46))), (some (43, true))⟩, ⟨(some 48), (.q (.pick (.tmp 43) (.tmp 47) (.const (.bool false)))), none⟩]) 
    (.cond (.tmp 48) .skip (.exit 0))) 
    (.seq 
    (.block 1 
    (.seq 
    (.region [⟨(some 51), (.q (.move (.tmp 5))), none⟩, ⟨(some 52), (.q (.move (.tmp 7))), none⟩, ⟨(some 53), (.q (.idxSl 1 (.tmp 51) (.tmp 52))), none⟩, ⟨(some 54), (.q (.load false 1 (.tmp 53))), none⟩, ⟨(some 55), (.q (.move (.tmp 0))), none⟩, ⟨(some 56), (.q (.move (.tmp 7))), none⟩, ⟨(some 57), (.q (.idxSl 1 (.tmp 55) (.tmp 56))), none⟩, ⟨(some 58), (.q (.load false 1 (.tmp 57))), none⟩, ⟨(some 59), (.q (.conv .u32 (.tmp 58))), none⟩, ⟨(some 60), (.q (.conv .i64 (.tmp 59))), none⟩, ⟨(some 61), (.q (.bin .neq (.tmp 54) (.tmp 60))), none⟩]) 
    (.cond (.tmp 61) 
    (.seq 
    (.region [⟨(some 4), (.q (.move (.const (.bool false)))), none⟩]) .ret) .skip))) 
    (.region [⟨(some 49), (.q (.move (.tmp 7))), none⟩, ⟨(some 50), (.q (.bin .add (.tmp 49) (.const (.int .i64 1)))), none⟩, ⟨(some 7), (.q (.move (.tmp 50))), none⟩])))))) 
    (.seq 
    (.seq 
    (.region [⟨(some 8), (.q (.move (.const (.int .i64 0)))), none⟩]) 
    (.block 2 
    (.loop 
    (.seq 
    (.seq 
    (.region [⟨(some 62), (.q (.move (.tmp 8))), none⟩, ⟨(some 63), (.q (.move (.tmp 1))), none⟩, ⟨(some 64), (.q (.len false (.tmp 63))), none⟩, ⟨(some 65), (.q (.bin .lss (.tmp 62) (.tmp 64))), none⟩]) 
    (.cond (.tmp 65) .skip (.exit 2))) 
    (.seq 
    (.block 3 
    (.seq 
    (.region [⟨(some 9), (.q (.move (.const (.int .i64 0)))), none⟩]) 
    (.block 4 
    (.loop 
    (.seq 
    (.seq 
    (.region [⟨(some 68), (.q (.move (.tmp 9))), none⟩, ⟨(some 69), (.q (.move (.tmp 1))), none⟩, ⟨(some 70), (.q (.move (.tmp 8))), none⟩, ⟨(some 71), (.q (.idxSl 1 (.tmp 69) (.tmp 70))), none⟩, ⟨(some 72), (.q (.load false 1 (.tmp 71))), none⟩, ⟨(some 73), (.q (.len true (.tmp 72))), none⟩, ⟨(some 74), (.q (.bin .lss (.tmp 68) (.tmp 73))), none⟩]) 
    (.cond (.tmp 74) .skip (.exit 4))) 
    (.seq 
    (.block 5 
    (.seq 
    (.region [⟨(some 77), (.q (.move (.tmp 1))), none⟩, ⟨(some 78), (.q (.move (.tmp 8))), none⟩, ⟨(some 79), (.q (.idxSl 1 (.tmp 77) (.tmp 78))), none⟩, ⟨(some 80), (.q (.load false 1 (.tmp 79))), none⟩, ⟨(some 81), (.q (.move (.tmp 9))), none⟩, ⟨(some 82), (.q (.idxStr (.tmp 80) (.tmp 81))), none⟩, ⟨(some 83), (.q (.bin .eql (.tmp 82) (.const (.int .u8 0)))), none⟩]) 
    (.cond (.tmp 83) 
    (.seq 
    (.region [⟨(some 84), (.s (.call 6 [])), none⟩, ⟨(some 4), (.q (.move (.tmp 84))), none⟩]) .ret) .skip))) 
    (.region [⟨(some 75), (.q (.move (.tmp 9))), none⟩, ⟨(some 76), (.q (.bin .add (.tmp 75) (.const (.int .i64 1)))), none⟩, ⟨(some 9), (.q (.move (.tmp 76))), none⟩]))))))) 
    (.region [⟨(some 66), (.q (.move (.tmp 8))), none⟩, ⟨(some 67), (.q (.bin .add (.tmp 66) (.const (.int .i64 1)))), none⟩, ⟨(some 8), (.q (.move (.tmp 67))), none⟩])))))) 
    (.seq 
    (.region [⟨(some 86), (.q (.move (.tmp 1))), none⟩, ⟨(some 87), (.s (.call 19 [(.tmp 86)])), none⟩, ⟨(some 88), (.s (.call 12 [(.tmp 87)])), none⟩, ⟨(some 85), (.q (.move (.tmp 88))), none⟩, ⟨(some 89), (.q (.extract 0 (.tmp 85))), none⟩, ⟨(some 90), (.q (.extract 1 (.tmp 85))), none⟩, ⟨(some 10), (.q (.move (.tmp 89))), none⟩, ⟨(some 11), (.q (.move (.tmp 90))), none⟩]) 
    (.seq 
    (.region [⟨(some 91), (.q (.move (.tmp 11))), none⟩, ⟨(some 92), (.q (.move (.tmp 1))), none⟩, ⟨(some 93), (.q (.len false (.tmp 92))), none⟩, ⟨(some 94), (.q (.bin .gtr (.tmp 93) (.const (.int .i64 0)))), none⟩, ⟨(some 95), (.q (.beq false (.tmp 91) (.tmp 94))), none⟩, ⟨(some 96), (.q (.move (.tmp 95))), none⟩, ⟨(some 97), (.q (.move (.tmp 10))), (some (96, true))⟩, ⟨(some 98), (.q (.move (.tmp 1))), (some (96, true))⟩, ⟨(some 99), (.s (.call 16 [(.tmp 97), (.tmp 98)])), (some (96, true))⟩, ⟨(some 100), (.q (.pick (.tmp 96) (.tmp 99) (.const (.bool false)))), none⟩, ⟨(some 101), (.q (.move (.tmp 100))), none⟩, ⟨(some 102), (.s (.call 6 [])), (some (101, true))⟩, ⟨(some 103), (.q (.pick (.tmp 101) (.tmp 102) (.const (.bool false)))), none⟩, ⟨(some 4), (.q (.move (.tmp 103))), none⟩]) .ret))))))))
theorem t4 : Told Tryd.prog 4 104 c4 [(.tmp 4)] := ⟨Tryd.f4, _, [], Tryd.func4, rfl, by kernel_rfl, rfl, by kernel_rfl, by kernel_rfl⟩
end Go.Proofs.YtfilheaaacffmaaDoor.AL

