/- The code of HasSuffix, told. -/
import Derived.Test.YtdknpnmdjjmapaaDoorQEditKeepsALA3
import Derived.Test.YtdknpnmdjjmapaaDoorProg
import Derived.KernelRfl
set_option maxRecDepth 100000
namespace Go.Proofs.YtdknpnmdjjmapaaDoor.AL
open Go Go.Proofs
def c77 : ACode := 
    (.seq 
    (.region [⟨(some 2), (.s (.box 25 (.tmp 0))), none⟩, ⟨(some 4), (.q (.move (.const (.int .i64 0)))), none⟩, ⟨(some 5), (.q (.move (.const (.int .i64 0)))), none⟩, ⟨(some 6), (.q (.move (.const (.int .i64 0)))), none⟩]) 
    (.seq 
    (.seq 
    (.region [⟨(some 15), (.q (.move (.tmp 1))), none⟩, ⟨(some 16), (.q (.bin .eql (.tmp 15) (.const (.int .i64 0)))), none⟩]) 
    (.cond (.tmp 16) 
    (.seq 
    (.region [⟨(some 4), (.q (.move (.const (.int .i64 0)))), none⟩, ⟨(some 5), (.q (.move (.const (.int .i64 0)))), none⟩, ⟨(some 6), (.q (.move (.const (.int .i64 0)))), none⟩]) .ret) .skip)) 
    (.seq 
    (.region [⟨(some 17), (.q (.fieldAddr 1 (.tmp 2))), none⟩, ⟨(some 18), (.q (.load false 1 (.tmp 17))), none⟩, ⟨(some 19), (.q (.len false (.tmp 18))), none⟩, ⟨(some 7), (.q (.move (.const (.int .i64 1)))), none⟩, ⟨(some 8), (.q (.move (.tmp 19))), none⟩, ⟨(some 9), (.q (.move (.const (.int .i64 0)))), none⟩]) 
    (.seq 
    (.seq 
    (.region [⟨(some 20), (.q (.fieldAddr 2 (.tmp 2))), none⟩, ⟨(some 21), (.q (.load false 1 (.tmp 20))), none⟩, ⟨(some 22), (.q (.len false (.tmp 21))), none⟩, ⟨(some 23), (.q (.move (.const (.int .i64 0)))), none⟩]) 
    (.block 0 
    (.loop 
    (.seq 
    (.region [⟨(some 24), (.q (.bin .lss (.tmp 23) (.tmp 22))), none⟩]) 
    (.seq 
    (.cond (.tmp 24) .skip (.exit 0)) 
    (.seq 
    (.block 1 
    (.seq 
    (.region [⟨(some 25), (.q (.idxSl 3 (.tmp 21) (.tmp 23))), none⟩, ⟨(some 26), (.q (.load true 3 (.tmp 25))), none⟩, ⟨(some 11), (.s (.alloc 25 [(.str (B [])), .nils, .nils])), none⟩, ⟨none, (.s (.store 3 (.tmp 11) (.tmp 26))), none⟩]) 
    (.seq 
    (.region [⟨(some 28), (.q (.load true 3 (.tmp 11))), none⟩, ⟨(some 29), (.q (.move (.tmp 1))), none⟩, ⟨(some 30), (.q (.bin .sub (.tmp 29) (.const (.int .i64 1)))), none⟩, ⟨(some 31), (.s (.call 77 [(.tmp 28), (.tmp 30)])), none⟩, ⟨(some 27), (.q (.move (.tmp 31))), none⟩, ⟨(some 32), (.q (.extract 0 (.tmp 27))), none⟩, ⟨(some 33), (.q (.extract 1 (.tmp 27))), none⟩, ⟨(some 34), (.q (.extract 2 (.tmp 27))), none⟩, ⟨(some 12), (.q (.move (.tmp 32))), none⟩, ⟨(some 13), (.q (.move (.tmp 33))), none⟩, ⟨(some 14), (.q (.move (.tmp 34))), none⟩]) 
    (.region [⟨(some 35), (.q (.move (.tmp 7))), none⟩, ⟨(some 36), (.q (.move (.tmp 12))), none⟩, ⟨(some 37), (.q (.bin .add (.tmp 35) (.tmp 36))), none⟩, ⟨(some 38), (.q (.move (.tmp 8))), none⟩, ⟨(some 39), (.q (.move (.tmp 13))), none⟩, ⟨(some 40), (.q (.bin .add (.tmp 38) (.tmp 39))), none⟩, ⟨(some 41), (.q (.move (.tmp 9))), none⟩, ⟨(some 42), (.q (.move (.tmp 14))), none⟩, ⟨(some 43), (.q (.best true (.tmp 41) (.tmp 42))), none⟩, ⟨(some 7), (.q (.move (.tmp 37))), none⟩, ⟨(some 8), (.q (.move (.tmp 40))), none⟩, ⟨(some 9), (.q (.move (.tmp 43))), none⟩])))) 
    (.region [⟨(some 44), (.q (.bin .add (.tmp 23) (.const (.int .i64 1)))), none⟩, ⟨(some 23), (.q (.move (.tmp 44))), none⟩]))))))) 
    (.seq 
    (.region [⟨(some 45), (.q (.move (.tmp 7))), none⟩, ⟨(some 46), (.q (.move (.tmp 8))), none⟩, ⟨(some 47), (.q (.move (.tmp 9))), none⟩, ⟨(some 48), (.q (.bin .add (.tmp 47) (.const (.int .i64 1)))), none⟩, ⟨(some 4), (.q (.move (.tmp 45))), none⟩, ⟨(some 5), (.q (.move (.tmp 46))), none⟩, ⟨(some 6), (.q (.move (.tmp 48))), none⟩]) .ret)))))
theorem t77 : Told Tryd.prog 77 49 c77 [(.tmp 4), (.tmp 5), (.tmp 6)] := ⟨Tryd.f77, _, [], Tryd.func77, rfl, by kernel_rfl, rfl, by kernel_rfl, by kernel_rfl⟩
def c63 : ACode := 
    (.seq 
    (.region [⟨(some 1), (.s (.box 25 (.tmp 0))), none⟩, ⟨(some 2), (.q (.move (.const (.int .i64 0)))), none⟩, ⟨(some 3), (.q (.move (.const (.int .i64 0)))), none⟩, ⟨(some 4), (.q (.move (.const (.int .i64 0)))), none⟩]) 
    (.seq 
    (.region [⟨(some 5), (.q (.load true 3 (.tmp 1))), none⟩, ⟨(some 6), (.s (.call 77 [(.tmp 5), (.const (.int .i64 9))])), none⟩, ⟨(some 7), (.q (.extract 0 (.tmp 6))), none⟩, ⟨(some 8), (.q (.extract 1 (.tmp 6))), none⟩, ⟨(some 9), (.q (.extract 2 (.tmp 6))), none⟩, ⟨(some 2), (.q (.move (.tmp 7))), none⟩, ⟨(some 3), (.q (.move (.tmp 8))), none⟩, ⟨(some 4), (.q (.move (.tmp 9))), none⟩]) .ret))
theorem t63 : Told Tryd.prog 63 10 c63 [(.tmp 2), (.tmp 3), (.tmp 4)] := ⟨Tryd.f63, _, [], Tryd.func63, rfl, by kernel_rfl, rfl, by kernel_rfl, by kernel_rfl⟩
def c64 : ACode := 
    (.seq 
    (.region [⟨(some 1), (.s (.box 25 (.tmp 0))), none⟩, ⟨(some 2), (.q (.move (.const (.bool false)))), none⟩]) 
    (.seq 
    (.region [⟨(some 7), (.q (.load true 3 (.tmp 1))), none⟩, ⟨(some 8), (.s (.call 63 [(.tmp 7)])), none⟩, ⟨(some 6), (.q (.move (.tmp 8))), none⟩, ⟨(some 9), (.q (.extract 0 (.tmp 6))), none⟩, ⟨(some 10), (.q (.extract 1 (.tmp 6))), none⟩, ⟨(some 11), (.q (.extract 2 (.tmp 6))), none⟩, ⟨(some 3), (.q (.move (.tmp 9))), none⟩, ⟨(some 4), (.q (.move (.tmp 10))), none⟩, ⟨(some 5), (.q (.move (.tmp 11))), none⟩]) 
    (.seq 
    (.region [⟨(some 12), (.q (.move (.tmp 3))), none⟩, ⟨(some 13), (.q (.bin .leq (.tmp 12) (.const (.int .i64 64)))), none⟩, ⟨(some 14), (.q (.move (.tmp 13))), none⟩, ⟨(some 15), (.q (.move (.tmp 4))), (some (14, true))⟩, ⟨(some 16), (.q (.bin .leq (.tmp 15) (.const (.int .i64 256)))), (some (14, true))⟩, ⟨(some 17), (.q (.pick (.tmp 14) (.tmp 16) (.const (.bool false)))), none⟩, ⟨(some 18), (.q (.move (.tmp 17))), none⟩, ⟨(some 19), (.q (.move (.tmp 5))), (some (18, true))⟩, ⟨(some 20), (.q (.bin .leq (.tmp 19) (.const (.int .i64 8)))), (some (18, true))⟩, ⟨(some 21), (.q (.pick (.tmp 18) (.tmp 20) (.const (.bool false)))), none⟩, ⟨(some 2), (.q (.move (.tmp 21))), none⟩]) .ret)))
theorem t64 : Told Tryd.prog 64 22 c64 [(.tmp 2)] := ⟨Tryd.f64, _, [], Tryd.func64, rfl, by kernel_rfl, rfl, by kernel_rfl, by kernel_rfl⟩
def c52 : ACode := 
    (.seq 
    (.region [⟨(some 2), (.s (.box 25 (.tmp 0))), none⟩, ⟨(some 4), (.s (.alloc 52 [(.int .i64 0), (.int .i64 0), (.int .i64 0)])), none⟩]) 
    (.seq 
    (.seq 
    (.region [⟨(some 8), (.q (.move (.tmp 1))), none⟩, ⟨(some 9), (.q (.bin .eql (.tmp 8) (.const (.int .i64 0)))), none⟩]) 
    (.cond (.tmp 9) 
    (.seq 
    (.region [⟨(some 10), (.q (.build [(.int .i64 0), (.int .i64 0), (.int .i64 0)] [])), none⟩, ⟨none, (.s (.store 3 (.tmp 4) (.tmp 10))), none⟩]) .ret) .skip)) 
    (.seq 
    (.region [⟨(some 11), (.q (.fieldAddr 1 (.tmp 2))), none⟩, ⟨(some 12), (.q (.load false 1 (.tmp 11))), none⟩, ⟨(some 13), (.q (.len false (.tmp 12))), none⟩, ⟨(some 14), (.q (.build [(.int .i64 0), (.int .i64 0), (.int .i64 0)] [(0, (1, (.const (.int .i64 1)))), (1, (1, (.tmp 13))), (2, (1, (.const (.int .i64 0))))])), none⟩, ⟨(some 5), (.s (.alloc 52 [(.int .i64 0), (.int .i64 0), (.int .i64 0)])), none⟩, ⟨none, (.s (.store 3 (.tmp 5) (.tmp 14))), none⟩]) 
    (.seq 
    (.seq 
    (.region [⟨(some 6), (.q (.move (.const (.int .i64 0)))), none⟩]) 
    (.block 0 
    (.loop 
    (.seq 
    (.seq 
    (.region [⟨(some 15), (.q (.move (.tmp 6))), none⟩, ⟨(some 16), (.q (.fieldAddr 2 (.tmp 2))), none⟩, ⟨(some 17), (.q (.load false 1 (.tmp 16))), none⟩, ⟨(some 18), (.q (.len false (.tmp 17))), none⟩, ⟨(some 19), (.q (.bin .lss (.tmp 15) (.tmp 18))), none⟩]) 
    (.cond (.tmp 19) .skip (.exit 0))) 
    (.seq 
    (.block 1 
    (.seq 
    (.region [⟨(some 22), (.q (.fieldAddr 2 (.tmp 2))), none⟩, ⟨(some 23), (.q (.load false 1 (.tmp 22))), none⟩, ⟨(some 24), (.q (.move (.tmp 6))), none⟩, ⟨(some 25), (.q (.idxSl 3 (.tmp 23) (.tmp 24))), none⟩, ⟨(some 26), (.q (.load true 3 (.tmp 25))), none⟩, ⟨(some 27), (.q (.move (.tmp 1))), none⟩, ⟨(some 28), (.q (.bin .sub (.tmp 27) (.const (.int .i64 1)))), none⟩, ⟨(some 29), (.s (.call 52 [(.tmp 26), (.tmp 28)])), none⟩, ⟨(some 7), (.s (.alloc 52 [(.int .i64 0), (.int .i64 0), (.int .i64 0)])), none⟩, ⟨none, (.s (.store 3 (.tmp 7) (.tmp 29))), none⟩]) 
    (.seq 
    (.region [⟨(some 30), (.q (.idxPt 1 3 (.tmp 5) (.const (.int .i64 0)))), none⟩, ⟨(some 31), (.q (.load false 1 (.tmp 30))), none⟩, ⟨(some 32), (.q (.idxPt 1 3 (.tmp 7) (.const (.int .i64 0)))), none⟩, ⟨(some 33), (.q (.load false 1 (.tmp 32))), none⟩, ⟨(some 34), (.q (.bin .add (.tmp 31) (.tmp 33))), none⟩, ⟨(some 35), (.q (.idxPt 1 3 (.tmp 5) (.const (.int .i64 0)))), none⟩, ⟨none, (.s (.store 1 (.tmp 35) (.tmp 34))), none⟩]) 
    (.seq 
    (.region [⟨(some 36), (.q (.idxPt 1 3 (.tmp 5) (.const (.int .i64 1)))), none⟩, ⟨(some 37), (.q (.load false 1 (.tmp 36))), none⟩, ⟨(some 38), (.q (.idxPt 1 3 (.tmp 7) (.const (.int .i64 1)))), none⟩, ⟨(some 39), (.q (.load false 1 (.tmp 38))), none⟩, ⟨(some 40), (.q (.bin .add (.tmp 37) (.tmp 39))), none⟩, ⟨(some 41), (.q (.idxPt 1 3 (.tmp 5) (.const (.int .i64 1)))), none⟩, ⟨none, (.s (.store 1 (.tmp 41) (.tmp 40))), none⟩]) 
    (.region [⟨(some 42), (.q (.idxPt 1 3 (.tmp 5) (.const (.int .i64 2)))), none⟩, ⟨(some 43), (.q (.load false 1 (.tmp 42))), none⟩, ⟨(some 44), (.q (.idxPt 1 3 (.tmp 7) (.const (.int .i64 2)))), none⟩, ⟨(some 45), (.q (.load false 1 (.tmp 44))), none⟩, ⟨(some 46), (.q (.best true (.tmp 43) (.tmp 45))), none⟩, ⟨(some 47), (.q (.idxPt 1 3 (.tmp 5) (.const (.int .i64 2)))), none⟩, ⟨none, (.s (.store 1 (.tmp 47) (.tmp 46))), none⟩]))))) 
    (.region [⟨(some 20), (.q (.move (.tmp 6))), none⟩, ⟨(some 21), (.q (.bin .add (.tmp 20) (.const (.int .i64 1)))), none⟩, ⟨(some 6), (.q (.move (.tmp 21))), none⟩])))))) 
    (.seq 
    (.region [⟨(some 48), (.q (.idxPt 1 3 (.tmp 5) (.const (.int .i64 2)))), none⟩, ⟨(some 49), (.q (.load false 1 (.tmp 48))), none⟩, ⟨(some 50), (.q (.bin .add (.tmp 49) (.const (.int .i64 1)))), none⟩, ⟨(some 51), (.q (.idxPt 1 3 (.tmp 5) (.const (.int .i64 2)))), none⟩, ⟨none, (.s (.store 1 (.tmp 51) (.tmp 50))), none⟩]) 
    (.seq 
    (.region [⟨(some 52), (.q (.load true 3 (.tmp 5))), none⟩, ⟨none, (.s (.store 3 (.tmp 4) (.tmp 52))), none⟩]) .ret))))))
theorem t52 : Told Tryd.prog 52 53 c52 [(.cell 4 true 3)] := ⟨Tryd.f52, _, [], Tryd.func52, rfl, by kernel_rfl, rfl, by kernel_rfl, by kernel_rfl⟩
def c27 : ACode := 
    (.seq 
    (.region [⟨(some 1), (.s (.box 25 (.tmp 0))), none⟩, ⟨(some 2), (.s (.alloc 52 [(.int .i64 0), (.int .i64 0), (.int .i64 0)])), none⟩]) 
    (.seq 
    (.region [⟨(some 3), (.q (.load true 3 (.tmp 1))), none⟩, ⟨(some 4), (.s (.call 52 [(.tmp 3), (.const (.int .i64 9))])), none⟩, ⟨none, (.s (.store 3 (.tmp 2) (.tmp 4))), none⟩]) .ret))
theorem t27 : Told Tryd.prog 27 5 c27 [(.cell 2 true 3)] := ⟨Tryd.f27, _, [], Tryd.func27, rfl, by kernel_rfl, rfl, by kernel_rfl, by kernel_rfl⟩
def c12 : ACode := 
    (.seq 
    (.region [⟨(some 1), (.s (.box 25 (.tmp 0))), none⟩, ⟨(some 2), (.q (.move (.const (.bool false)))), none⟩]) 
    (.seq 
    (.region [⟨(some 4), (.q (.load true 3 (.tmp 1))), none⟩, ⟨(some 5), (.s (.call 27 [(.tmp 4)])), none⟩, ⟨(some 3), (.s (.alloc 52 [(.int .i64 0), (.int .i64 0), (.int .i64 0)])), none⟩, ⟨none, (.s (.store 3 (.tmp 3) (.tmp 5))), none⟩]) 
    (.seq 
    (.region [⟨(some 6), (.q (.idxPt 1 3 (.tmp 3) (.const (.int .i64 0)))), none⟩, ⟨(some 7), (.q (.load false 1 (.tmp 6))), none⟩, ⟨(some 8), (.q (.bin .leq (.tmp 7) (.const (.int .i64 64)))), none⟩, ⟨(some 9), (.q (.move (.tmp 8))), none⟩, ⟨(some 10), (.q (.idxPt 1 3 (.tmp 3) (.const (.int .i64 1)))), (some (9, true))⟩, ⟨(some 11), (.q (.load false 1 (.tmp 10))), (some (9, true))⟩, ⟨(some 12), (.q (.bin .leq (.tmp 11) (.const (.int .i64 256)))), (some (9, true))⟩, ⟨(some 13), (.q (.pick (.tmp 9) (.tmp 12) (.const (.bool false)))), none⟩, ⟨(some 14), (.q (.move (.tmp 13))), none⟩, ⟨(some 15), (.q (.idxPt 1 3 (.tmp 3) (.const (.int .i64 2)))), (some (14, true))⟩, ⟨(some 16), (.q (.load false 1 (.tmp 15))), (some (14, true))⟩, ⟨(some 17), (.q (.bin .leq (.tmp 16) (.const (.int .i64 8)))), (some (14, true))⟩, ⟨(some 18), (.q (.pick (.tmp 14) (.tmp 17) (.const (.bool false)))), none⟩, ⟨(some 2), (.q (.move (.tmp 18))), none⟩]) .ret)))
theorem t12 : Told Tryd.prog 12 19 c12 [(.tmp 2)] := ⟨Tryd.f12, _, [], Tryd.func12, rfl, by kernel_rfl, rfl, by kernel_rfl, by kernel_rfl⟩
def c19 : ACode := 
    (.seq 
    (.region [⟨(some 2), (.s (.box 25 (.tmp 0))), none⟩, ⟨(some 4), (.q (.move (.const (.bool false)))), none⟩]) 
    (.seq 
    (.seq 
    (.region [⟨(some 7), (.q (.move (.tmp 1))), none⟩, ⟨(some 8), (.q (.bin .eql (.tmp 7) (.const (.int .i64 0)))), none⟩, ⟨(some 9), (.q (.move (.tmp 8))), none⟩, ⟨(some 10), (.q (.fieldAddr 0 (.tmp 2))), (some (9, false))⟩, ⟨(some 11), (.q (.load false 1 (.tmp 10))), (some (9, false))⟩, ⟨(some 12), (.q (.len true (.tmp 11))), (some (9, false))⟩, ⟨(some 13), (.q (.bin .gtr (.tmp 12) (.const (.int .i64 100)))), (some (9, false))⟩, ⟨(some 14), (.q (.pick (.tmp 9) (.const (.bool true)) (.tmp 13))), none⟩, ⟨(some 15), (.q (.move (.tmp 14))), none⟩, ⟨(some 16), (.q (.fieldAddr 1 (.tmp 2))), (some (15, false))⟩, ⟨(some 17), (.q (.load false 1 (.tmp 16))), (some (15, false))⟩, ⟨(some 18), (.q (.len false (.tmp 17))), (some (15, false))⟩, ⟨(some 19), (.q (.bin .gtr (.tmp 18) (.const (.int .i64 300)))), (some (15, false))⟩, ⟨(some 20), (.q (.pick (.tmp 15) (.const (.bool true)) (.tmp 19))), none⟩, ⟨(some 21), (.q (.move (.tmp 20))), none⟩, ⟨(some 22), (.q (.fieldAddr 2 (.tmp 2))), (some (21, false))⟩, ⟨(some 23), (.q (.load false 1 (.tmp 22))), (some (21, false))⟩, ⟨(some 24), (.q (.len false (.tmp 23))), (some (21, false))⟩, ⟨(some 25), (.q (.bin .gtr (.tmp 24) (.const (.int .i64 80)))), (some (21, false))⟩, ⟨(some 26), (.q (.pick (.tmp 21) (.const (.bool true)) (.tmp 25))), none⟩]) 
    (.cond (.tmp 26) 
    (.seq 
    (.region [⟨(some 4), (.q (.move (.const (.bool false)))), none⟩]) .ret) .skip)) 
    (.seq 
    (.seq 
    (.region [⟨(some 5), (.q (.move (.const (.int .i64 0)))), none⟩]) 
    (.block 0 
    (.loop 
    (.seq 
    (.seq 
    (.region [⟨(some 27), (.q (.move (.tmp 5))), none⟩, ⟨(some 28), (.q (.fieldAddr 1 (.tmp 2))), none⟩, ⟨(some 29), (.q (.load false 1 (.tmp 28))), none⟩, ⟨(some 30), (.q (.len false (.tmp 29))), none⟩, ⟨(some 31), (.q (.bin .lss (.tmp 27) (.tmp 30))), none⟩]) 
    (.cond (.tmp 31) .skip (.exit 0))) 
    (.seq 
    (.block 1 
    (.seq 
    (.region [⟨(some 34), (.q (.fieldAddr 1 (.tmp 2))), none⟩, ⟨(some 35), (.q (.load false 1 (.tmp 34))), none⟩, ⟨(some 36), (.q (.move (.tmp 5))), none⟩, ⟨(some 37), (.q (.idxSl 2 (.tmp 35) (.tmp 36))), none⟩, ⟨(some 38), (.q (.fieldAddr 0 (.tmp 37))), none⟩, ⟨(some 39), (.q (.load false 1 (.tmp 38))), none⟩, ⟨(some 40), (.q (.len true (.tmp 39))), none⟩, ⟨(some 41), (.q (.bin .gtr (.tmp 40) (.const (.int .i64 100)))), none⟩, ⟨(some 42), (.q (.move (.tmp 41))), none⟩, ⟨(some 43), (.q (.fieldAddr 1 (.tmp 2))), (some (42, false))⟩, ⟨(some 44), (.q (.load false 1 (.tmp 43))), (some (42, false))⟩, ⟨(some 45), (.q (.move (.tmp 5))), (some (42, false))⟩, ⟨(some 46), (.q (.idxSl 2 (.tmp 44) (.tmp 45))), (some (42, false))⟩, ⟨(some 47), (.q (.fieldAddr 1 (.tmp 46))), (some (42, false))⟩, ⟨(some 48), (.q (.load false 1 (.tmp 47))), (some (42, false))⟩, ⟨(some 49), (.q (.len true (.tmp 48))), (some (42, false))⟩, ⟨(some 50), (.q (.bin .gtr (.tmp 49) (.const (.int .i64 300)))), (some (42, false))⟩, ⟨(some 51), (.q (.pick (.tmp 42) (.const (.bool true)) (.tmp 50))), none⟩]) 
    (.cond (.tmp 51) 
    (.seq 
    (.region [⟨(some 4), (.q (.move (.const (.bool false)))), none⟩]) .ret) .skip))) 
    (.region [⟨(some 32), (.q (.move (.tmp 5))), none⟩, ⟨(some 33), (.q (.bin .add (.tmp 32) (.const (.int .i64 1)))), none⟩, ⟨(some 5), (.q (.move (.tmp 33))), none⟩])))))) 
    (.seq 
    (.seq 
    (.region [⟨(some 6), (.q (.move (.const (.int .i64 0)))), none⟩]) 
    (.block 2 
    (.loop 
    (.seq 
    (.seq 
    (.region [⟨(some 52), (.q (.move (.tmp 6))), none⟩, ⟨(some 53), (.q (.fieldAddr 2 (.tmp 2))), none⟩, ⟨(some 54), (.q (.load false 1 (.tmp 53))), none⟩, ⟨(some 55), (.q (.len false (.tmp 54))), none⟩, ⟨(some 56), (.q (.bin .lss (.tmp 52) (.tmp 55))), none⟩]) 
    (.cond (.tmp 56) .skip (.exit 2))) 
    (.seq 
    (.block 3 
    (.seq 
    (.region [⟨(some 59), (.q (.fieldAddr 2 (.tmp 2))), none⟩, ⟨(some 60), (.q (.load false 1 (.tmp 59))), none⟩, ⟨(some 61), (.q (.move (.tmp 6))), none⟩, ⟨(some 62), (.q (.idxSl 3 (.tmp 60) (.tmp 61))), none⟩, ⟨(some 63), (.q (.load true 3 (.tmp 62))), none⟩, ⟨(some 64), (.q (.move (.tmp 1))), none⟩, ⟨(some 65), (.q (.bin .sub (.tmp 64) (.const (.int .i64 1)))), none⟩, ⟨(some 66), (.s (.call 19 [(.tmp 63), (.tmp 65)])), none⟩, ⟨(some 67), (.q (.un .not (.tmp 66))), none⟩]) 
    (.cond (.tmp 67) 
    (.seq 
    (.region [⟨(some 4), (.q (.move (.const (.bool false)))), none⟩]) .ret) .skip))) 
    (.region [⟨(some 57), (.q (.move (.tmp 6))), none⟩, ⟨(some 58), (.q (.bin .add (.tmp 57) (.const (.int .i64 1)))), none⟩, ⟨(some 6), (.q (.move (.tmp 58))), none⟩])))))) 
    (.seq 
    (.region [⟨(some 4), (.q (.move (.const (.bool true)))), none⟩]) .ret)))))
theorem t19 : Told Tryd.prog 19 68 c19 [(.tmp 4)] := ⟨Tryd.f19, _, [], Tryd.func19, rfl, by kernel_rfl, rfl, by kernel_rfl, by kernel_rfl⟩
def c20 : ACode := 
    (.seq 
    (.region [⟨(some 2), (.s (.box 25 (.tmp 0))), none⟩, ⟨(some 4), (.q (.move (.const (.int .i64 0)))), none⟩]) 
    (.seq 
    (.seq 
    (.region [⟨(some 7), (.q (.move (.tmp 1))), none⟩, ⟨(some 8), (.q (.bin .eql (.tmp 7) (.const (.int .i64 0)))), none⟩]) 
    (.cond (.tmp 8) 
    (.seq 
    (.region [⟨(some 4), (.q (.move (.const (.int .i64 0)))), none⟩]) .ret) .skip)) 
    (.seq 
    (.region [⟨(some 9), (.q (.fieldAddr 1 (.tmp 2))), none⟩, ⟨(some 10), (.q (.load false 1 (.tmp 9))), none⟩, ⟨(some 11), (.q (.len false (.tmp 10))), none⟩, ⟨(some 12), (.q (.bin .add (.const (.int .i64 1)) (.tmp 11))), none⟩, ⟨(some 5), (.q (.move (.tmp 12))), none⟩]) 
    (.seq 
    (.seq 
    (.region [⟨(some 6), (.q (.move (.const (.int .i64 0)))), none⟩]) 
    (.block 0 
    (.loop 
    (.seq 
    (.seq 
    (.region [⟨(some 13), (.q (.move (.tmp 6))), none⟩, ⟨(some 14), (.q (.fieldAddr 2 (.tmp 2))), none⟩, ⟨(some 15), (.q (.load false 1 (.tmp 14))), none⟩, ⟨(some 16), (.q (.len false (.tmp 15))), none⟩, ⟨(some 17), (.q (.bin .lss (.tmp 13) (.tmp 16))), none⟩, ⟨(some 18), (.q (.move (.tmp 17))), none⟩, ⟨(some 19), (.q (.move (.tmp 5))), (some (18, true))⟩, ⟨(some 20), (.q (.bin .lss (.tmp 19) (.const (.int .i64 1000)))), (some (18, true))⟩, ⟨(some 21), (.q (.pick (.tmp 18) (.tmp 20) (.const (.bool false)))), none⟩]) 
    (.cond (.tmp 21) .skip (.exit 0))) 
    (.seq 
    (.block 1 
    (.region [⟨(some 24), (.q (.move (.tmp 5))), none⟩, ⟨(some 25), (.q (.fieldAddr 2 (.tmp 2))), none⟩, ⟨(some 26), (.q (.load false 1 (.tmp 25))), none⟩, ⟨(some 27), (.q (.move (.tmp 6))), none⟩, ⟨(some 28), (.q (.idxSl 3 (.tmp 26) (.tmp 27))), none⟩, ⟨(some 29), (.q (.load true 3 (.tmp 28))), none⟩, ⟨(some 30), (.q (.move (.tmp 1))), none⟩, ⟨(some 31), (.q (.bin .sub (.tmp 30) (.const (.int .i64 1)))), none⟩, ⟨(some 32), (.s (.call 20 [(.tmp 29), (.tmp 31)])), none⟩, ⟨(some 33), (.q (.bin .add (.tmp 24) (.tmp 32))), none⟩, ⟨(some 5), (.q (.move (.tmp 33))), none⟩])) 
    (.region [⟨(some 22), (.q (.move (.tmp 6))), none⟩, ⟨(some 23), (.q (.bin .add (.tmp 22) (.const (.int .i64 1)))), none⟩, ⟨(some 6), (.q (.move (.tmp 23))), none⟩])))))) 
    (.seq 
    (.region [⟨(some 34), (.q (.move (.tmp 5))), none⟩, ⟨(some 4), (.q (.move (.tmp 34))), none⟩]) .ret)))))
theorem t20 : Told Tryd.prog 20 35 c20 [(.tmp 4)] := ⟨Tryd.f20, _, [], Tryd.func20, rfl, by kernel_rfl, rfl, by kernel_rfl, by kernel_rfl⟩
def c5 : ACode := 
    (.seq 
    (.region [⟨(some 1), (.s (.box 25 (.tmp 0))), none⟩, ⟨(some 2), (.q (.move (.const (.bool false)))), none⟩]) 
    (.seq 
    (.region [⟨(some 3), (.q (.load true 3 (.tmp 1))), none⟩, ⟨(some 4), (.s (.call 19 [(.tmp 3), (.const (.int .i64 12))])), none⟩, ⟨(some 5), (.q (.move (.tmp 4))), none⟩, ⟨(some 6), (.q (.load true 3 (.tmp 1))), (some (5, true))⟩, ⟨(some 7), (.s (.call 20 [(.tmp 6), (.const (.int .i64 12))])), (some (5, true))⟩, ⟨(some 8), (.q (.bin .leq (.tmp 7) (.const (.int .i64 400)))), (some (5, true))⟩, ⟨(some 9), (.q (.pick (.tmp 5) (.tmp 8) (.const (.bool false)))), none⟩, ⟨(some 2), (.q (.move (.tmp 9))), none⟩]) .ret))
theorem t5 : Told Tryd.prog 5 10 c5 [(.tmp 2)] := ⟨Tryd.f5, _, [], Tryd.func5, rfl, by kernel_rfl, rfl, by kernel_rfl, by kernel_rfl⟩
def c51 : ACode := 
    (.seq 
    (.region [⟨(some 4), (.q (.move (.const (.bool false)))), none⟩]) 
    (.seq 
    (.seq 
    (.region [⟨(some 6), (.q (.move (.tmp 0))), none⟩, ⟨(some 7), (.q (.len false (.tmp 6))), none⟩, ⟨(some 8), (.q (.move (.tmp 1))), none⟩, ⟨(some 9), (.q (.len false (.tmp 8))), none⟩, ⟨(some 10), (.q (.bin .neq (.tmp 7) (.tmp 9))), none⟩]) 
    (.cond (.tmp 10) 
    (.seq 
    (.region [⟨(some 4), (.q (.move (.const (.bool false)))), none⟩]) .ret) .skip)) 
    (.seq 
    (.seq 
    (.region [⟨(some 5), (.q (.move (.const (.int .i64 0)))), none⟩]) 
    (.block 0 
    (.loop 
    (.seq 
    (.seq 
    (.region [⟨(some 11), (.q (.move (.tmp 5))), none⟩, ⟨(some 12), (.q (.move (.tmp 0))), none⟩, ⟨(some 13), (.q (.len false (.tmp 12))), none⟩, ⟨(some 14), (.q (.bin .lss (.tmp 11) (.tmp 13))), none⟩, ⟨(some 15), (.q (.move (.tmp 14))), none⟩, ⟨(some 16), (.q (.move (.tmp 5))), (some (15, true))⟩, ⟨(some 17), (.q (.move (.tmp 1))), (some (15, true))⟩, ⟨(some 18), (.q (.len false (.tmp 17))), (some (15, true))⟩, ⟨(some 19), (.q (.bin .lss (.tmp 16) (.tmp 18))), (some (15, true))⟩, ⟨(some 20), (.q (.pick (.tmp 15) (.tmp 19) (.const (.bool false)))), none⟩]) 
    (.cond (.tmp 20) .skip (.exit 0))) 
    (.seq 
    (.block 1 
    (.seq 
    (.region [⟨(some 23), (.q (.move (.tmp 0))), none⟩, ⟨(some 24), (.q (.move (.tmp 5))), none⟩, ⟨(some 25), (.q (.idxSl 2 (.tmp 23) (.tmp 24))), none⟩, ⟨(some 26), (.q (.load true 2 (.tmp 25))), none⟩, ⟨(some 27), (.q (.move (.tmp 1))), none⟩, ⟨(some 28), (.q (.move (.tmp 5))), none⟩, ⟨(some 29), (.q (.idxSl 2 (.tmp 27) (.tmp 28))), none⟩, ⟨(some 30), (.q (.load true 2 (.tmp 29))), none⟩, ⟨(some 31), (.q 
    (.seq [.s, .s] true (.tmp 26) (.tmp 30))), none⟩]) 
    (.cond (.tmp 31) 
    (.seq 
    (.region [⟨(some 4), (.q (.move (.const (.bool false)))), none⟩]) .ret) .skip))) 
    (.region [⟨(some 21), (.q (.move (.tmp 5))), none⟩, ⟨(some 22), (.q (.bin .add (.tmp 21) (.const (.int .i64 1)))), none⟩, ⟨(some 5), (.q (.move (.tmp 22))), none⟩])))))) 
    (.seq 
    (.region [⟨(some 4), (.q (.move (.const (.bool true)))), none⟩]) .ret))))
theorem t51 : Told Tryd.prog 51 32 c51 [(.tmp 4)] := ⟨Tryd.f51, _, [], Tryd.func51, rfl, by kernel_rfl, rfl, by kernel_rfl, by kernel_rfl⟩
def c26 : ACode := 
    (.seq 
    (.region [⟨(some 3), (.s (.box 25 (.tmp 0))), none⟩, ⟨(some 4), (.s (.box 25 (.tmp 1))), none⟩, ⟨(some 6), (.q (.move (.const (.bool false)))), none⟩]) 
    (.seq 
    (.seq 
    (.region [⟨(some 8), (.q (.move (.tmp 2))), none⟩, ⟨(some 9), (.q (.bin .eql (.tmp 8) (.const (.int .i64 0)))), none⟩, ⟨(some 10), (.q (.move (.tmp 9))), none⟩, ⟨(some 11), (.q (.fieldAddr 0 (.tmp 3))), (some (10, false))⟩, ⟨(some 12), (.q (.load false 1 (.tmp 11))), (some (10, false))⟩, ⟨(some 13), (.q (.fieldAddr 0 (.tmp 4))), (some (10, false))⟩, ⟨(some 14), (.q (.load false 1 (.tmp 13))), (some (10, false))⟩, ⟨(some 15), (.q (.bin .neq (.tmp 12) (.tmp 14))), (some (10, false))⟩, ⟨(some 16), (.q (.pick (.tmp 10) (.const (.bool true)) (.tmp 15))), none⟩, ⟨(some 17), (.q (.move (.tmp 16))), none⟩, ⟨(some 18), (.q (.fieldAddr 1 (.tmp 3))), (some (17, false))⟩, ⟨(some 19), (.q (.load false 1 (.tmp 18))), (some (17, false))⟩, ⟨(some 20), (.q (.fieldAddr 1 (.tmp 4))), (some (17, false))⟩, ⟨(some 21), (.q (.load false 1 (.tmp 20))), (some (17, false))⟩, ⟨(some 22), (.s (.call 51 [(.tmp 19), (.tmp 21)])), (some (17, false))⟩, ⟨(some 23), (.q (.un .not (.tmp 22))), (some (17, false))⟩, ⟨(some 24), (.q (.pick (.tmp 17) (.const (.bool true)) (.tmp 23))), none⟩, ⟨(some 25), (.q (.move (.tmp 24))), none⟩, ⟨(some 26), (.q (.fieldAddr 2 (.tmp 3))), (some (25, false))⟩, ⟨(some 27), (.q (.load false 1 (.tmp 26))), (some (25, false))⟩, ⟨(some 28), (.q (.len false (.tmp 27))), (some (25, false))⟩, ⟨(some 29), (.q (.fieldAddr 2 (.tmp 4))), (some (25, false))⟩, ⟨(some 30), (.q (.load false 1 (.tmp 29))), (some (25, false))⟩, ⟨(some 31), (.q (.len false (.tmp 30))), (some (25, false))⟩, ⟨(some 32), (.q (.bin .neq (.tmp 28) (.tmp 31))), (some (25, false))⟩, ⟨(some 33), (.q (.pick (.tmp 25) (.const (.bool true)) (.tmp 32))), none⟩]) 
    (.cond (.tmp 33) 
    (.seq 
    (.region [⟨(some 34), (.q (.move (.tmp 2))), none⟩, ⟨(some 35), (.q (.bin .eql (.tmp 34) (.const (.int .i64 0)))), none⟩, ⟨(some 6), (.q (.move (.tmp 35))), none⟩]) .ret) .skip)) 
    (.seq 
    (.seq 
    (.region [⟨(some 7), (.q (.move (.const (.int .i64 0)))), none⟩]) 
    (.block 0 
    (.loop 
    (.seq 
    (.seq 
    (.region [⟨(some 36), (.q (.move (.tmp 7))), none⟩, ⟨(some 37), (.q (.fieldAddr 2 (.tmp 3))), none⟩, ⟨(some 38), (.q (.load false 1 (.tmp 37))), none⟩, ⟨(some 39), (.q (.len false (.tmp 38))), none⟩, ⟨(some 40), (.q (.bin .lss (.tmp 36) (.tmp 39))), none⟩, ⟨(some 41), (.q (.move (.tmp 40))), none⟩, ⟨(some 42), (.q (.move (.tmp 7))), (some (41, true))⟩, ⟨(some 43), (.q (.fieldAddr 2 (.tmp 4))), (some (41, true))⟩, ⟨(some 44), (.q (.load false 1 (.tmp 43))), (some (41, true))⟩, ⟨(some 45), (.q (.len false (.tmp 44))), (some (41, true))⟩, ⟨(some 46), (.q (.bin .lss (.tmp 42) (.tmp 45))), (some (41, true))⟩, ⟨(some 47), (.q (.pick (.tmp 41) (.tmp 46) (.const (.bool false)))), none⟩]) 
    (.cond (.tmp 47) .skip (.exit 0))) 
    (.seq 
    (.block 1 
    (.seq 
    (.region [⟨(some 50), (.q (.fieldAddr 2 (.tmp 3))), none⟩, ⟨(some 51), (.q (.load false 1 (.tmp 50))), none⟩, ⟨(some 52), (.q (.move (.tmp 7))), none⟩, ⟨(some 53), (.q (.idxSl 3 (.tmp 51) (.tmp 52))), none⟩, ⟨(some 54), (.q (.load true 3 (.tmp 53))), none⟩, ⟨(some 55), (.q (.fieldAddr 2 (.tmp 4))), none⟩, ⟨(some 56), (.q (.load false 1 (.tmp 55))), none⟩, ⟨(some 57), (.q (.move (.tmp 7))), none⟩, ⟨(some 58), (.q (.idxSl 3 (.tmp 56) (.tmp 57))), none⟩, ⟨(some 59), (.q (.load true 3 (.tmp 58))), none⟩, ⟨(some 60), (.q (.move (.tmp 2))), none⟩, ⟨(some 61), (.q (.bin .sub (.tmp 60) (.const (.int .i64 1)))), none⟩, ⟨(some 62), (.s (.call 26 [(.tmp 54), (.tmp 59), (.tmp 61)])), none⟩, ⟨(some 63), (.q (.un .not (.tmp 62))), none⟩]) 
    (.cond (.tmp 63) 
    (.seq 
    (.region [⟨(some 6), (.q (.move (.const (.bool false)))), none⟩]) .ret) .skip))) 
    (.region [⟨(some 48), (.q (.move (.tmp 7))), none⟩, ⟨(some 49), (.q (.bin .add (.tmp 48) (.const (.int .i64 1)))), none⟩, ⟨(some 7), (.q (.move (.tmp 49))), none⟩])))))) 
    (.seq 
    (.region [⟨(some 6), (.q (.move (.const (.bool true)))), none⟩]) .ret))))
theorem t26 : Told Tryd.prog 26 64 c26 [(.tmp 6)] := ⟨Tryd.f26, _, [], Tryd.func26, rfl, by kernel_rfl, rfl, by kernel_rfl, by kernel_rfl⟩
def c11 : ACode := 
    (.seq 
    (.region [⟨(some 2), (.s (.box 25 (.tmp 0))), none⟩, ⟨(some 3), (.s (.box 25 (.tmp 1))), none⟩, ⟨(some 4), (.q (.move (.const (.bool false)))), none⟩]) 
    (.seq 
    (.region [⟨(some 5), (.q (.load true 3 (.tmp 2))), none⟩, ⟨(some 6), (.q (.load true 3 (.tmp 3))), none⟩, ⟨(some 7), (.s (.call 26 [(.tmp 5), (.tmp 6), (.const (.int .i64 20))])), none⟩, ⟨(some 4), (.q (.move (.tmp 7))), none⟩]) .ret))
theorem t11 : Told Tryd.prog 11 8 c11 [(.tmp 4)] := ⟨Tryd.f11, _, [], Tryd.func11, rfl, by kernel_rfl, rfl, by kernel_rfl, by kernel_rfl⟩
end Go.Proofs.YtdknpnmdjjmapaaDoor.AL
