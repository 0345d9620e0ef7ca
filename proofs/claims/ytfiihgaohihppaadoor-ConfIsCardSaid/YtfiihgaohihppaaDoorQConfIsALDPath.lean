/- The document's paths: the code told. -/
import Derived.Test.YtfiihgaohihppaaDoorQConfIsALA3
import Derived.Test.YtfiihgaohihppaaDoorProg
import Derived.KernelRfl
set_option maxRecDepth 100000
namespace Go.Proofs.YtfiihgaohihppaaDoor.AL
open Go Go.Proofs
def c13 : ACode := 
    (.seq 
    (.region [⟨(some 2), (.q (.move (.const .nils))), none⟩, ⟨(some 3), (.q (.move (.const (.bool false)))), none⟩]) 
    (.seq 
    (.seq 
    (.region [⟨(some 7), (.q (.move (.tmp 0))), none⟩, ⟨(some 8), (.q (.bin .eql (.tmp 7) (.const (.str (B [47]))))), none⟩]) 
    (.cond (.tmp 8) 
    (.seq 
    (.region [⟨(some 2), (.q (.move (.const .nils))), none⟩, ⟨(some 3), (.q (.move (.const (.bool true)))), none⟩]) .ret) .skip)) 
    (.seq 
    (.seq 
    (.region [⟨(some 9), (.q (.move (.tmp 0))), none⟩, ⟨(some 10), (.q (.bin .eql (.tmp 9) (.const (.str (B []))))), none⟩, ⟨(some 11), (.q (.move (.tmp 10))), none⟩, ⟨(some 12), (.q (.move (.tmp 0))), (some (11, false))⟩, ⟨(some 13), (.q (.idxStr (.tmp 12) (.const (.int .i64 0)))), (some (11, false))⟩, ⟨(some 14), (.q (.bin .neq (.tmp 13) (.const (.int .u8 47)))), (some (11, false))⟩, ⟨(some 15), (.q (.pick (.tmp 11) (.const (.bool true)) (.tmp 14))), none⟩]) 
    (.cond (.tmp 15) 
    (.seq 
    (.region [⟨(some 2), (.q (.move (.const .nils))), none⟩, ⟨(some 3), (.q (.move (.const (.bool false)))), none⟩]) .ret) .skip)) 
    (.seq 
    (.region [⟨(some 4), (.q (.move (.const .nils))), none⟩]) 
    (.seq 
    (.region [⟨(some 5), (.q (.move (.const (.int .i64 1)))), none⟩]) 
    (.seq 
    (.seq 
    (.region [⟨(some 6), (.q (.move (.const (.int .i64 1)))), none⟩]) 
    (.block 0 
    (.loop 
    (.seq 
    (.seq 
    (.region [⟨(some 16), (.q (.move (.tmp 6))), none⟩, ⟨(some 17), (.q (.move (.tmp 0))), none⟩, ⟨(some 18), (.q (.len true (.tmp 17))), none⟩, ⟨(some 19), (.q (.bin .leq (.tmp 16) (.tmp 18))), none⟩]) 
    (.cond (.tmp 19) .skip (.exit 0))) 
    (.seq 
    (.block 1 
    (.seq 
    (.seq 
    (.region [⟨(some 22), (.q (.move (.tmp 6))), none⟩, ⟨(some 23), (.q (.move (.tmp 0))), none⟩, ⟨(some 24), (.q (.len true (.tmp 23))), none⟩, ⟨(some 25), (.q (.bin .lss (.tmp 22) (.tmp 24))), none⟩, ⟨(some 26), (.q (.move (.tmp 25))), none⟩, ⟨(some 27), (.q (.move (.tmp 0))), (some (26, true))⟩, ⟨(some 28), (.q (.move (.tmp 6))), (some (26, true))⟩, ⟨(some 29), (.q (.idxStr (.tmp 27) (.tmp 28))), (some (26, true))⟩, ⟨(some 30), (.q (.bin .neq (.tmp 29) (.const (.int .u8 47)))), (some (26, true))⟩, ⟨(some 31), (.q (.pick (.tmp 26) (.tmp 30) (.const (.bool false)))), none⟩]) 
    (.cond (.tmp 31) (.exit 1) .skip)) 
    (.seq 
    (.seq 
    (.region [⟨(some 32), (.q (.move (.tmp 6))), none⟩, ⟨(some 33), (.q (.move (.tmp 5))), none⟩, ⟨(some 34), (.q (.bin .eql (.tmp 32) (.tmp 33))), none⟩, ⟨(some 35), (.q (.move (.tmp 34))), none⟩, ⟨(some 36), (.q (.move (.tmp 4))), (some (35, false))⟩, ⟨(some 37), (.q (.len false (.tmp 36))), (some (35, false))⟩, ⟨(some 38), (.q (.bin .eql (.tmp 37) (.const (.int .i64 7)))), (some (35, false))⟩, ⟨(some 39), (.q (.pick (.tmp 35) (.const (.bool true)) (.tmp 38))), none⟩]) 
    (.cond (.tmp 39) 
    (.seq 
    (.region [⟨(some 2), (.q (.move (.const .nils))), none⟩, ⟨(some 3), (.q (.move (.const (.bool false)))), none⟩]) .ret) .skip)) 
    (.seq 
    (.region [⟨(some 40), (.q (.move (.tmp 4))), none⟩, ⟨(some 41), (.q (.move (.tmp 0))), none⟩, ⟨(some 42), (.q (.move (.tmp 5))), none⟩, ⟨(some 43), (.q (.move (.tmp 6))), none⟩, ⟨(some 44), (.q (.sliceStr (.tmp 41) (some (.tmp 42)) (some (.tmp 43)))), none⟩, ⟨(some 45), (.s (.lit 9 1 [(.tmp 44)])), none⟩, ⟨(some 46), (.s (.app 9 1 16 (.tmp 40) (.tmp 45))), none⟩, ⟨(some 4), (.q (.move (.tmp 46))), none⟩]) 
    (.region [⟨(some 47), (.q (.move (.tmp 6))), none⟩, ⟨(some 48), (.q (.bin .add (.tmp 47) (.const (.int .i64 1)))), none⟩, ⟨(some 5), (.q (.move (.tmp 48))), none⟩]))))) 
    (.region [⟨(some 20), (.q (.move (.tmp 6))), none⟩, ⟨(some 21), (.q (.bin .add (.tmp 20) (.const (.int .i64 1)))), none⟩, ⟨(some 6), (.q (.move (.tmp 21))), none⟩])))))) 
    (.seq 
    (.region [⟨(some 49), (.q (.move (.tmp 4))), none⟩, ⟨(some 2), (.q (.move (.tmp 49))), none⟩, ⟨(some 3), (.q (.move (.const (.bool true)))), none⟩]) .ret)))))))
theorem t13 : Told Tryd.prog 13 50 c13 [(.tmp 2), (.tmp 3)] := ⟨Tryd.f13, _, [], Tryd.func13, rfl, by kernel_rfl, rfl, by kernel_rfl, by kernel_rfl⟩
def c21 : ACode := 
    (.seq 
    (.region [⟨(some 2), (.s (.box 34 (.tmp 0))), none⟩, ⟨(some 4), (.s (.alloc 34 [(.str (B [])), .nils, .nils])), none⟩, ⟨(some 5), (.q (.move (.const (.bool false)))), none⟩]) 
    (.seq 
    (.seq 
    (.region [⟨(some 6), (.q (.move (.const (.int .i64 0)))), none⟩]) 
    (.block 0 
    (.loop 
    (.seq 
    (.seq 
    (.region [⟨(some 7), (.q (.move (.tmp 6))), none⟩, ⟨(some 8), (.q (.fieldAddr 2 (.tmp 2))), none⟩, ⟨(some 9), (.q (.load false 1 (.tmp 8))), none⟩, ⟨(some 10), (.q (.len false (.tmp 9))), none⟩, ⟨(some 11), (.q (.bin .lss (.tmp 7) (.tmp 10))), none⟩]) 
    (.cond (.tmp 11) .skip (.exit 0))) 
    (.seq 
    (.block 1 
    (.seq 
    (.region [⟨(some 14), (.q (.fieldAddr 2 (.tmp 2))), none⟩, ⟨(some 15), (.q (.load false 1 (.tmp 14))), none⟩, ⟨(some 16), (.q (.move (.tmp 6))), none⟩, ⟨(some 17), (.q (.idxSl 3 (.tmp 15) (.tmp 16))), none⟩, ⟨(some 18), (.q (.fieldAddr 0 (.tmp 17))), none⟩, ⟨(some 19), (.q (.load false 1 (.tmp 18))), none⟩, ⟨(some 20), (.q (.move (.tmp 1))), none⟩, ⟨(some 21), (.q (.bin .eql (.tmp 19) (.tmp 20))), none⟩]) 
    (.cond (.tmp 21) 
    (.seq 
    (.region [⟨(some 22), (.q (.fieldAddr 2 (.tmp 2))), none⟩, ⟨(some 23), (.q (.load false 1 (.tmp 22))), none⟩, ⟨(some 24), (.q (.move (.tmp 6))), none⟩, ⟨(some 25), (.q (.idxSl 3 (.tmp 23) (.tmp 24))), none⟩, ⟨(some 26), (.q (.load true 3 (.tmp 25))), none⟩, ⟨none, (.s (.store 3 (.tmp 4) (.tmp 26))), none⟩, ⟨(some 5), (.q (.move (.const (.bool true)))), none⟩]) .ret) .skip))) 
    (.region [⟨(some 12), (.q (.move (.tmp 6))), none⟩, ⟨(some 13), (.q (.bin .add (.tmp 12) (.const (.int .i64 1)))), none⟩, ⟨(some 6), (.q (.move (.tmp 13))), none⟩])))))) 
    (.seq 
    (.region [⟨(some 27), (.q (.build [(.str (B [])), .nils, .nils] [])), none⟩, ⟨none, (.s (.store 3 (.tmp 4) (.tmp 27))), none⟩, ⟨(some 5), (.q (.move (.const (.bool false)))), none⟩]) .ret)))
theorem t21 : Told Tryd.prog 21 28 c21 [(.cell 4 true 3), (.tmp 5)] := ⟨Tryd.f21, _, [], Tryd.func21, rfl, by kernel_rfl, rfl, by kernel_rfl, by kernel_rfl⟩
def c19 : ACode := 
    (.seq 
    (.region [⟨(some 2), (.s (.box 34 (.tmp 0))), none⟩, ⟨(some 4), (.s (.alloc 34 [(.str (B [])), .nils, .nils])), none⟩, ⟨(some 5), (.q (.move (.const (.bool false)))), none⟩]) 
    (.seq 
    (.region [⟨(some 12), (.q (.move (.tmp 1))), none⟩, ⟨(some 13), (.s (.call 13 [(.tmp 12)])), none⟩, ⟨(some 11), (.q (.move (.tmp 13))), none⟩, ⟨(some 14), (.q (.extract 0 (.tmp 11))), none⟩, ⟨(some 15), (.q (.extract 1 (.tmp 11))), none⟩, ⟨(some 6), (.q (.move (.tmp 14))), none⟩, ⟨(some 7), (.q (.move (.tmp 15))), none⟩]) 
    (.seq 
    (.seq 
    (.region [⟨(some 16), (.q (.move (.tmp 7))), none⟩, ⟨(some 17), (.q (.un .not (.tmp 16))), none⟩]) 
    (.cond (.tmp 17) 
    (.seq 
    (.region [⟨(some 18), (.q (.build [(.str (B [])), .nils, .nils] [])), none⟩, ⟨none, (.s (.store 3 (.tmp 4) (.tmp 18))), none⟩, ⟨(some 5), (.q (.move (.const (.bool false)))), none⟩]) .ret) .skip)) 
    (.seq 
    (.seq 
    (.region [⟨(some 8), (.q (.move (.const (.int .i64 0)))), none⟩]) 
    (.block 0 
    (.loop 
    (.seq 
    (.seq 
    (.region [⟨(some 19), (.q (.move (.tmp 8))), none⟩, ⟨(some 20), (.q (.move (.tmp 6))), none⟩, ⟨(some 21), (.q (.len false (.tmp 20))), none⟩, ⟨(some 22), (.q (.bin .lss (.tmp 19) (.tmp 21))), none⟩]) 
    (.cond (.tmp 22) .skip (.exit 0))) 
    (.seq 
    (.block 1 
    (.seq 
    (.regionN 10 [⟨(some 26), (.q (.load true 3 (.tmp 2))), none⟩, ⟨(some 27), (.q (.move (.tmp 6))), none⟩, ⟨(some 28), (.q (.move (.tmp 8))), none⟩, ⟨(some 29), (.q (.idxSl 1 (.tmp 27) (.tmp 28))), none⟩, ⟨(some 30), (.q (.load false 1 (.tmp 29))), none⟩, ⟨(some 9), (.q (.move (.const .top))), none⟩, ⟨(some 31), (.s (.call 21 [(.tmp 26), (.tmp 30)])), none⟩, ⟨(some 25), (.q (.move (.tmp 31))), none⟩, ⟨(some 32), (.q (.extract 0 (.tmp 25))), none⟩, ⟨(some 33), (.q (.extract 1 (.tmp 25))), none⟩, ⟨(some 9), (.s (.put 34 3 (.tmp 32))), none⟩, ⟨(some 10), (.q (.move (.tmp 33))), none⟩]) 
    (.seq 
    (.seq 
    (.region [⟨(some 34), (.q (.move (.tmp 10))), none⟩, ⟨(some 35), (.q (.un .not (.tmp 34))), none⟩]) 
    (.cond (.tmp 35) 
    (.seq 
    (.region [⟨(some 36), (.q (.build [(.str (B [])), .nils, .nils] [])), none⟩, ⟨none, (.s (.store 3 (.tmp 4) (.tmp 36))), none⟩, ⟨(some 5), (.q (.move (.const (.bool false)))), none⟩]) .ret) .skip)) 
    (.region [⟨(some 37), (.q (.load true 3 (.tmp 9))), none⟩, ⟨none, (.s (.store 3 (.tmp 2) (.tmp 37))), none⟩])))) 
    (.region [⟨(some 23), (.q (.move (.tmp 8))), none⟩, ⟨(some 24), (.q (.bin .add (.tmp 23) (.const (.int .i64 1)))), none⟩, ⟨(some 8), (.q (.move (.tmp 24))), none⟩])))))) 
    (.seq 
    (.region [⟨(some 38), (.q (.load true 3 (.tmp 2))), none⟩, ⟨none, (.s (.store 3 (.tmp 4) (.tmp 38))), none⟩, ⟨(some 5), (.q (.move (.const (.bool true)))), none⟩]) .ret)))))
theorem t19 : Told Tryd.prog 19 39 c19 [(.cell 4 true 3), (.tmp 5)] := ⟨Tryd.f19, _, [], Tryd.func19, rfl, by kernel_rfl, rfl, by kernel_rfl, by kernel_rfl⟩
def c24 : ACode := 
    (.seq 
    (.region [⟨(some 2), (.s (.box 34 (.tmp 0))), none⟩, ⟨(some 4), (.q (.move (.const (.str (B []))))), none⟩, ⟨(some 5), (.q (.move (.const (.bool false)))), none⟩]) 
    (.seq 
    (.seq 
    (.region [⟨(some 6), (.q (.move (.const (.int .i64 0)))), none⟩]) 
    (.block 0 
    (.loop 
    (.seq 
    (.seq 
    (.region [⟨(some 7), (.q (.move (.tmp 6))), none⟩, ⟨(some 8), (.q (.fieldAddr 1 (.tmp 2))), none⟩, ⟨(some 9), (.q (.load false 1 (.tmp 8))), none⟩, ⟨(some 10), (.q (.len false (.tmp 9))), none⟩, ⟨(some 11), (.q (.bin .lss (.tmp 7) (.tmp 10))), none⟩]) 
    (.cond (.tmp 11) .skip (.exit 0))) 
    (.seq 
    (.block 1 
    (.seq 
    (.region [⟨(some 14), (.q (.fieldAddr 1 (.tmp 2))), none⟩, ⟨(some 15), (.q (.load false 1 (.tmp 14))), none⟩, ⟨(some 16), (.q (.move (.tmp 6))), none⟩, ⟨(some 17), (.q (.idxSl 2 (.tmp 15) (.tmp 16))), none⟩, ⟨(some 18), (.q (.fieldAddr 0 (.tmp 17))), none⟩, ⟨(some 19), (.q (.load false 1 (.tmp 18))), none⟩, ⟨(some 20), (.q (.move (.tmp 1))), none⟩, ⟨(some 21), (.q (.bin .eql (.tmp 19) (.tmp 20))), none⟩]) 
    (.cond (.tmp 21) 
    (.seq 
    (.region [⟨(some 22), (.q (.fieldAddr 1 (.tmp 2))), none⟩, ⟨(some 23), (.q (.load false 1 (.tmp 22))), none⟩, ⟨(some 24), (.q (.move (.tmp 6))), none⟩, ⟨(some 25), (.q (.idxSl 2 (.tmp 23) (.tmp 24))), none⟩, ⟨(some 26), (.q (.fieldAddr 1 (.tmp 25))), none⟩, ⟨(some 27), (.q (.load false 1 (.tmp 26))), none⟩, ⟨(some 4), (.q (.move (.tmp 27))), none⟩, ⟨(some 5), (.q (.move (.const (.bool true)))), none⟩]) .ret) .skip))) 
    (.region [⟨(some 12), (.q (.move (.tmp 6))), none⟩, ⟨(some 13), (.q (.bin .add (.tmp 12) (.const (.int .i64 1)))), none⟩, ⟨(some 6), (.q (.move (.tmp 13))), none⟩])))))) 
    (.seq 
    (.region [⟨(some 4), (.q (.move (.const (.str (B []))))), none⟩, ⟨(some 5), (.q (.move (.const (.bool false)))), none⟩]) .ret)))
theorem t24 : Told Tryd.prog 24 28 c24 [(.tmp 4), (.tmp 5)] := ⟨Tryd.f24, _, [], Tryd.func24, rfl, by kernel_rfl, rfl, by kernel_rfl, by kernel_rfl⟩
end Go.Proofs.YtfiihgaohihppaaDoor.AL

