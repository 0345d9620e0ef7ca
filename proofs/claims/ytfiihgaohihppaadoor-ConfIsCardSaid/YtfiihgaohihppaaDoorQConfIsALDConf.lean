/- The code of configurations, told. -/
import Derived.Test.YtfiihgaohihppaaDoorQConfIsALA3
import Derived.Test.YtfiihgaohihppaaDoorProg
import Derived.KernelRfl
set_option maxRecDepth 100000
namespace Go.Proofs.YtfiihgaohihppaaDoor.AL
open Go Go.Proofs
def c72 : ACode := 
    (.seq 
    (.region [⟨(some 4), (.q (.move (.const (.int .i64 0)))), none⟩]) 
    (.seq 
    (.seq 
    (.region [⟨(some 6), (.q (.move (.tmp 0))), none⟩, ⟨(some 7), (.q (.len false (.tmp 6))), none⟩, ⟨(some 8), (.q (.move (.const (.int .i64 0)))), none⟩]) 
    (.block 0 
    (.loop 
    (.seq 
    (.region [⟨(some 9), (.q (.bin .lss (.tmp 8) (.tmp 7))), none⟩]) 
    (.seq 
    (.cond (.tmp 9) .skip (.exit 0)) 
    (.seq 
    (.block 1 
    (.seq 
    (.region [⟨(some 10), (.q (.move (.tmp 8))), none⟩, ⟨(some 5), (.q (.move (.tmp 10))), none⟩]) 
    (.seq 
    (.region [⟨(some 11), (.q (.move (.tmp 1))), none⟩, ⟨(some 12), (.q (.move (.tmp 0))), none⟩, ⟨(some 13), (.q (.move (.tmp 5))), none⟩, ⟨(some 14), (.q (.idxSl 7 (.tmp 12) (.tmp 13))), none⟩, ⟨(some 15), (.q (.load true 7 (.tmp 14))), none⟩, ⟨(some 16), (.s (.callv (.tmp 11) [(.tmp 15)])), none⟩]) 
    (.cond (.tmp 16) 
    (.seq 
    (.region [⟨(some 17), (.q (.move (.tmp 5))), none⟩, ⟨(some 4), (.q (.move (.tmp 17))), none⟩]) .ret) .skip)))) 
    (.region [⟨(some 18), (.q (.bin .add (.tmp 8) (.const (.int .i64 1)))), none⟩, ⟨(some 8), (.q (.move (.tmp 18))), none⟩]))))))) 
    (.seq 
    (.region [⟨(some 4), (.q (.move (.const (.int .i64 (-1))))), none⟩]) .ret)))
theorem t72 : Told Tryd.prog 72 19 c72 [(.tmp 4)] := ⟨Tryd.f72, _, [], Tryd.func72, rfl, by kernel_rfl, rfl, by kernel_rfl, by kernel_rfl⟩
def c32 : ACode := 
    (.seq 
    (.region [⟨(some 1), (.s (.box 34 (.tmp 0))), none⟩, ⟨(some 2), (.s (.alloc 54 [(.str (B [])), .nils, (.str (B [])), (.str (B [])), (.str (B [])), (.int .i64 0), (.int .i64 0)])), none⟩, ⟨(some 3), (.q (.move (.const (.int .i64 0)))), none⟩]) 
    (.seq 
    (.region [⟨(some 4), (.s (.alloc 4 [(.bool false)])), none⟩, ⟨none, (.s (.store 1 (.tmp 4) (.const (.bool true)))), none⟩]) 
    (.seq 
    (.seq (.fregion [1] []) 
    (.region [⟨(some 12), (.q (.mkFunc (.func 68) [] [(.tmp 1), (.tmp 4)])), none⟩, ⟨(some 5), (.q (.move (.tmp 12))), none⟩])) 
    (.seq 
    (.region [⟨(some 13), (.q (.mkFunc (.func 69) [] [(.tmp 1), (.tmp 4)])), none⟩, ⟨(some 6), (.q (.move (.tmp 13))), none⟩]) 
    (.seq 
    (.region [⟨(some 15), (.q (.load true 3 (.tmp 1))), none⟩, ⟨(some 16), (.s (.call 23 [(.tmp 15), (.const (.str (B [99, 111, 109, 112, 97, 116, 105, 98, 108, 101])))])), none⟩, ⟨(some 14), (.q (.move (.tmp 16))), none⟩, ⟨(some 17), (.q (.extract 0 (.tmp 14))), none⟩, ⟨(some 18), (.q (.extract 1 (.tmp 14))), none⟩, ⟨(some 7), (.q (.move (.tmp 17))), none⟩, ⟨(some 8), (.q (.move (.tmp 18))), none⟩]) 
    (.seq 
    (.region [⟨(some 20), (.q (.move (.tmp 7))), none⟩, ⟨(some 21), (.s (.call 70 [(.tmp 20)])), none⟩, ⟨(some 19), (.q (.move (.tmp 21))), none⟩, ⟨(some 22), (.q (.extract 0 (.tmp 19))), none⟩, ⟨(some 23), (.q (.extract 1 (.tmp 19))), none⟩, ⟨(some 9), (.q (.move (.tmp 22))), none⟩, ⟨(some 10), (.q (.move (.tmp 23))), none⟩]) 
    (.seq 
    (.seq (.fregion [1] []) 
    (.regionN 12 [⟨(some 24), (.q (.fieldAddr 0 (.tmp 1))), none⟩, ⟨(some 25), (.q (.loadr false 1 (.tmp 24))), none⟩, ⟨(some 26), (.q (.move (.tmp 9))), none⟩, ⟨(some 27), (.q (.move (.tmp 5))), none⟩, ⟨(some 29), (.q (.move (.tmp 5))), none⟩, ⟨(some 31), (.q (.move (.tmp 5))), none⟩, ⟨(some 33), (.q (.move (.tmp 6))), none⟩, ⟨(some 35), (.q (.move (.tmp 6))), none⟩, ⟨(some 11), (.q (.move (.const .top))), none⟩, ⟨(some 28), (.s (.callv (.tmp 27) [(.const (.str (B [107, 101, 114, 110, 101, 108])))])), none⟩, ⟨(some 30), (.s (.callv (.tmp 29) [(.const (.str (B [114, 97, 109, 100, 105, 115, 107])))])), none⟩, ⟨(some 32), (.s (.callv (.tmp 31) [(.const (.str (B [102, 100, 116])))])), none⟩, ⟨(some 34), (.s (.callv (.tmp 33) [(.const (.str (B [118, 101, 114, 115, 105, 111, 110])))])), none⟩, ⟨(some 36), (.s (.callv (.tmp 35) [(.const (.str (B [114, 111, 108, 108, 98, 97, 99, 107])))])), none⟩, ⟨(some 37), (.q (.build [(.str (B [])), .nils, (.str (B [])), (.str (B [])), (.str (B [])), (.int .i64 0), (.int .i64 0)] [(0, (1, (.tmp 25))), (1, (1, (.tmp 26))), (2, (1, (.tmp 28))), (3, (1, (.tmp 30))), (4, (1, (.tmp 32))), (5, (1, (.tmp 34))), (6, (1, (.tmp 36)))])), none⟩, ⟨(some 11), (.s (.put 54 7 (.tmp 37))), none⟩])) 
    (.seq 
    (.seq 
    (.region [⟨(some 38), (.q (.load false 1 (.tmp 4))), none⟩, ⟨(some 39), (.q (.un .not (.tmp 38))), none⟩, ⟨(some 40), (.q (.move (.tmp 39))), none⟩, ⟨(some 41), (.q (.move (.tmp 10))), (some (40, false))⟩, ⟨(some 42), (.q (.un .not (.tmp 41))), (some (40, false))⟩, ⟨(some 43), (.q (.pick (.tmp 40) (.const (.bool true)) (.tmp 42))), none⟩]) 
    (.cond (.tmp 43) 
    (.seq 
    (.region [⟨(some 44), (.q (.build [(.str (B [])), .nils, (.str (B [])), (.str (B [])), (.str (B [])), (.int .i64 0), (.int .i64 0)] [])), none⟩, ⟨none, (.s (.store 7 (.tmp 2) (.tmp 44))), none⟩, ⟨(some 3), (.q (.move (.const (.int .i64 6)))), none⟩]) .ret) .skip)) 
    (.seq 
    (.region [⟨(some 45), (.q (.load true 7 (.tmp 11))), none⟩, ⟨none, (.s (.store 7 (.tmp 2) (.tmp 45))), none⟩, ⟨(some 3), (.q (.move (.const (.int .i64 0)))), none⟩]) .ret)))))))))
theorem t32 : Told Tryd.prog 32 46 c32 [(.cell 2 true 7), (.tmp 3)] := ⟨Tryd.f32, _, [3000001, 7000001], Tryd.func32, rfl, by kernel_rfl, rfl, by kernel_rfl, by kernel_rfl⟩
def c68 : ACode := 
    (.seq 
    (.region [⟨(some 4), (.q (.move (.const (.str (B []))))), none⟩]) 
    (.seq 
    (.region [⟨(some 8), (.q (.load true 3 (.tmp 1))), none⟩, ⟨(some 9), (.q (.move (.tmp 0))), none⟩, ⟨(some 10), (.s (.call 25 [(.tmp 8), (.const (.str (B [47]))), (.tmp 9)])), none⟩, ⟨(some 7), (.q (.move (.tmp 10))), none⟩, ⟨(some 11), (.q (.extract 0 (.tmp 7))), none⟩, ⟨(some 12), (.q (.extract 1 (.tmp 7))), none⟩, ⟨(some 5), (.q (.move (.tmp 11))), none⟩, ⟨(some 6), (.q (.move (.tmp 12))), none⟩]) 
    (.seq 
    (.region [⟨(some 13), (.q (.load false 1 (.tmp 2))), none⟩, ⟨(some 14), (.q (.move (.tmp 13))), none⟩, ⟨(some 15), (.q (.move (.tmp 6))), (some (14, true))⟩, ⟨(some 16), (.q (.pick (.tmp 14) (.tmp 15) (.const (.bool false)))), none⟩, ⟨(some 17), (.q (.move (.tmp 16))), none⟩, ⟨(some 18), (.q (.move (.tmp 5))), (some (17, true))⟩, ⟨(some 19), (.q (.bin .neq (.tmp 18) (.const (.str (B []))))), (some (17, true))⟩, ⟨(some 20), (.q (.pick (.tmp 17) (.tmp 19) (.const (.bool false)))), none⟩, ⟨none, (.s (.store 1 (.tmp 2) (.tmp 20))), none⟩]) 
    (.seq 
    (.region [⟨(some 21), (.q (.move (.tmp 5))), none⟩, ⟨(some 4), (.q (.move (.tmp 21))), none⟩]) .ret))))
theorem t68 : Told Tryd.prog 68 22 c68 [(.tmp 4)] := ⟨Tryd.f68, _, [], Tryd.func68, rfl, by kernel_rfl, rfl, by kernel_rfl, by kernel_rfl⟩
def c69 : ACode := 
    (.seq 
    (.region [⟨(some 4), (.q (.move (.const (.int .i64 0)))), none⟩]) 
    (.seq 
    (.region [⟨(some 8), (.q (.load true 3 (.tmp 1))), none⟩, ⟨(some 9), (.q (.move (.tmp 0))), none⟩, ⟨(some 10), (.s (.call 27 [(.tmp 8), (.const (.str (B [47]))), (.tmp 9)])), none⟩, ⟨(some 7), (.q (.move (.tmp 10))), none⟩, ⟨(some 11), (.q (.extract 0 (.tmp 7))), none⟩, ⟨(some 12), (.q (.extract 1 (.tmp 7))), none⟩, ⟨(some 5), (.q (.move (.tmp 11))), none⟩, ⟨(some 6), (.q (.move (.tmp 12))), none⟩]) 
    (.seq 
    (.region [⟨(some 13), (.q (.load false 1 (.tmp 2))), none⟩, ⟨(some 14), (.q (.move (.tmp 13))), none⟩, ⟨(some 15), (.q (.move (.tmp 6))), (some (14, true))⟩, ⟨(some 16), (.q (.pick (.tmp 14) (.tmp 15) (.const (.bool false)))), none⟩, ⟨none, (.s (.store 1 (.tmp 2) (.tmp 16))), none⟩]) 
    (.seq 
    (.region [⟨(some 17), (.q (.move (.tmp 5))), none⟩, ⟨(some 4), (.q (.move (.tmp 17))), none⟩]) .ret))))
theorem t69 : Told Tryd.prog 69 18 c69 [(.tmp 4)] := ⟨Tryd.f69, _, [], Tryd.func69, rfl, by kernel_rfl, rfl, by kernel_rfl, by kernel_rfl⟩
def c34 : ACode := 
    (.seq 
    (.region [⟨(some 4), (.s (.box 9 (.tmp 1))), none⟩, ⟨(some 5), (.s (.box 9 (.tmp 2))), none⟩, ⟨(some 6), (.s (.alloc 54 [(.str (B [])), .nils, (.str (B [])), (.str (B [])), (.str (B [])), (.int .i64 0), (.int .i64 0)])), none⟩, ⟨(some 7), (.q (.move (.const (.int .i64 0)))), none⟩]) 
    (.seq 
    (.region [⟨(some 9), (.q (.move (.tmp 0))), none⟩, ⟨(some 10), (.q (.mkFunc (.func 73) [] [(.tmp 4)])), none⟩, ⟨(some 11), (.s (.call 72 [(.tmp 9), (.tmp 10)])), none⟩, ⟨(some 8), (.q (.move (.tmp 11))), none⟩]) 
    (.seq 
    (.seq 
    (.region [⟨(some 12), (.q (.move (.tmp 8))), none⟩, ⟨(some 13), (.q (.bin .lss (.tmp 12) (.const (.int .i64 0)))), none⟩]) 
    (.cond (.tmp 13) 
    (.seq 
    (.region [⟨(some 14), (.q (.build [(.str (B [])), .nils, (.str (B [])), (.str (B [])), (.str (B [])), (.int .i64 0), (.int .i64 0)] [])), none⟩, ⟨none, (.s (.store 7 (.tmp 6) (.tmp 14))), none⟩, ⟨(some 7), (.q (.move (.const (.int .i64 8)))), none⟩]) .ret) .skip)) 
    (.seq 
    (.seq 
    (.region [⟨(some 15), (.q (.move (.tmp 0))), none⟩, ⟨(some 16), (.q (.move (.tmp 8))), none⟩, ⟨(some 17), (.q (.idxSl 7 (.tmp 15) (.tmp 16))), none⟩, ⟨(some 18), (.q (.load true 7 (.tmp 17))), none⟩, ⟨(some 19), (.q (.load false 1 (.tmp 5))), none⟩, ⟨(some 20), (.s (.call 40 [(.tmp 18), (.tmp 19)])), none⟩, ⟨(some 21), (.q (.un .not (.tmp 20))), none⟩]) 
    (.cond (.tmp 21) 
    (.region [⟨(some 22), (.q (.move (.tmp 0))), none⟩, ⟨(some 23), (.q (.mkFunc (.func 74) [] [(.tmp 5)])), none⟩, ⟨(some 24), (.s (.call 72 [(.tmp 22), (.tmp 23)])), none⟩, ⟨(some 8), (.q (.move (.tmp 24))), none⟩]) .skip)) 
    (.seq 
    (.seq 
    (.region [⟨(some 25), (.q (.move (.tmp 8))), none⟩, ⟨(some 26), (.q (.bin .lss (.tmp 25) (.const (.int .i64 0)))), none⟩]) 
    (.cond (.tmp 26) 
    (.seq 
    (.region [⟨(some 27), (.q (.build [(.str (B [])), .nils, (.str (B [])), (.str (B [])), (.str (B [])), (.int .i64 0), (.int .i64 0)] [])), none⟩, ⟨none, (.s (.store 7 (.tmp 6) (.tmp 27))), none⟩, ⟨(some 7), (.q (.move (.const (.int .i64 11)))), none⟩]) .ret) .skip)) 
    (.seq 
    (.region [⟨(some 28), (.q (.move (.tmp 0))), none⟩, ⟨(some 29), (.q (.move (.tmp 8))), none⟩, ⟨(some 30), (.q (.idxSl 7 (.tmp 28) (.tmp 29))), none⟩, ⟨(some 31), (.q (.load true 7 (.tmp 30))), none⟩, ⟨none, (.s (.store 7 (.tmp 6) (.tmp 31))), none⟩, ⟨(some 7), (.q (.move (.const (.int .i64 0)))), none⟩]) .ret))))))
theorem t34 : Told Tryd.prog 34 32 c34 [(.cell 6 true 7), (.tmp 7)] := ⟨Tryd.f34, _, [], Tryd.func34, rfl, by kernel_rfl, rfl, by kernel_rfl, by kernel_rfl⟩
def c73 : ACode := 
    (.seq 
    (.region [⟨(some 2), (.s (.box 54 (.tmp 0))), none⟩, ⟨(some 3), (.q (.move (.const (.bool false)))), none⟩]) 
    (.seq 
    (.region [⟨(some 4), (.q (.fieldAddr 0 (.tmp 2))), none⟩, ⟨(some 5), (.q (.load false 1 (.tmp 4))), none⟩, ⟨(some 6), (.q (.load false 1 (.tmp 1))), none⟩, ⟨(some 7), (.q (.bin .eql (.tmp 5) (.tmp 6))), none⟩, ⟨(some 3), (.q (.move (.tmp 7))), none⟩]) .ret))
theorem t73 : Told Tryd.prog 73 8 c73 [(.tmp 3)] := ⟨Tryd.f73, _, [], Tryd.func73, rfl, by kernel_rfl, rfl, by kernel_rfl, by kernel_rfl⟩
def c74 : ACode := 
    (.seq 
    (.region [⟨(some 2), (.s (.box 54 (.tmp 0))), none⟩, ⟨(some 3), (.q (.move (.const (.bool false)))), none⟩]) 
    (.seq 
    (.region [⟨(some 4), (.q (.load true 7 (.tmp 2))), none⟩, ⟨(some 5), (.q (.load false 1 (.tmp 1))), none⟩, ⟨(some 6), (.s (.call 40 [(.tmp 4), (.tmp 5)])), none⟩, ⟨(some 3), (.q (.move (.tmp 6))), none⟩]) .ret))
theorem t74 : Told Tryd.prog 74 7 c74 [(.tmp 3)] := ⟨Tryd.f74, _, [], Tryd.func74, rfl, by kernel_rfl, rfl, by kernel_rfl, by kernel_rfl⟩
def c37 : ACode := 
    (.seq 
    (.region [⟨(some 1), (.s (.box 54 (.tmp 0))), none⟩, ⟨(some 2), (.s (.alloc 34 [(.str (B [])), .nils, .nils])), none⟩]) 
    (.seq 
    (.region [⟨(some 3), (.q (.fieldAddr 0 (.tmp 1))), none⟩, ⟨(some 4), (.q (.load false 1 (.tmp 3))), none⟩, ⟨(some 5), (.q (.fieldAddr 1 (.tmp 1))), none⟩, ⟨(some 6), (.q (.load false 1 (.tmp 5))), none⟩, ⟨(some 7), (.c (.fn 76) [(.tmp 6)]), none⟩, ⟨(some 8), (.q (.build [(.str (B [])), (.str (B []))] [(0, (1, (.const (.str (B [99, 111, 109, 112, 97, 116, 105, 98, 108, 101]))))), (1, (1, (.tmp 7)))])), none⟩, ⟨(some 9), (.q (.fieldAddr 2 (.tmp 1))), none⟩, ⟨(some 10), (.q (.load false 1 (.tmp 9))), none⟩, ⟨(some 11), (.s (.lit 9 1 [(.tmp 10)])), none⟩, ⟨(some 12), (.c (.fn 76) [(.tmp 11)]), none⟩, ⟨(some 13), (.q (.build [(.str (B [])), (.str (B []))] [(0, (1, (.const (.str (B [107, 101, 114, 110, 101, 108]))))), (1, (1, (.tmp 12)))])), none⟩, ⟨(some 14), (.q (.fieldAddr 3 (.tmp 1))), none⟩, ⟨(some 15), (.q (.load false 1 (.tmp 14))), none⟩, ⟨(some 16), (.s (.lit 9 1 [(.tmp 15)])), none⟩, ⟨(some 17), (.c (.fn 76) [(.tmp 16)]), none⟩, ⟨(some 18), (.q (.build [(.str (B [])), (.str (B []))] [(0, (1, (.const (.str (B [114, 97, 109, 100, 105, 115, 107]))))), (1, (1, (.tmp 17)))])), none⟩, ⟨(some 19), (.q (.fieldAddr 4 (.tmp 1))), none⟩, ⟨(some 20), (.q (.load false 1 (.tmp 19))), none⟩, ⟨(some 21), (.s (.lit 9 1 [(.tmp 20)])), none⟩, ⟨(some 22), (.c (.fn 76) [(.tmp 21)]), none⟩, ⟨(some 23), (.q (.build [(.str (B [])), (.str (B []))] [(0, (1, (.const (.str (B [102, 100, 116]))))), (1, (1, (.tmp 22)))])), none⟩, ⟨(some 24), (.q (.fieldAddr 5 (.tmp 1))), none⟩, ⟨(some 25), (.q (.load false 1 (.tmp 24))), none⟩, ⟨(some 26), (.s (.lit 3 1 [(.tmp 25)])), none⟩, ⟨(some 27), (.c (.fn 77) [(.tmp 26)]), none⟩, ⟨(some 28), (.q (.build [(.str (B [])), (.str (B []))] [(0, (1, (.const (.str (B [118, 101, 114, 115, 105, 111, 110]))))), (1, (1, (.tmp 27)))])), none⟩, ⟨(some 29), (.q (.fieldAddr 6 (.tmp 1))), none⟩, ⟨(some 30), (.q (.load false 1 (.tmp 29))), none⟩, ⟨(some 31), (.s (.lit 3 1 [(.tmp 30)])), none⟩, ⟨(some 32), (.c (.fn 77) [(.tmp 31)]), none⟩, ⟨(some 33), (.q (.build [(.str (B [])), (.str (B []))] [(0, (1, (.const (.str (B [114, 111, 108, 108, 98, 97, 99, 107]))))), (1, (1, (.tmp 32)))])), none⟩, ⟨(some 34), (.s (.lit 80 2 [(.tmp 8), (.tmp 13), (.tmp 18), (.tmp 23), (.tmp 28), (.tmp 33)])), none⟩, ⟨(some 35), (.q (.build [(.str (B [])), .nils, .nils] [(0, (1, (.tmp 4))), (1, (1, (.tmp 34)))])), none⟩, ⟨none, (.s (.store 3 (.tmp 2) (.tmp 35))), none⟩]) .ret))
theorem t37 : Told Tryd.prog 37 36 c37 [(.cell 2 true 3)] := ⟨Tryd.f37, _, [], Tryd.func37, rfl, by kernel_rfl, rfl, by kernel_rfl, by kernel_rfl⟩
def c40 : ACode := 
    (.seq 
    (.region [⟨(some 2), (.s (.box 54 (.tmp 0))), none⟩, ⟨(some 4), (.q (.move (.const (.bool false)))), none⟩]) 
    (.seq 
    (.region [⟨(some 5), (.q (.fieldAddr 1 (.tmp 2))), none⟩, ⟨(some 6), (.q (.load false 1 (.tmp 5))), none⟩, ⟨(some 7), (.q (.move (.tmp 1))), none⟩, ⟨(some 8), (.s (.call 53 [(.tmp 6), (.tmp 7)])), none⟩, ⟨(some 4), (.q (.move (.tmp 8))), none⟩]) .ret))
theorem t40 : Told Tryd.prog 40 9 c40 [(.tmp 4)] := ⟨Tryd.f40, _, [], Tryd.func40, rfl, by kernel_rfl, rfl, by kernel_rfl, by kernel_rfl⟩
def c75 : ACode := 
    (.seq 
    (.region [⟨(some 4), (.q (.move (.const (.bool false)))), none⟩]) 
    (.seq 
    (.seq 
    (.region [⟨(some 5), (.q (.move (.const (.int .i64 0)))), none⟩]) 
    (.block 0 
    (.loop 
    (.seq 
    (.seq 
    (.region [⟨(some 6), (.q (.move (.tmp 5))), none⟩, ⟨(some 7), (.q (.move (.tmp 0))), none⟩, ⟨(some 8), (.q (.len false (.tmp 7))), none⟩, ⟨(some 9), (.q (.bin .lss (.tmp 6) (.tmp 8))), none⟩]) 
    (.cond (.tmp 9) .skip (.exit 0))) 
    (.seq 
    (.block 1 
    (.seq 
    (.region [⟨(some 12), (.q (.move (.tmp 0))), none⟩, ⟨(some 13), (.q (.move (.tmp 5))), none⟩, ⟨(some 14), (.q (.idxSl 1 (.tmp 12) (.tmp 13))), none⟩, ⟨(some 15), (.q (.load false 1 (.tmp 14))), none⟩, ⟨(some 16), (.q (.move (.tmp 1))), none⟩, ⟨(some 17), (.q (.bin .eql (.tmp 15) (.tmp 16))), none⟩]) 
    (.cond (.tmp 17) 
    (.seq 
    (.region [⟨(some 4), (.q (.move (.const (.bool true)))), none⟩]) .ret) .skip))) 
    (.region [⟨(some 10), (.q (.move (.tmp 5))), none⟩, ⟨(some 11), (.q (.bin .add (.tmp 10) (.const (.int .i64 1)))), none⟩, ⟨(some 5), (.q (.move (.tmp 11))), none⟩])))))) 
    (.seq 
    (.region [⟨(some 4), (.q (.move (.const (.bool false)))), none⟩]) .ret)))
theorem t75 : Told Tryd.prog 75 18 c75 [(.tmp 4)] := ⟨Tryd.f75, _, [], Tryd.func75, rfl, by kernel_rfl, rfl, by kernel_rfl, by kernel_rfl⟩
def c79 : ACode := 
    (.seq 
    (.region [⟨(some 4), (.s (.alloc 80 [(.str (B [])), (.str (B []))])), none⟩]) 
    (.seq 
    (.seq 
    (.region [⟨(some 5), (.q (.move (.const (.int .i64 0)))), none⟩]) 
    (.block 0 
    (.loop 
    (.seq 
    (.seq 
    (.region [⟨(some 6), (.q (.move (.tmp 5))), none⟩, ⟨(some 7), (.q (.move (.tmp 1))), none⟩, ⟨(some 8), (.q (.len true (.tmp 7))), none⟩, ⟨(some 9), (.q (.bin .lss (.tmp 6) (.tmp 8))), none⟩]) 
    (.cond (.tmp 9) .skip (.exit 0))) 
    (.seq 
    (.block 1 
    (.seq 
    (.region [⟨(some 12), (.q (.move (.tmp 1))), none⟩, ⟨(some 13), (.q (.move (.tmp 5))), none⟩, ⟨(some 14), (.q (.idxStr (.tmp 12) (.tmp 13))), none⟩, ⟨(some 15), (.q (.bin .eql (.tmp 14) (.const (.int .u8 0)))), none⟩]) 
    (.cond (.tmp 15) 
    (.seq 
    (.region [⟨(some 16), (.q (.move (.tmp 0))), none⟩, ⟨(some 17), (.q (.move (.tmp 1))), none⟩, ⟨(some 18), (.q (.move (.tmp 5))), none⟩, ⟨(some 19), (.q (.bin .add (.tmp 18) (.const (.int .i64 1)))), none⟩, ⟨(some 20), (.q (.sliceStr (.tmp 17) none (some (.tmp 19)))), none⟩, ⟨(some 21), (.q (.build [(.str (B [])), (.str (B []))] [(0, (1, (.tmp 16))), (1, (1, (.tmp 20)))])), none⟩, ⟨none, (.s (.store 2 (.tmp 4) (.tmp 21))), none⟩]) .ret) .skip))) 
    (.region [⟨(some 10), (.q (.move (.tmp 5))), none⟩, ⟨(some 11), (.q (.bin .add (.tmp 10) (.const (.int .i64 1)))), none⟩, ⟨(some 5), (.q (.move (.tmp 11))), none⟩])))))) 
    (.seq 
    (.region [⟨(some 22), (.q (.move (.tmp 0))), none⟩, ⟨(some 23), (.q (.move (.tmp 1))), none⟩, ⟨(some 24), (.q (.bin .add (.tmp 23) (.const (.str (B [0]))))), none⟩, ⟨(some 25), (.q (.build [(.str (B [])), (.str (B []))] [(0, (1, (.tmp 22))), (1, (1, (.tmp 24)))])), none⟩, ⟨none, (.s (.store 2 (.tmp 4) (.tmp 25))), none⟩]) .ret)))
theorem t79 : Told Tryd.prog 79 26 c79 [(.cell 4 true 2)] := ⟨Tryd.f79, _, [], Tryd.func79, rfl, by kernel_rfl, rfl, by kernel_rfl, by kernel_rfl⟩
def c33 : ACode := 
    (.seq 
    (.region [⟨(some 1), (.s (.box 34 (.tmp 0))), none⟩, ⟨(some 2), (.s (.alloc 54 [(.str (B [])), .nils, (.str (B [])), (.str (B [])), (.str (B [])), (.int .i64 0), (.int .i64 0)])), none⟩, ⟨(some 3), (.q (.move (.const (.int .i64 0)))), none⟩]) 
    (.seq 
    (.region [⟨(some 19), (.q (.load true 3 (.tmp 1))), none⟩, ⟨(some 20), (.s (.call 24 [(.tmp 19), (.const (.str (B [99, 111, 109, 112, 97, 116, 105, 98, 108, 101])))])), none⟩, ⟨(some 18), (.q (.move (.tmp 20))), none⟩, ⟨(some 21), (.q (.extract 0 (.tmp 18))), none⟩, ⟨(some 22), (.q (.extract 1 (.tmp 18))), none⟩, ⟨(some 4), (.q (.move (.tmp 21))), none⟩, ⟨(some 5), (.q (.move (.tmp 22))), none⟩]) 
    (.seq 
    (.region [⟨(some 24), (.q (.move (.tmp 4))), none⟩, ⟨(some 25), (.s (.call 71 [(.tmp 24)])), none⟩, ⟨(some 23), (.q (.move (.tmp 25))), none⟩, ⟨(some 26), (.q (.extract 0 (.tmp 23))), none⟩, ⟨(some 27), (.q (.extract 1 (.tmp 23))), none⟩, ⟨(some 6), (.q (.move (.tmp 26))), none⟩, ⟨(some 7), (.q (.move (.tmp 27))), none⟩]) 
    (.seq 
    (.region [⟨(some 29), (.q (.load true 3 (.tmp 1))), none⟩, ⟨(some 30), (.s (.call 26 [(.tmp 29), (.const (.str (B [47]))), (.const (.str (B [107, 101, 114, 110, 101, 108])))])), none⟩, ⟨(some 28), (.q (.move (.tmp 30))), none⟩, ⟨(some 31), (.q (.extract 0 (.tmp 28))), none⟩, ⟨(some 32), (.q (.extract 1 (.tmp 28))), none⟩, ⟨(some 8), (.q (.move (.tmp 31))), none⟩, ⟨(some 9), (.q (.move (.tmp 32))), none⟩]) 
    (.seq 
    (.region [⟨(some 34), (.q (.load true 3 (.tmp 1))), none⟩, ⟨(some 35), (.s (.call 26 [(.tmp 34), (.const (.str (B [47]))), (.const (.str (B [114, 97, 109, 100, 105, 115, 107])))])), none⟩, ⟨(some 33), (.q (.move (.tmp 35))), none⟩, ⟨(some 36), (.q (.extract 0 (.tmp 33))), none⟩, ⟨(some 37), (.q (.extract 1 (.tmp 33))), none⟩, ⟨(some 10), (.q (.move (.tmp 36))), none⟩, ⟨(some 11), (.q (.move (.tmp 37))), none⟩]) 
    (.seq 
    (.region [⟨(some 39), (.q (.load true 3 (.tmp 1))), none⟩, ⟨(some 40), (.s (.call 26 [(.tmp 39), (.const (.str (B [47]))), (.const (.str (B [102, 100, 116])))])), none⟩, ⟨(some 38), (.q (.move (.tmp 40))), none⟩, ⟨(some 41), (.q (.extract 0 (.tmp 38))), none⟩, ⟨(some 42), (.q (.extract 1 (.tmp 38))), none⟩, ⟨(some 12), (.q (.move (.tmp 41))), none⟩, ⟨(some 13), (.q (.move (.tmp 42))), none⟩]) 
    (.seq 
    (.region [⟨(some 44), (.q (.load true 3 (.tmp 1))), none⟩, ⟨(some 45), (.s (.call 28 [(.tmp 44), (.const (.str (B [47]))), (.const (.str (B [118, 101, 114, 115, 105, 111, 110])))])), none⟩, ⟨(some 43), (.q (.move (.tmp 45))), none⟩, ⟨(some 46), (.q (.extract 0 (.tmp 43))), none⟩, ⟨(some 47), (.q (.extract 1 (.tmp 43))), none⟩, ⟨(some 14), (.q (.move (.tmp 46))), none⟩, ⟨(some 15), (.q (.move (.tmp 47))), none⟩]) 
    (.seq 
    (.region [⟨(some 49), (.q (.load true 3 (.tmp 1))), none⟩, ⟨(some 50), (.s (.call 28 [(.tmp 49), (.const (.str (B [47]))), (.const (.str (B [114, 111, 108, 108, 98, 97, 99, 107])))])), none⟩, ⟨(some 48), (.q (.move (.tmp 50))), none⟩, ⟨(some 51), (.q (.extract 0 (.tmp 48))), none⟩, ⟨(some 52), (.q (.extract 1 (.tmp 48))), none⟩, ⟨(some 16), (.q (.move (.tmp 51))), none⟩, ⟨(some 17), (.q (.move (.tmp 52))), none⟩]) 
    (.seq 
    (.seq 
    (.region [⟨(some 53), (.q (.move (.tmp 5))), none⟩, ⟨(some 54), (.q (.un .not (.tmp 53))), none⟩, ⟨(some 55), (.q (.move (.tmp 54))), none⟩, ⟨(some 56), (.q (.move (.tmp 7))), (some (55, false))⟩, ⟨(some 57), (.q (.un .not (.tmp 56))), (some (55, false))⟩, ⟨(some 58), (.q (.pick (.tmp 55) (.const (.bool true)) (.tmp 57))), none⟩, ⟨(some 59), (.q (.move (.tmp 58))), none⟩, ⟨(some 60), (.q (.move (.tmp 9))), (some (59, false))⟩, ⟨(some 61), (.q (.un .not (.tmp 60))), (some (59, false))⟩, ⟨(some 62), (.q (.pick (.tmp 59) (.const (.bool true)) (.tmp 61))), none⟩, ⟨(some 63), (.q (.move (.tmp 62))), none⟩, ⟨(some 64), (.q (.move (.tmp 11))), (some (63, false))⟩, ⟨(some 65), (.q (.un .not (.tmp 64))), (some (63, false))⟩, ⟨(some 66), (.q (.pick (.tmp 63) (.const (.bool true)) (.tmp 65))), none⟩, ⟨(some 67), (.q (.move (.tmp 66))), none⟩, ⟨(some 68), (.q (.move (.tmp 13))), (some (67, false))⟩, ⟨(some 69), (.q (.un .not (.tmp 68))), (some (67, false))⟩, ⟨(some 70), (.q (.pick (.tmp 67) (.const (.bool true)) (.tmp 69))), none⟩, ⟨(some 71), (.q (.move (.tmp 70))), none⟩, ⟨(some 72), (.q (.move (.tmp 15))), (some (71, false))⟩, ⟨(some 73), (.q (.un .not (.tmp 72))), (some (71, false))⟩, ⟨(some 74), (.q (.pick (.tmp 71) (.const (.bool true)) (.tmp 73))), none⟩, ⟨(some 75), (.q (.move (.tmp 74))), none⟩, ⟨(some 76), (.q (.move (.tmp 17))), (some (75, false))⟩, ⟨(some 77), (.q (.un .not (.tmp 76))), (some (75, false))⟩, ⟨(some 78), (.q (.pick (.tmp 75) (.const (.bool true)) (.tmp 77))), none⟩, ⟨(some 79), (.q (.move (.tmp 78))), none⟩, ⟨(some 80), (.q (.move (.tmp 8))), (some (79, false))⟩, ⟨(some 81), (.q (.bin .eql (.tmp 80) (.const (.str (B []))))), (some (79, false))⟩, ⟨(some 82), (.q (.pick (.tmp 79) (.const (.bool true)) (.tmp 81))), none⟩, ⟨(some 83), (.q (.move (.tmp 82))), none⟩, ⟨(some 84), (.q (.move (.tmp 10))), (some (83, false))⟩, ⟨(some 85), (.q (.bin .eql (.tmp 84) (.const (.str (B []))))), (some (83, false))⟩, ⟨(some 86), (.q (.pick (.tmp 83) (.const (.bool true)) (.tmp 85))), none⟩, ⟨(some 87), (.q (.move (.tmp 86))), none⟩, ⟨(some 88), (.q (.move (.tmp 12))), (some (87, false))⟩, ⟨(some 89), (.q (.bin .eql (.tmp 88) (.const (.str (B []))))), (some (87, false))⟩, ⟨(some 90), (.q (.pick (.tmp 87) (.const (.bool true)) (.tmp 89))), none⟩]) 
    (.cond (.tmp 90) 
    (.seq 
    (.region [⟨(some 91), (.q (.build [(.str (B [])), .nils, (.str (B [])), (.str (B [])), (.str (B [])), (.int .i64 0), (.int .i64 0)] [])), none⟩, ⟨none, (.s (.store 7 (.tmp 2) (.tmp 91))), none⟩, ⟨(some 3), (.q (.move (.const (.int .i64 6)))), none⟩]) .ret) .skip)) 
    (.seq 
    (.region [⟨(some 92), (.q (.fieldAddr 0 (.tmp 1))), none⟩, ⟨(some 93), (.q (.load false 1 (.tmp 92))), none⟩, ⟨(some 94), (.q (.move (.tmp 6))), none⟩, ⟨(some 95), (.q (.move (.tmp 8))), none⟩, ⟨(some 96), (.q (.move (.tmp 10))), none⟩, ⟨(some 97), (.q (.move (.tmp 12))), none⟩, ⟨(some 98), (.q (.move (.tmp 14))), none⟩, ⟨(some 99), (.q (.move (.tmp 16))), none⟩, ⟨(some 100), (.q (.build [(.str (B [])), .nils, (.str (B [])), (.str (B [])), (.str (B [])), (.int .i64 0), (.int .i64 0)] [(0, (1, (.tmp 93))), (1, (1, (.tmp 94))), (2, (1, (.tmp 95))), (3, (1, (.tmp 96))), (4, (1, (.tmp 97))), (5, (1, (.tmp 98))), (6, (1, (.tmp 99)))])), none⟩, ⟨none, (.s (.store 7 (.tmp 2) (.tmp 100))), none⟩, ⟨(some 3), (.q (.move (.const (.int .i64 0)))), none⟩]) .ret))))))))))
theorem t33 : Told Tryd.prog 33 101 c33 [(.cell 2 true 7), (.tmp 3)] := ⟨Tryd.f33, _, [], Tryd.func33, rfl, by kernel_rfl, rfl, by kernel_rfl, by kernel_rfl⟩
def c35 : ACode := 
    (.seq 
    (.region [⟨(some 6), (.s (.alloc 54 [(.str (B [])), .nils, (.str (B [])), (.str (B [])), (.str (B [])), (.int .i64 0), (.int .i64 0)])), none⟩, ⟨(some 7), (.q (.move (.const (.int .i64 0)))), none⟩]) 
    (.seq 
    (.region [⟨(some 8), (.q (.move (.const (.int .i64 (-1))))), none⟩]) 
    (.seq 
    (.seq 
    (.region [⟨(some 9), (.q (.move (.const (.int .i64 0)))), none⟩]) 
    (.block 0 
    (.loop 
    (.seq 
    (.seq 
    (.region [⟨(some 11), (.q (.move (.tmp 9))), none⟩, ⟨(some 12), (.q (.move (.tmp 0))), none⟩, ⟨(some 13), (.q (.len false (.tmp 12))), none⟩, ⟨(some 14), (.q (.bin .lss (.tmp 11) (.tmp 13))), none⟩, ⟨(some 15), (.q (.move (.tmp 14))), none⟩, ⟨(some 16), (.q (.move (.tmp 8))), (some (15, true))⟩, ⟨(some 17), (.q (.bin .lss (.tmp 16) (.const (.int .i64 0)))), (some (15, true))⟩, ⟨(some 18), (.q (.pick (.tmp 15) (.tmp 17) (.const (.bool false)))), none⟩]) 
    (.cond (.tmp 18) .skip (.exit 0))) 
    (.seq 
    (.block 1 
    (.seq 
    (.region [⟨(some 21), (.q (.move (.tmp 0))), none⟩, ⟨(some 22), (.q (.move (.tmp 9))), none⟩, ⟨(some 23), (.q (.idxSl 7 (.tmp 21) (.tmp 22))), none⟩, ⟨(some 24), (.q (.fieldAddr 0 (.tmp 23))), none⟩, ⟨(some 25), (.q (.load false 1 (.tmp 24))), none⟩, ⟨(some 26), (.q (.move (.tmp 1))), none⟩, ⟨(some 27), (.q (.bin .eql (.tmp 25) (.tmp 26))), none⟩]) 
    (.cond (.tmp 27) 
    (.region [⟨(some 28), (.q (.move (.tmp 9))), none⟩, ⟨(some 8), (.q (.move (.tmp 28))), none⟩]) .skip))) 
    (.region [⟨(some 19), (.q (.move (.tmp 9))), none⟩, ⟨(some 20), (.q (.bin .add (.tmp 19) (.const (.int .i64 1)))), none⟩, ⟨(some 9), (.q (.move (.tmp 20))), none⟩])))))) 
    (.seq 
    (.seq 
    (.region [⟨(some 29), (.q (.move (.tmp 8))), none⟩, ⟨(some 30), (.q (.bin .lss (.tmp 29) (.const (.int .i64 0)))), none⟩]) 
    (.cond (.tmp 30) 
    (.seq 
    (.region [⟨(some 31), (.q (.build [(.str (B [])), .nils, (.str (B [])), (.str (B [])), (.str (B [])), (.int .i64 0), (.int .i64 0)] [])), none⟩, ⟨none, (.s (.store 7 (.tmp 6) (.tmp 31))), none⟩, ⟨(some 7), (.q (.move (.const (.int .i64 8)))), none⟩]) .ret) .skip)) 
    (.seq 
    (.seq 
    (.region [⟨(some 32), (.q (.move (.tmp 0))), none⟩, ⟨(some 33), (.q (.move (.tmp 8))), none⟩, ⟨(some 34), (.q (.idxSl 7 (.tmp 32) (.tmp 33))), none⟩, ⟨(some 35), (.q (.fieldAddr 1 (.tmp 34))), none⟩, ⟨(some 36), (.q (.load false 1 (.tmp 35))), none⟩, ⟨(some 37), (.q (.move (.tmp 2))), none⟩, ⟨(some 38), (.s (.call 75 [(.tmp 36), (.tmp 37)])), none⟩]) 
    (.cond (.tmp 38) 
    (.seq 
    (.region [⟨(some 39), (.q (.move (.tmp 0))), none⟩, ⟨(some 40), (.q (.move (.tmp 8))), none⟩, ⟨(some 41), (.q (.idxSl 7 (.tmp 39) (.tmp 40))), none⟩, ⟨(some 42), (.q (.load true 7 (.tmp 41))), none⟩, ⟨none, (.s (.store 7 (.tmp 6) (.tmp 42))), none⟩, ⟨(some 7), (.q (.move (.const (.int .i64 0)))), none⟩]) .ret) .skip)) 
    (.seq 
    (.seq 
    (.region [⟨(some 10), (.q (.move (.const (.int .i64 0)))), none⟩]) 
    (.block 2 
    (.loop 
    (.seq 
    (.seq 
    (.region [⟨(some 43), (.q (.move (.tmp 10))), none⟩, ⟨(some 44), (.q (.move (.tmp 0))), none⟩, ⟨(some 45), (.q (.len false (.tmp 44))), none⟩, ⟨(some 46), (.q (.bin .lss (.tmp 43) (.tmp 45))), none⟩]) 
    (.cond (.tmp 46) .skip (.exit 2))) 
    (.seq 
    (.block 3 
    (.seq 
    (.region [⟨(some 49), (.q (.move (.tmp 0))), none⟩, ⟨(some 50), (.q (.move (.tmp 10))), none⟩, ⟨(some 51), (.q (.idxSl 7 (.tmp 49) (.tmp 50))), none⟩, ⟨(some 52), (.q (.fieldAddr 1 (.tmp 51))), none⟩, ⟨(some 53), (.q (.load false 1 (.tmp 52))), none⟩, ⟨(some 54), (.q (.move (.tmp 2))), none⟩, ⟨(some 55), (.s (.call 75 [(.tmp 53), (.tmp 54)])), none⟩]) 
    (.cond (.tmp 55) 
    (.seq 
    (.region [⟨(some 56), (.q (.move (.tmp 0))), none⟩, ⟨(some 57), (.q (.move (.tmp 10))), none⟩, ⟨(some 58), (.q (.idxSl 7 (.tmp 56) (.tmp 57))), none⟩, ⟨(some 59), (.q (.load true 7 (.tmp 58))), none⟩, ⟨none, (.s (.store 7 (.tmp 6) (.tmp 59))), none⟩, ⟨(some 7), (.q (.move (.const (.int .i64 0)))), none⟩]) .ret) .skip))) 
    (.region [⟨(some 47), (.q (.move (.tmp 10))), none⟩, ⟨(some 48), (.q (.bin .add (.tmp 47) (.const (.int .i64 1)))), none⟩, ⟨(some 10), (.q (.move (.tmp 48))), none⟩])))))) 
    (.seq 
    (.region [⟨(some 60), (.q (.build [(.str (B [])), .nils, (.str (B [])), (.str (B [])), (.str (B [])), (.int .i64 0), (.int .i64 0)] [])), none⟩, ⟨none, (.s (.store 7 (.tmp 6) (.tmp 60))), none⟩, ⟨(some 7), (.q (.move (.const (.int .i64 11)))), none⟩]) .ret)))))))
theorem t35 : Told Tryd.prog 35 61 c35 [(.cell 6 true 7), (.tmp 7)] := ⟨Tryd.f35, _, [], Tryd.func35, rfl, by kernel_rfl, rfl, by kernel_rfl, by kernel_rfl⟩
def c36 : ACode := 
    (.seq 
    (.region [⟨(some 2), (.s (.box 54 (.tmp 0))), none⟩, ⟨(some 3), (.s (.box 54 (.tmp 1))), none⟩, ⟨(some 4), (.q (.move (.const (.bool false)))), none⟩]) 
    (.seq 
    (.region [⟨(some 5), (.q (.fieldAddr 0 (.tmp 2))), none⟩, ⟨(some 6), (.q (.load false 1 (.tmp 5))), none⟩, ⟨(some 7), (.q (.fieldAddr 0 (.tmp 3))), none⟩, ⟨(some 8), (.q (.load false 1 (.tmp 7))), none⟩, ⟨(some 9), (.q (.bin .eql (.tmp 6) (.tmp 8))), none⟩, ⟨(some 10), (.q (.move (.tmp 9))), none⟩, ⟨(some 11), (.q (.fieldAddr 1 (.tmp 2))), (some (10, true))⟩, ⟨(some 12), (.q (.load false 1 (.tmp 11))), (some (10, true))⟩, ⟨(some 13), (.q (.fieldAddr 1 (.tmp 3))), (some (10, true))⟩, ⟨(some 14), (.q (.load false 1 (.tmp 13))), (some (10, true))⟩, ⟨(some 15), (.s (.call 14 [(.tmp 12), (.tmp 14)])), (some (10, true))⟩, ⟨(some 16), (.q (.pick (.tmp 10) (.tmp 15) (.const (.bool false)))), none⟩, ⟨(some 17), (.q (.move (.tmp 16))), none⟩, ⟨(some 18), (.q (.fieldAddr 2 (.tmp 2))), (some (17, true))⟩, ⟨(some 19), (.q (.load false 1 (.tmp 18))), (some (17, true))⟩, ⟨(some 20), (.q (.fieldAddr 2 (.tmp 3))), (some (17, true))⟩, ⟨(some 21), (.q (.load false 1 (.tmp 20))), (some (17, true))⟩, ⟨(some 22), (.q (.bin .eql (.tmp 19) (.tmp 21))), (some (17, true))⟩, ⟨(some 23), (.q (.pick (.tmp 17) (.tmp 22) (.const (.bool false)))), none⟩, ⟨(some 24), (.q (.move (.tmp 23))), none⟩, ⟨(some 25), (.q (.fieldAddr 3 (.tmp 2))), (some (24, true))⟩, ⟨(some 26), (.q (.load false 1 (.tmp 25))), (some (24, true))⟩, ⟨(some 27), (.q (.fieldAddr 3 (.tmp 3))), (some (24, true))⟩, ⟨(some 28), (.q (.load false 1 (.tmp 27))), (some (24, true))⟩, ⟨(some 29), (.q (.bin .eql (.tmp 26) (.tmp 28))), (some (24, true))⟩, ⟨(some 30), (.q (.pick (.tmp 24) (.tmp 29) (.const (.bool false)))), none⟩, ⟨(some 31), (.q (.move (.tmp 30))), none⟩, ⟨(some 32), (.q (.fieldAddr 4 (.tmp 2))), (some (31, true))⟩, ⟨(some 33), (.q (.load false 1 (.tmp 32))), (some (31, true))⟩, ⟨(some 34), (.q (.fieldAddr 4 (.tmp 3))), (some (31, true))⟩, ⟨(some 35), (.q (.load false 1 (.tmp 34))), (some (31, true))⟩, ⟨(some 36), (.q (.bin .eql (.tmp 33) (.tmp 35))), (some (31, true))⟩, ⟨(some 37), (.q (.pick (.tmp 31) (.tmp 36) (.const (.bool false)))), none⟩, ⟨(some 38), (.q (.move (.tmp 37))), none⟩, ⟨(some 39), (.q (.fieldAddr 5 (.tmp 2))), (some (38, true))⟩, ⟨(some 40), (.q (.load false 1 (.tmp 39))), (some (38, true))⟩, ⟨(some 41), (.q (.fieldAddr 5 (.tmp 3))), (some (38, true))⟩, ⟨(some 42), (.q (.load false 1 (.tmp 41))), (some (38, true))⟩, ⟨(some 43), (.q (.bin .eql (.tmp 40) (.tmp 42))), (some (38, true))⟩, ⟨(some 44), (.q (.pick (.tmp 38) (.tmp 43) (.const (.bool false)))), none⟩, ⟨(some 45), (.q (.move (.tmp 44))), none⟩, ⟨(some 46), (.q (.fieldAddr 6 (.tmp 2))), (some (45, true))⟩, ⟨(some 47), (.q (.load false 1 (.tmp 46))), (some (45, true))⟩, ⟨(some 48), (.q (.fieldAddr 6 (.tmp 3))), (some (45, true))⟩, ⟨(some 49), (.q (.load false 1 (.tmp 48))), (some (45, true))⟩, ⟨(some 50), (.q (.bin .eql (.tmp 47) (.tmp 49))), (some (45, true))⟩, ⟨(some 51), (.q (.pick (.tmp 45) (.tmp 50) (.const (.bool false)))), none⟩, ⟨(some 4), (.q (.move (.tmp 51))), none⟩]) .ret))
theorem t36 : Told Tryd.prog 36 52 c36 [(.tmp 4)] := ⟨Tryd.f36, _, [], Tryd.func36, rfl, by kernel_rfl, rfl, by kernel_rfl, by kernel_rfl⟩
def c38 : ACode := 
    (.seq 
    (.region [⟨(some 1), (.s (.box 54 (.tmp 0))), none⟩, ⟨(some 2), (.s (.alloc 34 [(.str (B [])), .nils, .nils])), none⟩]) 
    (.seq 
    (.region [⟨(some 3), (.q (.fieldAddr 0 (.tmp 1))), none⟩, ⟨(some 4), (.q (.load false 1 (.tmp 3))), none⟩, ⟨(some 5), (.q (.fieldAddr 1 (.tmp 1))), none⟩, ⟨(some 6), (.q (.load false 1 (.tmp 5))), none⟩, ⟨(some 7), (.c (.fn 78) [(.tmp 6)]), none⟩, ⟨(some 8), (.q (.build [(.str (B [])), (.str (B []))] [(0, (1, (.const (.str (B [99, 111, 109, 112, 97, 116, 105, 98, 108, 101]))))), (1, (1, (.tmp 7)))])), none⟩, ⟨(some 9), (.q (.fieldAddr 2 (.tmp 1))), none⟩, ⟨(some 10), (.q (.load false 1 (.tmp 9))), none⟩, ⟨(some 11), (.c (.fn 79) [(.const (.str (B [107, 101, 114, 110, 101, 108]))), (.tmp 10)]), none⟩, ⟨(some 12), (.q (.fieldAddr 3 (.tmp 1))), none⟩, ⟨(some 13), (.q (.load false 1 (.tmp 12))), none⟩, ⟨(some 14), (.c (.fn 79) [(.const (.str (B [114, 97, 109, 100, 105, 115, 107]))), (.tmp 13)]), none⟩, ⟨(some 15), (.q (.fieldAddr 4 (.tmp 1))), none⟩, ⟨(some 16), (.q (.load false 1 (.tmp 15))), none⟩, ⟨(some 17), (.c (.fn 79) [(.const (.str (B [102, 100, 116]))), (.tmp 16)]), none⟩, ⟨(some 18), (.q (.fieldAddr 5 (.tmp 1))), none⟩, ⟨(some 19), (.q (.load false 1 (.tmp 18))), none⟩, ⟨(some 20), (.c (.fn 80) [(.tmp 19)]), none⟩, ⟨(some 21), (.q (.build [(.str (B [])), (.str (B []))] [(0, (1, (.const (.str (B [118, 101, 114, 115, 105, 111, 110]))))), (1, (1, (.tmp 20)))])), none⟩, ⟨(some 22), (.q (.fieldAddr 6 (.tmp 1))), none⟩, ⟨(some 23), (.q (.load false 1 (.tmp 22))), none⟩, ⟨(some 24), (.c (.fn 80) [(.tmp 23)]), none⟩, ⟨(some 25), (.q (.build [(.str (B [])), (.str (B []))] [(0, (1, (.const (.str (B [114, 111, 108, 108, 98, 97, 99, 107]))))), (1, (1, (.tmp 24)))])), none⟩, ⟨(some 26), (.s (.lit 80 2 [(.tmp 8), (.tmp 11), (.tmp 14), (.tmp 17), (.tmp 21), (.tmp 25)])), none⟩, ⟨(some 27), (.q (.build [(.str (B [])), .nils, .nils] [(0, (1, (.tmp 4))), (1, (1, (.tmp 26)))])), none⟩, ⟨none, (.s (.store 3 (.tmp 2) (.tmp 27))), none⟩]) .ret))
theorem t38 : Told Tryd.prog 38 28 c38 [(.cell 2 true 3)] := ⟨Tryd.f38, _, [], Tryd.func38, rfl, by kernel_rfl, rfl, by kernel_rfl, by kernel_rfl⟩
def c30 : ACode := 
    (.seq 
    (.region [⟨(some 2), (.q (.move (.const (.bool false)))), none⟩]) 
    (.seq 
    (.seq 
    (.region [⟨(some 3), (.q (.move (.const (.int .i64 0)))), none⟩]) 
    (.block 0 
    (.loop 
    (.seq 
    (.seq 
    (.region [⟨(some 6), (.q (.move (.tmp 3))), none⟩, ⟨(some 7), (.q (.move (.tmp 0))), none⟩, ⟨(some 8), (.q (.len false (.tmp 7))), none⟩, ⟨(some 9), (.q (.bin .lss (.tmp 6) (.tmp 8))), none⟩, ⟨(some 10), (.q (.move (.tmp 9))), none⟩, ⟨(some 11), (.q (.move (.tmp 3))), (some (10, true))⟩, ⟨(some 12), (.q (.bin .lss (.tmp 11) (.const (.int .i64 10)))), (some (10, true))⟩, ⟨(some 13), (.q (.pick (.tmp 10) (.tmp 12) (.const (.bool false)))), none⟩]) 
    (.cond (.tmp 13) .skip (.exit 0))) 
    (.seq 
    (.block 1 
    (.seq 
    (.region [⟨(some 16), (.q (.move (.tmp 0))), none⟩, ⟨(some 17), (.q (.move (.tmp 3))), none⟩, ⟨(some 18), (.q (.idxSl 7 (.tmp 16) (.tmp 17))), none⟩, ⟨(some 19), (.q (.load true 7 (.tmp 18))), none⟩, ⟨(some 4), (.s (.alloc 54 [(.str (B [])), .nils, (.str (B [])), (.str (B [])), (.str (B [])), (.int .i64 0), (.int .i64 0)])), none⟩, ⟨none, (.s (.store 7 (.tmp 4) (.tmp 19))), none⟩]) 
    (.seq 
    (.seq 
    (.region [⟨(some 20), (.q (.fieldAddr 1 (.tmp 4))), none⟩, ⟨(some 21), (.q (.load false 1 (.tmp 20))), none⟩, ⟨(some 22), (.q (.len false (.tmp 21))), none⟩, ⟨(some 23), (.q (.bin .gtr (.tmp 22) (.const (.int .i64 10)))), none⟩, ⟨(some 24), (.q (.move (.tmp 23))), none⟩, ⟨(some 25), (.q (.fieldAddr 0 (.tmp 4))), (some (24, false))⟩, ⟨(some 26), (.q (.load false 1 (.tmp 25))), (some (24, false))⟩, ⟨(some 27), (.q (.len true (.tmp 26))), (some (24, false))⟩, ⟨(some 28), (.q (.bin .gtr (.tmp 27) (.const (.int .i64 100)))), (some (24, false))⟩, ⟨(some 29), (.q (.pick (.tmp 24) (.const (.bool true)) (.tmp 28))), none⟩, ⟨(some 30), (.q (.move (.tmp 29))), none⟩, ⟨(some 31), (.q (.fieldAddr 2 (.tmp 4))), (some (30, false))⟩, ⟨(some 32), (.q (.load false 1 (.tmp 31))), (some (30, false))⟩, ⟨(some 33), (.q (.len true (.tmp 32))), (some (30, false))⟩, ⟨(some 34), (.q (.bin .gtr (.tmp 33) (.const (.int .i64 100)))), (some (30, false))⟩, ⟨(some 35), (.q (.pick (.tmp 30) (.const (.bool true)) (.tmp 34))), none⟩, ⟨(some 36), (.q (.move (.tmp 35))), none⟩, ⟨(some 37), (.q (.fieldAddr 3 (.tmp 4))), (some (36, false))⟩, ⟨(some 38), (.q (.load false 1 (.tmp 37))), (some (36, false))⟩, ⟨(some 39), (.q (.len true (.tmp 38))), (some (36, false))⟩, ⟨(some 40), (.q (.bin .gtr (.tmp 39) (.const (.int .i64 100)))), (some (36, false))⟩, ⟨(some 41), (.q (.pick (.tmp 36) (.const (.bool true)) (.tmp 40))), none⟩, ⟨(some 42), (.q (.move (.tmp 41))), none⟩, ⟨(some 43), (.q (.fieldAddr 4 (.tmp 4))), (some (42, false))⟩, ⟨(some 44), (.q (.load false 1 (.tmp 43))), (some (42, false))⟩, ⟨(some 45), (.q (.len true (.tmp 44))), (some (42, false))⟩, ⟨(some 46), (.q (.bin .gtr (.tmp 45) (.const (.int .i64 100)))), (some (42, false))⟩, ⟨(some 47), (.q (.pick (.tmp 42) (.const (.bool true)) (.tmp 46))), none⟩]) 
    (.cond (.tmp 47) 
    (.seq 
    (.region [⟨(some 2), (.q (.move (.const (.bool false)))), none⟩]) .ret) .skip)) 
    (.seq 
    (.region [⟨(some 5), (.q (.move (.const (.int .i64 0)))), none⟩]) 
    (.block 2 
    (.loop 
    (.seq 
    (.seq 
    (.region [⟨(some 48), (.q (.move (.tmp 5))), none⟩, ⟨(some 49), (.q (.fieldAddr 1 (.tmp 4))), none⟩, ⟨(some 50), (.q (.load false 1 (.tmp 49))), none⟩, ⟨(some 51), (.q (.len false (.tmp 50))), none⟩, ⟨(some 52), (.q (.bin .lss (.tmp 48) (.tmp 51))), none⟩]) 
    (.cond (.tmp 52) .skip (.exit 2))) 
    (.seq 
    (.block 3 
    (.seq 
    (.region [⟨(some 55), (.q (.fieldAddr 1 (.tmp 4))), none⟩, ⟨(some 56), (.q (.load false 1 (.tmp 55))), none⟩, ⟨(some 57), (.q (.move (.tmp 5))), none⟩, ⟨(some 58), (.q (.idxSl 1 (.tmp 56) (.tmp 57))), none⟩, ⟨(some 59), (.q (.load false 1 (.tmp 58))), none⟩, ⟨(some 60), (.q (.len true (.tmp 59))), none⟩, ⟨(some 61), (.q (.bin .gtr (.tmp 60) (.const (.int .i64 100)))), none⟩]) 
    (.cond (.tmp 61) 
    (.seq 
    (.region [⟨(some 2), (.q (.move (.const (.bool false)))), none⟩]) .ret) .skip))) 
    (.region [⟨(some 53), (.q (.move (.tmp 5))), none⟩, ⟨(some 54), (.q (.bin .add (.tmp 53) (.const (.int .i64 1)))), none⟩, ⟨(some 5), (.q (.move (.tmp 54))), none⟩]))))))))) 
    (.region [⟨(some 14), (.q (.move (.tmp 3))), none⟩, ⟨(some 15), (.q (.bin .add (.tmp 14) (.const (.int .i64 1)))), none⟩, ⟨(some 3), (.q (.move (.tmp 15))), none⟩])))))) 
    (.seq 
    (.region [⟨(some 62), (.q (.move (.tmp 0))), none⟩, ⟨(some 63), (.q (.len false (.tmp 62))), none⟩, ⟨(some 64), (.q (.bin .leq (.tmp 63) (.const (.int .i64 10)))), none⟩, ⟨(some 2), (.q (.move (.tmp 64))), none⟩]) .ret)))
theorem t30 : Told Tryd.prog 30 65 c30 [(.tmp 2)] := ⟨Tryd.f30, _, [], Tryd.func30, rfl, by kernel_rfl, rfl, by kernel_rfl, by kernel_rfl⟩
def c31 : ACode := 
    (.seq 
    (.region [⟨(some 0), (.q (.move (.const (.bool false)))), none⟩]) 
    (.seq 
    (.region [⟨(some 8), (.s (.lit 9 1 [(.const (.str (B [109]))), (.const (.str (B [110])))])), none⟩, ⟨(some 9), (.q (.build [(.str (B [])), .nils, (.str (B [])), (.str (B [])), (.str (B [])), (.int .i64 0), (.int .i64 0)] [(0, (1, (.const (.str (B [99, 111, 110, 102, 45, 49]))))), (1, (1, (.tmp 8))), (2, (1, (.const (.str (B [107]))))), (3, (1, (.const (.str (B [100]))))), (4, (1, (.const (.str (B [116]))))), (5, (1, (.const (.int .i64 5)))), (6, (1, (.const (.int .i64 1))))])), none⟩, ⟨(some 1), (.s (.alloc 54 [(.str (B [])), .nils, (.str (B [])), (.str (B [])), (.str (B [])), (.int .i64 0), (.int .i64 0)])), none⟩, ⟨none, (.s (.store 7 (.tmp 1) (.tmp 9))), none⟩]) 
    (.seq 
    (.region [⟨(some 11), (.q (.load true 7 (.tmp 1))), none⟩, ⟨(some 12), (.s (.call 37 [(.tmp 11)])), none⟩, ⟨(some 13), (.s (.call 32 [(.tmp 12)])), none⟩, ⟨(some 10), (.q (.move (.tmp 13))), none⟩, ⟨(some 14), (.q (.extract 0 (.tmp 10))), none⟩, ⟨(some 15), (.q (.extract 1 (.tmp 10))), none⟩, ⟨(some 2), (.s (.alloc 54 [(.str (B [])), .nils, (.str (B [])), (.str (B [])), (.str (B [])), (.int .i64 0), (.int .i64 0)])), none⟩, ⟨none, (.s (.store 7 (.tmp 2) (.tmp 14))), none⟩, ⟨(some 3), (.q (.move (.tmp 15))), none⟩]) 
    (.seq 
    (.region [⟨(some 17), (.q (.build [(.str (B [])), .nils, (.str (B [])), (.str (B [])), (.str (B [])), (.int .i64 0), (.int .i64 0)] [(0, (1, (.const (.str (B [117])))))])), none⟩, ⟨(some 18), (.q (.load true 7 (.tmp 1))), none⟩, ⟨(some 19), (.s (.lit 54 7 [(.tmp 17), (.tmp 18)])), none⟩, ⟨(some 20), (.s (.call 34 [(.tmp 19), (.const (.str (B [117]))), (.const (.str (B [110])))])), none⟩, ⟨(some 16), (.q (.move (.tmp 20))), none⟩, ⟨(some 21), (.q (.extract 0 (.tmp 16))), none⟩, ⟨(some 22), (.q (.extract 1 (.tmp 16))), none⟩, ⟨(some 4), (.s (.alloc 54 [(.str (B [])), .nils, (.str (B [])), (.str (B [])), (.str (B [])), (.int .i64 0), (.int .i64 0)])), none⟩, ⟨none, (.s (.store 7 (.tmp 4) (.tmp 21))), none⟩, ⟨(some 5), (.q (.move (.tmp 22))), none⟩]) 
    (.seq 
    (.region [⟨(some 24), (.q (.load true 7 (.tmp 1))), none⟩, ⟨(some 25), (.s (.lit 54 7 [(.tmp 24)])), none⟩, ⟨(some 26), (.s (.call 34 [(.tmp 25), (.const (.str (B [99, 111, 110, 102, 45, 49]))), (.const (.str (B [113])))])), none⟩, ⟨(some 23), (.q (.move (.tmp 26))), none⟩, ⟨(some 27), (.q (.extract 0 (.tmp 23))), none⟩, ⟨(some 28), (.q (.extract 1 (.tmp 23))), none⟩, ⟨(some 6), (.s (.alloc 54 [(.str (B [])), .nils, (.str (B [])), (.str (B [])), (.str (B [])), (.int .i64 0), (.int .i64 0)])), none⟩, ⟨none, (.s (.store 7 (.tmp 6) (.tmp 27))), none⟩, ⟨(some 7), (.q (.move (.tmp 28))), none⟩]) 
    (.seq 
    (.region [⟨(some 29), (.q (.load true 7 (.tmp 2))), none⟩, ⟨(some 30), (.q (.load true 7 (.tmp 1))), none⟩, ⟨(some 31), (.s (.call 36 [(.tmp 29), (.tmp 30)])), none⟩, ⟨(some 32), (.q (.move (.tmp 31))), none⟩, ⟨(some 33), (.q (.move (.tmp 3))), (some (32, true))⟩, ⟨(some 34), (.q (.bin .eql (.tmp 33) (.const (.int .i64 0)))), (some (32, true))⟩, ⟨(some 35), (.q (.pick (.tmp 32) (.tmp 34) (.const (.bool false)))), none⟩, ⟨(some 36), (.q (.move (.tmp 35))), none⟩, ⟨(some 37), (.q (.fieldAddr 0 (.tmp 4))), (some (36, true))⟩, ⟨(some 38), (.q (.load false 1 (.tmp 37))), (some (36, true))⟩, ⟨(some 39), (.q (.bin .eql (.tmp 38) (.const (.str (B [99, 111, 110, 102, 45, 49]))))), (some (36, true))⟩, ⟨(some 40), (.q (.pick (.tmp 36) (.tmp 39) (.const (.bool false)))), none⟩, ⟨(some 41), (.q (.move (.tmp 40))), none⟩, ⟨(some 42), (.q (.move (.tmp 5))), (some (41, true))⟩, ⟨(some 43), (.q (.bin .eql (.tmp 42) (.const (.int .i64 0)))), (some (41, true))⟩, ⟨(some 44), (.q (.pick (.tmp 41) (.tmp 43) (.const (.bool false)))), none⟩, ⟨(some 45), (.q (.move (.tmp 44))), none⟩, ⟨(some 46), (.q (.move (.tmp 7))), (some (45, true))⟩, ⟨(some 47), (.q (.bin .eql (.tmp 46) (.const (.int .i64 11)))), (some (45, true))⟩, ⟨(some 48), (.q (.pick (.tmp 45) (.tmp 47) (.const (.bool false)))), none⟩, ⟨(some 49), (.q (.move (.tmp 48))), none⟩, ⟨(some 50), (.q (.load true 7 (.tmp 1))), (some (49, true))⟩, ⟨(some 51), (.s (.call 40 [(.tmp 50), (.const (.str (B [109])))])), (some (49, true))⟩, ⟨(some 52), (.q (.pick (.tmp 49) (.tmp 51) (.const (.bool false)))), none⟩, ⟨(some 53), (.q (.move (.tmp 52))), none⟩, ⟨(some 54), (.q (.load true 7 (.tmp 1))), (some (53, true))⟩, ⟨(some 55), (.s (.call 40 [(.tmp 54), (.const (.str (B [113])))])), (some (53, true))⟩, ⟨(some 56), (.q (.un .not (.tmp 55))), (some (53, true))⟩, ⟨(some 57), (.q (.pick (.tmp 53) (.tmp 56) (.const (.bool false)))), none⟩, ⟨(some 0), (.q (.move (.tmp 57))), none⟩]) .ret))))))
theorem t31 : Told Tryd.prog 31 58 c31 [(.tmp 0)] := ⟨Tryd.f31, _, [], Tryd.func31, rfl, by kernel_rfl, rfl, by kernel_rfl, by kernel_rfl⟩
def c6 : ACode := 
    (.seq 
    (.region [⟨(some 3), (.s (.box 34 (.tmp 0))), none⟩, ⟨(some 5), (.s (.box 51 (.tmp 2))), none⟩, ⟨(some 6), (.q (.move (.const (.bool false)))), none⟩]) 
    (.seq 
    (.seq 
    (.region [⟨(some 16), (.q (.load true 3 (.tmp 3))), none⟩, ⟨(some 17), (.s (.call 17 [(.tmp 16)])), none⟩, ⟨(some 18), (.q (.un .not (.tmp 17))), none⟩, ⟨(some 19), (.q (.move (.tmp 18))), none⟩, ⟨(some 20), (.q (.move (.tmp 1))), (some (19, false))⟩, ⟨(some 21), (.s (.call 30 [(.tmp 20)])), (some (19, false))⟩, ⟨(some 22), (.q (.un .not (.tmp 21))), (some (19, false))⟩, ⟨(some 23), (.q (.pick (.tmp 19) (.const (.bool true)) (.tmp 22))), none⟩, ⟨(some 24), (.q (.move (.tmp 23))), none⟩, ⟨(some 25), (.q (.idxPt 1 2 (.tmp 5) (.const (.int .i64 0)))), (some (24, false))⟩, ⟨(some 26), (.q (.load false 1 (.tmp 25))), (some (24, false))⟩, ⟨(some 27), (.q (.len true (.tmp 26))), (some (24, false))⟩, ⟨(some 28), (.q (.bin .gtr (.tmp 27) (.const (.int .i64 100)))), (some (24, false))⟩, ⟨(some 29), (.q (.pick (.tmp 24) (.const (.bool true)) (.tmp 28))), none⟩, ⟨(some 30), (.q (.move (.tmp 29))), none⟩, ⟨(some 31), (.q (.idxPt 1 2 (.tmp 5) (.const (.int .i64 1)))), (some (30, false))⟩, ⟨(some 32), (.q (.load false 1 (.tmp 31))), (some (30, false))⟩, ⟨(some 33), (.q (.len true (.tmp 32))), (some (30, false))⟩, ⟨(some 34), (.q (.bin .gtr (.tmp 33) (.const (.int .i64 100)))), (some (30, false))⟩, ⟨(some 35), (.q (.pick (.tmp 30) (.const (.bool true)) (.tmp 34))), none⟩]) 
    (.cond (.tmp 35) 
    (.seq 
    (.region [⟨(some 36), (.s (.call 31 [])), none⟩, ⟨(some 6), (.q (.move (.tmp 36))), none⟩]) .ret) .skip)) 
    (.seq 
    (.region [⟨(some 38), (.q (.load true 3 (.tmp 3))), none⟩, ⟨(some 39), (.s (.call 32 [(.tmp 38)])), none⟩, ⟨(some 37), (.q (.move (.tmp 39))), none⟩, ⟨(some 40), (.q (.extract 0 (.tmp 37))), none⟩, ⟨(some 41), (.q (.extract 1 (.tmp 37))), none⟩, ⟨(some 7), (.s (.alloc 54 [(.str (B [])), .nils, (.str (B [])), (.str (B [])), (.str (B [])), (.int .i64 0), (.int .i64 0)])), none⟩, ⟨none, (.s (.store 7 (.tmp 7) (.tmp 40))), none⟩, ⟨(some 8), (.q (.move (.tmp 41))), none⟩]) 
    (.seq 
    (.region [⟨(some 43), (.q (.load true 3 (.tmp 3))), none⟩, ⟨(some 44), (.s (.call 33 [(.tmp 43)])), none⟩, ⟨(some 42), (.q (.move (.tmp 44))), none⟩, ⟨(some 45), (.q (.extract 0 (.tmp 42))), none⟩, ⟨(some 46), (.q (.extract 1 (.tmp 42))), none⟩, ⟨(some 9), (.s (.alloc 54 [(.str (B [])), .nils, (.str (B [])), (.str (B [])), (.str (B [])), (.int .i64 0), (.int .i64 0)])), none⟩, ⟨none, (.s (.store 7 (.tmp 9) (.tmp 45))), none⟩, ⟨(some 10), (.q (.move (.tmp 46))), none⟩]) 
    (.seq 
    (.region [⟨(some 48), (.q (.move (.tmp 1))), none⟩, ⟨(some 49), (.q (.idxPt 1 2 (.tmp 5) (.const (.int .i64 0)))), none⟩, ⟨(some 50), (.q (.load false 1 (.tmp 49))), none⟩, ⟨(some 51), (.q (.idxPt 1 2 (.tmp 5) (.const (.int .i64 1)))), none⟩, ⟨(some 52), (.q (.load false 1 (.tmp 51))), none⟩, ⟨(some 53), (.s (.call 34 [(.tmp 48), (.tmp 50), (.tmp 52)])), none⟩, ⟨(some 47), (.q (.move (.tmp 53))), none⟩, ⟨(some 54), (.q (.extract 0 (.tmp 47))), none⟩, ⟨(some 55), (.q (.extract 1 (.tmp 47))), none⟩, ⟨(some 11), (.s (.alloc 54 [(.str (B [])), .nils, (.str (B [])), (.str (B [])), (.str (B [])), (.int .i64 0), (.int .i64 0)])), none⟩, ⟨none, (.s (.store 7 (.tmp 11) (.tmp 54))), none⟩, ⟨(some 12), (.q (.move (.tmp 55))), none⟩]) 
    (.seq 
    (.region [⟨(some 57), (.q (.move (.tmp 1))), none⟩, ⟨(some 58), (.q (.idxPt 1 2 (.tmp 5) (.const (.int .i64 0)))), none⟩, ⟨(some 59), (.q (.load false 1 (.tmp 58))), none⟩, ⟨(some 60), (.q (.idxPt 1 2 (.tmp 5) (.const (.int .i64 1)))), none⟩, ⟨(some 61), (.q (.load false 1 (.tmp 60))), none⟩, ⟨(some 62), (.s (.call 35 [(.tmp 57), (.tmp 59), (.tmp 61)])), none⟩, ⟨(some 56), (.q (.move (.tmp 62))), none⟩, ⟨(some 63), (.q (.extract 0 (.tmp 56))), none⟩, ⟨(some 64), (.q (.extract 1 (.tmp 56))), none⟩, ⟨(some 13), (.s (.alloc 54 [(.str (B [])), .nils, (.str (B [])), (.str (B [])), (.str (B [])), (.int .i64 0), (.int .i64 0)])), none⟩, ⟨none, (.s (.store 7 (.tmp 13) (.tmp 63))), none⟩, ⟨(some 14), (.q (.move (.tmp 64))), none⟩]) 
    (.seq 
    (.seq 
    (.region [⟨(some 65), (.q (.load true 7 (.tmp 7))), none⟩, ⟨(some 66), (.q (.load true 7 (.tmp 9))), none⟩, ⟨(some 67), (.s (.call 36 [(.tmp 65), (.tmp 66)])), none⟩, ⟨(some 68), (.q (.un .not (.tmp 67))), none⟩, ⟨(some 69), (.q (.move (.tmp 68))), none⟩, ⟨(some 70), (.q (.move (.tmp 8))), (some (69, false))⟩, ⟨(some 71), (.q (.move (.tmp 10))), (some (69, false))⟩, ⟨(some 72), (.q (.bin .neq (.tmp 70) (.tmp 71))), (some (69, false))⟩, ⟨(some 73), (.q (.pick (.tmp 69) (.const (.bool true)) (.tmp 72))), none⟩, ⟨(some 74), (.q (.move (.tmp 73))), none⟩, ⟨(some 75), (.q (.load true 7 (.tmp 11))), (some (74, false))⟩, ⟨(some 76), (.q (.load true 7 (.tmp 13))), (some (74, false))⟩, ⟨(some 77), (.s (.call 36 [(.tmp 75), (.tmp 76)])), (some (74, false))⟩, ⟨(some 78), (.q (.un .not (.tmp 77))), (some (74, false))⟩, ⟨(some 79), (.q (.pick (.tmp 74) (.const (.bool true)) (.tmp 78))), none⟩, ⟨(some 80), (.q (.move (.tmp 79))), none⟩, ⟨(some 81), (.q (.move (.tmp 12))), (some (80, false))⟩, ⟨(some 82), (.q (.move (.tmp 14))), (some (80, false))⟩, ⟨(some 83), (.q (.bin .neq (.tmp 81) (.tmp 82))), (some (80, false))⟩, ⟨(some 84), (.q (.pick (.tmp 80) (.const (.bool true)) (.tmp 83))), none⟩]) 
    (.cond (.tmp 84) 
    (.seq 
    (.region [⟨(some 6), (.q (.move (.const (.bool false)))), none⟩]) .ret) .skip)) 
    (.seq 
    (.seq 
    (.region [⟨(some 15), (.q (.move (.const (.int .i64 0)))), none⟩]) 
    (.block 0 
    (.loop 
    (.seq 
    (.seq 
    (.region [⟨(some 85), (.q (.move (.tmp 15))), none⟩, ⟨(some 86), (.q (.move (.tmp 1))), none⟩, ⟨(some 87), (.q (.len false (.tmp 86))), none⟩, ⟨(some 88), (.q (.bin .lss (.tmp 85) (.tmp 87))), none⟩]) 
    (.cond (.tmp 88) .skip (.exit 0))) 
    (.seq 
    (.block 1 
    (.seq 
    (.region [⟨(some 91), (.q (.move (.tmp 1))), none⟩, ⟨(some 92), (.q (.move (.tmp 15))), none⟩, ⟨(some 93), (.q (.idxSl 7 (.tmp 91) (.tmp 92))), none⟩, ⟨(some 94), (.q (.load true 7 (.tmp 93))), none⟩, ⟨(some 95), (.c (.fn 37) [(.tmp 94)]), none⟩, ⟨(some 96), (.q (.move (.tmp 1))), none⟩, ⟨(some 97), (.q (.move (.tmp 15))), none⟩, ⟨(some 98), (.q (.idxSl 7 (.tmp 96) (.tmp 97))), none⟩, ⟨(some 99), (.q (.load true 7 (.tmp 98))), none⟩, ⟨(some 100), (.s (.call 38 [(.tmp 99)])), none⟩, ⟨(some 101), (.s (.call 22 [(.tmp 95), (.tmp 100)])), none⟩, ⟨(some 102), (.q (.un .not (.tmp 101))), none⟩]) 
    (.cond (.tmp 102) 
    (.seq 
    (.region [⟨(some 6), (.q (.move (.const (.bool false)))), none⟩]) .ret) .skip))) 
    (.region [⟨(some 89), (.q (.move (.tmp 15))), none⟩, ⟨(some 90), (.q (.bin .add (.tmp 89) (.const (.int .i64 1)))), none⟩, ⟨(some 15), (.q (.move (.tmp 90))), none⟩])))))) 
    (.seq 
    (.region [⟨(some 103), (.s (.call 31 [])), none⟩, ⟨(some 6), (.q (.move (.tmp 103))), none⟩]) .ret)))))))))
theorem t6 : Told Tryd.prog 6 104 c6 [(.tmp 6)] := ⟨Tryd.f6, _, [], Tryd.func6, rfl, by kernel_rfl, rfl, by kernel_rfl, by kernel_rfl⟩
end Go.Proofs.YtfiihgaohihppaaDoor.AL

