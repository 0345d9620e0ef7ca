/- The code of configurations, told. -/
import Derived.Test.YtfiihgaohihppaaDoorQConfBackALA3
import Derived.Test.YtfiihgaohihppaaDoorProg
import Derived.KernelRfl
set_option maxRecDepth 100000
namespace Go.Proofs.YtfiihgaohihppaaDoor.AL
open Go Go.Proofs
def c72 : ACode := 
    (.seq 
    (.region [⟨(some 4), (.q (.move (.const (.int .i64 0)))), none⟩]) 
    (.seq 
    (.seq 
    (.region [⟨(some 6), (.q (.move (.tmp 0))), none⟩, ⟨(some 7), (.q (.len false (.tmp 6))), none⟩, ⟨(some 8), (.q (.move (.const (.int .i64 0)))), none⟩]) 
    (.block 0 
    (.loop 
    (.seq 
    (.region [⟨(some 9), (.q (.bin .lss (.tmp 8) (.tmp 7))), none⟩]) 
    (.seq 
    (.cond (.tmp 9) .skip (.exit 0)) 
    (.seq 
    (.block 1 
    (.seq 
    (.region [⟨(some 10), (.q (.move (.tmp 8))), none⟩, ⟨(some 5), (.q (.move (.tmp 10))), none⟩]) 
    (.seq 
    (.region [⟨(some 11), (.q (.move (.tmp 1))), none⟩, ⟨(some 12), (.q (.move (.tmp 0))), none⟩, ⟨(some 13), (.q (.move (.tmp 5))), none⟩, ⟨(some 14), (.q (.idxSl 7 (.tmp 12) (.tmp 13))), none⟩, ⟨(some 15), (.q (.load true 7 (.tmp 14))), none⟩, ⟨(some 16), (.s (.callv (.tmp 11) [(.tmp 15)])), none⟩]) 
    (.cond (.tmp 16) 
    (.seq 
    (.region [⟨(some 17), (.q (.move (.tmp 5))), none⟩, ⟨(some 4), (.q (.move (.tmp 17))), none⟩]) .ret) .skip)))) 
    (.region [⟨(some 18), (.q (.bin .add (.tmp 8) (.const (.int .i64 1)))), none⟩, ⟨(some 8), (.q (.move (.tmp 18))), none⟩]))))))) 
    (.seq 
    (.region [⟨(some 4), (.q (.move (.const (.int .i64 (-1))))), none⟩]) .ret)))
theorem t72 : Told Tryd.prog 72 19 c72 [(.tmp 4)] := ⟨Tryd.f72, _, [], Tryd.func72, rfl, by kernel_rfl, rfl, by kernel_rfl, by kernel_rfl⟩
def c32 : ACode := 
    (.seq 
    (.region [⟨(some 1), (.s (.box 34 (.tmp 0))), none⟩, ⟨(some 2), (.s (.alloc 54 [(.str (B [])), .nils, (.str (B [])), (.str (B [])), (.str (B [])), (.int .i64 0), (.int .i64 0)])), none⟩, ⟨(some 3), (.q (.move (.const (.int .i64 0)))), none⟩]) 
    (.seq 
    (.region [⟨(some 4), (.s (.alloc 4 [(.bool false)])), none⟩, ⟨none, (.s (.store 1 (.tmp 4) (.const (.bool true)))), none⟩]) 
    (.seq 
    (.seq (.fregion [1] []) 
    (.region [⟨(some 12), (.q (.mkFunc (.func 68) [] [(.tmp 1), (.tmp 4)])), none⟩, ⟨(some 5), (.q (.move (.tmp 12))), none⟩])) 
    (.seq 
    (.region [⟨(some 13), (.q (.mkFunc (.func 69) [] [(.tmp 1), (.tmp 4)])), none⟩, ⟨(some 6), (.q (.move (.tmp 13))), none⟩]) 
    (.seq 
    (.region [⟨(some 15), (.q (.load true 3 (.tmp 1))), none⟩, ⟨(some 16), (.s (.call 23 [(.tmp 15), (.const (.str (B [99, 111, 109, 112, 97, 116, 105, 98, 108, 101])))])), none⟩, ⟨(some 14), (.q (.move (.tmp 16))), none⟩, ⟨(some 17), (.q (.extract 0 (.tmp 14))), none⟩, ⟨(some 18), (.q (.extract 1 (.tmp 14))), none⟩, ⟨(some 7), (.q (.move (.tmp 17))), none⟩, ⟨(some 8), (.q (.move (.tmp 18))), none⟩]) 
    (.seq 
    (.region [⟨(some 20), (.q (.move (.tmp 7))), none⟩, ⟨(some 21), (.s (.call 70 [(.tmp 20)])), none⟩, ⟨(some 19), (.q (.move (.tmp 21))), none⟩, ⟨(some 22), (.q (.extract 0 (.tmp 19))), none⟩, ⟨(some 23), (.q (.extract 1 (.tmp 19))), none⟩, ⟨(some 9), (.q (.move (.tmp 22))), none⟩, ⟨(some 10), (.q (.move (.tmp 23))), none⟩]) 
    (.seq 
    (.seq (.fregion [1] []) 
    (.regionN 12 [⟨(some 24), (.q (.fieldAddr 0 (.tmp 1))), none⟩, ⟨(some 25), (.q (.loadr false 1 (.tmp 24))), none⟩, ⟨(some 26), (.q (.move (.tmp 9))), none⟩, ⟨(some 27), (.q (.move (.tmp 5))), none⟩, ⟨(some 29), (.q (.move (.tmp 5))), none⟩, ⟨(some 31), (.q (.move (.tmp 5))), none⟩, ⟨(some 33), (.q (.move (.tmp 6))), none⟩, ⟨(some 35), (.q (.move (.tmp 6))), none⟩, ⟨(some 11), (.q (.move (.const .top))), none⟩, ⟨(some 28), (.s (.callv (.tmp 27) [(.const (.str (B [107, 101, 114, 110, 101, 108])))])), none⟩, ⟨(some 30), (.s (.callv (.tmp 29) [(.const (.str (B [114, 97, 109, 100, 105, 115, 107])))])), none⟩, ⟨(some 32), (.s (.callv (.tmp 31) [(.const (.str (B [102, 100, 116])))])), none⟩, ⟨(some 34), (.s (.callv (.tmp 33) [(.const (.str (B [118, 101, 114, 115, 105, 111, 110])))])), none⟩, ⟨(some 36), (.s (.callv (.tmp 35) [(.const (.str (B [114, 111, 108, 108, 98, 97, 99, 107])))])), none⟩, ⟨(some 37), (.q (.build [(.str (B [])), .nils, (.str (B [])), (.str (B [])), (.str (B [])), (.int .i64 0), (.int .i64 0)] [(0, (1, (.tmp 25))), (1, (1, (.tmp 26))), (2, (1, (.tmp 28))), (3, (1, (.tmp 30))), (4, (1, (.tmp 32))), (5, (1, (.tmp 34))), (6, (1, (.tmp 36)))])), none⟩, ⟨(some 11), (.s (.put 54 7 (.tmp 37))), none⟩])) 
    (.seq 
    (.seq 
    (.region [⟨(some 38), (.q (.load false 1 (.tmp 4))), none⟩, ⟨(some 39), (.q (.un .not (.tmp 38))), none⟩, ⟨(some 40), (.q (.move (.tmp 39))), none⟩, ⟨(some 41), (.q (.move (.tmp 10))), (some (40, false))⟩, ⟨(some 42), (.q (.un .not (.tmp 41))), (some (40, false))⟩, ⟨(some 43), (.q (.pick (.tmp 40) (.const (.bool true)) (.tmp 42))), none⟩]) 
    (.cond (.tmp 43) 
    (.seq 
    (.region [⟨(some 44), (.q (.build [(.str (B [])), .nils, (.str (B [])), (.str (B [])), (.str (B [])), (.int .i64 0), (.int .i64 0)] [])), none⟩, ⟨none, (.s (.store 7 (.tmp 2) (.tmp 44))), none⟩, ⟨(some 3), (.q (.move (.const (.int .i64 6)))), none⟩]) .ret) .skip)) 
    (.seq 
    (.region [⟨(some 45), (.q (.load true 7 (.tmp 11))), none⟩, ⟨none, (.s (.store 7 (.tmp 2) (.tmp 45))), none⟩, ⟨(some 3), (.q (.move (.const (.int .i64 0)))), none⟩]) .ret)))))))))
theorem t32 : Told Tryd.prog 32 46 c32 [(.cell 2 true 7), (.tmp 3)] := ⟨Tryd.f32, _, [3000001, 7000001], Tryd.func32, rfl, by kernel_rfl, rfl, by kernel_rfl, by kernel_rfl⟩
def c68 : ACode := 
    (.seq 
    (.region [⟨(some 4), (.q (.move (.const (.str (B []))))), none⟩]) 
    (.seq 
    (.region [⟨(some 8), (.q (.load true 3 (.tmp 1))), none⟩, ⟨(some 9), (.q (.move (.tmp 0))), none⟩, ⟨(some 10), (.s (.call 25 [(.tmp 8), (.const (.str (B [47]))), (.tmp 9)])), none⟩, ⟨(some 7), (.q (.move (.tmp 10))), none⟩, ⟨(some 11), (.q (.extract 0 (.tmp 7))), none⟩, ⟨(some 12), (.q (.extract 1 (.tmp 7))), none⟩, ⟨(some 5), (.q (.move (.tmp 11))), none⟩, ⟨(some 6), (.q (.move (.tmp 12))), none⟩]) 
    (.seq 
    (.region [⟨(some 13), (.q (.load false 1 (.tmp 2))), none⟩, ⟨(some 14), (.q (.move (.tmp 13))), none⟩, ⟨(some 15), (.q (.move (.tmp 6))), (some (14, true))⟩, ⟨(some 16), (.q (.pick (.tmp 14) (.tmp 15) (.const (.bool false)))), none⟩, ⟨(some 17), (.q (.move (.tmp 16))), none⟩, ⟨(some 18), (.q (.move (.tmp 5))), (some (17, true))⟩, ⟨(some 19), (.q (.bin .neq (.tmp 18) (.const (.str (B []))))), (some (17, true))⟩, ⟨(some 20), (.q (.pick (.tmp 17) (.tmp 19) (.const (.bool false)))), none⟩, ⟨none, (.s (.store 1 (.tmp 2) (.tmp 20))), none⟩]) 
    (.seq 
    (.region [⟨(some 21), (.q (.move (.tmp 5))), none⟩, ⟨(some 4), (.q (.move (.tmp 21))), none⟩]) .ret))))
theorem t68 : Told Tryd.prog 68 22 c68 [(.tmp 4)] := ⟨Tryd.f68, _, [], Tryd.func68, rfl, by kernel_rfl, rfl, by kernel_rfl, by kernel_rfl⟩
def c69 : ACode := 
    (.seq 
    (.region [⟨(some 4), (.q (.move (.const (.int .i64 0)))), none⟩]) 
    (.seq 
    (.region [⟨(some 8), (.q (.load true 3 (.tmp 1))), none⟩, ⟨(some 9), (.q (.move (.tmp 0))), none⟩, ⟨(some 10), (.s (.call 27 [(.tmp 8), (.const (.str (B [47]))), (.tmp 9)])), none⟩, ⟨(some 7), (.q (.move (.tmp 10))), none⟩, ⟨(some 11), (.q (.extract 0 (.tmp 7))), none⟩, ⟨(some 12), (.q (.extract 1 (.tmp 7))), none⟩, ⟨(some 5), (.q (.move (.tmp 11))), none⟩, ⟨(some 6), (.q (.move (.tmp 12))), none⟩]) 
    (.seq 
    (.region [⟨(some 13), (.q (.load false 1 (.tmp 2))), none⟩, ⟨(some 14), (.q (.move (.tmp 13))), none⟩, ⟨(some 15), (.q (.move (.tmp 6))), (some (14, true))⟩, ⟨(some 16), (.q (.pick (.tmp 14) (.tmp 15) (.const (.bool false)))), none⟩, ⟨none, (.s (.store 1 (.tmp 2) (.tmp 16))), none⟩]) 
    (.seq 
    (.region [⟨(some 17), (.q (.move (.tmp 5))), none⟩, ⟨(some 4), (.q (.move (.tmp 17))), none⟩]) .ret))))
theorem t69 : Told Tryd.prog 69 18 c69 [(.tmp 4)] := ⟨Tryd.f69, _, [], Tryd.func69, rfl, by kernel_rfl, rfl, by kernel_rfl, by kernel_rfl⟩
def c34 : ACode := 
    (.seq 
    (.region [⟨(some 4), (.s (.box 9 (.tmp 1))), none⟩, ⟨(some 5), (.s (.box 9 (.tmp 2))), none⟩, ⟨(some 6), (.s (.alloc 54 [(.str (B [])), .nils, (.str (B [])), (.str (B [])), (.str (B [])), (.int .i64 0), (.int .i64 0)])), none⟩, ⟨(some 7), (.q (.move (.const (.int .i64 0)))), none⟩]) 
    (.seq 
    (.region [⟨(some 9), (.q (.move (.tmp 0))), none⟩, ⟨(some 10), (.q (.mkFunc (.func 73) [] [(.tmp 4)])), none⟩, ⟨(some 11), (.s (.call 72 [(.tmp 9), (.tmp 10)])), none⟩, ⟨(some 8), (.q (.move (.tmp 11))), none⟩]) 
    (.seq 
    (.seq 
    (.region [⟨(some 12), (.q (.move (.tmp 8))), none⟩, ⟨(some 13), (.q (.bin .lss (.tmp 12) (.const (.int .i64 0)))), none⟩]) 
    (.cond (.tmp 13) 
    (.seq 
    (.region [⟨(some 14), (.q (.build [(.str (B [])), .nils, (.str (B [])), (.str (B [])), (.str (B [])), (.int .i64 0), (.int .i64 0)] [])), none⟩, ⟨none, (.s (.store 7 (.tmp 6) (.tmp 14))), none⟩, ⟨(some 7), (.q (.move (.const (.int .i64 8)))), none⟩]) .ret) .skip)) 
    (.seq 
    (.seq 
    (.region [⟨(some 15), (.q (.move (.tmp 0))), none⟩, ⟨(some 16), (.q (.move (.tmp 8))), none⟩, ⟨(some 17), (.q (.idxSl 7 (.tmp 15) (.tmp 16))), none⟩, ⟨(some 18), (.q (.load true 7 (.tmp 17))), none⟩, ⟨(some 19), (.q (.load false 1 (.tmp 5))), none⟩, ⟨(some 20), (.s (.call 40 [(.tmp 18), (.tmp 19)])), none⟩, ⟨(some 21), (.q (.un .not (.tmp 20))), none⟩]) 
    (.cond (.tmp 21) 
    (.region [⟨(some 22), (.q (.move (.tmp 0))), none⟩, ⟨(some 23), (.q (.mkFunc (.func 74) [] [(.tmp 5)])), none⟩, ⟨(some 24), (.s (.call 72 [(.tmp 22), (.tmp 23)])), none⟩, ⟨(some 8), (.q (.move (.tmp 24))), none⟩]) .skip)) 
    (.seq 
    (.seq 
    (.region [⟨(some 25), (.q (.move (.tmp 8))), none⟩, ⟨(some 26), (.q (.bin .lss (.tmp 25) (.const (.int .i64 0)))), none⟩]) 
    (.cond (.tmp 26) 
    (.seq 
    (.region [⟨(some 27), (.q (.build [(.str (B [])), .nils, (.str (B [])), (.str (B [])), (.str (B [])), (.int .i64 0), (.int .i64 0)] [])), none⟩, ⟨none, (.s (.store 7 (.tmp 6) (.tmp 27))), none⟩, ⟨(some 7), (.q (.move (.const (.int .i64 11)))), none⟩]) .ret) .skip)) 
    (.seq 
    (.region [⟨(some 28), (.q (.move (.tmp 0))), none⟩, ⟨(some 29), (.q (.move (.tmp 8))), none⟩, ⟨(some 30), (.q (.idxSl 7 (.tmp 28) (.tmp 29))), none⟩, ⟨(some 31), (.q (.load true 7 (.tmp 30))), none⟩, ⟨none, (.s (.store 7 (.tmp 6) (.tmp 31))), none⟩, ⟨(some 7), (.q (.move (.const (.int .i64 0)))), none⟩]) .ret))))))
theorem t34 : Told Tryd.prog 34 32 c34 [(.cell 6 true 7), (.tmp 7)] := ⟨Tryd.f34, _, [], Tryd.func34, rfl, by kernel_rfl, rfl, by kernel_rfl, by kernel_rfl⟩
def c73 : ACode := 
    (.seq 
    (.region [⟨(some 2), (.s (.box 54 (.tmp 0))), none⟩, ⟨(some 3), (.q (.move (.const (.bool false)))), none⟩]) 
    (.seq 
    (.region [⟨(some 4), (.q (.fieldAddr 0 (.tmp 2))), none⟩, ⟨(some 5), (.q (.load false 1 (.tmp 4))), none⟩, ⟨(some 6), (.q (.load false 1 (.tmp 1))), none⟩, ⟨(some 7), (.q (.bin .eql (.tmp 5) (.tmp 6))), none⟩, ⟨(some 3), (.q (.move (.tmp 7))), none⟩]) .ret))
theorem t73 : Told Tryd.prog 73 8 c73 [(.tmp 3)] := ⟨Tryd.f73, _, [], Tryd.func73, rfl, by kernel_rfl, rfl, by kernel_rfl, by kernel_rfl⟩
def c74 : ACode := 
    (.seq 
    (.region [⟨(some 2), (.s (.box 54 (.tmp 0))), none⟩, ⟨(some 3), (.q (.move (.const (.bool false)))), none⟩]) 
    (.seq 
    (.region [⟨(some 4), (.q (.load true 7 (.tmp 2))), none⟩, ⟨(some 5), (.q (.load false 1 (.tmp 1))), none⟩, ⟨(some 6), (.s (.call 40 [(.tmp 4), (.tmp 5)])), none⟩, ⟨(some 3), (.q (.move (.tmp 6))), none⟩]) .ret))
theorem t74 : Told Tryd.prog 74 7 c74 [(.tmp 3)] := ⟨Tryd.f74, _, [], Tryd.func74, rfl, by kernel_rfl, rfl, by kernel_rfl, by kernel_rfl⟩
def c37 : ACode := 
    (.seq 
    (.region [⟨(some 1), (.s (.box 54 (.tmp 0))), none⟩, ⟨(some 2), (.s (.alloc 34 [(.str (B [])), .nils, .nils])), none⟩]) 
    (.seq 
    (.region [⟨(some 3), (.q (.fieldAddr 0 (.tmp 1))), none⟩, ⟨(some 4), (.q (.load false 1 (.tmp 3))), none⟩, ⟨(some 5), (.q (.fieldAddr 1 (.tmp 1))), none⟩, ⟨(some 6), (.q (.load false 1 (.tmp 5))), none⟩, ⟨(some 7), (.c (.fn 76) [(.tmp 6)]), none⟩, ⟨(some 8), (.q (.build [(.str (B [])), (.str (B []))] [(0, (1, (.const (.str (B [99, 111, 109, 112, 97, 116, 105, 98, 108, 101]))))), (1, (1, (.tmp 7)))])), none⟩, ⟨(some 9), (.q (.fieldAddr 2 (.tmp 1))), none⟩, ⟨(some 10), (.q (.load false 1 (.tmp 9))), none⟩, ⟨(some 11), (.s (.lit 9 1 [(.tmp 10)])), none⟩, ⟨(some 12), (.c (.fn 76) [(.tmp 11)]), none⟩, ⟨(some 13), (.q (.build [(.str (B [])), (.str (B []))] [(0, (1, (.const (.str (B [107, 101, 114, 110, 101, 108]))))), (1, (1, (.tmp 12)))])), none⟩, ⟨(some 14), (.q (.fieldAddr 3 (.tmp 1))), none⟩, ⟨(some 15), (.q (.load false 1 (.tmp 14))), none⟩, ⟨(some 16), (.s (.lit 9 1 [(.tmp 15)])), none⟩, ⟨(some 17), (.c (.fn 76) [(.tmp 16)]), none⟩, ⟨(some 18), (.q (.build [(.str (B [])), (.str (B []))] [(0, (1, (.const (.str (B [114, 97, 109, 100, 105, 115, 107]))))), (1, (1, (.tmp 17)))])), none⟩, ⟨(some 19), (.q (.fieldAddr 4 (.tmp 1))), none⟩, ⟨(some 20), (.q (.load false 1 (.tmp 19))), none⟩, ⟨(some 21), (.s (.lit 9 1 [(.tmp 20)])), none⟩, ⟨(some 22), (.c (.fn 76) [(.tmp 21)]), none⟩, ⟨(some 23), (.q (.build [(.str (B [])), (.str (B []))] [(0, (1, (.const (.str (B [102, 100, 116]))))), (1, (1, (.tmp 22)))])), none⟩, ⟨(some 24), (.q (.fieldAddr 5 (.tmp 1))), none⟩, ⟨(some 25), (.q (.load false 1 (.tmp 24))), none⟩, ⟨(some 26), (.s (.lit 3 1 [(.tmp 25)])), none⟩, ⟨(some 27), (.c (.fn 77) [(.tmp 26)]), none⟩, ⟨(some 28), (.q (.build [(.str (B [])), (.str (B []))] [(0, (1, (.const (.str (B [118, 101, 114, 115, 105, 111, 110]))))), (1, (1, (.tmp 27)))])), none⟩, ⟨(some 29), (.q (.fieldAddr 6 (.tmp 1))), none⟩, ⟨(some 30), (.q (.load false 1 (.tmp 29))), none⟩, ⟨(some 31), (.s (.lit 3 1 [(.tmp 30)])), none⟩, ⟨(some 32), (.c (.fn 77) [(.tmp 31)]), none⟩, ⟨(some 33), (.q (.build [(.str (B [])), (.str (B []))] [(0, (1, (.const (.str (B [114, 111, 108, 108, 98, 97, 99, 107]))))), (1, (1, (.tmp 32)))])), none⟩, ⟨(some 34), (.s (.lit 80 2 [(.tmp 8), (.tmp 13), (.tmp 18), (.tmp 23), (.tmp 28), (.tmp 33)])), none⟩, ⟨(some 35), (.q (.build [(.str (B [])), .nils, .nils] [(0, (1, (.tmp 4))), (1, (1, (.tmp 34)))])), none⟩, ⟨none, (.s (.store 3 (.tmp 2) (.tmp 35))), none⟩]) .ret))
theorem t37 : Told Tryd.prog 37 36 c37 [(.cell 2 true 3)] := ⟨Tryd.f37, _, [], Tryd.func37, rfl, by kernel_rfl, rfl, by kernel_rfl, by kernel_rfl⟩
def c40 : ACode := 
    (.seq 
    (.region [⟨(some 2), (.s (.box 54 (.tmp 0))), none⟩, ⟨(some 4), (.q (.move (.const (.bool false)))), none⟩]) 
    (.seq 
    (.region [⟨(some 5), (.q (.fieldAddr 1 (.tmp 2))), none⟩, ⟨(some 6), (.q (.load false 1 (.tmp 5))), none⟩, ⟨(some 7), (.q (.move (.tmp 1))), none⟩, ⟨(some 8), (.s (.call 53 [(.tmp 6), (.tmp 7)])), none⟩, ⟨(some 4), (.q (.move (.tmp 8))), none⟩]) .ret))
theorem t40 : Told Tryd.prog 40 9 c40 [(.tmp 4)] := ⟨Tryd.f40, _, [], Tryd.func40, rfl, by kernel_rfl, rfl, by kernel_rfl, by kernel_rfl⟩
def c36 : ACode := 
    (.seq 
    (.region [⟨(some 2), (.s (.box 54 (.tmp 0))), none⟩, ⟨(some 3), (.s (.box 54 (.tmp 1))), none⟩, ⟨(some 4), (.q (.move (.const (.bool false)))), none⟩]) 
    (.seq 
    (.region [⟨(some 5), (.q (.fieldAddr 0 (.tmp 2))), none⟩, ⟨(some 6), (.q (.load false 1 (.tmp 5))), none⟩, ⟨(some 7), (.q (.fieldAddr 0 (.tmp 3))), none⟩, ⟨(some 8), (.q (.load false 1 (.tmp 7))), none⟩, ⟨(some 9), (.q (.bin .eql (.tmp 6) (.tmp 8))), none⟩, ⟨(some 10), (.q (.move (.tmp 9))), none⟩, ⟨(some 11), (.q (.fieldAddr 1 (.tmp 2))), (some (10, true))⟩, ⟨(some 12), (.q (.load false 1 (.tmp 11))), (some (10, true))⟩, ⟨(some 13), (.q (.fieldAddr 1 (.tmp 3))), (some (10, true))⟩, ⟨(some 14), (.q (.load false 1 (.tmp 13))), (some (10, true))⟩, ⟨(some 15), (.s (.call 14 [(.tmp 12), (.tmp 14)])), (some (10, true))⟩, ⟨(some 16), (.q (.pick (.tmp 10) (.tmp 15) (.const (.bool false)))), none⟩, ⟨(some 17), (.q (.move (.tmp 16))), none⟩, ⟨(some 18), (.q (.fieldAddr 2 (.tmp 2))), (some (17, true))⟩, ⟨(some 19), (.q (.load false 1 (.tmp 18))), (some (17, true))⟩, ⟨(some 20), (.q (.fieldAddr 2 (.tmp 3))), (some (17, true))⟩, ⟨(some 21), (.q (.load false 1 (.tmp 20))), (some (17, true))⟩, ⟨(some 22), (.q (.bin .eql (.tmp 19) (.tmp 21))), (some (17, true))⟩, ⟨(some 23), (.q (.pick (.tmp 17) (.tmp 22) (.const (.bool false)))), none⟩, ⟨(some 24), (.q (.move (.tmp 23))), none⟩, ⟨(some 25), (.q (.fieldAddr 3 (.tmp 2))), (some (24, true))⟩, ⟨(some 26), (.q (.load false 1 (.tmp 25))), (some (24, true))⟩, ⟨(some 27), (.q (.fieldAddr 3 (.tmp 3))), (some (24, true))⟩, ⟨(some 28), (.q (.load false 1 (.tmp 27))), (some (24, true))⟩, ⟨(some 29), (.q (.bin .eql (.tmp 26) (.tmp 28))), (some (24, true))⟩, ⟨(some 30), (.q (.pick (.tmp 24) (.tmp 29) (.const (.bool false)))), none⟩, ⟨(some 31), (.q (.move (.tmp 30))), none⟩, ⟨(some 32), (.q (.fieldAddr 4 (.tmp 2))), (some (31, true))⟩, ⟨(some 33), (.q (.load false 1 (.tmp 32))), (some (31, true))⟩, ⟨(some 34), (.q (.fieldAddr 4 (.tmp 3))), (some (31, true))⟩, ⟨(some 35), (.q (.load false 1 (.tmp 34))), (some (31, true))⟩, ⟨(some 36), (.q (.bin .eql (.tmp 33) (.tmp 35))), (some (31, true))⟩, ⟨(some 37), (.q (.pick (.tmp 31) (.tmp 36) (.const (.bool false)))), none⟩, ⟨(some 38), (.q (.move (.tmp 37))), none⟩, ⟨(some 39), (.q (.fieldAddr 5 (.tmp 2))), (some (38, true))⟩, ⟨(some 40), (.q (.load false 1 (.tmp 39))), (some (38, true))⟩, ⟨(some 41), (.q (.fieldAddr 5 (.tmp 3))), (some (38, true))⟩, ⟨(some 42), (.q (.load false 1 (.tmp 41))), (some (38, true))⟩, ⟨(some 43), (.q (.bin .eql (.tmp 40) (.tmp 42))), (some (38, true))⟩, ⟨(some 44), (.q (.pick (.tmp 38) (.tmp 43) (.const (.bool false)))), none⟩, ⟨(some 45), (.q (.move (.tmp 44))), none⟩, ⟨(some 46), (.q (.fieldAddr 6 (.tmp 2))), (some (45, true))⟩, ⟨(some 47), (.q (.load false 1 (.tmp 46))), (some (45, true))⟩, ⟨(some 48), (.q (.fieldAddr 6 (.tmp 3))), (some (45, true))⟩, ⟨(some 49), (.q (.load false 1 (.tmp 48))), (some (45, true))⟩, ⟨(some 50), (.q (.bin .eql (.tmp 47) (.tmp 49))), (some (45, true))⟩, ⟨(some 51), (.q (.pick (.tmp 45) (.tmp 50) (.const (.bool false)))), none⟩, ⟨(some 4), (.q (.move (.tmp 51))), none⟩]) .ret))
theorem t36 : Told Tryd.prog 36 52 c36 [(.tmp 4)] := ⟨Tryd.f36, _, [], Tryd.func36, rfl, by kernel_rfl, rfl, by kernel_rfl, by kernel_rfl⟩
def c30 : ACode := 
    (.seq 
    (.region [⟨(some 2), (.q (.move (.const (.bool false)))), none⟩]) 
    (.seq 
    (.seq 
    (.region [⟨(some 3), (.q (.move (.const (.int .i64 0)))), none⟩]) 
    (.block 0 
    (.loop 
    (.seq 
    (.seq 
    (.region [⟨(some 6), (.q (.move (.tmp 3))), none⟩, ⟨(some 7), (.q (.move (.tmp 0))), none⟩, ⟨(some 8), (.q (.len false (.tmp 7))), none⟩, ⟨(some 9), (.q (.bin .lss (.tmp 6) (.tmp 8))), none⟩, ⟨(some 10), (.q (.move (.tmp 9))), none⟩, ⟨(some 11), (.q (.move (.tmp 3))), (some (10, true))⟩, ⟨(some 12), (.q (.bin .lss (.tmp 11) (.const (.int .i64 10)))), (some (10, true))⟩, ⟨(some 13), (.q (.pick (.tmp 10) (.tmp 12) (.const (.bool false)))), none⟩]) 
    (.cond (.tmp 13) .skip (.exit 0))) 
    (.seq 
    (.block 1 
    (.seq 
    (.region [⟨(some 16), (.q (.move (.tmp 0))), none⟩, ⟨(some 17), (.q (.move (.tmp 3))), none⟩, ⟨(some 18), (.q (.idxSl 7 (.tmp 16) (.tmp 17))), none⟩, ⟨(some 19), (.q (.load true 7 (.tmp 18))), none⟩, ⟨(some 4), (.s (.alloc 54 [(.str (B [])), .nils, (.str (B [])), (.str (B [])), (.str (B [])), (.int .i64 0), (.int .i64 0)])), none⟩, ⟨none, (.s (.store 7 (.tmp 4) (.tmp 19))), none⟩]) 
    (.seq 
    (.seq 
    (.region [⟨(some 20), (.q (.fieldAddr 1 (.tmp 4))), none⟩, ⟨(some 21), (.q (.load false 1 (.tmp 20))), none⟩, ⟨(some 22), (.q (.len false (.tmp 21))), none⟩, ⟨(some 23), (.q (.bin .gtr (.tmp 22) (.const (.int .i64 10)))), none⟩, ⟨(some 24), (.q (.move (.tmp 23))), none⟩, ⟨(some 25), (.q (.fieldAddr 0 (.tmp 4))), (some (24, false))⟩, ⟨(some 26), (.q (.load false 1 (.tmp 25))), (some (24, false))⟩, ⟨(some 27), (.q (.len true (.tmp 26))), (some (24, false))⟩, ⟨(some 28), (.q (.bin .gtr (.tmp 27) (.const (.int .i64 100)))), (some (24, false))⟩, ⟨(some 29), (.q (.pick (.tmp 24) (.const (.bool true)) (.tmp 28))), none⟩, ⟨(some 30), (.q (.move (.tmp 29))), none⟩, ⟨(some 31), (.q (.fieldAddr 2 (.tmp 4))), (some (30, false))⟩, ⟨(some 32), (.q (.load false 1 (.tmp 31))), (some (30, false))⟩, ⟨(some 33), (.q (.len true (.tmp 32))), (some (30, false))⟩, ⟨(some 34), (.q (.bin .gtr (.tmp 33) (.const (.int .i64 100)))), (some (30, false))⟩, ⟨(some 35), (.q (.pick (.tmp 30) (.const (.bool true)) (.tmp 34))), none⟩, ⟨(some 36), (.q (.move (.tmp 35))), none⟩, ⟨(some 37), (.q (.fieldAddr 3 (.tmp 4))), (some (36, false))⟩, ⟨(some 38), (.q (.load false 1 (.tmp 37))), (some (36, false))⟩, ⟨(some 39), (.q (.len true (.tmp 38))), (some (36, false))⟩, ⟨(some 40), (.q (.bin .gtr (.tmp 39) (.const (.int .i64 100)))), (some (36, false))⟩, ⟨(some 41), (.q (.pick (.tmp 36) (.const (.bool true)) (.tmp 40))), none⟩, ⟨(some 42), (.q (.move (.tmp 41))), none⟩, ⟨(some 43), (.q (.fieldAddr 4 (.tmp 4))), (some (42, false))⟩, ⟨(some 44), (.q (.load false 1 (.tmp 43))), (some (42, false))⟩, ⟨(some 45), (.q (.len true (.tmp 44))), (some (42, false))⟩, ⟨(some 46), (.q (.bin .gtr (.tmp 45) (.const (.int .i64 100)))), (some (42, false))⟩, ⟨(some 47), (.q (.pick (.tmp 42) (.const (.bool true)) (.tmp 46))), none⟩]) 
    (.cond (.tmp 47) 
    (.seq 
    (.region [⟨(some 2), (.q (.move (.const (.bool false)))), none⟩]) .ret) .skip)) 
    (.seq 
    (.region [⟨(some 5), (.q (.move (.const (.int .i64 0)))), none⟩]) 
    (.block 2 
    (.loop 
    (.seq 
    (.seq 
    (.region [⟨(some 48), (.q (.move (.tmp 5))), none⟩, ⟨(some 49), (.q (.fieldAddr 1 (.tmp 4))), none⟩, ⟨(some 50), (.q (.load false 1 (.tmp 49))), none⟩, ⟨(some 51), (.q (.len false (.tmp 50))), none⟩, ⟨(some 52), (.q (.bin .lss (.tmp 48) (.tmp 51))), none⟩]) 
    (.cond (.tmp 52) .skip (.exit 2))) 
    (.seq 
    (.block 3 
    (.seq 
    (.region [⟨(some 55), (.q (.fieldAddr 1 (.tmp 4))), none⟩, ⟨(some 56), (.q (.load false 1 (.tmp 55))), none⟩, ⟨(some 57), (.q (.move (.tmp 5))), none⟩, ⟨(some 58), (.q (.idxSl 1 (.tmp 56) (.tmp 57))), none⟩, ⟨(some 59), (.q (.load false 1 (.tmp 58))), none⟩, ⟨(some 60), (.q (.len true (.tmp 59))), none⟩, ⟨(some 61), (.q (.bin .gtr (.tmp 60) (.const (.int .i64 100)))), none⟩]) 
    (.cond (.tmp 61) 
    (.seq 
    (.region [⟨(some 2), (.q (.move (.const (.bool false)))), none⟩]) .ret) .skip))) 
    (.region [⟨(some 53), (.q (.move (.tmp 5))), none⟩, ⟨(some 54), (.q (.bin .add (.tmp 53) (.const (.int .i64 1)))), none⟩, ⟨(some 5), (.q (.move (.tmp 54))), none⟩]))))))))) 
    (.region [⟨(some 14), (.q (.move (.tmp 3))), none⟩, ⟨(some 15), (.q (.bin .add (.tmp 14) (.const (.int .i64 1)))), none⟩, ⟨(some 3), (.q (.move (.tmp 15))), none⟩])))))) 
    (.seq 
    (.region [⟨(some 62), (.q (.move (.tmp 0))), none⟩, ⟨(some 63), (.q (.len false (.tmp 62))), none⟩, ⟨(some 64), (.q (.bin .leq (.tmp 63) (.const (.int .i64 10)))), none⟩, ⟨(some 2), (.q (.move (.tmp 64))), none⟩]) .ret)))
theorem t30 : Told Tryd.prog 30 65 c30 [(.tmp 2)] := ⟨Tryd.f30, _, [], Tryd.func30, rfl, by kernel_rfl, rfl, by kernel_rfl, by kernel_rfl⟩
def c39 : ACode := 
    (.seq 
    (.region [⟨(some 2), (.q (.move (.const (.bool false)))), none⟩]) 
    (.seq 
    (.seq 
    (.region [⟨(some 3), (.q (.move (.const (.int .i64 0)))), none⟩]) 
    (.block 0 
    (.loop 
    (.seq 
    (.seq 
    (.region [⟨(some 4), (.q (.move (.tmp 3))), none⟩, ⟨(some 5), (.q (.move (.tmp 0))), none⟩, ⟨(some 6), (.q (.len true (.tmp 5))), none⟩, ⟨(some 7), (.q (.bin .lss (.tmp 4) (.tmp 6))), none⟩]) 
    (.cond (.tmp 7) .skip (.exit 0))) 
    (.seq 
    (.block 1 
    (.seq 
    (.region [⟨(some 10), (.q (.move (.tmp 0))), none⟩, ⟨(some 11), (.q (.move (.tmp 3))), none⟩, ⟨(some 12), (.q (.idxStr (.tmp 10) (.tmp 11))), none⟩, ⟨(some 13), (.q (.bin .eql (.tmp 12) (.const (.int .u8 0)))), none⟩]) 
    (.cond (.tmp 13) 
    (.seq 
    (.region [⟨(some 2), (.q (.move (.const (.bool false)))), none⟩]) .ret) .skip))) 
    (.region [⟨(some 8), (.q (.move (.tmp 3))), none⟩, ⟨(some 9), (.q (.bin .add (.tmp 8) (.const (.int .i64 1)))), none⟩, ⟨(some 3), (.q (.move (.tmp 9))), none⟩])))))) 
    (.seq 
    (.region [⟨(some 14), (.q (.move (.tmp 0))), none⟩, ⟨(some 15), (.q (.bin .neq (.tmp 14) (.const (.str (B []))))), none⟩, ⟨(some 2), (.q (.move (.tmp 15))), none⟩]) .ret)))
theorem t39 : Told Tryd.prog 39 16 c39 [(.tmp 2)] := ⟨Tryd.f39, _, [], Tryd.func39, rfl, by kernel_rfl, rfl, by kernel_rfl, by kernel_rfl⟩
def c31 : ACode := 
    (.seq 
    (.region [⟨(some 0), (.q (.move (.const (.bool false)))), none⟩]) 
    (.seq 
    (.region [⟨(some 8), (.s (.lit 9 1 [(.const (.str (B [109]))), (.const (.str (B [110])))])), none⟩, ⟨(some 9), (.q (.build [(.str (B [])), .nils, (.str (B [])), (.str (B [])), (.str (B [])), (.int .i64 0), (.int .i64 0)] [(0, (1, (.const (.str (B [99, 111, 110, 102, 45, 49]))))), (1, (1, (.tmp 8))), (2, (1, (.const (.str (B [107]))))), (3, (1, (.const (.str (B [100]))))), (4, (1, (.const (.str (B [116]))))), (5, (1, (.const (.int .i64 5)))), (6, (1, (.const (.int .i64 1))))])), none⟩, ⟨(some 1), (.s (.alloc 54 [(.str (B [])), .nils, (.str (B [])), (.str (B [])), (.str (B [])), (.int .i64 0), (.int .i64 0)])), none⟩, ⟨none, (.s (.store 7 (.tmp 1) (.tmp 9))), none⟩]) 
    (.seq 
    (.region [⟨(some 11), (.q (.load true 7 (.tmp 1))), none⟩, ⟨(some 12), (.s (.call 37 [(.tmp 11)])), none⟩, ⟨(some 13), (.s (.call 32 [(.tmp 12)])), none⟩, ⟨(some 10), (.q (.move (.tmp 13))), none⟩, ⟨(some 14), (.q (.extract 0 (.tmp 10))), none⟩, ⟨(some 15), (.q (.extract 1 (.tmp 10))), none⟩, ⟨(some 2), (.s (.alloc 54 [(.str (B [])), .nils, (.str (B [])), (.str (B [])), (.str (B [])), (.int .i64 0), (.int .i64 0)])), none⟩, ⟨none, (.s (.store 7 (.tmp 2) (.tmp 14))), none⟩, ⟨(some 3), (.q (.move (.tmp 15))), none⟩]) 
    (.seq 
    (.region [⟨(some 17), (.q (.build [(.str (B [])), .nils, (.str (B [])), (.str (B [])), (.str (B [])), (.int .i64 0), (.int .i64 0)] [(0, (1, (.const (.str (B [117])))))])), none⟩, ⟨(some 18), (.q (.load true 7 (.tmp 1))), none⟩, ⟨(some 19), (.s (.lit 54 7 [(.tmp 17), (.tmp 18)])), none⟩, ⟨(some 20), (.s (.call 34 [(.tmp 19), (.const (.str (B [117]))), (.const (.str (B [110])))])), none⟩, ⟨(some 16), (.q (.move (.tmp 20))), none⟩, ⟨(some 21), (.q (.extract 0 (.tmp 16))), none⟩, ⟨(some 22), (.q (.extract 1 (.tmp 16))), none⟩, ⟨(some 4), (.s (.alloc 54 [(.str (B [])), .nils, (.str (B [])), (.str (B [])), (.str (B [])), (.int .i64 0), (.int .i64 0)])), none⟩, ⟨none, (.s (.store 7 (.tmp 4) (.tmp 21))), none⟩, ⟨(some 5), (.q (.move (.tmp 22))), none⟩]) 
    (.seq 
    (.region [⟨(some 24), (.q (.load true 7 (.tmp 1))), none⟩, ⟨(some 25), (.s (.lit 54 7 [(.tmp 24)])), none⟩, ⟨(some 26), (.s (.call 34 [(.tmp 25), (.const (.str (B [99, 111, 110, 102, 45, 49]))), (.const (.str (B [113])))])), none⟩, ⟨(some 23), (.q (.move (.tmp 26))), none⟩, ⟨(some 27), (.q (.extract 0 (.tmp 23))), none⟩, ⟨(some 28), (.q (.extract 1 (.tmp 23))), none⟩, ⟨(some 6), (.s (.alloc 54 [(.str (B [])), .nils, (.str (B [])), (.str (B [])), (.str (B [])), (.int .i64 0), (.int .i64 0)])), none⟩, ⟨none, (.s (.store 7 (.tmp 6) (.tmp 27))), none⟩, ⟨(some 7), (.q (.move (.tmp 28))), none⟩]) 
    (.seq 
    (.region [⟨(some 29), (.q (.load true 7 (.tmp 2))), none⟩, ⟨(some 30), (.q (.load true 7 (.tmp 1))), none⟩, ⟨(some 31), (.s (.call 36 [(.tmp 29), (.tmp 30)])), none⟩, ⟨(some 32), (.q (.move (.tmp 31))), none⟩, ⟨(some 33), (.q (.move (.tmp 3))), (some (32, true))⟩, ⟨(some 34), (.q (.bin .eql (.tmp 33) (.const (.int .i64 0)))), (some (32, true))⟩, ⟨(some 35), (.q (.pick (.tmp 32) (.tmp 34) (.const (.bool false)))), none⟩, ⟨(some 36), (.q (.move (.tmp 35))), none⟩, ⟨(some 37), (.q (.fieldAddr 0 (.tmp 4))), (some (36, true))⟩, ⟨(some 38), (.q (.load false 1 (.tmp 37))), (some (36, true))⟩, ⟨(some 39), (.q (.bin .eql (.tmp 38) (.const (.str (B [99, 111, 110, 102, 45, 49]))))), (some (36, true))⟩, ⟨(some 40), (.q (.pick (.tmp 36) (.tmp 39) (.const (.bool false)))), none⟩, ⟨(some 41), (.q (.move (.tmp 40))), none⟩, ⟨(some 42), (.q (.move (.tmp 5))), (some (41, true))⟩, ⟨(some 43), (.q (.bin .eql (.tmp 42) (.const (.int .i64 0)))), (some (41, true))⟩, ⟨(some 44), (.q (.pick (.tmp 41) (.tmp 43) (.const (.bool false)))), none⟩, ⟨(some 45), (.q (.move (.tmp 44))), none⟩, ⟨(some 46), (.q (.move (.tmp 7))), (some (45, true))⟩, ⟨(some 47), (.q (.bin .eql (.tmp 46) (.const (.int .i64 11)))), (some (45, true))⟩, ⟨(some 48), (.q (.pick (.tmp 45) (.tmp 47) (.const (.bool false)))), none⟩, ⟨(some 49), (.q (.move (.tmp 48))), none⟩, ⟨(some 50), (.q (.load true 7 (.tmp 1))), (some (49, true))⟩, ⟨(some 51), (.s (.call 40 [(.tmp 50), (.const (.str (B [109])))])), (some (49, true))⟩, ⟨(some 52), (.q (.pick (.tmp 49) (.tmp 51) (.const (.bool false)))), none⟩, ⟨(some 53), (.q (.move (.tmp 52))), none⟩, ⟨(some 54), (.q (.load true 7 (.tmp 1))), (some (53, true))⟩, ⟨(some 55), (.s (.call 40 [(.tmp 54), (.const (.str (B [113])))])), (some (53, true))⟩, ⟨(some 56), (.q (.un .not (.tmp 55))), (some (53, true))⟩, ⟨(some 57), (.q (.pick (.tmp 53) (.tmp 56) (.const (.bool false)))), none⟩, ⟨(some 0), (.q (.move (.tmp 57))), none⟩]) .ret))))))
theorem t31 : Told Tryd.prog 31 58 c31 [(.tmp 0)] := ⟨Tryd.f31, _, [], Tryd.func31, rfl, by kernel_rfl, rfl, by kernel_rfl, by kernel_rfl⟩
def c7 : ACode := 
    (.seq 
    (.region [⟨(some 3), (.s (.box 51 (.tmp 1))), none⟩, ⟨(some 4), (.q (.move (.const (.bool false)))), none⟩]) 
    (.seq 
    (.seq 
    (.region [⟨(some 13), (.q (.move (.tmp 0))), none⟩, ⟨(some 14), (.s (.call 30 [(.tmp 13)])), none⟩, ⟨(some 15), (.q (.un .not (.tmp 14))), none⟩, ⟨(some 16), (.q (.move (.tmp 15))), none⟩, ⟨(some 17), (.q (.idxPt 1 2 (.tmp 3) (.const (.int .i64 0)))), (some (16, false))⟩, ⟨(some 18), (.q (.load false 1 (.tmp 17))), (some (16, false))⟩, ⟨(some 19), (.q (.len true (.tmp 18))), (some (16, false))⟩, ⟨(some 20), (.q (.bin .gtr (.tmp 19) (.const (.int .i64 100)))), (some (16, false))⟩, ⟨(some 21), (.q (.pick (.tmp 16) (.const (.bool true)) (.tmp 20))), none⟩, ⟨(some 22), (.q (.move (.tmp 21))), none⟩, ⟨(some 23), (.q (.idxPt 1 2 (.tmp 3) (.const (.int .i64 1)))), (some (22, false))⟩, ⟨(some 24), (.q (.load false 1 (.tmp 23))), (some (22, false))⟩, ⟨(some 25), (.q (.len true (.tmp 24))), (some (22, false))⟩, ⟨(some 26), (.q (.bin .gtr (.tmp 25) (.const (.int .i64 100)))), (some (22, false))⟩, ⟨(some 27), (.q (.pick (.tmp 22) (.const (.bool true)) (.tmp 26))), none⟩]) 
    (.cond (.tmp 27) 
    (.seq 
    (.region [⟨(some 28), (.s (.call 31 [])), none⟩, ⟨(some 4), (.q (.move (.tmp 28))), none⟩]) .ret) .skip)) 
    (.seq 
    (.seq 
    (.region [⟨(some 5), (.q (.move (.const (.int .i64 0)))), none⟩]) 
    (.block 0 
    (.loop 
    (.seq 
    (.seq 
    (.region [⟨(some 29), (.q (.move (.tmp 5))), none⟩, ⟨(some 30), (.q (.move (.tmp 0))), none⟩, ⟨(some 31), (.q (.len false (.tmp 30))), none⟩, ⟨(some 32), (.q (.bin .lss (.tmp 29) (.tmp 31))), none⟩]) 
    (.cond (.tmp 32) .skip (.exit 0))) 
    (.seq 
    (.block 1 
    (.seq 
    (.region [⟨(some 35), (.q (.move (.tmp 0))), none⟩, ⟨(some 36), (.q (.move (.tmp 5))), none⟩, ⟨(some 37), (.q (.idxSl 7 (.tmp 35) (.tmp 36))), none⟩, ⟨(some 38), (.q (.load true 7 (.tmp 37))), none⟩, ⟨(some 6), (.s (.alloc 54 [(.str (B [])), .nils, (.str (B [])), (.str (B [])), (.str (B [])), (.int .i64 0), (.int .i64 0)])), none⟩, ⟨none, (.s (.store 7 (.tmp 6) (.tmp 38))), none⟩]) 
    (.seq 
    (.region [⟨(some 40), (.q (.load true 7 (.tmp 6))), none⟩, ⟨(some 41), (.s (.call 37 [(.tmp 40)])), none⟩, ⟨(some 42), (.s (.call 32 [(.tmp 41)])), none⟩, ⟨(some 39), (.q (.move (.tmp 42))), none⟩, ⟨(some 43), (.q (.extract 0 (.tmp 39))), none⟩, ⟨(some 44), (.q (.extract 1 (.tmp 39))), none⟩, ⟨(some 7), (.s (.alloc 54 [(.str (B [])), .nils, (.str (B [])), (.str (B [])), (.str (B [])), (.int .i64 0), (.int .i64 0)])), none⟩, ⟨none, (.s (.store 7 (.tmp 7) (.tmp 43))), none⟩, ⟨(some 8), (.q (.move (.tmp 44))), none⟩]) 
    (.seq 
    (.region [⟨(some 45), (.q (.fieldAddr 1 (.tmp 6))), none⟩, ⟨(some 46), (.q (.load false 1 (.tmp 45))), none⟩, ⟨(some 47), (.q (.len false (.tmp 46))), none⟩, ⟨(some 48), (.q (.bin .gtr (.tmp 47) (.const (.int .i64 0)))), none⟩, ⟨(some 49), (.q (.move (.tmp 48))), none⟩, ⟨(some 50), (.q (.fieldAddr 2 (.tmp 6))), (some (49, true))⟩, ⟨(some 51), (.q (.load false 1 (.tmp 50))), (some (49, true))⟩, ⟨(some 52), (.s (.call 39 [(.tmp 51)])), (some (49, true))⟩, ⟨(some 53), (.q (.pick (.tmp 49) (.tmp 52) (.const (.bool false)))), none⟩, ⟨(some 54), (.q (.move (.tmp 53))), none⟩, ⟨(some 55), (.q (.fieldAddr 3 (.tmp 6))), (some (54, true))⟩, ⟨(some 56), (.q (.load false 1 (.tmp 55))), (some (54, true))⟩, ⟨(some 57), (.s (.call 39 [(.tmp 56)])), (some (54, true))⟩, ⟨(some 58), (.q (.pick (.tmp 54) (.tmp 57) (.const (.bool false)))), none⟩, ⟨(some 59), (.q (.move (.tmp 58))), none⟩, ⟨(some 60), (.q (.fieldAddr 4 (.tmp 6))), (some (59, true))⟩, ⟨(some 61), (.q (.load false 1 (.tmp 60))), (some (59, true))⟩, ⟨(some 62), (.s (.call 39 [(.tmp 61)])), (some (59, true))⟩, ⟨(some 63), (.q (.pick (.tmp 59) (.tmp 62) (.const (.bool false)))), none⟩, ⟨(some 64), (.q (.move (.tmp 63))), none⟩, ⟨(some 65), (.q (.fieldAddr 5 (.tmp 6))), (some (64, true))⟩, ⟨(some 66), (.q (.load false 1 (.tmp 65))), (some (64, true))⟩, ⟨(some 67), (.q (.bin .geq (.tmp 66) (.const (.int .i64 0)))), (some (64, true))⟩, ⟨(some 68), (.q (.pick (.tmp 64) (.tmp 67) (.const (.bool false)))), none⟩, ⟨(some 69), (.q (.move (.tmp 68))), none⟩, ⟨(some 70), (.q (.fieldAddr 5 (.tmp 6))), (some (69, true))⟩, ⟨(some 71), (.q (.load false 1 (.tmp 70))), (some (69, true))⟩, ⟨(some 72), (.q (.bin .leq (.tmp 71) (.const (.int .i64 4294967295)))), (some (69, true))⟩, ⟨(some 73), (.q (.pick (.tmp 69) (.tmp 72) (.const (.bool false)))), none⟩, ⟨(some 74), (.q (.move (.tmp 73))), none⟩, ⟨(some 75), (.q (.fieldAddr 6 (.tmp 6))), (some (74, true))⟩, ⟨(some 76), (.q (.load false 1 (.tmp 75))), (some (74, true))⟩, ⟨(some 77), (.q (.bin .geq (.tmp 76) (.const (.int .i64 0)))), (some (74, true))⟩, ⟨(some 78), (.q (.pick (.tmp 74) (.tmp 77) (.const (.bool false)))), none⟩, ⟨(some 79), (.q (.move (.tmp 78))), none⟩, ⟨(some 80), (.q (.fieldAddr 6 (.tmp 6))), (some (79, true))⟩, ⟨(some 81), (.q (.load false 1 (.tmp 80))), (some (79, true))⟩, ⟨(some 82), (.q (.bin .leq (.tmp 81) (.const (.int .i64 4294967295)))), (some (79, true))⟩, ⟨(some 83), (.q (.pick (.tmp 79) (.tmp 82) (.const (.bool false)))), none⟩, ⟨(some 9), (.q (.move (.tmp 83))), none⟩]) 
    (.seq 
    (.seq 
    (.region [⟨(some 10), (.q (.move (.const (.int .i64 0)))), none⟩]) 
    (.block 2 
    (.loop 
    (.seq 
    (.seq 
    (.region [⟨(some 84), (.q (.move (.tmp 10))), none⟩, ⟨(some 85), (.q (.fieldAddr 1 (.tmp 6))), none⟩, ⟨(some 86), (.q (.load false 1 (.tmp 85))), none⟩, ⟨(some 87), (.q (.len false (.tmp 86))), none⟩, ⟨(some 88), (.q (.bin .lss (.tmp 84) (.tmp 87))), none⟩]) 
    (.cond (.tmp 88) .skip (.exit 2))) 
    (.seq 
    (.block 3 
    (.region [⟨(some 91), (.q (.move (.tmp 9))), none⟩, ⟨(some 92), (.q (.move (.tmp 91))), none⟩, ⟨(some 93), (.q (.fieldAddr 1 (.tmp 6))), (some (92, true))⟩, ⟨(some 94), (.q (.load false 1 (.tmp 93))), (some (92, true))⟩, ⟨(some 95), (.q (.move (.tmp 10))), (some (92, true))⟩, ⟨(some 96), (.q (.idxSl 1 (.tmp 94) (.tmp 95))), (some (92, true))⟩, ⟨(some 97), (.q (.load false 1 (.tmp 96))), (some (92, true))⟩, ⟨(some 98), (.q (.bin .eql (.tmp 97) (.const (.str (B []))))), (some (92, true))⟩, ⟨(some 99), (.q (.move (.tmp 98))), (some (92, true))⟩, ⟨(some 100), (.q (.fieldAddr 1 (.tmp 6))), (some (99, false))⟩, ⟨(some 101), (.q (.load false 1 (.tmp 100))), (some (99, false))⟩, ⟨(some 102), (.q (.move (.tmp 10))), (some (99, false))⟩, ⟨(some 103), (.q (.idxSl 1 (.tmp 101) (.tmp 102))), (some (99, false))⟩, ⟨(some 104), (.q (.load false 1 (.tmp 103))), (some (99, false))⟩, ⟨(some 105), (.s (.call 39 [(.tmp 104)])), (some (99, false))⟩, ⟨(some 106), (.q (.pick (.tmp 99) (.const (.bool true)) (.tmp 105))), (some (92, true))⟩, ⟨(some 107), (.q (.pick (.tmp 92) (.tmp 106) (.const (.bool false)))), none⟩, ⟨(some 9), (.q (.move (.tmp 107))), none⟩])) 
    (.region [⟨(some 89), (.q (.move (.tmp 10))), none⟩, ⟨(some 90), (.q (.bin .add (.tmp 89) (.const (.int .i64 1)))), none⟩, ⟨(some 10), (.q (.move (.tmp 90))), none⟩])))))) 
    (.seq 
    (.region [⟨(some 108), (.q (.move (.tmp 9))), none⟩, ⟨(some 109), (.q (.move (.tmp 108))), none⟩, ⟨(some 110), (.q (.move (.tmp 8))), (some (109, true))⟩, ⟨(some 111), (.q (.bin .neq (.tmp 110) (.const (.int .i64 0)))), (some (109, true))⟩, ⟨(some 112), (.q (.move (.tmp 111))), (some (109, true))⟩, ⟨(some 113), (.q (.load true 7 (.tmp 7))), (some (112, false))⟩, ⟨(some 114), (.q (.load true 7 (.tmp 6))), (some (112, false))⟩, ⟨(some 115), (.s (.call 36 [(.tmp 113), (.tmp 114)])), (some (112, false))⟩, ⟨(some 116), (.q (.un .not (.tmp 115))), (some (112, false))⟩, ⟨(some 117), (.q (.pick (.tmp 112) (.const (.bool true)) (.tmp 116))), (some (109, true))⟩, ⟨(some 118), (.q (.pick (.tmp 109) (.tmp 117) (.const (.bool false)))), none⟩]) 
    (.cond (.tmp 118) 
    (.seq 
    (.region [⟨(some 4), (.q (.move (.const (.bool false)))), none⟩]) .ret) .skip))))))) 
    (.region [⟨(some 33), (.q (.move (.tmp 5))), none⟩, ⟨(some 34), (.q (.bin .add (.tmp 33) (.const (.int .i64 1)))), none⟩, ⟨(some 5), (.q (.move (.tmp 34))), none⟩])))))) 
    (.seq 
    (.region [⟨(some 120), (.q (.move (.tmp 0))), none⟩, ⟨(some 121), (.q (.idxPt 1 2 (.tmp 3) (.const (.int .i64 0)))), none⟩, ⟨(some 122), (.q (.load false 1 (.tmp 121))), none⟩, ⟨(some 123), (.q (.idxPt 1 2 (.tmp 3) (.const (.int .i64 1)))), none⟩, ⟨(some 124), (.q (.load false 1 (.tmp 123))), none⟩, ⟨(some 125), (.s (.call 34 [(.tmp 120), (.tmp 122), (.tmp 124)])), none⟩, ⟨(some 119), (.q (.move (.tmp 125))), none⟩, ⟨(some 126), (.q (.extract 0 (.tmp 119))), none⟩, ⟨(some 127), (.q (.extract 1 (.tmp 119))), none⟩, ⟨(some 11), (.s (.alloc 54 [(.str (B [])), .nils, (.str (B [])), (.str (B [])), (.str (B [])), (.int .i64 0), (.int .i64 0)])), none⟩, ⟨none, (.s (.store 7 (.tmp 11) (.tmp 126))), none⟩, ⟨(some 12), (.q (.move (.tmp 127))), none⟩]) 
    (.seq 
    (.seq 
    (.region [⟨(some 128), (.q (.move (.tmp 12))), none⟩, ⟨(some 129), (.q (.bin .neq (.tmp 128) (.const (.int .i64 0)))), none⟩]) 
    (.cond (.tmp 129) 
    (.seq 
    (.region [⟨(some 130), (.q (.move (.tmp 12))), none⟩, ⟨(some 131), (.q (.bin .eql (.tmp 130) (.const (.int .i64 8)))), none⟩, ⟨(some 132), (.q (.move (.tmp 131))), none⟩, ⟨(some 133), (.q (.move (.tmp 12))), (some (132, false))⟩, ⟨(some 134), (.q (.bin .eql (.tmp 133) (.const (.int .i64 11)))), (some (132, false))⟩, ⟨(some 135), (.q (.pick (.tmp 132) (.const (.bool true)) (.tmp 134))), none⟩, ⟨(some 136), (.q (.move (.tmp 135))), none⟩, ⟨(some 137), (.s (.call 31 [])), (some (136, true))⟩, ⟨(some 138), (.q (.pick (.tmp 136) (.tmp 137) (.const (.bool false)))), none⟩, ⟨(some 4), (.q (.move (.tmp 138))), none⟩]) .ret) .skip)) 
    (.seq 
    (.region [⟨(some 139), (.q (.load true 7 (.tmp 11))), none⟩, ⟨(some 140), (.q (.idxPt 1 2 (.tmp 3) (.const (.int .i64 1)))), none⟩, ⟨(some 141), (.q (.load false 1 (.tmp 140))), none⟩, ⟨(some 142), (.s (.call 40 [(.tmp 139), (.tmp 141)])), none⟩, ⟨(some 143), (.q (.move (.tmp 142))), none⟩, ⟨(some 144), (.s (.call 31 [])), (some (143, true))⟩, ⟨(some 145), (.q (.pick (.tmp 143) (.tmp 144) (.const (.bool false)))), none⟩, ⟨(some 4), (.q (.move (.tmp 145))), none⟩]) .ret))))))
theorem t7 : Told Tryd.prog 7 146 c7 [(.tmp 4)] := ⟨Tryd.f7, _, [], Tryd.func7, rfl, by kernel_rfl, rfl, by kernel_rfl, by kernel_rfl⟩
end Go.Proofs.YtfiihgaohihppaaDoor.AL

