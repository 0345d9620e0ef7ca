/- Package grammar, its reference and its law: the code told. -/
import Derived.Test.YtblflecalomgfaaQGrammarFindsALA3
import Derived.Test.YtblflecalomgfaaProg
import Derived.KernelRfl
set_option maxRecDepth 100000
namespace Go.Proofs.Ytblflecalomgfaa.AL
open Go Go.Proofs
def c105 : ACode := 
    (.seq 
    (.region [⟨(some 2), (.q (.move (.const (.int .i64 0)))), none⟩]) 
    (.seq 
    (.region [⟨(some 3), (.q (.move (.const (.int .i64 0)))), none⟩]) 
    (.seq 
    (.block 0 
    (.seq 
    (.block 3 
    (.seq 
    (.block 2 
    (.seq 
    (.block 1 
    (.seq 
    (.seq 
    (.seq 
    (.seq 
    (.region [⟨(some 5), (.q (.move (.tmp 0))), none⟩, ⟨(some 6), (.q (.bin .geq (.tmp 5) (.const (.int .u8 97)))), none⟩, ⟨(some 7), (.q (.move (.tmp 6))), none⟩, ⟨(some 8), (.q (.move (.tmp 0))), (some (7, true))⟩, ⟨(some 9), (.q (.bin .leq (.tmp 8) (.const (.int .u8 122)))), (some (7, true))⟩, ⟨(some 10), (.q (.pick (.tmp 7) (.tmp 9) (.const (.bool false)))), none⟩, ⟨(some 4), (.q (.move (.tmp 10))), none⟩]) 
    (.cond (.tmp 4) .skip 
    (.region [⟨(some 11), (.q (.move (.tmp 0))), none⟩, ⟨(some 12), (.q (.bin .geq (.tmp 11) (.const (.int .u8 65)))), none⟩, ⟨(some 13), (.q (.move (.tmp 12))), none⟩, ⟨(some 14), (.q (.move (.tmp 0))), (some (13, true))⟩, ⟨(some 15), (.q (.bin .leq (.tmp 14) (.const (.int .u8 90)))), (some (13, true))⟩, ⟨(some 16), (.q (.pick (.tmp 13) (.tmp 15) (.const (.bool false)))), none⟩, ⟨(some 4), (.q (.move (.tmp 16))), none⟩]))) 
    (.cond (.tmp 4) (.exit 1) .skip)) 
    (.seq 
    (.seq 
    (.seq 
    (.region [⟨(some 18), (.q (.move (.tmp 0))), none⟩, ⟨(some 19), (.q (.bin .geq (.tmp 18) (.const (.int .u8 48)))), none⟩, ⟨(some 20), (.q (.move (.tmp 19))), none⟩, ⟨(some 21), (.q (.move (.tmp 0))), (some (20, true))⟩, ⟨(some 22), (.q (.bin .leq (.tmp 21) (.const (.int .u8 57)))), (some (20, true))⟩, ⟨(some 23), (.q (.pick (.tmp 20) (.tmp 22) (.const (.bool false)))), none⟩, ⟨(some 17), (.q (.move (.tmp 23))), none⟩]) 
    (.cond (.tmp 17) .skip 
    (.region [⟨(some 24), (.q (.move (.tmp 0))), none⟩, ⟨(some 25), (.s (.call 158 [(.const (.str (B [44, 46, 95, 43, 45]))), (.tmp 24)])), none⟩, ⟨(some 26), (.q (.bin .geq (.tmp 25) (.const (.int .i64 0)))), none⟩, ⟨(some 17), (.q (.move (.tmp 26))), none⟩]))) 
    (.cond (.tmp 17) (.exit 2) .skip)) 
    (.seq 
    (.seq 
    (.region [⟨(some 28), (.q (.move (.tmp 0))), none⟩, ⟨(some 29), (.q (.bin .eql (.tmp 28) (.const (.int .u8 63)))), none⟩, ⟨(some 27), (.q (.move (.tmp 29))), none⟩]) 
    (.cond (.tmp 27) .skip 
    (.region [⟨(some 30), (.q (.move (.tmp 0))), none⟩, ⟨(some 31), (.q (.bin .eql (.tmp 30) (.const (.int .u8 35)))), none⟩, ⟨(some 27), (.q (.move (.tmp 31))), none⟩]))) 
    (.cond (.tmp 27) (.exit 3) .skip)))) (.exit 0))) 
    (.region [⟨(some 32), (.q (.move (.tmp 3))), none⟩, ⟨(some 33), (.q (.bin .add (.tmp 32) (.const (.int .i64 1)))), none⟩, ⟨(some 3), (.q (.move (.tmp 33))), none⟩]))) 
    (.region [⟨(some 34), (.q (.move (.tmp 3))), none⟩, ⟨(some 35), (.q (.bin .add (.tmp 34) (.const (.int .i64 1)))), none⟩, ⟨(some 3), (.q (.move (.tmp 35))), none⟩]))) 
    (.seq 
    (.region [⟨(some 36), (.q (.move (.tmp 3))), none⟩, ⟨(some 37), (.q (.bin .add (.tmp 36) (.const (.int .i64 1)))), none⟩, ⟨(some 3), (.q (.move (.tmp 37))), none⟩]) (.exit 0)))) 
    (.seq 
    (.region [⟨(some 38), (.q (.move (.tmp 3))), none⟩, ⟨(some 2), (.q (.move (.tmp 38))), none⟩]) .ret))))
theorem t105 : Told Try.prog 105 39 c105 [(.tmp 2)] := ⟨Try.f105, _, [], Try.func105, rfl, by kernel_rfl, rfl, by kernel_rfl, by kernel_rfl⟩
def c106 : ACode := 
    (.seq 
    (.region [⟨(some 4), (.q (.move (.const (.bool false)))), none⟩]) 
    (.seq 
    (.seq 
    (.region [⟨(some 7), (.q (.move (.tmp 0))), none⟩, ⟨(some 8), (.s (.s2b 5 (.tmp 7))), none⟩, ⟨(some 9), (.q (.len false (.tmp 8))), none⟩, ⟨(some 10), (.q (.move (.const (.int .i64 0)))), none⟩]) 
    (.block 0 
    (.loop 
    (.seq 
    (.region [⟨(some 11), (.q (.bin .lss (.tmp 10) (.tmp 9))), none⟩]) 
    (.seq 
    (.cond (.tmp 11) .skip (.exit 0)) 
    (.seq 
    (.block 1 
    (.seq 
    (.region [⟨(some 12), (.q (.idxSl 1 (.tmp 8) (.tmp 10))), none⟩, ⟨(some 13), (.q (.load false 1 (.tmp 12))), none⟩, ⟨(some 6), (.q (.move (.tmp 13))), none⟩]) 
    (.seq 
    (.region [⟨(some 14), (.q (.move (.tmp 6))), none⟩, ⟨(some 15), (.s (.call 105 [(.tmp 14)])), none⟩, ⟨(some 16), (.q (.move (.tmp 1))), none⟩, ⟨(some 17), (.q (.bin .lss (.tmp 15) (.tmp 16))), none⟩]) 
    (.cond (.tmp 17) 
    (.seq 
    (.region [⟨(some 4), (.q (.move (.const (.bool false)))), none⟩]) .ret) .skip)))) 
    (.region [⟨(some 18), (.q (.bin .add (.tmp 10) (.const (.int .i64 1)))), none⟩, ⟨(some 10), (.q (.move (.tmp 18))), none⟩]))))))) 
    (.seq 
    (.region [⟨(some 4), (.q (.move (.const (.bool true)))), none⟩]) .ret)))
theorem t106 : Told Try.prog 106 19 c106 [(.tmp 4)] := ⟨Try.f106, _, [], Try.func106, rfl, by kernel_rfl, rfl, by kernel_rfl, by kernel_rfl⟩
def c46 : ACode := 
    (.seq 
    (.region [⟨(some 2), (.q (.move (.const (.str (B []))))), none⟩, ⟨(some 3), (.q (.move (.const (.bool false)))), none⟩]) 
    (.seq 
    (.region [⟨(some 8), (.q (.move (.tmp 0))), none⟩, ⟨(some 9), (.s (.call 77 [(.tmp 8), (.const (.str (B [64])))])), none⟩, ⟨(some 7), (.q (.move (.tmp 9))), none⟩, ⟨(some 10), (.q (.extract 0 (.tmp 7))), none⟩, ⟨(some 11), (.q (.extract 1 (.tmp 7))), none⟩, ⟨(some 12), (.q (.extract 2 (.tmp 7))), none⟩, ⟨(some 4), (.q (.move (.tmp 10))), none⟩, ⟨(some 5), (.q (.move (.tmp 11))), none⟩, ⟨(some 6), (.q (.move (.tmp 12))), none⟩]) 
    (.seq 
    (.region [⟨(some 13), (.q (.move (.tmp 5))), none⟩, ⟨(some 14), (.q (.move (.tmp 6))), none⟩, ⟨(some 2), (.q (.move (.tmp 13))), none⟩, ⟨(some 3), (.q (.move (.tmp 14))), none⟩]) .ret)))
theorem t46 : Told Try.prog 46 15 c46 [(.tmp 2), (.tmp 3)] := ⟨Try.f46, _, [], Try.func46, rfl, by kernel_rfl, rfl, by kernel_rfl, by kernel_rfl⟩
def c48 : ACode := 
    (.seq 
    (.region [⟨(some 2), (.q (.move (.const (.bool false)))), none⟩]) 
    (.seq 
    (.region [⟨(some 7), (.q (.move (.tmp 0))), none⟩, ⟨(some 8), (.s (.call 77 [(.tmp 7), (.const (.str (B [64])))])), none⟩, ⟨(some 6), (.q (.move (.tmp 8))), none⟩, ⟨(some 9), (.q (.extract 0 (.tmp 6))), none⟩, ⟨(some 10), (.q (.extract 1 (.tmp 6))), none⟩, ⟨(some 11), (.q (.extract 2 (.tmp 6))), none⟩, ⟨(some 3), (.q (.move (.tmp 9))), none⟩, ⟨(some 4), (.q (.move (.tmp 10))), none⟩, ⟨(some 5), (.q (.move (.tmp 11))), none⟩]) 
    (.seq 
    (.block 0 
    (.seq 
    (.region [⟨(some 13), (.q (.move (.tmp 0))), none⟩, ⟨(some 14), (.q (.len true (.tmp 13))), none⟩, ⟨(some 15), (.q (.bin .gtr (.tmp 14) (.const (.int .i64 31)))), none⟩, ⟨(some 16), (.q (.move (.tmp 15))), none⟩, ⟨(some 17), (.q (.move (.tmp 3))), (some (16, false))⟩, ⟨(some 18), (.q (.bin .eql (.tmp 17) (.const (.str (B []))))), (some (16, false))⟩, ⟨(some 19), (.q (.pick (.tmp 16) (.const (.bool true)) (.tmp 18))), none⟩, ⟨(some 20), (.q (.move (.tmp 19))), none⟩, ⟨(some 21), (.q (.move (.tmp 5))), (some (20, false))⟩, ⟨(some 22), (.q (.move (.tmp 21))), (some (20, false))⟩, ⟨(some 23), (.q (.move (.tmp 4))), (some (22, true))⟩, ⟨(some 24), (.q (.bin .eql (.tmp 23) (.const (.str (B []))))), (some (22, true))⟩, ⟨(some 25), (.q (.pick (.tmp 22) (.tmp 24) (.const (.bool false)))), (some (20, false))⟩, ⟨(some 26), (.q (.pick (.tmp 20) (.const (.bool true)) (.tmp 25))), none⟩, ⟨(some 12), (.q (.move (.tmp 26))), none⟩]) 
    (.cond (.tmp 12) 
    (.seq 
    (.region [⟨(some 2), (.q (.move (.const (.bool false)))), none⟩]) .ret) .skip))) 
    (.seq 
    (.region [⟨(some 27), (.q (.move (.tmp 3))), none⟩, ⟨(some 28), (.q (.idxStr (.tmp 27) (.const (.int .i64 0)))), none⟩, ⟨(some 29), (.s (.call 105 [(.tmp 28)])), none⟩, ⟨(some 30), (.q (.bin .eql (.tmp 29) (.const (.int .i64 3)))), none⟩, ⟨(some 31), (.q (.move (.tmp 30))), none⟩, ⟨(some 32), (.q (.move (.tmp 3))), (some (31, true))⟩, ⟨(some 33), (.s (.call 106 [(.tmp 32), (.const (.int .i64 2))])), (some (31, true))⟩, ⟨(some 34), (.q (.pick (.tmp 31) (.tmp 33) (.const (.bool false)))), none⟩, ⟨(some 35), (.q (.move (.tmp 34))), none⟩, ⟨(some 36), (.q (.move (.tmp 4))), (some (35, true))⟩, ⟨(some 37), (.s (.call 106 [(.tmp 36), (.const (.int .i64 2))])), (some (35, true))⟩, ⟨(some 38), (.q (.pick (.tmp 35) (.tmp 37) (.const (.bool false)))), none⟩, ⟨(some 2), (.q (.move (.tmp 38))), none⟩]) .ret))))
theorem t48 : Told Try.prog 48 39 c48 [(.tmp 2)] := ⟨Try.f48, _, [], Try.func48, rfl, by kernel_rfl, rfl, by kernel_rfl, by kernel_rfl⟩
def c50 : ACode := 
    (.seq 
    (.region [⟨(some 2), (.q (.move (.const (.bool false)))), none⟩]) 
    (.seq 
    (.region [⟨(some 3), (.q (.move (.tmp 0))), none⟩, ⟨(some 4), (.q (.bin .neq (.tmp 3) (.const (.str (B []))))), none⟩, ⟨(some 5), (.q (.move (.tmp 4))), none⟩, ⟨(some 6), (.q (.move (.tmp 0))), (some (5, true))⟩, ⟨(some 7), (.q (.len true (.tmp 6))), (some (5, true))⟩, ⟨(some 8), (.q (.bin .leq (.tmp 7) (.const (.int .i64 31)))), (some (5, true))⟩, ⟨(some 9), (.q (.pick (.tmp 5) (.tmp 8) (.const (.bool false)))), none⟩, ⟨(some 10), (.q (.move (.tmp 9))), none⟩, ⟨(some 11), (.q (.move (.tmp 0))), (some (10, true))⟩, ⟨(some 12), (.s (.call 106 [(.tmp 11), (.const (.int .i64 1))])), (some (10, true))⟩, ⟨(some 13), (.q (.pick (.tmp 10) (.tmp 12) (.const (.bool false)))), none⟩, ⟨(some 2), (.q (.move (.tmp 13))), none⟩]) .ret))
theorem t50 : Told Try.prog 50 14 c50 [(.tmp 2)] := ⟨Try.f50, _, [], Try.func50, rfl, by kernel_rfl, rfl, by kernel_rfl, by kernel_rfl⟩
def c161 : ACode := 
    (.seq 
    (.region [⟨(some 3), (.s (.box 79 (.tmp 1))), none⟩, ⟨(some 4), (.q (.move (.const (.int .i64 0)))), none⟩]) 
    (.seq 
    (.seq 
    (.region [⟨(some 8), (.q (.move (.tmp 0))), none⟩, ⟨(some 9), (.q (.mkFunc (.func 182) [] [(.tmp 3)])), none⟩, ⟨(some 10), (.s (.call 181 [(.tmp 8), (.tmp 9)])), none⟩]) 
    (.cond (.tmp 10) 
    (.seq 
    (.region [⟨(some 4), (.q (.move (.const (.int .i64 6)))), none⟩]) .ret) .skip)) 
    (.seq 
    (.region [⟨(some 11), (.s .mkmap), none⟩, ⟨(some 5), (.q (.move (.tmp 11))), none⟩]) 
    (.seq 
    (.seq 
    (.region [⟨(some 12), (.q (.move (.tmp 0))), none⟩, ⟨(some 13), (.q (.len false (.tmp 12))), none⟩, ⟨(some 14), (.q (.move (.const (.int .i64 0)))), none⟩]) 
    (.block 0 
    (.loop 
    (.seq 
    (.region [⟨(some 15), (.q (.bin .lss (.tmp 14) (.tmp 13))), none⟩]) 
    (.seq 
    (.cond (.tmp 15) .skip (.exit 0)) 
    (.seq 
    (.block 1 
    (.seq 
    (.region [⟨(some 16), (.q (.idxSl 1 (.tmp 12) (.tmp 14))), none⟩, ⟨(some 17), (.q (.load false 1 (.tmp 16))), none⟩, ⟨(some 7), (.q (.move (.tmp 17))), none⟩]) 
    (.seq 
    (.seq 
    (.region [⟨(some 18), (.q (.move (.tmp 5))), none⟩, ⟨(some 19), (.q (.move (.tmp 7))), none⟩, ⟨(some 20), (.s (.lookup true (.int .i64 0) false (.tmp 18) (.tmp 19))), none⟩, ⟨(some 21), (.q (.bin .gtr (.tmp 20) (.const (.int .i64 0)))), none⟩]) 
    (.cond (.tmp 21) 
    (.seq 
    (.region [⟨(some 4), (.q (.move (.const (.int .i64 12)))), none⟩]) .ret) .skip)) 
    (.region [⟨(some 22), (.q (.move (.tmp 5))), none⟩, ⟨(some 23), (.q (.move (.tmp 7))), none⟩, ⟨(some 24), (.s (.lookup true (.int .i64 0) false (.tmp 22) (.tmp 23))), none⟩, ⟨(some 25), (.q (.bin .add (.tmp 24) (.const (.int .i64 1)))), none⟩, ⟨none, (.s (.mapup true (.tmp 22) (.tmp 23) (.tmp 25))), none⟩])))) 
    (.region [⟨(some 26), (.q (.bin .add (.tmp 14) (.const (.int .i64 1)))), none⟩, ⟨(some 14), (.q (.move (.tmp 26))), none⟩]))))))) 
    (.seq 
    (.region [⟨(some 4), (.q (.move (.const (.int .i64 0)))), none⟩]) .ret)))))
theorem t161 : Told Try.prog 161 27 c161 [(.tmp 4)] := ⟨Try.f161, _, [], Try.func161, rfl, by kernel_rfl, rfl, by kernel_rfl, by kernel_rfl⟩
def c182 : ACode := 
    (.seq 
    (.region [⟨(some 3), (.q (.move (.const (.bool false)))), none⟩]) 
    (.seq 
    (.region [⟨(some 4), (.q (.load false 1 (.tmp 1))), none⟩, ⟨(some 5), (.q (.move (.tmp 0))), none⟩, ⟨(some 6), (.s (.callv (.tmp 4) [(.tmp 5)])), none⟩, ⟨(some 7), (.q (.un .not (.tmp 6))), none⟩, ⟨(some 3), (.q (.move (.tmp 7))), none⟩]) .ret))
theorem t182 : Told Try.prog 182 8 c182 [(.tmp 3)] := ⟨Try.f182, _, [], Try.func182, rfl, by kernel_rfl, rfl, by kernel_rfl, by kernel_rfl⟩
def c114 : ACode := 
    (.seq 
    (.region [⟨(some 1), (.s (.box 83 (.tmp 0))), none⟩, ⟨(some 2), (.q (.move (.const (.int .i64 0)))), none⟩]) 
    (.seq 
    (.region [⟨(some 3), (.q (.move (.const .nils))), none⟩, ⟨(some 4), (.q (.move (.const .nils))), none⟩]) 
    (.seq 
    (.seq 
    (.region [⟨(some 10), (.q (.fieldAddr 1 (.tmp 1))), none⟩, ⟨(some 11), (.q (.load false 1 (.tmp 10))), none⟩, ⟨(some 12), (.q (.len false (.tmp 11))), none⟩, ⟨(some 13), (.q (.move (.const (.int .i64 0)))), none⟩]) 
    (.block 0 
    (.loop 
    (.seq 
    (.region [⟨(some 14), (.q (.bin .lss (.tmp 13) (.tmp 12))), none⟩]) 
    (.seq 
    (.cond (.tmp 14) .skip (.exit 0)) 
    (.seq 
    (.block 1 
    (.seq 
    (.region [⟨(some 15), (.q (.idxSl 2 (.tmp 11) (.tmp 13))), none⟩, ⟨(some 16), (.q (.load true 2 (.tmp 15))), none⟩, ⟨(some 6), (.s (.alloc 95 [(.str (B [])), (.str (B []))])), none⟩, ⟨none, (.s (.store 2 (.tmp 6) (.tmp 16))), none⟩]) 
    (.region [⟨(some 17), (.q (.move (.tmp 3))), none⟩, ⟨(some 18), (.q (.fieldAddr 0 (.tmp 6))), none⟩, ⟨(some 19), (.q (.load false 1 (.tmp 18))), none⟩, ⟨(some 20), (.s (.lit 9 1 [(.tmp 19)])), none⟩, ⟨(some 21), (.s (.app 9 1 16 (.tmp 17) (.tmp 20))), none⟩, ⟨(some 3), (.q (.move (.tmp 21))), none⟩]))) 
    (.region [⟨(some 22), (.q (.bin .add (.tmp 13) (.const (.int .i64 1)))), none⟩, ⟨(some 13), (.q (.move (.tmp 22))), none⟩]))))))) 
    (.seq 
    (.seq 
    (.region [⟨(some 23), (.q (.fieldAddr 2 (.tmp 1))), none⟩, ⟨(some 24), (.q (.load false 1 (.tmp 23))), none⟩, ⟨(some 25), (.q (.len false (.tmp 24))), none⟩, ⟨(some 26), (.q (.move (.const (.int .i64 0)))), none⟩]) 
    (.block 2 
    (.loop 
    (.seq 
    (.region [⟨(some 27), (.q (.bin .lss (.tmp 26) (.tmp 25))), none⟩]) 
    (.seq 
    (.cond (.tmp 27) .skip (.exit 2)) 
    (.seq 
    (.block 3 
    (.seq 
    (.region [⟨(some 28), (.q (.idxSl 3 (.tmp 24) (.tmp 26))), none⟩, ⟨(some 29), (.q (.load true 3 (.tmp 28))), none⟩, ⟨(some 8), (.s (.alloc 83 [(.str (B [])), .nils, .nils])), none⟩, ⟨none, (.s (.store 3 (.tmp 8) (.tmp 29))), none⟩]) 
    (.region [⟨(some 30), (.q (.move (.tmp 4))), none⟩, ⟨(some 31), (.q (.fieldAddr 0 (.tmp 8))), none⟩, ⟨(some 32), (.q (.load false 1 (.tmp 31))), none⟩, ⟨(some 33), (.s (.lit 9 1 [(.tmp 32)])), none⟩, ⟨(some 34), (.s (.app 9 1 16 (.tmp 30) (.tmp 33))), none⟩, ⟨(some 4), (.q (.move (.tmp 34))), none⟩]))) 
    (.region [⟨(some 35), (.q (.bin .add (.tmp 26) (.const (.int .i64 1)))), none⟩, ⟨(some 26), (.q (.move (.tmp 35))), none⟩]))))))) 
    (.seq 
    (.seq 
    (.region [⟨(some 36), (.q (.move (.tmp 3))), none⟩, ⟨(some 37), (.s (.call 161 [(.tmp 36), (.const (.func (.func 50) [] []))])), none⟩, ⟨(some 9), (.q (.move (.tmp 37))), none⟩]) 
    (.seq 
    (.region [⟨(some 38), (.q (.move (.tmp 9))), none⟩, ⟨(some 39), (.q (.bin .neq (.tmp 38) (.const (.int .i64 0)))), none⟩]) 
    (.cond (.tmp 39) 
    (.seq 
    (.region [⟨(some 40), (.q (.move (.tmp 9))), none⟩, ⟨(some 2), (.q (.move (.tmp 40))), none⟩]) .ret) .skip))) 
    (.seq 
    (.region [⟨(some 41), (.q (.move (.tmp 4))), none⟩, ⟨(some 42), (.s (.call 161 [(.tmp 41), (.const (.func (.func 48) [] []))])), none⟩, ⟨(some 2), (.q (.move (.tmp 42))), none⟩]) .ret))))))
theorem t114 : Told Try.prog 114 43 c114 [(.tmp 2)] := ⟨Try.f114, _, [], Try.func114, rfl, by kernel_rfl, rfl, by kernel_rfl, by kernel_rfl⟩
def c53 : ACode := 
    (.seq 
    (.region [⟨(some 1), (.s (.box 83 (.tmp 0))), none⟩, ⟨(some 2), (.q (.move (.const (.int .i64 0)))), none⟩]) 
    (.seq 
    (.region [⟨(some 10), (.q (.load true 3 (.tmp 1))), none⟩, ⟨(some 11), (.s (.call 111 [(.tmp 10)])), none⟩, ⟨(some 9), (.q (.move (.tmp 11))), none⟩, ⟨(some 12), (.q (.extract 0 (.tmp 9))), none⟩, ⟨(some 13), (.q (.extract 1 (.tmp 9))), none⟩, ⟨(some 14), (.q (.extract 2 (.tmp 9))), none⟩, ⟨(some 3), (.q (.move (.tmp 12))), none⟩, ⟨(some 4), (.q (.move (.tmp 13))), none⟩, ⟨(some 5), (.q (.move (.tmp 14))), none⟩]) 
    (.seq 
    (.block 0 
    (.seq 
    (.region [⟨(some 16), (.q (.move (.tmp 5))), none⟩, ⟨(some 17), (.q (.bin .gtr (.tmp 16) (.const (.int .i64 8)))), none⟩, ⟨(some 15), (.q (.move (.tmp 17))), none⟩]) 
    (.cond (.tmp 15) 
    (.seq 
    (.region [⟨(some 2), (.q (.move (.const (.int .i64 13)))), none⟩]) .ret) 
    (.seq 
    (.region [⟨(some 19), (.q (.load true 3 (.tmp 1))), none⟩, ⟨(some 20), (.s (.call 112 [(.tmp 19)])), none⟩, ⟨(some 21), (.q (.un .not (.tmp 20))), none⟩, ⟨(some 18), (.q (.move (.tmp 21))), none⟩]) 
    (.cond (.tmp 18) 
    (.seq 
    (.region [⟨(some 2), (.q (.move (.const (.int .i64 7)))), none⟩]) .ret) 
    (.seq 
    (.region [⟨(some 23), (.q (.fieldAddr 0 (.tmp 1))), none⟩, ⟨(some 24), (.q (.load false 1 (.tmp 23))), none⟩, ⟨(some 25), (.q (.bin .neq (.tmp 24) (.const (.str (B []))))), none⟩, ⟨(some 22), (.q (.move (.tmp 25))), none⟩]) 
    (.cond (.tmp 22) 
    (.seq 
    (.region [⟨(some 2), (.q (.move (.const (.int .i64 6)))), none⟩]) .ret) .skip))))))) 
    (.seq 
    (.seq 
    (.region [⟨(some 26), (.q (.load true 3 (.tmp 1))), none⟩, ⟨(some 27), (.s (.call 113 [(.tmp 26)])), none⟩, ⟨(some 28), (.q (.len false (.tmp 27))), none⟩, ⟨(some 29), (.q (.move (.const (.int .i64 0)))), none⟩]) 
    (.block 1 
    (.loop 
    (.seq 
    (.region [⟨(some 30), (.q (.bin .lss (.tmp 29) (.tmp 28))), none⟩]) 
    (.seq 
    (.cond (.tmp 30) .skip (.exit 1)) 
    (.seq 
    (.block 2 
    (.seq 
    (.region [⟨(some 31), (.q (.idxSl 4 (.tmp 27) (.tmp 29))), none⟩, ⟨(some 32), (.q (.load true 4 (.tmp 31))), none⟩, ⟨(some 7), (.s (.alloc 91 [(.str (B [])), (.str (B [])), .nils, .nils])), none⟩, ⟨none, (.s (.store 4 (.tmp 7) (.tmp 32))), none⟩]) 
    (.seq 
    (.region [⟨(some 33), (.q (.fieldAddr 1 (.tmp 7))), none⟩, ⟨(some 34), (.q (.load true 3 (.tmp 33))), none⟩, ⟨(some 35), (.s (.call 114 [(.tmp 34)])), none⟩, ⟨(some 8), (.q (.move (.tmp 35))), none⟩]) 
    (.seq 
    (.region [⟨(some 36), (.q (.move (.tmp 8))), none⟩, ⟨(some 37), (.q (.bin .neq (.tmp 36) (.const (.int .i64 0)))), none⟩]) 
    (.cond (.tmp 37) 
    (.seq 
    (.region [⟨(some 38), (.q (.move (.tmp 8))), none⟩, ⟨(some 2), (.q (.move (.tmp 38))), none⟩]) .ret) .skip))))) 
    (.region [⟨(some 39), (.q (.bin .add (.tmp 29) (.const (.int .i64 1)))), none⟩, ⟨(some 29), (.q (.move (.tmp 39))), none⟩]))))))) 
    (.seq 
    (.region [⟨(some 2), (.q (.move (.const (.int .i64 0)))), none⟩]) .ret)))))
theorem t53 : Told Try.prog 53 40 c53 [(.tmp 2)] := ⟨Try.f53, _, [], Try.func53, rfl, by kernel_rfl, rfl, by kernel_rfl, by kernel_rfl⟩
def c181 : ACode := 
    (.seq 
    (.region [⟨(some 4), (.q (.move (.const (.bool false)))), none⟩]) 
    (.seq 
    (.region [⟨(some 5), (.q (.move (.tmp 0))), none⟩, ⟨(some 6), (.q (.move (.tmp 1))), none⟩, ⟨(some 7), (.s (.call 191 [(.tmp 5), (.tmp 6)])), none⟩, ⟨(some 8), (.q (.bin .geq (.tmp 7) (.const (.int .i64 0)))), none⟩, ⟨(some 4), (.q (.move (.tmp 8))), none⟩]) .ret))
theorem t181 : Told Try.prog 181 9 c181 [(.tmp 4)] := ⟨Try.f181, _, [], Try.func181, rfl, by kernel_rfl, rfl, by kernel_rfl, by kernel_rfl⟩
def c191 : ACode := 
    (.seq 
    (.region [⟨(some 4), (.q (.move (.const (.int .i64 0)))), none⟩]) 
    (.seq 
    (.seq 
    (.region [⟨(some 6), (.q (.move (.tmp 0))), none⟩, ⟨(some 7), (.q (.len false (.tmp 6))), none⟩, ⟨(some 8), (.q (.move (.const (.int .i64 0)))), none⟩]) 
    (.block 0 
    (.loop 
    (.seq 
    (.region [⟨(some 9), (.q (.bin .lss (.tmp 8) (.tmp 7))), none⟩]) 
    (.seq 
    (.cond (.tmp 9) .skip (.exit 0)) 
    (.seq 
    (.block 1 
    (.seq 
    (.region [⟨(some 10), (.q (.move (.tmp 8))), none⟩, ⟨(some 5), (.q (.move (.tmp 10))), none⟩]) 
    (.seq 
    (.region [⟨(some 11), (.q (.move (.tmp 1))), none⟩, ⟨(some 12), (.q (.move (.tmp 0))), none⟩, ⟨(some 13), (.q (.move (.tmp 5))), none⟩, ⟨(some 14), (.q (.idxSl 1 (.tmp 12) (.tmp 13))), none⟩, ⟨(some 15), (.q (.load false 1 (.tmp 14))), none⟩, ⟨(some 16), (.s (.callv (.tmp 11) [(.tmp 15)])), none⟩]) 
    (.cond (.tmp 16) 
    (.seq 
    (.region [⟨(some 17), (.q (.move (.tmp 5))), none⟩, ⟨(some 4), (.q (.move (.tmp 17))), none⟩]) .ret) .skip)))) 
    (.region [⟨(some 18), (.q (.bin .add (.tmp 8) (.const (.int .i64 1)))), none⟩, ⟨(some 8), (.q (.move (.tmp 18))), none⟩]))))))) 
    (.seq 
    (.region [⟨(some 4), (.q (.move (.const (.int .i64 (-1))))), none⟩]) .ret)))
theorem t191 : Told Try.prog 191 19 c191 [(.tmp 4)] := ⟨Try.f191, _, [], Try.func191, rfl, by kernel_rfl, rfl, by kernel_rfl, by kernel_rfl⟩
def c45 : ACode := 
    (.seq 
    (.region [⟨(some 0), (.q (.move (.const (.bool false)))), none⟩]) 
    (.seq 
    (.region [⟨(some 4), (.s (.call 46 [(.const (.str (B [99, 112, 117, 64, 48])))])), none⟩, ⟨(some 3), (.q (.move (.tmp 4))), none⟩, ⟨(some 5), (.q (.extract 0 (.tmp 3))), none⟩, ⟨(some 6), (.q (.extract 1 (.tmp 3))), none⟩, ⟨(some 1), (.q (.move (.tmp 5))), none⟩, ⟨(some 2), (.q (.move (.tmp 6))), none⟩]) 
    (.seq 
    (.region [⟨(some 7), (.s (.call 48 [(.const (.str (B [99, 112, 117, 64, 48])))])), none⟩, ⟨(some 8), (.q (.move (.tmp 7))), none⟩, ⟨(some 9), (.s (.call 48 [(.const (.str (B [64, 48])))])), (some (8, true))⟩, ⟨(some 10), (.q (.un .not (.tmp 9))), (some (8, true))⟩, ⟨(some 11), (.q (.pick (.tmp 8) (.tmp 10) (.const (.bool false)))), none⟩, ⟨(some 12), (.q (.move (.tmp 11))), none⟩, ⟨(some 13), (.s (.call 48 [(.const (.str (B [48, 97])))])), (some (12, true))⟩, ⟨(some 14), (.q (.un .not (.tmp 13))), (some (12, true))⟩, ⟨(some 15), (.q (.pick (.tmp 12) (.tmp 14) (.const (.bool false)))), none⟩, ⟨(some 16), (.q (.move (.tmp 15))), none⟩, ⟨(some 17), (.s (.call 50 [(.const (.str (B [35, 99, 101, 108, 108, 115])))])), (some (16, true))⟩, ⟨(some 18), (.q (.pick (.tmp 16) (.tmp 17) (.const (.bool false)))), none⟩, ⟨(some 19), (.q (.move (.tmp 18))), none⟩, ⟨(some 20), (.s (.call 50 [(.const (.str (B [97, 32, 98])))])), (some (19, true))⟩, ⟨(some 21), (.q (.un .not (.tmp 20))), (some (19, true))⟩, ⟨(some 22), (.q (.pick (.tmp 19) (.tmp 21) (.const (.bool false)))), none⟩, ⟨(some 23), (.q (.move (.tmp 22))), none⟩, ⟨(some 24), (.q (.move (.tmp 1))), (some (23, true))⟩, ⟨(some 25), (.q (.bin .eql (.tmp 24) (.const (.str (B [48]))))), (some (23, true))⟩, ⟨(some 26), (.q (.pick (.tmp 23) (.tmp 25) (.const (.bool false)))), none⟩, ⟨(some 27), (.q (.move (.tmp 26))), none⟩, ⟨(some 28), (.q (.move (.tmp 2))), (some (27, true))⟩, ⟨(some 29), (.q (.pick (.tmp 27) (.tmp 28) (.const (.bool false)))), none⟩, ⟨(some 30), (.q (.move (.tmp 29))), none⟩, ⟨(some 31), (.q (.build [(.str (B [])), .nils, .nils] [(0, (1, (.const (.str (B [97])))))])), (some (30, true))⟩, ⟨(some 32), (.q (.build [(.str (B [])), .nils, .nils] [(0, (1, (.const (.str (B [97])))))])), (some (30, true))⟩, ⟨(some 33), (.s (.lit 83 3 [(.tmp 31), (.tmp 32)])), (some (30, true))⟩, ⟨(some 34), (.q (.build [(.str (B [])), .nils, .nils] [(2, (1, (.tmp 33)))])), (some (30, true))⟩, ⟨(some 35), (.s (.call 53 [(.tmp 34)])), (some (30, true))⟩, ⟨(some 36), (.q (.bin .eql (.tmp 35) (.const (.int .i64 12)))), (some (30, true))⟩, ⟨(some 37), (.q (.pick (.tmp 30) (.tmp 36) (.const (.bool false)))), none⟩, ⟨(some 38), (.q (.move (.tmp 37))), none⟩, ⟨(some 39), (.q (.build [(.str (B [])), .nils, .nils] [])), (some (38, true))⟩, ⟨(some 40), (.s (.call 53 [(.tmp 39)])), (some (38, true))⟩, ⟨(some 41), (.q (.bin .eql (.tmp 40) (.const (.int .i64 0)))), (some (38, true))⟩, ⟨(some 42), (.q (.pick (.tmp 38) (.tmp 41) (.const (.bool false)))), none⟩, ⟨(some 0), (.q (.move (.tmp 42))), none⟩]) .ret)))
theorem t45 : Told Try.prog 45 43 c45 [(.tmp 0)] := ⟨Try.f45, _, [], Try.func45, rfl, by kernel_rfl, rfl, by kernel_rfl, by kernel_rfl⟩
def c12 : ACode := 
    (.seq 
    (.region [⟨(some 1), (.s (.box 83 (.tmp 0))), none⟩, ⟨(some 2), (.q (.move (.const (.bool false)))), none⟩]) 
    (.seq 
    (.seq 
    (.region [⟨(some 10), (.q (.load true 3 (.tmp 1))), none⟩, ⟨(some 11), (.s (.call 52 [(.tmp 10)])), none⟩, ⟨(some 12), (.q (.un .not (.tmp 11))), none⟩, ⟨(some 13), (.q (.move (.tmp 12))), none⟩, ⟨(some 14), (.q (.load true 3 (.tmp 1))), (some (13, false))⟩, ⟨(some 15), (.s (.call 53 [(.tmp 14)])), (some (13, false))⟩, ⟨(some 16), (.q (.bin .neq (.tmp 15) (.const (.int .i64 0)))), (some (13, false))⟩, ⟨(some 17), (.q (.pick (.tmp 13) (.const (.bool true)) (.tmp 16))), none⟩]) 
    (.cond (.tmp 17) 
    (.seq 
    (.region [⟨(some 18), (.s (.call 45 [])), none⟩, ⟨(some 2), (.q (.move (.tmp 18))), none⟩]) .ret) .skip)) 
    (.seq 
    (.seq 
    (.region [⟨(some 19), (.q (.load true 3 (.tmp 1))), none⟩, ⟨(some 20), (.s (.call 55 [(.tmp 19)])), none⟩, ⟨(some 21), (.q (.un .not (.tmp 20))), none⟩]) 
    (.cond (.tmp 21) 
    (.seq 
    (.region [⟨(some 2), (.q (.move (.const (.bool false)))), none⟩]) .ret) .skip)) 
    (.seq 
    (.region [⟨(some 22), (.q (.load true 3 (.tmp 1))), none⟩, ⟨(some 23), (.s (.call 56 [(.tmp 22)])), none⟩, ⟨(some 3), (.q (.move (.tmp 23))), none⟩]) 
    (.seq 
    (.seq 
    (.region [⟨(some 4), (.q (.move (.const (.int .i64 0)))), none⟩]) 
    (.block 0 
    (.loop 
    (.seq 
    (.seq 
    (.region [⟨(some 24), (.q (.move (.tmp 4))), none⟩, ⟨(some 25), (.q (.move (.tmp 3))), none⟩, ⟨(some 26), (.q (.len false (.tmp 25))), none⟩, ⟨(some 27), (.q (.bin .lss (.tmp 24) (.tmp 26))), none⟩]) 
    (.cond (.tmp 27) .skip (.exit 0))) 
    (.seq 
    (.block 1 
    (.seq 
    (.regionN 6 [⟨(some 31), (.q (.load true 3 (.tmp 1))), none⟩, ⟨(some 32), (.q (.move (.tmp 3))), none⟩, ⟨(some 33), (.q (.move (.tmp 4))), none⟩, ⟨(some 34), (.q (.idxSl 4 (.tmp 32) (.tmp 33))), none⟩, ⟨(some 35), (.q (.fieldAddr 0 (.tmp 34))), none⟩, ⟨(some 36), (.q (.load false 1 (.tmp 35))), none⟩, ⟨(some 5), (.q (.move (.const .top))), none⟩, ⟨(some 37), (.s (.call 57 [(.tmp 31), (.tmp 36)])), none⟩, ⟨(some 30), (.q (.move (.tmp 37))), none⟩, ⟨(some 38), (.q (.extract 0 (.tmp 30))), none⟩, ⟨(some 39), (.q (.extract 1 (.tmp 30))), none⟩, ⟨(some 5), (.s (.put 83 3 (.tmp 38))), none⟩, ⟨(some 6), (.q (.move (.tmp 39))), none⟩]) 
    (.seq 
    (.seq 
    (.region [⟨(some 40), (.q (.move (.tmp 6))), none⟩, ⟨(some 41), (.q (.un .not (.tmp 40))), none⟩, ⟨(some 42), (.q (.move (.tmp 41))), none⟩, ⟨(some 43), (.q (.load true 3 (.tmp 5))), (some (42, false))⟩, ⟨(some 44), (.q (.move (.tmp 3))), (some (42, false))⟩, ⟨(some 45), (.q (.move (.tmp 4))), (some (42, false))⟩, ⟨(some 46), (.q (.idxSl 4 (.tmp 44) (.tmp 45))), (some (42, false))⟩, ⟨(some 47), (.q (.fieldAddr 1 (.tmp 46))), (some (42, false))⟩, ⟨(some 48), (.q (.load true 3 (.tmp 47))), (some (42, false))⟩, ⟨(some 49), (.s (.call 58 [(.tmp 43), (.tmp 48)])), (some (42, false))⟩, ⟨(some 50), (.q (.un .not (.tmp 49))), (some (42, false))⟩, ⟨(some 51), (.q (.pick (.tmp 42) (.const (.bool true)) (.tmp 50))), none⟩]) 
    (.cond (.tmp 51) 
    (.seq 
    (.region [⟨(some 2), (.q (.move (.const (.bool false)))), none⟩]) .ret) .skip)) 
    (.seq 
    (.region [⟨(some 7), (.q (.move (.const (.int .i64 0)))), none⟩]) 
    (.block 2 
    (.loop 
    (.seq 
    (.seq 
    (.region [⟨(some 52), (.q (.move (.tmp 7))), none⟩, ⟨(some 53), (.q (.fieldAddr 1 (.tmp 5))), none⟩, ⟨(some 54), (.q (.load false 1 (.tmp 53))), none⟩, ⟨(some 55), (.q (.len false (.tmp 54))), none⟩, ⟨(some 56), (.q (.bin .lss (.tmp 52) (.tmp 55))), none⟩]) 
    (.cond (.tmp 56) .skip (.exit 2))) 
    (.seq 
    (.block 3 
    (.seq 
    (.region [⟨(some 60), (.q (.load true 3 (.tmp 5))), none⟩, ⟨(some 61), (.q (.fieldAddr 1 (.tmp 5))), none⟩, ⟨(some 62), (.q (.load false 1 (.tmp 61))), none⟩, ⟨(some 63), (.q (.move (.tmp 7))), none⟩, ⟨(some 64), (.q (.idxSl 2 (.tmp 62) (.tmp 63))), none⟩, ⟨(some 65), (.q (.fieldAddr 0 (.tmp 64))), none⟩, ⟨(some 66), (.q (.load false 1 (.tmp 65))), none⟩, ⟨(some 67), (.s (.call 59 [(.tmp 60), (.tmp 66)])), none⟩, ⟨(some 59), (.q (.move (.tmp 67))), none⟩, ⟨(some 68), (.q (.extract 0 (.tmp 59))), none⟩, ⟨(some 69), (.q (.extract 1 (.tmp 59))), none⟩, ⟨(some 8), (.q (.move (.tmp 68))), none⟩, ⟨(some 9), (.q (.move (.tmp 69))), none⟩]) 
    (.seq 
    (.region [⟨(some 70), (.q (.move (.tmp 9))), none⟩, ⟨(some 71), (.q (.un .not (.tmp 70))), none⟩, ⟨(some 72), (.q (.move (.tmp 71))), none⟩, ⟨(some 73), (.q (.move (.tmp 8))), (some (72, false))⟩, ⟨(some 74), (.q (.fieldAddr 1 (.tmp 5))), (some (72, false))⟩, ⟨(some 75), (.q (.load false 1 (.tmp 74))), (some (72, false))⟩, ⟨(some 76), (.q (.move (.tmp 7))), (some (72, false))⟩, ⟨(some 77), (.q (.idxSl 2 (.tmp 75) (.tmp 76))), (some (72, false))⟩, ⟨(some 78), (.q (.fieldAddr 1 (.tmp 77))), (some (72, false))⟩, ⟨(some 79), (.q (.load false 1 (.tmp 78))), (some (72, false))⟩, ⟨(some 80), (.q (.bin .neq (.tmp 73) (.tmp 79))), (some (72, false))⟩, ⟨(some 81), (.q (.pick (.tmp 72) (.const (.bool true)) (.tmp 80))), none⟩]) 
    (.cond (.tmp 81) 
    (.seq 
    (.region [⟨(some 2), (.q (.move (.const (.bool false)))), none⟩]) .ret) .skip)))) 
    (.region [⟨(some 57), (.q (.move (.tmp 7))), none⟩, ⟨(some 58), (.q (.bin .add (.tmp 57) (.const (.int .i64 1)))), none⟩, ⟨(some 7), (.q (.move (.tmp 58))), none⟩]))))))))) 
    (.region [⟨(some 28), (.q (.move (.tmp 4))), none⟩, ⟨(some 29), (.q (.bin .add (.tmp 28) (.const (.int .i64 1)))), none⟩, ⟨(some 4), (.q (.move (.tmp 29))), none⟩])))))) 
    (.seq 
    (.region [⟨(some 82), (.s (.call 45 [])), none⟩, ⟨(some 2), (.q (.move (.tmp 82))), none⟩]) .ret))))))
theorem t12 : Told Try.prog 12 83 c12 [(.tmp 2)] := ⟨Try.f12, _, [], Try.func12, rfl, by kernel_rfl, rfl, by kernel_rfl, by kernel_rfl⟩
end Go.Proofs.Ytblflecalomgfaa.AL

