/- The code of package strs and its reference told, as the kernel evaluates it. -/
import Derived.Test.YtblflecalomgfaaAL14
import Derived.Test.YtblflecalomgfaaProg
import Derived.KernelRfl
set_option maxRecDepth 100000
namespace Go.Proofs.Ytblflecalomgfaa.AL
open Go Go.Proofs
def c75 : ACode := 
    (.seq 
    (.region [⟨(some 2), (.q (.move (.const (.bool false)))), none⟩]) 
    (.seq 
    (.region [⟨(some 3), (.q (.move (.tmp 0))), none⟩, ⟨(some 4), (.q (.bin .neq (.tmp 3) (.const (.str (B []))))), none⟩, ⟨(some 5), (.q (.move (.tmp 4))), none⟩, ⟨(some 6), (.q (.move (.tmp 0))), (some (5, true))⟩, ⟨(some 7), (.q (.len true (.tmp 6))), (some (5, true))⟩, ⟨(some 8), (.q (.bin .leq (.tmp 7) (.const (.int .i64 31)))), (some (5, true))⟩, ⟨(some 9), (.q (.pick (.tmp 5) (.tmp 8) (.const (.bool false)))), none⟩, ⟨(some 10), (.q (.move (.tmp 9))), none⟩, ⟨(some 11), (.q (.move (.tmp 0))), (some (10, true))⟩, ⟨(some 12), (.s (.call 140 [(.tmp 11), (.const (.str (B [0])))])), (some (10, true))⟩, ⟨(some 13), (.q (.un .not (.tmp 12))), (some (10, true))⟩, ⟨(some 14), (.q (.pick (.tmp 10) (.tmp 13) (.const (.bool false)))), none⟩, ⟨(some 2), (.q (.move (.tmp 14))), none⟩]) .ret))
theorem t75 : Told Try.prog 75 15 c75 [(.tmp 2)] := ⟨Try.f75, _, [], Try.func75, rfl, by kernel_rfl, rfl, by kernel_rfl, by kernel_rfl⟩
def c17 : ACode := 
    (.seq 
    (.region [⟨(some 4), (.q (.move (.const (.int .i64 0)))), none⟩, ⟨(some 5), (.q (.move (.const (.int .i64 0)))), none⟩]) 
    (.seq 
    (.seq 
    (.region [⟨(some 8), (.q (.move (.tmp 0))), none⟩, ⟨(some 9), (.q (.nil .ptr false (.tmp 8) (.const .nilp))), none⟩, ⟨(some 10), (.q (.move (.tmp 9))), none⟩, ⟨(some 11), (.q (.move (.tmp 1))), (some (10, false))⟩, ⟨(some 12), (.s (.call 75 [(.tmp 11)])), (some (10, false))⟩, ⟨(some 13), (.q (.un .not (.tmp 12))), (some (10, false))⟩, ⟨(some 14), (.q (.pick (.tmp 10) (.const (.bool true)) (.tmp 13))), none⟩]) 
    (.cond (.tmp 14) 
    (.seq 
    (.region [⟨(some 4), (.q (.move (.const (.int .i64 0)))), none⟩, ⟨(some 5), (.q (.move (.const (.int .i64 1)))), none⟩]) .ret) .skip)) 
    (.seq 
    (.seq 
    (.region [⟨(some 16), (.q (.move (.tmp 0))), none⟩, ⟨(some 17), (.q (.nonil (.tmp 16))), none⟩, ⟨(some 18), (.q (.fieldAddr 1 (.tmp 17))), none⟩, ⟨(some 19), (.q (.load false 1 (.tmp 18))), none⟩, ⟨(some 20), (.q (.move (.tmp 1))), none⟩, ⟨(some 21), (.s (.lookup true (.int .i64 0) true (.tmp 19) (.tmp 20))), none⟩, ⟨(some 15), (.q (.move (.tmp 21))), none⟩, ⟨(some 22), (.q (.extract 0 (.tmp 15))), none⟩, ⟨(some 23), (.q (.extract 1 (.tmp 15))), none⟩, ⟨(some 6), (.q (.move (.tmp 22))), none⟩, ⟨(some 7), (.q (.move (.tmp 23))), none⟩]) 
    (.seq 
    (.region [⟨(some 24), (.q (.move (.tmp 7))), none⟩]) 
    (.cond (.tmp 24) 
    (.seq 
    (.region [⟨(some 25), (.q (.move (.tmp 6))), none⟩, ⟨(some 4), (.q (.move (.tmp 25))), none⟩, ⟨(some 5), (.q (.move (.const (.int .i64 0)))), none⟩]) .ret) .skip))) 
    (.seq 
    (.seq 
    (.region [⟨(some 26), (.q (.move (.tmp 0))), none⟩, ⟨(some 27), (.q (.nonil (.tmp 26))), none⟩, ⟨(some 28), (.q (.fieldAddr 1 (.tmp 27))), none⟩, ⟨(some 29), (.q (.load false 1 (.tmp 28))), none⟩, ⟨(some 30), (.q (.nil .map false (.tmp 29) (.const .nilm))), none⟩]) 
    (.cond (.tmp 30) 
    (.region [⟨(some 31), (.q (.move (.tmp 0))), none⟩, ⟨(some 32), (.s .mkmap), none⟩, ⟨(some 33), (.q (.nonil (.tmp 31))), none⟩, ⟨(some 34), (.q (.fieldAddr 1 (.tmp 33))), none⟩, ⟨none, (.s (.store 1 (.tmp 34) (.tmp 32))), none⟩]) .skip)) 
    (.seq 
    (.region [⟨(some 35), (.q (.move (.tmp 0))), none⟩, ⟨(some 36), (.q (.nonil (.tmp 35))), none⟩, ⟨(some 37), (.q (.fieldAddr 1 (.tmp 36))), none⟩, ⟨(some 38), (.q (.load false 1 (.tmp 37))), none⟩, ⟨(some 39), (.q (.move (.tmp 1))), none⟩, ⟨(some 40), (.q (.move (.tmp 0))), none⟩, ⟨(some 41), (.q (.nonil (.tmp 40))), none⟩, ⟨(some 42), (.q (.fieldAddr 0 (.tmp 41))), none⟩, ⟨(some 43), (.q (.load false 1 (.tmp 42))), none⟩, ⟨(some 44), (.q (.len true (.tmp 43))), none⟩, ⟨none, (.s (.mapup true (.tmp 38) (.tmp 39) (.tmp 44))), none⟩]) 
    (.seq 
    (.region [⟨(some 45), (.q (.move (.tmp 0))), none⟩, ⟨(some 46), (.q (.nonil (.tmp 45))), none⟩, ⟨(some 47), (.q (.fieldAddr 0 (.tmp 46))), none⟩, ⟨(some 48), (.q (.load false 1 (.tmp 47))), none⟩, ⟨(some 49), (.q (.move (.tmp 1))), none⟩, ⟨(some 50), (.q (.bin .add (.tmp 49) (.const (.str (B [0]))))), none⟩, ⟨(some 51), (.q (.bin .add (.tmp 48) (.tmp 50))), none⟩, ⟨(some 52), (.q (.nonil (.tmp 45))), none⟩, ⟨(some 53), (.q (.fieldAddr 0 (.tmp 52))), none⟩, ⟨none, (.s (.store 1 (.tmp 53) (.tmp 51))), none⟩]) 
    (.seq 
    (.region [⟨(some 54), (.q (.move (.tmp 0))), none⟩, ⟨(some 55), (.q (.nonil (.tmp 54))), none⟩, ⟨(some 56), (.q (.fieldAddr 1 (.tmp 55))), none⟩, ⟨(some 57), (.q (.load false 1 (.tmp 56))), none⟩, ⟨(some 58), (.q (.move (.tmp 1))), none⟩, ⟨(some 59), (.s (.lookup true (.int .i64 0) false (.tmp 57) (.tmp 58))), none⟩, ⟨(some 4), (.q (.move (.tmp 59))), none⟩, ⟨(some 5), (.q (.move (.const (.int .i64 0)))), none⟩]) .ret)))))))
theorem t17 : Told Try.prog 17 60 c17 [(.tmp 4), (.tmp 5)] := ⟨Try.f17, _, [], Try.func17, rfl, by kernel_rfl, rfl, by kernel_rfl, by kernel_rfl⟩
def c19 : ACode := 
    (.seq 
    (.region [⟨(some 2), (.q (.move (.const (.str (B []))))), none⟩]) 
    (.seq 
    (.seq 
    (.region [⟨(some 3), (.q (.move (.tmp 0))), none⟩, ⟨(some 4), (.q (.nil .ptr false (.tmp 3) (.const .nilp))), none⟩]) 
    (.cond (.tmp 4) 
    (.seq 
    (.region [⟨(some 2), (.q (.move (.const (.str (B []))))), none⟩]) .ret) .skip)) 
    (.seq 
    (.region [⟨(some 5), (.q (.move (.tmp 0))), none⟩, ⟨(some 6), (.q (.nonil (.tmp 5))), none⟩, ⟨(some 7), (.q (.fieldAddr 0 (.tmp 6))), none⟩, ⟨(some 8), (.q (.load false 1 (.tmp 7))), none⟩, ⟨(some 2), (.q (.move (.tmp 8))), none⟩]) .ret)))
theorem t19 : Told Try.prog 19 9 c19 [(.tmp 2)] := ⟨Try.f19, _, [], Try.func19, rfl, by kernel_rfl, rfl, by kernel_rfl, by kernel_rfl⟩
def c22 : ACode := 
    (.seq 
    (.region [⟨(some 4), (.q (.move (.const (.str (B []))))), none⟩, ⟨(some 5), (.q (.move (.const (.int .i64 0)))), none⟩]) 
    (.seq 
    (.seq 
    (.region [⟨(some 9), (.q (.move (.tmp 1))), none⟩, ⟨(some 10), (.q (.bin .lss (.tmp 9) (.const (.int .i64 0)))), none⟩, ⟨(some 11), (.q (.move (.tmp 10))), none⟩, ⟨(some 12), (.q (.move (.tmp 1))), (some (11, false))⟩, ⟨(some 13), (.q (.move (.tmp 0))), (some (11, false))⟩, ⟨(some 14), (.q (.len true (.tmp 13))), (some (11, false))⟩, ⟨(some 15), (.q (.bin .geq (.tmp 12) (.tmp 14))), (some (11, false))⟩, ⟨(some 16), (.q (.pick (.tmp 11) (.const (.bool true)) (.tmp 15))), none⟩]) 
    (.cond (.tmp 16) 
    (.seq 
    (.region [⟨(some 4), (.q (.move (.const (.str (B []))))), none⟩, ⟨(some 5), (.q (.move (.const (.int .i64 2)))), none⟩]) .ret) .skip)) 
    (.seq 
    (.region [⟨(some 18), (.q (.move (.tmp 0))), none⟩, ⟨(some 19), (.q (.move (.tmp 1))), none⟩, ⟨(some 20), (.q (.sliceStr (.tmp 18) (some (.tmp 19)) none)), none⟩, ⟨(some 21), (.s (.call 77 [(.tmp 20), (.const (.str (B [0])))])), none⟩, ⟨(some 17), (.q (.move (.tmp 21))), none⟩, ⟨(some 22), (.q (.extract 0 (.tmp 17))), none⟩, ⟨(some 23), (.q (.extract 1 (.tmp 17))), none⟩, ⟨(some 24), (.q (.extract 2 (.tmp 17))), none⟩, ⟨(some 6), (.q (.move (.tmp 22))), none⟩, ⟨(some 7), (.q (.move (.tmp 23))), none⟩, ⟨(some 8), (.q (.move (.tmp 24))), none⟩]) 
    (.seq 
    (.seq 
    (.region [⟨(some 25), (.q (.move (.tmp 8))), none⟩, ⟨(some 26), (.q (.un .not (.tmp 25))), none⟩]) 
    (.cond (.tmp 26) 
    (.seq 
    (.region [⟨(some 4), (.q (.move (.const (.str (B []))))), none⟩, ⟨(some 5), (.q (.move (.const (.int .i64 6)))), none⟩]) .ret) .skip)) 
    (.seq 
    (.region [⟨(some 27), (.q (.move (.tmp 6))), none⟩, ⟨(some 4), (.q (.move (.tmp 27))), none⟩, ⟨(some 5), (.q (.move (.const (.int .i64 0)))), none⟩]) .ret)))))
theorem t22 : Told Try.prog 22 28 c22 [(.tmp 4), (.tmp 5)] := ⟨Try.f22, _, [], Try.func22, rfl, by kernel_rfl, rfl, by kernel_rfl, by kernel_rfl⟩
def c20 : ACode := 
    (.seq 
    (.region [⟨(some 2), (.q (.move (.const .nils))), none⟩, ⟨(some 3), (.q (.move (.const (.str (B []))))), none⟩, ⟨(some 4), (.q (.move (.const (.int .i64 0)))), none⟩]) 
    (.seq 
    (.region [⟨(some 5), (.s (.alloc 28 [(.str (B [])), .nilm])), none⟩]) 
    (.seq 
    (.region [⟨(some 6), (.q (.move (.const .nils))), none⟩]) 
    (.seq 
    (.seq 
    (.region [⟨(some 11), (.q (.move (.tmp 0))), none⟩, ⟨(some 12), (.q (.len false (.tmp 11))), none⟩, ⟨(some 13), (.q (.move (.const (.int .i64 0)))), none⟩]) 
    (.block 0 
    (.loop 
    (.seq 
    (.region [⟨(some 14), (.q (.bin .lss (.tmp 13) (.tmp 12))), none⟩]) 
    (.seq 
    (.cond (.tmp 14) .skip (.exit 0)) 
    (.seq 
    (.block 1 
    (.seq 
    (.region [⟨(some 15), (.q (.idxSl 1 (.tmp 11) (.tmp 13))), none⟩, ⟨(some 16), (.q (.load false 1 (.tmp 15))), none⟩, ⟨(some 8), (.q (.move (.tmp 16))), none⟩]) 
    (.seq 
    (.region [⟨(some 18), (.q (.move (.tmp 8))), none⟩, ⟨(some 19), (.s (.call 17 [(.tmp 5), (.tmp 18)])), none⟩, ⟨(some 17), (.q (.move (.tmp 19))), none⟩, ⟨(some 20), (.q (.extract 0 (.tmp 17))), none⟩, ⟨(some 21), (.q (.extract 1 (.tmp 17))), none⟩, ⟨(some 9), (.q (.move (.tmp 20))), none⟩, ⟨(some 10), (.q (.move (.tmp 21))), none⟩]) 
    (.seq 
    (.seq 
    (.region [⟨(some 22), (.q (.move (.tmp 10))), none⟩, ⟨(some 23), (.q (.bin .neq (.tmp 22) (.const (.int .i64 0)))), none⟩]) 
    (.cond (.tmp 23) 
    (.seq 
    (.region [⟨(some 24), (.q (.move (.tmp 10))), none⟩, ⟨(some 2), (.q (.move (.const .nils))), none⟩, ⟨(some 3), (.q (.move (.const (.str (B []))))), none⟩, ⟨(some 4), (.q (.move (.tmp 24))), none⟩]) .ret) .skip)) 
    (.region [⟨(some 25), (.q (.move (.tmp 6))), none⟩, ⟨(some 26), (.q (.move (.tmp 9))), none⟩, ⟨(some 27), (.s (.lit 3 1 [(.tmp 26)])), none⟩, ⟨(some 28), (.s (.app 3 1 8 (.tmp 25) (.tmp 27))), none⟩, ⟨(some 6), (.q (.move (.tmp 28))), none⟩]))))) 
    (.region [⟨(some 29), (.q (.bin .add (.tmp 13) (.const (.int .i64 1)))), none⟩, ⟨(some 13), (.q (.move (.tmp 29))), none⟩]))))))) 
    (.seq 
    (.region [⟨(some 30), (.q (.move (.tmp 6))), none⟩, ⟨(some 31), (.s (.call 19 [(.tmp 5)])), none⟩, ⟨(some 2), (.q (.move (.tmp 30))), none⟩, ⟨(some 3), (.q (.move (.tmp 31))), none⟩, ⟨(some 4), (.q (.move (.const (.int .i64 0)))), none⟩]) .ret)))))
theorem t20 : Told Try.prog 20 32 c20 [(.tmp 2), (.tmp 3), (.tmp 4)] := ⟨Try.f20, _, [], Try.func20, rfl, by kernel_rfl, rfl, by kernel_rfl, by kernel_rfl⟩
def c76 : ACode := 
    (.seq 
    (.region [⟨(some 2), (.q (.move (.const (.bool false)))), none⟩]) 
    (.seq 
    (.seq 
    (.region [⟨(some 3), (.q (.move (.const (.int .i64 0)))), none⟩]) 
    (.block 0 
    (.loop 
    (.seq 
    (.seq 
    (.region [⟨(some 4), (.q (.move (.tmp 3))), none⟩, ⟨(some 5), (.q (.move (.tmp 0))), none⟩, ⟨(some 6), (.q (.len true (.tmp 5))), none⟩, ⟨(some 7), (.q (.bin .lss (.tmp 4) (.tmp 6))), none⟩]) 
    (.cond (.tmp 7) .skip (.exit 0))) 
    (.seq 
    (.block 1 
    (.seq 
    (.region [⟨(some 10), (.q (.move (.tmp 0))), none⟩, ⟨(some 11), (.q (.move (.tmp 3))), none⟩, ⟨(some 12), (.q (.idxStr (.tmp 10) (.tmp 11))), none⟩, ⟨(some 13), (.q (.bin .eql (.tmp 12) (.const (.int .u8 0)))), none⟩]) 
    (.cond (.tmp 13) 
    (.seq 
    (.region [⟨(some 2), (.q (.move (.const (.bool false)))), none⟩]) .ret) .skip))) 
    (.region [⟨(some 8), (.q (.move (.tmp 3))), none⟩, ⟨(some 9), (.q (.bin .add (.tmp 8) (.const (.int .i64 1)))), none⟩, ⟨(some 3), (.q (.move (.tmp 9))), none⟩])))))) 
    (.seq 
    (.region [⟨(some 14), (.q (.move (.tmp 0))), none⟩, ⟨(some 15), (.q (.len true (.tmp 14))), none⟩, ⟨(some 16), (.q (.bin .geq (.tmp 15) (.const (.int .i64 1)))), none⟩, ⟨(some 17), (.q (.move (.tmp 16))), none⟩, ⟨(some 18), (.q (.move (.tmp 0))), (some (17, true))⟩, ⟨(some 19), (.q (.len true (.tmp 18))), (some (17, true))⟩, ⟨(some 20), (.q (.bin .leq (.tmp 19) (.const (.int .i64 31)))), (some (17, true))⟩, ⟨(some 21), (.q (.pick (.tmp 17) (.tmp 20) (.const (.bool false)))), none⟩, ⟨(some 2), (.q (.move (.tmp 21))), none⟩]) .ret)))
theorem t76 : Told Try.prog 76 22 c76 [(.tmp 2)] := ⟨Try.f76, _, [], Try.func76, rfl, by kernel_rfl, rfl, by kernel_rfl, by kernel_rfl⟩
def c18 : ACode := 
    (.seq 
    (.region [⟨(some 4), (.q (.move (.const (.int .i64 0)))), none⟩, ⟨(some 5), (.q (.move (.const (.int .i64 0)))), none⟩]) 
    (.seq 
    (.seq 
    (.region [⟨(some 8), (.q (.move (.tmp 1))), none⟩, ⟨(some 9), (.s (.call 76 [(.tmp 8)])), none⟩, ⟨(some 10), (.q (.un .not (.tmp 9))), none⟩]) 
    (.cond (.tmp 10) 
    (.seq 
    (.region [⟨(some 4), (.q (.move (.const (.int .i64 0)))), none⟩, ⟨(some 5), (.q (.move (.const (.int .i64 1)))), none⟩]) .ret) .skip)) 
    (.seq 
    (.seq 
    (.region [⟨(some 6), (.q (.move (.const (.int .i64 0)))), none⟩]) 
    (.block 0 
    (.loop 
    (.seq 
    (.seq 
    (.region [⟨(some 11), (.q (.move (.tmp 6))), none⟩, ⟨(some 12), (.q (.move (.tmp 0))), none⟩, ⟨(some 13), (.q (.nonil (.tmp 12))), none⟩, ⟨(some 14), (.q (.fieldAddr 0 (.tmp 13))), none⟩, ⟨(some 15), (.q (.load false 1 (.tmp 14))), none⟩, ⟨(some 16), (.q (.len false (.tmp 15))), none⟩, ⟨(some 17), (.q (.bin .lss (.tmp 11) (.tmp 16))), none⟩, ⟨(some 18), (.q (.move (.tmp 17))), none⟩, ⟨(some 19), (.q (.move (.tmp 6))), (some (18, true))⟩, ⟨(some 20), (.q (.move (.tmp 0))), (some (18, true))⟩, ⟨(some 21), (.q (.nonil (.tmp 20))), (some (18, true))⟩, ⟨(some 22), (.q (.fieldAddr 1 (.tmp 21))), (some (18, true))⟩, ⟨(some 23), (.q (.load false 1 (.tmp 22))), (some (18, true))⟩, ⟨(some 24), (.q (.len false (.tmp 23))), (some (18, true))⟩, ⟨(some 25), (.q (.bin .lss (.tmp 19) (.tmp 24))), (some (18, true))⟩, ⟨(some 26), (.q (.pick (.tmp 18) (.tmp 25) (.const (.bool false)))), none⟩]) 
    (.cond (.tmp 26) .skip (.exit 0))) 
    (.seq 
    (.block 1 
    (.seq 
    (.region [⟨(some 29), (.q (.move (.tmp 0))), none⟩, ⟨(some 30), (.q (.nonil (.tmp 29))), none⟩, ⟨(some 31), (.q (.fieldAddr 0 (.tmp 30))), none⟩, ⟨(some 32), (.q (.load false 1 (.tmp 31))), none⟩, ⟨(some 33), (.q (.move (.tmp 6))), none⟩, ⟨(some 34), (.q (.idxSl 1 (.tmp 32) (.tmp 33))), none⟩, ⟨(some 35), (.q (.load false 1 (.tmp 34))), none⟩, ⟨(some 36), (.q (.move (.tmp 1))), none⟩, ⟨(some 37), (.q (.bin .eql (.tmp 35) (.tmp 36))), none⟩]) 
    (.cond (.tmp 37) 
    (.seq 
    (.region [⟨(some 38), (.q (.move (.tmp 0))), none⟩, ⟨(some 39), (.q (.nonil (.tmp 38))), none⟩, ⟨(some 40), (.q (.fieldAddr 1 (.tmp 39))), none⟩, ⟨(some 41), (.q (.load false 1 (.tmp 40))), none⟩, ⟨(some 42), (.q (.move (.tmp 6))), none⟩, ⟨(some 43), (.q (.idxSl 1 (.tmp 41) (.tmp 42))), none⟩, ⟨(some 44), (.q (.load false 1 (.tmp 43))), none⟩, ⟨(some 4), (.q (.move (.tmp 44))), none⟩, ⟨(some 5), (.q (.move (.const (.int .i64 0)))), none⟩]) .ret) .skip))) 
    (.region [⟨(some 27), (.q (.move (.tmp 6))), none⟩, ⟨(some 28), (.q (.bin .add (.tmp 27) (.const (.int .i64 1)))), none⟩, ⟨(some 6), (.q (.move (.tmp 28))), none⟩])))))) 
    (.seq 
    (.region [⟨(some 45), (.q (.move (.tmp 0))), none⟩, ⟨(some 46), (.q (.nonil (.tmp 45))), none⟩, ⟨(some 47), (.q (.fieldAddr 2 (.tmp 46))), none⟩, ⟨(some 48), (.q (.load false 1 (.tmp 47))), none⟩, ⟨(some 49), (.q (.len true (.tmp 48))), none⟩, ⟨(some 7), (.q (.move (.tmp 49))), none⟩]) 
    (.seq 
    (.region [⟨(some 50), (.q (.move (.tmp 0))), none⟩, ⟨(some 51), (.q (.move (.tmp 0))), none⟩, ⟨(some 52), (.q (.nonil (.tmp 51))), none⟩, ⟨(some 53), (.q (.fieldAddr 0 (.tmp 52))), none⟩, ⟨(some 54), (.q (.load false 1 (.tmp 53))), none⟩, ⟨(some 55), (.q (.move (.tmp 1))), none⟩, ⟨(some 56), (.s (.lit 9 1 [(.tmp 55)])), none⟩, ⟨(some 57), (.s (.app 9 1 16 (.tmp 54) (.tmp 56))), none⟩, ⟨(some 58), (.q (.nonil (.tmp 50))), none⟩, ⟨(some 59), (.q (.fieldAddr 0 (.tmp 58))), none⟩, ⟨none, (.s (.store 1 (.tmp 59) (.tmp 57))), none⟩]) 
    (.seq 
    (.region [⟨(some 60), (.q (.move (.tmp 0))), none⟩, ⟨(some 61), (.q (.move (.tmp 0))), none⟩, ⟨(some 62), (.q (.nonil (.tmp 61))), none⟩, ⟨(some 63), (.q (.fieldAddr 1 (.tmp 62))), none⟩, ⟨(some 64), (.q (.load false 1 (.tmp 63))), none⟩, ⟨(some 65), (.q (.move (.tmp 7))), none⟩, ⟨(some 66), (.s (.lit 3 1 [(.tmp 65)])), none⟩, ⟨(some 67), (.s (.app 3 1 8 (.tmp 64) (.tmp 66))), none⟩, ⟨(some 68), (.q (.nonil (.tmp 60))), none⟩, ⟨(some 69), (.q (.fieldAddr 1 (.tmp 68))), none⟩, ⟨none, (.s (.store 1 (.tmp 69) (.tmp 67))), none⟩]) 
    (.seq 
    (.region [⟨(some 70), (.q (.move (.tmp 0))), none⟩, ⟨(some 71), (.q (.move (.tmp 0))), none⟩, ⟨(some 72), (.q (.nonil (.tmp 71))), none⟩, ⟨(some 73), (.q (.fieldAddr 2 (.tmp 72))), none⟩, ⟨(some 74), (.q (.load false 1 (.tmp 73))), none⟩, ⟨(some 75), (.q (.move (.tmp 1))), none⟩, ⟨(some 76), (.q (.bin .add (.tmp 74) (.tmp 75))), none⟩, ⟨(some 77), (.q (.bin .add (.tmp 76) (.const (.str (B [0]))))), none⟩, ⟨(some 78), (.q (.nonil (.tmp 70))), none⟩, ⟨(some 79), (.q (.fieldAddr 2 (.tmp 78))), none⟩, ⟨none, (.s (.store 1 (.tmp 79) (.tmp 77))), none⟩]) 
    (.seq 
    (.region [⟨(some 80), (.q (.move (.tmp 7))), none⟩, ⟨(some 4), (.q (.move (.tmp 80))), none⟩, ⟨(some 5), (.q (.move (.const (.int .i64 0)))), none⟩]) .ret))))))))
theorem t18 : Told Try.prog 18 81 c18 [(.tmp 4), (.tmp 5)] := ⟨Try.f18, _, [], Try.func18, rfl, by kernel_rfl, rfl, by kernel_rfl, by kernel_rfl⟩
def c23 : ACode := 
    (.seq 
    (.region [⟨(some 4), (.q (.move (.const (.str (B []))))), none⟩, ⟨(some 5), (.q (.move (.const (.int .i64 0)))), none⟩]) 
    (.seq 
    (.seq 
    (.region [⟨(some 7), (.q (.move (.tmp 1))), none⟩, ⟨(some 8), (.q (.bin .lss (.tmp 7) (.const (.int .i64 0)))), none⟩, ⟨(some 9), (.q (.move (.tmp 8))), none⟩, ⟨(some 10), (.q (.move (.tmp 1))), (some (9, false))⟩, ⟨(some 11), (.q (.move (.tmp 0))), (some (9, false))⟩, ⟨(some 12), (.q (.len true (.tmp 11))), (some (9, false))⟩, ⟨(some 13), (.q (.bin .geq (.tmp 10) (.tmp 12))), (some (9, false))⟩, ⟨(some 14), (.q (.pick (.tmp 9) (.const (.bool true)) (.tmp 13))), none⟩]) 
    (.cond (.tmp 14) 
    (.seq 
    (.region [⟨(some 4), (.q (.move (.const (.str (B []))))), none⟩, ⟨(some 5), (.q (.move (.const (.int .i64 2)))), none⟩]) .ret) .skip)) 
    (.seq 
    (.seq 
    (.region [⟨(some 15), (.q (.move (.tmp 1))), none⟩, ⟨(some 6), (.q (.move (.tmp 15))), none⟩]) 
    (.block 0 
    (.loop 
    (.seq 
    (.seq 
    (.region [⟨(some 16), (.q (.move (.tmp 6))), none⟩, ⟨(some 17), (.q (.move (.tmp 0))), none⟩, ⟨(some 18), (.q (.len true (.tmp 17))), none⟩, ⟨(some 19), (.q (.bin .lss (.tmp 16) (.tmp 18))), none⟩]) 
    (.cond (.tmp 19) .skip (.exit 0))) 
    (.seq 
    (.block 1 
    (.seq 
    (.region [⟨(some 22), (.q (.move (.tmp 0))), none⟩, ⟨(some 23), (.q (.move (.tmp 6))), none⟩, ⟨(some 24), (.q (.idxStr (.tmp 22) (.tmp 23))), none⟩, ⟨(some 25), (.q (.bin .eql (.tmp 24) (.const (.int .u8 0)))), none⟩]) 
    (.cond (.tmp 25) 
    (.seq 
    (.region [⟨(some 26), (.q (.move (.tmp 0))), none⟩, ⟨(some 27), (.q (.move (.tmp 1))), none⟩, ⟨(some 28), (.q (.move (.tmp 6))), none⟩, ⟨(some 29), (.q (.sliceStr (.tmp 26) (some (.tmp 27)) (some (.tmp 28)))), none⟩, ⟨(some 4), (.q (.move (.tmp 29))), none⟩, ⟨(some 5), (.q (.move (.const (.int .i64 0)))), none⟩]) .ret) .skip))) 
    (.region [⟨(some 20), (.q (.move (.tmp 6))), none⟩, ⟨(some 21), (.q (.bin .add (.tmp 20) (.const (.int .i64 1)))), none⟩, ⟨(some 6), (.q (.move (.tmp 21))), none⟩])))))) 
    (.seq 
    (.region [⟨(some 4), (.q (.move (.const (.str (B []))))), none⟩, ⟨(some 5), (.q (.move (.const (.int .i64 6)))), none⟩]) .ret))))
theorem t23 : Told Try.prog 23 30 c23 [(.tmp 4), (.tmp 5)] := ⟨Try.f23, _, [], Try.func23, rfl, by kernel_rfl, rfl, by kernel_rfl, by kernel_rfl⟩
def c21 : ACode := 
    (.seq 
    (.region [⟨(some 2), (.q (.move (.const .nils))), none⟩, ⟨(some 3), (.q (.move (.const (.str (B []))))), none⟩, ⟨(some 4), (.q (.move (.const (.int .i64 0)))), none⟩]) 
    (.seq 
    (.region [⟨(some 10), (.q (.build [.nils, .nils, (.str (B []))] [])), none⟩, ⟨(some 11), (.s (.box 32 (.tmp 10))), none⟩, ⟨(some 5), (.q (.move (.tmp 11))), none⟩]) 
    (.seq 
    (.region [⟨(some 6), (.q (.move (.const .nils))), none⟩]) 
    (.seq 
    (.seq 
    (.region [⟨(some 7), (.q (.move (.const (.int .i64 0)))), none⟩]) 
    (.block 0 
    (.loop 
    (.seq 
    (.seq 
    (.region [⟨(some 12), (.q (.move (.tmp 7))), none⟩, ⟨(some 13), (.q (.move (.tmp 0))), none⟩, ⟨(some 14), (.q (.len false (.tmp 13))), none⟩, ⟨(some 15), (.q (.bin .lss (.tmp 12) (.tmp 14))), none⟩]) 
    (.cond (.tmp 15) .skip (.exit 0))) 
    (.seq 
    (.block 1 
    (.seq 
    (.region [⟨(some 19), (.q (.move (.tmp 5))), none⟩, ⟨(some 20), (.q (.move (.tmp 0))), none⟩, ⟨(some 21), (.q (.move (.tmp 7))), none⟩, ⟨(some 22), (.q (.idxSl 1 (.tmp 20) (.tmp 21))), none⟩, ⟨(some 23), (.q (.load false 1 (.tmp 22))), none⟩, ⟨(some 24), (.s (.call 18 [(.tmp 19), (.tmp 23)])), none⟩, ⟨(some 18), (.q (.move (.tmp 24))), none⟩, ⟨(some 25), (.q (.extract 0 (.tmp 18))), none⟩, ⟨(some 26), (.q (.extract 1 (.tmp 18))), none⟩, ⟨(some 8), (.q (.move (.tmp 25))), none⟩, ⟨(some 9), (.q (.move (.tmp 26))), none⟩]) 
    (.seq 
    (.seq 
    (.region [⟨(some 27), (.q (.move (.tmp 9))), none⟩, ⟨(some 28), (.q (.bin .neq (.tmp 27) (.const (.int .i64 0)))), none⟩]) 
    (.cond (.tmp 28) 
    (.seq 
    (.region [⟨(some 29), (.q (.move (.tmp 9))), none⟩, ⟨(some 2), (.q (.move (.const .nils))), none⟩, ⟨(some 3), (.q (.move (.const (.str (B []))))), none⟩, ⟨(some 4), (.q (.move (.tmp 29))), none⟩]) .ret) .skip)) 
    (.region [⟨(some 30), (.q (.move (.tmp 6))), none⟩, ⟨(some 31), (.q (.move (.tmp 8))), none⟩, ⟨(some 32), (.s (.lit 3 1 [(.tmp 31)])), none⟩, ⟨(some 33), (.s (.app 3 1 8 (.tmp 30) (.tmp 32))), none⟩, ⟨(some 6), (.q (.move (.tmp 33))), none⟩])))) 
    (.region [⟨(some 16), (.q (.move (.tmp 7))), none⟩, ⟨(some 17), (.q (.bin .add (.tmp 16) (.const (.int .i64 1)))), none⟩, ⟨(some 7), (.q (.move (.tmp 17))), none⟩])))))) 
    (.seq 
    (.region [⟨(some 34), (.q (.move (.tmp 6))), none⟩, ⟨(some 35), (.q (.move (.tmp 5))), none⟩, ⟨(some 36), (.q (.nonil (.tmp 35))), none⟩, ⟨(some 37), (.q (.fieldAddr 2 (.tmp 36))), none⟩, ⟨(some 38), (.q (.load false 1 (.tmp 37))), none⟩, ⟨(some 2), (.q (.move (.tmp 34))), none⟩, ⟨(some 3), (.q (.move (.tmp 38))), none⟩, ⟨(some 4), (.q (.move (.const (.int .i64 0)))), none⟩]) .ret)))))
theorem t21 : Told Try.prog 21 39 c21 [(.tmp 2), (.tmp 3), (.tmp 4)] := ⟨Try.f21, _, [], Try.func21, rfl, by kernel_rfl, rfl, by kernel_rfl, by kernel_rfl⟩
def c15 : ACode := 
    (.seq 
    (.region [⟨(some 2), (.q (.move (.const (.bool false)))), none⟩]) 
    (.seq 
    (.seq 
    (.region [⟨(some 3), (.q (.move (.const (.int .i64 0)))), none⟩]) 
    (.block 0 
    (.loop 
    (.seq 
    (.seq 
    (.region [⟨(some 4), (.q (.move (.tmp 3))), none⟩, ⟨(some 5), (.q (.move (.tmp 0))), none⟩, ⟨(some 6), (.q (.len false (.tmp 5))), none⟩, ⟨(some 7), (.q (.bin .lss (.tmp 4) (.tmp 6))), none⟩, ⟨(some 8), (.q (.move (.tmp 7))), none⟩, ⟨(some 9), (.q (.move (.tmp 3))), (some (8, true))⟩, ⟨(some 10), (.q (.bin .lss (.tmp 9) (.const (.int .i64 40)))), (some (8, true))⟩, ⟨(some 11), (.q (.pick (.tmp 8) (.tmp 10) (.const (.bool false)))), none⟩]) 
    (.cond (.tmp 11) .skip (.exit 0))) 
    (.seq 
    (.block 1 
    (.seq 
    (.region [⟨(some 14), (.q (.move (.tmp 0))), none⟩, ⟨(some 15), (.q (.move (.tmp 3))), none⟩, ⟨(some 16), (.q (.idxSl 1 (.tmp 14) (.tmp 15))), none⟩, ⟨(some 17), (.q (.load false 1 (.tmp 16))), none⟩, ⟨(some 18), (.q (.len true (.tmp 17))), none⟩, ⟨(some 19), (.q (.bin .gtr (.tmp 18) (.const (.int .i64 100)))), none⟩]) 
    (.cond (.tmp 19) 
    (.seq 
    (.region [⟨(some 2), (.q (.move (.const (.bool false)))), none⟩]) .ret) .skip))) 
    (.region [⟨(some 12), (.q (.move (.tmp 3))), none⟩, ⟨(some 13), (.q (.bin .add (.tmp 12) (.const (.int .i64 1)))), none⟩, ⟨(some 3), (.q (.move (.tmp 13))), none⟩])))))) 
    (.seq 
    (.region [⟨(some 20), (.q (.move (.tmp 0))), none⟩, ⟨(some 21), (.q (.len false (.tmp 20))), none⟩, ⟨(some 22), (.q (.bin .leq (.tmp 21) (.const (.int .i64 40)))), none⟩, ⟨(some 2), (.q (.move (.tmp 22))), none⟩]) .ret)))
theorem t15 : Told Try.prog 15 23 c15 [(.tmp 2)] := ⟨Try.f15, _, [], Try.func15, rfl, by kernel_rfl, rfl, by kernel_rfl, by kernel_rfl⟩
def c24 : ACode := 
    (.seq 
    (.region [⟨(some 4), (.q (.move (.const (.bool false)))), none⟩]) 
    (.seq 
    (.seq 
    (.region [⟨(some 6), (.q (.move (.tmp 0))), none⟩, ⟨(some 7), (.q (.len false (.tmp 6))), none⟩, ⟨(some 8), (.q (.move (.tmp 1))), none⟩, ⟨(some 9), (.q (.len false (.tmp 8))), none⟩, ⟨(some 10), (.q (.bin .neq (.tmp 7) (.tmp 9))), none⟩]) 
    (.cond (.tmp 10) 
    (.seq 
    (.region [⟨(some 4), (.q (.move (.const (.bool false)))), none⟩]) .ret) .skip)) 
    (.seq 
    (.seq 
    (.region [⟨(some 5), (.q (.move (.const (.int .i64 0)))), none⟩]) 
    (.block 0 
    (.loop 
    (.seq 
    (.seq 
    (.region [⟨(some 11), (.q (.move (.tmp 5))), none⟩, ⟨(some 12), (.q (.move (.tmp 0))), none⟩, ⟨(some 13), (.q (.len false (.tmp 12))), none⟩, ⟨(some 14), (.q (.bin .lss (.tmp 11) (.tmp 13))), none⟩, ⟨(some 15), (.q (.move (.tmp 14))), none⟩, ⟨(some 16), (.q (.move (.tmp 5))), (some (15, true))⟩, ⟨(some 17), (.q (.move (.tmp 1))), (some (15, true))⟩, ⟨(some 18), (.q (.len false (.tmp 17))), (some (15, true))⟩, ⟨(some 19), (.q (.bin .lss (.tmp 16) (.tmp 18))), (some (15, true))⟩, ⟨(some 20), (.q (.pick (.tmp 15) (.tmp 19) (.const (.bool false)))), none⟩]) 
    (.cond (.tmp 20) .skip (.exit 0))) 
    (.seq 
    (.block 1 
    (.seq 
    (.region [⟨(some 23), (.q (.move (.tmp 0))), none⟩, ⟨(some 24), (.q (.move (.tmp 5))), none⟩, ⟨(some 25), (.q (.idxSl 1 (.tmp 23) (.tmp 24))), none⟩, ⟨(some 26), (.q (.load false 1 (.tmp 25))), none⟩, ⟨(some 27), (.q (.move (.tmp 1))), none⟩, ⟨(some 28), (.q (.move (.tmp 5))), none⟩, ⟨(some 29), (.q (.idxSl 1 (.tmp 27) (.tmp 28))), none⟩, ⟨(some 30), (.q (.load false 1 (.tmp 29))), none⟩, ⟨(some 31), (.q (.bin .neq (.tmp 26) (.tmp 30))), none⟩]) 
    (.cond (.tmp 31) 
    (.seq 
    (.region [⟨(some 4), (.q (.move (.const (.bool false)))), none⟩]) .ret) .skip))) 
    (.region [⟨(some 21), (.q (.move (.tmp 5))), none⟩, ⟨(some 22), (.q (.bin .add (.tmp 21) (.const (.int .i64 1)))), none⟩, ⟨(some 5), (.q (.move (.tmp 22))), none⟩])))))) 
    (.seq 
    (.region [⟨(some 4), (.q (.move (.const (.bool true)))), none⟩]) .ret))))
theorem t24 : Told Try.prog 24 32 c24 [(.tmp 4)] := ⟨Try.f24, _, [], Try.func24, rfl, by kernel_rfl, rfl, by kernel_rfl, by kernel_rfl⟩
def c16 : ACode := 
    (.seq 
    (.region [⟨(some 0), (.q (.move (.const (.bool false)))), none⟩]) 
    (.seq 
    (.region [⟨(some 7), (.s (.lit 9 1 [(.const (.str (B [114, 101, 103]))), (.const (.str (B [115, 105, 122, 101]))), (.const (.str (B [114, 101, 103])))])), none⟩, ⟨(some 8), (.s (.call 20 [(.tmp 7)])), none⟩, ⟨(some 6), (.q (.move (.tmp 8))), none⟩, ⟨(some 9), (.q (.extract 0 (.tmp 6))), none⟩, ⟨(some 10), (.q (.extract 1 (.tmp 6))), none⟩, ⟨(some 11), (.q (.extract 2 (.tmp 6))), none⟩, ⟨(some 1), (.q (.move (.tmp 9))), none⟩, ⟨(some 2), (.q (.move (.tmp 10))), none⟩, ⟨(some 3), (.q (.move (.tmp 11))), none⟩]) 
    (.seq 
    (.region [⟨(some 13), (.q (.move (.tmp 2))), none⟩, ⟨(some 14), (.s (.call 22 [(.tmp 13), (.const (.int .i64 5))])), none⟩, ⟨(some 12), (.q (.move (.tmp 14))), none⟩, ⟨(some 15), (.q (.extract 0 (.tmp 12))), none⟩, ⟨(some 16), (.q (.extract 1 (.tmp 12))), none⟩, ⟨(some 4), (.q (.move (.tmp 15))), none⟩, ⟨(some 5), (.q (.move (.tmp 16))), none⟩]) 
    (.seq 
    (.region [⟨(some 17), (.q (.move (.tmp 1))), none⟩, ⟨(some 18), (.s (.lit 3 1 [(.const (.int .i64 0)), (.const (.int .i64 4)), (.const (.int .i64 0))])), none⟩, ⟨(some 19), (.s (.call 24 [(.tmp 17), (.tmp 18)])), none⟩, ⟨(some 20), (.q (.move (.tmp 19))), none⟩, ⟨(some 21), (.q (.move (.tmp 2))), (some (20, true))⟩, ⟨(some 22), (.q (.bin .eql (.tmp 21) (.const (.str (B [114, 101, 103, 0, 115, 105, 122, 101, 0]))))), (some (20, true))⟩, ⟨(some 23), (.q (.pick (.tmp 20) (.tmp 22) (.const (.bool false)))), none⟩, ⟨(some 24), (.q (.move (.tmp 23))), none⟩, ⟨(some 25), (.q (.move (.tmp 3))), (some (24, true))⟩, ⟨(some 26), (.q (.bin .eql (.tmp 25) (.const (.int .i64 0)))), (some (24, true))⟩, ⟨(some 27), (.q (.pick (.tmp 24) (.tmp 26) (.const (.bool false)))), none⟩, ⟨(some 28), (.q (.move (.tmp 27))), none⟩, ⟨(some 29), (.q (.move (.tmp 4))), (some (28, true))⟩, ⟨(some 30), (.q (.bin .eql (.tmp 29) (.const (.str (B [105, 122, 101]))))), (some (28, true))⟩, ⟨(some 31), (.q (.pick (.tmp 28) (.tmp 30) (.const (.bool false)))), none⟩, ⟨(some 32), (.q (.move (.tmp 31))), none⟩, ⟨(some 33), (.q (.move (.tmp 5))), (some (32, true))⟩, ⟨(some 34), (.q (.bin .eql (.tmp 33) (.const (.int .i64 0)))), (some (32, true))⟩, ⟨(some 35), (.q (.pick (.tmp 32) (.tmp 34) (.const (.bool false)))), none⟩, ⟨(some 0), (.q (.move (.tmp 35))), none⟩]) .ret))))
theorem t16 : Told Try.prog 16 36 c16 [(.tmp 0)] := ⟨Try.f16, _, [], Try.func16, rfl, by kernel_rfl, rfl, by kernel_rfl, by kernel_rfl⟩
def c3 : ACode := 
    (.seq 
    (.region [⟨(some 6), (.q (.move (.const (.bool false)))), none⟩]) 
    (.seq 
    (.seq 
    (.region [⟨(some 27), (.q (.move (.tmp 0))), none⟩, ⟨(some 28), (.s (.call 15 [(.tmp 27)])), none⟩, ⟨(some 29), (.q (.un .not (.tmp 28))), none⟩, ⟨(some 30), (.q (.move (.tmp 29))), none⟩, ⟨(some 31), (.q (.move (.tmp 1))), (some (30, false))⟩, ⟨(some 32), (.q (.len true (.tmp 31))), (some (30, false))⟩, ⟨(some 33), (.q (.bin .gtr (.tmp 32) (.const (.int .i64 200)))), (some (30, false))⟩, ⟨(some 34), (.q (.pick (.tmp 30) (.const (.bool true)) (.tmp 33))), none⟩]) 
    (.cond (.tmp 34) 
    (.seq 
    (.region [⟨(some 35), (.s (.call 16 [])), none⟩, ⟨(some 6), (.q (.move (.tmp 35))), none⟩]) .ret) .skip)) 
    (.seq 
    (.region [⟨(some 36), (.q (.build [(.str (B [])), .nilm] [])), none⟩, ⟨(some 37), (.s (.box 28 (.tmp 36))), none⟩, ⟨(some 38), (.q (.build [.nils, .nils, (.str (B []))] [])), none⟩, ⟨(some 39), (.s (.box 32 (.tmp 38))), none⟩, ⟨(some 7), (.q (.move (.tmp 37))), none⟩, ⟨(some 8), (.q (.move (.tmp 39))), none⟩]) 
    (.seq 
    (.region [⟨(some 9), (.q (.move (.const .nilp))), none⟩]) 
    (.seq 
    (.seq 
    (.region [⟨(some 10), (.q (.move (.const (.int .i64 0)))), none⟩]) 
    (.block 0 
    (.loop 
    (.seq 
    (.seq 
    (.region [⟨(some 40), (.q (.move (.tmp 10))), none⟩, ⟨(some 41), (.q (.move (.tmp 0))), none⟩, ⟨(some 42), (.q (.len false (.tmp 41))), none⟩, ⟨(some 43), (.q (.bin .lss (.tmp 40) (.tmp 42))), none⟩]) 
    (.cond (.tmp 43) .skip (.exit 0))) 
    (.seq 
    (.block 1 
    (.seq 
    (.region [⟨(some 47), (.q (.move (.tmp 7))), none⟩, ⟨(some 48), (.q (.move (.tmp 0))), none⟩, ⟨(some 49), (.q (.move (.tmp 10))), none⟩, ⟨(some 50), (.q (.idxSl 1 (.tmp 48) (.tmp 49))), none⟩, ⟨(some 51), (.q (.load false 1 (.tmp 50))), none⟩, ⟨(some 52), (.s (.call 17 [(.tmp 47), (.tmp 51)])), none⟩, ⟨(some 46), (.q (.move (.tmp 52))), none⟩, ⟨(some 53), (.q (.extract 0 (.tmp 46))), none⟩, ⟨(some 54), (.q (.extract 1 (.tmp 46))), none⟩, ⟨(some 11), (.q (.move (.tmp 53))), none⟩, ⟨(some 12), (.q (.move (.tmp 54))), none⟩]) 
    (.seq 
    (.region [⟨(some 56), (.q (.move (.tmp 8))), none⟩, ⟨(some 57), (.q (.move (.tmp 0))), none⟩, ⟨(some 58), (.q (.move (.tmp 10))), none⟩, ⟨(some 59), (.q (.idxSl 1 (.tmp 57) (.tmp 58))), none⟩, ⟨(some 60), (.q (.load false 1 (.tmp 59))), none⟩, ⟨(some 61), (.s (.call 18 [(.tmp 56), (.tmp 60)])), none⟩, ⟨(some 55), (.q (.move (.tmp 61))), none⟩, ⟨(some 62), (.q (.extract 0 (.tmp 55))), none⟩, ⟨(some 63), (.q (.extract 1 (.tmp 55))), none⟩, ⟨(some 13), (.q (.move (.tmp 62))), none⟩, ⟨(some 14), (.q (.move (.tmp 63))), none⟩]) 
    (.seq 
    (.region [⟨(some 65), (.q (.move (.tmp 9))), none⟩, ⟨(some 66), (.q (.move (.tmp 0))), none⟩, ⟨(some 67), (.q (.move (.tmp 10))), none⟩, ⟨(some 68), (.q (.idxSl 1 (.tmp 66) (.tmp 67))), none⟩, ⟨(some 69), (.q (.load false 1 (.tmp 68))), none⟩, ⟨(some 70), (.s (.call 17 [(.tmp 65), (.tmp 69)])), none⟩, ⟨(some 64), (.q (.move (.tmp 70))), none⟩, ⟨(some 71), (.q (.extract 0 (.tmp 64))), none⟩, ⟨(some 72), (.q (.extract 1 (.tmp 64))), none⟩, ⟨(some 15), (.q (.move (.tmp 71))), none⟩, ⟨(some 16), (.q (.move (.tmp 72))), none⟩]) 
    (.seq 
    (.region [⟨(some 73), (.q (.move (.tmp 11))), none⟩, ⟨(some 74), (.q (.move (.tmp 13))), none⟩, ⟨(some 75), (.q (.bin .neq (.tmp 73) (.tmp 74))), none⟩, ⟨(some 76), (.q (.move (.tmp 75))), none⟩, ⟨(some 77), (.q (.move (.tmp 12))), (some (76, false))⟩, ⟨(some 78), (.q (.move (.tmp 14))), (some (76, false))⟩, ⟨(some 79), (.q (.bin .neq (.tmp 77) (.tmp 78))), (some (76, false))⟩, ⟨(some 80), (.q (.pick (.tmp 76) (.const (.bool true)) (.tmp 79))), none⟩, ⟨(some 81), (.q (.move (.tmp 80))), none⟩, ⟨(some 82), (.q (.move (.tmp 7))), (some (81, false))⟩, ⟨(some 83), (.c (.fn 19) [(.tmp 82)]), (some (81, false))⟩, ⟨(some 84), (.q (.move (.tmp 8))), (some (81, false))⟩, ⟨(some 85), (.q (.nonil (.tmp 84))), (some (81, false))⟩, ⟨(some 86), (.q (.fieldAddr 2 (.tmp 85))), (some (81, false))⟩, ⟨(some 87), (.q (.load false 1 (.tmp 86))), (some (81, false))⟩, ⟨(some 88), (.q (.bin .neq (.tmp 83) (.tmp 87))), (some (81, false))⟩, ⟨(some 89), (.q (.pick (.tmp 81) (.const (.bool true)) (.tmp 88))), none⟩, ⟨(some 90), (.q (.move (.tmp 89))), none⟩, ⟨(some 91), (.q (.move (.tmp 16))), (some (90, false))⟩, ⟨(some 92), (.q (.bin .neq (.tmp 91) (.const (.int .i64 1)))), (some (90, false))⟩, ⟨(some 93), (.q (.pick (.tmp 90) (.const (.bool true)) (.tmp 92))), none⟩]) 
    (.cond (.tmp 93) 
    (.seq 
    (.region [⟨(some 6), (.q (.move (.const (.bool false)))), none⟩]) .ret) .skip)))))) 
    (.region [⟨(some 44), (.q (.move (.tmp 10))), none⟩, ⟨(some 45), (.q (.bin .add (.tmp 44) (.const (.int .i64 1)))), none⟩, ⟨(some 10), (.q (.move (.tmp 45))), none⟩])))))) 
    (.seq 
    (.region [⟨(some 95), (.q (.move (.tmp 0))), none⟩, ⟨(some 96), (.s (.call 20 [(.tmp 95)])), none⟩, ⟨(some 94), (.q (.move (.tmp 96))), none⟩, ⟨(some 97), (.q (.extract 0 (.tmp 94))), none⟩, ⟨(some 98), (.q (.extract 1 (.tmp 94))), none⟩, ⟨(some 99), (.q (.extract 2 (.tmp 94))), none⟩, ⟨(some 17), (.q (.move (.tmp 97))), none⟩, ⟨(some 18), (.q (.move (.tmp 98))), none⟩, ⟨(some 19), (.q (.move (.tmp 99))), none⟩]) 
    (.seq 
    (.region [⟨(some 101), (.q (.move (.tmp 0))), none⟩, ⟨(some 102), (.s (.call 21 [(.tmp 101)])), none⟩, ⟨(some 100), (.q (.move (.tmp 102))), none⟩, ⟨(some 103), (.q (.extract 0 (.tmp 100))), none⟩, ⟨(some 104), (.q (.extract 1 (.tmp 100))), none⟩, ⟨(some 105), (.q (.extract 2 (.tmp 100))), none⟩, ⟨(some 20), (.q (.move (.tmp 103))), none⟩, ⟨(some 21), (.q (.move (.tmp 104))), none⟩, ⟨(some 22), (.q (.move (.tmp 105))), none⟩]) 
    (.seq 
    (.region [⟨(some 107), (.q (.move (.tmp 1))), none⟩, ⟨(some 108), (.q (.move (.tmp 2))), none⟩, ⟨(some 109), (.s (.call 22 [(.tmp 107), (.tmp 108)])), none⟩, ⟨(some 106), (.q (.move (.tmp 109))), none⟩, ⟨(some 110), (.q (.extract 0 (.tmp 106))), none⟩, ⟨(some 111), (.q (.extract 1 (.tmp 106))), none⟩, ⟨(some 23), (.q (.move (.tmp 110))), none⟩, ⟨(some 24), (.q (.move (.tmp 111))), none⟩]) 
    (.seq 
    (.region [⟨(some 113), (.q (.move (.tmp 1))), none⟩, ⟨(some 114), (.q (.move (.tmp 2))), none⟩, ⟨(some 115), (.s (.call 23 [(.tmp 113), (.tmp 114)])), none⟩, ⟨(some 112), (.q (.move (.tmp 115))), none⟩, ⟨(some 116), (.q (.extract 0 (.tmp 112))), none⟩, ⟨(some 117), (.q (.extract 1 (.tmp 112))), none⟩, ⟨(some 25), (.q (.move (.tmp 116))), none⟩, ⟨(some 26), (.q (.move (.tmp 117))), none⟩]) 
    (.seq 
    (.region [⟨(some 118), (.q (.move (.tmp 17))), none⟩, ⟨(some 119), (.q (.move (.tmp 20))), none⟩, ⟨(some 120), (.s (.call 24 [(.tmp 118), (.tmp 119)])), none⟩, ⟨(some 121), (.q (.move (.tmp 120))), none⟩, ⟨(some 122), (.q (.move (.tmp 18))), (some (121, true))⟩, ⟨(some 123), (.q (.move (.tmp 21))), (some (121, true))⟩, ⟨(some 124), (.q (.bin .eql (.tmp 122) (.tmp 123))), (some (121, true))⟩, ⟨(some 125), (.q (.pick (.tmp 121) (.tmp 124) (.const (.bool false)))), none⟩, ⟨(some 126), (.q (.move (.tmp 125))), none⟩, ⟨(some 127), (.q (.move (.tmp 19))), (some (126, true))⟩, ⟨(some 128), (.q (.move (.tmp 22))), (some (126, true))⟩, ⟨(some 129), (.q (.bin .eql (.tmp 127) (.tmp 128))), (some (126, true))⟩, ⟨(some 130), (.q (.pick (.tmp 126) (.tmp 129) (.const (.bool false)))), none⟩, ⟨(some 131), (.q (.move (.tmp 130))), none⟩, ⟨(some 132), (.q (.move (.tmp 23))), (some (131, true))⟩, ⟨(some 133), (.q (.move (.tmp 25))), (some (131, true))⟩, ⟨(some 134), (.q (.bin .eql (.tmp 132) (.tmp 133))), (some (131, true))⟩, ⟨(some 135), (.q (.pick (.tmp 131) (.tmp 134) (.const (.bool false)))), none⟩, ⟨(some 136), (.q (.move (.tmp 135))), none⟩, ⟨(some 137), (.q (.move (.tmp 24))), (some (136, true))⟩, ⟨(some 138), (.q (.move (.tmp 26))), (some (136, true))⟩, ⟨(some 139), (.q (.bin .eql (.tmp 137) (.tmp 138))), (some (136, true))⟩, ⟨(some 140), (.q (.pick (.tmp 136) (.tmp 139) (.const (.bool false)))), none⟩, ⟨(some 141), (.q (.move (.tmp 140))), none⟩, ⟨(some 142), (.q (.move (.tmp 9))), (some (141, true))⟩, ⟨(some 143), (.s (.call 19 [(.tmp 142)])), (some (141, true))⟩, ⟨(some 144), (.q (.bin .eql (.tmp 143) (.const (.str (B []))))), (some (141, true))⟩, ⟨(some 145), (.q (.pick (.tmp 141) (.tmp 144) (.const (.bool false)))), none⟩, ⟨(some 146), (.q (.move (.tmp 145))), none⟩, ⟨(some 147), (.s (.call 16 [])), (some (146, true))⟩, ⟨(some 148), (.q (.pick (.tmp 146) (.tmp 147) (.const (.bool false)))), none⟩, ⟨(some 6), (.q (.move (.tmp 148))), none⟩]) .ret))))))))))
theorem t3 : Told Try.prog 3 149 c3 [(.tmp 6)] := ⟨Try.f3, _, [], Try.func3, rfl, by kernel_rfl, rfl, by kernel_rfl, by kernel_rfl⟩
def c4 : ACode := 
    (.seq 
    (.region [⟨(some 2), (.q (.move (.const (.bool false)))), none⟩]) 
    (.seq 
    (.seq 
    (.region [⟨(some 10), (.q (.move (.tmp 0))), none⟩, ⟨(some 11), (.s (.call 15 [(.tmp 10)])), none⟩, ⟨(some 12), (.q (.un .not (.tmp 11))), none⟩]) 
    (.cond (.tmp 12) 
    (.seq 
    (.region [⟨(some 13), (.s (.call 16 [])), none⟩, ⟨(some 2), (.q (.move (.tmp 13))), none⟩]) .ret) .skip)) 
    (.seq 
    (.region [⟨(some 15), (.q (.move (.tmp 0))), none⟩, ⟨(some 16), (.s (.call 20 [(.tmp 15)])), none⟩, ⟨(some 14), (.q (.move (.tmp 16))), none⟩, ⟨(some 17), (.q (.extract 0 (.tmp 14))), none⟩, ⟨(some 18), (.q (.extract 1 (.tmp 14))), none⟩, ⟨(some 19), (.q (.extract 2 (.tmp 14))), none⟩, ⟨(some 3), (.q (.move (.tmp 17))), none⟩, ⟨(some 4), (.q (.move (.tmp 18))), none⟩, ⟨(some 5), (.q (.move (.tmp 19))), none⟩]) 
    (.seq 
    (.seq 
    (.region [⟨(some 20), (.q (.move (.tmp 5))), none⟩, ⟨(some 21), (.q (.bin .neq (.tmp 20) (.const (.int .i64 0)))), none⟩]) 
    (.cond (.tmp 21) 
    (.seq 
    (.region [⟨(some 22), (.q (.move (.tmp 3))), none⟩, ⟨(some 23), (.q (.len false (.tmp 22))), none⟩, ⟨(some 24), (.q (.bin .eql (.tmp 23) (.const (.int .i64 0)))), none⟩, ⟨(some 25), (.q (.move (.tmp 24))), none⟩, ⟨(some 26), (.q (.move (.tmp 4))), (some (25, true))⟩, ⟨(some 27), (.q (.bin .eql (.tmp 26) (.const (.str (B []))))), (some (25, true))⟩, ⟨(some 28), (.q (.pick (.tmp 25) (.tmp 27) (.const (.bool false)))), none⟩, ⟨(some 29), (.q (.move (.tmp 28))), none⟩, ⟨(some 30), (.s (.call 16 [])), (some (29, true))⟩, ⟨(some 31), (.q (.pick (.tmp 29) (.tmp 30) (.const (.bool false)))), none⟩, ⟨(some 2), (.q (.move (.tmp 31))), none⟩]) .ret) .skip)) 
    (.seq 
    (.seq 
    (.region [⟨(some 32), (.q (.move (.tmp 3))), none⟩, ⟨(some 33), (.q (.len false (.tmp 32))), none⟩, ⟨(some 34), (.q (.move (.tmp 0))), none⟩, ⟨(some 35), (.q (.len false (.tmp 34))), none⟩, ⟨(some 36), (.q (.bin .neq (.tmp 33) (.tmp 35))), none⟩]) 
    (.cond (.tmp 36) 
    (.seq 
    (.region [⟨(some 2), (.q (.move (.const (.bool false)))), none⟩]) .ret) .skip)) 
    (.seq 
    (.seq 
    (.region [⟨(some 6), (.q (.move (.const (.int .i64 0)))), none⟩]) 
    (.block 0 
    (.loop 
    (.seq 
    (.seq 
    (.region [⟨(some 37), (.q (.move (.tmp 6))), none⟩, ⟨(some 38), (.q (.move (.tmp 0))), none⟩, ⟨(some 39), (.q (.len false (.tmp 38))), none⟩, ⟨(some 40), (.q (.bin .lss (.tmp 37) (.tmp 39))), none⟩, ⟨(some 41), (.q (.move (.tmp 40))), none⟩, ⟨(some 42), (.q (.move (.tmp 6))), (some (41, true))⟩, ⟨(some 43), (.q (.move (.tmp 3))), (some (41, true))⟩, ⟨(some 44), (.q (.len false (.tmp 43))), (some (41, true))⟩, ⟨(some 45), (.q (.bin .lss (.tmp 42) (.tmp 44))), (some (41, true))⟩, ⟨(some 46), (.q (.pick (.tmp 41) (.tmp 45) (.const (.bool false)))), none⟩]) 
    (.cond (.tmp 46) .skip (.exit 0))) 
    (.seq 
    (.block 1 
    (.seq 
    (.region [⟨(some 50), (.q (.move (.tmp 4))), none⟩, ⟨(some 51), (.q (.move (.tmp 3))), none⟩, ⟨(some 52), (.q (.move (.tmp 6))), none⟩, ⟨(some 53), (.q (.idxSl 1 (.tmp 51) (.tmp 52))), none⟩, ⟨(some 54), (.q (.load false 1 (.tmp 53))), none⟩, ⟨(some 55), (.s (.call 22 [(.tmp 50), (.tmp 54)])), none⟩, ⟨(some 49), (.q (.move (.tmp 55))), none⟩, ⟨(some 56), (.q (.extract 0 (.tmp 49))), none⟩, ⟨(some 57), (.q (.extract 1 (.tmp 49))), none⟩, ⟨(some 7), (.q (.move (.tmp 56))), none⟩, ⟨(some 8), (.q (.move (.tmp 57))), none⟩]) 
    (.seq 
    (.seq 
    (.region [⟨(some 58), (.q (.move (.tmp 7))), none⟩, ⟨(some 59), (.q (.move (.tmp 0))), none⟩, ⟨(some 60), (.q (.move (.tmp 6))), none⟩, ⟨(some 61), (.q (.idxSl 1 (.tmp 59) (.tmp 60))), none⟩, ⟨(some 62), (.q (.load false 1 (.tmp 61))), none⟩, ⟨(some 63), (.q (.bin .neq (.tmp 58) (.tmp 62))), none⟩, ⟨(some 64), (.q (.move (.tmp 63))), none⟩, ⟨(some 65), (.q (.move (.tmp 8))), (some (64, false))⟩, ⟨(some 66), (.q (.bin .neq (.tmp 65) (.const (.int .i64 0)))), (some (64, false))⟩, ⟨(some 67), (.q (.pick (.tmp 64) (.const (.bool true)) (.tmp 66))), none⟩]) 
    (.cond (.tmp 67) 
    (.seq 
    (.region [⟨(some 2), (.q (.move (.const (.bool false)))), none⟩]) .ret) .skip)) 
    (.seq 
    (.region [⟨(some 9), (.q (.move (.const (.int .i64 0)))), none⟩]) 
    (.block 2 
    (.loop 
    (.seq 
    (.seq 
    (.region [⟨(some 68), (.q (.move (.tmp 9))), none⟩, ⟨(some 69), (.q (.move (.tmp 6))), none⟩, ⟨(some 70), (.q (.bin .lss (.tmp 68) (.tmp 69))), none⟩]) 
    (.cond (.tmp 70) .skip (.exit 2))) 
    (.seq 
    (.block 3 
    (.seq 
    (.region [⟨(some 73), (.q (.move (.tmp 3))), none⟩, ⟨(some 74), (.q (.move (.tmp 6))), none⟩, ⟨(some 75), (.q (.idxSl 1 (.tmp 73) (.tmp 74))), none⟩, ⟨(some 76), (.q (.load false 1 (.tmp 75))), none⟩, ⟨(some 77), (.q (.move (.tmp 3))), none⟩, ⟨(some 78), (.q (.move (.tmp 9))), none⟩, ⟨(some 79), (.q (.idxSl 1 (.tmp 77) (.tmp 78))), none⟩, ⟨(some 80), (.q (.load false 1 (.tmp 79))), none⟩, ⟨(some 81), (.q (.bin .eql (.tmp 76) (.tmp 80))), none⟩, ⟨(some 82), (.q (.move (.tmp 0))), none⟩, ⟨(some 83), (.q (.move (.tmp 6))), none⟩, ⟨(some 84), (.q (.idxSl 1 (.tmp 82) (.tmp 83))), none⟩, ⟨(some 85), (.q (.load false 1 (.tmp 84))), none⟩, ⟨(some 86), (.q (.move (.tmp 0))), none⟩, ⟨(some 87), (.q (.move (.tmp 9))), none⟩, ⟨(some 88), (.q (.idxSl 1 (.tmp 86) (.tmp 87))), none⟩, ⟨(some 89), (.q (.load false 1 (.tmp 88))), none⟩, ⟨(some 90), (.q (.bin .eql (.tmp 85) (.tmp 89))), none⟩, ⟨(some 91), (.q (.beq true (.tmp 81) (.tmp 90))), none⟩]) 
    (.cond (.tmp 91) 
    (.seq 
    (.region [⟨(some 2), (.q (.move (.const (.bool false)))), none⟩]) .ret) .skip))) 
    (.region [⟨(some 71), (.q (.move (.tmp 9))), none⟩, ⟨(some 72), (.q (.bin .add (.tmp 71) (.const (.int .i64 1)))), none⟩, ⟨(some 9), (.q (.move (.tmp 72))), none⟩]))))))))) 
    (.region [⟨(some 47), (.q (.move (.tmp 6))), none⟩, ⟨(some 48), (.q (.bin .add (.tmp 47) (.const (.int .i64 1)))), none⟩, ⟨(some 6), (.q (.move (.tmp 48))), none⟩])))))) 
    (.seq 
    (.region [⟨(some 92), (.s (.call 16 [])), none⟩, ⟨(some 2), (.q (.move (.tmp 92))), none⟩]) .ret)))))))
theorem t4 : Told Try.prog 4 93 c4 [(.tmp 2)] := ⟨Try.f4, _, [], Try.func4, rfl, by kernel_rfl, rfl, by kernel_rfl, by kernel_rfl⟩
end Go.Proofs.Ytblflecalomgfaa.AL
