/- Package tree and the document's: the code told. -/
import Derived.Test.YtblflecalomgfaaQGrammarNamesALA3
import Derived.Test.YtblflecalomgfaaProg
import Derived.KernelRfl
set_option maxRecDepth 100000
namespace Go.Proofs.Ytblflecalomgfaa.AL
open Go Go.Proofs
def c159 : ACode := 
    (.seq 
    (.region [⟨(some 2), (.s (.box 83 (.tmp 0))), none⟩, ⟨(some 4), (.q (.move (.const (.int .i64 0)))), none⟩, ⟨(some 5), (.q (.move (.const (.int .i64 0)))), none⟩, ⟨(some 6), (.q (.move (.const (.int .i64 0)))), none⟩]) 
    (.seq 
    (.seq 
    (.region [⟨(some 15), (.q (.move (.tmp 1))), none⟩, ⟨(some 16), (.q (.bin .eql (.tmp 15) (.const (.int .i64 0)))), none⟩]) 
    (.cond (.tmp 16) 
    (.seq 
    (.region [⟨(some 4), (.q (.move (.const (.int .i64 0)))), none⟩, ⟨(some 5), (.q (.move (.const (.int .i64 0)))), none⟩, ⟨(some 6), (.q (.move (.const (.int .i64 0)))), none⟩]) .ret) .skip)) 
    (.seq 
    (.region [⟨(some 17), (.q (.fieldAddr 1 (.tmp 2))), none⟩, ⟨(some 18), (.q (.load false 1 (.tmp 17))), none⟩, ⟨(some 19), (.q (.len false (.tmp 18))), none⟩, ⟨(some 7), (.q (.move (.const (.int .i64 1)))), none⟩, ⟨(some 8), (.q (.move (.tmp 19))), none⟩, ⟨(some 9), (.q (.move (.const (.int .i64 0)))), none⟩]) 
    (.seq 
    (.seq 
    (.region [⟨(some 20), (.q (.fieldAddr 2 (.tmp 2))), none⟩, ⟨(some 21), (.q (.load false 1 (.tmp 20))), none⟩, ⟨(some 22), (.q (.len false (.tmp 21))), none⟩, ⟨(some 23), (.q (.move (.const (.int .i64 0)))), none⟩]) 
    (.block 0 
    (.loop 
    (.seq 
    (.region [⟨(some 24), (.q (.bin .lss (.tmp 23) (.tmp 22))), none⟩]) 
    (.seq 
    (.cond (.tmp 24) .skip (.exit 0)) 
    (.seq 
    (.block 1 
    (.seq 
    (.region [⟨(some 25), (.q (.idxSl 3 (.tmp 21) (.tmp 23))), none⟩, ⟨(some 26), (.q (.load true 3 (.tmp 25))), none⟩, ⟨(some 11), (.s (.alloc 83 [(.str (B [])), .nils, .nils])), none⟩, ⟨none, (.s (.store 3 (.tmp 11) (.tmp 26))), none⟩]) 
    (.seq 
    (.region [⟨(some 28), (.q (.load true 3 (.tmp 11))), none⟩, ⟨(some 29), (.q (.move (.tmp 1))), none⟩, ⟨(some 30), (.q (.bin .sub (.tmp 29) (.const (.int .i64 1)))), none⟩, ⟨(some 31), (.s (.call 159 [(.tmp 28), (.tmp 30)])), none⟩, ⟨(some 27), (.q (.move (.tmp 31))), none⟩, ⟨(some 32), (.q (.extract 0 (.tmp 27))), none⟩, ⟨(some 33), (.q (.extract 1 (.tmp 27))), none⟩, ⟨(some 34), (.q (.extract 2 (.tmp 27))), none⟩, ⟨(some 12), (.q (.move (.tmp 32))), none⟩, ⟨(some 13), (.q (.move (.tmp 33))), none⟩, ⟨(some 14), (.q (.move (.tmp 34))), none⟩]) 
    (.region [⟨(some 35), (.q (.move (.tmp 7))), none⟩, ⟨(some 36), (.q (.move (.tmp 12))), none⟩, ⟨(some 37), (.q (.bin .add (.tmp 35) (.tmp 36))), none⟩, ⟨(some 38), (.q (.move (.tmp 8))), none⟩, ⟨(some 39), (.q (.move (.tmp 13))), none⟩, ⟨(some 40), (.q (.bin .add (.tmp 38) (.tmp 39))), none⟩, ⟨(some 41), (.q (.move (.tmp 9))), none⟩, ⟨(some 42), (.q (.move (.tmp 14))), none⟩, ⟨(some 43), (.q (.best true (.tmp 41) (.tmp 42))), none⟩, ⟨(some 7), (.q (.move (.tmp 37))), none⟩, ⟨(some 8), (.q (.move (.tmp 40))), none⟩, ⟨(some 9), (.q (.move (.tmp 43))), none⟩])))) 
    (.region [⟨(some 44), (.q (.bin .add (.tmp 23) (.const (.int .i64 1)))), none⟩, ⟨(some 23), (.q (.move (.tmp 44))), none⟩]))))))) 
    (.seq 
    (.region [⟨(some 45), (.q (.move (.tmp 7))), none⟩, ⟨(some 46), (.q (.move (.tmp 8))), none⟩, ⟨(some 47), (.q (.move (.tmp 9))), none⟩, ⟨(some 48), (.q (.bin .add (.tmp 47) (.const (.int .i64 1)))), none⟩, ⟨(some 4), (.q (.move (.tmp 45))), none⟩, ⟨(some 5), (.q (.move (.tmp 46))), none⟩, ⟨(some 6), (.q (.move (.tmp 48))), none⟩]) .ret)))))
theorem t159 : Told Try.prog 159 49 c159 [(.tmp 4), (.tmp 5), (.tmp 6)] := ⟨Try.f159, _, [], Try.func159, rfl, by kernel_rfl, rfl, by kernel_rfl, by kernel_rfl⟩
def c111 : ACode := 
    (.seq 
    (.region [⟨(some 1), (.s (.box 83 (.tmp 0))), none⟩, ⟨(some 2), (.q (.move (.const (.int .i64 0)))), none⟩, ⟨(some 3), (.q (.move (.const (.int .i64 0)))), none⟩, ⟨(some 4), (.q (.move (.const (.int .i64 0)))), none⟩]) 
    (.seq 
    (.region [⟨(some 5), (.q (.load true 3 (.tmp 1))), none⟩, ⟨(some 6), (.s (.call 159 [(.tmp 5), (.const (.int .i64 9))])), none⟩, ⟨(some 7), (.q (.extract 0 (.tmp 6))), none⟩, ⟨(some 8), (.q (.extract 1 (.tmp 6))), none⟩, ⟨(some 9), (.q (.extract 2 (.tmp 6))), none⟩, ⟨(some 2), (.q (.move (.tmp 7))), none⟩, ⟨(some 3), (.q (.move (.tmp 8))), none⟩, ⟨(some 4), (.q (.move (.tmp 9))), none⟩]) .ret))
theorem t111 : Told Try.prog 111 10 c111 [(.tmp 2), (.tmp 3), (.tmp 4)] := ⟨Try.f111, _, [], Try.func111, rfl, by kernel_rfl, rfl, by kernel_rfl, by kernel_rfl⟩
def c112 : ACode := 
    (.seq 
    (.region [⟨(some 1), (.s (.box 83 (.tmp 0))), none⟩, ⟨(some 2), (.q (.move (.const (.bool false)))), none⟩]) 
    (.seq 
    (.region [⟨(some 7), (.q (.load true 3 (.tmp 1))), none⟩, ⟨(some 8), (.s (.call 111 [(.tmp 7)])), none⟩, ⟨(some 6), (.q (.move (.tmp 8))), none⟩, ⟨(some 9), (.q (.extract 0 (.tmp 6))), none⟩, ⟨(some 10), (.q (.extract 1 (.tmp 6))), none⟩, ⟨(some 11), (.q (.extract 2 (.tmp 6))), none⟩, ⟨(some 3), (.q (.move (.tmp 9))), none⟩, ⟨(some 4), (.q (.move (.tmp 10))), none⟩, ⟨(some 5), (.q (.move (.tmp 11))), none⟩]) 
    (.seq 
    (.region [⟨(some 12), (.q (.move (.tmp 3))), none⟩, ⟨(some 13), (.q (.bin .leq (.tmp 12) (.const (.int .i64 64)))), none⟩, ⟨(some 14), (.q (.move (.tmp 13))), none⟩, ⟨(some 15), (.q (.move (.tmp 4))), (some (14, true))⟩, ⟨(some 16), (.q (.bin .leq (.tmp 15) (.const (.int .i64 256)))), (some (14, true))⟩, ⟨(some 17), (.q (.pick (.tmp 14) (.tmp 16) (.const (.bool false)))), none⟩, ⟨(some 18), (.q (.move (.tmp 17))), none⟩, ⟨(some 19), (.q (.move (.tmp 5))), (some (18, true))⟩, ⟨(some 20), (.q (.bin .leq (.tmp 19) (.const (.int .i64 8)))), (some (18, true))⟩, ⟨(some 21), (.q (.pick (.tmp 18) (.tmp 20) (.const (.bool false)))), none⟩, ⟨(some 2), (.q (.move (.tmp 21))), none⟩]) .ret)))
theorem t112 : Told Try.prog 112 22 c112 [(.tmp 2)] := ⟨Try.f112, _, [], Try.func112, rfl, by kernel_rfl, rfl, by kernel_rfl, by kernel_rfl⟩
def c160 : ACode := 
    (.seq 
    (.region [⟨(some 6), (.s (.box 83 (.tmp 2))), none⟩, ⟨(some 8), (.q (.move (.const .nils))), none⟩]) 
    (.seq 
    (.seq 
    (.region [⟨(some 11), (.q (.move (.tmp 3))), none⟩, ⟨(some 12), (.q (.bin .eql (.tmp 11) (.const (.int .i64 0)))), none⟩]) 
    (.cond (.tmp 12) 
    (.seq 
    (.region [⟨(some 13), (.q (.move (.tmp 0))), none⟩, ⟨(some 8), (.q (.move (.tmp 13))), none⟩]) .ret) .skip)) 
    (.seq 
    (.region [⟨(some 14), (.q (.move (.tmp 0))), none⟩, ⟨(some 15), (.q (.move (.tmp 1))), none⟩, ⟨(some 16), (.q (.load true 3 (.tmp 6))), none⟩, ⟨(some 17), (.q (.build [(.str (B [])), (.str (B [])), .nils, .nils] [(0, (1, (.tmp 15))), (1, (3, (.tmp 16)))])), none⟩, ⟨(some 18), (.s (.lit 91 4 [(.tmp 17)])), none⟩, ⟨(some 19), (.s (.app 91 4 80 (.tmp 14) (.tmp 18))), none⟩, ⟨(some 0), (.q (.move (.tmp 19))), none⟩]) 
    (.seq 
    (.seq 
    (.region [⟨(some 20), (.q (.fieldAddr 2 (.tmp 6))), none⟩, ⟨(some 21), (.q (.load false 1 (.tmp 20))), none⟩, ⟨(some 22), (.q (.len false (.tmp 21))), none⟩, ⟨(some 23), (.q (.move (.const (.int .i64 0)))), none⟩]) 
    (.block 0 
    (.loop 
    (.seq 
    (.region [⟨(some 24), (.q (.bin .lss (.tmp 23) (.tmp 22))), none⟩]) 
    (.seq 
    (.cond (.tmp 24) .skip (.exit 0)) 
    (.seq 
    (.block 1 
    (.seq 
    (.region [⟨(some 25), (.q (.idxSl 3 (.tmp 21) (.tmp 23))), none⟩, ⟨(some 26), (.q (.load true 3 (.tmp 25))), none⟩, ⟨(some 10), (.s (.alloc 83 [(.str (B [])), .nils, .nils])), none⟩, ⟨none, (.s (.store 3 (.tmp 10) (.tmp 26))), none⟩]) 
    (.region [⟨(some 27), (.q (.move (.tmp 0))), none⟩, ⟨(some 28), (.q (.move (.tmp 1))), none⟩, ⟨(some 29), (.c (.fn 180) [(.tmp 28), (.const (.str (B [47])))]), none⟩, ⟨(some 30), (.q (.bin .add (.tmp 29) (.const (.str (B [47]))))), none⟩, ⟨(some 31), (.q (.fieldAddr 0 (.tmp 10))), none⟩, ⟨(some 32), (.q (.load false 1 (.tmp 31))), none⟩, ⟨(some 33), (.q (.bin .add (.tmp 30) (.tmp 32))), none⟩, ⟨(some 34), (.q (.load true 3 (.tmp 10))), none⟩, ⟨(some 35), (.q (.move (.tmp 3))), none⟩, ⟨(some 36), (.q (.bin .sub (.tmp 35) (.const (.int .i64 1)))), none⟩, ⟨(some 37), (.s (.call 160 [(.tmp 27), (.tmp 33), (.tmp 34), (.tmp 36)])), none⟩, ⟨(some 0), (.q (.move (.tmp 37))), none⟩]))) 
    (.region [⟨(some 38), (.q (.bin .add (.tmp 23) (.const (.int .i64 1)))), none⟩, ⟨(some 23), (.q (.move (.tmp 38))), none⟩]))))))) 
    (.seq 
    (.region [⟨(some 39), (.q (.move (.tmp 0))), none⟩, ⟨(some 8), (.q (.move (.tmp 39))), none⟩]) .ret)))))
theorem t160 : Told Try.prog 160 40 c160 [(.tmp 8)] := ⟨Try.f160, _, [], Try.func160, rfl, by kernel_rfl, rfl, by kernel_rfl, by kernel_rfl⟩
def c113 : ACode := 
    (.seq 
    (.region [⟨(some 1), (.s (.box 83 (.tmp 0))), none⟩, ⟨(some 2), (.q (.move (.const .nils))), none⟩]) 
    (.seq 
    (.region [⟨(some 3), (.q (.load true 3 (.tmp 1))), none⟩, ⟨(some 4), (.s (.call 160 [(.const .nils), (.const (.str (B [47]))), (.tmp 3), (.const (.int .i64 8))])), none⟩, ⟨(some 2), (.q (.move (.tmp 4))), none⟩]) .ret))
theorem t113 : Told Try.prog 113 5 c113 [(.tmp 2)] := ⟨Try.f113, _, [], Try.func113, rfl, by kernel_rfl, rfl, by kernel_rfl, by kernel_rfl⟩
def c180 : ACode := 
    (.seq 
    (.region [⟨(some 4), (.q (.move (.const (.str (B []))))), none⟩]) 
    (.seq 
    (.region [⟨(some 5), (.q (.move (.tmp 0))), none⟩, ⟨(some 6), (.q (.move (.tmp 1))), none⟩, ⟨(some 7), (.s (.call 190 [(.tmp 5), (.tmp 6)])), none⟩, ⟨(some 4), (.q (.move (.tmp 7))), none⟩]) .ret))
theorem t180 : Told Try.prog 180 8 c180 [(.tmp 4)] := ⟨Try.f180, _, [], Try.func180, rfl, by kernel_rfl, rfl, by kernel_rfl, by kernel_rfl⟩
def c190 : ACode := 
    (.seq 
    (.region [⟨(some 4), (.q (.move (.const (.str (B []))))), none⟩]) 
    (.seq 
    (.seq 
    (.region [⟨(some 5), (.q (.move (.tmp 0))), none⟩, ⟨(some 6), (.q (.move (.tmp 1))), none⟩, ⟨(some 7), (.s (.call 196 [(.tmp 5), (.tmp 6)])), none⟩]) 
    (.cond (.tmp 7) 
    (.seq 
    (.region [⟨(some 8), (.q (.move (.tmp 0))), none⟩, ⟨(some 9), (.q (.move (.tmp 0))), none⟩, ⟨(some 10), (.q (.len true (.tmp 9))), none⟩, ⟨(some 11), (.q (.move (.tmp 1))), none⟩, ⟨(some 12), (.q (.len true (.tmp 11))), none⟩, ⟨(some 13), (.q (.bin .sub (.tmp 10) (.tmp 12))), none⟩, ⟨(some 14), (.q (.sliceStr (.tmp 8) none (some (.tmp 13)))), none⟩, ⟨(some 4), (.q (.move (.tmp 14))), none⟩]) .ret) .skip)) 
    (.seq 
    (.region [⟨(some 15), (.q (.move (.tmp 0))), none⟩, ⟨(some 4), (.q (.move (.tmp 15))), none⟩]) .ret)))
theorem t190 : Told Try.prog 190 16 c190 [(.tmp 4)] := ⟨Try.f190, _, [], Try.func190, rfl, by kernel_rfl, rfl, by kernel_rfl, by kernel_rfl⟩
def c196 : ACode := 
    (.seq 
    (.region [⟨(some 4), (.q (.move (.const (.bool false)))), none⟩]) 
    (.seq 
    (.region [⟨(some 5), (.q (.move (.tmp 0))), none⟩, ⟨(some 6), (.q (.len true (.tmp 5))), none⟩, ⟨(some 7), (.q (.move (.tmp 1))), none⟩, ⟨(some 8), (.q (.len true (.tmp 7))), none⟩, ⟨(some 9), (.q (.bin .geq (.tmp 6) (.tmp 8))), none⟩, ⟨(some 10), (.q (.move (.tmp 9))), none⟩, ⟨(some 11), (.q (.move (.tmp 0))), (some (10, true))⟩, ⟨(some 12), (.q (.move (.tmp 0))), (some (10, true))⟩, ⟨(some 13), (.q (.len true (.tmp 12))), (some (10, true))⟩, ⟨(some 14), (.q (.move (.tmp 1))), (some (10, true))⟩, ⟨(some 15), (.q (.len true (.tmp 14))), (some (10, true))⟩, ⟨(some 16), (.q (.bin .sub (.tmp 13) (.tmp 15))), (some (10, true))⟩, ⟨(some 17), (.q (.sliceStr (.tmp 11) (some (.tmp 16)) none)), (some (10, true))⟩, ⟨(some 18), (.q (.move (.tmp 1))), (some (10, true))⟩, ⟨(some 19), (.q (.bin .eql (.tmp 17) (.tmp 18))), (some (10, true))⟩, ⟨(some 20), (.q (.pick (.tmp 10) (.tmp 19) (.const (.bool false)))), none⟩, ⟨(some 4), (.q (.move (.tmp 20))), none⟩]) .ret))
theorem t196 : Told Try.prog 196 21 c196 [(.tmp 4)] := ⟨Try.f196, _, [], Try.func196, rfl, by kernel_rfl, rfl, by kernel_rfl, by kernel_rfl⟩
end Go.Proofs.Ytblflecalomgfaa.AL

