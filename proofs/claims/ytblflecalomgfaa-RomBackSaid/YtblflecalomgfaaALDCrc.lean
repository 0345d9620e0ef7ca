/- The code of crc and its reference told, as the kernel evaluates it. -/
import Derived.Test.YtblflecalomgfaaAL14
import Derived.Test.YtblflecalomgfaaProg
import Derived.KernelRfl
set_option maxRecDepth 100000
namespace Go.Proofs.Ytblflecalomgfaa.AL
open Go Go.Proofs
def c186 : ACode := 
    (.seq 
    (.region [⟨(some 2), (.q (.move (.const (.int .u32 0)))), none⟩]) 
    (.seq 
    (.region [⟨(some 4), (.q (.move (.tmp 0))), none⟩, ⟨(some 5), (.q (.bin .and (.tmp 4) (.const (.int .u32 1)))), none⟩, ⟨(some 3), (.q (.move (.tmp 5))), none⟩]) 
    (.seq 
    (.region [⟨(some 6), (.q (.move (.tmp 0))), none⟩, ⟨(some 7), (.q (.bin .shr (.tmp 6) (.const (.int .u64 1)))), none⟩, ⟨(some 8), (.q (.move (.tmp 3))), none⟩, ⟨(some 9), (.q (.un .neg (.tmp 8))), none⟩, ⟨(some 10), (.q (.bin .and (.const (.int .u32 3988292384)) (.tmp 9))), none⟩, ⟨(some 11), (.q (.bin .xor (.tmp 7) (.tmp 10))), none⟩, ⟨(some 2), (.q (.move (.tmp 11))), none⟩]) .ret)))
theorem t186 : Told Try.prog 186 12 c186 [(.tmp 2)] := ⟨Try.f186, _, [], Try.func186, rfl, by kernel_rfl, rfl, by kernel_rfl, by kernel_rfl⟩
def c171 : ACode := 
    (.seq 
    (.region [⟨(some 2), (.q (.move (.const (.int .u32 0)))), none⟩]) 
    (.seq 
    (.seq 
    (.region [⟨(some 3), (.q (.move (.const (.int .i64 0)))), none⟩]) 
    (.block 0 
    (.loop 
    (.seq 
    (.region [⟨(some 4), (.q (.bin .lss (.tmp 3) (.const (.int .i64 8)))), none⟩]) 
    (.seq 
    (.cond (.tmp 4) .skip (.exit 0)) 
    (.seq 
    (.block 1 
    (.region [⟨(some 5), (.q (.move (.tmp 0))), none⟩, ⟨(some 6), (.s (.call 186 [(.tmp 5)])), none⟩, ⟨(some 0), (.q (.move (.tmp 6))), none⟩])) 
    (.region [⟨(some 7), (.q (.bin .add (.tmp 3) (.const (.int .i64 1)))), none⟩, ⟨(some 3), (.q (.move (.tmp 7))), none⟩]))))))) 
    (.seq 
    (.region [⟨(some 8), (.q (.move (.tmp 0))), none⟩, ⟨(some 2), (.q (.move (.tmp 8))), none⟩]) .ret)))
theorem t171 : Told Try.prog 171 9 c171 [(.tmp 2)] := ⟨Try.f171, _, [], Try.func171, rfl, by kernel_rfl, rfl, by kernel_rfl, by kernel_rfl⟩
def c150 : ACode := 
    (.seq 
    (.region [⟨(some 6), (.q (.move (.const (.int .u32 0)))), none⟩]) 
    (.seq 
    (.seq 
    (.region [⟨(some 9), (.q (.move (.tmp 2))), none⟩, ⟨(some 10), (.s (.s2b 5 (.tmp 9))), none⟩, ⟨(some 11), (.q (.len false (.tmp 10))), none⟩, ⟨(some 12), (.q (.move (.const (.int .i64 0)))), none⟩]) 
    (.block 0 
    (.loop 
    (.seq 
    (.region [⟨(some 13), (.q (.bin .lss (.tmp 12) (.tmp 11))), none⟩]) 
    (.seq 
    (.cond (.tmp 13) .skip (.exit 0)) 
    (.seq 
    (.block 1 
    (.seq 
    (.region [⟨(some 14), (.q (.idxSl 1 (.tmp 10) (.tmp 12))), none⟩, ⟨(some 15), (.q (.load false 1 (.tmp 14))), none⟩, ⟨(some 8), (.q (.move (.tmp 15))), none⟩]) 
    (.region [⟨(some 16), (.q (.move (.tmp 0))), none⟩, ⟨(some 17), (.q (.bin .shr (.tmp 16) (.const (.int .u64 8)))), none⟩, ⟨(some 18), (.q (.move (.tmp 1))), none⟩, ⟨(some 19), (.q (.move (.tmp 0))), none⟩, ⟨(some 20), (.q (.conv .u8 (.tmp 19))), none⟩, ⟨(some 21), (.q (.move (.tmp 8))), none⟩, ⟨(some 22), (.q (.bin .xor (.tmp 20) (.tmp 21))), none⟩, ⟨(some 23), (.q (.nonil (.tmp 18))), none⟩, ⟨(some 24), (.q (.idxPt 1 256 (.tmp 23) (.tmp 22))), none⟩, ⟨(some 25), (.q (.load false 1 (.tmp 24))), none⟩, ⟨(some 26), (.q (.bin .xor (.tmp 17) (.tmp 25))), none⟩, ⟨(some 0), (.q (.move (.tmp 26))), none⟩]))) 
    (.region [⟨(some 27), (.q (.bin .add (.tmp 12) (.const (.int .i64 1)))), none⟩, ⟨(some 12), (.q (.move (.tmp 27))), none⟩]))))))) 
    (.seq 
    (.region [⟨(some 28), (.q (.move (.tmp 0))), none⟩, ⟨(some 6), (.q (.move (.tmp 28))), none⟩]) .ret)))
theorem t150 : Told Try.prog 150 29 c150 [(.tmp 6)] := ⟨Try.f150, _, [], Try.func150, rfl, by kernel_rfl, rfl, by kernel_rfl, by kernel_rfl⟩
def c149 : ACode := 
    (.seq 
    (.region [⟨(some 0), (.s (.alloc 171 (List.replicate 256 (.int .u32 0)))), none⟩]) 
    (.seq 
    (.region [⟨(some 1), (.s (.alloc 171 (List.replicate 256 (.int .u32 0)))), none⟩]) 
    (.seq 
    (.seq 
    (.region [⟨(some 3), (.q (.move (.const (.int .i64 0)))), none⟩]) 
    (.block 0 
    (.loop 
    (.seq 
    (.region [⟨(some 4), (.q (.bin .lss (.tmp 3) (.const (.int .i64 256)))), none⟩]) 
    (.seq 
    (.cond (.tmp 4) .skip (.exit 0)) 
    (.seq 
    (.block 1 
    (.seq 
    (.region [⟨(some 5), (.q (.move (.tmp 3))), none⟩, ⟨(some 2), (.q (.move (.tmp 5))), none⟩]) 
    (.region [⟨(some 6), (.q (.move (.tmp 2))), none⟩, ⟨(some 7), (.q (.move (.tmp 2))), none⟩, ⟨(some 8), (.q (.conv .u32 (.tmp 7))), none⟩, ⟨(some 9), (.s (.call 171 [(.tmp 8)])), none⟩, ⟨(some 10), (.q (.idxPt 1 256 (.tmp 1) (.tmp 6))), none⟩, ⟨none, (.s (.store 1 (.tmp 10) (.tmp 9))), none⟩]))) 
    (.region [⟨(some 11), (.q (.bin .add (.tmp 3) (.const (.int .i64 1)))), none⟩, ⟨(some 3), (.q (.move (.tmp 11))), none⟩]))))))) 
    (.seq 
    (.region [⟨(some 12), (.q (.load true 256 (.tmp 1))), none⟩, ⟨none, (.s (.store 256 (.tmp 0) (.tmp 12))), none⟩]) .ret))))
theorem t149 : Told Try.prog 149 13 c149 [(.cell 0 true 256)] := ⟨Try.f149, _, [], Try.func149, rfl, by kernel_rfl, rfl, by kernel_rfl, by kernel_rfl⟩
def c94 : ACode := 
    (.seq 
    (.region [⟨(some 2), (.q (.move (.const (.int .i64 0)))), none⟩]) 
    (.seq 
    (.region [⟨(some 7), (.s (.call 149 [])), none⟩, ⟨(some 3), (.s (.alloc 171 (List.replicate 256 (.int .u32 0)))), none⟩, ⟨none, (.s (.store 256 (.tmp 3) (.tmp 7))), none⟩]) 
    (.seq 
    (.region [⟨(some 4), (.q (.move (.const (.int .u32 4294967295)))), none⟩]) 
    (.seq 
    (.seq 
    (.region [⟨(some 8), (.q (.move (.tmp 0))), none⟩, ⟨(some 9), (.q (.len false (.tmp 8))), none⟩, ⟨(some 10), (.q (.move (.const (.int .i64 0)))), none⟩]) 
    (.block 0 
    (.loop 
    (.seq 
    (.region [⟨(some 11), (.q (.bin .lss (.tmp 10) (.tmp 9))), none⟩]) 
    (.seq 
    (.cond (.tmp 11) .skip (.exit 0)) 
    (.seq 
    (.block 1 
    (.seq 
    (.region [⟨(some 12), (.q (.idxSl 1 (.tmp 8) (.tmp 10))), none⟩, ⟨(some 13), (.q (.load false 1 (.tmp 12))), none⟩, ⟨(some 6), (.q (.move (.tmp 13))), none⟩]) 
    (.region [⟨(some 14), (.q (.move (.tmp 4))), none⟩, ⟨(some 15), (.q (.move (.tmp 6))), none⟩, ⟨(some 16), (.s (.call 150 [(.tmp 14), (.tmp 3), (.tmp 15)])), none⟩, ⟨(some 4), (.q (.move (.tmp 16))), none⟩]))) 
    (.region [⟨(some 17), (.q (.bin .add (.tmp 10) (.const (.int .i64 1)))), none⟩, ⟨(some 10), (.q (.move (.tmp 17))), none⟩]))))))) 
    (.seq 
    (.region [⟨(some 18), (.q (.move (.tmp 4))), none⟩, ⟨(some 19), (.q (.bin .xor (.tmp 18) (.const (.int .u32 4294967295)))), none⟩, ⟨(some 20), (.q (.conv .i64 (.tmp 19))), none⟩, ⟨(some 2), (.q (.move (.tmp 20))), none⟩]) .ret)))))
theorem t94 : Told Try.prog 94 21 c94 [(.tmp 2)] := ⟨Try.f94, _, [], Try.func94, rfl, by kernel_rfl, rfl, by kernel_rfl, by kernel_rfl⟩
def c188 : ACode := 
    (.seq 
    (.region [⟨(some 2), (.q (.move (.const (.int .u32 0)))), none⟩]) 
    (.seq 
    (.seq 
    (.region [⟨(some 3), (.q (.move (.tmp 0))), none⟩, ⟨(some 4), (.q (.bin .rem (.tmp 3) (.const (.int .u32 2)))), none⟩, ⟨(some 5), (.q (.bin .eql (.tmp 4) (.const (.int .u32 1)))), none⟩]) 
    (.cond (.tmp 5) 
    (.seq 
    (.region [⟨(some 6), (.q (.move (.tmp 0))), none⟩, ⟨(some 7), (.q (.bin .quo (.tmp 6) (.const (.int .u32 2)))), none⟩, ⟨(some 8), (.q (.bin .xor (.tmp 7) (.const (.int .u32 3988292384)))), none⟩, ⟨(some 2), (.q (.move (.tmp 8))), none⟩]) .ret) .skip)) 
    (.seq 
    (.region [⟨(some 9), (.q (.move (.tmp 0))), none⟩, ⟨(some 10), (.q (.bin .quo (.tmp 9) (.const (.int .u32 2)))), none⟩, ⟨(some 2), (.q (.move (.tmp 10))), none⟩]) .ret)))
theorem t188 : Told Try.prog 188 11 c188 [(.tmp 2)] := ⟨Try.f188, _, [], Try.func188, rfl, by kernel_rfl, rfl, by kernel_rfl, by kernel_rfl⟩
def c175 : ACode := 
    (.seq 
    (.region [⟨(some 2), (.q (.move (.const (.int .u32 0)))), none⟩]) 
    (.seq 
    (.seq 
    (.region [⟨(some 3), (.q (.move (.const (.int .i64 0)))), none⟩]) 
    (.block 0 
    (.loop 
    (.seq 
    (.seq 
    (.region [⟨(some 4), (.q (.move (.tmp 3))), none⟩, ⟨(some 5), (.q (.bin .lss (.tmp 4) (.const (.int .i64 8)))), none⟩]) 
    (.cond (.tmp 5) .skip (.exit 0))) 
    (.seq 
    (.block 1 
    (.region [⟨(some 8), (.q (.move (.tmp 0))), none⟩, ⟨(some 9), (.s (.call 188 [(.tmp 8)])), none⟩, ⟨(some 0), (.q (.move (.tmp 9))), none⟩])) 
    (.region [⟨(some 6), (.q (.move (.tmp 3))), none⟩, ⟨(some 7), (.q (.bin .add (.tmp 6) (.const (.int .i64 1)))), none⟩, ⟨(some 3), (.q (.move (.tmp 7))), none⟩])))))) 
    (.seq 
    (.region [⟨(some 10), (.q (.move (.tmp 0))), none⟩, ⟨(some 2), (.q (.move (.tmp 10))), none⟩]) .ret)))
theorem t175 : Told Try.prog 175 11 c175 [(.tmp 2)] := ⟨Try.f175, _, [], Try.func175, rfl, by kernel_rfl, rfl, by kernel_rfl, by kernel_rfl⟩
def c153 : ACode := 
    (.seq 
    (.region [⟨(some 4), (.q (.move (.const (.int .i64 0)))), none⟩]) 
    (.seq 
    (.region [⟨(some 7), (.q (.move (.tmp 0))), none⟩, ⟨(some 8), (.q (.conv .u32 (.tmp 7))), none⟩, ⟨(some 9), (.q (.bin .xor (.tmp 8) (.const (.int .u32 4294967295)))), none⟩, ⟨(some 5), (.q (.move (.tmp 9))), none⟩]) 
    (.seq 
    (.seq 
    (.region [⟨(some 6), (.q (.move (.const (.int .i64 0)))), none⟩]) 
    (.block 0 
    (.loop 
    (.seq 
    (.seq 
    (.region [⟨(some 10), (.q (.move (.tmp 6))), none⟩, ⟨(some 11), (.q (.move (.tmp 1))), none⟩, ⟨(some 12), (.q (.len true (.tmp 11))), none⟩, ⟨(some 13), (.q (.bin .lss (.tmp 10) (.tmp 12))), none⟩]) 
    (.cond (.tmp 13) .skip (.exit 0))) 
    (.seq 
    (.block 1 
    (.region [⟨(some 16), (.q (.move (.tmp 5))), none⟩, ⟨(some 17), (.q (.move (.tmp 1))), none⟩, ⟨(some 18), (.q (.move (.tmp 6))), none⟩, ⟨(some 19), (.q (.idxStr (.tmp 17) (.tmp 18))), none⟩, ⟨(some 20), (.q (.conv .u32 (.tmp 19))), none⟩, ⟨(some 21), (.q (.bin .xor (.tmp 16) (.tmp 20))), none⟩, ⟨(some 22), (.s (.call 175 [(.tmp 21)])), none⟩, ⟨(some 5), (.q (.move (.tmp 22))), none⟩])) 
    (.region [⟨(some 14), (.q (.move (.tmp 6))), none⟩, ⟨(some 15), (.q (.bin .add (.tmp 14) (.const (.int .i64 1)))), none⟩, ⟨(some 6), (.q (.move (.tmp 15))), none⟩])))))) 
    (.seq 
    (.region [⟨(some 23), (.q (.move (.tmp 5))), none⟩, ⟨(some 24), (.q (.bin .xor (.tmp 23) (.const (.int .u32 4294967295)))), none⟩, ⟨(some 25), (.q (.conv .i64 (.tmp 24))), none⟩, ⟨(some 4), (.q (.move (.tmp 25))), none⟩]) .ret))))
theorem t153 : Told Try.prog 153 26 c153 [(.tmp 4)] := ⟨Try.f153, _, [], Try.func153, rfl, by kernel_rfl, rfl, by kernel_rfl, by kernel_rfl⟩
def c98 : ACode := 
    (.seq 
    (.region [⟨(some 2), (.q (.move (.const (.int .i64 0)))), none⟩]) 
    (.seq 
    (.region [⟨(some 3), (.q (.move (.tmp 0))), none⟩, ⟨(some 4), (.s (.call 153 [(.const (.int .i64 0)), (.tmp 3)])), none⟩, ⟨(some 2), (.q (.move (.tmp 4))), none⟩]) .ret))
theorem t98 : Told Try.prog 98 5 c98 [(.tmp 2)] := ⟨Try.f98, _, [], Try.func98, rfl, by kernel_rfl, rfl, by kernel_rfl, by kernel_rfl⟩
end Go.Proofs.Ytblflecalomgfaa.AL
