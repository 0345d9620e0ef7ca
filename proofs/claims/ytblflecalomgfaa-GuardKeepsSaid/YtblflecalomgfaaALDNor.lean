/- The code of nor and its reference told, as the kernel evaluates it. -/
import Derived.Test.YtblflecalomgfaaAL14
import Derived.Test.YtblflecalomgfaaProg
import Derived.KernelRfl
set_option maxRecDepth 100000
namespace Go.Proofs.Ytblflecalomgfaa.AL
open Go Go.Proofs
def c170 : ACode := 
    (.seq 
    (.region [⟨(some 4), (.q (.move (.const (.int .u64 0)))), none⟩, ⟨(some 5), (.q (.move (.const (.int .u64 0)))), none⟩]) 
    (.seq 
    (.region [⟨(some 14), (.q (.move (.tmp 0))), none⟩, ⟨(some 15), (.q (.bin .and (.tmp 14) (.const (.int .u64 4294967295)))), none⟩, ⟨(some 6), (.q (.move (.tmp 15))), none⟩]) 
    (.seq 
    (.region [⟨(some 16), (.q (.move (.tmp 0))), none⟩, ⟨(some 17), (.q (.bin .shr (.tmp 16) (.const (.int .u64 32)))), none⟩, ⟨(some 7), (.q (.move (.tmp 17))), none⟩]) 
    (.seq 
    (.region [⟨(some 18), (.q (.move (.tmp 1))), none⟩, ⟨(some 19), (.q (.bin .and (.tmp 18) (.const (.int .u64 4294967295)))), none⟩, ⟨(some 8), (.q (.move (.tmp 19))), none⟩]) 
    (.seq 
    (.region [⟨(some 20), (.q (.move (.tmp 1))), none⟩, ⟨(some 21), (.q (.bin .shr (.tmp 20) (.const (.int .u64 32)))), none⟩, ⟨(some 9), (.q (.move (.tmp 21))), none⟩]) 
    (.seq 
    (.region [⟨(some 22), (.q (.move (.tmp 6))), none⟩, ⟨(some 23), (.q (.move (.tmp 8))), none⟩, ⟨(some 24), (.q (.bin .mul (.tmp 22) (.tmp 23))), none⟩, ⟨(some 10), (.q (.move (.tmp 24))), none⟩]) 
    (.seq 
    (.region [⟨(some 25), (.q (.move (.tmp 7))), none⟩, ⟨(some 26), (.q (.move (.tmp 8))), none⟩, ⟨(some 27), (.q (.bin .mul (.tmp 25) (.tmp 26))), none⟩, ⟨(some 28), (.q (.move (.tmp 10))), none⟩, ⟨(some 29), (.q (.bin .shr (.tmp 28) (.const (.int .u64 32)))), none⟩, ⟨(some 30), (.q (.bin .add (.tmp 27) (.tmp 29))), none⟩, ⟨(some 11), (.q (.move (.tmp 30))), none⟩]) 
    (.seq 
    (.region [⟨(some 31), (.q (.move (.tmp 11))), none⟩, ⟨(some 32), (.q (.bin .and (.tmp 31) (.const (.int .u64 4294967295)))), none⟩, ⟨(some 12), (.q (.move (.tmp 32))), none⟩]) 
    (.seq 
    (.region [⟨(some 33), (.q (.move (.tmp 11))), none⟩, ⟨(some 34), (.q (.bin .shr (.tmp 33) (.const (.int .u64 32)))), none⟩, ⟨(some 13), (.q (.move (.tmp 34))), none⟩]) 
    (.seq 
    (.region [⟨(some 35), (.q (.move (.tmp 12))), none⟩, ⟨(some 36), (.q (.move (.tmp 6))), none⟩, ⟨(some 37), (.q (.move (.tmp 9))), none⟩, ⟨(some 38), (.q (.bin .mul (.tmp 36) (.tmp 37))), none⟩, ⟨(some 39), (.q (.bin .add (.tmp 35) (.tmp 38))), none⟩, ⟨(some 12), (.q (.move (.tmp 39))), none⟩]) 
    (.seq 
    (.region [⟨(some 40), (.q (.move (.tmp 7))), none⟩, ⟨(some 41), (.q (.move (.tmp 9))), none⟩, ⟨(some 42), (.q (.bin .mul (.tmp 40) (.tmp 41))), none⟩, ⟨(some 43), (.q (.move (.tmp 13))), none⟩, ⟨(some 44), (.q (.bin .add (.tmp 42) (.tmp 43))), none⟩, ⟨(some 45), (.q (.move (.tmp 12))), none⟩, ⟨(some 46), (.q (.bin .shr (.tmp 45) (.const (.int .u64 32)))), none⟩, ⟨(some 47), (.q (.bin .add (.tmp 44) (.tmp 46))), none⟩, ⟨(some 4), (.q (.move (.tmp 47))), none⟩]) 
    (.seq 
    (.region [⟨(some 48), (.q (.move (.tmp 0))), none⟩, ⟨(some 49), (.q (.move (.tmp 1))), none⟩, ⟨(some 50), (.q (.bin .mul (.tmp 48) (.tmp 49))), none⟩, ⟨(some 5), (.q (.move (.tmp 50))), none⟩]) .ret))))))))))))
theorem t170 : Told Try.prog 170 51 c170 [(.tmp 4), (.tmp 5)] := ⟨Try.f170, _, [], Try.func170, rfl, by kernel_rfl, rfl, by kernel_rfl, by kernel_rfl⟩
def c144 : ACode := 
    (.seq 
    (.region [⟨(some 4), (.q (.move (.const (.int .u64 0)))), none⟩, ⟨(some 5), (.q (.move (.const (.int .u64 0)))), none⟩]) 
    (.seq 
    (.cond (.const (.bool false)) 
    (.seq 
    (.region [⟨(some 11), (.q (.move (.tmp 0))), none⟩, ⟨(some 12), (.q (.conv .u32 (.tmp 11))), none⟩, ⟨(some 13), (.q (.move (.tmp 1))), none⟩, ⟨(some 14), (.q (.conv .u32 (.tmp 13))), none⟩, ⟨(some 15), (.s (.call 169 [(.tmp 12), (.tmp 14)])), none⟩, ⟨(some 10), (.q (.move (.tmp 15))), none⟩, ⟨(some 16), (.q (.extract 0 (.tmp 10))), none⟩, ⟨(some 17), (.q (.extract 1 (.tmp 10))), none⟩, ⟨(some 6), (.q (.move (.tmp 16))), none⟩, ⟨(some 7), (.q (.move (.tmp 17))), none⟩]) 
    (.seq 
    (.region [⟨(some 18), (.q (.move (.tmp 6))), none⟩, ⟨(some 19), (.q (.conv .u64 (.tmp 18))), none⟩, ⟨(some 20), (.q (.move (.tmp 7))), none⟩, ⟨(some 21), (.q (.conv .u64 (.tmp 20))), none⟩, ⟨(some 4), (.q (.move (.tmp 19))), none⟩, ⟨(some 5), (.q (.move (.tmp 21))), none⟩]) .ret)) .skip) 
    (.seq 
    (.region [⟨(some 23), (.q (.move (.tmp 0))), none⟩, ⟨(some 24), (.q (.move (.tmp 1))), none⟩, ⟨(some 25), (.s (.call 170 [(.tmp 23), (.tmp 24)])), none⟩, ⟨(some 22), (.q (.move (.tmp 25))), none⟩, ⟨(some 26), (.q (.extract 0 (.tmp 22))), none⟩, ⟨(some 27), (.q (.extract 1 (.tmp 22))), none⟩, ⟨(some 8), (.q (.move (.tmp 26))), none⟩, ⟨(some 9), (.q (.move (.tmp 27))), none⟩]) 
    (.seq 
    (.region [⟨(some 28), (.q (.move (.tmp 8))), none⟩, ⟨(some 29), (.q (.move (.tmp 9))), none⟩, ⟨(some 4), (.q (.move (.tmp 28))), none⟩, ⟨(some 5), (.q (.move (.tmp 29))), none⟩]) .ret))))
theorem t144 : Told Try.prog 144 30 c144 [(.tmp 4), (.tmp 5)] := ⟨Try.f144, _, [], Try.func144, rfl, by kernel_rfl, rfl, by kernel_rfl, by kernel_rfl⟩
def c81 : ACode := 
    (.seq 
    (.region [⟨(some 4), (.q (.move (.const .nils))), none⟩]) 
    (.seq 
    (.seq 
    (.region [⟨(some 12), (.q (.move (.tmp 1))), none⟩, ⟨(some 13), (.q (.bin .eql (.tmp 12) (.const (.int .i64 0)))), none⟩]) 
    (.cond (.tmp 13) 
    (.seq 
    (.region [⟨(some 14), (.s (.lit 5 1 [])), none⟩, ⟨(some 4), (.q (.move (.tmp 14))), none⟩]) .ret) .skip)) 
    (.seq 
    (.seq 
    (.region [⟨(some 15), (.q (.move (.tmp 1))), none⟩, ⟨(some 16), (.q (.bin .lss (.tmp 15) (.const (.int .i64 0)))), none⟩]) 
    (.cond (.tmp 16) 
    (.region [⟨(some 17), (.q (.iface 9 (.const (.str (B [98, 121, 116, 101, 115, 58, 32, 110, 101, 103, 97, 116, 105, 118, 101, 32, 82, 101, 112, 101, 97, 116, 32, 99, 111, 117, 110, 116]))))), none⟩, ⟨none, (.s .stop), none⟩]) .skip)) 
    (.seq 
    (.region [⟨(some 19), (.q (.move (.tmp 0))), none⟩, ⟨(some 20), (.q (.len false (.tmp 19))), none⟩, ⟨(some 21), (.q (.conv .u64 (.tmp 20))), none⟩, ⟨(some 22), (.q (.move (.tmp 1))), none⟩, ⟨(some 23), (.q (.conv .u64 (.tmp 22))), none⟩, ⟨(some 24), (.s (.call 144 [(.tmp 21), (.tmp 23)])), none⟩, ⟨(some 18), (.q (.move (.tmp 24))), none⟩, ⟨(some 25), (.q (.extract 0 (.tmp 18))), none⟩, ⟨(some 26), (.q (.extract 1 (.tmp 18))), none⟩, ⟨(some 5), (.q (.move (.tmp 25))), none⟩, ⟨(some 6), (.q (.move (.tmp 26))), none⟩]) 
    (.seq 
    (.seq 
    (.region [⟨(some 27), (.q (.move (.tmp 5))), none⟩, ⟨(some 28), (.q (.bin .gtr (.tmp 27) (.const (.int .u64 0)))), none⟩, ⟨(some 29), (.q (.move (.tmp 28))), none⟩, ⟨(some 30), (.q (.move (.tmp 6))), (some (29, false))⟩, ⟨(some 31), (.q (.bin .gtr (.tmp 30) (.const (.int .u64 9223372036854775807)))), (some (29, false))⟩, ⟨(some 32), (.q (.pick (.tmp 29) (.const (.bool true)) (.tmp 31))), none⟩]) 
    (.cond (.tmp 32) 
    (.region [⟨(some 33), (.q (.iface 9 (.const (.str (B [98, 121, 116, 101, 115, 58, 32, 82, 101, 112, 101, 97, 116, 32, 111, 117, 116, 112, 117, 116, 32, 108, 101, 110, 103, 116, 104, 32, 111, 118, 101, 114, 102, 108, 111, 119]))))), none⟩, ⟨none, (.s .stop), none⟩]) .skip)) 
    (.seq 
    (.region [⟨(some 34), (.q (.move (.tmp 6))), none⟩, ⟨(some 35), (.q (.conv .i64 (.tmp 34))), none⟩, ⟨(some 7), (.q (.move (.tmp 35))), none⟩]) 
    (.seq 
    (.seq 
    (.region [⟨(some 36), (.q (.move (.tmp 0))), none⟩, ⟨(some 37), (.q (.len false (.tmp 36))), none⟩, ⟨(some 38), (.q (.bin .eql (.tmp 37) (.const (.int .i64 0)))), none⟩]) 
    (.cond (.tmp 38) 
    (.seq 
    (.region [⟨(some 39), (.s (.lit 5 1 [])), none⟩, ⟨(some 4), (.q (.move (.tmp 39))), none⟩]) .ret) .skip)) 
    (.seq 
    (.region [⟨(some 40), (.q (.move (.tmp 7))), none⟩, ⟨(some 8), (.q (.move (.tmp 40))), none⟩]) 
    (.seq 
    (.seq 
    (.region [⟨(some 41), (.q (.move (.tmp 8))), none⟩, ⟨(some 42), (.q (.bin .gtr (.tmp 41) (.const (.int .i64 8192)))), none⟩]) 
    (.cond (.tmp 42) 
    (.seq 
    (.region [⟨(some 43), (.q (.move (.tmp 0))), none⟩, ⟨(some 44), (.q (.len false (.tmp 43))), none⟩, ⟨(some 45), (.q (.bin .quo (.const (.int .i64 8192)) (.tmp 44))), none⟩, ⟨(some 46), (.q (.move (.tmp 0))), none⟩, ⟨(some 47), (.q (.len false (.tmp 46))), none⟩, ⟨(some 48), (.q (.bin .mul (.tmp 45) (.tmp 47))), none⟩, ⟨(some 8), (.q (.move (.tmp 48))), none⟩]) 
    (.seq 
    (.region [⟨(some 49), (.q (.move (.tmp 8))), none⟩, ⟨(some 50), (.q (.bin .eql (.tmp 49) (.const (.int .i64 0)))), none⟩]) 
    (.cond (.tmp 50) 
    (.region [⟨(some 51), (.q (.move (.tmp 0))), none⟩, ⟨(some 52), (.q (.len false (.tmp 51))), none⟩, ⟨(some 8), (.q (.move (.tmp 52))), none⟩]) .skip))) .skip)) 
    (.seq 
    (.region [⟨(some 53), (.q (.move (.tmp 7))), none⟩, ⟨(some 54), (.s (.call 145 [(.tmp 53)])), none⟩, ⟨(some 55), (.q (.move (.tmp 7))), none⟩, ⟨(some 56), (.q (.move (.tmp 7))), none⟩, ⟨(some 57), (.s (.slice3 1 (.tmp 54) (.tmp 55) (.tmp 56))), none⟩, ⟨(some 9), (.q (.move (.tmp 57))), none⟩]) 
    (.seq 
    (.region [⟨(some 58), (.q (.move (.tmp 9))), none⟩, ⟨(some 59), (.q (.move (.tmp 0))), none⟩, ⟨(some 60), (.s (.copy 1 (.tmp 58) (.tmp 59))), none⟩, ⟨(some 10), (.q (.move (.tmp 60))), none⟩]) 
    (.seq 
    (.block 0 
    (.loop 
    (.seq 
    (.seq 
    (.region [⟨(some 61), (.q (.move (.tmp 10))), none⟩, ⟨(some 62), (.q (.move (.tmp 7))), none⟩, ⟨(some 63), (.q (.bin .lss (.tmp 61) (.tmp 62))), none⟩]) 
    (.cond (.tmp 63) .skip (.exit 0))) 
    (.block 1 
    (.seq 
    (.region [⟨(some 64), (.q (.move (.tmp 10))), none⟩, ⟨(some 65), (.q (.move (.tmp 8))), none⟩, ⟨(some 66), (.q (.best false (.tmp 64) (.tmp 65))), none⟩, ⟨(some 11), (.q (.move (.tmp 66))), none⟩]) 
    (.region [⟨(some 67), (.q (.move (.tmp 10))), none⟩, ⟨(some 68), (.q (.move (.tmp 9))), none⟩, ⟨(some 69), (.q (.move (.tmp 10))), none⟩, ⟨(some 70), (.q (.sliceSl 1 (.tmp 68) (some (.tmp 69)) none)), none⟩, ⟨(some 71), (.q (.move (.tmp 9))), none⟩, ⟨(some 72), (.q (.move (.tmp 11))), none⟩, ⟨(some 73), (.q (.sliceSl 1 (.tmp 71) none (some (.tmp 72)))), none⟩, ⟨(some 74), (.s (.copy 1 (.tmp 70) (.tmp 73))), none⟩, ⟨(some 75), (.q (.bin .add (.tmp 67) (.tmp 74))), none⟩, ⟨(some 10), (.q (.move (.tmp 75))), none⟩])))))) 
    (.seq 
    (.region [⟨(some 76), (.q (.move (.tmp 9))), none⟩, ⟨(some 4), (.q (.move (.tmp 76))), none⟩]) .ret)))))))))))))
theorem t81 : Told Try.prog 81 77 c81 [(.tmp 4)] := ⟨Try.f81, _, [], Try.func81, rfl, by kernel_rfl, rfl, by kernel_rfl, by kernel_rfl⟩
def c26 : ACode := 
    (.seq 
    (.region [⟨(some 2), (.q (.move (.const .nilp))), none⟩]) 
    (.seq 
    (.region [⟨(some 4), (.s (.lit 5 1 [(.const (.int .u8 255))])), none⟩, ⟨(some 5), (.s (.call 81 [(.tmp 4), (.const (.int .i64 24576))])), none⟩, ⟨(some 3), (.q (.move (.tmp 5))), none⟩]) 
    (.seq 
    (.region [⟨(some 6), (.q (.move (.tmp 3))), none⟩, ⟨(some 7), (.q (.move (.tmp 0))), none⟩, ⟨(some 8), (.s (.copy 1 (.tmp 6) (.tmp 7))), none⟩]) 
    (.seq 
    (.region [⟨(some 9), (.q (.move (.tmp 3))), none⟩, ⟨(some 10), (.q (.build [.nils, (.bool false), (.int .i64 0), (.str (B [])), (.int .i64 0)] [(0, (1, (.tmp 9))), (1, (1, (.const (.bool true)))), (2, (1, (.const (.int .i64 (-1)))))])), none⟩, ⟨(some 11), (.s (.box 57 (.tmp 10))), none⟩, ⟨(some 2), (.q (.move (.tmp 11))), none⟩]) .ret))))
theorem t26 : Told Try.prog 26 12 c26 [(.tmp 2)] := ⟨Try.f26, _, [], Try.func26, rfl, by kernel_rfl, rfl, by kernel_rfl, by kernel_rfl⟩
def c37 : ACode := 
    (.seq 
    (.region [⟨(some 0), (.q (.move (.const .nilp))), none⟩]) 
    (.seq 
    (.region [⟨(some 1), (.s (.call 26 [(.const (.str (B [])))])), none⟩, ⟨(some 0), (.q (.move (.tmp 1))), none⟩]) .ret))
theorem t37 : Told Try.prog 37 2 c37 [(.tmp 0)] := ⟨Try.f37, _, [], Try.func37, rfl, by kernel_rfl, rfl, by kernel_rfl, by kernel_rfl⟩
def c34 : ACode := 
    (.seq 
    (.region [⟨(some 2), (.q (.move (.const (.bool false)))), none⟩]) 
    (.seq 
    (.region [⟨(some 3), (.q (.move (.tmp 0))), none⟩, ⟨(some 4), (.q (.nil .ptr true (.tmp 3) (.const .nilp))), none⟩, ⟨(some 5), (.q (.move (.tmp 4))), none⟩, ⟨(some 6), (.q (.move (.tmp 0))), (some (5, true))⟩, ⟨(some 7), (.q (.nonil (.tmp 6))), (some (5, true))⟩, ⟨(some 8), (.q (.fieldAddr 1 (.tmp 7))), (some (5, true))⟩, ⟨(some 9), (.q (.load false 1 (.tmp 8))), (some (5, true))⟩, ⟨(some 10), (.q (.pick (.tmp 5) (.tmp 9) (.const (.bool false)))), none⟩, ⟨(some 2), (.q (.move (.tmp 10))), none⟩]) .ret))
theorem t34 : Told Try.prog 34 11 c34 [(.tmp 2)] := ⟨Try.f34, _, [], Try.func34, rfl, by kernel_rfl, rfl, by kernel_rfl, by kernel_rfl⟩
def c35 : ACode := 
    (.seq 
    (.region [⟨(some 2), (.q (.move (.const (.int .i64 0)))), none⟩]) 
    (.seq 
    (.seq 
    (.region [⟨(some 3), (.q (.move (.tmp 0))), none⟩, ⟨(some 4), (.q (.nil .ptr false (.tmp 3) (.const .nilp))), none⟩]) 
    (.cond (.tmp 4) 
    (.seq 
    (.region [⟨(some 2), (.q (.move (.const (.int .i64 0)))), none⟩]) .ret) .skip)) 
    (.seq 
    (.region [⟨(some 5), (.q (.move (.tmp 0))), none⟩, ⟨(some 6), (.q (.nonil (.tmp 5))), none⟩, ⟨(some 7), (.q (.fieldAddr 4 (.tmp 6))), none⟩, ⟨(some 8), (.q (.load false 1 (.tmp 7))), none⟩, ⟨(some 2), (.q (.move (.tmp 8))), none⟩]) .ret)))
theorem t35 : Told Try.prog 35 9 c35 [(.tmp 2)] := ⟨Try.f35, _, [], Try.func35, rfl, by kernel_rfl, rfl, by kernel_rfl, by kernel_rfl⟩
def c36 : ACode := 
    (.seq 
    (.region [⟨(some 2), (.q (.move (.const (.str (B []))))), none⟩]) 
    (.seq 
    (.seq 
    (.region [⟨(some 3), (.q (.move (.tmp 0))), none⟩, ⟨(some 4), (.q (.nil .ptr false (.tmp 3) (.const .nilp))), none⟩]) 
    (.cond (.tmp 4) 
    (.seq 
    (.region [⟨(some 2), (.q (.move (.const (.str (B []))))), none⟩]) .ret) .skip)) 
    (.seq 
    (.region [⟨(some 5), (.q (.move (.tmp 0))), none⟩, ⟨(some 6), (.q (.nonil (.tmp 5))), none⟩, ⟨(some 7), (.q (.fieldAddr 0 (.tmp 6))), none⟩, ⟨(some 8), (.q (.load false 1 (.tmp 7))), none⟩, ⟨(some 9), (.q (.b2s (.tmp 8))), none⟩, ⟨(some 2), (.q (.move (.tmp 9))), none⟩]) .ret)))
theorem t36 : Told Try.prog 36 10 c36 [(.tmp 2)] := ⟨Try.f36, _, [], Try.func36, rfl, by kernel_rfl, rfl, by kernel_rfl, by kernel_rfl⟩
def c82 : ACode := 
    (.seq 
    (.region [⟨(some 6), (.q (.move (.const (.bool false)))), none⟩]) 
    (.seq 
    (.region [⟨(some 7), (.q (.move (.tmp 1))), none⟩, ⟨(some 8), (.q (.bin .geq (.tmp 7) (.const (.int .i64 0)))), none⟩, ⟨(some 9), (.q (.move (.tmp 8))), none⟩, ⟨(some 10), (.q (.move (.tmp 2))), (some (9, true))⟩, ⟨(some 11), (.q (.bin .geq (.tmp 10) (.const (.int .i64 0)))), (some (9, true))⟩, ⟨(some 12), (.q (.pick (.tmp 9) (.tmp 11) (.const (.bool false)))), none⟩, ⟨(some 13), (.q (.move (.tmp 12))), none⟩, ⟨(some 14), (.q (.move (.tmp 1))), (some (13, true))⟩, ⟨(some 15), (.q (.move (.tmp 0))), (some (13, true))⟩, ⟨(some 16), (.q (.nonil (.tmp 15))), (some (13, true))⟩, ⟨(some 17), (.q (.fieldAddr 0 (.tmp 16))), (some (13, true))⟩, ⟨(some 18), (.q (.load false 1 (.tmp 17))), (some (13, true))⟩, ⟨(some 19), (.q (.len false (.tmp 18))), (some (13, true))⟩, ⟨(some 20), (.q (.bin .leq (.tmp 14) (.tmp 19))), (some (13, true))⟩, ⟨(some 21), (.q (.pick (.tmp 13) (.tmp 20) (.const (.bool false)))), none⟩, ⟨(some 22), (.q (.move (.tmp 21))), none⟩, ⟨(some 23), (.q (.move (.tmp 2))), (some (22, true))⟩, ⟨(some 24), (.q (.move (.tmp 0))), (some (22, true))⟩, ⟨(some 25), (.q (.nonil (.tmp 24))), (some (22, true))⟩, ⟨(some 26), (.q (.fieldAddr 0 (.tmp 25))), (some (22, true))⟩, ⟨(some 27), (.q (.load false 1 (.tmp 26))), (some (22, true))⟩, ⟨(some 28), (.q (.len false (.tmp 27))), (some (22, true))⟩, ⟨(some 29), (.q (.move (.tmp 1))), (some (22, true))⟩, ⟨(some 30), (.q (.bin .sub (.tmp 28) (.tmp 29))), (some (22, true))⟩, ⟨(some 31), (.q (.bin .leq (.tmp 23) (.tmp 30))), (some (22, true))⟩, ⟨(some 32), (.q (.pick (.tmp 22) (.tmp 31) (.const (.bool false)))), none⟩, ⟨(some 6), (.q (.move (.tmp 32))), none⟩]) .ret))
theorem t82 : Told Try.prog 82 33 c82 [(.tmp 6)] := ⟨Try.f82, _, [], Try.func82, rfl, by kernel_rfl, rfl, by kernel_rfl, by kernel_rfl⟩
def c29 : ACode := 
    (.seq 
    (.region [⟨(some 6), (.q (.move (.const (.str (B []))))), none⟩, ⟨(some 7), (.q (.move (.const (.int .i64 0)))), none⟩]) 
    (.seq 
    (.block 0 
    (.seq 
    (.region [⟨(some 9), (.q (.move (.tmp 0))), none⟩, ⟨(some 10), (.s (.call 34 [(.tmp 9)])), none⟩, ⟨(some 11), (.q (.un .not (.tmp 10))), none⟩, ⟨(some 8), (.q (.move (.tmp 11))), none⟩]) 
    (.cond (.tmp 8) 
    (.seq 
    (.region [⟨(some 6), (.q (.move (.const (.str (B []))))), none⟩, ⟨(some 7), (.q (.move (.const (.int .i64 4)))), none⟩]) .ret) 
    (.seq 
    (.region [⟨(some 13), (.q (.move (.tmp 0))), none⟩, ⟨(some 14), (.q (.move (.tmp 1))), none⟩, ⟨(some 15), (.q (.move (.tmp 2))), none⟩, ⟨(some 16), (.s (.call 82 [(.tmp 13), (.tmp 14), (.tmp 15)])), none⟩, ⟨(some 17), (.q (.un .not (.tmp 16))), none⟩, ⟨(some 12), (.q (.move (.tmp 17))), none⟩]) 
    (.cond (.tmp 12) 
    (.seq 
    (.region [⟨(some 6), (.q (.move (.const (.str (B []))))), none⟩, ⟨(some 7), (.q (.move (.const (.int .i64 2)))), none⟩]) .ret) .skip))))) 
    (.seq 
    (.region [⟨(some 18), (.q (.move (.tmp 0))), none⟩, ⟨(some 19), (.q (.nonil (.tmp 18))), none⟩, ⟨(some 20), (.q (.fieldAddr 0 (.tmp 19))), none⟩, ⟨(some 21), (.q (.load false 1 (.tmp 20))), none⟩, ⟨(some 22), (.q (.move (.tmp 1))), none⟩, ⟨(some 23), (.q (.move (.tmp 1))), none⟩, ⟨(some 24), (.q (.move (.tmp 2))), none⟩, ⟨(some 25), (.q (.bin .add (.tmp 23) (.tmp 24))), none⟩, ⟨(some 26), (.q (.sliceSl 1 (.tmp 21) (some (.tmp 22)) (some (.tmp 25)))), none⟩, ⟨(some 27), (.q (.b2s (.tmp 26))), none⟩, ⟨(some 6), (.q (.move (.tmp 27))), none⟩, ⟨(some 7), (.q (.move (.const (.int .i64 0)))), none⟩]) .ret)))
theorem t29 : Told Try.prog 29 28 c29 [(.tmp 6), (.tmp 7)] := ⟨Try.f29, _, [], Try.func29, rfl, by kernel_rfl, rfl, by kernel_rfl, by kernel_rfl⟩
def c79 : ACode := 
    (.seq 
    (.region [⟨(some 6), (.q (.move (.tmp 0))), none⟩, ⟨(some 7), (.q (.nil .ptr true (.tmp 6) (.const .nilp))), none⟩]) 
    (.cond (.tmp 7) 
    (.region [⟨(some 8), (.q (.move (.tmp 0))), none⟩, ⟨(some 9), (.q (.move (.tmp 0))), none⟩, ⟨(some 10), (.q (.move (.tmp 1))), none⟩, ⟨(some 11), (.q (.best true (.tmp 10) (.const (.int .i64 (-1))))), none⟩, ⟨(some 12), (.q (.move (.tmp 2))), none⟩, ⟨(some 13), (.q (.nonil (.tmp 8))), none⟩, ⟨(some 14), (.q (.fieldAddr 2 (.tmp 13))), none⟩, ⟨none, (.s (.store 1 (.tmp 14) (.tmp 11))), none⟩, ⟨(some 15), (.q (.nonil (.tmp 9))), none⟩, ⟨(some 16), (.q (.fieldAddr 3 (.tmp 15))), none⟩, ⟨none, (.s (.store 1 (.tmp 16) (.tmp 12))), none⟩]) .skip))
theorem t79 : Told Try.prog 79 17 c79 [] := ⟨Try.f79, _, [], Try.func79, rfl, by kernel_rfl, rfl, by kernel_rfl, by kernel_rfl⟩
def c80 : ACode := 
    (.seq 
    (.region [⟨(some 2), (.q (.move (.tmp 0))), none⟩, ⟨(some 3), (.q (.nil .ptr true (.tmp 2) (.const .nilp))), none⟩, ⟨(some 4), (.q (.move (.tmp 3))), none⟩, ⟨(some 5), (.q (.move (.tmp 0))), (some (4, true))⟩, ⟨(some 6), (.q (.nonil (.tmp 5))), (some (4, true))⟩, ⟨(some 7), (.q (.fieldAddr 0 (.tmp 6))), (some (4, true))⟩, ⟨(some 8), (.q (.load false 1 (.tmp 7))), (some (4, true))⟩, ⟨(some 9), (.q (.nil .sl true (.tmp 8) (.const .nils))), (some (4, true))⟩, ⟨(some 10), (.q (.pick (.tmp 4) (.tmp 9) (.const (.bool false)))), none⟩]) 
    (.cond (.tmp 10) 
    (.region [⟨(some 11), (.q (.move (.tmp 0))), none⟩, ⟨(some 12), (.q (.move (.tmp 0))), none⟩, ⟨(some 13), (.q (.nonil (.tmp 11))), none⟩, ⟨(some 14), (.q (.fieldAddr 1 (.tmp 13))), none⟩, ⟨none, (.s (.store 1 (.tmp 14) (.const (.bool true)))), none⟩, ⟨(some 15), (.q (.nonil (.tmp 12))), none⟩, ⟨(some 16), (.q (.fieldAddr 2 (.tmp 15))), none⟩, ⟨none, (.s (.store 1 (.tmp 16) (.const (.int .i64 (-1))))), none⟩]) .skip))
theorem t80 : Told Try.prog 80 17 c80 [] := ⟨Try.f80, _, [], Try.func80, rfl, by kernel_rfl, rfl, by kernel_rfl, by kernel_rfl⟩
def c146 : ACode := 
    (.seq 
    (.region [⟨(some 2), (.q (.move (.const (.bool false)))), none⟩]) 
    (.seq 
    (.region [⟨(some 3), (.q (.move (.tmp 0))), none⟩, ⟨(some 4), (.q (.nonil (.tmp 3))), none⟩, ⟨(some 5), (.q (.fieldAddr 4 (.tmp 4))), none⟩, ⟨(some 6), (.q (.load false 1 (.tmp 5))), none⟩, ⟨(some 7), (.q (.bin .add (.tmp 6) (.const (.int .i64 1)))), none⟩, ⟨(some 8), (.q (.nonil (.tmp 3))), none⟩, ⟨(some 9), (.q (.fieldAddr 4 (.tmp 8))), none⟩, ⟨none, (.s (.store 1 (.tmp 9) (.tmp 7))), none⟩]) 
    (.seq 
    (.seq 
    (.region [⟨(some 10), (.q (.move (.tmp 0))), none⟩, ⟨(some 11), (.q (.nonil (.tmp 10))), none⟩, ⟨(some 12), (.q (.fieldAddr 2 (.tmp 11))), none⟩, ⟨(some 13), (.q (.load false 1 (.tmp 12))), none⟩, ⟨(some 14), (.q (.bin .eql (.tmp 13) (.const (.int .i64 (-1))))), none⟩]) 
    (.cond (.tmp 14) 
    (.seq 
    (.region [⟨(some 2), (.q (.move (.const (.bool false)))), none⟩]) .ret) .skip)) 
    (.seq 
    (.region [⟨(some 15), (.q (.move (.tmp 0))), none⟩, ⟨(some 16), (.q (.nonil (.tmp 15))), none⟩, ⟨(some 17), (.q (.fieldAddr 2 (.tmp 16))), none⟩, ⟨(some 18), (.q (.load false 1 (.tmp 17))), none⟩, ⟨(some 19), (.q (.bin .sub (.tmp 18) (.const (.int .i64 1)))), none⟩, ⟨(some 20), (.q (.nonil (.tmp 15))), none⟩, ⟨(some 21), (.q (.fieldAddr 2 (.tmp 20))), none⟩, ⟨none, (.s (.store 1 (.tmp 21) (.tmp 19))), none⟩]) 
    (.seq 
    (.region [⟨(some 22), (.q (.move (.tmp 0))), none⟩, ⟨(some 23), (.q (.move (.tmp 0))), none⟩, ⟨(some 24), (.q (.nonil (.tmp 23))), none⟩, ⟨(some 25), (.q (.fieldAddr 2 (.tmp 24))), none⟩, ⟨(some 26), (.q (.load false 1 (.tmp 25))), none⟩, ⟨(some 27), (.q (.bin .neq (.tmp 26) (.const (.int .i64 (-1))))), none⟩, ⟨(some 28), (.q (.nonil (.tmp 22))), none⟩, ⟨(some 29), (.q (.fieldAddr 1 (.tmp 28))), none⟩, ⟨none, (.s (.store 1 (.tmp 29) (.tmp 27))), none⟩]) 
    (.seq 
    (.region [⟨(some 30), (.q (.move (.tmp 0))), none⟩, ⟨(some 31), (.q (.nonil (.tmp 30))), none⟩, ⟨(some 32), (.q (.fieldAddr 1 (.tmp 31))), none⟩, ⟨(some 33), (.q (.load false 1 (.tmp 32))), none⟩, ⟨(some 34), (.q (.un .not (.tmp 33))), none⟩, ⟨(some 2), (.q (.move (.tmp 34))), none⟩]) .ret))))))
theorem t146 : Told Try.prog 146 35 c146 [(.tmp 2)] := ⟨Try.f146, _, [], Try.func146, rfl, by kernel_rfl, rfl, by kernel_rfl, by kernel_rfl⟩
def c85 : ACode := 
    (.seq 
    (.region [⟨(some 10), (.q (.move (.const (.int .i64 0)))), none⟩]) 
    (.seq 
    (.seq 
    (.region [⟨(some 15), (.q (.move (.tmp 0))), none⟩, ⟨(some 16), (.s (.call 146 [(.tmp 15)])), none⟩, ⟨(some 17), (.q (.un .not (.tmp 16))), none⟩]) 
    (.cond (.tmp 17) 
    (.seq 
    (.seq 
    (.region [⟨(some 18), (.q (.move (.tmp 0))), none⟩, ⟨(some 19), (.q (.nonil (.tmp 18))), none⟩, ⟨(some 20), (.q (.fieldAddr 0 (.tmp 19))), none⟩, ⟨(some 21), (.q (.load false 1 (.tmp 20))), none⟩, ⟨(some 22), (.q (.move (.tmp 1))), none⟩, ⟨(some 23), (.q (.move (.tmp 1))), none⟩, ⟨(some 24), (.q (.move (.tmp 2))), none⟩, ⟨(some 25), (.q (.bin .add (.tmp 23) (.tmp 24))), none⟩, ⟨(some 26), (.q (.sliceSl 1 (.tmp 21) (some (.tmp 22)) (some (.tmp 25)))), none⟩, ⟨(some 27), (.q (.len false (.tmp 26))), none⟩, ⟨(some 28), (.q (.move (.const (.int .i64 0)))), none⟩]) 
    (.block 0 
    (.loop 
    (.seq 
    (.region [⟨(some 29), (.q (.bin .lss (.tmp 28) (.tmp 27))), none⟩]) 
    (.seq 
    (.cond (.tmp 29) .skip (.exit 0)) 
    (.seq 
    (.block 1 
    (.seq 
    (.region [⟨(some 30), (.q (.move (.tmp 28))), none⟩, ⟨(some 31), (.q (.idxSl 1 (.tmp 26) (.tmp 28))), none⟩, ⟨(some 32), (.q (.load false 1 (.tmp 31))), none⟩, ⟨(some 11), (.q (.move (.tmp 30))), none⟩, ⟨(some 12), (.q (.move (.tmp 32))), none⟩]) 
    (.region [⟨(some 33), (.q (.move (.tmp 0))), none⟩, ⟨(some 34), (.q (.nonil (.tmp 33))), none⟩, ⟨(some 35), (.q (.fieldAddr 0 (.tmp 34))), none⟩, ⟨(some 36), (.q (.load false 1 (.tmp 35))), none⟩, ⟨(some 37), (.q (.move (.tmp 1))), none⟩, ⟨(some 38), (.q (.move (.tmp 11))), none⟩, ⟨(some 39), (.q (.bin .add (.tmp 37) (.tmp 38))), none⟩, ⟨(some 40), (.q (.move (.tmp 3))), none⟩, ⟨(some 41), (.q (.move (.tmp 11))), none⟩, ⟨(some 42), (.q (.move (.tmp 12))), none⟩, ⟨(some 43), (.c (.val (.tmp 40)) [(.tmp 41), (.tmp 42)]), none⟩, ⟨(some 44), (.q (.idxSl 1 (.tmp 36) (.tmp 39))), none⟩, ⟨none, (.s (.store 1 (.tmp 44) (.tmp 43))), none⟩]))) 
    (.region [⟨(some 45), (.q (.bin .add (.tmp 28) (.const (.int .i64 1)))), none⟩, ⟨(some 28), (.q (.move (.tmp 45))), none⟩]))))))) 
    (.seq 
    (.region [⟨(some 10), (.q (.move (.const (.int .i64 0)))), none⟩]) .ret)) .skip)) 
    (.seq 
    (.seq 
    (.region [⟨(some 46), (.q (.move (.tmp 0))), none⟩, ⟨(some 47), (.q (.nonil (.tmp 46))), none⟩, ⟨(some 48), (.q (.fieldAddr 3 (.tmp 47))), none⟩, ⟨(some 49), (.q (.load false 1 (.tmp 48))), none⟩, ⟨(some 50), (.q (.bin .neq (.tmp 49) (.const (.str (B []))))), none⟩]) 
    (.cond (.tmp 50) 
    (.seq 
    (.region [⟨(some 51), (.q (.move (.tmp 0))), none⟩, ⟨(some 52), (.q (.nonil (.tmp 51))), none⟩, ⟨(some 53), (.q (.fieldAddr 0 (.tmp 52))), none⟩, ⟨(some 54), (.q (.load false 1 (.tmp 53))), none⟩, ⟨(some 55), (.q (.move (.tmp 1))), none⟩, ⟨(some 56), (.q (.move (.tmp 1))), none⟩, ⟨(some 57), (.q (.move (.tmp 2))), none⟩, ⟨(some 58), (.q (.bin .add (.tmp 56) (.tmp 57))), none⟩, ⟨(some 59), (.q (.sliceSl 1 (.tmp 54) (some (.tmp 55)) (some (.tmp 58)))), none⟩, ⟨(some 60), (.q (.len false (.tmp 59))), none⟩, ⟨(some 61), (.q (.move (.const (.int .i64 0)))), none⟩]) 
    (.block 2 
    (.loop 
    (.seq 
    (.region [⟨(some 62), (.q (.bin .lss (.tmp 61) (.tmp 60))), none⟩]) 
    (.seq 
    (.cond (.tmp 62) .skip (.exit 2)) 
    (.seq 
    (.block 3 
    (.seq 
    (.region [⟨(some 63), (.q (.move (.tmp 61))), none⟩, ⟨(some 64), (.q (.idxSl 1 (.tmp 59) (.tmp 61))), none⟩, ⟨(some 65), (.q (.load false 1 (.tmp 64))), none⟩, ⟨(some 13), (.q (.move (.tmp 63))), none⟩, ⟨(some 14), (.q (.move (.tmp 65))), none⟩]) 
    (.region [⟨(some 66), (.q (.move (.tmp 0))), none⟩, ⟨(some 67), (.q (.nonil (.tmp 66))), none⟩, ⟨(some 68), (.q (.fieldAddr 0 (.tmp 67))), none⟩, ⟨(some 69), (.q (.load false 1 (.tmp 68))), none⟩, ⟨(some 70), (.q (.move (.tmp 1))), none⟩, ⟨(some 71), (.q (.move (.tmp 13))), none⟩, ⟨(some 72), (.q (.bin .add (.tmp 70) (.tmp 71))), none⟩, ⟨(some 73), (.q (.move (.tmp 4))), none⟩, ⟨(some 74), (.q (.move (.tmp 13))), none⟩, ⟨(some 75), (.q (.move (.tmp 14))), none⟩, ⟨(some 76), (.q (.move (.tmp 0))), none⟩, ⟨(some 77), (.q (.nonil (.tmp 76))), none⟩, ⟨(some 78), (.q (.fieldAddr 3 (.tmp 77))), none⟩, ⟨(some 79), (.q (.load false 1 (.tmp 78))), none⟩, ⟨(some 80), (.q (.move (.tmp 13))), none⟩, ⟨(some 81), (.q (.move (.tmp 0))), none⟩, ⟨(some 82), (.q (.nonil (.tmp 81))), none⟩, ⟨(some 83), (.q (.fieldAddr 3 (.tmp 82))), none⟩, ⟨(some 84), (.q (.load false 1 (.tmp 83))), none⟩, ⟨(some 85), (.q (.len true (.tmp 84))), none⟩, ⟨(some 86), (.q (.bin .rem (.tmp 80) (.tmp 85))), none⟩, ⟨(some 87), (.q (.idxStr (.tmp 79) (.tmp 86))), none⟩, ⟨(some 88), (.c (.val (.tmp 73)) [(.tmp 74), (.tmp 75), (.tmp 87)]), none⟩, ⟨(some 89), (.q (.idxSl 1 (.tmp 69) (.tmp 72))), none⟩, ⟨none, (.s (.store 1 (.tmp 89) (.tmp 88))), none⟩]))) 
    (.region [⟨(some 90), (.q (.bin .add (.tmp 61) (.const (.int .i64 1)))), none⟩, ⟨(some 61), (.q (.move (.tmp 90))), none⟩]))))))) .skip)) 
    (.seq 
    (.region [⟨(some 10), (.q (.move (.const (.int .i64 4)))), none⟩]) .ret))))
theorem t85 : Told Try.prog 85 91 c85 [(.tmp 10)] := ⟨Try.f85, _, [], Try.func85, rfl, by kernel_rfl, rfl, by kernel_rfl, by kernel_rfl⟩
def c83 : ACode := 
    (.seq 
    (.region [⟨(some 4), (.q (.move (.const (.int .u8 0)))), none⟩]) 
    (.seq 
    (.region [⟨(some 4), (.q (.move (.const (.int .u8 255)))), none⟩]) .ret))
theorem t83 : Told Try.prog 83 5 c83 [(.tmp 4)] := ⟨Try.f83, _, [], Try.func83, rfl, by kernel_rfl, rfl, by kernel_rfl, by kernel_rfl⟩
def c84 : ACode := 
    (.seq 
    (.region [⟨(some 6), (.q (.move (.const (.int .u8 0)))), none⟩]) 
    (.seq 
    (.region [⟨(some 7), (.q (.move (.tmp 1))), none⟩, ⟨(some 8), (.q (.move (.tmp 2))), none⟩, ⟨(some 9), (.q (.bin .and (.tmp 8) (.const (.int .u8 1)))), none⟩, ⟨(some 10), (.q (.un .neg (.tmp 9))), none⟩, ⟨(some 11), (.q (.bin .or (.tmp 7) (.tmp 10))), none⟩, ⟨(some 6), (.q (.move (.tmp 11))), none⟩]) .ret))
theorem t84 : Told Try.prog 84 12 c84 [(.tmp 6)] := ⟨Try.f84, _, [], Try.func84, rfl, by kernel_rfl, rfl, by kernel_rfl, by kernel_rfl⟩
def c28 : ACode := 
    (.seq 
    (.region [⟨(some 4), (.q (.move (.const (.int .i64 0)))), none⟩]) 
    (.seq 
    (.block 0 
    (.seq 
    (.region [⟨(some 8), (.q (.move (.tmp 0))), none⟩, ⟨(some 9), (.s (.call 34 [(.tmp 8)])), none⟩, ⟨(some 10), (.q (.un .not (.tmp 9))), none⟩, ⟨(some 7), (.q (.move (.tmp 10))), none⟩]) 
    (.cond (.tmp 7) 
    (.seq 
    (.region [⟨(some 4), (.q (.move (.const (.int .i64 4)))), none⟩]) .ret) 
    (.seq 
    (.region [⟨(some 12), (.q (.move (.tmp 1))), none⟩, ⟨(some 13), (.q (.bin .lss (.tmp 12) (.const (.int .i64 0)))), none⟩, ⟨(some 14), (.q (.move (.tmp 13))), none⟩, ⟨(some 15), (.q (.move (.tmp 1))), (some (14, false))⟩, ⟨(some 16), (.q (.bin .geq (.tmp 15) (.const (.int .i64 48)))), (some (14, false))⟩, ⟨(some 17), (.q (.pick (.tmp 14) (.const (.bool true)) (.tmp 16))), none⟩, ⟨(some 11), (.q (.move (.tmp 17))), none⟩]) 
    (.cond (.tmp 11) 
    (.seq 
    (.region [⟨(some 4), (.q (.move (.const (.int .i64 2)))), none⟩]) .ret) .skip))))) 
    (.seq 
    (.region [⟨(some 5), (.q (.move (.const (.func (.func 83) [] [])))), none⟩]) 
    (.seq 
    (.region [⟨(some 6), (.q (.move (.const (.func (.func 84) [] [])))), none⟩]) 
    (.seq 
    (.region [⟨(some 18), (.q (.move (.tmp 0))), none⟩, ⟨(some 19), (.q (.move (.tmp 1))), none⟩, ⟨(some 20), (.q (.bin .mul (.tmp 19) (.const (.int .i64 512)))), none⟩, ⟨(some 21), (.q (.move (.tmp 5))), none⟩, ⟨(some 22), (.q (.move (.tmp 6))), none⟩, ⟨(some 23), (.s (.call 85 [(.tmp 18), (.tmp 20), (.const (.int .i64 512)), (.tmp 21), (.tmp 22)])), none⟩, ⟨(some 4), (.q (.move (.tmp 23))), none⟩]) .ret)))))
theorem t28 : Told Try.prog 28 24 c28 [(.tmp 4)] := ⟨Try.f28, _, [], Try.func28, rfl, by kernel_rfl, rfl, by kernel_rfl, by kernel_rfl⟩
def c142 : ACode := 
    (.seq 
    (.region [⟨(some 5), (.q (.move (.const (.int .u8 0)))), none⟩]) 
    (.seq 
    (.region [⟨(some 6), (.q (.move (.tmp 1))), none⟩, ⟨(some 7), (.q (.load false 1 (.tmp 2))), none⟩, ⟨(some 8), (.q (.move (.tmp 0))), none⟩, ⟨(some 9), (.q (.idxStr (.tmp 7) (.tmp 8))), none⟩, ⟨(some 10), (.q (.bin .and (.tmp 6) (.tmp 9))), none⟩, ⟨(some 5), (.q (.move (.tmp 10))), none⟩]) .ret))
theorem t142 : Told Try.prog 142 11 c142 [(.tmp 5)] := ⟨Try.f142, _, [], Try.func142, rfl, by kernel_rfl, rfl, by kernel_rfl, by kernel_rfl⟩
def c143 : ACode := 
    (.seq 
    (.region [⟨(some 7), (.q (.move (.const (.int .u8 0)))), none⟩]) 
    (.seq 
    (.region [⟨(some 8), (.q (.move (.tmp 1))), none⟩, ⟨(some 9), (.q (.load false 1 (.tmp 3))), none⟩, ⟨(some 10), (.q (.move (.tmp 0))), none⟩, ⟨(some 11), (.q (.idxStr (.tmp 9) (.tmp 10))), none⟩, ⟨(some 12), (.q (.move (.tmp 2))), none⟩, ⟨(some 13), (.q (.bin .or (.tmp 11) (.tmp 12))), none⟩, ⟨(some 14), (.q (.bin .and (.tmp 8) (.tmp 13))), none⟩, ⟨(some 7), (.q (.move (.tmp 14))), none⟩]) .ret))
theorem t143 : Told Try.prog 143 15 c143 [(.tmp 7)] := ⟨Try.f143, _, [], Try.func143, rfl, by kernel_rfl, rfl, by kernel_rfl, by kernel_rfl⟩
def c78 : ACode := 
    (.seq 
    (.region [⟨(some 5), (.s (.box 9 (.tmp 2))), none⟩, ⟨(some 6), (.q (.move (.const (.int .i64 0)))), none⟩]) 
    (.seq 
    (.block 0 
    (.seq 
    (.region [⟨(some 10), (.q (.move (.tmp 0))), none⟩, ⟨(some 11), (.s (.call 34 [(.tmp 10)])), none⟩, ⟨(some 12), (.q (.un .not (.tmp 11))), none⟩, ⟨(some 9), (.q (.move (.tmp 12))), none⟩]) 
    (.cond (.tmp 9) 
    (.seq 
    (.region [⟨(some 6), (.q (.move (.const (.int .i64 4)))), none⟩]) .ret) 
    (.seq 
    (.region [⟨(some 14), (.q (.load false 1 (.tmp 5))), none⟩, ⟨(some 15), (.q (.bin .eql (.tmp 14) (.const (.str (B []))))), none⟩, ⟨(some 16), (.q (.move (.tmp 15))), none⟩, ⟨(some 17), (.q (.load false 1 (.tmp 5))), (some (16, false))⟩, ⟨(some 18), (.q (.len true (.tmp 17))), (some (16, false))⟩, ⟨(some 19), (.q (.bin .gtr (.tmp 18) (.const (.int .i64 32)))), (some (16, false))⟩, ⟨(some 20), (.q (.pick (.tmp 16) (.const (.bool true)) (.tmp 19))), none⟩, ⟨(some 13), (.q (.move (.tmp 20))), none⟩]) 
    (.cond (.tmp 13) 
    (.seq 
    (.region [⟨(some 6), (.q (.move (.const (.int .i64 1)))), none⟩]) .ret) 
    (.seq 
    (.region [⟨(some 22), (.q (.move (.tmp 0))), none⟩, ⟨(some 23), (.q (.move (.tmp 1))), none⟩, ⟨(some 24), (.q (.load false 1 (.tmp 5))), none⟩, ⟨(some 25), (.q (.len true (.tmp 24))), none⟩, ⟨(some 26), (.s (.call 82 [(.tmp 22), (.tmp 23), (.tmp 25)])), none⟩, ⟨(some 27), (.q (.un .not (.tmp 26))), none⟩, ⟨(some 21), (.q (.move (.tmp 27))), none⟩]) 
    (.cond (.tmp 21) 
    (.seq 
    (.region [⟨(some 6), (.q (.move (.const (.int .i64 2)))), none⟩]) .ret) 
    (.seq 
    (.region [⟨(some 29), (.q (.move (.tmp 1))), none⟩, ⟨(some 30), (.q (.bin .rem (.tmp 29) (.const (.int .i64 32)))), none⟩, ⟨(some 31), (.q (.load false 1 (.tmp 5))), none⟩, ⟨(some 32), (.q (.len true (.tmp 31))), none⟩, ⟨(some 33), (.q (.bin .add (.tmp 30) (.tmp 32))), none⟩, ⟨(some 34), (.q (.bin .gtr (.tmp 33) (.const (.int .i64 32)))), none⟩, ⟨(some 28), (.q (.move (.tmp 34))), none⟩]) 
    (.cond (.tmp 28) 
    (.seq 
    (.region [⟨(some 6), (.q (.move (.const (.int .i64 1)))), none⟩]) .ret) .skip))))))))) 
    (.seq 
    (.region [⟨(some 35), (.q (.mkFunc (.func 142) [] [(.tmp 5)])), none⟩, ⟨(some 7), (.q (.move (.tmp 35))), none⟩]) 
    (.seq 
    (.region [⟨(some 36), (.q (.mkFunc (.func 143) [] [(.tmp 5)])), none⟩, ⟨(some 8), (.q (.move (.tmp 36))), none⟩]) 
    (.seq 
    (.region [⟨(some 37), (.q (.move (.tmp 0))), none⟩, ⟨(some 38), (.q (.move (.tmp 1))), none⟩, ⟨(some 39), (.q (.load false 1 (.tmp 5))), none⟩, ⟨(some 40), (.q (.len true (.tmp 39))), none⟩, ⟨(some 41), (.q (.move (.tmp 7))), none⟩, ⟨(some 42), (.q (.move (.tmp 8))), none⟩, ⟨(some 43), (.s (.call 85 [(.tmp 37), (.tmp 38), (.tmp 40), (.tmp 41), (.tmp 42)])), none⟩, ⟨(some 6), (.q (.move (.tmp 43))), none⟩]) .ret)))))
theorem t78 : Told Try.prog 78 44 c78 [(.tmp 6)] := ⟨Try.f78, _, [], Try.func78, rfl, by kernel_rfl, rfl, by kernel_rfl, by kernel_rfl⟩
def c27 : ACode := 
    (.seq 
    (.region [⟨(some 6), (.q (.move (.const (.int .i64 0)))), none⟩]) 
    (.seq 
    (.block 0 
    (.seq 
    (.region [⟨(some 10), (.q (.move (.tmp 0))), none⟩, ⟨(some 11), (.s (.call 34 [(.tmp 10)])), none⟩, ⟨(some 12), (.q (.un .not (.tmp 11))), none⟩, ⟨(some 9), (.q (.move (.tmp 12))), none⟩]) 
    (.cond (.tmp 9) 
    (.seq 
    (.region [⟨(some 6), (.q (.move (.const (.int .i64 4)))), none⟩]) .ret) 
    (.seq 
    (.region [⟨(some 14), (.q (.move (.tmp 0))), none⟩, ⟨(some 15), (.q (.move (.tmp 1))), none⟩, ⟨(some 16), (.q (.move (.tmp 2))), none⟩, ⟨(some 17), (.q (.len true (.tmp 16))), none⟩, ⟨(some 18), (.s (.call 82 [(.tmp 14), (.tmp 15), (.tmp 17)])), none⟩, ⟨(some 19), (.q (.un .not (.tmp 18))), none⟩, ⟨(some 13), (.q (.move (.tmp 19))), none⟩]) 
    (.cond (.tmp 13) 
    (.seq 
    (.region [⟨(some 6), (.q (.move (.const (.int .i64 2)))), none⟩]) .ret) .skip))))) 
    (.seq 
    (.block 1 
    (.loop 
    (.seq 
    (.seq 
    (.region [⟨(some 20), (.q (.move (.tmp 2))), none⟩, ⟨(some 21), (.q (.bin .neq (.tmp 20) (.const (.str (B []))))), none⟩]) 
    (.cond (.tmp 21) .skip (.exit 1))) 
    (.block 2 
    (.seq 
    (.region [⟨(some 22), (.q (.move (.tmp 2))), none⟩, ⟨(some 23), (.q (.len true (.tmp 22))), none⟩, ⟨(some 24), (.q (.move (.tmp 1))), none⟩, ⟨(some 25), (.q (.bin .rem (.tmp 24) (.const (.int .i64 32)))), none⟩, ⟨(some 26), (.q (.bin .sub (.const (.int .i64 32)) (.tmp 25))), none⟩, ⟨(some 27), (.q (.best false (.tmp 23) (.tmp 26))), none⟩, ⟨(some 7), (.q (.move (.tmp 27))), none⟩]) 
    (.seq 
    (.seq 
    (.region [⟨(some 28), (.q (.move (.tmp 0))), none⟩, ⟨(some 29), (.q (.move (.tmp 1))), none⟩, ⟨(some 30), (.q (.move (.tmp 2))), none⟩, ⟨(some 31), (.q (.move (.tmp 7))), none⟩, ⟨(some 32), (.q (.sliceStr (.tmp 30) none (some (.tmp 31)))), none⟩, ⟨(some 33), (.s (.call 78 [(.tmp 28), (.tmp 29), (.tmp 32)])), none⟩, ⟨(some 8), (.q (.move (.tmp 33))), none⟩]) 
    (.seq 
    (.region [⟨(some 34), (.q (.move (.tmp 8))), none⟩, ⟨(some 35), (.q (.bin .neq (.tmp 34) (.const (.int .i64 0)))), none⟩]) 
    (.cond (.tmp 35) 
    (.seq 
    (.region [⟨(some 36), (.q (.move (.tmp 8))), none⟩, ⟨(some 6), (.q (.move (.tmp 36))), none⟩]) .ret) .skip))) 
    (.region [⟨(some 37), (.q (.move (.tmp 1))), none⟩, ⟨(some 38), (.q (.move (.tmp 7))), none⟩, ⟨(some 39), (.q (.bin .add (.tmp 37) (.tmp 38))), none⟩, ⟨(some 40), (.q (.move (.tmp 2))), none⟩, ⟨(some 41), (.q (.move (.tmp 7))), none⟩, ⟨(some 42), (.q (.sliceStr (.tmp 40) (some (.tmp 41)) none)), none⟩, ⟨(some 1), (.q (.move (.tmp 39))), none⟩, ⟨(some 2), (.q (.move (.tmp 42))), none⟩]))))))) 
    (.seq 
    (.region [⟨(some 6), (.q (.move (.const (.int .i64 0)))), none⟩]) .ret))))
theorem t27 : Told Try.prog 27 43 c27 [(.tmp 6)] := ⟨Try.f27, _, [], Try.func27, rfl, by kernel_rfl, rfl, by kernel_rfl, by kernel_rfl⟩
def c31 : ACode := 
    (.seq 
    (.region [⟨(some 2), (.q (.move (.const .nilp))), none⟩]) 
    (.seq 
    (.region [⟨(some 4), (.q (.move (.tmp 0))), none⟩, ⟨(some 5), (.s (.s2b 5 (.tmp 4))), none⟩, ⟨(some 3), (.q (.move (.tmp 5))), none⟩]) 
    (.seq 
    (.block 0 
    (.loop 
    (.seq 
    (.seq 
    (.region [⟨(some 6), (.q (.move (.tmp 3))), none⟩, ⟨(some 7), (.q (.len false (.tmp 6))), none⟩, ⟨(some 8), (.q (.bin .lss (.tmp 7) (.const (.int .i64 24576)))), none⟩]) 
    (.cond (.tmp 8) .skip (.exit 0))) 
    (.block 1 
    (.region [⟨(some 9), (.q (.move (.tmp 3))), none⟩, ⟨(some 10), (.s (.lit 5 1 [(.const (.int .u8 255))])), none⟩, ⟨(some 11), (.s (.app 5 1 1 (.tmp 9) (.tmp 10))), none⟩, ⟨(some 3), (.q (.move (.tmp 11))), none⟩]))))) 
    (.seq 
    (.region [⟨(some 12), (.q (.move (.tmp 3))), none⟩, ⟨(some 13), (.q (.sliceSl 1 (.tmp 12) none (some (.const (.int .i64 24576))))), none⟩, ⟨(some 14), (.q (.b2s (.tmp 13))), none⟩, ⟨(some 15), (.q (.build [(.str (B [])), (.bool false), (.int .i64 0), (.str (B [])), (.int .i64 0)] [(0, (1, (.tmp 14))), (1, (1, (.const (.bool true)))), (2, (1, (.const (.int .i64 (-1)))))])), none⟩, ⟨(some 16), (.s (.box 64 (.tmp 15))), none⟩, ⟨(some 2), (.q (.move (.tmp 16))), none⟩]) .ret))))
theorem t31 : Told Try.prog 31 17 c31 [(.tmp 2)] := ⟨Try.f31, _, [], Try.func31, rfl, by kernel_rfl, rfl, by kernel_rfl, by kernel_rfl⟩
def c89 : ACode := 
    (.seq 
    (.region [⟨(some 6), (.q (.move (.tmp 0))), none⟩, ⟨(some 7), (.q (.move (.tmp 1))), none⟩, ⟨(some 8), (.q (.best true (.tmp 7) (.const (.int .i64 (-1))))), none⟩, ⟨(some 9), (.q (.nonil (.tmp 6))), none⟩, ⟨(some 10), (.q (.fieldAddr 2 (.tmp 9))), none⟩, ⟨none, (.s (.store 1 (.tmp 10) (.tmp 8))), none⟩]) 
    (.region [⟨(some 11), (.q (.move (.tmp 0))), none⟩, ⟨(some 12), (.q (.move (.tmp 2))), none⟩, ⟨(some 13), (.q (.nonil (.tmp 11))), none⟩, ⟨(some 14), (.q (.fieldAddr 3 (.tmp 13))), none⟩, ⟨none, (.s (.store 1 (.tmp 14) (.tmp 12))), none⟩]))
theorem t89 : Told Try.prog 89 15 c89 [] := ⟨Try.f89, _, [], Try.func89, rfl, by kernel_rfl, rfl, by kernel_rfl, by kernel_rfl⟩
def c90 : ACode := 
    (.seq 
    (.region [⟨(some 2), (.q (.move (.tmp 0))), none⟩, ⟨(some 3), (.q (.nonil (.tmp 2))), none⟩, ⟨(some 4), (.q (.fieldAddr 1 (.tmp 3))), none⟩, ⟨none, (.s (.store 1 (.tmp 4) (.const (.bool true)))), none⟩]) 
    (.region [⟨(some 5), (.q (.move (.tmp 0))), none⟩, ⟨(some 6), (.q (.nonil (.tmp 5))), none⟩, ⟨(some 7), (.q (.fieldAddr 2 (.tmp 6))), none⟩, ⟨none, (.s (.store 1 (.tmp 7) (.const (.int .i64 (-1))))), none⟩]))
theorem t90 : Told Try.prog 90 8 c90 [] := ⟨Try.f90, _, [], Try.func90, rfl, by kernel_rfl, rfl, by kernel_rfl, by kernel_rfl⟩
def c91 : ACode := 
    (.seq 
    (.region [⟨(some 6), (.q (.move (.const (.str (B []))))), none⟩, ⟨(some 7), (.q (.move (.const (.int .i64 0)))), none⟩]) 
    (.seq 
    (.seq 
    (.region [⟨(some 8), (.q (.move (.tmp 0))), none⟩, ⟨(some 9), (.q (.nonil (.tmp 8))), none⟩, ⟨(some 10), (.q (.fieldAddr 1 (.tmp 9))), none⟩, ⟨(some 11), (.q (.load false 1 (.tmp 10))), none⟩, ⟨(some 12), (.q (.un .not (.tmp 11))), none⟩]) 
    (.cond (.tmp 12) 
    (.seq 
    (.region [⟨(some 6), (.q (.move (.const (.str (B []))))), none⟩, ⟨(some 7), (.q (.move (.const (.int .i64 4)))), none⟩]) .ret) .skip)) 
    (.seq 
    (.seq 
    (.region [⟨(some 13), (.q (.move (.tmp 1))), none⟩, ⟨(some 14), (.q (.bin .lss (.tmp 13) (.const (.int .i64 0)))), none⟩, ⟨(some 15), (.q (.move (.tmp 14))), none⟩, ⟨(some 16), (.q (.move (.tmp 2))), (some (15, false))⟩, ⟨(some 17), (.q (.bin .lss (.tmp 16) (.const (.int .i64 0)))), (some (15, false))⟩, ⟨(some 18), (.q (.pick (.tmp 15) (.const (.bool true)) (.tmp 17))), none⟩, ⟨(some 19), (.q (.move (.tmp 18))), none⟩, ⟨(some 20), (.q (.move (.tmp 1))), (some (19, false))⟩, ⟨(some 21), (.q (.move (.tmp 0))), (some (19, false))⟩, ⟨(some 22), (.q (.nonil (.tmp 21))), (some (19, false))⟩, ⟨(some 23), (.q (.fieldAddr 0 (.tmp 22))), (some (19, false))⟩, ⟨(some 24), (.q (.load false 1 (.tmp 23))), (some (19, false))⟩, ⟨(some 25), (.q (.len true (.tmp 24))), (some (19, false))⟩, ⟨(some 26), (.q (.bin .gtr (.tmp 20) (.tmp 25))), (some (19, false))⟩, ⟨(some 27), (.q (.pick (.tmp 19) (.const (.bool true)) (.tmp 26))), none⟩, ⟨(some 28), (.q (.move (.tmp 27))), none⟩, ⟨(some 29), (.q (.move (.tmp 2))), (some (28, false))⟩, ⟨(some 30), (.q (.move (.tmp 0))), (some (28, false))⟩, ⟨(some 31), (.q (.nonil (.tmp 30))), (some (28, false))⟩, ⟨(some 32), (.q (.fieldAddr 0 (.tmp 31))), (some (28, false))⟩, ⟨(some 33), (.q (.load false 1 (.tmp 32))), (some (28, false))⟩, ⟨(some 34), (.q (.len true (.tmp 33))), (some (28, false))⟩, ⟨(some 35), (.q (.move (.tmp 1))), (some (28, false))⟩, ⟨(some 36), (.q (.bin .sub (.tmp 34) (.tmp 35))), (some (28, false))⟩, ⟨(some 37), (.q (.bin .gtr (.tmp 29) (.tmp 36))), (some (28, false))⟩, ⟨(some 38), (.q (.pick (.tmp 28) (.const (.bool true)) (.tmp 37))), none⟩]) 
    (.cond (.tmp 38) 
    (.seq 
    (.region [⟨(some 6), (.q (.move (.const (.str (B []))))), none⟩, ⟨(some 7), (.q (.move (.const (.int .i64 2)))), none⟩]) .ret) .skip)) 
    (.seq 
    (.region [⟨(some 39), (.q (.move (.tmp 0))), none⟩, ⟨(some 40), (.q (.nonil (.tmp 39))), none⟩, ⟨(some 41), (.q (.fieldAddr 0 (.tmp 40))), none⟩, ⟨(some 42), (.q (.load false 1 (.tmp 41))), none⟩, ⟨(some 43), (.q (.move (.tmp 1))), none⟩, ⟨(some 44), (.q (.move (.tmp 1))), none⟩, ⟨(some 45), (.q (.move (.tmp 2))), none⟩, ⟨(some 46), (.q (.bin .add (.tmp 44) (.tmp 45))), none⟩, ⟨(some 47), (.q (.sliceStr (.tmp 42) (some (.tmp 43)) (some (.tmp 46)))), none⟩, ⟨(some 6), (.q (.move (.tmp 47))), none⟩, ⟨(some 7), (.q (.move (.const (.int .i64 0)))), none⟩]) .ret))))
theorem t91 : Told Try.prog 91 48 c91 [(.tmp 6), (.tmp 7)] := ⟨Try.f91, _, [], Try.func91, rfl, by kernel_rfl, rfl, by kernel_rfl, by kernel_rfl⟩
def c147 : ACode := 
    (.seq 
    (.region [⟨(some 2), (.q (.move (.const (.bool false)))), none⟩]) 
    (.seq 
    (.region [⟨(some 3), (.q (.move (.tmp 0))), none⟩, ⟨(some 4), (.q (.move (.tmp 0))), none⟩, ⟨(some 5), (.q (.nonil (.tmp 4))), none⟩, ⟨(some 6), (.q (.fieldAddr 4 (.tmp 5))), none⟩, ⟨(some 7), (.q (.load false 1 (.tmp 6))), none⟩, ⟨(some 8), (.q (.bin .add (.tmp 7) (.const (.int .i64 1)))), none⟩, ⟨(some 9), (.q (.nonil (.tmp 3))), none⟩, ⟨(some 10), (.q (.fieldAddr 4 (.tmp 9))), none⟩, ⟨none, (.s (.store 1 (.tmp 10) (.tmp 8))), none⟩]) 
    (.seq 
    (.seq 
    (.region [⟨(some 11), (.q (.move (.tmp 0))), none⟩, ⟨(some 12), (.q (.nonil (.tmp 11))), none⟩, ⟨(some 13), (.q (.fieldAddr 2 (.tmp 12))), none⟩, ⟨(some 14), (.q (.load false 1 (.tmp 13))), none⟩, ⟨(some 15), (.q (.bin .lss (.tmp 14) (.const (.int .i64 0)))), none⟩]) 
    (.cond (.tmp 15) 
    (.seq 
    (.region [⟨(some 2), (.q (.move (.const (.bool false)))), none⟩]) .ret) .skip)) 
    (.seq 
    (.region [⟨(some 16), (.q (.move (.tmp 0))), none⟩, ⟨(some 17), (.q (.move (.tmp 0))), none⟩, ⟨(some 18), (.q (.nonil (.tmp 17))), none⟩, ⟨(some 19), (.q (.fieldAddr 2 (.tmp 18))), none⟩, ⟨(some 20), (.q (.load false 1 (.tmp 19))), none⟩, ⟨(some 21), (.q (.bin .sub (.tmp 20) (.const (.int .i64 1)))), none⟩, ⟨(some 22), (.q (.nonil (.tmp 16))), none⟩, ⟨(some 23), (.q (.fieldAddr 2 (.tmp 22))), none⟩, ⟨none, (.s (.store 1 (.tmp 23) (.tmp 21))), none⟩]) 
    (.seq 
    (.seq 
    (.region [⟨(some 24), (.q (.move (.tmp 0))), none⟩, ⟨(some 25), (.q (.nonil (.tmp 24))), none⟩, ⟨(some 26), (.q (.fieldAddr 2 (.tmp 25))), none⟩, ⟨(some 27), (.q (.load false 1 (.tmp 26))), none⟩, ⟨(some 28), (.q (.bin .geq (.tmp 27) (.const (.int .i64 0)))), none⟩]) 
    (.cond (.tmp 28) 
    (.seq 
    (.region [⟨(some 2), (.q (.move (.const (.bool false)))), none⟩]) .ret) .skip)) 
    (.seq 
    (.region [⟨(some 29), (.q (.move (.tmp 0))), none⟩, ⟨(some 30), (.q (.nonil (.tmp 29))), none⟩, ⟨(some 31), (.q (.fieldAddr 1 (.tmp 30))), none⟩, ⟨none, (.s (.store 1 (.tmp 31) (.const (.bool false)))), none⟩]) 
    (.seq 
    (.region [⟨(some 2), (.q (.move (.const (.bool true)))), none⟩]) .ret)))))))
theorem t147 : Told Try.prog 147 32 c147 [(.tmp 2)] := ⟨Try.f147, _, [], Try.func147, rfl, by kernel_rfl, rfl, by kernel_rfl, by kernel_rfl⟩
def c148 : ACode := 
    (.region [⟨(some 6), (.q (.move (.tmp 0))), none⟩, ⟨(some 7), (.q (.move (.tmp 0))), none⟩, ⟨(some 8), (.q (.nonil (.tmp 7))), none⟩, ⟨(some 9), (.q (.fieldAddr 0 (.tmp 8))), none⟩, ⟨(some 10), (.q (.load false 1 (.tmp 9))), none⟩, ⟨(some 11), (.q (.move (.tmp 1))), none⟩, ⟨(some 12), (.q (.sliceStr (.tmp 10) none (some (.tmp 11)))), none⟩, ⟨(some 13), (.q (.move (.tmp 2))), none⟩, ⟨(some 14), (.q (.b2s (.tmp 13))), none⟩, ⟨(some 15), (.q (.bin .add (.tmp 12) (.tmp 14))), none⟩, ⟨(some 16), (.q (.move (.tmp 0))), none⟩, ⟨(some 17), (.q (.nonil (.tmp 16))), none⟩, ⟨(some 18), (.q (.fieldAddr 0 (.tmp 17))), none⟩, ⟨(some 19), (.q (.load false 1 (.tmp 18))), none⟩, ⟨(some 20), (.q (.move (.tmp 1))), none⟩, ⟨(some 21), (.q (.move (.tmp 2))), none⟩, ⟨(some 22), (.q (.len false (.tmp 21))), none⟩, ⟨(some 23), (.q (.bin .add (.tmp 20) (.tmp 22))), none⟩, ⟨(some 24), (.q (.sliceStr (.tmp 19) (some (.tmp 23)) none)), none⟩, ⟨(some 25), (.q (.bin .add (.tmp 15) (.tmp 24))), none⟩, ⟨(some 26), (.q (.nonil (.tmp 6))), none⟩, ⟨(some 27), (.q (.fieldAddr 0 (.tmp 26))), none⟩, ⟨none, (.s (.store 1 (.tmp 27) (.tmp 25))), none⟩])
theorem t148 : Told Try.prog 148 28 c148 [] := ⟨Try.f148, _, [], Try.func148, rfl, by kernel_rfl, rfl, by kernel_rfl, by kernel_rfl⟩
def c86 : ACode := 
    (.seq 
    (.region [⟨(some 4), (.q (.move (.const (.int .i64 0)))), none⟩]) 
    (.seq 
    (.seq 
    (.region [⟨(some 9), (.q (.move (.tmp 0))), none⟩, ⟨(some 10), (.q (.nonil (.tmp 9))), none⟩, ⟨(some 11), (.q (.fieldAddr 1 (.tmp 10))), none⟩, ⟨(some 12), (.q (.load false 1 (.tmp 11))), none⟩, ⟨(some 13), (.q (.un .not (.tmp 12))), none⟩]) 
    (.cond (.tmp 13) 
    (.seq 
    (.region [⟨(some 4), (.q (.move (.const (.int .i64 4)))), none⟩]) .ret) .skip)) 
    (.seq 
    (.seq 
    (.region [⟨(some 14), (.q (.move (.tmp 1))), none⟩, ⟨(some 15), (.q (.bin .lss (.tmp 14) (.const (.int .i64 0)))), none⟩, ⟨(some 16), (.q (.move (.tmp 15))), none⟩, ⟨(some 17), (.q (.move (.tmp 1))), (some (16, false))⟩, ⟨(some 18), (.q (.bin .geq (.tmp 17) (.const (.int .i64 48)))), (some (16, false))⟩, ⟨(some 19), (.q (.pick (.tmp 16) (.const (.bool true)) (.tmp 18))), none⟩]) 
    (.cond (.tmp 19) 
    (.seq 
    (.region [⟨(some 4), (.q (.move (.const (.int .i64 2)))), none⟩]) .ret) .skip)) 
    (.seq 
    (.region [⟨(some 20), (.q (.move (.tmp 0))), none⟩, ⟨(some 21), (.s (.call 147 [(.tmp 20)])), none⟩, ⟨(some 5), (.q (.move (.tmp 21))), none⟩]) 
    (.seq 
    (.region [⟨(some 22), (.q (.move (.tmp 1))), none⟩, ⟨(some 23), (.q (.bin .mul (.tmp 22) (.const (.int .i64 512)))), none⟩, ⟨(some 6), (.q (.move (.tmp 23))), none⟩]) 
    (.seq 
    (.region [⟨(some 24), (.q (.move (.tmp 0))), none⟩, ⟨(some 25), (.q (.nonil (.tmp 24))), none⟩, ⟨(some 26), (.q (.fieldAddr 0 (.tmp 25))), none⟩, ⟨(some 27), (.q (.load false 1 (.tmp 26))), none⟩, ⟨(some 28), (.q (.move (.tmp 6))), none⟩, ⟨(some 29), (.q (.move (.tmp 6))), none⟩, ⟨(some 30), (.q (.bin .add (.tmp 29) (.const (.int .i64 512)))), none⟩, ⟨(some 31), (.q (.sliceStr (.tmp 27) (some (.tmp 28)) (some (.tmp 30)))), none⟩, ⟨(some 32), (.s (.s2b 5 (.tmp 31))), none⟩, ⟨(some 7), (.q (.move (.tmp 32))), none⟩]) 
    (.seq 
    (.seq 
    (.region [⟨(some 8), (.q (.move (.const (.int .i64 0)))), none⟩]) 
    (.block 0 
    (.loop 
    (.seq 
    (.seq 
    (.region [⟨(some 33), (.q (.move (.tmp 8))), none⟩, ⟨(some 34), (.q (.move (.tmp 7))), none⟩, ⟨(some 35), (.q (.len false (.tmp 34))), none⟩, ⟨(some 36), (.q (.bin .lss (.tmp 33) (.tmp 35))), none⟩]) 
    (.cond (.tmp 36) .skip (.exit 0))) 
    (.seq 
    (.block 1 
    (.seq 
    (.region [⟨(some 39), (.q (.move (.tmp 5))), none⟩, ⟨(some 40), (.q (.un .not (.tmp 39))), none⟩, ⟨(some 41), (.q (.move (.tmp 40))), none⟩, ⟨(some 42), (.q (.move (.tmp 0))), (some (41, false))⟩, ⟨(some 43), (.q (.nonil (.tmp 42))), (some (41, false))⟩, ⟨(some 44), (.q (.fieldAddr 3 (.tmp 43))), (some (41, false))⟩, ⟨(some 45), (.q (.load false 1 (.tmp 44))), (some (41, false))⟩, ⟨(some 46), (.q (.len true (.tmp 45))), (some (41, false))⟩, ⟨(some 47), (.q (.bin .gtr (.tmp 46) (.const (.int .i64 0)))), (some (41, false))⟩, ⟨(some 48), (.q (.move (.tmp 47))), (some (41, false))⟩, ⟨(some 49), (.q (.move (.tmp 0))), (some (48, true))⟩, ⟨(some 50), (.q (.nonil (.tmp 49))), (some (48, true))⟩, ⟨(some 51), (.q (.fieldAddr 3 (.tmp 50))), (some (48, true))⟩, ⟨(some 52), (.q (.load false 1 (.tmp 51))), (some (48, true))⟩, ⟨(some 53), (.q (.move (.tmp 8))), (some (48, true))⟩, ⟨(some 54), (.q (.move (.tmp 0))), (some (48, true))⟩, ⟨(some 55), (.q (.nonil (.tmp 54))), (some (48, true))⟩, ⟨(some 56), (.q (.fieldAddr 3 (.tmp 55))), (some (48, true))⟩, ⟨(some 57), (.q (.load false 1 (.tmp 56))), (some (48, true))⟩, ⟨(some 58), (.q (.len true (.tmp 57))), (some (48, true))⟩, ⟨(some 59), (.q (.bin .rem (.tmp 53) (.tmp 58))), (some (48, true))⟩, ⟨(some 60), (.q (.idxStr (.tmp 52) (.tmp 59))), (some (48, true))⟩, ⟨(some 61), (.q (.bin .rem (.tmp 60) (.const (.int .u8 2)))), (some (48, true))⟩, ⟨(some 62), (.q (.bin .eql (.tmp 61) (.const (.int .u8 1)))), (some (48, true))⟩, ⟨(some 63), (.q (.pick (.tmp 48) (.tmp 62) (.const (.bool false)))), (some (41, false))⟩, ⟨(some 64), (.q (.pick (.tmp 41) (.const (.bool true)) (.tmp 63))), none⟩]) 
    (.cond (.tmp 64) 
    (.region [⟨(some 65), (.q (.move (.tmp 7))), none⟩, ⟨(some 66), (.q (.move (.tmp 8))), none⟩, ⟨(some 67), (.q (.idxSl 1 (.tmp 65) (.tmp 66))), none⟩, ⟨none, (.s (.store 1 (.tmp 67) (.const (.int .u8 255)))), none⟩]) .skip))) 
    (.region [⟨(some 37), (.q (.move (.tmp 8))), none⟩, ⟨(some 38), (.q (.bin .add (.tmp 37) (.const (.int .i64 1)))), none⟩, ⟨(some 8), (.q (.move (.tmp 38))), none⟩])))))) 
    (.seq 
    (.region [⟨(some 68), (.q (.move (.tmp 0))), none⟩, ⟨(some 69), (.q (.move (.tmp 6))), none⟩, ⟨(some 70), (.q (.move (.tmp 7))), none⟩, ⟨(some 71), (.s (.call 148 [(.tmp 68), (.tmp 69), (.tmp 70)])), none⟩]) 
    (.seq 
    (.seq 
    (.region [⟨(some 72), (.q (.move (.tmp 5))), none⟩]) 
    (.cond (.tmp 72) 
    (.seq 
    (.region [⟨(some 4), (.q (.move (.const (.int .i64 4)))), none⟩]) .ret) .skip)) 
    (.seq 
    (.region [⟨(some 4), (.q (.move (.const (.int .i64 0)))), none⟩]) .ret))))))))))
theorem t86 : Told Try.prog 86 73 c86 [(.tmp 4)] := ⟨Try.f86, _, [], Try.func86, rfl, by kernel_rfl, rfl, by kernel_rfl, by kernel_rfl⟩
def c87 : ACode := 
    (.seq 
    (.region [⟨(some 6), (.q (.move (.const (.int .i64 0)))), none⟩]) 
    (.seq 
    (.block 0 
    (.seq 
    (.region [⟨(some 12), (.q (.move (.tmp 0))), none⟩, ⟨(some 13), (.q (.nonil (.tmp 12))), none⟩, ⟨(some 14), (.q (.fieldAddr 1 (.tmp 13))), none⟩, ⟨(some 15), (.q (.load false 1 (.tmp 14))), none⟩, ⟨(some 16), (.q (.un .not (.tmp 15))), none⟩, ⟨(some 11), (.q (.move (.tmp 16))), none⟩]) 
    (.cond (.tmp 11) 
    (.seq 
    (.region [⟨(some 6), (.q (.move (.const (.int .i64 4)))), none⟩]) .ret) 
    (.seq 
    (.region [⟨(some 18), (.q (.move (.tmp 2))), none⟩, ⟨(some 19), (.q (.bin .eql (.tmp 18) (.const (.str (B []))))), none⟩, ⟨(some 20), (.q (.move (.tmp 19))), none⟩, ⟨(some 21), (.q (.move (.tmp 2))), (some (20, false))⟩, ⟨(some 22), (.q (.len true (.tmp 21))), (some (20, false))⟩, ⟨(some 23), (.q (.bin .gtr (.tmp 22) (.const (.int .i64 32)))), (some (20, false))⟩, ⟨(some 24), (.q (.pick (.tmp 20) (.const (.bool true)) (.tmp 23))), none⟩, ⟨(some 17), (.q (.move (.tmp 24))), none⟩]) 
    (.cond (.tmp 17) 
    (.seq 
    (.region [⟨(some 6), (.q (.move (.const (.int .i64 1)))), none⟩]) .ret) 
    (.seq 
    (.region [⟨(some 26), (.q (.move (.tmp 1))), none⟩, ⟨(some 27), (.q (.bin .lss (.tmp 26) (.const (.int .i64 0)))), none⟩, ⟨(some 28), (.q (.move (.tmp 27))), none⟩, ⟨(some 29), (.q (.move (.tmp 1))), (some (28, false))⟩, ⟨(some 30), (.q (.move (.tmp 0))), (some (28, false))⟩, ⟨(some 31), (.q (.nonil (.tmp 30))), (some (28, false))⟩, ⟨(some 32), (.q (.fieldAddr 0 (.tmp 31))), (some (28, false))⟩, ⟨(some 33), (.q (.load false 1 (.tmp 32))), (some (28, false))⟩, ⟨(some 34), (.q (.len true (.tmp 33))), (some (28, false))⟩, ⟨(some 35), (.q (.bin .gtr (.tmp 29) (.tmp 34))), (some (28, false))⟩, ⟨(some 36), (.q (.pick (.tmp 28) (.const (.bool true)) (.tmp 35))), none⟩, ⟨(some 37), (.q (.move (.tmp 36))), none⟩, ⟨(some 38), (.q (.move (.tmp 2))), (some (37, false))⟩, ⟨(some 39), (.q (.len true (.tmp 38))), (some (37, false))⟩, ⟨(some 40), (.q (.move (.tmp 0))), (some (37, false))⟩, ⟨(some 41), (.q (.nonil (.tmp 40))), (some (37, false))⟩, ⟨(some 42), (.q (.fieldAddr 0 (.tmp 41))), (some (37, false))⟩, ⟨(some 43), (.q (.load false 1 (.tmp 42))), (some (37, false))⟩, ⟨(some 44), (.q (.len true (.tmp 43))), (some (37, false))⟩, ⟨(some 45), (.q (.move (.tmp 1))), (some (37, false))⟩, ⟨(some 46), (.q (.bin .sub (.tmp 44) (.tmp 45))), (some (37, false))⟩, ⟨(some 47), (.q (.bin .gtr (.tmp 39) (.tmp 46))), (some (37, false))⟩, ⟨(some 48), (.q (.pick (.tmp 37) (.const (.bool true)) (.tmp 47))), none⟩, ⟨(some 25), (.q (.move (.tmp 48))), none⟩]) 
    (.cond (.tmp 25) 
    (.seq 
    (.region [⟨(some 6), (.q (.move (.const (.int .i64 2)))), none⟩]) .ret) 
    (.seq 
    (.region [⟨(some 50), (.q (.move (.tmp 1))), none⟩, ⟨(some 51), (.q (.bin .quo (.tmp 50) (.const (.int .i64 32)))), none⟩, ⟨(some 52), (.q (.move (.tmp 1))), none⟩, ⟨(some 53), (.q (.move (.tmp 2))), none⟩, ⟨(some 54), (.q (.len true (.tmp 53))), none⟩, ⟨(some 55), (.q (.bin .add (.tmp 52) (.tmp 54))), none⟩, ⟨(some 56), (.q (.bin .sub (.tmp 55) (.const (.int .i64 1)))), none⟩, ⟨(some 57), (.q (.bin .quo (.tmp 56) (.const (.int .i64 32)))), none⟩, ⟨(some 58), (.q (.bin .neq (.tmp 51) (.tmp 57))), none⟩, ⟨(some 49), (.q (.move (.tmp 58))), none⟩]) 
    (.cond (.tmp 49) 
    (.seq 
    (.region [⟨(some 6), (.q (.move (.const (.int .i64 1)))), none⟩]) .ret) .skip))))))))) 
    (.seq 
    (.region [⟨(some 59), (.q (.move (.tmp 0))), none⟩, ⟨(some 60), (.s (.call 147 [(.tmp 59)])), none⟩, ⟨(some 7), (.q (.move (.tmp 60))), none⟩]) 
    (.seq 
    (.region [⟨(some 61), (.q (.move (.tmp 0))), none⟩, ⟨(some 62), (.q (.nonil (.tmp 61))), none⟩, ⟨(some 63), (.q (.fieldAddr 0 (.tmp 62))), none⟩, ⟨(some 64), (.q (.load false 1 (.tmp 63))), none⟩, ⟨(some 65), (.q (.move (.tmp 1))), none⟩, ⟨(some 66), (.q (.move (.tmp 1))), none⟩, ⟨(some 67), (.q (.move (.tmp 2))), none⟩, ⟨(some 68), (.q (.len true (.tmp 67))), none⟩, ⟨(some 69), (.q (.bin .add (.tmp 66) (.tmp 68))), none⟩, ⟨(some 70), (.q (.sliceStr (.tmp 64) (some (.tmp 65)) (some (.tmp 69)))), none⟩, ⟨(some 71), (.s (.s2b 5 (.tmp 70))), none⟩, ⟨(some 8), (.q (.move (.tmp 71))), none⟩]) 
    (.seq 
    (.seq 
    (.region [⟨(some 9), (.q (.move (.const (.int .i64 0)))), none⟩]) 
    (.block 1 
    (.loop 
    (.seq 
    (.seq 
    (.region [⟨(some 72), (.q (.move (.tmp 9))), none⟩, ⟨(some 73), (.q (.move (.tmp 8))), none⟩, ⟨(some 74), (.q (.len false (.tmp 73))), none⟩, ⟨(some 75), (.q (.bin .lss (.tmp 72) (.tmp 74))), none⟩, ⟨(some 76), (.q (.move (.tmp 75))), none⟩, ⟨(some 77), (.q (.move (.tmp 9))), (some (76, true))⟩, ⟨(some 78), (.q (.move (.tmp 2))), (some (76, true))⟩, ⟨(some 79), (.q (.len true (.tmp 78))), (some (76, true))⟩, ⟨(some 80), (.q (.bin .lss (.tmp 77) (.tmp 79))), (some (76, true))⟩, ⟨(some 81), (.q (.pick (.tmp 76) (.tmp 80) (.const (.bool false)))), none⟩]) 
    (.cond (.tmp 81) .skip (.exit 1))) 
    (.seq 
    (.block 2 
    (.seq 
    (.region [⟨(some 10), (.q (.move (.const (.int .u8 0)))), none⟩]) 
    (.seq 
    (.seq 
    (.region [⟨(some 84), (.q (.move (.tmp 7))), none⟩]) 
    (.cond (.tmp 84) 
    (.region [⟨(some 10), (.q (.move (.const (.int .u8 255)))), none⟩]) .skip)) 
    (.seq 
    (.seq 
    (.region [⟨(some 85), (.q (.move (.tmp 7))), none⟩, ⟨(some 86), (.q (.move (.tmp 85))), none⟩, ⟨(some 87), (.q (.move (.tmp 0))), (some (86, true))⟩, ⟨(some 88), (.q (.nonil (.tmp 87))), (some (86, true))⟩, ⟨(some 89), (.q (.fieldAddr 3 (.tmp 88))), (some (86, true))⟩, ⟨(some 90), (.q (.load false 1 (.tmp 89))), (some (86, true))⟩, ⟨(some 91), (.q (.len true (.tmp 90))), (some (86, true))⟩, ⟨(some 92), (.q (.bin .gtr (.tmp 91) (.const (.int .i64 0)))), (some (86, true))⟩, ⟨(some 93), (.q (.pick (.tmp 86) (.tmp 92) (.const (.bool false)))), none⟩]) 
    (.cond (.tmp 93) 
    (.region [⟨(some 94), (.q (.move (.tmp 0))), none⟩, ⟨(some 95), (.q (.nonil (.tmp 94))), none⟩, ⟨(some 96), (.q (.fieldAddr 3 (.tmp 95))), none⟩, ⟨(some 97), (.q (.load false 1 (.tmp 96))), none⟩, ⟨(some 98), (.q (.move (.tmp 9))), none⟩, ⟨(some 99), (.q (.move (.tmp 0))), none⟩, ⟨(some 100), (.q (.nonil (.tmp 99))), none⟩, ⟨(some 101), (.q (.fieldAddr 3 (.tmp 100))), none⟩, ⟨(some 102), (.q (.load false 1 (.tmp 101))), none⟩, ⟨(some 103), (.q (.len true (.tmp 102))), none⟩, ⟨(some 104), (.q (.bin .rem (.tmp 98) (.tmp 103))), none⟩, ⟨(some 105), (.q (.idxStr (.tmp 97) (.tmp 104))), none⟩, ⟨(some 10), (.q (.move (.tmp 105))), none⟩]) .skip)) 
    (.region [⟨(some 106), (.q (.move (.tmp 8))), none⟩, ⟨(some 107), (.q (.move (.tmp 9))), none⟩, ⟨(some 108), (.q (.move (.tmp 8))), none⟩, ⟨(some 109), (.q (.move (.tmp 9))), none⟩, ⟨(some 110), (.q (.idxSl 1 (.tmp 108) (.tmp 109))), none⟩, ⟨(some 111), (.q (.load false 1 (.tmp 110))), none⟩, ⟨(some 112), (.q (.move (.tmp 2))), none⟩, ⟨(some 113), (.q (.move (.tmp 9))), none⟩, ⟨(some 114), (.q (.idxStr (.tmp 112) (.tmp 113))), none⟩, ⟨(some 115), (.q (.move (.tmp 10))), none⟩, ⟨(some 116), (.q (.bin .or (.tmp 114) (.tmp 115))), none⟩, ⟨(some 117), (.q (.bin .and (.tmp 111) (.tmp 116))), none⟩, ⟨(some 118), (.q (.idxSl 1 (.tmp 106) (.tmp 107))), none⟩, ⟨none, (.s (.store 1 (.tmp 118) (.tmp 117))), none⟩]))))) 
    (.region [⟨(some 82), (.q (.move (.tmp 9))), none⟩, ⟨(some 83), (.q (.bin .add (.tmp 82) (.const (.int .i64 1)))), none⟩, ⟨(some 9), (.q (.move (.tmp 83))), none⟩])))))) 
    (.seq 
    (.region [⟨(some 119), (.q (.move (.tmp 0))), none⟩, ⟨(some 120), (.q (.move (.tmp 1))), none⟩, ⟨(some 121), (.q (.move (.tmp 8))), none⟩, ⟨(some 122), (.s (.call 148 [(.tmp 119), (.tmp 120), (.tmp 121)])), none⟩]) 
    (.seq 
    (.seq 
    (.region [⟨(some 123), (.q (.move (.tmp 7))), none⟩]) 
    (.cond (.tmp 123) 
    (.seq 
    (.region [⟨(some 6), (.q (.move (.const (.int .i64 4)))), none⟩]) .ret) .skip)) 
    (.seq 
    (.region [⟨(some 6), (.q (.move (.const (.int .i64 0)))), none⟩]) .ret))))))))
theorem t87 : Told Try.prog 87 124 c87 [(.tmp 6)] := ⟨Try.f87, _, [], Try.func87, rfl, by kernel_rfl, rfl, by kernel_rfl, by kernel_rfl⟩
def c88 : ACode := 
    (.seq 
    (.region [⟨(some 6), (.q (.move (.const (.int .i64 0)))), none⟩]) 
    (.seq 
    (.seq 
    (.region [⟨(some 9), (.q (.move (.tmp 0))), none⟩, ⟨(some 10), (.q (.nonil (.tmp 9))), none⟩, ⟨(some 11), (.q (.fieldAddr 1 (.tmp 10))), none⟩, ⟨(some 12), (.q (.load false 1 (.tmp 11))), none⟩, ⟨(some 13), (.q (.un .not (.tmp 12))), none⟩]) 
    (.cond (.tmp 13) 
    (.seq 
    (.region [⟨(some 6), (.q (.move (.const (.int .i64 4)))), none⟩]) .ret) .skip)) 
    (.seq 
    (.seq 
    (.region [⟨(some 14), (.q (.move (.tmp 1))), none⟩, ⟨(some 15), (.q (.bin .lss (.tmp 14) (.const (.int .i64 0)))), none⟩, ⟨(some 16), (.q (.move (.tmp 15))), none⟩, ⟨(some 17), (.q (.move (.tmp 1))), (some (16, false))⟩, ⟨(some 18), (.q (.move (.tmp 0))), (some (16, false))⟩, ⟨(some 19), (.q (.nonil (.tmp 18))), (some (16, false))⟩, ⟨(some 20), (.q (.fieldAddr 0 (.tmp 19))), (some (16, false))⟩, ⟨(some 21), (.q (.load false 1 (.tmp 20))), (some (16, false))⟩, ⟨(some 22), (.q (.len true (.tmp 21))), (some (16, false))⟩, ⟨(some 23), (.q (.bin .gtr (.tmp 17) (.tmp 22))), (some (16, false))⟩, ⟨(some 24), (.q (.pick (.tmp 16) (.const (.bool true)) (.tmp 23))), none⟩, ⟨(some 25), (.q (.move (.tmp 24))), none⟩, ⟨(some 26), (.q (.move (.tmp 2))), (some (25, false))⟩, ⟨(some 27), (.q (.len true (.tmp 26))), (some (25, false))⟩, ⟨(some 28), (.q (.move (.tmp 0))), (some (25, false))⟩, ⟨(some 29), (.q (.nonil (.tmp 28))), (some (25, false))⟩, ⟨(some 30), (.q (.fieldAddr 0 (.tmp 29))), (some (25, false))⟩, ⟨(some 31), (.q (.load false 1 (.tmp 30))), (some (25, false))⟩, ⟨(some 32), (.q (.len true (.tmp 31))), (some (25, false))⟩, ⟨(some 33), (.q (.move (.tmp 1))), (some (25, false))⟩, ⟨(some 34), (.q (.bin .sub (.tmp 32) (.tmp 33))), (some (25, false))⟩, ⟨(some 35), (.q (.bin .gtr (.tmp 27) (.tmp 34))), (some (25, false))⟩, ⟨(some 36), (.q (.pick (.tmp 25) (.const (.bool true)) (.tmp 35))), none⟩]) 
    (.cond (.tmp 36) 
    (.seq 
    (.region [⟨(some 6), (.q (.move (.const (.int .i64 2)))), none⟩]) .ret) .skip)) 
    (.seq 
    (.block 0 
    (.loop 
    (.seq 
    (.seq 
    (.region [⟨(some 37), (.q (.move (.tmp 2))), none⟩, ⟨(some 38), (.q (.len true (.tmp 37))), none⟩, ⟨(some 39), (.q (.bin .gtr (.tmp 38) (.const (.int .i64 0)))), none⟩]) 
    (.cond (.tmp 39) .skip (.exit 0))) 
    (.block 1 
    (.seq 
    (.region [⟨(some 40), (.q (.move (.tmp 2))), none⟩, ⟨(some 41), (.q (.len true (.tmp 40))), none⟩, ⟨(some 42), (.q (.move (.tmp 1))), none⟩, ⟨(some 43), (.q (.bin .rem (.tmp 42) (.const (.int .i64 32)))), none⟩, ⟨(some 44), (.q (.bin .sub (.const (.int .i64 32)) (.tmp 43))), none⟩, ⟨(some 45), (.q (.best false (.tmp 41) (.tmp 44))), none⟩, ⟨(some 7), (.q (.move (.tmp 45))), none⟩]) 
    (.seq 
    (.seq 
    (.region [⟨(some 46), (.q (.move (.tmp 0))), none⟩, ⟨(some 47), (.q (.move (.tmp 1))), none⟩, ⟨(some 48), (.q (.move (.tmp 2))), none⟩, ⟨(some 49), (.q (.move (.tmp 7))), none⟩, ⟨(some 50), (.q (.sliceStr (.tmp 48) none (some (.tmp 49)))), none⟩, ⟨(some 51), (.s (.call 87 [(.tmp 46), (.tmp 47), (.tmp 50)])), none⟩, ⟨(some 8), (.q (.move (.tmp 51))), none⟩]) 
    (.seq 
    (.region [⟨(some 52), (.q (.move (.tmp 8))), none⟩, ⟨(some 53), (.q (.bin .neq (.tmp 52) (.const (.int .i64 0)))), none⟩]) 
    (.cond (.tmp 53) 
    (.seq 
    (.region [⟨(some 54), (.q (.move (.tmp 8))), none⟩, ⟨(some 6), (.q (.move (.tmp 54))), none⟩]) .ret) .skip))) 
    (.seq 
    (.region [⟨(some 55), (.q (.move (.tmp 1))), none⟩, ⟨(some 56), (.q (.move (.tmp 7))), none⟩, ⟨(some 57), (.q (.bin .add (.tmp 55) (.tmp 56))), none⟩, ⟨(some 1), (.q (.move (.tmp 57))), none⟩]) 
    (.region [⟨(some 58), (.q (.move (.tmp 2))), none⟩, ⟨(some 59), (.q (.move (.tmp 7))), none⟩, ⟨(some 60), (.q (.sliceStr (.tmp 58) (some (.tmp 59)) none)), none⟩, ⟨(some 2), (.q (.move (.tmp 60))), none⟩])))))))) 
    (.seq 
    (.region [⟨(some 6), (.q (.move (.const (.int .i64 0)))), none⟩]) .ret)))))
theorem t88 : Told Try.prog 88 61 c88 [(.tmp 6)] := ⟨Try.f88, _, [], Try.func88, rfl, by kernel_rfl, rfl, by kernel_rfl, by kernel_rfl⟩
def c30 : ACode := 
    (.seq 
    (.region [⟨(some 4), (.q (.move (.const (.bool false)))), none⟩]) 
    (.seq 
    (.seq 
    (.region [⟨(some 5), (.q (.move (.const (.int .i64 0)))), none⟩]) 
    (.block 0 
    (.loop 
    (.seq 
    (.seq 
    (.region [⟨(some 6), (.q (.move (.tmp 5))), none⟩, ⟨(some 7), (.q (.move (.tmp 0))), none⟩, ⟨(some 8), (.q (.len false (.tmp 7))), none⟩, ⟨(some 9), (.q (.bin .lss (.tmp 6) (.tmp 8))), none⟩, ⟨(some 10), (.q (.move (.tmp 9))), none⟩, ⟨(some 11), (.q (.move (.tmp 5))), (some (10, true))⟩, ⟨(some 12), (.q (.move (.tmp 1))), (some (10, true))⟩, ⟨(some 13), (.q (.bin .lss (.tmp 11) (.tmp 12))), (some (10, true))⟩, ⟨(some 14), (.q (.pick (.tmp 10) (.tmp 13) (.const (.bool false)))), none⟩]) 
    (.cond (.tmp 14) .skip (.exit 0))) 
    (.seq 
    (.block 1 
    (.seq 
    (.region [⟨(some 17), (.q (.move (.tmp 0))), none⟩, ⟨(some 18), (.q (.move (.tmp 5))), none⟩, ⟨(some 19), (.q (.idxSl 4 (.tmp 17) (.tmp 18))), none⟩, ⟨(some 20), (.q (.fieldAddr 3 (.tmp 19))), none⟩, ⟨(some 21), (.q (.load false 1 (.tmp 20))), none⟩, ⟨(some 22), (.q (.len true (.tmp 21))), none⟩, ⟨(some 23), (.q (.bin .gtr (.tmp 22) (.const (.int .i64 200)))), none⟩]) 
    (.cond (.tmp 23) 
    (.seq 
    (.region [⟨(some 4), (.q (.move (.const (.bool false)))), none⟩]) .ret) .skip))) 
    (.region [⟨(some 15), (.q (.move (.tmp 5))), none⟩, ⟨(some 16), (.q (.bin .add (.tmp 15) (.const (.int .i64 1)))), none⟩, ⟨(some 5), (.q (.move (.tmp 16))), none⟩])))))) 
    (.seq 
    (.region [⟨(some 24), (.q (.move (.tmp 0))), none⟩, ⟨(some 25), (.q (.len false (.tmp 24))), none⟩, ⟨(some 26), (.q (.move (.tmp 1))), none⟩, ⟨(some 27), (.q (.bin .leq (.tmp 25) (.tmp 26))), none⟩, ⟨(some 4), (.q (.move (.tmp 27))), none⟩]) .ret)))
theorem t30 : Told Try.prog 30 28 c30 [(.tmp 4)] := ⟨Try.f30, _, [], Try.func30, rfl, by kernel_rfl, rfl, by kernel_rfl, by kernel_rfl⟩
def c32 : ACode := 
    (.seq 
    (.region [⟨(some 3), (.s (.box 61 (.tmp 1))), none⟩, ⟨(some 4), (.q (.move (.const (.str (B []))))), none⟩, ⟨(some 5), (.q (.move (.const (.int .i64 0)))), none⟩]) 
    (.seq 
    (.seq 
    (.region [⟨(some 6), (.q (.fieldAddr 0 (.tmp 3))), none⟩, ⟨(some 7), (.q (.load false 1 (.tmp 6))), none⟩]) 
    (.block 0 
    (.seq 
    (.region [⟨(some 9), (.q (.bin .eql (.tmp 7) (.const (.int .i64 1)))), none⟩, ⟨(some 8), (.q (.move (.tmp 9))), none⟩]) 
    (.cond (.tmp 8) 
    (.seq 
    (.region [⟨(some 10), (.q (.move (.tmp 0))), none⟩, ⟨(some 11), (.q (.fieldAddr 1 (.tmp 3))), none⟩, ⟨(some 12), (.q (.load false 1 (.tmp 11))), none⟩, ⟨(some 13), (.s (.call 28 [(.tmp 10), (.tmp 12)])), none⟩, ⟨(some 4), (.q (.move (.const (.str (B []))))), none⟩, ⟨(some 5), (.q (.move (.tmp 13))), none⟩]) .ret) 
    (.seq 
    (.region [⟨(some 15), (.q (.bin .eql (.tmp 7) (.const (.int .i64 2)))), none⟩, ⟨(some 14), (.q (.move (.tmp 15))), none⟩]) 
    (.cond (.tmp 14) 
    (.seq 
    (.region [⟨(some 16), (.q (.move (.tmp 0))), none⟩, ⟨(some 17), (.q (.fieldAddr 1 (.tmp 3))), none⟩, ⟨(some 18), (.q (.load false 1 (.tmp 17))), none⟩, ⟨(some 19), (.q (.fieldAddr 3 (.tmp 3))), none⟩, ⟨(some 20), (.q (.load false 1 (.tmp 19))), none⟩, ⟨(some 21), (.s (.call 78 [(.tmp 16), (.tmp 18), (.tmp 20)])), none⟩, ⟨(some 4), (.q (.move (.const (.str (B []))))), none⟩, ⟨(some 5), (.q (.move (.tmp 21))), none⟩]) .ret) 
    (.seq 
    (.region [⟨(some 23), (.q (.bin .eql (.tmp 7) (.const (.int .i64 3)))), none⟩, ⟨(some 22), (.q (.move (.tmp 23))), none⟩]) 
    (.cond (.tmp 22) 
    (.seq 
    (.region [⟨(some 24), (.q (.move (.tmp 0))), none⟩, ⟨(some 25), (.q (.fieldAddr 1 (.tmp 3))), none⟩, ⟨(some 26), (.q (.load false 1 (.tmp 25))), none⟩, ⟨(some 27), (.q (.fieldAddr 3 (.tmp 3))), none⟩, ⟨(some 28), (.q (.load false 1 (.tmp 27))), none⟩, ⟨(some 29), (.s (.call 27 [(.tmp 24), (.tmp 26), (.tmp 28)])), none⟩, ⟨(some 4), (.q (.move (.const (.str (B []))))), none⟩, ⟨(some 5), (.q (.move (.tmp 29))), none⟩]) .ret) 
    (.seq 
    (.region [⟨(some 31), (.q (.bin .eql (.tmp 7) (.const (.int .i64 4)))), none⟩, ⟨(some 30), (.q (.move (.tmp 31))), none⟩]) 
    (.cond (.tmp 30) 
    (.region [⟨(some 32), (.q (.move (.tmp 0))), none⟩, ⟨(some 33), (.q (.fieldAddr 2 (.tmp 3))), none⟩, ⟨(some 34), (.q (.load false 1 (.tmp 33))), none⟩, ⟨(some 35), (.q (.fieldAddr 3 (.tmp 3))), none⟩, ⟨(some 36), (.q (.load false 1 (.tmp 35))), none⟩, ⟨(some 37), (.s (.call 79 [(.tmp 32), (.tmp 34), (.tmp 36)])), none⟩]) 
    (.seq 
    (.region [⟨(some 39), (.q (.bin .eql (.tmp 7) (.const (.int .i64 5)))), none⟩, ⟨(some 38), (.q (.move (.tmp 39))), none⟩]) 
    (.cond (.tmp 38) 
    (.region [⟨(some 40), (.q (.move (.tmp 0))), none⟩, ⟨(some 41), (.s (.call 80 [(.tmp 40)])), none⟩]) 
    (.seq 
    (.region [⟨(some 43), (.q (.bin .eql (.tmp 7) (.const (.int .i64 6)))), none⟩, ⟨(some 42), (.q (.move (.tmp 43))), none⟩]) 
    (.cond (.tmp 42) 
    (.seq 
    (.region [⟨(some 44), (.q (.move (.tmp 0))), none⟩, ⟨(some 45), (.q (.fieldAddr 1 (.tmp 3))), none⟩, ⟨(some 46), (.q (.load false 1 (.tmp 45))), none⟩, ⟨(some 47), (.q (.fieldAddr 2 (.tmp 3))), none⟩, ⟨(some 48), (.q (.load false 1 (.tmp 47))), none⟩, ⟨(some 49), (.s (.call 29 [(.tmp 44), (.tmp 46), (.tmp 48)])), none⟩, ⟨(some 50), (.q (.extract 0 (.tmp 49))), none⟩, ⟨(some 51), (.q (.extract 1 (.tmp 49))), none⟩, ⟨(some 4), (.q (.move (.tmp 50))), none⟩, ⟨(some 5), (.q (.move (.tmp 51))), none⟩]) .ret) .skip)))))))))))))) 
    (.seq 
    (.region [⟨(some 4), (.q (.move (.const (.str (B []))))), none⟩, ⟨(some 5), (.q (.move (.const (.int .i64 0)))), none⟩]) .ret)))
theorem t32 : Told Try.prog 32 52 c32 [(.tmp 4), (.tmp 5)] := ⟨Try.f32, _, [], Try.func32, rfl, by kernel_rfl, rfl, by kernel_rfl, by kernel_rfl⟩
def c33 : ACode := 
    (.seq 
    (.region [⟨(some 3), (.s (.box 61 (.tmp 1))), none⟩, ⟨(some 4), (.q (.move (.const (.str (B []))))), none⟩, ⟨(some 5), (.q (.move (.const (.int .i64 0)))), none⟩]) 
    (.seq 
    (.seq 
    (.region [⟨(some 6), (.q (.fieldAddr 0 (.tmp 3))), none⟩, ⟨(some 7), (.q (.load false 1 (.tmp 6))), none⟩]) 
    (.block 0 
    (.seq 
    (.region [⟨(some 9), (.q (.bin .eql (.tmp 7) (.const (.int .i64 1)))), none⟩, ⟨(some 8), (.q (.move (.tmp 9))), none⟩]) 
    (.cond (.tmp 8) 
    (.seq 
    (.region [⟨(some 10), (.q (.move (.tmp 0))), none⟩, ⟨(some 11), (.q (.fieldAddr 1 (.tmp 3))), none⟩, ⟨(some 12), (.q (.load false 1 (.tmp 11))), none⟩, ⟨(some 13), (.s (.call 86 [(.tmp 10), (.tmp 12)])), none⟩, ⟨(some 4), (.q (.move (.const (.str (B []))))), none⟩, ⟨(some 5), (.q (.move (.tmp 13))), none⟩]) .ret) 
    (.seq 
    (.region [⟨(some 15), (.q (.bin .eql (.tmp 7) (.const (.int .i64 2)))), none⟩, ⟨(some 14), (.q (.move (.tmp 15))), none⟩]) 
    (.cond (.tmp 14) 
    (.seq 
    (.region [⟨(some 16), (.q (.move (.tmp 0))), none⟩, ⟨(some 17), (.q (.fieldAddr 1 (.tmp 3))), none⟩, ⟨(some 18), (.q (.load false 1 (.tmp 17))), none⟩, ⟨(some 19), (.q (.fieldAddr 3 (.tmp 3))), none⟩, ⟨(some 20), (.q (.load false 1 (.tmp 19))), none⟩, ⟨(some 21), (.s (.call 87 [(.tmp 16), (.tmp 18), (.tmp 20)])), none⟩, ⟨(some 4), (.q (.move (.const (.str (B []))))), none⟩, ⟨(some 5), (.q (.move (.tmp 21))), none⟩]) .ret) 
    (.seq 
    (.region [⟨(some 23), (.q (.bin .eql (.tmp 7) (.const (.int .i64 3)))), none⟩, ⟨(some 22), (.q (.move (.tmp 23))), none⟩]) 
    (.cond (.tmp 22) 
    (.seq 
    (.region [⟨(some 24), (.q (.move (.tmp 0))), none⟩, ⟨(some 25), (.q (.fieldAddr 1 (.tmp 3))), none⟩, ⟨(some 26), (.q (.load false 1 (.tmp 25))), none⟩, ⟨(some 27), (.q (.fieldAddr 3 (.tmp 3))), none⟩, ⟨(some 28), (.q (.load false 1 (.tmp 27))), none⟩, ⟨(some 29), (.s (.call 88 [(.tmp 24), (.tmp 26), (.tmp 28)])), none⟩, ⟨(some 4), (.q (.move (.const (.str (B []))))), none⟩, ⟨(some 5), (.q (.move (.tmp 29))), none⟩]) .ret) 
    (.seq 
    (.region [⟨(some 31), (.q (.bin .eql (.tmp 7) (.const (.int .i64 4)))), none⟩, ⟨(some 30), (.q (.move (.tmp 31))), none⟩]) 
    (.cond (.tmp 30) 
    (.region [⟨(some 32), (.q (.move (.tmp 0))), none⟩, ⟨(some 33), (.q (.fieldAddr 2 (.tmp 3))), none⟩, ⟨(some 34), (.q (.load false 1 (.tmp 33))), none⟩, ⟨(some 35), (.q (.fieldAddr 3 (.tmp 3))), none⟩, ⟨(some 36), (.q (.load false 1 (.tmp 35))), none⟩, ⟨(some 37), (.s (.call 89 [(.tmp 32), (.tmp 34), (.tmp 36)])), none⟩]) 
    (.seq 
    (.region [⟨(some 39), (.q (.bin .eql (.tmp 7) (.const (.int .i64 5)))), none⟩, ⟨(some 38), (.q (.move (.tmp 39))), none⟩]) 
    (.cond (.tmp 38) 
    (.region [⟨(some 40), (.q (.move (.tmp 0))), none⟩, ⟨(some 41), (.s (.call 90 [(.tmp 40)])), none⟩]) 
    (.seq 
    (.region [⟨(some 43), (.q (.bin .eql (.tmp 7) (.const (.int .i64 6)))), none⟩, ⟨(some 42), (.q (.move (.tmp 43))), none⟩]) 
    (.cond (.tmp 42) 
    (.seq 
    (.region [⟨(some 44), (.q (.move (.tmp 0))), none⟩, ⟨(some 45), (.q (.fieldAddr 1 (.tmp 3))), none⟩, ⟨(some 46), (.q (.load false 1 (.tmp 45))), none⟩, ⟨(some 47), (.q (.fieldAddr 2 (.tmp 3))), none⟩, ⟨(some 48), (.q (.load false 1 (.tmp 47))), none⟩, ⟨(some 49), (.s (.call 91 [(.tmp 44), (.tmp 46), (.tmp 48)])), none⟩, ⟨(some 50), (.q (.extract 0 (.tmp 49))), none⟩, ⟨(some 51), (.q (.extract 1 (.tmp 49))), none⟩, ⟨(some 4), (.q (.move (.tmp 50))), none⟩, ⟨(some 5), (.q (.move (.tmp 51))), none⟩]) .ret) .skip)))))))))))))) 
    (.seq 
    (.region [⟨(some 4), (.q (.move (.const (.str (B []))))), none⟩, ⟨(some 5), (.q (.move (.const (.int .i64 0)))), none⟩]) .ret)))
theorem t33 : Told Try.prog 33 52 c33 [(.tmp 4), (.tmp 5)] := ⟨Try.f33, _, [], Try.func33, rfl, by kernel_rfl, rfl, by kernel_rfl, by kernel_rfl⟩
def c25 : ACode := 
    (.seq 
    (.region [⟨(some 0), (.q (.move (.const (.bool false)))), none⟩]) 
    (.seq 
    (.region [⟨(some 10), (.s (.call 37 [])), none⟩, ⟨(some 1), (.q (.move (.tmp 10))), none⟩]) 
    (.seq 
    (.region [⟨(some 11), (.q (.move (.tmp 1))), none⟩, ⟨(some 12), (.s (.call 78 [(.tmp 11), (.const (.int .i64 5)), (.const (.str (B [15])))])), none⟩, ⟨(some 13), (.q (.move (.tmp 1))), none⟩, ⟨(some 14), (.s (.call 78 [(.tmp 13), (.const (.int .i64 5)), (.const (.str (B [243])))])), none⟩, ⟨(some 2), (.q (.move (.tmp 12))), none⟩, ⟨(some 3), (.q (.move (.tmp 14))), none⟩]) 
    (.seq 
    (.region [⟨(some 16), (.q (.move (.tmp 1))), none⟩, ⟨(some 17), (.s (.call 29 [(.tmp 16), (.const (.int .i64 4)), (.const (.int .i64 3))])), none⟩, ⟨(some 15), (.q (.move (.tmp 17))), none⟩, ⟨(some 18), (.q (.extract 0 (.tmp 15))), none⟩, ⟨(some 19), (.q (.extract 1 (.tmp 15))), none⟩, ⟨(some 4), (.q (.move (.tmp 18))), none⟩, ⟨(some 5), (.q (.move (.tmp 19))), none⟩]) 
    (.seq 
    (.region [⟨(some 20), (.q (.move (.tmp 1))), none⟩, ⟨(some 21), (.s (.call 79 [(.tmp 20), (.const (.int .i64 0)), (.const (.str (B [1, 0])))])), none⟩]) 
    (.seq 
    (.region [⟨(some 22), (.q (.move (.tmp 1))), none⟩, ⟨(some 23), (.s (.call 28 [(.tmp 22), (.const (.int .i64 0))])), none⟩, ⟨(some 6), (.q (.move (.tmp 23))), none⟩]) 
    (.seq 
    (.region [⟨(some 24), (.q (.move (.tmp 1))), none⟩, ⟨(some 25), (.s (.call 34 [(.tmp 24)])), none⟩, ⟨(some 7), (.q (.move (.tmp 25))), none⟩]) 
    (.seq 
    (.region [⟨(some 26), (.q (.move (.tmp 1))), none⟩, ⟨(some 27), (.s (.call 80 [(.tmp 26)])), none⟩]) 
    (.seq 
    (.region [⟨(some 29), (.q (.move (.tmp 1))), none⟩, ⟨(some 30), (.s (.call 29 [(.tmp 29), (.const (.int .i64 4)), (.const (.int .i64 2))])), none⟩, ⟨(some 28), (.q (.move (.tmp 30))), none⟩, ⟨(some 31), (.q (.extract 0 (.tmp 28))), none⟩, ⟨(some 32), (.q (.extract 1 (.tmp 28))), none⟩, ⟨(some 8), (.q (.move (.tmp 31))), none⟩, ⟨(some 9), (.q (.move (.tmp 32))), none⟩]) 
    (.seq 
    (.region [⟨(some 33), (.q (.move (.tmp 2))), none⟩, ⟨(some 34), (.q (.bin .eql (.tmp 33) (.const (.int .i64 0)))), none⟩, ⟨(some 35), (.q (.move (.tmp 34))), none⟩, ⟨(some 36), (.q (.move (.tmp 3))), (some (35, true))⟩, ⟨(some 37), (.q (.bin .eql (.tmp 36) (.const (.int .i64 0)))), (some (35, true))⟩, ⟨(some 38), (.q (.pick (.tmp 35) (.tmp 37) (.const (.bool false)))), none⟩, ⟨(some 39), (.q (.move (.tmp 38))), none⟩, ⟨(some 40), (.q (.move (.tmp 4))), (some (39, true))⟩, ⟨(some 41), (.q (.bin .eql (.tmp 40) (.const (.str (B [255, 3, 255]))))), (some (39, true))⟩, ⟨(some 42), (.q (.pick (.tmp 39) (.tmp 41) (.const (.bool false)))), none⟩, ⟨(some 43), (.q (.move (.tmp 42))), none⟩, ⟨(some 44), (.q (.move (.tmp 5))), (some (43, true))⟩, ⟨(some 45), (.q (.bin .eql (.tmp 44) (.const (.int .i64 0)))), (some (43, true))⟩, ⟨(some 46), (.q (.pick (.tmp 43) (.tmp 45) (.const (.bool false)))), none⟩, ⟨(some 47), (.q (.move (.tmp 46))), none⟩, ⟨(some 48), (.q (.move (.tmp 6))), (some (47, true))⟩, ⟨(some 49), (.q (.bin .eql (.tmp 48) (.const (.int .i64 4)))), (some (47, true))⟩, ⟨(some 50), (.q (.pick (.tmp 47) (.tmp 49) (.const (.bool false)))), none⟩, ⟨(some 51), (.q (.move (.tmp 50))), none⟩, ⟨(some 52), (.q (.move (.tmp 7))), (some (51, true))⟩, ⟨(some 53), (.q (.un .not (.tmp 52))), (some (51, true))⟩, ⟨(some 54), (.q (.pick (.tmp 51) (.tmp 53) (.const (.bool false)))), none⟩, ⟨(some 55), (.q (.move (.tmp 54))), none⟩, ⟨(some 56), (.q (.move (.tmp 8))), (some (55, true))⟩, ⟨(some 57), (.q (.bin .eql (.tmp 56) (.const (.str (B [255, 3]))))), (some (55, true))⟩, ⟨(some 58), (.q (.pick (.tmp 55) (.tmp 57) (.const (.bool false)))), none⟩, ⟨(some 59), (.q (.move (.tmp 58))), none⟩, ⟨(some 60), (.q (.move (.tmp 9))), (some (59, true))⟩, ⟨(some 61), (.q (.bin .eql (.tmp 60) (.const (.int .i64 0)))), (some (59, true))⟩, ⟨(some 62), (.q (.pick (.tmp 59) (.tmp 61) (.const (.bool false)))), none⟩, ⟨(some 63), (.q (.move (.tmp 62))), none⟩, ⟨(some 64), (.q (.move (.tmp 1))), (some (63, true))⟩, ⟨(some 65), (.s (.call 35 [(.tmp 64)])), (some (63, true))⟩, ⟨(some 66), (.q (.bin .eql (.tmp 65) (.const (.int .i64 3)))), (some (63, true))⟩, ⟨(some 67), (.q (.pick (.tmp 63) (.tmp 66) (.const (.bool false)))), none⟩, ⟨(some 0), (.q (.move (.tmp 67))), none⟩]) .ret))))))))))
theorem t25 : Told Try.prog 25 68 c25 [(.tmp 0)] := ⟨Try.f25, _, [], Try.func25, rfl, by kernel_rfl, rfl, by kernel_rfl, by kernel_rfl⟩
def c5 : ACode := 
    (.seq 
    (.region [⟨(some 6), (.q (.move (.const (.bool false)))), none⟩]) 
    (.seq 
    (.seq 
    (.region [⟨(some 12), (.q (.move (.tmp 2))), none⟩, ⟨(some 13), (.q (.len true (.tmp 12))), none⟩, ⟨(some 14), (.q (.bin .gtr (.tmp 13) (.const (.int .i64 200)))), none⟩]) 
    (.cond (.tmp 14) 
    (.seq 
    (.region [⟨(some 15), (.s (.call 25 [])), none⟩, ⟨(some 6), (.q (.move (.tmp 15))), none⟩]) .ret) .skip)) 
    (.seq 
    (.region [⟨(some 16), (.q (.move (.tmp 0))), none⟩, ⟨(some 17), (.q (.conv .i64 (.tmp 16))), none⟩, ⟨(some 18), (.q (.bin .rem (.tmp 17) (.const (.int .i64 47)))), none⟩, ⟨(some 7), (.q (.move (.tmp 18))), none⟩]) 
    (.seq 
    (.region [⟨(some 19), (.q (.move (.tmp 7))), none⟩, ⟨(some 20), (.q (.bin .mul (.tmp 19) (.const (.int .i64 512)))), none⟩, ⟨(some 21), (.q (.move (.tmp 1))), none⟩, ⟨(some 22), (.q (.conv .i64 (.tmp 21))), none⟩, ⟨(some 23), (.q (.bin .rem (.tmp 22) (.const (.int .i64 512)))), none⟩, ⟨(some 24), (.q (.bin .add (.tmp 20) (.tmp 23))), none⟩, ⟨(some 8), (.q (.move (.tmp 24))), none⟩]) 
    (.seq 
    (.region [⟨(some 25), (.s (.call 26 [(.const (.str (B [111, 108, 100])))])), none⟩, ⟨(some 9), (.q (.move (.tmp 25))), none⟩]) 
    (.seq 
    (.region [⟨(some 26), (.q (.move (.tmp 9))), none⟩, ⟨(some 27), (.q (.move (.tmp 8))), none⟩, ⟨(some 28), (.s (.call 27 [(.tmp 26), (.tmp 27), (.const (.str (B [111, 116, 104, 101, 114, 32, 98, 121, 116, 101, 115])))])), none⟩]) 
    (.seq 
    (.seq 
    (.region [⟨(some 29), (.q (.move (.tmp 9))), none⟩, ⟨(some 30), (.q (.move (.tmp 7))), none⟩, ⟨(some 31), (.s (.call 28 [(.tmp 29), (.tmp 30)])), none⟩, ⟨(some 32), (.q (.bin .neq (.tmp 31) (.const (.int .i64 0)))), none⟩, ⟨(some 33), (.q (.move (.tmp 32))), none⟩, ⟨(some 34), (.q (.move (.tmp 9))), (some (33, false))⟩, ⟨(some 35), (.q (.move (.tmp 7))), (some (33, false))⟩, ⟨(some 36), (.q (.bin .add (.tmp 35) (.const (.int .i64 1)))), (some (33, false))⟩, ⟨(some 37), (.s (.call 28 [(.tmp 34), (.tmp 36)])), (some (33, false))⟩, ⟨(some 38), (.q (.bin .neq (.tmp 37) (.const (.int .i64 0)))), (some (33, false))⟩, ⟨(some 39), (.q (.pick (.tmp 33) (.const (.bool true)) (.tmp 38))), none⟩, ⟨(some 40), (.q (.move (.tmp 39))), none⟩, ⟨(some 41), (.q (.move (.tmp 9))), (some (40, false))⟩, ⟨(some 42), (.q (.move (.tmp 8))), (some (40, false))⟩, ⟨(some 43), (.q (.move (.tmp 2))), (some (40, false))⟩, ⟨(some 44), (.s (.call 27 [(.tmp 41), (.tmp 42), (.tmp 43)])), (some (40, false))⟩, ⟨(some 45), (.q (.bin .neq (.tmp 44) (.const (.int .i64 0)))), (some (40, false))⟩, ⟨(some 46), (.q (.pick (.tmp 40) (.const (.bool true)) (.tmp 45))), none⟩]) 
    (.cond (.tmp 46) 
    (.seq 
    (.region [⟨(some 6), (.q (.move (.const (.bool false)))), none⟩]) .ret) .skip)) 
    (.seq 
    (.region [⟨(some 48), (.q (.move (.tmp 9))), none⟩, ⟨(some 49), (.q (.move (.tmp 8))), none⟩, ⟨(some 50), (.q (.move (.tmp 2))), none⟩, ⟨(some 51), (.q (.len true (.tmp 50))), none⟩, ⟨(some 52), (.s (.call 29 [(.tmp 48), (.tmp 49), (.tmp 51)])), none⟩, ⟨(some 47), (.q (.move (.tmp 52))), none⟩, ⟨(some 53), (.q (.extract 0 (.tmp 47))), none⟩, ⟨(some 54), (.q (.extract 1 (.tmp 47))), none⟩, ⟨(some 10), (.q (.move (.tmp 53))), none⟩, ⟨(some 11), (.q (.move (.tmp 54))), none⟩]) 
    (.seq 
    (.region [⟨(some 55), (.q (.move (.tmp 10))), none⟩, ⟨(some 56), (.q (.move (.tmp 2))), none⟩, ⟨(some 57), (.q (.bin .eql (.tmp 55) (.tmp 56))), none⟩, ⟨(some 58), (.q (.move (.tmp 57))), none⟩, ⟨(some 59), (.q (.move (.tmp 11))), (some (58, true))⟩, ⟨(some 60), (.q (.bin .eql (.tmp 59) (.const (.int .i64 0)))), (some (58, true))⟩, ⟨(some 61), (.q (.pick (.tmp 58) (.tmp 60) (.const (.bool false)))), none⟩, ⟨(some 62), (.q (.move (.tmp 61))), none⟩, ⟨(some 63), (.s (.call 25 [])), (some (62, true))⟩, ⟨(some 64), (.q (.pick (.tmp 62) (.tmp 63) (.const (.bool false)))), none⟩, ⟨(some 6), (.q (.move (.tmp 64))), none⟩]) .ret)))))))))
theorem t5 : Told Try.prog 5 65 c5 [(.tmp 6)] := ⟨Try.f5, _, [], Try.func5, rfl, by kernel_rfl, rfl, by kernel_rfl, by kernel_rfl⟩
def c6 : ACode := 
    (.seq 
    (.region [⟨(some 4), (.q (.move (.const (.bool false)))), none⟩]) 
    (.seq 
    (.seq 
    (.region [⟨(some 16), (.q (.move (.tmp 0))), none⟩, ⟨(some 17), (.q (.len true (.tmp 16))), none⟩, ⟨(some 18), (.q (.bin .gtr (.tmp 17) (.const (.int .i64 300)))), none⟩, ⟨(some 19), (.q (.move (.tmp 18))), none⟩, ⟨(some 20), (.q (.move (.tmp 1))), (some (19, false))⟩, ⟨(some 21), (.s (.call 30 [(.tmp 20), (.const (.int .i64 24))])), (some (19, false))⟩, ⟨(some 22), (.q (.un .not (.tmp 21))), (some (19, false))⟩, ⟨(some 23), (.q (.pick (.tmp 19) (.const (.bool true)) (.tmp 22))), none⟩]) 
    (.cond (.tmp 23) 
    (.seq 
    (.region [⟨(some 24), (.s (.call 25 [])), none⟩, ⟨(some 4), (.q (.move (.tmp 24))), none⟩]) .ret) .skip)) 
    (.seq 
    (.region [⟨(some 25), (.q (.move (.tmp 0))), none⟩, ⟨(some 26), (.s (.call 26 [(.tmp 25)])), none⟩, ⟨(some 27), (.q (.move (.tmp 0))), none⟩, ⟨(some 28), (.s (.call 31 [(.tmp 27)])), none⟩, ⟨(some 5), (.q (.move (.tmp 26))), none⟩, ⟨(some 6), (.q (.move (.tmp 28))), none⟩]) 
    (.seq 
    (.region [⟨(some 29), (.q (.build [.nils, (.bool false), (.int .i64 0), (.str (B [])), (.int .i64 0)] [])), none⟩, ⟨(some 30), (.s (.box 57 (.tmp 29))), none⟩, ⟨(some 31), (.s (.lit 45 1 [(.const .nilp), (.tmp 30)])), none⟩, ⟨(some 7), (.q (.move (.tmp 31))), none⟩]) 
    (.seq 
    (.seq 
    (.region [⟨(some 8), (.q (.move (.const (.int .i64 0)))), none⟩]) 
    (.block 0 
    (.loop 
    (.seq 
    (.seq 
    (.region [⟨(some 32), (.q (.move (.tmp 8))), none⟩, ⟨(some 33), (.q (.move (.tmp 1))), none⟩, ⟨(some 34), (.q (.len false (.tmp 33))), none⟩, ⟨(some 35), (.q (.bin .lss (.tmp 32) (.tmp 34))), none⟩]) 
    (.cond (.tmp 35) .skip (.exit 0))) 
    (.seq 
    (.block 1 
    (.seq 
    (.region [⟨(some 39), (.q (.move (.tmp 5))), none⟩, ⟨(some 40), (.q (.move (.tmp 1))), none⟩, ⟨(some 41), (.q (.move (.tmp 8))), none⟩, ⟨(some 42), (.q (.idxSl 4 (.tmp 40) (.tmp 41))), none⟩, ⟨(some 43), (.q (.load true 4 (.tmp 42))), none⟩, ⟨(some 44), (.s (.call 32 [(.tmp 39), (.tmp 43)])), none⟩, ⟨(some 38), (.q (.move (.tmp 44))), none⟩, ⟨(some 45), (.q (.extract 0 (.tmp 38))), none⟩, ⟨(some 46), (.q (.extract 1 (.tmp 38))), none⟩, ⟨(some 9), (.q (.move (.tmp 45))), none⟩, ⟨(some 10), (.q (.move (.tmp 46))), none⟩]) 
    (.seq 
    (.region [⟨(some 48), (.q (.move (.tmp 6))), none⟩, ⟨(some 49), (.q (.move (.tmp 1))), none⟩, ⟨(some 50), (.q (.move (.tmp 8))), none⟩, ⟨(some 51), (.q (.idxSl 4 (.tmp 49) (.tmp 50))), none⟩, ⟨(some 52), (.q (.load true 4 (.tmp 51))), none⟩, ⟨(some 53), (.s (.call 33 [(.tmp 48), (.tmp 52)])), none⟩, ⟨(some 47), (.q (.move (.tmp 53))), none⟩, ⟨(some 54), (.q (.extract 0 (.tmp 47))), none⟩, ⟨(some 55), (.q (.extract 1 (.tmp 47))), none⟩, ⟨(some 11), (.q (.move (.tmp 54))), none⟩, ⟨(some 12), (.q (.move (.tmp 55))), none⟩]) 
    (.seq 
    (.seq 
    (.region [⟨(some 56), (.q (.move (.tmp 9))), none⟩, ⟨(some 57), (.q (.move (.tmp 11))), none⟩, ⟨(some 58), (.q (.bin .neq (.tmp 56) (.tmp 57))), none⟩, ⟨(some 59), (.q (.move (.tmp 58))), none⟩, ⟨(some 60), (.q (.move (.tmp 10))), (some (59, false))⟩, ⟨(some 61), (.q (.move (.tmp 12))), (some (59, false))⟩, ⟨(some 62), (.q (.bin .neq (.tmp 60) (.tmp 61))), (some (59, false))⟩, ⟨(some 63), (.q (.pick (.tmp 59) (.const (.bool true)) (.tmp 62))), none⟩, ⟨(some 64), (.q (.move (.tmp 63))), none⟩, ⟨(some 65), (.q (.move (.tmp 5))), (some (64, false))⟩, ⟨(some 66), (.c (.fn 34) [(.tmp 65)]), (some (64, false))⟩, ⟨(some 67), (.q (.move (.tmp 6))), (some (64, false))⟩, ⟨(some 68), (.q (.nonil (.tmp 67))), (some (64, false))⟩, ⟨(some 69), (.q (.fieldAddr 1 (.tmp 68))), (some (64, false))⟩, ⟨(some 70), (.q (.load false 1 (.tmp 69))), (some (64, false))⟩, ⟨(some 71), (.q (.beq true (.tmp 66) (.tmp 70))), (some (64, false))⟩, ⟨(some 72), (.q (.pick (.tmp 64) (.const (.bool true)) (.tmp 71))), none⟩, ⟨(some 73), (.q (.move (.tmp 72))), none⟩, ⟨(some 74), (.q (.move (.tmp 5))), (some (73, false))⟩, ⟨(some 75), (.c (.fn 35) [(.tmp 74)]), (some (73, false))⟩, ⟨(some 76), (.q (.move (.tmp 6))), (some (73, false))⟩, ⟨(some 77), (.q (.nonil (.tmp 76))), (some (73, false))⟩, ⟨(some 78), (.q (.fieldAddr 4 (.tmp 77))), (some (73, false))⟩, ⟨(some 79), (.q (.load false 1 (.tmp 78))), (some (73, false))⟩, ⟨(some 80), (.q (.bin .neq (.tmp 75) (.tmp 79))), (some (73, false))⟩, ⟨(some 81), (.q (.pick (.tmp 73) (.const (.bool true)) (.tmp 80))), none⟩, ⟨(some 82), (.q (.move (.tmp 81))), none⟩, ⟨(some 83), (.q (.move (.tmp 5))), (some (82, false))⟩, ⟨(some 84), (.c (.fn 36) [(.tmp 83)]), (some (82, false))⟩, ⟨(some 85), (.q (.move (.tmp 6))), (some (82, false))⟩, ⟨(some 86), (.q (.nonil (.tmp 85))), (some (82, false))⟩, ⟨(some 87), (.q (.fieldAddr 0 (.tmp 86))), (some (82, false))⟩, ⟨(some 88), (.q (.load false 1 (.tmp 87))), (some (82, false))⟩, ⟨(some 89), (.q (.bin .neq (.tmp 84) (.tmp 88))), (some (82, false))⟩, ⟨(some 90), (.q (.pick (.tmp 82) (.const (.bool true)) (.tmp 89))), none⟩]) 
    (.cond (.tmp 90) 
    (.seq 
    (.region [⟨(some 4), (.q (.move (.const (.bool false)))), none⟩]) .ret) .skip)) 
    (.seq 
    (.region [⟨(some 13), (.q (.move (.const (.int .i64 0)))), none⟩]) 
    (.block 2 
    (.loop 
    (.seq 
    (.seq 
    (.region [⟨(some 91), (.q (.move (.tmp 13))), none⟩, ⟨(some 92), (.q (.move (.tmp 7))), none⟩, ⟨(some 93), (.q (.len false (.tmp 92))), none⟩, ⟨(some 94), (.q (.bin .lss (.tmp 91) (.tmp 93))), none⟩]) 
    (.cond (.tmp 94) .skip (.exit 2))) 
    (.seq 
    (.block 3 
    (.seq 
    (.region [⟨(some 98), (.q (.move (.tmp 7))), none⟩, ⟨(some 99), (.q (.move (.tmp 13))), none⟩, ⟨(some 100), (.q (.idxSl 1 (.tmp 98) (.tmp 99))), none⟩, ⟨(some 101), (.q (.load false 1 (.tmp 100))), none⟩, ⟨(some 102), (.q (.move (.tmp 1))), none⟩, ⟨(some 103), (.q (.move (.tmp 8))), none⟩, ⟨(some 104), (.q (.idxSl 4 (.tmp 102) (.tmp 103))), none⟩, ⟨(some 105), (.q (.load true 4 (.tmp 104))), none⟩, ⟨(some 106), (.s (.call 32 [(.tmp 101), (.tmp 105)])), none⟩, ⟨(some 97), (.q (.move (.tmp 106))), none⟩, ⟨(some 107), (.q (.extract 0 (.tmp 97))), none⟩, ⟨(some 108), (.q (.extract 1 (.tmp 97))), none⟩, ⟨(some 14), (.q (.move (.tmp 107))), none⟩, ⟨(some 15), (.q (.move (.tmp 108))), none⟩]) 
    (.seq 
    (.region [⟨(some 109), (.q (.move (.tmp 14))), none⟩, ⟨(some 110), (.q (.bin .neq (.tmp 109) (.const (.str (B []))))), none⟩, ⟨(some 111), (.q (.move (.tmp 110))), none⟩, ⟨(some 112), (.q (.move (.tmp 15))), (some (111, false))⟩, ⟨(some 113), (.q (.bin .eql (.tmp 112) (.const (.int .i64 0)))), (some (111, false))⟩, ⟨(some 114), (.q (.move (.tmp 113))), (some (111, false))⟩, ⟨(some 115), (.q (.move (.tmp 1))), (some (114, true))⟩, ⟨(some 116), (.q (.move (.tmp 8))), (some (114, true))⟩, ⟨(some 117), (.q (.idxSl 4 (.tmp 115) (.tmp 116))), (some (114, true))⟩, ⟨(some 118), (.q (.fieldAddr 0 (.tmp 117))), (some (114, true))⟩, ⟨(some 119), (.q (.load false 1 (.tmp 118))), (some (114, true))⟩, ⟨(some 120), (.q (.bin .lss (.tmp 119) (.const (.int .i64 4)))), (some (114, true))⟩, ⟨(some 121), (.q (.move (.tmp 120))), (some (114, true))⟩, ⟨(some 122), (.q (.move (.tmp 1))), (some (121, true))⟩, ⟨(some 123), (.q (.move (.tmp 8))), (some (121, true))⟩, ⟨(some 124), (.q (.idxSl 4 (.tmp 122) (.tmp 123))), (some (121, true))⟩, ⟨(some 125), (.q (.fieldAddr 0 (.tmp 124))), (some (121, true))⟩, ⟨(some 126), (.q (.load false 1 (.tmp 125))), (some (121, true))⟩, ⟨(some 127), (.q (.bin .gtr (.tmp 126) (.const (.int .i64 0)))), (some (121, true))⟩, ⟨(some 128), (.q (.pick (.tmp 121) (.tmp 127) (.const (.bool false)))), (some (114, true))⟩, ⟨(some 129), (.q (.move (.tmp 128))), (some (114, true))⟩, ⟨(some 130), (.q (.move (.tmp 1))), (some (129, false))⟩, ⟨(some 131), (.q (.move (.tmp 8))), (some (129, false))⟩, ⟨(some 132), (.q (.idxSl 4 (.tmp 130) (.tmp 131))), (some (129, false))⟩, ⟨(some 133), (.q (.fieldAddr 0 (.tmp 132))), (some (129, false))⟩, ⟨(some 134), (.q (.load false 1 (.tmp 133))), (some (129, false))⟩, ⟨(some 135), (.q (.bin .eql (.tmp 134) (.const (.int .i64 6)))), (some (129, false))⟩, ⟨(some 136), (.q (.pick (.tmp 129) (.const (.bool true)) (.tmp 135))), (some (114, true))⟩, ⟨(some 137), (.q (.pick (.tmp 114) (.tmp 136) (.const (.bool false)))), (some (111, false))⟩, ⟨(some 138), (.q (.pick (.tmp 111) (.const (.bool true)) (.tmp 137))), none⟩, ⟨(some 139), (.q (.move (.tmp 138))), none⟩, ⟨(some 140), (.q (.move (.tmp 7))), (some (139, false))⟩, ⟨(some 141), (.q (.move (.tmp 13))), (some (139, false))⟩, ⟨(some 142), (.q (.idxSl 1 (.tmp 140) (.tmp 141))), (some (139, false))⟩, ⟨(some 143), (.q (.load false 1 (.tmp 142))), (some (139, false))⟩, ⟨(some 144), (.s (.call 34 [(.tmp 143)])), (some (139, false))⟩, ⟨(some 145), (.q (.pick (.tmp 139) (.const (.bool true)) (.tmp 144))), none⟩, ⟨(some 146), (.q (.move (.tmp 145))), none⟩, ⟨(some 147), (.q (.move (.tmp 7))), (some (146, false))⟩, ⟨(some 148), (.q (.move (.tmp 13))), (some (146, false))⟩, ⟨(some 149), (.q (.idxSl 1 (.tmp 147) (.tmp 148))), (some (146, false))⟩, ⟨(some 150), (.q (.load false 1 (.tmp 149))), (some (146, false))⟩, ⟨(some 151), (.s (.call 36 [(.tmp 150)])), (some (146, false))⟩, ⟨(some 152), (.q (.bin .neq (.tmp 151) (.const (.str (B []))))), (some (146, false))⟩, ⟨(some 153), (.q (.pick (.tmp 146) (.const (.bool true)) (.tmp 152))), none⟩, ⟨(some 154), (.q (.move (.tmp 153))), none⟩, ⟨(some 155), (.q (.move (.tmp 7))), (some (154, false))⟩, ⟨(some 156), (.q (.move (.tmp 13))), (some (154, false))⟩, ⟨(some 157), (.q (.idxSl 1 (.tmp 155) (.tmp 156))), (some (154, false))⟩, ⟨(some 158), (.q (.load false 1 (.tmp 157))), (some (154, false))⟩, ⟨(some 159), (.s (.call 35 [(.tmp 158)])), (some (154, false))⟩, ⟨(some 160), (.q (.bin .neq (.tmp 159) (.const (.int .i64 0)))), (some (154, false))⟩, ⟨(some 161), (.q (.pick (.tmp 154) (.const (.bool true)) (.tmp 160))), none⟩]) 
    (.cond (.tmp 161) 
    (.seq 
    (.region [⟨(some 4), (.q (.move (.const (.bool false)))), none⟩]) .ret) .skip)))) 
    (.region [⟨(some 95), (.q (.move (.tmp 13))), none⟩, ⟨(some 96), (.q (.bin .add (.tmp 95) (.const (.int .i64 1)))), none⟩, ⟨(some 13), (.q (.move (.tmp 96))), none⟩])))))))))) 
    (.region [⟨(some 36), (.q (.move (.tmp 8))), none⟩, ⟨(some 37), (.q (.bin .add (.tmp 36) (.const (.int .i64 1)))), none⟩, ⟨(some 8), (.q (.move (.tmp 37))), none⟩])))))) 
    (.seq 
    (.region [⟨(some 162), (.s (.call 37 [])), none⟩, ⟨(some 163), (.s (.call 36 [(.tmp 162)])), none⟩, ⟨(some 164), (.s (.call 31 [(.const (.str (B [])))])), none⟩, ⟨(some 165), (.q (.nonil (.tmp 164))), none⟩, ⟨(some 166), (.q (.fieldAddr 0 (.tmp 165))), none⟩, ⟨(some 167), (.q (.load false 1 (.tmp 166))), none⟩, ⟨(some 168), (.q (.bin .eql (.tmp 163) (.tmp 167))), none⟩, ⟨(some 169), (.q (.move (.tmp 168))), none⟩, ⟨(some 170), (.s (.call 25 [])), (some (169, true))⟩, ⟨(some 171), (.q (.pick (.tmp 169) (.tmp 170) (.const (.bool false)))), none⟩, ⟨(some 4), (.q (.move (.tmp 171))), none⟩]) .ret))))))
theorem t6 : Told Try.prog 6 172 c6 [(.tmp 4)] := ⟨Try.f6, _, [], Try.func6, rfl, by kernel_rfl, rfl, by kernel_rfl, by kernel_rfl⟩
def c7 : ACode := 
    (.seq 
    (.region [⟨(some 4), (.q (.move (.const (.bool false)))), none⟩]) 
    (.seq 
    (.seq 
    (.region [⟨(some 13), (.q (.move (.tmp 0))), none⟩, ⟨(some 14), (.q (.len true (.tmp 13))), none⟩, ⟨(some 15), (.q (.bin .gtr (.tmp 14) (.const (.int .i64 300)))), none⟩, ⟨(some 16), (.q (.move (.tmp 15))), none⟩, ⟨(some 17), (.q (.move (.tmp 1))), (some (16, false))⟩, ⟨(some 18), (.s (.call 30 [(.tmp 17), (.const (.int .i64 24))])), (some (16, false))⟩, ⟨(some 19), (.q (.un .not (.tmp 18))), (some (16, false))⟩, ⟨(some 20), (.q (.pick (.tmp 16) (.const (.bool true)) (.tmp 19))), none⟩]) 
    (.cond (.tmp 20) 
    (.seq 
    (.region [⟨(some 21), (.s (.call 25 [])), none⟩, ⟨(some 4), (.q (.move (.tmp 21))), none⟩]) .ret) .skip)) 
    (.seq 
    (.region [⟨(some 22), (.q (.move (.tmp 0))), none⟩, ⟨(some 23), (.s (.call 26 [(.tmp 22)])), none⟩, ⟨(some 5), (.q (.move (.tmp 23))), none⟩]) 
    (.seq 
    (.seq 
    (.region [⟨(some 6), (.q (.move (.const (.int .i64 0)))), none⟩]) 
    (.block 0 
    (.loop 
    (.seq 
    (.seq 
    (.region [⟨(some 24), (.q (.move (.tmp 6))), none⟩, ⟨(some 25), (.q (.move (.tmp 1))), none⟩, ⟨(some 26), (.q (.len false (.tmp 25))), none⟩, ⟨(some 27), (.q (.bin .lss (.tmp 24) (.tmp 26))), none⟩]) 
    (.cond (.tmp 27) .skip (.exit 0))) 
    (.seq 
    (.block 1 
    (.seq 
    (.region [⟨(some 30), (.q (.move (.tmp 1))), none⟩, ⟨(some 31), (.q (.move (.tmp 6))), none⟩, ⟨(some 32), (.q (.idxSl 4 (.tmp 30) (.tmp 31))), none⟩, ⟨(some 33), (.q (.load true 4 (.tmp 32))), none⟩, ⟨(some 7), (.s (.alloc 61 [(.int .i64 0), (.int .i64 0), (.int .i64 0), (.str (B []))])), none⟩, ⟨none, (.s (.store 4 (.tmp 7) (.tmp 33))), none⟩]) 
    (.seq 
    (.region [⟨(some 34), (.q (.move (.tmp 5))), none⟩, ⟨(some 35), (.s (.call 36 [(.tmp 34)])), none⟩, ⟨(some 36), (.q (.move (.tmp 5))), none⟩, ⟨(some 37), (.s (.call 34 [(.tmp 36)])), none⟩, ⟨(some 8), (.q (.move (.tmp 35))), none⟩, ⟨(some 9), (.q (.move (.tmp 37))), none⟩]) 
    (.seq 
    (.region [⟨(some 38), (.q (.move (.tmp 5))), none⟩, ⟨(some 39), (.q (.load true 4 (.tmp 7))), none⟩, ⟨(some 40), (.s (.call 32 [(.tmp 38), (.tmp 39)])), none⟩]) 
    (.seq 
    (.region [⟨(some 41), (.q (.move (.tmp 5))), none⟩, ⟨(some 42), (.s (.call 36 [(.tmp 41)])), none⟩, ⟨(some 10), (.q (.move (.tmp 42))), none⟩]) 
    (.seq 
    (.seq 
    (.region [⟨(some 43), (.q (.move (.tmp 8))), none⟩, ⟨(some 44), (.q (.len true (.tmp 43))), none⟩, ⟨(some 45), (.q (.bin .neq (.tmp 44) (.const (.int .i64 24576)))), none⟩, ⟨(some 46), (.q (.move (.tmp 45))), none⟩, ⟨(some 47), (.q (.move (.tmp 10))), (some (46, false))⟩, ⟨(some 48), (.q (.len true (.tmp 47))), (some (46, false))⟩, ⟨(some 49), (.q (.move (.tmp 8))), (some (46, false))⟩, ⟨(some 50), (.q (.len true (.tmp 49))), (some (46, false))⟩, ⟨(some 51), (.q (.bin .neq (.tmp 48) (.tmp 50))), (some (46, false))⟩, ⟨(some 52), (.q (.pick (.tmp 46) (.const (.bool true)) (.tmp 51))), none⟩, ⟨(some 53), (.q (.move (.tmp 52))), none⟩, ⟨(some 54), (.q (.move (.tmp 9))), (some (53, false))⟩, ⟨(some 55), (.q (.un .not (.tmp 54))), (some (53, false))⟩, ⟨(some 56), (.q (.move (.tmp 55))), (some (53, false))⟩, ⟨(some 57), (.q (.fieldAddr 0 (.tmp 7))), (some (56, false))⟩, ⟨(some 58), (.q (.load false 1 (.tmp 57))), (some (56, false))⟩, ⟨(some 59), (.q (.bin .lss (.tmp 58) (.const (.int .i64 1)))), (some (56, false))⟩, ⟨(some 60), (.q (.pick (.tmp 56) (.const (.bool true)) (.tmp 59))), (some (53, false))⟩, ⟨(some 61), (.q (.move (.tmp 60))), (some (53, false))⟩, ⟨(some 62), (.q (.fieldAddr 0 (.tmp 7))), (some (61, false))⟩, ⟨(some 63), (.q (.load false 1 (.tmp 62))), (some (61, false))⟩, ⟨(some 64), (.q (.bin .gtr (.tmp 63) (.const (.int .i64 3)))), (some (61, false))⟩, ⟨(some 65), (.q (.pick (.tmp 61) (.const (.bool true)) (.tmp 64))), (some (53, false))⟩, ⟨(some 66), (.q (.move (.tmp 65))), (some (53, false))⟩, ⟨(some 67), (.q (.move (.tmp 10))), (some (66, true))⟩, ⟨(some 68), (.q (.move (.tmp 8))), (some (66, true))⟩, ⟨(some 69), (.q (.bin .neq (.tmp 67) (.tmp 68))), (some (66, true))⟩, ⟨(some 70), (.q (.pick (.tmp 66) (.tmp 69) (.const (.bool false)))), (some (53, false))⟩, ⟨(some 71), (.q (.pick (.tmp 53) (.const (.bool true)) (.tmp 70))), none⟩]) 
    (.cond (.tmp 71) 
    (.seq 
    (.region [⟨(some 4), (.q (.move (.const (.bool false)))), none⟩]) .ret) .skip)) 
    (.seq 
    (.region [⟨(some 11), (.q (.move (.const (.int .i64 0)))), none⟩]) 
    (.block 2 
    (.loop 
    (.seq 
    (.seq 
    (.region [⟨(some 72), (.q (.move (.tmp 11))), none⟩, ⟨(some 73), (.q (.move (.tmp 8))), none⟩, ⟨(some 74), (.q (.len true (.tmp 73))), none⟩, ⟨(some 75), (.q (.bin .lss (.tmp 72) (.tmp 74))), none⟩, ⟨(some 76), (.q (.move (.tmp 75))), none⟩, ⟨(some 77), (.q (.move (.tmp 11))), (some (76, true))⟩, ⟨(some 78), (.q (.move (.tmp 10))), (some (76, true))⟩, ⟨(some 79), (.q (.len true (.tmp 78))), (some (76, true))⟩, ⟨(some 80), (.q (.bin .lss (.tmp 77) (.tmp 79))), (some (76, true))⟩, ⟨(some 81), (.q (.pick (.tmp 76) (.tmp 80) (.const (.bool false)))), none⟩, ⟨(some 82), (.q (.move (.tmp 81))), none⟩, ⟨(some 83), (.q (.move (.tmp 10))), (some (82, true))⟩, ⟨(some 84), (.q (.move (.tmp 8))), (some (82, true))⟩, ⟨(some 85), (.q (.bin .neq (.tmp 83) (.tmp 84))), (some (82, true))⟩, ⟨(some 86), (.q (.pick (.tmp 82) (.tmp 85) (.const (.bool false)))), none⟩]) 
    (.cond (.tmp 86) .skip (.exit 2))) 
    (.seq 
    (.block 3 
    (.seq 
    (.region [⟨(some 89), (.q (.fieldAddr 0 (.tmp 7))), none⟩, ⟨(some 90), (.q (.load false 1 (.tmp 89))), none⟩, ⟨(some 91), (.q (.bin .eql (.tmp 90) (.const (.int .i64 1)))), none⟩, ⟨(some 92), (.q (.move (.tmp 91))), none⟩, ⟨(some 93), (.q (.move (.tmp 11))), (some (92, true))⟩, ⟨(some 94), (.q (.bin .quo (.tmp 93) (.const (.int .i64 512)))), (some (92, true))⟩, ⟨(some 95), (.q (.fieldAddr 1 (.tmp 7))), (some (92, true))⟩, ⟨(some 96), (.q (.load false 1 (.tmp 95))), (some (92, true))⟩, ⟨(some 97), (.q (.bin .eql (.tmp 94) (.tmp 96))), (some (92, true))⟩, ⟨(some 98), (.q (.pick (.tmp 92) (.tmp 97) (.const (.bool false)))), none⟩, ⟨(some 99), (.q (.move (.tmp 98))), none⟩, ⟨(some 100), (.q (.fieldAddr 0 (.tmp 7))), (some (99, false))⟩, ⟨(some 101), (.q (.load false 1 (.tmp 100))), (some (99, false))⟩, ⟨(some 102), (.q (.bin .neq (.tmp 101) (.const (.int .i64 1)))), (some (99, false))⟩, ⟨(some 103), (.q (.move (.tmp 102))), (some (99, false))⟩, ⟨(some 104), (.q (.move (.tmp 11))), (some (103, true))⟩, ⟨(some 105), (.q (.fieldAddr 1 (.tmp 7))), (some (103, true))⟩, ⟨(some 106), (.q (.load false 1 (.tmp 105))), (some (103, true))⟩, ⟨(some 107), (.q (.bin .geq (.tmp 104) (.tmp 106))), (some (103, true))⟩, ⟨(some 108), (.q (.pick (.tmp 103) (.tmp 107) (.const (.bool false)))), (some (99, false))⟩, ⟨(some 109), (.q (.move (.tmp 108))), (some (99, false))⟩, ⟨(some 110), (.q (.move (.tmp 11))), (some (109, true))⟩, ⟨(some 111), (.q (.fieldAddr 1 (.tmp 7))), (some (109, true))⟩, ⟨(some 112), (.q (.load false 1 (.tmp 111))), (some (109, true))⟩, ⟨(some 113), (.q (.bin .sub (.tmp 110) (.tmp 112))), (some (109, true))⟩, ⟨(some 114), (.q (.fieldAddr 3 (.tmp 7))), (some (109, true))⟩, ⟨(some 115), (.q (.load false 1 (.tmp 114))), (some (109, true))⟩, ⟨(some 116), (.q (.len true (.tmp 115))), (some (109, true))⟩, ⟨(some 117), (.q (.bin .lss (.tmp 113) (.tmp 116))), (some (109, true))⟩, ⟨(some 118), (.q (.pick (.tmp 109) (.tmp 117) (.const (.bool false)))), (some (99, false))⟩, ⟨(some 119), (.q (.pick (.tmp 99) (.const (.bool true)) (.tmp 118))), none⟩, ⟨(some 12), (.q (.move (.tmp 119))), none⟩]) 
    (.seq 
    (.region [⟨(some 120), (.q (.move (.tmp 12))), none⟩, ⟨(some 121), (.q (.un .not (.tmp 120))), none⟩, ⟨(some 122), (.q (.move (.tmp 121))), none⟩, ⟨(some 123), (.q (.move (.tmp 10))), (some (122, true))⟩, ⟨(some 124), (.q (.move (.tmp 11))), (some (122, true))⟩, ⟨(some 125), (.q (.idxStr (.tmp 123) (.tmp 124))), (some (122, true))⟩, ⟨(some 126), (.q (.move (.tmp 8))), (some (122, true))⟩, ⟨(some 127), (.q (.move (.tmp 11))), (some (122, true))⟩, ⟨(some 128), (.q (.idxStr (.tmp 126) (.tmp 127))), (some (122, true))⟩, ⟨(some 129), (.q (.bin .neq (.tmp 125) (.tmp 128))), (some (122, true))⟩, ⟨(some 130), (.q (.pick (.tmp 122) (.tmp 129) (.const (.bool false)))), none⟩, ⟨(some 131), (.q (.move (.tmp 130))), none⟩, ⟨(some 132), (.q (.fieldAddr 0 (.tmp 7))), (some (131, false))⟩, ⟨(some 133), (.q (.load false 1 (.tmp 132))), (some (131, false))⟩, ⟨(some 134), (.q (.bin .eql (.tmp 133) (.const (.int .i64 1)))), (some (131, false))⟩, ⟨(some 135), (.q (.move (.tmp 134))), (some (131, false))⟩, ⟨(some 136), (.q (.move (.tmp 10))), (some (135, true))⟩, ⟨(some 137), (.q (.move (.tmp 11))), (some (135, true))⟩, ⟨(some 138), (.q (.idxStr (.tmp 136) (.tmp 137))), (some (135, true))⟩, ⟨(some 139), (.q (.move (.tmp 8))), (some (135, true))⟩, ⟨(some 140), (.q (.move (.tmp 11))), (some (135, true))⟩, ⟨(some 141), (.q (.idxStr (.tmp 139) (.tmp 140))), (some (135, true))⟩, ⟨(some 142), (.q (.bin .and (.tmp 138) (.tmp 141))), (some (135, true))⟩, ⟨(some 143), (.q (.move (.tmp 8))), (some (135, true))⟩, ⟨(some 144), (.q (.move (.tmp 11))), (some (135, true))⟩, ⟨(some 145), (.q (.idxStr (.tmp 143) (.tmp 144))), (some (135, true))⟩, ⟨(some 146), (.q (.bin .neq (.tmp 142) (.tmp 145))), (some (135, true))⟩, ⟨(some 147), (.q (.pick (.tmp 135) (.tmp 146) (.const (.bool false)))), (some (131, false))⟩, ⟨(some 148), (.q (.pick (.tmp 131) (.const (.bool true)) (.tmp 147))), none⟩, ⟨(some 149), (.q (.move (.tmp 148))), none⟩, ⟨(some 150), (.q (.fieldAddr 0 (.tmp 7))), (some (149, false))⟩, ⟨(some 151), (.q (.load false 1 (.tmp 150))), (some (149, false))⟩, ⟨(some 152), (.q (.bin .neq (.tmp 151) (.const (.int .i64 1)))), (some (149, false))⟩, ⟨(some 153), (.q (.move (.tmp 152))), (some (149, false))⟩, ⟨(some 154), (.q (.move (.tmp 10))), (some (153, true))⟩, ⟨(some 155), (.q (.move (.tmp 11))), (some (153, true))⟩, ⟨(some 156), (.q (.idxStr (.tmp 154) (.tmp 155))), (some (153, true))⟩, ⟨(some 157), (.q (.move (.tmp 8))), (some (153, true))⟩, ⟨(some 158), (.q (.move (.tmp 11))), (some (153, true))⟩, ⟨(some 159), (.q (.idxStr (.tmp 157) (.tmp 158))), (some (153, true))⟩, ⟨(some 160), (.q (.bin .and (.tmp 156) (.tmp 159))), (some (153, true))⟩, ⟨(some 161), (.q (.move (.tmp 10))), (some (153, true))⟩, ⟨(some 162), (.q (.move (.tmp 11))), (some (153, true))⟩, ⟨(some 163), (.q (.idxStr (.tmp 161) (.tmp 162))), (some (153, true))⟩, ⟨(some 164), (.q (.bin .neq (.tmp 160) (.tmp 163))), (some (153, true))⟩, ⟨(some 165), (.q (.pick (.tmp 153) (.tmp 164) (.const (.bool false)))), (some (149, false))⟩, ⟨(some 166), (.q (.pick (.tmp 149) (.const (.bool true)) (.tmp 165))), none⟩]) 
    (.cond (.tmp 166) 
    (.seq 
    (.region [⟨(some 4), (.q (.move (.const (.bool false)))), none⟩]) .ret) .skip)))) 
    (.region [⟨(some 87), (.q (.move (.tmp 11))), none⟩, ⟨(some 88), (.q (.bin .add (.tmp 87) (.const (.int .i64 1)))), none⟩, ⟨(some 11), (.q (.move (.tmp 88))), none⟩])))))))))))) 
    (.region [⟨(some 28), (.q (.move (.tmp 6))), none⟩, ⟨(some 29), (.q (.bin .add (.tmp 28) (.const (.int .i64 1)))), none⟩, ⟨(some 6), (.q (.move (.tmp 29))), none⟩])))))) 
    (.seq 
    (.region [⟨(some 167), (.s (.call 25 [])), none⟩, ⟨(some 4), (.q (.move (.tmp 167))), none⟩]) .ret)))))
theorem t7 : Told Try.prog 7 168 c7 [(.tmp 4)] := ⟨Try.f7, _, [], Try.func7, rfl, by kernel_rfl, rfl, by kernel_rfl, by kernel_rfl⟩
end Go.Proofs.Ytblflecalomgfaa.AL
