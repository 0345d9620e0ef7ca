/- Texts gathered into one. -/
import Derived.Test.YtfilheaaacffmaaQPartPlaysALA3
import Derived.Test.YtfilheaaacffmaaProg
import Derived.KernelRfl
import Derived.Test.YtfilheaaacffmaaQPartPlaysALA4
/- The code of nor and its reference told, as the kernel evaluates it. -/
set_option maxRecDepth 100000
namespace Go.Proofs.Ytfilheaaacffmaa.AL
open Go Go.Proofs
def c165 : ACode := 
    (.seq 
    (.region [⟨(some 4), (.q (.move (.const (.int .u64 0)))), none⟩, ⟨(some 5), (.q (.move (.const (.int .u64 0)))), none⟩]) 
    (.seq 
    (.region [⟨(some 14), (.q (.move (.tmp 0))), none⟩, ⟨(some 15), (.q (.bin .and (.tmp 14) (.const (.int .u64 4294967295)))), none⟩, ⟨(some 6), (.q (.move (.tmp 15))), none⟩]) 
    (.seq 
    (.region [⟨(some 16), (.q (.move (.tmp 0))), none⟩, ⟨(some 17), (.q (.bin .shr (.tmp 16) (.const (.int .u64 32)))), none⟩, ⟨(some 7), (.q (.move (.tmp 17))), none⟩]) 
    (.seq 
    (.region [⟨(some 18), (.q (.move (.tmp 1))), none⟩, ⟨(some 19), (.q (.bin .and (.tmp 18) (.const (.int .u64 4294967295)))), none⟩, ⟨(some 8), (.q (.move (.tmp 19))), none⟩]) 
    (.seq 
    (.region [⟨(some 20), (.q (.move (.tmp 1))), none⟩, ⟨(some 21), (.q (.bin .shr (.tmp 20) (.const (.int .u64 32)))), none⟩, ⟨(some 9), (.q (.move (.tmp 21))), none⟩]) 
    (.seq 
    (.region [⟨(some 22), (.q (.move (.tmp 6))), none⟩, ⟨(some 23), (.q (.move (.tmp 8))), none⟩, ⟨(some 24), (.q (.bin .mul (.tmp 22) (.tmp 23))), none⟩, ⟨(some 10), (.q (.move (.tmp 24))), none⟩]) 
    (.seq 
    (.region [⟨(some 25), (.q (.move (.tmp 7))), none⟩, ⟨(some 26), (.q (.move (.tmp 8))), none⟩, ⟨(some 27), (.q (.bin .mul (.tmp 25) (.tmp 26))), none⟩, ⟨(some 28), (.q (.move (.tmp 10))), none⟩, ⟨(some 29), (.q (.bin .shr (.tmp 28) (.const (.int .u64 32)))), none⟩, ⟨(some 30), (.q (.bin .add (.tmp 27) (.tmp 29))), none⟩, ⟨(some 11), (.q (.move (.tmp 30))), none⟩]) 
    (.seq 
    (.region [⟨(some 31), (.q (.move (.tmp 11))), none⟩, ⟨(some 32), (.q (.bin .and (.tmp 31) (.const (.int .u64 4294967295)))), none⟩, ⟨(some 12), (.q (.move (.tmp 32))), none⟩]) 
    (.seq 
    (.region [⟨(some 33), (.q (.move (.tmp 11))), none⟩, ⟨(some 34), (.q (.bin .shr (.tmp 33) (.const (.int .u64 32)))), none⟩, ⟨(some 13), (.q (.move (.tmp 34))), none⟩]) 
    (.seq 
    (.region [⟨(some 35), (.q (.move (.tmp 12))), none⟩, ⟨(some 36), (.q (.move (.tmp 6))), none⟩, ⟨(some 37), (.q (.move (.tmp 9))), none⟩, ⟨(some 38), (.q (.bin .mul (.tmp 36) (.tmp 37))), none⟩, ⟨(some 39), (.q (.bin .add (.tmp 35) (.tmp 38))), none⟩, ⟨(some 12), (.q (.move (.tmp 39))), none⟩]) 
    (.seq 
    (.region [⟨(some 40), (.q (.move (.tmp 7))), none⟩, ⟨(some 41), (.q (.move (.tmp 9))), none⟩, ⟨(some 42), (.q (.bin .mul (.tmp 40) (.tmp 41))), none⟩, ⟨(some 43), (.q (.move (.tmp 13))), none⟩, ⟨(some 44), (.q (.bin .add (.tmp 42) (.tmp 43))), none⟩, ⟨(some 45), (.q (.move (.tmp 12))), none⟩, ⟨(some 46), (.q (.bin .shr (.tmp 45) (.const (.int .u64 32)))), none⟩, ⟨(some 47), (.q (.bin .add (.tmp 44) (.tmp 46))), none⟩, ⟨(some 4), (.q (.move (.tmp 47))), none⟩]) 
    (.seq 
    (.region [⟨(some 48), (.q (.move (.tmp 0))), none⟩, ⟨(some 49), (.q (.move (.tmp 1))), none⟩, ⟨(some 50), (.q (.bin .mul (.tmp 48) (.tmp 49))), none⟩, ⟨(some 5), (.q (.move (.tmp 50))), none⟩]) .ret))))))))))))
theorem t165 : Told Try.prog 165 51 c165 [(.tmp 4), (.tmp 5)] := ⟨Try.f165, _, [], Try.func165, rfl, by kernel_rfl, rfl, by kernel_rfl, by kernel_rfl⟩
def c129 : ACode := 
    (.seq 
    (.region [⟨(some 4), (.q (.move (.const (.int .u64 0)))), none⟩, ⟨(some 5), (.q (.move (.const (.int .u64 0)))), none⟩]) 
    (.seq 
    (.cond (.const (.bool false)) 
    (.seq 
    (.region [⟨(some 11), (.q (.move (.tmp 0))), none⟩, ⟨(some 12), (.q (.conv .u32 (.tmp 11))), none⟩, ⟨(some 13), (.q (.move (.tmp 1))), none⟩, ⟨(some 14), (.q (.conv .u32 (.tmp 13))), none⟩, ⟨(some 15), (.s (.call 164 [(.tmp 12), (.tmp 14)])), none⟩, ⟨(some 10), (.q (.move (.tmp 15))), none⟩, ⟨(some 16), (.q (.extract 0 (.tmp 10))), none⟩, ⟨(some 17), (.q (.extract 1 (.tmp 10))), none⟩, ⟨(some 6), (.q (.move (.tmp 16))), none⟩, ⟨(some 7), (.q (.move (.tmp 17))), none⟩]) 
    (.seq 
    (.region [⟨(some 18), (.q (.move (.tmp 6))), none⟩, ⟨(some 19), (.q (.conv .u64 (.tmp 18))), none⟩, ⟨(some 20), (.q (.move (.tmp 7))), none⟩, ⟨(some 21), (.q (.conv .u64 (.tmp 20))), none⟩, ⟨(some 4), (.q (.move (.tmp 19))), none⟩, ⟨(some 5), (.q (.move (.tmp 21))), none⟩]) .ret)) .skip) 
    (.seq 
    (.region [⟨(some 23), (.q (.move (.tmp 0))), none⟩, ⟨(some 24), (.q (.move (.tmp 1))), none⟩, ⟨(some 25), (.s (.call 165 [(.tmp 23), (.tmp 24)])), none⟩, ⟨(some 22), (.q (.move (.tmp 25))), none⟩, ⟨(some 26), (.q (.extract 0 (.tmp 22))), none⟩, ⟨(some 27), (.q (.extract 1 (.tmp 22))), none⟩, ⟨(some 8), (.q (.move (.tmp 26))), none⟩, ⟨(some 9), (.q (.move (.tmp 27))), none⟩]) 
    (.seq 
    (.region [⟨(some 28), (.q (.move (.tmp 8))), none⟩, ⟨(some 29), (.q (.move (.tmp 9))), none⟩, ⟨(some 4), (.q (.move (.tmp 28))), none⟩, ⟨(some 5), (.q (.move (.tmp 29))), none⟩]) .ret))))
theorem t129 : Told Try.prog 129 30 c129 [(.tmp 4), (.tmp 5)] := ⟨Try.f129, _, [], Try.func129, rfl, by kernel_rfl, rfl, by kernel_rfl, by kernel_rfl⟩
def c66 : ACode := 
    (.seq 
    (.region [⟨(some 4), (.q (.move (.const .nils))), none⟩]) 
    (.seq 
    (.seq 
    (.region [⟨(some 12), (.q (.move (.tmp 1))), none⟩, ⟨(some 13), (.q (.bin .eql (.tmp 12) (.const (.int .i64 0)))), none⟩]) 
    (.cond (.tmp 13) 
    (.seq 
    (.region [⟨(some 14), (.s (.lit 5 1 [])), none⟩, ⟨(some 4), (.q (.move (.tmp 14))), none⟩]) .ret) .skip)) 
    (.seq 
    (.seq 
    (.region [⟨(some 15), (.q (.move (.tmp 1))), none⟩, ⟨(some 16), (.q (.bin .lss (.tmp 15) (.const (.int .i64 0)))), none⟩]) 
    (.cond (.tmp 16) 
    (.region [⟨(some 17), (.q (.iface 9 (.const (.str (B [98, 121, 116, 101, 115, 58, 32, 110, 101, 103, 97, 116, 105, 118, 101, 32, 82, 101, 112, 101, 97, 116, 32, 99, 111, 117, 110, 116]))))), none⟩, ⟨none, (.s .stop), none⟩]) .skip)) 
    (.seq 
    (.region [⟨(some 19), (.q (.move (.tmp 0))), none⟩, ⟨(some 20), (.q (.len false (.tmp 19))), none⟩, ⟨(some 21), (.q (.conv .u64 (.tmp 20))), none⟩, ⟨(some 22), (.q (.move (.tmp 1))), none⟩, ⟨(some 23), (.q (.conv .u64 (.tmp 22))), none⟩, ⟨(some 24), (.s (.call 129 [(.tmp 21), (.tmp 23)])), none⟩, ⟨(some 18), (.q (.move (.tmp 24))), none⟩, ⟨(some 25), (.q (.extract 0 (.tmp 18))), none⟩, ⟨(some 26), (.q (.extract 1 (.tmp 18))), none⟩, ⟨(some 5), (.q (.move (.tmp 25))), none⟩, ⟨(some 6), (.q (.move (.tmp 26))), none⟩]) 
    (.seq 
    (.seq 
    (.region [⟨(some 27), (.q (.move (.tmp 5))), none⟩, ⟨(some 28), (.q (.bin .gtr (.tmp 27) (.const (.int .u64 0)))), none⟩, ⟨(some 29), (.q (.move (.tmp 28))), none⟩, ⟨(some 30), (.q (.move (.tmp 6))), (some (29, false))⟩, ⟨(some 31), (.q (.bin .gtr (.tmp 30) (.const (.int .u64 9223372036854775807)))), (some (29, false))⟩, ⟨(some 32), (.q (.pick (.tmp 29) (.const (.bool true)) (.tmp 31))), none⟩]) 
    (.cond (.tmp 32) 
    (.region [⟨(some 33), (.q (.iface 9 (.const (.str (B [98, 121, 116, 101, 115, 58, 32, 82, 101, 112, 101, 97, 116, 32, 111, 117, 116, 112, 117, 116, 32, 108, 101, 110, 103, 116, 104, 32, 111, 118, 101, 114, 102, 108, 111, 119]))))), none⟩, ⟨none, (.s .stop), none⟩]) .skip)) 
    (.seq 
    (.region [⟨(some 34), (.q (.move (.tmp 6))), none⟩, ⟨(some 35), (.q (.conv .i64 (.tmp 34))), none⟩, ⟨(some 7), (.q (.move (.tmp 35))), none⟩]) 
    (.seq 
    (.seq 
    (.region [⟨(some 36), (.q (.move (.tmp 0))), none⟩, ⟨(some 37), (.q (.len false (.tmp 36))), none⟩, ⟨(some 38), (.q (.bin .eql (.tmp 37) (.const (.int .i64 0)))), none⟩]) 
    (.cond (.tmp 38) 
    (.seq 
    (.region [⟨(some 39), (.s (.lit 5 1 [])), none⟩, ⟨(some 4), (.q (.move (.tmp 39))), none⟩]) .ret) .skip)) 
    (.seq 
    (.region [⟨(some 40), (.q (.move (.tmp 7))), none⟩, ⟨(some 8), (.q (.move (.tmp 40))), none⟩]) 
    (.seq 
    (.seq 
    (.region [⟨(some 41), (.q (.move (.tmp 8))), none⟩, ⟨(some 42), (.q (.bin .gtr (.tmp 41) (.const (.int .i64 8192)))), none⟩]) 
    (.cond (.tmp 42) 
    (.seq 
    (.region [⟨(some 43), (.q (.move (.tmp 0))), none⟩, ⟨(some 44), (.q (.len false (.tmp 43))), none⟩, ⟨(some 45), (.q (.bin .quo (.const (.int .i64 8192)) (.tmp 44))), none⟩, ⟨(some 46), (.q (.move (.tmp 0))), none⟩, ⟨(some 47), (.q (.len false (.tmp 46))), none⟩, ⟨(some 48), (.q (.bin .mul (.tmp 45) (.tmp 47))), none⟩, ⟨(some 8), (.q (.move (.tmp 48))), none⟩]) 
    (.seq 
    (.region [⟨(some 49), (.q (.move (.tmp 8))), none⟩, ⟨(some 50), (.q (.bin .eql (.tmp 49) (.const (.int .i64 0)))), none⟩]) 
    (.cond (.tmp 50) 
    (.region [⟨(some 51), (.q (.move (.tmp 0))), none⟩, ⟨(some 52), (.q (.len false (.tmp 51))), none⟩, ⟨(some 8), (.q (.move (.tmp 52))), none⟩]) .skip))) .skip)) 
    (.seq 
    (.region [⟨(some 53), (.q (.move (.tmp 7))), none⟩, ⟨(some 54), (.s (.call 130 [(.tmp 53)])), none⟩, ⟨(some 55), (.q (.move (.tmp 7))), none⟩, ⟨(some 56), (.q (.move (.tmp 7))), none⟩, ⟨(some 57), (.s (.slice3 1 (.tmp 54) (.tmp 55) (.tmp 56))), none⟩, ⟨(some 9), (.q (.move (.tmp 57))), none⟩]) 
    (.seq 
    (.region [⟨(some 58), (.q (.move (.tmp 9))), none⟩, ⟨(some 59), (.q (.move (.tmp 0))), none⟩, ⟨(some 60), (.s (.copy 1 (.tmp 58) (.tmp 59))), none⟩, ⟨(some 10), (.q (.move (.tmp 60))), none⟩]) 
    (.seq 
    (.block 0 
    (.loop 
    (.seq 
    (.seq 
    (.region [⟨(some 61), (.q (.move (.tmp 10))), none⟩, ⟨(some 62), (.q (.move (.tmp 7))), none⟩, ⟨(some 63), (.q (.bin .lss (.tmp 61) (.tmp 62))), none⟩]) 
    (.cond (.tmp 63) .skip (.exit 0))) 
    (.block 1 
    (.seq 
    (.region [⟨(some 64), (.q (.move (.tmp 10))), none⟩, ⟨(some 65), (.q (.move (.tmp 8))), none⟩, ⟨(some 66), (.q (.best false (.tmp 64) (.tmp 65))), none⟩, ⟨(some 11), (.q (.move (.tmp 66))), none⟩]) 
    (.region [⟨(some 67), (.q (.move (.tmp 10))), none⟩, ⟨(some 68), (.q (.move (.tmp 9))), none⟩, ⟨(some 69), (.q (.move (.tmp 10))), none⟩, ⟨(some 70), (.q (.sliceSl 1 (.tmp 68) (some (.tmp 69)) none)), none⟩, ⟨(some 71), (.q (.move (.tmp 9))), none⟩, ⟨(some 72), (.q (.move (.tmp 11))), none⟩, ⟨(some 73), (.q (.sliceSl 1 (.tmp 71) none (some (.tmp 72)))), none⟩, ⟨(some 74), (.s (.copy 1 (.tmp 70) (.tmp 73))), none⟩, ⟨(some 75), (.q (.bin .add (.tmp 67) (.tmp 74))), none⟩, ⟨(some 10), (.q (.move (.tmp 75))), none⟩])))))) 
    (.seq 
    (.region [⟨(some 76), (.q (.move (.tmp 9))), none⟩, ⟨(some 4), (.q (.move (.tmp 76))), none⟩]) .ret)))))))))))))
theorem t66 : Told Try.prog 66 77 c66 [(.tmp 4)] := ⟨Try.f66, _, [], Try.func66, rfl, by kernel_rfl, rfl, by kernel_rfl, by kernel_rfl⟩
def c15 : ACode := 
    (.seq 
    (.region [⟨(some 2), (.q (.move (.const .nilp))), none⟩]) 
    (.seq 
    (.region [⟨(some 4), (.s (.lit 5 1 [(.const (.int .u8 255))])), none⟩, ⟨(some 5), (.s (.call 66 [(.tmp 4), (.const (.int .i64 24576))])), none⟩, ⟨(some 3), (.q (.move (.tmp 5))), none⟩]) 
    (.seq 
    (.region [⟨(some 6), (.q (.move (.tmp 3))), none⟩, ⟨(some 7), (.q (.move (.tmp 0))), none⟩, ⟨(some 8), (.s (.copy 1 (.tmp 6) (.tmp 7))), none⟩]) 
    (.seq 
    (.region [⟨(some 9), (.q (.move (.tmp 3))), none⟩, ⟨(some 10), (.q (.build [.nils, (.bool false), (.int .i64 0), (.str (B [])), (.int .i64 0)] [(0, (1, (.tmp 9))), (1, (1, (.const (.bool true)))), (2, (1, (.const (.int .i64 (-1)))))])), none⟩, ⟨(some 11), (.s (.box 110 (.tmp 10))), none⟩, ⟨(some 2), (.q (.move (.tmp 11))), none⟩]) .ret))))
theorem t15 : Told Try.prog 15 12 c15 [(.tmp 2)] := ⟨Try.f15, _, [], Try.func15, rfl, by kernel_rfl, rfl, by kernel_rfl, by kernel_rfl⟩
def c29 : ACode := 
    (.seq 
    (.region [⟨(some 0), (.q (.move (.const .nilp))), none⟩]) 
    (.seq 
    (.region [⟨(some 1), (.s (.call 15 [(.const (.str (B [])))])), none⟩, ⟨(some 0), (.q (.move (.tmp 1))), none⟩]) .ret))
theorem t29 : Told Try.prog 29 2 c29 [(.tmp 0)] := ⟨Try.f29, _, [], Try.func29, rfl, by kernel_rfl, rfl, by kernel_rfl, by kernel_rfl⟩
def c76 : ACode := 
    (.seq 
    (.region [⟨(some 2), (.q (.move (.const (.bool false)))), none⟩]) 
    (.seq 
    (.region [⟨(some 3), (.q (.move (.tmp 0))), none⟩, ⟨(some 4), (.q (.nil .ptr true (.tmp 3) (.const .nilp))), none⟩, ⟨(some 5), (.q (.move (.tmp 4))), none⟩, ⟨(some 6), (.q (.move (.tmp 0))), (some (5, true))⟩, ⟨(some 7), (.q (.nonil (.tmp 6))), (some (5, true))⟩, ⟨(some 8), (.q (.fieldAddr 1 (.tmp 7))), (some (5, true))⟩, ⟨(some 9), (.q (.load false 1 (.tmp 8))), (some (5, true))⟩, ⟨(some 10), (.q (.pick (.tmp 5) (.tmp 9) (.const (.bool false)))), none⟩, ⟨(some 2), (.q (.move (.tmp 10))), none⟩]) .ret))
theorem t76 : Told Try.prog 76 11 c76 [(.tmp 2)] := ⟨Try.f76, _, [], Try.func76, rfl, by kernel_rfl, rfl, by kernel_rfl, by kernel_rfl⟩
def c20 : ACode := 
    (.seq 
    (.region [⟨(some 2), (.q (.move (.const (.str (B []))))), none⟩]) 
    (.seq 
    (.seq 
    (.region [⟨(some 3), (.q (.move (.tmp 0))), none⟩, ⟨(some 4), (.q (.nil .ptr false (.tmp 3) (.const .nilp))), none⟩]) 
    (.cond (.tmp 4) 
    (.seq 
    (.region [⟨(some 2), (.q (.move (.const (.str (B []))))), none⟩]) .ret) .skip)) 
    (.seq 
    (.region [⟨(some 5), (.q (.move (.tmp 0))), none⟩, ⟨(some 6), (.q (.nonil (.tmp 5))), none⟩, ⟨(some 7), (.q (.fieldAddr 0 (.tmp 6))), none⟩, ⟨(some 8), (.q (.load false 1 (.tmp 7))), none⟩, ⟨(some 9), (.q (.b2s (.tmp 8))), none⟩, ⟨(some 2), (.q (.move (.tmp 9))), none⟩]) .ret)))
theorem t20 : Told Try.prog 20 10 c20 [(.tmp 2)] := ⟨Try.f20, _, [], Try.func20, rfl, by kernel_rfl, rfl, by kernel_rfl, by kernel_rfl⟩
def c161 : ACode := 
    (.seq 
    (.region [⟨(some 6), (.q (.move (.const (.bool false)))), none⟩]) 
    (.seq 
    (.region [⟨(some 7), (.q (.move (.tmp 1))), none⟩, ⟨(some 8), (.q (.bin .geq (.tmp 7) (.const (.int .i64 0)))), none⟩, ⟨(some 9), (.q (.move (.tmp 8))), none⟩, ⟨(some 10), (.q (.move (.tmp 2))), (some (9, true))⟩, ⟨(some 11), (.q (.bin .geq (.tmp 10) (.const (.int .i64 0)))), (some (9, true))⟩, ⟨(some 12), (.q (.pick (.tmp 9) (.tmp 11) (.const (.bool false)))), none⟩, ⟨(some 13), (.q (.move (.tmp 12))), none⟩, ⟨(some 14), (.q (.move (.tmp 1))), (some (13, true))⟩, ⟨(some 15), (.q (.move (.tmp 0))), (some (13, true))⟩, ⟨(some 16), (.q (.nonil (.tmp 15))), (some (13, true))⟩, ⟨(some 17), (.q (.fieldAddr 0 (.tmp 16))), (some (13, true))⟩, ⟨(some 18), (.q (.load false 1 (.tmp 17))), (some (13, true))⟩, ⟨(some 19), (.q (.len false (.tmp 18))), (some (13, true))⟩, ⟨(some 20), (.q (.bin .leq (.tmp 14) (.tmp 19))), (some (13, true))⟩, ⟨(some 21), (.q (.pick (.tmp 13) (.tmp 20) (.const (.bool false)))), none⟩, ⟨(some 22), (.q (.move (.tmp 21))), none⟩, ⟨(some 23), (.q (.move (.tmp 2))), (some (22, true))⟩, ⟨(some 24), (.q (.move (.tmp 0))), (some (22, true))⟩, ⟨(some 25), (.q (.nonil (.tmp 24))), (some (22, true))⟩, ⟨(some 26), (.q (.fieldAddr 0 (.tmp 25))), (some (22, true))⟩, ⟨(some 27), (.q (.load false 1 (.tmp 26))), (some (22, true))⟩, ⟨(some 28), (.q (.len false (.tmp 27))), (some (22, true))⟩, ⟨(some 29), (.q (.move (.tmp 1))), (some (22, true))⟩, ⟨(some 30), (.q (.bin .sub (.tmp 28) (.tmp 29))), (some (22, true))⟩, ⟨(some 31), (.q (.bin .leq (.tmp 23) (.tmp 30))), (some (22, true))⟩, ⟨(some 32), (.q (.pick (.tmp 22) (.tmp 31) (.const (.bool false)))), none⟩, ⟨(some 6), (.q (.move (.tmp 32))), none⟩]) .ret))
theorem t161 : Told Try.prog 161 33 c161 [(.tmp 6)] := ⟨Try.f161, _, [], Try.func161, rfl, by kernel_rfl, rfl, by kernel_rfl, by kernel_rfl⟩
def c128 : ACode := 
    (.seq 
    (.region [⟨(some 6), (.q (.move (.const (.str (B []))))), none⟩, ⟨(some 7), (.q (.move (.const (.int .i64 0)))), none⟩]) 
    (.seq 
    (.block 0 
    (.seq 
    (.region [⟨(some 9), (.q (.move (.tmp 0))), none⟩, ⟨(some 10), (.s (.call 76 [(.tmp 9)])), none⟩, ⟨(some 11), (.q (.un .not (.tmp 10))), none⟩, ⟨(some 8), (.q (.move (.tmp 11))), none⟩]) 
    (.cond (.tmp 8) 
    (.seq 
    (.region [⟨(some 6), (.q (.move (.const (.str (B []))))), none⟩, ⟨(some 7), (.q (.move (.const (.int .i64 4)))), none⟩]) .ret) 
    (.seq 
    (.region [⟨(some 13), (.q (.move (.tmp 0))), none⟩, ⟨(some 14), (.q (.move (.tmp 1))), none⟩, ⟨(some 15), (.q (.move (.tmp 2))), none⟩, ⟨(some 16), (.s (.call 161 [(.tmp 13), (.tmp 14), (.tmp 15)])), none⟩, ⟨(some 17), (.q (.un .not (.tmp 16))), none⟩, ⟨(some 12), (.q (.move (.tmp 17))), none⟩]) 
    (.cond (.tmp 12) 
    (.seq 
    (.region [⟨(some 6), (.q (.move (.const (.str (B []))))), none⟩, ⟨(some 7), (.q (.move (.const (.int .i64 2)))), none⟩]) .ret) .skip))))) 
    (.seq 
    (.region [⟨(some 18), (.q (.move (.tmp 0))), none⟩, ⟨(some 19), (.q (.nonil (.tmp 18))), none⟩, ⟨(some 20), (.q (.fieldAddr 0 (.tmp 19))), none⟩, ⟨(some 21), (.q (.load false 1 (.tmp 20))), none⟩, ⟨(some 22), (.q (.move (.tmp 1))), none⟩, ⟨(some 23), (.q (.move (.tmp 1))), none⟩, ⟨(some 24), (.q (.move (.tmp 2))), none⟩, ⟨(some 25), (.q (.bin .add (.tmp 23) (.tmp 24))), none⟩, ⟨(some 26), (.q (.sliceSl 1 (.tmp 21) (some (.tmp 22)) (some (.tmp 25)))), none⟩, ⟨(some 27), (.q (.b2s (.tmp 26))), none⟩, ⟨(some 6), (.q (.move (.tmp 27))), none⟩, ⟨(some 7), (.q (.move (.const (.int .i64 0)))), none⟩]) .ret)))
theorem t128 : Told Try.prog 128 28 c128 [(.tmp 6), (.tmp 7)] := ⟨Try.f128, _, [], Try.func128, rfl, by kernel_rfl, rfl, by kernel_rfl, by kernel_rfl⟩
def c180 : ACode := 
    (.seq 
    (.region [⟨(some 2), (.q (.move (.const (.bool false)))), none⟩]) 
    (.seq 
    (.region [⟨(some 3), (.q (.move (.tmp 0))), none⟩, ⟨(some 4), (.q (.nonil (.tmp 3))), none⟩, ⟨(some 5), (.q (.fieldAddr 4 (.tmp 4))), none⟩, ⟨(some 6), (.q (.load false 1 (.tmp 5))), none⟩, ⟨(some 7), (.q (.bin .add (.tmp 6) (.const (.int .i64 1)))), none⟩, ⟨(some 8), (.q (.nonil (.tmp 3))), none⟩, ⟨(some 9), (.q (.fieldAddr 4 (.tmp 8))), none⟩, ⟨none, (.s (.store 1 (.tmp 9) (.tmp 7))), none⟩]) 
    (.seq 
    (.seq 
    (.region [⟨(some 10), (.q (.move (.tmp 0))), none⟩, ⟨(some 11), (.q (.nonil (.tmp 10))), none⟩, ⟨(some 12), (.q (.fieldAddr 2 (.tmp 11))), none⟩, ⟨(some 13), (.q (.load false 1 (.tmp 12))), none⟩, ⟨(some 14), (.q (.bin .eql (.tmp 13) (.const (.int .i64 (-1))))), none⟩]) 
    (.cond (.tmp 14) 
    (.seq 
    (.region [⟨(some 2), (.q (.move (.const (.bool false)))), none⟩]) .ret) .skip)) 
    (.seq 
    (.region [⟨(some 15), (.q (.move (.tmp 0))), none⟩, ⟨(some 16), (.q (.nonil (.tmp 15))), none⟩, ⟨(some 17), (.q (.fieldAddr 2 (.tmp 16))), none⟩, ⟨(some 18), (.q (.load false 1 (.tmp 17))), none⟩, ⟨(some 19), (.q (.bin .sub (.tmp 18) (.const (.int .i64 1)))), none⟩, ⟨(some 20), (.q (.nonil (.tmp 15))), none⟩, ⟨(some 21), (.q (.fieldAddr 2 (.tmp 20))), none⟩, ⟨none, (.s (.store 1 (.tmp 21) (.tmp 19))), none⟩]) 
    (.seq 
    (.region [⟨(some 22), (.q (.move (.tmp 0))), none⟩, ⟨(some 23), (.q (.move (.tmp 0))), none⟩, ⟨(some 24), (.q (.nonil (.tmp 23))), none⟩, ⟨(some 25), (.q (.fieldAddr 2 (.tmp 24))), none⟩, ⟨(some 26), (.q (.load false 1 (.tmp 25))), none⟩, ⟨(some 27), (.q (.bin .neq (.tmp 26) (.const (.int .i64 (-1))))), none⟩, ⟨(some 28), (.q (.nonil (.tmp 22))), none⟩, ⟨(some 29), (.q (.fieldAddr 1 (.tmp 28))), none⟩, ⟨none, (.s (.store 1 (.tmp 29) (.tmp 27))), none⟩]) 
    (.seq 
    (.region [⟨(some 30), (.q (.move (.tmp 0))), none⟩, ⟨(some 31), (.q (.nonil (.tmp 30))), none⟩, ⟨(some 32), (.q (.fieldAddr 1 (.tmp 31))), none⟩, ⟨(some 33), (.q (.load false 1 (.tmp 32))), none⟩, ⟨(some 34), (.q (.un .not (.tmp 33))), none⟩, ⟨(some 2), (.q (.move (.tmp 34))), none⟩]) .ret))))))
theorem t180 : Told Try.prog 180 35 c180 [(.tmp 2)] := ⟨Try.f180, _, [], Try.func180, rfl, by kernel_rfl, rfl, by kernel_rfl, by kernel_rfl⟩
def c160 : ACode := 
    (.seq 
    (.region [⟨(some 10), (.q (.move (.const (.int .i64 0)))), none⟩]) 
    (.seq 
    (.seq 
    (.region [⟨(some 15), (.q (.move (.tmp 0))), none⟩, ⟨(some 16), (.s (.call 180 [(.tmp 15)])), none⟩, ⟨(some 17), (.q (.un .not (.tmp 16))), none⟩]) 
    (.cond (.tmp 17) 
    (.seq 
    (.seq 
    (.region [⟨(some 18), (.q (.move (.tmp 0))), none⟩, ⟨(some 19), (.q (.nonil (.tmp 18))), none⟩, ⟨(some 20), (.q (.fieldAddr 0 (.tmp 19))), none⟩, ⟨(some 21), (.q (.load false 1 (.tmp 20))), none⟩, ⟨(some 22), (.q (.move (.tmp 1))), none⟩, ⟨(some 23), (.q (.move (.tmp 1))), none⟩, ⟨(some 24), (.q (.move (.tmp 2))), none⟩, ⟨(some 25), (.q (.bin .add (.tmp 23) (.tmp 24))), none⟩, ⟨(some 26), (.q (.sliceSl 1 (.tmp 21) (some (.tmp 22)) (some (.tmp 25)))), none⟩, ⟨(some 27), (.q (.len false (.tmp 26))), none⟩, ⟨(some 28), (.q (.move (.const (.int .i64 0)))), none⟩]) 
    (.block 0 
    (.loop 
    (.seq 
    (.region [⟨(some 29), (.q (.bin .lss (.tmp 28) (.tmp 27))), none⟩]) 
    (.seq 
    (.cond (.tmp 29) .skip (.exit 0)) 
    (.seq 
    (.block 1 
    (.seq 
    (.region [⟨(some 30), (.q (.move (.tmp 28))), none⟩, ⟨(some 31), (.q (.idxSl 1 (.tmp 26) (.tmp 28))), none⟩, ⟨(some 32), (.q (.load false 1 (.tmp 31))), none⟩, ⟨(some 11), (.q (.move (.tmp 30))), none⟩, ⟨(some 12), (.q (.move (.tmp 32))), none⟩]) 
    (.region [⟨(some 33), (.q (.move (.tmp 0))), none⟩, ⟨(some 34), (.q (.nonil (.tmp 33))), none⟩, ⟨(some 35), (.q (.fieldAddr 0 (.tmp 34))), none⟩, ⟨(some 36), (.q (.load false 1 (.tmp 35))), none⟩, ⟨(some 37), (.q (.move (.tmp 1))), none⟩, ⟨(some 38), (.q (.move (.tmp 11))), none⟩, ⟨(some 39), (.q (.bin .add (.tmp 37) (.tmp 38))), none⟩, ⟨(some 40), (.q (.move (.tmp 3))), none⟩, ⟨(some 41), (.q (.move (.tmp 11))), none⟩, ⟨(some 42), (.q (.move (.tmp 12))), none⟩, ⟨(some 43), (.c (.val (.tmp 40)) [(.tmp 41), (.tmp 42)]), none⟩, ⟨(some 44), (.q (.idxSl 1 (.tmp 36) (.tmp 39))), none⟩, ⟨none, (.s (.store 1 (.tmp 44) (.tmp 43))), none⟩]))) 
    (.region [⟨(some 45), (.q (.bin .add (.tmp 28) (.const (.int .i64 1)))), none⟩, ⟨(some 28), (.q (.move (.tmp 45))), none⟩]))))))) 
    (.seq 
    (.region [⟨(some 10), (.q (.move (.const (.int .i64 0)))), none⟩]) .ret)) .skip)) 
    (.seq 
    (.seq 
    (.region [⟨(some 46), (.q (.move (.tmp 0))), none⟩, ⟨(some 47), (.q (.nonil (.tmp 46))), none⟩, ⟨(some 48), (.q (.fieldAddr 3 (.tmp 47))), none⟩, ⟨(some 49), (.q (.load false 1 (.tmp 48))), none⟩, ⟨(some 50), (.q (.bin .neq (.tmp 49) (.const (.str (B []))))), none⟩]) 
    (.cond (.tmp 50) 
    (.seq 
    (.region [⟨(some 51), (.q (.move (.tmp 0))), none⟩, ⟨(some 52), (.q (.nonil (.tmp 51))), none⟩, ⟨(some 53), (.q (.fieldAddr 0 (.tmp 52))), none⟩, ⟨(some 54), (.q (.load false 1 (.tmp 53))), none⟩, ⟨(some 55), (.q (.move (.tmp 1))), none⟩, ⟨(some 56), (.q (.move (.tmp 1))), none⟩, ⟨(some 57), (.q (.move (.tmp 2))), none⟩, ⟨(some 58), (.q (.bin .add (.tmp 56) (.tmp 57))), none⟩, ⟨(some 59), (.q (.sliceSl 1 (.tmp 54) (some (.tmp 55)) (some (.tmp 58)))), none⟩, ⟨(some 60), (.q (.len false (.tmp 59))), none⟩, ⟨(some 61), (.q (.move (.const (.int .i64 0)))), none⟩]) 
    (.block 2 
    (.loop 
    (.seq 
    (.region [⟨(some 62), (.q (.bin .lss (.tmp 61) (.tmp 60))), none⟩]) 
    (.seq 
    (.cond (.tmp 62) .skip (.exit 2)) 
    (.seq 
    (.block 3 
    (.seq 
    (.region [⟨(some 63), (.q (.move (.tmp 61))), none⟩, ⟨(some 64), (.q (.idxSl 1 (.tmp 59) (.tmp 61))), none⟩, ⟨(some 65), (.q (.load false 1 (.tmp 64))), none⟩, ⟨(some 13), (.q (.move (.tmp 63))), none⟩, ⟨(some 14), (.q (.move (.tmp 65))), none⟩]) 
    (.region [⟨(some 66), (.q (.move (.tmp 0))), none⟩, ⟨(some 67), (.q (.nonil (.tmp 66))), none⟩, ⟨(some 68), (.q (.fieldAddr 0 (.tmp 67))), none⟩, ⟨(some 69), (.q (.load false 1 (.tmp 68))), none⟩, ⟨(some 70), (.q (.move (.tmp 1))), none⟩, ⟨(some 71), (.q (.move (.tmp 13))), none⟩, ⟨(some 72), (.q (.bin .add (.tmp 70) (.tmp 71))), none⟩, ⟨(some 73), (.q (.move (.tmp 4))), none⟩, ⟨(some 74), (.q (.move (.tmp 13))), none⟩, ⟨(some 75), (.q (.move (.tmp 14))), none⟩, ⟨(some 76), (.q (.move (.tmp 0))), none⟩, ⟨(some 77), (.q (.nonil (.tmp 76))), none⟩, ⟨(some 78), (.q (.fieldAddr 3 (.tmp 77))), none⟩, ⟨(some 79), (.q (.load false 1 (.tmp 78))), none⟩, ⟨(some 80), (.q (.move (.tmp 13))), none⟩, ⟨(some 81), (.q (.move (.tmp 0))), none⟩, ⟨(some 82), (.q (.nonil (.tmp 81))), none⟩, ⟨(some 83), (.q (.fieldAddr 3 (.tmp 82))), none⟩, ⟨(some 84), (.q (.load false 1 (.tmp 83))), none⟩, ⟨(some 85), (.q (.len true (.tmp 84))), none⟩, ⟨(some 86), (.q (.bin .rem (.tmp 80) (.tmp 85))), none⟩, ⟨(some 87), (.q (.idxStr (.tmp 79) (.tmp 86))), none⟩, ⟨(some 88), (.c (.val (.tmp 73)) [(.tmp 74), (.tmp 75), (.tmp 87)]), none⟩, ⟨(some 89), (.q (.idxSl 1 (.tmp 69) (.tmp 72))), none⟩, ⟨none, (.s (.store 1 (.tmp 89) (.tmp 88))), none⟩]))) 
    (.region [⟨(some 90), (.q (.bin .add (.tmp 61) (.const (.int .i64 1)))), none⟩, ⟨(some 61), (.q (.move (.tmp 90))), none⟩]))))))) .skip)) 
    (.seq 
    (.region [⟨(some 10), (.q (.move (.const (.int .i64 4)))), none⟩]) .ret))))
theorem t160 : Told Try.prog 160 91 c160 [(.tmp 10)] := ⟨Try.f160, _, [], Try.func160, rfl, by kernel_rfl, rfl, by kernel_rfl, by kernel_rfl⟩
def c158 : ACode := 
    (.seq 
    (.region [⟨(some 4), (.q (.move (.const (.int .u8 0)))), none⟩]) 
    (.seq 
    (.region [⟨(some 4), (.q (.move (.const (.int .u8 255)))), none⟩]) .ret))
theorem t158 : Told Try.prog 158 5 c158 [(.tmp 4)] := ⟨Try.f158, _, [], Try.func158, rfl, by kernel_rfl, rfl, by kernel_rfl, by kernel_rfl⟩
def c159 : ACode := 
    (.seq 
    (.region [⟨(some 6), (.q (.move (.const (.int .u8 0)))), none⟩]) 
    (.seq 
    (.region [⟨(some 7), (.q (.move (.tmp 1))), none⟩, ⟨(some 8), (.q (.move (.tmp 2))), none⟩, ⟨(some 9), (.q (.bin .and (.tmp 8) (.const (.int .u8 1)))), none⟩, ⟨(some 10), (.q (.un .neg (.tmp 9))), none⟩, ⟨(some 11), (.q (.bin .or (.tmp 7) (.tmp 10))), none⟩, ⟨(some 6), (.q (.move (.tmp 11))), none⟩]) .ret))
theorem t159 : Told Try.prog 159 12 c159 [(.tmp 6)] := ⟨Try.f159, _, [], Try.func159, rfl, by kernel_rfl, rfl, by kernel_rfl, by kernel_rfl⟩
def c124 : ACode := 
    (.seq 
    (.region [⟨(some 4), (.q (.move (.const (.int .i64 0)))), none⟩]) 
    (.seq 
    (.block 0 
    (.seq 
    (.region [⟨(some 8), (.q (.move (.tmp 0))), none⟩, ⟨(some 9), (.s (.call 76 [(.tmp 8)])), none⟩, ⟨(some 10), (.q (.un .not (.tmp 9))), none⟩, ⟨(some 7), (.q (.move (.tmp 10))), none⟩]) 
    (.cond (.tmp 7) 
    (.seq 
    (.region [⟨(some 4), (.q (.move (.const (.int .i64 4)))), none⟩]) .ret) 
    (.seq 
    (.region [⟨(some 12), (.q (.move (.tmp 1))), none⟩, ⟨(some 13), (.q (.bin .lss (.tmp 12) (.const (.int .i64 0)))), none⟩, ⟨(some 14), (.q (.move (.tmp 13))), none⟩, ⟨(some 15), (.q (.move (.tmp 1))), (some (14, false))⟩, ⟨(some 16), (.q (.bin .geq (.tmp 15) (.const (.int .i64 48)))), (some (14, false))⟩, ⟨(some 17), (.q (.pick (.tmp 14) (.const (.bool true)) (.tmp 16))), none⟩, ⟨(some 11), (.q (.move (.tmp 17))), none⟩]) 
    (.cond (.tmp 11) 
    (.seq 
    (.region [⟨(some 4), (.q (.move (.const (.int .i64 2)))), none⟩]) .ret) .skip))))) 
    (.seq 
    (.region [⟨(some 5), (.q (.move (.const (.func (.func 158) [] [])))), none⟩]) 
    (.seq 
    (.region [⟨(some 6), (.q (.move (.const (.func (.func 159) [] [])))), none⟩]) 
    (.seq 
    (.region [⟨(some 18), (.q (.move (.tmp 0))), none⟩, ⟨(some 19), (.q (.move (.tmp 1))), none⟩, ⟨(some 20), (.q (.bin .mul (.tmp 19) (.const (.int .i64 512)))), none⟩, ⟨(some 21), (.q (.move (.tmp 5))), none⟩, ⟨(some 22), (.q (.move (.tmp 6))), none⟩, ⟨(some 23), (.s (.call 160 [(.tmp 18), (.tmp 20), (.const (.int .i64 512)), (.tmp 21), (.tmp 22)])), none⟩, ⟨(some 4), (.q (.move (.tmp 23))), none⟩]) .ret)))))
theorem t124 : Told Try.prog 124 24 c124 [(.tmp 4)] := ⟨Try.f124, _, [], Try.func124, rfl, by kernel_rfl, rfl, by kernel_rfl, by kernel_rfl⟩
def c162 : ACode := 
    (.seq 
    (.region [⟨(some 5), (.q (.move (.const (.int .u8 0)))), none⟩]) 
    (.seq 
    (.region [⟨(some 6), (.q (.move (.tmp 1))), none⟩, ⟨(some 7), (.q (.load false 1 (.tmp 2))), none⟩, ⟨(some 8), (.q (.move (.tmp 0))), none⟩, ⟨(some 9), (.q (.idxStr (.tmp 7) (.tmp 8))), none⟩, ⟨(some 10), (.q (.bin .and (.tmp 6) (.tmp 9))), none⟩, ⟨(some 5), (.q (.move (.tmp 10))), none⟩]) .ret))
theorem t162 : Told Try.prog 162 11 c162 [(.tmp 5)] := ⟨Try.f162, _, [], Try.func162, rfl, by kernel_rfl, rfl, by kernel_rfl, by kernel_rfl⟩
def c163 : ACode := 
    (.seq 
    (.region [⟨(some 7), (.q (.move (.const (.int .u8 0)))), none⟩]) 
    (.seq 
    (.region [⟨(some 8), (.q (.move (.tmp 1))), none⟩, ⟨(some 9), (.q (.load false 1 (.tmp 3))), none⟩, ⟨(some 10), (.q (.move (.tmp 0))), none⟩, ⟨(some 11), (.q (.idxStr (.tmp 9) (.tmp 10))), none⟩, ⟨(some 12), (.q (.move (.tmp 2))), none⟩, ⟨(some 13), (.q (.bin .or (.tmp 11) (.tmp 12))), none⟩, ⟨(some 14), (.q (.bin .and (.tmp 8) (.tmp 13))), none⟩, ⟨(some 7), (.q (.move (.tmp 14))), none⟩]) .ret))
theorem t163 : Told Try.prog 163 15 c163 [(.tmp 7)] := ⟨Try.f163, _, [], Try.func163, rfl, by kernel_rfl, rfl, by kernel_rfl, by kernel_rfl⟩
def c127 : ACode := 
    (.seq 
    (.region [⟨(some 5), (.s (.box 9 (.tmp 2))), none⟩, ⟨(some 6), (.q (.move (.const (.int .i64 0)))), none⟩]) 
    (.seq 
    (.block 0 
    (.seq 
    (.region [⟨(some 10), (.q (.move (.tmp 0))), none⟩, ⟨(some 11), (.s (.call 76 [(.tmp 10)])), none⟩, ⟨(some 12), (.q (.un .not (.tmp 11))), none⟩, ⟨(some 9), (.q (.move (.tmp 12))), none⟩]) 
    (.cond (.tmp 9) 
    (.seq 
    (.region [⟨(some 6), (.q (.move (.const (.int .i64 4)))), none⟩]) .ret) 
    (.seq 
    (.region [⟨(some 14), (.q (.load false 1 (.tmp 5))), none⟩, ⟨(some 15), (.q (.bin .eql (.tmp 14) (.const (.str (B []))))), none⟩, ⟨(some 16), (.q (.move (.tmp 15))), none⟩, ⟨(some 17), (.q (.load false 1 (.tmp 5))), (some (16, false))⟩, ⟨(some 18), (.q (.len true (.tmp 17))), (some (16, false))⟩, ⟨(some 19), (.q (.bin .gtr (.tmp 18) (.const (.int .i64 32)))), (some (16, false))⟩, ⟨(some 20), (.q (.pick (.tmp 16) (.const (.bool true)) (.tmp 19))), none⟩, ⟨(some 13), (.q (.move (.tmp 20))), none⟩]) 
    (.cond (.tmp 13) 
    (.seq 
    (.region [⟨(some 6), (.q (.move (.const (.int .i64 1)))), none⟩]) .ret) 
    (.seq 
    (.region [⟨(some 22), (.q (.move (.tmp 0))), none⟩, ⟨(some 23), (.q (.move (.tmp 1))), none⟩, ⟨(some 24), (.q (.load false 1 (.tmp 5))), none⟩, ⟨(some 25), (.q (.len true (.tmp 24))), none⟩, ⟨(some 26), (.s (.call 161 [(.tmp 22), (.tmp 23), (.tmp 25)])), none⟩, ⟨(some 27), (.q (.un .not (.tmp 26))), none⟩, ⟨(some 21), (.q (.move (.tmp 27))), none⟩]) 
    (.cond (.tmp 21) 
    (.seq 
    (.region [⟨(some 6), (.q (.move (.const (.int .i64 2)))), none⟩]) .ret) 
    (.seq 
    (.region [⟨(some 29), (.q (.move (.tmp 1))), none⟩, ⟨(some 30), (.q (.bin .rem (.tmp 29) (.const (.int .i64 32)))), none⟩, ⟨(some 31), (.q (.load false 1 (.tmp 5))), none⟩, ⟨(some 32), (.q (.len true (.tmp 31))), none⟩, ⟨(some 33), (.q (.bin .add (.tmp 30) (.tmp 32))), none⟩, ⟨(some 34), (.q (.bin .gtr (.tmp 33) (.const (.int .i64 32)))), none⟩, ⟨(some 28), (.q (.move (.tmp 34))), none⟩]) 
    (.cond (.tmp 28) 
    (.seq 
    (.region [⟨(some 6), (.q (.move (.const (.int .i64 1)))), none⟩]) .ret) .skip))))))))) 
    (.seq 
    (.region [⟨(some 35), (.q (.mkFunc (.func 162) [] [(.tmp 5)])), none⟩, ⟨(some 7), (.q (.move (.tmp 35))), none⟩]) 
    (.seq 
    (.region [⟨(some 36), (.q (.mkFunc (.func 163) [] [(.tmp 5)])), none⟩, ⟨(some 8), (.q (.move (.tmp 36))), none⟩]) 
    (.seq 
    (.region [⟨(some 37), (.q (.move (.tmp 0))), none⟩, ⟨(some 38), (.q (.move (.tmp 1))), none⟩, ⟨(some 39), (.q (.load false 1 (.tmp 5))), none⟩, ⟨(some 40), (.q (.len true (.tmp 39))), none⟩, ⟨(some 41), (.q (.move (.tmp 7))), none⟩, ⟨(some 42), (.q (.move (.tmp 8))), none⟩, ⟨(some 43), (.s (.call 160 [(.tmp 37), (.tmp 38), (.tmp 40), (.tmp 41), (.tmp 42)])), none⟩, ⟨(some 6), (.q (.move (.tmp 43))), none⟩]) .ret)))))
theorem t127 : Told Try.prog 127 44 c127 [(.tmp 6)] := ⟨Try.f127, _, [], Try.func127, rfl, by kernel_rfl, rfl, by kernel_rfl, by kernel_rfl⟩
def c126 : ACode := 
    (.seq 
    (.region [⟨(some 6), (.q (.move (.const (.int .i64 0)))), none⟩]) 
    (.seq 
    (.block 0 
    (.seq 
    (.region [⟨(some 10), (.q (.move (.tmp 0))), none⟩, ⟨(some 11), (.s (.call 76 [(.tmp 10)])), none⟩, ⟨(some 12), (.q (.un .not (.tmp 11))), none⟩, ⟨(some 9), (.q (.move (.tmp 12))), none⟩]) 
    (.cond (.tmp 9) 
    (.seq 
    (.region [⟨(some 6), (.q (.move (.const (.int .i64 4)))), none⟩]) .ret) 
    (.seq 
    (.region [⟨(some 14), (.q (.move (.tmp 0))), none⟩, ⟨(some 15), (.q (.move (.tmp 1))), none⟩, ⟨(some 16), (.q (.move (.tmp 2))), none⟩, ⟨(some 17), (.q (.len true (.tmp 16))), none⟩, ⟨(some 18), (.s (.call 161 [(.tmp 14), (.tmp 15), (.tmp 17)])), none⟩, ⟨(some 19), (.q (.un .not (.tmp 18))), none⟩, ⟨(some 13), (.q (.move (.tmp 19))), none⟩]) 
    (.cond (.tmp 13) 
    (.seq 
    (.region [⟨(some 6), (.q (.move (.const (.int .i64 2)))), none⟩]) .ret) .skip))))) 
    (.seq 
    (.block 1 
    (.loop 
    (.seq 
    (.seq 
    (.region [⟨(some 20), (.q (.move (.tmp 2))), none⟩, ⟨(some 21), (.q (.bin .neq (.tmp 20) (.const (.str (B []))))), none⟩]) 
    (.cond (.tmp 21) .skip (.exit 1))) 
    (.block 2 
    (.seq 
    (.region [⟨(some 22), (.q (.move (.tmp 2))), none⟩, ⟨(some 23), (.q (.len true (.tmp 22))), none⟩, ⟨(some 24), (.q (.move (.tmp 1))), none⟩, ⟨(some 25), (.q (.bin .rem (.tmp 24) (.const (.int .i64 32)))), none⟩, ⟨(some 26), (.q (.bin .sub (.const (.int .i64 32)) (.tmp 25))), none⟩, ⟨(some 27), (.q (.best false (.tmp 23) (.tmp 26))), none⟩, ⟨(some 7), (.q (.move (.tmp 27))), none⟩]) 
    (.seq 
    (.seq 
    (.region [⟨(some 28), (.q (.move (.tmp 0))), none⟩, ⟨(some 29), (.q (.move (.tmp 1))), none⟩, ⟨(some 30), (.q (.move (.tmp 2))), none⟩, ⟨(some 31), (.q (.move (.tmp 7))), none⟩, ⟨(some 32), (.q (.sliceStr (.tmp 30) none (some (.tmp 31)))), none⟩, ⟨(some 33), (.s (.call 127 [(.tmp 28), (.tmp 29), (.tmp 32)])), none⟩, ⟨(some 8), (.q (.move (.tmp 33))), none⟩]) 
    (.seq 
    (.region [⟨(some 34), (.q (.move (.tmp 8))), none⟩, ⟨(some 35), (.q (.bin .neq (.tmp 34) (.const (.int .i64 0)))), none⟩]) 
    (.cond (.tmp 35) 
    (.seq 
    (.region [⟨(some 36), (.q (.move (.tmp 8))), none⟩, ⟨(some 6), (.q (.move (.tmp 36))), none⟩]) .ret) .skip))) 
    (.region [⟨(some 37), (.q (.move (.tmp 1))), none⟩, ⟨(some 38), (.q (.move (.tmp 7))), none⟩, ⟨(some 39), (.q (.bin .add (.tmp 37) (.tmp 38))), none⟩, ⟨(some 40), (.q (.move (.tmp 2))), none⟩, ⟨(some 41), (.q (.move (.tmp 7))), none⟩, ⟨(some 42), (.q (.sliceStr (.tmp 40) (some (.tmp 41)) none)), none⟩, ⟨(some 1), (.q (.move (.tmp 39))), none⟩, ⟨(some 2), (.q (.move (.tmp 42))), none⟩]))))))) 
    (.seq 
    (.region [⟨(some 6), (.q (.move (.const (.int .i64 0)))), none⟩]) .ret))))
theorem t126 : Told Try.prog 126 43 c126 [(.tmp 6)] := ⟨Try.f126, _, [], Try.func126, rfl, by kernel_rfl, rfl, by kernel_rfl, by kernel_rfl⟩
def c17 : ACode := 
    (.seq 
    (.region [⟨(some 2), (.q (.move (.const .nilp))), none⟩]) 
    (.seq 
    (.region [⟨(some 4), (.q (.move (.tmp 0))), none⟩, ⟨(some 5), (.s (.s2b 5 (.tmp 4))), none⟩, ⟨(some 3), (.q (.move (.tmp 5))), none⟩]) 
    (.seq 
    (.block 0 
    (.loop 
    (.seq 
    (.seq 
    (.region [⟨(some 6), (.q (.move (.tmp 3))), none⟩, ⟨(some 7), (.q (.len false (.tmp 6))), none⟩, ⟨(some 8), (.q (.bin .lss (.tmp 7) (.const (.int .i64 24576)))), none⟩]) 
    (.cond (.tmp 8) .skip (.exit 0))) 
    (.block 1 
    (.region [⟨(some 9), (.q (.move (.tmp 3))), none⟩, ⟨(some 10), (.s (.lit 5 1 [(.const (.int .u8 255))])), none⟩, ⟨(some 11), (.s (.app 5 1 1 (.tmp 9) (.tmp 10))), none⟩, ⟨(some 3), (.q (.move (.tmp 11))), none⟩]))))) 
    (.seq 
    (.region [⟨(some 12), (.q (.move (.tmp 3))), none⟩, ⟨(some 13), (.q (.sliceSl 1 (.tmp 12) none (some (.const (.int .i64 24576))))), none⟩, ⟨(some 14), (.q (.b2s (.tmp 13))), none⟩, ⟨(some 15), (.q (.build [(.str (B [])), (.bool false), (.int .i64 0), (.str (B [])), (.int .i64 0)] [(0, (1, (.tmp 14))), (1, (1, (.const (.bool true)))), (2, (1, (.const (.int .i64 (-1)))))])), none⟩, ⟨(some 16), (.s (.box 47 (.tmp 15))), none⟩, ⟨(some 2), (.q (.move (.tmp 16))), none⟩]) .ret))))
theorem t17 : Told Try.prog 17 17 c17 [(.tmp 2)] := ⟨Try.f17, _, [], Try.func17, rfl, by kernel_rfl, rfl, by kernel_rfl, by kernel_rfl⟩
def c74 : ACode := 
    (.seq 
    (.region [⟨(some 6), (.q (.move (.const (.str (B []))))), none⟩, ⟨(some 7), (.q (.move (.const (.int .i64 0)))), none⟩]) 
    (.seq 
    (.seq 
    (.region [⟨(some 8), (.q (.move (.tmp 0))), none⟩, ⟨(some 9), (.q (.nonil (.tmp 8))), none⟩, ⟨(some 10), (.q (.fieldAddr 1 (.tmp 9))), none⟩, ⟨(some 11), (.q (.load false 1 (.tmp 10))), none⟩, ⟨(some 12), (.q (.un .not (.tmp 11))), none⟩]) 
    (.cond (.tmp 12) 
    (.seq 
    (.region [⟨(some 6), (.q (.move (.const (.str (B []))))), none⟩, ⟨(some 7), (.q (.move (.const (.int .i64 4)))), none⟩]) .ret) .skip)) 
    (.seq 
    (.seq 
    (.region [⟨(some 13), (.q (.move (.tmp 1))), none⟩, ⟨(some 14), (.q (.bin .lss (.tmp 13) (.const (.int .i64 0)))), none⟩, ⟨(some 15), (.q (.move (.tmp 14))), none⟩, ⟨(some 16), (.q (.move (.tmp 2))), (some (15, false))⟩, ⟨(some 17), (.q (.bin .lss (.tmp 16) (.const (.int .i64 0)))), (some (15, false))⟩, ⟨(some 18), (.q (.pick (.tmp 15) (.const (.bool true)) (.tmp 17))), none⟩, ⟨(some 19), (.q (.move (.tmp 18))), none⟩, ⟨(some 20), (.q (.move (.tmp 1))), (some (19, false))⟩, ⟨(some 21), (.q (.move (.tmp 0))), (some (19, false))⟩, ⟨(some 22), (.q (.nonil (.tmp 21))), (some (19, false))⟩, ⟨(some 23), (.q (.fieldAddr 0 (.tmp 22))), (some (19, false))⟩, ⟨(some 24), (.q (.load false 1 (.tmp 23))), (some (19, false))⟩, ⟨(some 25), (.q (.len true (.tmp 24))), (some (19, false))⟩, ⟨(some 26), (.q (.bin .gtr (.tmp 20) (.tmp 25))), (some (19, false))⟩, ⟨(some 27), (.q (.pick (.tmp 19) (.const (.bool true)) (.tmp 26))), none⟩, ⟨(some 28), (.q (.move (.tmp 27))), none⟩, ⟨(some 29), (.q (.move (.tmp 2))), (some (28, false))⟩, ⟨(some 30), (.q (.move (.tmp 0))), (some (28, false))⟩, ⟨(some 31), (.q (.nonil (.tmp 30))), (some (28, false))⟩, ⟨(some 32), (.q (.fieldAddr 0 (.tmp 31))), (some (28, false))⟩, ⟨(some 33), (.q (.load false 1 (.tmp 32))), (some (28, false))⟩, ⟨(some 34), (.q (.len true (.tmp 33))), (some (28, false))⟩, ⟨(some 35), (.q (.move (.tmp 1))), (some (28, false))⟩, ⟨(some 36), (.q (.bin .sub (.tmp 34) (.tmp 35))), (some (28, false))⟩, ⟨(some 37), (.q (.bin .gtr (.tmp 29) (.tmp 36))), (some (28, false))⟩, ⟨(some 38), (.q (.pick (.tmp 28) (.const (.bool true)) (.tmp 37))), none⟩]) 
    (.cond (.tmp 38) 
    (.seq 
    (.region [⟨(some 6), (.q (.move (.const (.str (B []))))), none⟩, ⟨(some 7), (.q (.move (.const (.int .i64 2)))), none⟩]) .ret) .skip)) 
    (.seq 
    (.region [⟨(some 39), (.q (.move (.tmp 0))), none⟩, ⟨(some 40), (.q (.nonil (.tmp 39))), none⟩, ⟨(some 41), (.q (.fieldAddr 0 (.tmp 40))), none⟩, ⟨(some 42), (.q (.load false 1 (.tmp 41))), none⟩, ⟨(some 43), (.q (.move (.tmp 1))), none⟩, ⟨(some 44), (.q (.move (.tmp 1))), none⟩, ⟨(some 45), (.q (.move (.tmp 2))), none⟩, ⟨(some 46), (.q (.bin .add (.tmp 44) (.tmp 45))), none⟩, ⟨(some 47), (.q (.sliceStr (.tmp 42) (some (.tmp 43)) (some (.tmp 46)))), none⟩, ⟨(some 6), (.q (.move (.tmp 47))), none⟩, ⟨(some 7), (.q (.move (.const (.int .i64 0)))), none⟩]) .ret))))
theorem t74 : Told Try.prog 74 48 c74 [(.tmp 6), (.tmp 7)] := ⟨Try.f74, _, [], Try.func74, rfl, by kernel_rfl, rfl, by kernel_rfl, by kernel_rfl⟩
def c166 : ACode := 
    (.seq 
    (.region [⟨(some 2), (.q (.move (.const (.bool false)))), none⟩]) 
    (.seq 
    (.region [⟨(some 3), (.q (.move (.tmp 0))), none⟩, ⟨(some 4), (.q (.move (.tmp 0))), none⟩, ⟨(some 5), (.q (.nonil (.tmp 4))), none⟩, ⟨(some 6), (.q (.fieldAddr 4 (.tmp 5))), none⟩, ⟨(some 7), (.q (.load false 1 (.tmp 6))), none⟩, ⟨(some 8), (.q (.bin .add (.tmp 7) (.const (.int .i64 1)))), none⟩, ⟨(some 9), (.q (.nonil (.tmp 3))), none⟩, ⟨(some 10), (.q (.fieldAddr 4 (.tmp 9))), none⟩, ⟨none, (.s (.store 1 (.tmp 10) (.tmp 8))), none⟩]) 
    (.seq 
    (.seq 
    (.region [⟨(some 11), (.q (.move (.tmp 0))), none⟩, ⟨(some 12), (.q (.nonil (.tmp 11))), none⟩, ⟨(some 13), (.q (.fieldAddr 2 (.tmp 12))), none⟩, ⟨(some 14), (.q (.load false 1 (.tmp 13))), none⟩, ⟨(some 15), (.q (.bin .lss (.tmp 14) (.const (.int .i64 0)))), none⟩]) 
    (.cond (.tmp 15) 
    (.seq 
    (.region [⟨(some 2), (.q (.move (.const (.bool false)))), none⟩]) .ret) .skip)) 
    (.seq 
    (.region [⟨(some 16), (.q (.move (.tmp 0))), none⟩, ⟨(some 17), (.q (.move (.tmp 0))), none⟩, ⟨(some 18), (.q (.nonil (.tmp 17))), none⟩, ⟨(some 19), (.q (.fieldAddr 2 (.tmp 18))), none⟩, ⟨(some 20), (.q (.load false 1 (.tmp 19))), none⟩, ⟨(some 21), (.q (.bin .sub (.tmp 20) (.const (.int .i64 1)))), none⟩, ⟨(some 22), (.q (.nonil (.tmp 16))), none⟩, ⟨(some 23), (.q (.fieldAddr 2 (.tmp 22))), none⟩, ⟨none, (.s (.store 1 (.tmp 23) (.tmp 21))), none⟩]) 
    (.seq 
    (.seq 
    (.region [⟨(some 24), (.q (.move (.tmp 0))), none⟩, ⟨(some 25), (.q (.nonil (.tmp 24))), none⟩, ⟨(some 26), (.q (.fieldAddr 2 (.tmp 25))), none⟩, ⟨(some 27), (.q (.load false 1 (.tmp 26))), none⟩, ⟨(some 28), (.q (.bin .geq (.tmp 27) (.const (.int .i64 0)))), none⟩]) 
    (.cond (.tmp 28) 
    (.seq 
    (.region [⟨(some 2), (.q (.move (.const (.bool false)))), none⟩]) .ret) .skip)) 
    (.seq 
    (.region [⟨(some 29), (.q (.move (.tmp 0))), none⟩, ⟨(some 30), (.q (.nonil (.tmp 29))), none⟩, ⟨(some 31), (.q (.fieldAddr 1 (.tmp 30))), none⟩, ⟨none, (.s (.store 1 (.tmp 31) (.const (.bool false)))), none⟩]) 
    (.seq 
    (.region [⟨(some 2), (.q (.move (.const (.bool true)))), none⟩]) .ret)))))))
theorem t166 : Told Try.prog 166 32 c166 [(.tmp 2)] := ⟨Try.f166, _, [], Try.func166, rfl, by kernel_rfl, rfl, by kernel_rfl, by kernel_rfl⟩
def c167 : ACode := 
    (.region [⟨(some 6), (.q (.move (.tmp 0))), none⟩, ⟨(some 7), (.q (.move (.tmp 0))), none⟩, ⟨(some 8), (.q (.nonil (.tmp 7))), none⟩, ⟨(some 9), (.q (.fieldAddr 0 (.tmp 8))), none⟩, ⟨(some 10), (.q (.load false 1 (.tmp 9))), none⟩, ⟨(some 11), (.q (.move (.tmp 1))), none⟩, ⟨(some 12), (.q (.sliceStr (.tmp 10) none (some (.tmp 11)))), none⟩, ⟨(some 13), (.q (.move (.tmp 2))), none⟩, ⟨(some 14), (.q (.b2s (.tmp 13))), none⟩, ⟨(some 15), (.q (.bin .add (.tmp 12) (.tmp 14))), none⟩, ⟨(some 16), (.q (.move (.tmp 0))), none⟩, ⟨(some 17), (.q (.nonil (.tmp 16))), none⟩, ⟨(some 18), (.q (.fieldAddr 0 (.tmp 17))), none⟩, ⟨(some 19), (.q (.load false 1 (.tmp 18))), none⟩, ⟨(some 20), (.q (.move (.tmp 1))), none⟩, ⟨(some 21), (.q (.move (.tmp 2))), none⟩, ⟨(some 22), (.q (.len false (.tmp 21))), none⟩, ⟨(some 23), (.q (.bin .add (.tmp 20) (.tmp 22))), none⟩, ⟨(some 24), (.q (.sliceStr (.tmp 19) (some (.tmp 23)) none)), none⟩, ⟨(some 25), (.q (.bin .add (.tmp 15) (.tmp 24))), none⟩, ⟨(some 26), (.q (.nonil (.tmp 6))), none⟩, ⟨(some 27), (.q (.fieldAddr 0 (.tmp 26))), none⟩, ⟨none, (.s (.store 1 (.tmp 27) (.tmp 25))), none⟩])
theorem t167 : Told Try.prog 167 28 c167 [] := ⟨Try.f167, _, [], Try.func167, rfl, by kernel_rfl, rfl, by kernel_rfl, by kernel_rfl⟩
def c131 : ACode := 
    (.seq 
    (.region [⟨(some 4), (.q (.move (.const (.int .i64 0)))), none⟩]) 
    (.seq 
    (.seq 
    (.region [⟨(some 9), (.q (.move (.tmp 0))), none⟩, ⟨(some 10), (.q (.nonil (.tmp 9))), none⟩, ⟨(some 11), (.q (.fieldAddr 1 (.tmp 10))), none⟩, ⟨(some 12), (.q (.load false 1 (.tmp 11))), none⟩, ⟨(some 13), (.q (.un .not (.tmp 12))), none⟩]) 
    (.cond (.tmp 13) 
    (.seq 
    (.region [⟨(some 4), (.q (.move (.const (.int .i64 4)))), none⟩]) .ret) .skip)) 
    (.seq 
    (.seq 
    (.region [⟨(some 14), (.q (.move (.tmp 1))), none⟩, ⟨(some 15), (.q (.bin .lss (.tmp 14) (.const (.int .i64 0)))), none⟩, ⟨(some 16), (.q (.move (.tmp 15))), none⟩, ⟨(some 17), (.q (.move (.tmp 1))), (some (16, false))⟩, ⟨(some 18), (.q (.bin .geq (.tmp 17) (.const (.int .i64 48)))), (some (16, false))⟩, ⟨(some 19), (.q (.pick (.tmp 16) (.const (.bool true)) (.tmp 18))), none⟩]) 
    (.cond (.tmp 19) 
    (.seq 
    (.region [⟨(some 4), (.q (.move (.const (.int .i64 2)))), none⟩]) .ret) .skip)) 
    (.seq 
    (.region [⟨(some 20), (.q (.move (.tmp 0))), none⟩, ⟨(some 21), (.s (.call 166 [(.tmp 20)])), none⟩, ⟨(some 5), (.q (.move (.tmp 21))), none⟩]) 
    (.seq 
    (.region [⟨(some 22), (.q (.move (.tmp 1))), none⟩, ⟨(some 23), (.q (.bin .mul (.tmp 22) (.const (.int .i64 512)))), none⟩, ⟨(some 6), (.q (.move (.tmp 23))), none⟩]) 
    (.seq 
    (.region [⟨(some 24), (.q (.move (.tmp 0))), none⟩, ⟨(some 25), (.q (.nonil (.tmp 24))), none⟩, ⟨(some 26), (.q (.fieldAddr 0 (.tmp 25))), none⟩, ⟨(some 27), (.q (.load false 1 (.tmp 26))), none⟩, ⟨(some 28), (.q (.move (.tmp 6))), none⟩, ⟨(some 29), (.q (.move (.tmp 6))), none⟩, ⟨(some 30), (.q (.bin .add (.tmp 29) (.const (.int .i64 512)))), none⟩, ⟨(some 31), (.q (.sliceStr (.tmp 27) (some (.tmp 28)) (some (.tmp 30)))), none⟩, ⟨(some 32), (.s (.s2b 5 (.tmp 31))), none⟩, ⟨(some 7), (.q (.move (.tmp 32))), none⟩]) 
    (.seq 
    (.seq 
    (.region [⟨(some 8), (.q (.move (.const (.int .i64 0)))), none⟩]) 
    (.block 0 
    (.loop 
    (.seq 
    (.seq 
    (.region [⟨(some 33), (.q (.move (.tmp 8))), none⟩, ⟨(some 34), (.q (.move (.tmp 7))), none⟩, ⟨(some 35), (.q (.len false (.tmp 34))), none⟩, ⟨(some 36), (.q (.bin .lss (.tmp 33) (.tmp 35))), none⟩]) 
    (.cond (.tmp 36) .skip (.exit 0))) 
    (.seq 
    (.block 1 
    (.seq 
    (.region [⟨(some 39), (.q (.move (.tmp 5))), none⟩, ⟨(some 40), (.q (.un .not (.tmp 39))), none⟩, ⟨(some 41), (.q (.move (.tmp 40))), none⟩, ⟨(some 42), (.q (.move (.tmp 0))), (some (41, false))⟩, ⟨(some 43), (.q (.nonil (.tmp 42))), (some (41, false))⟩, ⟨(some 44), (.q (.fieldAddr 3 (.tmp 43))), (some (41, false))⟩, ⟨(some 45), (.q (.load false 1 (.tmp 44))), (some (41, false))⟩, ⟨(some 46), (.q (.len true (.tmp 45))), (some (41, false))⟩, ⟨(some 47), (.q (.bin .gtr (.tmp 46) (.const (.int .i64 0)))), (some (41, false))⟩, ⟨(some 48), (.q (.move (.tmp 47))), (some (41, false))⟩, ⟨(some 49), (.q (.move (.tmp 0))), (some (48, true))⟩, ⟨(some 50), (.q (.nonil (.tmp 49))), (some (48, true))⟩, ⟨(some 51), (.q (.fieldAddr 3 (.tmp 50))), (some (48, true))⟩, ⟨(some 52), (.q (.load false 1 (.tmp 51))), (some (48, true))⟩, ⟨(some 53), (.q (.move (.tmp 8))), (some (48, true))⟩, ⟨(some 54), (.q (.move (.tmp 0))), (some (48, true))⟩, ⟨(some 55), (.q (.nonil (.tmp 54))), (some (48, true))⟩, ⟨(some 56), (.q (.fieldAddr 3 (.tmp 55))), (some (48, true))⟩, ⟨(some 57), (.q (.load false 1 (.tmp 56))), (some (48, true))⟩, ⟨(some 58), (.q (.len true (.tmp 57))), (some (48, true))⟩, ⟨(some 59), (.q (.bin .rem (.tmp 53) (.tmp 58))), (some (48, true))⟩, ⟨(some 60), (.q (.idxStr (.tmp 52) (.tmp 59))), (some (48, true))⟩, ⟨(some 61), (.q (.bin .rem (.tmp 60) (.const (.int .u8 2)))), (some (48, true))⟩, ⟨(some 62), (.q (.bin .eql (.tmp 61) (.const (.int .u8 1)))), (some (48, true))⟩, ⟨(some 63), (.q (.pick (.tmp 48) (.tmp 62) (.const (.bool false)))), (some (41, false))⟩, ⟨(some 64), (.q (.pick (.tmp 41) (.const (.bool true)) (.tmp 63))), none⟩]) 
    (.cond (.tmp 64) 
    (.region [⟨(some 65), (.q (.move (.tmp 7))), none⟩, ⟨(some 66), (.q (.move (.tmp 8))), none⟩, ⟨(some 67), (.q (.idxSl 1 (.tmp 65) (.tmp 66))), none⟩, ⟨none, (.s (.store 1 (.tmp 67) (.const (.int .u8 255)))), none⟩]) .skip))) 
    (.region [⟨(some 37), (.q (.move (.tmp 8))), none⟩, ⟨(some 38), (.q (.bin .add (.tmp 37) (.const (.int .i64 1)))), none⟩, ⟨(some 8), (.q (.move (.tmp 38))), none⟩])))))) 
    (.seq 
    (.region [⟨(some 68), (.q (.move (.tmp 0))), none⟩, ⟨(some 69), (.q (.move (.tmp 6))), none⟩, ⟨(some 70), (.q (.move (.tmp 7))), none⟩, ⟨(some 71), (.s (.call 167 [(.tmp 68), (.tmp 69), (.tmp 70)])), none⟩]) 
    (.seq 
    (.seq 
    (.region [⟨(some 72), (.q (.move (.tmp 5))), none⟩]) 
    (.cond (.tmp 72) 
    (.seq 
    (.region [⟨(some 4), (.q (.move (.const (.int .i64 4)))), none⟩]) .ret) .skip)) 
    (.seq 
    (.region [⟨(some 4), (.q (.move (.const (.int .i64 0)))), none⟩]) .ret))))))))))
theorem t131 : Told Try.prog 131 73 c131 [(.tmp 4)] := ⟨Try.f131, _, [], Try.func131, rfl, by kernel_rfl, rfl, by kernel_rfl, by kernel_rfl⟩
def c133 : ACode := 
    (.seq 
    (.region [⟨(some 6), (.q (.move (.const (.int .i64 0)))), none⟩]) 
    (.seq 
    (.block 0 
    (.seq 
    (.region [⟨(some 12), (.q (.move (.tmp 0))), none⟩, ⟨(some 13), (.q (.nonil (.tmp 12))), none⟩, ⟨(some 14), (.q (.fieldAddr 1 (.tmp 13))), none⟩, ⟨(some 15), (.q (.load false 1 (.tmp 14))), none⟩, ⟨(some 16), (.q (.un .not (.tmp 15))), none⟩, ⟨(some 11), (.q (.move (.tmp 16))), none⟩]) 
    (.cond (.tmp 11) 
    (.seq 
    (.region [⟨(some 6), (.q (.move (.const (.int .i64 4)))), none⟩]) .ret) 
    (.seq 
    (.region [⟨(some 18), (.q (.move (.tmp 2))), none⟩, ⟨(some 19), (.q (.bin .eql (.tmp 18) (.const (.str (B []))))), none⟩, ⟨(some 20), (.q (.move (.tmp 19))), none⟩, ⟨(some 21), (.q (.move (.tmp 2))), (some (20, false))⟩, ⟨(some 22), (.q (.len true (.tmp 21))), (some (20, false))⟩, ⟨(some 23), (.q (.bin .gtr (.tmp 22) (.const (.int .i64 32)))), (some (20, false))⟩, ⟨(some 24), (.q (.pick (.tmp 20) (.const (.bool true)) (.tmp 23))), none⟩, ⟨(some 17), (.q (.move (.tmp 24))), none⟩]) 
    (.cond (.tmp 17) 
    (.seq 
    (.region [⟨(some 6), (.q (.move (.const (.int .i64 1)))), none⟩]) .ret) 
    (.seq 
    (.region [⟨(some 26), (.q (.move (.tmp 1))), none⟩, ⟨(some 27), (.q (.bin .lss (.tmp 26) (.const (.int .i64 0)))), none⟩, ⟨(some 28), (.q (.move (.tmp 27))), none⟩, ⟨(some 29), (.q (.move (.tmp 1))), (some (28, false))⟩, ⟨(some 30), (.q (.move (.tmp 0))), (some (28, false))⟩, ⟨(some 31), (.q (.nonil (.tmp 30))), (some (28, false))⟩, ⟨(some 32), (.q (.fieldAddr 0 (.tmp 31))), (some (28, false))⟩, ⟨(some 33), (.q (.load false 1 (.tmp 32))), (some (28, false))⟩, ⟨(some 34), (.q (.len true (.tmp 33))), (some (28, false))⟩, ⟨(some 35), (.q (.bin .gtr (.tmp 29) (.tmp 34))), (some (28, false))⟩, ⟨(some 36), (.q (.pick (.tmp 28) (.const (.bool true)) (.tmp 35))), none⟩, ⟨(some 37), (.q (.move (.tmp 36))), none⟩, ⟨(some 38), (.q (.move (.tmp 2))), (some (37, false))⟩, ⟨(some 39), (.q (.len true (.tmp 38))), (some (37, false))⟩, ⟨(some 40), (.q (.move (.tmp 0))), (some (37, false))⟩, ⟨(some 41), (.q (.nonil (.tmp 40))), (some (37, false))⟩, ⟨(some 42), (.q (.fieldAddr 0 (.tmp 41))), (some (37, false))⟩, ⟨(some 43), (.q (.load false 1 (.tmp 42))), (some (37, false))⟩, ⟨(some 44), (.q (.len true (.tmp 43))), (some (37, false))⟩, ⟨(some 45), (.q (.move (.tmp 1))), (some (37, false))⟩, ⟨(some 46), (.q (.bin .sub (.tmp 44) (.tmp 45))), (some (37, false))⟩, ⟨(some 47), (.q (.bin .gtr (.tmp 39) (.tmp 46))), (some (37, false))⟩, ⟨(some 48), (.q (.pick (.tmp 37) (.const (.bool true)) (.tmp 47))), none⟩, ⟨(some 25), (.q (.move (.tmp 48))), none⟩]) 
    (.cond (.tmp 25) 
    (.seq 
    (.region [⟨(some 6), (.q (.move (.const (.int .i64 2)))), none⟩]) .ret) 
    (.seq 
    (.region [⟨(some 50), (.q (.move (.tmp 1))), none⟩, ⟨(some 51), (.q (.bin .quo (.tmp 50) (.const (.int .i64 32)))), none⟩, ⟨(some 52), (.q (.move (.tmp 1))), none⟩, ⟨(some 53), (.q (.move (.tmp 2))), none⟩, ⟨(some 54), (.q (.len true (.tmp 53))), none⟩, ⟨(some 55), (.q (.bin .add (.tmp 52) (.tmp 54))), none⟩, ⟨(some 56), (.q (.bin .sub (.tmp 55) (.const (.int .i64 1)))), none⟩, ⟨(some 57), (.q (.bin .quo (.tmp 56) (.const (.int .i64 32)))), none⟩, ⟨(some 58), (.q (.bin .neq (.tmp 51) (.tmp 57))), none⟩, ⟨(some 49), (.q (.move (.tmp 58))), none⟩]) 
    (.cond (.tmp 49) 
    (.seq 
    (.region [⟨(some 6), (.q (.move (.const (.int .i64 1)))), none⟩]) .ret) .skip))))))))) 
    (.seq 
    (.region [⟨(some 59), (.q (.move (.tmp 0))), none⟩, ⟨(some 60), (.s (.call 166 [(.tmp 59)])), none⟩, ⟨(some 7), (.q (.move (.tmp 60))), none⟩]) 
    (.seq 
    (.region [⟨(some 61), (.q (.move (.tmp 0))), none⟩, ⟨(some 62), (.q (.nonil (.tmp 61))), none⟩, ⟨(some 63), (.q (.fieldAddr 0 (.tmp 62))), none⟩, ⟨(some 64), (.q (.load false 1 (.tmp 63))), none⟩, ⟨(some 65), (.q (.move (.tmp 1))), none⟩, ⟨(some 66), (.q (.move (.tmp 1))), none⟩, ⟨(some 67), (.q (.move (.tmp 2))), none⟩, ⟨(some 68), (.q (.len true (.tmp 67))), none⟩, ⟨(some 69), (.q (.bin .add (.tmp 66) (.tmp 68))), none⟩, ⟨(some 70), (.q (.sliceStr (.tmp 64) (some (.tmp 65)) (some (.tmp 69)))), none⟩, ⟨(some 71), (.s (.s2b 5 (.tmp 70))), none⟩, ⟨(some 8), (.q (.move (.tmp 71))), none⟩]) 
    (.seq 
    (.seq 
    (.region [⟨(some 9), (.q (.move (.const (.int .i64 0)))), none⟩]) 
    (.block 1 
    (.loop 
    (.seq 
    (.seq 
    (.region [⟨(some 72), (.q (.move (.tmp 9))), none⟩, ⟨(some 73), (.q (.move (.tmp 8))), none⟩, ⟨(some 74), (.q (.len false (.tmp 73))), none⟩, ⟨(some 75), (.q (.bin .lss (.tmp 72) (.tmp 74))), none⟩, ⟨(some 76), (.q (.move (.tmp 75))), none⟩, ⟨(some 77), (.q (.move (.tmp 9))), (some (76, true))⟩, ⟨(some 78), (.q (.move (.tmp 2))), (some (76, true))⟩, ⟨(some 79), (.q (.len true (.tmp 78))), (some (76, true))⟩, ⟨(some 80), (.q (.bin .lss (.tmp 77) (.tmp 79))), (some (76, true))⟩, ⟨(some 81), (.q (.pick (.tmp 76) (.tmp 80) (.const (.bool false)))), none⟩]) 
    (.cond (.tmp 81) .skip (.exit 1))) 
    (.seq 
    (.block 2 
    (.seq 
    (.region [⟨(some 10), (.q (.move (.const (.int .u8 0)))), none⟩]) 
    (.seq 
    (.seq 
    (.region [⟨(some 84), (.q (.move (.tmp 7))), none⟩]) 
    (.cond (.tmp 84) 
    (.region [⟨(some 10), (.q (.move (.const (.int .u8 255)))), none⟩]) .skip)) 
    (.seq 
    (.seq 
    (.region [⟨(some 85), (.q (.move (.tmp 7))), none⟩, ⟨(some 86), (.q (.move (.tmp 85))), none⟩, ⟨(some 87), (.q (.move (.tmp 0))), (some (86, true))⟩, ⟨(some 88), (.q (.nonil (.tmp 87))), (some (86, true))⟩, ⟨(some 89), (.q (.fieldAddr 3 (.tmp 88))), (some (86, true))⟩, ⟨(some 90), (.q (.load false 1 (.tmp 89))), (some (86, true))⟩, ⟨(some 91), (.q (.len true (.tmp 90))), (some (86, true))⟩, ⟨(some 92), (.q (.bin .gtr (.tmp 91) (.const (.int .i64 0)))), (some (86, true))⟩, ⟨(some 93), (.q (.pick (.tmp 86) (.tmp 92) (.const (.bool false)))), none⟩]) 
    (.cond (.tmp 93) 
    (.region [⟨(some 94), (.q (.move (.tmp 0))), none⟩, ⟨(some 95), (.q (.nonil (.tmp 94))), none⟩, ⟨(some 96), (.q (.fieldAddr 3 (.tmp 95))), none⟩, ⟨(some 97), (.q (.load false 1 (.tmp 96))), none⟩, ⟨(some 98), (.q (.move (.tmp 9))), none⟩, ⟨(some 99), (.q (.move (.tmp 0))), none⟩, ⟨(some 100), (.q (.nonil (.tmp 99))), none⟩, ⟨(some 101), (.q (.fieldAddr 3 (.tmp 100))), none⟩, ⟨(some 102), (.q (.load false 1 (.tmp 101))), none⟩, ⟨(some 103), (.q (.len true (.tmp 102))), none⟩, ⟨(some 104), (.q (.bin .rem (.tmp 98) (.tmp 103))), none⟩, ⟨(some 105), (.q (.idxStr (.tmp 97) (.tmp 104))), none⟩, ⟨(some 10), (.q (.move (.tmp 105))), none⟩]) .skip)) 
    (.region [⟨(some 106), (.q (.move (.tmp 8))), none⟩, ⟨(some 107), (.q (.move (.tmp 9))), none⟩, ⟨(some 108), (.q (.move (.tmp 8))), none⟩, ⟨(some 109), (.q (.move (.tmp 9))), none⟩, ⟨(some 110), (.q (.idxSl 1 (.tmp 108) (.tmp 109))), none⟩, ⟨(some 111), (.q (.load false 1 (.tmp 110))), none⟩, ⟨(some 112), (.q (.move (.tmp 2))), none⟩, ⟨(some 113), (.q (.move (.tmp 9))), none⟩, ⟨(some 114), (.q (.idxStr (.tmp 112) (.tmp 113))), none⟩, ⟨(some 115), (.q (.move (.tmp 10))), none⟩, ⟨(some 116), (.q (.bin .or (.tmp 114) (.tmp 115))), none⟩, ⟨(some 117), (.q (.bin .and (.tmp 111) (.tmp 116))), none⟩, ⟨(some 118), (.q (.idxSl 1 (.tmp 106) (.tmp 107))), none⟩, ⟨none, (.s (.store 1 (.tmp 118) (.tmp 117))), none⟩]))))) 
    (.region [⟨(some 82), (.q (.move (.tmp 9))), none⟩, ⟨(some 83), (.q (.bin .add (.tmp 82) (.const (.int .i64 1)))), none⟩, ⟨(some 9), (.q (.move (.tmp 83))), none⟩])))))) 
    (.seq 
    (.region [⟨(some 119), (.q (.move (.tmp 0))), none⟩, ⟨(some 120), (.q (.move (.tmp 1))), none⟩, ⟨(some 121), (.q (.move (.tmp 8))), none⟩, ⟨(some 122), (.s (.call 167 [(.tmp 119), (.tmp 120), (.tmp 121)])), none⟩]) 
    (.seq 
    (.seq 
    (.region [⟨(some 123), (.q (.move (.tmp 7))), none⟩]) 
    (.cond (.tmp 123) 
    (.seq 
    (.region [⟨(some 6), (.q (.move (.const (.int .i64 4)))), none⟩]) .ret) .skip)) 
    (.seq 
    (.region [⟨(some 6), (.q (.move (.const (.int .i64 0)))), none⟩]) .ret))))))))
theorem t133 : Told Try.prog 133 124 c133 [(.tmp 6)] := ⟨Try.f133, _, [], Try.func133, rfl, by kernel_rfl, rfl, by kernel_rfl, by kernel_rfl⟩
def c134 : ACode := 
    (.seq 
    (.region [⟨(some 6), (.q (.move (.const (.int .i64 0)))), none⟩]) 
    (.seq 
    (.seq 
    (.region [⟨(some 9), (.q (.move (.tmp 0))), none⟩, ⟨(some 10), (.q (.nonil (.tmp 9))), none⟩, ⟨(some 11), (.q (.fieldAddr 1 (.tmp 10))), none⟩, ⟨(some 12), (.q (.load false 1 (.tmp 11))), none⟩, ⟨(some 13), (.q (.un .not (.tmp 12))), none⟩]) 
    (.cond (.tmp 13) 
    (.seq 
    (.region [⟨(some 6), (.q (.move (.const (.int .i64 4)))), none⟩]) .ret) .skip)) 
    (.seq 
    (.seq 
    (.region [⟨(some 14), (.q (.move (.tmp 1))), none⟩, ⟨(some 15), (.q (.bin .lss (.tmp 14) (.const (.int .i64 0)))), none⟩, ⟨(some 16), (.q (.move (.tmp 15))), none⟩, ⟨(some 17), (.q (.move (.tmp 1))), (some (16, false))⟩, ⟨(some 18), (.q (.move (.tmp 0))), (some (16, false))⟩, ⟨(some 19), (.q (.nonil (.tmp 18))), (some (16, false))⟩, ⟨(some 20), (.q (.fieldAddr 0 (.tmp 19))), (some (16, false))⟩, ⟨(some 21), (.q (.load false 1 (.tmp 20))), (some (16, false))⟩, ⟨(some 22), (.q (.len true (.tmp 21))), (some (16, false))⟩, ⟨(some 23), (.q (.bin .gtr (.tmp 17) (.tmp 22))), (some (16, false))⟩, ⟨(some 24), (.q (.pick (.tmp 16) (.const (.bool true)) (.tmp 23))), none⟩, ⟨(some 25), (.q (.move (.tmp 24))), none⟩, ⟨(some 26), (.q (.move (.tmp 2))), (some (25, false))⟩, ⟨(some 27), (.q (.len true (.tmp 26))), (some (25, false))⟩, ⟨(some 28), (.q (.move (.tmp 0))), (some (25, false))⟩, ⟨(some 29), (.q (.nonil (.tmp 28))), (some (25, false))⟩, ⟨(some 30), (.q (.fieldAddr 0 (.tmp 29))), (some (25, false))⟩, ⟨(some 31), (.q (.load false 1 (.tmp 30))), (some (25, false))⟩, ⟨(some 32), (.q (.len true (.tmp 31))), (some (25, false))⟩, ⟨(some 33), (.q (.move (.tmp 1))), (some (25, false))⟩, ⟨(some 34), (.q (.bin .sub (.tmp 32) (.tmp 33))), (some (25, false))⟩, ⟨(some 35), (.q (.bin .gtr (.tmp 27) (.tmp 34))), (some (25, false))⟩, ⟨(some 36), (.q (.pick (.tmp 25) (.const (.bool true)) (.tmp 35))), none⟩]) 
    (.cond (.tmp 36) 
    (.seq 
    (.region [⟨(some 6), (.q (.move (.const (.int .i64 2)))), none⟩]) .ret) .skip)) 
    (.seq 
    (.block 0 
    (.loop 
    (.seq 
    (.seq 
    (.region [⟨(some 37), (.q (.move (.tmp 2))), none⟩, ⟨(some 38), (.q (.len true (.tmp 37))), none⟩, ⟨(some 39), (.q (.bin .gtr (.tmp 38) (.const (.int .i64 0)))), none⟩]) 
    (.cond (.tmp 39) .skip (.exit 0))) 
    (.block 1 
    (.seq 
    (.region [⟨(some 40), (.q (.move (.tmp 2))), none⟩, ⟨(some 41), (.q (.len true (.tmp 40))), none⟩, ⟨(some 42), (.q (.move (.tmp 1))), none⟩, ⟨(some 43), (.q (.bin .rem (.tmp 42) (.const (.int .i64 32)))), none⟩, ⟨(some 44), (.q (.bin .sub (.const (.int .i64 32)) (.tmp 43))), none⟩, ⟨(some 45), (.q (.best false (.tmp 41) (.tmp 44))), none⟩, ⟨(some 7), (.q (.move (.tmp 45))), none⟩]) 
    (.seq 
    (.seq 
    (.region [⟨(some 46), (.q (.move (.tmp 0))), none⟩, ⟨(some 47), (.q (.move (.tmp 1))), none⟩, ⟨(some 48), (.q (.move (.tmp 2))), none⟩, ⟨(some 49), (.q (.move (.tmp 7))), none⟩, ⟨(some 50), (.q (.sliceStr (.tmp 48) none (some (.tmp 49)))), none⟩, ⟨(some 51), (.s (.call 133 [(.tmp 46), (.tmp 47), (.tmp 50)])), none⟩, ⟨(some 8), (.q (.move (.tmp 51))), none⟩]) 
    (.seq 
    (.region [⟨(some 52), (.q (.move (.tmp 8))), none⟩, ⟨(some 53), (.q (.bin .neq (.tmp 52) (.const (.int .i64 0)))), none⟩]) 
    (.cond (.tmp 53) 
    (.seq 
    (.region [⟨(some 54), (.q (.move (.tmp 8))), none⟩, ⟨(some 6), (.q (.move (.tmp 54))), none⟩]) .ret) .skip))) 
    (.seq 
    (.region [⟨(some 55), (.q (.move (.tmp 1))), none⟩, ⟨(some 56), (.q (.move (.tmp 7))), none⟩, ⟨(some 57), (.q (.bin .add (.tmp 55) (.tmp 56))), none⟩, ⟨(some 1), (.q (.move (.tmp 57))), none⟩]) 
    (.region [⟨(some 58), (.q (.move (.tmp 2))), none⟩, ⟨(some 59), (.q (.move (.tmp 7))), none⟩, ⟨(some 60), (.q (.sliceStr (.tmp 58) (some (.tmp 59)) none)), none⟩, ⟨(some 2), (.q (.move (.tmp 60))), none⟩])))))))) 
    (.seq 
    (.region [⟨(some 6), (.q (.move (.const (.int .i64 0)))), none⟩]) .ret)))))
theorem t134 : Told Try.prog 134 61 c134 [(.tmp 6)] := ⟨Try.f134, _, [], Try.func134, rfl, by kernel_rfl, rfl, by kernel_rfl, by kernel_rfl⟩
end Go.Proofs.Ytfilheaaacffmaa.AL
/- Bytes of which some, from a place on, become others: each by what it was. -/
set_option linter.unusedSimpArgs false
set_option linter.unusedVariables false
namespace Go.Proofs.Ytfilheaaacffmaa.AL
open Go Go.Proofs
/-- n bytes from a place on, each become f's. -/
def mapAt (at_ : Nat) (f : Nat → UInt8 → UInt8) (l : List UInt8) : Nat → List UInt8
  | 0 => l
  | n + 1 => (mapAt at_ f l n).set (at_ + n) (f n (l.getD (at_ + n) 0))
theorem mapAt_len (at_ : Nat) (f : Nat → UInt8 → UInt8) (l : List UInt8) : ∀ n, (mapAt at_ f l n).length = l.length
  | 0 => rfl
  | n + 1 => by rw [mapAt, List.length_set, mapAt_len at_ f l n]
theorem mapAt_get (at_ : Nat) (f : Nat → UInt8 → UInt8) (l : List UInt8) (j : Nat) : ∀ n, at_ + n ≤ l.length → (mapAt at_ f l n).getD j 0 = if at_ ≤ j ∧ j < at_ + n then f (j - at_) (l.getD j 0) else l.getD j 0
  | 0, _ => by rw [mapAt, if_neg (by omega)]
  | n + 1, h => by
    have ih := mapAt_get at_ f l j n (by omega)
    have hl := mapAt_len at_ f l n
    rw [mapAt, List.getD_eq_getElem?_getD]
    by_cases hj : at_ + n = j
    · subst hj
      rw [List.getElem?_set_self (by omega), if_pos (by omega), show at_ + n - at_ = n by omega]
      rfl
    · rw [List.getElem?_set_ne hj, ← List.getD_eq_getElem?_getD, ih]
      by_cases h2 : at_ ≤ j ∧ j < at_ + n
      · rw [if_pos h2, if_pos (by omega)]
      · rw [if_neg h2, if_neg (by omega)]
theorem mapAt_next (at_ : Nat) (f : Nat → UInt8 → UInt8) (l : List UInt8) (n : Nat) (h : at_ + n < l.length) : (mapAt at_ f l n)[at_ + n]? = some (l.getD (at_ + n) 0) := by
  have h1 := mapAt_get at_ f l (at_ + n) n (by omega)
  rw [if_neg (by omega)] at h1
  rw [byte_at (by rw [mapAt_len]; exact h), h1]
/-- The same bytes, one by one. -/
theorem ext_getD {l m : List UInt8} (h : l.length = m.length) (h2 : ∀ j, j < l.length → l.getD j 0 = m.getD j 0) : l = m := by
  apply List.ext_getElem? 
  intro j
  by_cases hj : j < l.length
  · rw [byte_at hj, byte_at (by omega), h2 j hj]
  · rw [List.getElem?_eq_none (by omega), List.getElem?_eq_none (by omega)]
theorem getD_take (l : List UInt8) (n j : Nat) : (l.take n).getD j 0 = if j < n then l.getD j 0 else 0 := by
  rw [List.getD_eq_getElem?_getD, List.getElem?_take]
  split
  · rw [← List.getD_eq_getElem?_getD]
  · rfl
theorem getD_drop (l : List UInt8) (n j : Nat) : (l.drop n).getD j 0 = l.getD (n + j) 0 := by
  rw [List.getD_eq_getElem?_getD, List.getElem?_drop, ← List.getD_eq_getElem?_getD]
theorem getD_app (l m : List UInt8) (j : Nat) : (l ++ m).getD j 0 = if j < l.length then l.getD j 0 else m.getD (j - l.length) 0 := by
  rw [List.getD_eq_getElem?_getD]
  split
  · rw [List.getElem?_append_left (by assumption), ← List.getD_eq_getElem?_getD]
  · rw [List.getElem?_append_right (by omega), ← List.getD_eq_getElem?_getD]
/-- Part of it, changed by itself and put back, is the same. -/
theorem mapAt_put (at_ n : Nat) (f : Nat → UInt8 → UInt8) (l : List UInt8) (h : at_ + n ≤ l.length) : l.take at_ ++ (mapAt 0 f ((l.take (at_ + n)).drop at_) n ++ l.drop (at_ + n)) = mapAt at_ f l n := by
  have hl : (mapAt 0 f ((l.take (at_ + n)).drop at_) n).length = n := by rw [mapAt_len]; simp; omega
  apply ext_getD
  · rw [mapAt_len, List.length_append, List.length_append, hl]
    simp
    omega
  · intro j hj
    rw [List.length_append, List.length_append, hl] at hj
    simp only [List.length_take, List.length_drop] at hj
    rw [mapAt_get _ _ _ _ _ h, getD_app]
    simp only [List.length_take]
    by_cases h1 : j < at_
    · rw [if_pos (by omega), getD_take, if_pos h1, if_neg (by omega)]
    · rw [if_neg (by omega), show j - min at_ l.length = j - at_ by omega, getD_app, hl]
      by_cases h2 : j - at_ < n
      · rw [if_pos h2, mapAt_get _ _ _ _ _ (by simp; omega), if_pos (by omega), if_pos (by omega), getD_drop, getD_take, if_pos (by omega), Nat.sub_zero, show at_ + (j - at_) = j by omega]
      · rw [if_neg h2, getD_drop, if_neg (by omega), show at_ + n + (j - at_ - n) = j by omega]
end Go.Proofs.Ytfilheaaacffmaa.AL
/- bytes.Repeat of one byte, as often as a flash has bytes, told. -/
set_option linter.unusedSimpArgs false
set_option linter.unusedVariables false
set_option maxRecDepth 100000
namespace Go.Proofs.Ytfilheaaacffmaa.AL
open Go Go.Proofs
attribute [local go_sem] go_seq go_skip go_region go_regionN go_fregion rgF_some go_cond go_block go_exit go_ret nxt_nil nxt_code nxt_blk nxt_cut leave_nil leave_code leave_cut leave_blk rtn_nil rtn_code rtn_blk rtn_cut cnd_t cnd_f rgn_nil rgY_some rgY_none rgH_some rgP_some retTo_is rgV_func grd_und grd_tt grd_ff grd_tf grd_ft rgn_q rgn_alloc rgn_box rgn_store rgn_lit rgn_litw litCells_nil litCells_cons rgn_app rgn_copy rgn_mk rgn_s2b rgn_call rgn_callv rgn_stop rgn_slice3 aslice3 rgn_put rgn_mkmap rgn_lookup rgn_mapup alookup_nilm alookup_map amapup_map afound_ok afound_no rgn_c rgn_cv qclV_func aloadr rgn_guard post_ret post_normal retY_some ares aresL ares1 AX.ev aput List.getD_cons_zero List.getD_cons_succ List.set_cons_zero List.set_cons_succ List.map_cons List.map_nil aq abin aint astr abeq aconv asame aextract alenS alenL_nils alenL_emp alenL_imm alenL_wr aun apart aload afieldAddr afield aidxSl_wr aidxSl_imm aidxPt aidxStr aidxArr abound asliceStr asliceSl asliceArr abest anonil afill astore acells_nils acells_emp acells_imm acells_wr acells_str acopy litAll amk as2b anil nilOf aseq aeqs aeqv fits fit1 hp_next hp_push hp_get hp_set List.length_cons List.length_nil List.getElem?_cons_zero List.getElem?_cons_succ List.cons_append List.nil_append List.append_nil List.take_succ_cons List.take_zero List.drop_succ_cons List.drop_zero List.all_cons List.all_nil Option.map_some Option.some.injEq Bool.and_true Bool.true_and Bool.false_eq_true if_true if_false ite_true ite_false Bool.and_self true_and and_true and_self Nat.zero_add Nat.le_refl Int.toNat_natCast beq_self_eq_true eq_self tops_zero tops_succ Int.natCast_nonneg List.take_nil List.drop_nil Option.map_none flat_bool one_bool cells_bool flat_int one_int cells_int flat_str one_str cells_str flat_nilp one_nilp cells_nilp flat_ptr one_ptr cells_ptr flat_nils one_nils cells_nils flat_imm one_imm cells_imm flat_wr one_wr cells_wr flat_func one_func cells_func flat_nilf one_nilf cells_nilf flat_map one_map cells_map flat_nilm one_nilm cells_nilm flat_iface one_iface cells_iface flat_nili one_nili cells_nili flat_rd one_rd cells_rd flat_emp one_emp cells_emp flat_byteV one_byteV cells_byteV flat_agg cells_agg one_agg B_size B_list B_ext B_toList B_app List.take_length Int.le_refl
theorem mnz_a {n : Nat} (hn : n ≤ 281474976710656) {H : AHeap} {K : AV → AHeap → Prop} (h : K (.wr H.next 0 0 n 1) (H.push (.row 5 0 (List.replicate n .top)))) : (ACalls Try.prog) 130 [.int .i64 (n : Int)] H K :=
  acalls_ext fun g w vs hS hR => by
    obtain ⟨u, rfl, h1⟩ := reps_one hR
    have e1 := int_inv h1
    subst e1
    obtain ⟨cs, hr, hc1, hc2⟩ := Lib.run_makeNoZero (P := Try.prog) w #[3] 107 5 (by kernel_rfl) n hn
    have hm : n ≤ maxLen := by simp only [maxLen]; omega
    have hc3 := hc2 hm
    have hcs : cs = cs.extract 0 n ++ cs.extract n cs.size := by simp [Nat.min_eq_right hc1, Nat.max_eq_right hc1]
    have hrp : Reps g w (cs.extract 0 n) (List.replicate n .top) := by
      refine ⟨by simp; omega, fun i v y hv hy => ?_⟩
      rw [List.getElem?_replicate] at hy
      split at hy
      · cases hy; exact .top v
      · cases hy
    obtain ⟨hE, hS2, hm2, hsh⟩ := sim_push (w' := w.drew.drew.alloc (.cells cs 5)) (e := 5) (pad := cs.extract n cs.size) (lo := 0) (hi := 0) hS hrp (by rw [← hcs]; rfl) (fun i _ => by omega) rfl rfl rfl
    refine ⟨.slice (some ⟨w.heap.size, 0, none⟩) n cs.size, w.drew.drew.alloc (.cells cs 5), _, _, _, ?_, hE, hS2, ?_, h⟩
    · rw [run_callFunc_extern Try.func130 (by kernel_rfl) (by kernel_rfl) (by kernel_rfl) (e := Extern.BytealgMakeNoZero.makeNoZero #[3] #[107]) (by kernel_rfl)]
      simp [hr, Result.andThen]
    · rw [← hcs] at hsh
      exact .wr _ _ _ _ _ w.heap.size cs.size 5 cs.size hm2 hsh (by omega) hc1 (by simp only [maxLen] at hc3; omega)
theorem mul64_a {H : AHeap} {K : AV → AHeap → Prop} (h : K (.tup [.int .u64 0, .int .u64 24576]) H) : (ACalls Try.prog) 165 [.int .u64 1, .int .u64 24576] H K := by
  refine acalls_go mo t165 (fun hs hu => ?_)
  have f1 : bits BinOp.and .u64 1 4294967295 = 1 := by decide
  have f2 : bits BinOp.and .u64 24576 4294967295 = 24576 := by decide
  have f3 : bits BinOp.and .u64 0 4294967295 = 0 := by decide
  have f4 : ashift false .u64 1 32 = some (.int .u64 0) := by rfl
  have f5 : ashift false .u64 24576 32 = some (.int .u64 0) := by rfl
  have f6 : ashift false .u64 0 32 = some (.int .u64 0) := by rfl
  have f7 : IntKind.wrap .u64 24576 = 24576 := by decide
  have f8 : IntKind.wrap .u64 0 = 0 := by decide
  simp only [c165, f1, f2, f3, f4, f5, f6, f7, f8, Int.one_mul, Int.zero_mul, Int.mul_zero, Int.zero_add, Int.add_zero, go_sem, Nat.reduceLeDiff, Nat.reduceAdd, Nat.reduceSub, Nat.reduceMul, Nat.reduceLT, Int.reduceLT, Int.reduceLE, Int.reduceAdd, Int.reduceSub, Int.reduceMul, Int.reduceToNat, Int.reduceNeg, Int.reduceEq, Nat.reducePow, Int.reducePow, Nat.reduceEqDiff, decide_true, decide_false, reduceIte, reduceCtorEq, Int.reduceBEq, Int.reduceBNe, bne_self_eq_false, Int.cast_ofNat_Int, Bool.not_true, Bool.not_false, IntKind.bits]
  exact aret_plain hs (by simp only [u_top, u_bool, u_int, u_str, u_nilp, u_nils, u_nilf, u_nilm, u_nili, u_emp, u_byteV, u_ptr, u_wr, u_agg, u_tup, u_rd, u_imm, u_func, u_nil, u_cons, u_app, uc_nil, uc_cons, uc_app, u_bytes, uc_bytes, u_ints, uc_ints, cells_bool, cells_int, cells_str, cells_agg, cells_ptr, cells_nils, cells_imm, cells_wr, cells_nilp, cells_nilf, cells_nilm, cells_rd, cells_emp, cells_byteV, cells_func, and_self, and_true, true_and, u_slA, uc_strs, cells_slA, strV_is]) (h)
theorem mul_a {H : AHeap} {K : AV → AHeap → Prop} (h : K (.tup [.int .u64 0, .int .u64 24576]) H) : (ACalls Try.prog) 129 [.int .u64 1, .int .u64 24576] H K := by
  refine acalls_go mo t129 (fun hs hu => ?_)
  simp only [c129, go_sem, Nat.reduceLeDiff, Nat.reduceAdd, Nat.reduceSub, Nat.reduceMul, Nat.reduceLT, Int.reduceLT, Int.reduceLE, Int.reduceAdd, Int.reduceSub, Int.reduceMul, Int.reduceToNat, Int.reduceNeg, Int.reduceEq, Nat.reducePow, Int.reducePow, Nat.reduceEqDiff, decide_true, decide_false, reduceIte, reduceCtorEq, Int.reduceBEq, Int.reduceBNe, bne_self_eq_false, Int.cast_ofNat_Int, Bool.not_true, Bool.not_false, IntKind.bits]
  refine mul64_a ?_
  simp (maxSteps := 4000000) (disch := (first | omega | (simp only [set_next, List.length_append, List.length_cons, List.length_nil, List.length_take, List.length_drop, List.length_map, List.length_set, List.length_replicate]; omega) | (simp only [set_next, ne_eq, reduceCtorEq, not_false_eq_true]))) only [go_sem, Nat.reduceLeDiff, Nat.reduceAdd, Nat.reduceSub, Nat.reduceMul, Nat.reduceLT, Int.reduceLT, Int.reduceLE, Int.reduceAdd, Int.reduceSub, Int.reduceMul, Int.reduceToNat, Int.reduceNeg, Int.reduceEq, Nat.reducePow, Int.reducePow, Nat.reduceEqDiff, decide_true, decide_false, reduceIte, reduceCtorEq, Int.reduceBEq, Int.reduceBNe, bne_self_eq_false, Int.cast_ofNat_Int, Bool.not_true, Bool.not_false, IntKind.bits, w_nat, w_lit, w_add, w_addl, w_ladd, w_sub, w_subl, w_lsub, w_mul, w_mull, w_lmul, t_div, t_divl, t_mod, t_modl, i_lt, i_ltl, i_llt, i_le, i_lel, i_lle, i_eq, i_eql, i_leq, Nat.zero_le, d_beq, d_bne, d_bytes, byte_at, Int.toNat_natCast, toNat_lit, decide_eq_true, decide_eq_false, if_pos, if_neg, slA_len, slA_idx, slA_cells, flat_slA, one_slA, cells_slA, map_mid, strV_is, hp_get1, hp_get2, hp_get3, hp_set1, hp_set2, hp_set3, hp_old, hp_sold, set_got, set_set, set_next, set_other, bytesL, bytes_all, List.length_map, aapp_nils, aapp_wr, List.flatMap_cons, List.flatMap_nil, Nat.mul_one]
  exact aret_plain hs (by simp only [u_top, u_bool, u_int, u_str, u_nilp, u_nils, u_nilf, u_nilm, u_nili, u_emp, u_byteV, u_ptr, u_wr, u_agg, u_tup, u_rd, u_imm, u_func, u_nil, u_cons, u_app, uc_nil, uc_cons, uc_app, u_bytes, uc_bytes, u_ints, uc_ints, cells_bool, cells_int, cells_str, cells_agg, cells_ptr, cells_nils, cells_imm, cells_wr, cells_nilp, cells_nilf, cells_nilm, cells_rd, cells_emp, cells_byteV, cells_func, and_self, and_true, true_and, u_slA, uc_strs, cells_slA, strV_is]) (h)
/-- The first m cells told, the others not. -/
def rp (y : AV) (m : Nat) : List AV := List.replicate m y ++ List.replicate (24576 - m) .top
theorem rp_len {y : AV} {m : Nat} (h : m ≤ 24576) : (rp y m).length = 24576 := by
  unfold rp
  rw [List.length_append, List.length_replicate, List.length_replicate]
  omega
theorem rp_take {y : AV} {m c : Nat} (h : c ≤ m) : (rp y m).take c = List.replicate c y := by
  unfold rp
  rw [List.take_append_of_le_length (by rw [List.length_replicate]; exact h), List.take_replicate, Nat.min_eq_left h]
theorem rp_drop {y : AV} {m c : Nat} (h : m ≤ c) : (rp y m).drop c = List.replicate (24576 - c) .top := by
  unfold rp
  rw [List.drop_append, List.length_replicate, List.drop_of_length_le (by rw [List.length_replicate]; exact h), List.drop_replicate, List.nil_append, show 24576 - m - (c - m) = 24576 - c by omega]
theorem rp_copy {y : AV} {m k c : Nat} (h : k ≤ c) (h2 : c ≤ m) : (rp y m).take m ++ (List.replicate c y).take k ++ (rp y m).drop (m + k) = rp y (m + k) := by
  rw [rp_take (Nat.le_refl _), rp_drop (by omega), List.take_replicate, Nat.min_eq_left h, List.replicate_append_replicate]
  rfl
theorem rp_zero (y : AV) : List.replicate 24576 .top = rp y 0 := by
  unfold rp
  rw [List.replicate_zero, List.nil_append, Nat.sub_zero]
theorem rp_one (y : AV) : y :: (rp y 0).drop 1 = rp y 1 := by
  rw [rp_drop (by omega)]
  rfl
theorem rp_full (c : UInt8) : rp (byteV c) 24576 = (List.replicate 24576 c).map byteV := by
  unfold rp
  rw [Nat.sub_self, List.replicate_zero, List.append_nil, List.map_replicate]
theorem rep_ones {y : AV} (h : y.one = true) (n : Nat) : (List.replicate n y).all AV.one = true := by
  rw [List.all_eq_true]
  intro x hx
  rw [List.eq_of_mem_replicate hx]
  exact h
theorem rp_under {y : AV} {n m : Nat} (h : y.under n) : ∀ x ∈ rp y m, x.under n := by
  intro x hx
  unfold rp at hx
  rcases List.mem_append.1 hx with h1 | h1
  · rw [List.eq_of_mem_replicate h1]; exact h
  · rw [List.eq_of_mem_replicate h1]; exact .top
theorem repeat_a {c : UInt8} {H : AHeap} {K : AV → AHeap → Prop} (h : K (.wr (H.next + 0) 0 0 24576 1) (hp H [.row 5 0 ((List.replicate 24576 c).map byteV)])) : (ACalls Try.prog) 66 [.imm 1 [byteV c], .int .i64 24576] H K := by
  refine acalls_go mo t66 (fun hs hu => ?_)
  have f7 : IntKind.wrap .u64 24576 = 24576 := by decide
  have f8 : IntKind.wrap .i64 24576 = 24576 := by decide
  have f9 : IntKind.wrap .u64 1 = 1 := by decide
  have f10 : Int.tdiv 8192 1 = 8192 := by decide
  simp only [c66, f7, f8, f9, f10, List.length_cons, List.length_nil, go_sem, Nat.reduceLeDiff, Nat.reduceAdd, Nat.reduceSub, Nat.reduceMul, Nat.reduceLT, Int.reduceLT, Int.reduceLE, Int.reduceAdd, Int.reduceSub, Int.reduceMul, Int.reduceToNat, Int.reduceNeg, Int.reduceEq, Nat.reducePow, Int.reducePow, Nat.reduceEqDiff, decide_true, decide_false, reduceIte, reduceCtorEq, Int.reduceBEq, Int.reduceBNe, bne_self_eq_false, Int.cast_ofNat_Int, Bool.not_true, Bool.not_false, IntKind.bits]
  refine mul_a ?_
  simp only [f7, f8, f9, f10, List.length_cons, List.length_nil, go_sem, Nat.reduceLeDiff, Nat.reduceAdd, Nat.reduceSub, Nat.reduceMul, Nat.reduceLT, Int.reduceLT, Int.reduceLE, Int.reduceAdd, Int.reduceSub, Int.reduceMul, Int.reduceToNat, Int.reduceNeg, Int.reduceEq, Nat.reducePow, Int.reducePow, Nat.reduceEqDiff, decide_true, decide_false, reduceIte, reduceCtorEq, Int.reduceBEq, Int.reduceBNe, bne_self_eq_false, Int.cast_ofNat_Int, Bool.not_true, Bool.not_false, IntKind.bits]
  simp (maxSteps := 4000000) (disch := (first | omega | (simp only [set_next, List.length_append, List.length_cons, List.length_nil, List.length_take, List.length_drop, List.length_map, List.length_set, List.length_replicate]; omega) | (simp only [set_next, ne_eq, reduceCtorEq, not_false_eq_true]))) only [f7, f8, f9, f10, go_sem, Nat.reduceLeDiff, Nat.reduceAdd, Nat.reduceSub, Nat.reduceMul, Nat.reduceLT, Int.reduceLT, Int.reduceLE, Int.reduceAdd, Int.reduceSub, Int.reduceMul, Int.reduceToNat, Int.reduceNeg, Int.reduceEq, Nat.reducePow, Int.reducePow, Nat.reduceEqDiff, decide_true, decide_false, reduceIte, reduceCtorEq, Int.reduceBEq, Int.reduceBNe, bne_self_eq_false, Int.cast_ofNat_Int, Bool.not_true, Bool.not_false, IntKind.bits, w_nat, w_lit, w_add, w_addl, w_ladd, w_sub, w_subl, w_lsub, w_mul, w_mull, w_lmul, t_div, t_divl, t_mod, t_modl, i_lt, i_ltl, i_llt, i_le, i_lel, i_lle, i_eq, i_eql, i_leq, Nat.zero_le, d_beq, d_bne, d_bytes, byte_at, Int.toNat_natCast, toNat_lit, decide_eq_true, decide_eq_false, if_pos, if_neg, slA_len, slA_idx, slA_cells, flat_slA, one_slA, cells_slA, map_mid, strV_is, hp_get1, hp_get2, hp_get3, hp_set1, hp_set2, hp_set3, hp_old, hp_sold, set_got, set_set, set_next, set_other, bytesL, bytes_all, List.length_map, aapp_nils, aapp_wr, List.flatMap_cons, List.flatMap_nil, Nat.mul_one]
  refine mnz_a (n := 24576) (by decide) ?_
  have h1 : (byteV c).one = true := rfl
  have h2 : (byteV c).cells = [byteV c] := rfl
  rw [rp_zero (byteV c), ← rp_full] at *
  have hy : ∀ n, (byteV c).under n := fun n => .int _ _
  generalize byteV c = y at *
  have hl0 : (rp y 0).length = 24576 := rp_len (by omega)
  have f11 : min 1 24576 = 1 := rfl
  have f12 : ([y] : List AV).take 1 = [y] := rfl
  simp (maxSteps := 4000000) (disch := (first | omega | (simp only [set_next, List.length_append, List.length_cons, List.length_nil, List.length_take, List.length_drop, List.length_map, List.length_set, List.length_replicate]; omega) | (simp only [set_next, ne_eq, reduceCtorEq, not_false_eq_true]))) only [f7, f8, f9, f10, hl0, h1, h2, f11, f12, rp_one, List.cons_append, List.nil_append, go_sem, Nat.reduceLeDiff, Nat.reduceAdd, Nat.reduceSub, Nat.reduceMul, Nat.reduceLT, Int.reduceLT, Int.reduceLE, Int.reduceAdd, Int.reduceSub, Int.reduceMul, Int.reduceToNat, Int.reduceNeg, Int.reduceEq, Nat.reducePow, Int.reducePow, Nat.reduceEqDiff, decide_true, decide_false, reduceIte, reduceCtorEq, Int.reduceBEq, Int.reduceBNe, bne_self_eq_false, Int.cast_ofNat_Int, Bool.not_true, Bool.not_false, IntKind.bits, w_nat, w_lit, w_add, w_addl, w_ladd, w_sub, w_subl, w_lsub, w_mul, w_mull, w_lmul, t_div, t_divl, t_mod, t_modl, i_lt, i_ltl, i_llt, i_le, i_lel, i_lle, i_eq, i_eql, i_leq, Nat.zero_le, d_beq, d_bne, d_bytes, byte_at, Int.toNat_natCast, toNat_lit, decide_eq_true, decide_eq_false, if_pos, if_neg, slA_len, slA_idx, slA_cells, flat_slA, one_slA, cells_slA, map_mid, strV_is, hp_get1, hp_get2, hp_get3, hp_set1, hp_set2, hp_set3, hp_old, hp_sold, set_got, set_set, set_next, set_other, bytesL, bytes_all, List.length_map, aapp_nils, aapp_wr, List.flatMap_cons, List.flatMap_nil, Nat.mul_one]
  refine go_loopS mono (σ := Nat) (fun m => [(10, .int .i64 (m : Int))]) (fun m => hp H [.row 5 0 (rp y m)]) (fun m => 1 ≤ m ∧ m ≤ 24576) (fun m => 24576 - m) 1 ?_ rfl ⟨by omega, by omega⟩ (fun m hm J hJ => ?_)
  · (simp only [blurR_nil, blurR_some, blurR_none, blurC_region, blurC_regionN, blurC_fregion, blurT_nil, blurT_cons, blurC_seq, blurC_cond, blurC_block, blurC_loop, blurC_skip, blurC_exit, blurC_ret, tellS_nil, tellS_cons, List.set_cons_zero, List.set_cons_succ, tops_zero, tops_succ]; repeat first | exact forget_nil | apply forget_keep | apply forget_top)
  · obtain ⟨m1, m2⟩ := hm
    simp only [blurR_nil, blurR_some, blurR_none, blurC_region, blurC_regionN, blurC_fregion, blurT_nil, blurT_cons, blurC_seq, blurC_cond, blurC_block, blurC_loop, blurC_skip, blurC_exit, blurC_ret, tellS_nil, tellS_cons, List.set_cons_zero, List.set_cons_succ, tops_zero, tops_succ]
    have hlm : (rp y m).length = 24576 := rp_len m2
    by_cases h3 : m < 24576
    · have h1m : ¬ (m = 0) := by omega
      by_cases h5 : 8192 < m
      · have ht : (rp y m).take 8192 = List.replicate 8192 y := rp_take (by omega)
        have hk : min 8192 (24576 - m) ≤ 8192 := Nat.min_le_left _ _
        have hk2 : min 8192 (24576 - m) ≤ 24576 - m := Nat.min_le_right _ _
        have hk3 : 0 < min 8192 (24576 - m) := by omega
        generalize hkk : min 8192 (24576 - m) = k at hk hk2 hk3
        have hc := rp_copy (y := y) hk (Nat.le_of_lt h5)
        have hro := rep_ones h1 8192
        simp (maxSteps := 4000000) (disch := (first | omega | (simp only [set_next, List.length_append, List.length_cons, List.length_nil, List.length_take, List.length_drop, List.length_map, List.length_set, List.length_replicate]; omega) | (simp only [set_next, ne_eq, reduceCtorEq, not_false_eq_true]))) only [hlm, ht, hkk, hc, hro, h1m, or_true, true_or, or_self, if_true, go_sem, Nat.reduceLeDiff, Nat.reduceAdd, Nat.reduceSub, Nat.reduceMul, Nat.reduceLT, Int.reduceLT, Int.reduceLE, Int.reduceAdd, Int.reduceSub, Int.reduceMul, Int.reduceToNat, Int.reduceNeg, Int.reduceEq, Nat.reducePow, Int.reducePow, Nat.reduceEqDiff, decide_true, decide_false, reduceIte, reduceCtorEq, Int.reduceBEq, Int.reduceBNe, bne_self_eq_false, Int.cast_ofNat_Int, Bool.not_true, Bool.not_false, IntKind.bits, w_nat, w_lit, w_add, w_addl, w_ladd, w_sub, w_subl, w_lsub, w_mul, w_mull, w_lmul, t_div, t_divl, t_mod, t_modl, i_lt, i_ltl, i_llt, i_le, i_lel, i_lle, i_eq, i_eql, i_leq, Nat.zero_le, d_beq, d_bne, d_bytes, byte_at, Int.toNat_natCast, toNat_lit, decide_eq_true, decide_eq_false, if_pos, if_neg, slA_len, slA_idx, slA_cells, flat_slA, one_slA, cells_slA, map_mid, strV_is, hp_get1, hp_get2, hp_get3, hp_set1, hp_set2, hp_set3, hp_old, hp_sold, set_got, set_set, set_next, set_other, bytesL, bytes_all, List.length_map, aapp_nils, aapp_wr, List.flatMap_cons, List.flatMap_nil, Nat.mul_one]
        exact hJ (m + k) _ ⟨by omega, by omega⟩ (by omega) (by (simp only [blurR_nil, blurR_some, blurR_none, blurC_region, blurC_regionN, blurC_fregion, blurT_nil, blurT_cons, blurC_seq, blurC_cond, blurC_block, blurC_loop, blurC_skip, blurC_exit, blurC_ret, tellS_nil, tellS_cons, List.set_cons_zero, List.set_cons_succ, tops_zero, tops_succ]; repeat first | exact forget_nil | apply forget_keep | apply forget_top))
      · have ht : (rp y m).take m = List.replicate m y := rp_take (by omega)
        have hk : min m (24576 - m) ≤ m := Nat.min_le_left _ _
        have hk2 : min m (24576 - m) ≤ 24576 - m := Nat.min_le_right _ _
        have hk3 : 0 < min m (24576 - m) := by omega
        generalize hkk : min m (24576 - m) = k at hk hk2 hk3
        have hc := rp_copy (y := y) hk (Nat.le_refl _)
        rw [ht] at hc
        have hro := rep_ones h1 m
        simp (maxSteps := 4000000) (disch := (first | omega | (simp only [set_next, List.length_append, List.length_cons, List.length_nil, List.length_take, List.length_drop, List.length_map, List.length_set, List.length_replicate]; omega) | (simp only [set_next, ne_eq, reduceCtorEq, not_false_eq_true]))) only [hlm, ht, hkk, hc, hro, h1m, Nat.sub_zero, or_true, true_or, or_self, if_true, go_sem, Nat.reduceLeDiff, Nat.reduceAdd, Nat.reduceSub, Nat.reduceMul, Nat.reduceLT, Int.reduceLT, Int.reduceLE, Int.reduceAdd, Int.reduceSub, Int.reduceMul, Int.reduceToNat, Int.reduceNeg, Int.reduceEq, Nat.reducePow, Int.reducePow, Nat.reduceEqDiff, decide_true, decide_false, reduceIte, reduceCtorEq, Int.reduceBEq, Int.reduceBNe, bne_self_eq_false, Int.cast_ofNat_Int, Bool.not_true, Bool.not_false, IntKind.bits, w_nat, w_lit, w_add, w_addl, w_ladd, w_sub, w_subl, w_lsub, w_mul, w_mull, w_lmul, t_div, t_divl, t_mod, t_modl, i_lt, i_ltl, i_llt, i_le, i_lel, i_lle, i_eq, i_eql, i_leq, Nat.zero_le, d_beq, d_bne, d_bytes, byte_at, Int.toNat_natCast, toNat_lit, decide_eq_true, decide_eq_false, if_pos, if_neg, slA_len, slA_idx, slA_cells, flat_slA, one_slA, cells_slA, map_mid, strV_is, hp_get1, hp_get2, hp_get3, hp_set1, hp_set2, hp_set3, hp_old, hp_sold, set_got, set_set, set_next, set_other, bytesL, bytes_all, List.length_map, aapp_nils, aapp_wr, List.flatMap_cons, List.flatMap_nil, Nat.mul_one]
        exact hJ (m + k) _ ⟨by omega, by omega⟩ (by omega) (by (simp only [blurR_nil, blurR_some, blurR_none, blurC_region, blurC_regionN, blurC_fregion, blurT_nil, blurT_cons, blurC_seq, blurC_cond, blurC_block, blurC_loop, blurC_skip, blurC_exit, blurC_ret, tellS_nil, tellS_cons, List.set_cons_zero, List.set_cons_succ, tops_zero, tops_succ]; repeat first | exact forget_nil | apply forget_keep | apply forget_top))
    · have h4 : m = 24576 := by omega
      subst h4
      simp (maxSteps := 4000000) (disch := (first | omega | (simp only [set_next, List.length_append, List.length_cons, List.length_nil, List.length_take, List.length_drop, List.length_map, List.length_set, List.length_replicate]; omega) | (simp only [set_next, ne_eq, reduceCtorEq, not_false_eq_true]))) only [go_sem, Nat.reduceLeDiff, Nat.reduceAdd, Nat.reduceSub, Nat.reduceMul, Nat.reduceLT, Int.reduceLT, Int.reduceLE, Int.reduceAdd, Int.reduceSub, Int.reduceMul, Int.reduceToNat, Int.reduceNeg, Int.reduceEq, Nat.reducePow, Int.reducePow, Nat.reduceEqDiff, decide_true, decide_false, reduceIte, reduceCtorEq, Int.reduceBEq, Int.reduceBNe, bne_self_eq_false, Int.cast_ofNat_Int, Bool.not_true, Bool.not_false, IntKind.bits, w_nat, w_lit, w_add, w_addl, w_ladd, w_sub, w_subl, w_lsub, w_mul, w_mull, w_lmul, t_div, t_divl, t_mod, t_modl, i_lt, i_ltl, i_llt, i_le, i_lel, i_lle, i_eq, i_eql, i_leq, Nat.zero_le, d_beq, d_bne, d_bytes, byte_at, Int.toNat_natCast, toNat_lit, decide_eq_true, decide_eq_false, if_pos, if_neg, slA_len, slA_idx, slA_cells, flat_slA, one_slA, cells_slA, map_mid, strV_is, hp_get1, hp_get2, hp_get3, hp_set1, hp_set2, hp_set3, hp_old, hp_sold, set_got, set_set, set_next, set_other, bytesL, bytes_all, List.length_map, aapp_nils, aapp_wr, List.flatMap_cons, List.flatMap_nil, Nat.mul_one]
      exact aret_stay hs (fun o ho => by rw [List.mem_singleton.1 ho]; exact rp_under (hy _)) (.wr _ _ _ _ _ (by simp)) h
end Go.Proofs.Ytfilheaaacffmaa.AL
/- A flash's chip told: its rows, and what is asked of it. -/
set_option linter.unusedSimpArgs false
set_option linter.unusedVariables false
set_option maxRecDepth 100000
namespace Go.Proofs.Ytfilheaaacffmaa.AL
open Go Go.Proofs
attribute [local go_sem] go_seq go_skip go_region go_regionN go_fregion rgF_some go_cond go_block go_exit go_ret nxt_nil nxt_code nxt_blk nxt_cut leave_nil leave_code leave_cut leave_blk rtn_nil rtn_code rtn_blk rtn_cut cnd_t cnd_f rgn_nil rgY_some rgY_none rgH_some rgP_some retTo_is rgV_func grd_und grd_tt grd_ff grd_tf grd_ft rgn_q rgn_alloc rgn_box rgn_store rgn_lit rgn_litw litCells_nil litCells_cons rgn_app rgn_copy rgn_mk rgn_s2b rgn_call rgn_callv rgn_stop rgn_slice3 aslice3 rgn_put rgn_mkmap rgn_lookup rgn_mapup alookup_nilm alookup_map amapup_map afound_ok afound_no rgn_c rgn_cv qclV_func aloadr rgn_guard post_ret post_normal retY_some ares aresL ares1 AX.ev aput List.getD_cons_zero List.getD_cons_succ List.set_cons_zero List.set_cons_succ List.map_cons List.map_nil aq abin aint astr abeq aconv asame aextract alenS alenL_nils alenL_emp alenL_imm alenL_wr aun apart aload afieldAddr afield aidxSl_wr aidxSl_imm aidxPt aidxStr aidxArr abound asliceStr asliceSl asliceArr abest anonil afill astore acells_nils acells_emp acells_imm acells_wr acells_str acopy litAll amk as2b anil nilOf aseq aeqs aeqv fits fit1 hp_next hp_push hp_get hp_set List.length_cons List.length_nil List.getElem?_cons_zero List.getElem?_cons_succ List.cons_append List.nil_append List.append_nil List.take_succ_cons List.take_zero List.drop_succ_cons List.drop_zero List.all_cons List.all_nil Option.map_some Option.some.injEq Bool.and_true Bool.true_and Bool.false_eq_true if_true if_false ite_true ite_false Bool.and_self true_and and_true and_self Nat.zero_add Nat.le_refl Int.toNat_natCast beq_self_eq_true eq_self tops_zero tops_succ Int.natCast_nonneg List.take_nil List.drop_nil Option.map_none flat_bool one_bool cells_bool flat_int one_int cells_int flat_str one_str cells_str flat_nilp one_nilp cells_nilp flat_ptr one_ptr cells_ptr flat_nils one_nils cells_nils flat_imm one_imm cells_imm flat_wr one_wr cells_wr flat_func one_func cells_func flat_nilf one_nilf cells_nilf flat_map one_map cells_map flat_nilm one_nilm cells_nilm flat_iface one_iface cells_iface flat_nili one_nili cells_nili flat_rd one_rd cells_rd flat_emp one_emp cells_emp flat_byteV one_byteV cells_byteV flat_agg cells_agg one_agg B_size B_list B_ext B_toList B_app List.take_length Int.le_refl
theorem b2s_at {H : AHeap} {id gen o n : Nat} {e : TypeId} {l : List UInt8} (h : H.get id = some (.row e gen (l.map byteV))) (hn : o + n ≤ l.length) : ab2s H (.wr id gen o n 1) = some (.str (B ((l.drop o).take n))) := by
  have : aelems H (.wr id gen o n 1) = some (((l.drop o).take n).map byteV) := by
    simp only [aelems, h]
    rw [if_pos ⟨trivial, by simpa using hn⟩, List.map_take, List.map_drop]
  simp only [ab2s, this, Option.bind_some, bytes_mapM, Option.map_some]
  rfl
structure Chp where
  l : List UInt8
  on : Bool
  fuse : Int
  torn : List UInt8
  ops : Int
def Chp.row (x : Chp) (b : Nat) : List AV := [.wr b 0 0 24576 1, .bool x.on, .int .i64 x.fuse, .str (B x.torn), .int .i64 x.ops]
theorem Chp.row_is (x : Chp) (b : Nat) : x.row b = [.wr b 0 0 24576 1, .bool x.on, .int .i64 x.fuse, .str (B x.torn), .int .i64 x.ops] := rfl
/-- The heap with a chip's two rows. -/
def chipAt (H : AHeap) (b c : Nat) (x : Chp) : AHeap := (H.set c (.row 110 0 (x.row b))).set b (.row 5 0 (x.l.map byteV))
structure ChipOk (H : AHeap) (b c : Nat) : Prop where
  ne : b ≠ c
  b : b < H.next
  c : c < H.next
theorem chip_next (H : AHeap) (b c : Nat) (x : Chp) : (chipAt H b c x).next = H.next := rfl
theorem chip_c {H : AHeap} {b c : Nat} (h : ChipOk H b c) (x : Chp) : (chipAt H b c x).get c = some (.row 110 0 (x.row b)) := by
  unfold chipAt
  rw [set_other h.ne.symm, set_got h.c]
theorem chip_b {H : AHeap} {b c : Nat} (h : ChipOk H b c) (x : Chp) : (chipAt H b c x).get b = some (.row 5 0 (x.l.map byteV)) := by
  unfold chipAt
  rw [set_got (by rw [set_next]; exact h.b)]
theorem chip_o {H : AHeap} {b c i : Nat} (x : Chp) (h1 : i ≠ b) (h2 : i ≠ c) : (chipAt H b c x).get i = H.get i := by
  unfold chipAt
  rw [set_other h1, set_other h2]
theorem chip_setc {H : AHeap} {b c : Nat} (h : ChipOk H b c) {x : Chp} (y : Chp) (hy : y.l = x.l) : (chipAt H b c x).set c (.row 110 0 (y.row b)) = chipAt H b c y := by
  unfold chipAt
  rw [set_swap h.ne, set_set, hy]
theorem chip_setb {H : AHeap} {b c : Nat} (x : Chp) (m : List UInt8) : (chipAt H b c x).set b (.row 5 0 (m.map byteV)) = chipAt H b c { x with l := m } := by
  unfold chipAt
  rw [set_set]
  rfl
theorem hp_chip {H : AHeap} {b c : Nat} (ok : ChipOk H b c) (x : Chp) (l : List AObj) : hp (chipAt H b c x) l = chipAt (hp H l) b c x := by
  unfold chipAt
  rw [hp_sold ok.c, hp_sold (by rw [set_next]; exact ok.b)]
theorem chip_okl {H : AHeap} {b c : Nat} (ok : ChipOk H b c) (l : List AObj) : ChipOk (hp H l) b c := ⟨ok.ne, by rw [hp_next]; exact Nat.lt_of_lt_of_le ok.b (Nat.le_add_right _ _), by rw [hp_next]; exact Nat.lt_of_lt_of_le ok.c (Nat.le_add_right _ _)⟩
theorem chip_lift {f : Nat} {args : List AV} {b c : Nat} {x x' : Chp} {y : AV} (base : ∀ (H : AHeap) (K : AV → AHeap → Prop), ChipOk H b c → K y (chipAt H b c x') → (ACalls Try.prog) f args (chipAt H b c x) K)
    {H : AHeap} {l : List AObj} (ok : ChipOk H b c) {K : AV → AHeap → Prop} (h : K y (hp (chipAt H b c x') l)) : (ACalls Try.prog) f args (hp (chipAt H b c x) l) K := by
  rw [hp_chip ok] at h ⊢
  exact base _ _ (chip_okl ok l) h
theorem on_a {H : AHeap} {b c : Nat} (ok : ChipOk H b c) {x : Chp} {K : AV → AHeap → Prop} (h : K (.bool x.on) (chipAt H b c x)) : (ACalls Try.prog) 76 [.ptr c 0 0] (chipAt H b c x) K := by
  refine acalls_go mo t76 (fun hs hu => ?_)
  have hc := chip_c ok x
  have hlt : c < (chipAt H b c x).next := ok.c
  simp only [c76, Chp.row_is, go_sem, Nat.reduceLeDiff, Nat.reduceAdd, Nat.reduceSub, Nat.reduceMul, Nat.reduceLT, Int.reduceLT, Int.reduceLE, Int.reduceAdd, Int.reduceSub, Int.reduceMul, Int.reduceToNat, Int.reduceNeg, Int.reduceEq, Nat.reducePow, Int.reducePow, Nat.reduceEqDiff, decide_true, decide_false, reduceIte, reduceCtorEq, Int.reduceBEq, Int.reduceBNe, bne_self_eq_false, Int.cast_ofNat_Int, Bool.not_true, Bool.not_false, IntKind.bits]
  simp (maxSteps := 4000000) (disch := (first | omega | (simp only [set_next, List.length_append, List.length_cons, List.length_nil, List.length_take, List.length_drop, List.length_map, List.length_set, List.length_replicate]; omega) | (simp only [set_next, ne_eq, reduceCtorEq, not_false_eq_true]))) only [hc, Chp.row_is, go_sem, Nat.reduceLeDiff, Nat.reduceAdd, Nat.reduceSub, Nat.reduceMul, Nat.reduceLT, Int.reduceLT, Int.reduceLE, Int.reduceAdd, Int.reduceSub, Int.reduceMul, Int.reduceToNat, Int.reduceNeg, Int.reduceEq, Nat.reducePow, Int.reducePow, Nat.reduceEqDiff, decide_true, decide_false, reduceIte, reduceCtorEq, Int.reduceBEq, Int.reduceBNe, bne_self_eq_false, Int.cast_ofNat_Int, Bool.not_true, Bool.not_false, IntKind.bits, w_nat, w_lit, w_add, w_addl, w_ladd, w_sub, w_subl, w_lsub, w_mul, w_mull, w_lmul, t_div, t_divl, t_mod, t_modl, i_lt, i_ltl, i_llt, i_le, i_lel, i_lle, i_eq, i_eql, i_leq, Nat.zero_le, d_beq, d_bne, d_bytes, byte_at, Int.toNat_natCast, toNat_lit, decide_eq_true, decide_eq_false, if_pos, if_neg, slA_len, slA_idx, slA_cells, flat_slA, one_slA, cells_slA, map_mid, strV_is, hp_get1, hp_get2, hp_get3, hp_set1, hp_set2, hp_set3, hp_old, hp_sold, set_got, set_set, set_next, set_other, bytesL, bytes_all, List.length_map, aapp_nils, aapp_wr, List.flatMap_cons, List.flatMap_nil, Nat.mul_one]
  exact aret_plain hs (by simp only [u_top, u_bool, u_int, u_str, u_nilp, u_nils, u_nilf, u_nilm, u_nili, u_emp, u_byteV, u_ptr, u_wr, u_agg, u_tup, u_rd, u_imm, u_func, u_nil, u_cons, u_app, uc_nil, uc_cons, uc_app, u_bytes, uc_bytes, u_ints, uc_ints, cells_bool, cells_int, cells_str, cells_agg, cells_ptr, cells_nils, cells_imm, cells_wr, cells_nilp, cells_nilf, cells_nilm, cells_rd, cells_emp, cells_byteV, cells_func, and_self, and_true, true_and, u_slA, uc_strs, cells_slA, strV_is]) (h)
theorem on_l {H : AHeap} {b c : Nat} (ok : ChipOk H b c) {l : List AObj} {x : Chp} {K : AV → AHeap → Prop} (h : K (.bool x.on) (hp (chipAt H b c x) l)) : (ACalls Try.prog) 76 [.ptr c 0 0] (hp (chipAt H b c x) l) K := chip_lift (fun _ _ o k => on_a o k) ok h
def hasN (at_ n : Int) : Bool := decide (0 ≤ at_ ∧ 0 ≤ n ∧ at_ ≤ 24576 ∧ n ≤ 24576 - at_)
theorem has_a {H : AHeap} {b c : Nat} (ok : ChipOk H b c) {x : Chp} {at_ n : Int} {K : AV → AHeap → Prop} (h : K (.bool (hasN at_ n)) (chipAt H b c x)) : (ACalls Try.prog) 161 [.ptr c 0 0, .int .i64 at_, .int .i64 n] (chipAt H b c x) K := by
  refine acalls_go mo t161 (fun hs hu => ?_)
  have hc := chip_c ok x
  have hlt : c < (chipAt H b c x).next := ok.c
  unfold hasN at h
  by_cases h1 : 0 ≤ at_
  · by_cases h2 : 0 ≤ n
    · obtain ⟨i, rfl⟩ := Int.eq_ofNat_of_zero_le h1
      obtain ⟨m, rfl⟩ := Int.eq_ofNat_of_zero_le h2
      by_cases h3 : i ≤ 24576
      · simp only [c161, Chp.row_is, go_sem, Nat.reduceLeDiff, Nat.reduceAdd, Nat.reduceSub, Nat.reduceMul, Nat.reduceLT, Int.reduceLT, Int.reduceLE, Int.reduceAdd, Int.reduceSub, Int.reduceMul, Int.reduceToNat, Int.reduceNeg, Int.reduceEq, Nat.reducePow, Int.reducePow, Nat.reduceEqDiff, decide_true, decide_false, reduceIte, reduceCtorEq, Int.reduceBEq, Int.reduceBNe, bne_self_eq_false, Int.cast_ofNat_Int, Bool.not_true, Bool.not_false, IntKind.bits]
        simp (maxSteps := 4000000) (disch := (first | omega | (simp only [set_next, List.length_append, List.length_cons, List.length_nil, List.length_take, List.length_drop, List.length_map, List.length_set, List.length_replicate]; omega) | (simp only [set_next, ne_eq, reduceCtorEq, not_false_eq_true]))) only [hc, Chp.row_is, go_sem, Nat.reduceLeDiff, Nat.reduceAdd, Nat.reduceSub, Nat.reduceMul, Nat.reduceLT, Int.reduceLT, Int.reduceLE, Int.reduceAdd, Int.reduceSub, Int.reduceMul, Int.reduceToNat, Int.reduceNeg, Int.reduceEq, Nat.reducePow, Int.reducePow, Nat.reduceEqDiff, decide_true, decide_false, reduceIte, reduceCtorEq, Int.reduceBEq, Int.reduceBNe, bne_self_eq_false, Int.cast_ofNat_Int, Bool.not_true, Bool.not_false, IntKind.bits, w_nat, w_lit, w_add, w_addl, w_ladd, w_sub, w_subl, w_lsub, w_mul, w_mull, w_lmul, t_div, t_divl, t_mod, t_modl, i_lt, i_ltl, i_llt, i_le, i_lel, i_lle, i_eq, i_eql, i_leq, Nat.zero_le, d_beq, d_bne, d_bytes, byte_at, Int.toNat_natCast, toNat_lit, decide_eq_true, decide_eq_false, if_pos, if_neg, slA_len, slA_idx, slA_cells, flat_slA, one_slA, cells_slA, map_mid, strV_is, hp_get1, hp_get2, hp_get3, hp_set1, hp_set2, hp_set3, hp_old, hp_sold, set_got, set_set, set_next, set_other, bytesL, bytes_all, List.length_map, aapp_nils, aapp_wr, List.flatMap_cons, List.flatMap_nil, Nat.mul_one]
        by_cases h4 : m ≤ 24576 - i
        · rw [decide_eq_true (by omega)] at h
          simp (maxSteps := 4000000) (disch := (first | omega | (simp only [set_next, List.length_append, List.length_cons, List.length_nil, List.length_take, List.length_drop, List.length_map, List.length_set, List.length_replicate]; omega) | (simp only [set_next, ne_eq, reduceCtorEq, not_false_eq_true]))) only [go_sem, Nat.reduceLeDiff, Nat.reduceAdd, Nat.reduceSub, Nat.reduceMul, Nat.reduceLT, Int.reduceLT, Int.reduceLE, Int.reduceAdd, Int.reduceSub, Int.reduceMul, Int.reduceToNat, Int.reduceNeg, Int.reduceEq, Nat.reducePow, Int.reducePow, Nat.reduceEqDiff, decide_true, decide_false, reduceIte, reduceCtorEq, Int.reduceBEq, Int.reduceBNe, bne_self_eq_false, Int.cast_ofNat_Int, Bool.not_true, Bool.not_false, IntKind.bits, w_nat, w_lit, w_add, w_addl, w_ladd, w_sub, w_subl, w_lsub, w_mul, w_mull, w_lmul, t_div, t_divl, t_mod, t_modl, i_lt, i_ltl, i_llt, i_le, i_lel, i_lle, i_eq, i_eql, i_leq, Nat.zero_le, d_beq, d_bne, d_bytes, byte_at, Int.toNat_natCast, toNat_lit, decide_eq_true, decide_eq_false, if_pos, if_neg, slA_len, slA_idx, slA_cells, flat_slA, one_slA, cells_slA, map_mid, strV_is, hp_get1, hp_get2, hp_get3, hp_set1, hp_set2, hp_set3, hp_old, hp_sold, set_got, set_set, set_next, set_other, bytesL, bytes_all, List.length_map, aapp_nils, aapp_wr, List.flatMap_cons, List.flatMap_nil, Nat.mul_one]
          exact aret_plain hs (by simp only [u_top, u_bool, u_int, u_str, u_nilp, u_nils, u_nilf, u_nilm, u_nili, u_emp, u_byteV, u_ptr, u_wr, u_agg, u_tup, u_rd, u_imm, u_func, u_nil, u_cons, u_app, uc_nil, uc_cons, uc_app, u_bytes, uc_bytes, u_ints, uc_ints, cells_bool, cells_int, cells_str, cells_agg, cells_ptr, cells_nils, cells_imm, cells_wr, cells_nilp, cells_nilf, cells_nilm, cells_rd, cells_emp, cells_byteV, cells_func, and_self, and_true, true_and, u_slA, uc_strs, cells_slA, strV_is]) (h)
        · rw [decide_eq_false (by omega)] at h
          simp (maxSteps := 4000000) (disch := (first | omega | (simp only [set_next, List.length_append, List.length_cons, List.length_nil, List.length_take, List.length_drop, List.length_map, List.length_set, List.length_replicate]; omega) | (simp only [set_next, ne_eq, reduceCtorEq, not_false_eq_true]))) only [go_sem, Nat.reduceLeDiff, Nat.reduceAdd, Nat.reduceSub, Nat.reduceMul, Nat.reduceLT, Int.reduceLT, Int.reduceLE, Int.reduceAdd, Int.reduceSub, Int.reduceMul, Int.reduceToNat, Int.reduceNeg, Int.reduceEq, Nat.reducePow, Int.reducePow, Nat.reduceEqDiff, decide_true, decide_false, reduceIte, reduceCtorEq, Int.reduceBEq, Int.reduceBNe, bne_self_eq_false, Int.cast_ofNat_Int, Bool.not_true, Bool.not_false, IntKind.bits, w_nat, w_lit, w_add, w_addl, w_ladd, w_sub, w_subl, w_lsub, w_mul, w_mull, w_lmul, t_div, t_divl, t_mod, t_modl, i_lt, i_ltl, i_llt, i_le, i_lel, i_lle, i_eq, i_eql, i_leq, Nat.zero_le, d_beq, d_bne, d_bytes, byte_at, Int.toNat_natCast, toNat_lit, decide_eq_true, decide_eq_false, if_pos, if_neg, slA_len, slA_idx, slA_cells, flat_slA, one_slA, cells_slA, map_mid, strV_is, hp_get1, hp_get2, hp_get3, hp_set1, hp_set2, hp_set3, hp_old, hp_sold, set_got, set_set, set_next, set_other, bytesL, bytes_all, List.length_map, aapp_nils, aapp_wr, List.flatMap_cons, List.flatMap_nil, Nat.mul_one]
          exact aret_plain hs (by simp only [u_top, u_bool, u_int, u_str, u_nilp, u_nils, u_nilf, u_nilm, u_nili, u_emp, u_byteV, u_ptr, u_wr, u_agg, u_tup, u_rd, u_imm, u_func, u_nil, u_cons, u_app, uc_nil, uc_cons, uc_app, u_bytes, uc_bytes, u_ints, uc_ints, cells_bool, cells_int, cells_str, cells_agg, cells_ptr, cells_nils, cells_imm, cells_wr, cells_nilp, cells_nilf, cells_nilm, cells_rd, cells_emp, cells_byteV, cells_func, and_self, and_true, true_and, u_slA, uc_strs, cells_slA, strV_is]) (h)
      · rw [decide_eq_false (by omega)] at h
        simp only [c161, Chp.row_is, go_sem, Nat.reduceLeDiff, Nat.reduceAdd, Nat.reduceSub, Nat.reduceMul, Nat.reduceLT, Int.reduceLT, Int.reduceLE, Int.reduceAdd, Int.reduceSub, Int.reduceMul, Int.reduceToNat, Int.reduceNeg, Int.reduceEq, Nat.reducePow, Int.reducePow, Nat.reduceEqDiff, decide_true, decide_false, reduceIte, reduceCtorEq, Int.reduceBEq, Int.reduceBNe, bne_self_eq_false, Int.cast_ofNat_Int, Bool.not_true, Bool.not_false, IntKind.bits]
        simp (maxSteps := 4000000) (disch := (first | omega | (simp only [set_next, List.length_append, List.length_cons, List.length_nil, List.length_take, List.length_drop, List.length_map, List.length_set, List.length_replicate]; omega) | (simp only [set_next, ne_eq, reduceCtorEq, not_false_eq_true]))) only [hc, Chp.row_is, go_sem, Nat.reduceLeDiff, Nat.reduceAdd, Nat.reduceSub, Nat.reduceMul, Nat.reduceLT, Int.reduceLT, Int.reduceLE, Int.reduceAdd, Int.reduceSub, Int.reduceMul, Int.reduceToNat, Int.reduceNeg, Int.reduceEq, Nat.reducePow, Int.reducePow, Nat.reduceEqDiff, decide_true, decide_false, reduceIte, reduceCtorEq, Int.reduceBEq, Int.reduceBNe, bne_self_eq_false, Int.cast_ofNat_Int, Bool.not_true, Bool.not_false, IntKind.bits, w_nat, w_lit, w_add, w_addl, w_ladd, w_sub, w_subl, w_lsub, w_mul, w_mull, w_lmul, t_div, t_divl, t_mod, t_modl, i_lt, i_ltl, i_llt, i_le, i_lel, i_lle, i_eq, i_eql, i_leq, Nat.zero_le, d_beq, d_bne, d_bytes, byte_at, Int.toNat_natCast, toNat_lit, decide_eq_true, decide_eq_false, if_pos, if_neg, slA_len, slA_idx, slA_cells, flat_slA, one_slA, cells_slA, map_mid, strV_is, hp_get1, hp_get2, hp_get3, hp_set1, hp_set2, hp_set3, hp_old, hp_sold, set_got, set_set, set_next, set_other, bytesL, bytes_all, List.length_map, aapp_nils, aapp_wr, List.flatMap_cons, List.flatMap_nil, Nat.mul_one]
        exact aret_plain hs (by simp only [u_top, u_bool, u_int, u_str, u_nilp, u_nils, u_nilf, u_nilm, u_nili, u_emp, u_byteV, u_ptr, u_wr, u_agg, u_tup, u_rd, u_imm, u_func, u_nil, u_cons, u_app, uc_nil, uc_cons, uc_app, u_bytes, uc_bytes, u_ints, uc_ints, cells_bool, cells_int, cells_str, cells_agg, cells_ptr, cells_nils, cells_imm, cells_wr, cells_nilp, cells_nilf, cells_nilm, cells_rd, cells_emp, cells_byteV, cells_func, and_self, and_true, true_and, u_slA, uc_strs, cells_slA, strV_is]) (h)
    · rw [decide_eq_false (by omega)] at h
      simp only [c161, Chp.row_is, h1, h2, decide_true, decide_false, go_sem, Nat.reduceLeDiff, Nat.reduceAdd, Nat.reduceSub, Nat.reduceMul, Nat.reduceLT, Int.reduceLT, Int.reduceLE, Int.reduceAdd, Int.reduceSub, Int.reduceMul, Int.reduceToNat, Int.reduceNeg, Int.reduceEq, Nat.reducePow, Int.reducePow, Nat.reduceEqDiff, decide_true, decide_false, reduceIte, reduceCtorEq, Int.reduceBEq, Int.reduceBNe, bne_self_eq_false, Int.cast_ofNat_Int, Bool.not_true, Bool.not_false, IntKind.bits]
      exact aret_plain hs (by simp only [u_top, u_bool, u_int, u_str, u_nilp, u_nils, u_nilf, u_nilm, u_nili, u_emp, u_byteV, u_ptr, u_wr, u_agg, u_tup, u_rd, u_imm, u_func, u_nil, u_cons, u_app, uc_nil, uc_cons, uc_app, u_bytes, uc_bytes, u_ints, uc_ints, cells_bool, cells_int, cells_str, cells_agg, cells_ptr, cells_nils, cells_imm, cells_wr, cells_nilp, cells_nilf, cells_nilm, cells_rd, cells_emp, cells_byteV, cells_func, and_self, and_true, true_and, u_slA, uc_strs, cells_slA, strV_is]) (h)
  · rw [decide_eq_false (by omega)] at h
    simp only [c161, Chp.row_is, h1, decide_true, decide_false, go_sem, Nat.reduceLeDiff, Nat.reduceAdd, Nat.reduceSub, Nat.reduceMul, Nat.reduceLT, Int.reduceLT, Int.reduceLE, Int.reduceAdd, Int.reduceSub, Int.reduceMul, Int.reduceToNat, Int.reduceNeg, Int.reduceEq, Nat.reducePow, Int.reducePow, Nat.reduceEqDiff, decide_true, decide_false, reduceIte, reduceCtorEq, Int.reduceBEq, Int.reduceBNe, bne_self_eq_false, Int.cast_ofNat_Int, Bool.not_true, Bool.not_false, IntKind.bits]
    exact aret_plain hs (by simp only [u_top, u_bool, u_int, u_str, u_nilp, u_nils, u_nilf, u_nilm, u_nili, u_emp, u_byteV, u_ptr, u_wr, u_agg, u_tup, u_rd, u_imm, u_func, u_nil, u_cons, u_app, uc_nil, uc_cons, uc_app, u_bytes, uc_bytes, u_ints, uc_ints, cells_bool, cells_int, cells_str, cells_agg, cells_ptr, cells_nils, cells_imm, cells_wr, cells_nilp, cells_nilf, cells_nilm, cells_rd, cells_emp, cells_byteV, cells_func, and_self, and_true, true_and, u_slA, uc_strs, cells_slA, strV_is]) (h)
theorem has_l {H : AHeap} {b c : Nat} (ok : ChipOk H b c) {l : List AObj} {x : Chp} {at_ n : Int} {K : AV → AHeap → Prop} (h : K (.bool (hasN at_ n)) (hp (chipAt H b c x) l)) : (ACalls Try.prog) 161 [.ptr c 0 0, .int .i64 at_, .int .i64 n] (hp (chipAt H b c x) l) K := chip_lift (fun _ _ o k => has_a o k) ok h
end Go.Proofs.Ytfilheaaacffmaa.AL
/- A flash's chip told: reading, the fuse, what is left of it. -/
set_option linter.unusedSimpArgs false
set_option linter.unusedVariables false
set_option maxRecDepth 100000
namespace Go.Proofs.Ytfilheaaacffmaa.AL
open Go Go.Proofs
attribute [local go_sem] go_seq go_skip go_region go_regionN go_fregion rgF_some go_cond go_block go_exit go_ret nxt_nil nxt_code nxt_blk nxt_cut leave_nil leave_code leave_cut leave_blk rtn_nil rtn_code rtn_blk rtn_cut cnd_t cnd_f rgn_nil rgY_some rgY_none rgH_some rgP_some retTo_is rgV_func grd_und grd_tt grd_ff grd_tf grd_ft rgn_q rgn_alloc rgn_box rgn_store rgn_lit rgn_litw litCells_nil litCells_cons rgn_app rgn_copy rgn_mk rgn_s2b rgn_call rgn_callv rgn_stop rgn_slice3 aslice3 rgn_put rgn_mkmap rgn_lookup rgn_mapup alookup_nilm alookup_map amapup_map afound_ok afound_no rgn_c rgn_cv qclV_func aloadr rgn_guard post_ret post_normal retY_some ares aresL ares1 AX.ev aput List.getD_cons_zero List.getD_cons_succ List.set_cons_zero List.set_cons_succ List.map_cons List.map_nil aq abin aint astr abeq aconv asame aextract alenS alenL_nils alenL_emp alenL_imm alenL_wr aun apart aload afieldAddr afield aidxSl_wr aidxSl_imm aidxPt aidxStr aidxArr abound asliceStr asliceSl asliceArr abest anonil afill astore acells_nils acells_emp acells_imm acells_wr acells_str acopy litAll amk as2b anil nilOf aseq aeqs aeqv fits fit1 hp_next hp_push hp_get hp_set List.length_cons List.length_nil List.getElem?_cons_zero List.getElem?_cons_succ List.cons_append List.nil_append List.append_nil List.take_succ_cons List.take_zero List.drop_succ_cons List.drop_zero List.all_cons List.all_nil Option.map_some Option.some.injEq Bool.and_true Bool.true_and Bool.false_eq_true if_true if_false ite_true ite_false Bool.and_self true_and and_true and_self Nat.zero_add Nat.le_refl Int.toNat_natCast beq_self_eq_true eq_self tops_zero tops_succ Int.natCast_nonneg List.take_nil List.drop_nil Option.map_none flat_bool one_bool cells_bool flat_int one_int cells_int flat_str one_str cells_str flat_nilp one_nilp cells_nilp flat_ptr one_ptr cells_ptr flat_nils one_nils cells_nils flat_imm one_imm cells_imm flat_wr one_wr cells_wr flat_func one_func cells_func flat_nilf one_nilf cells_nilf flat_map one_map cells_map flat_nilm one_nilm cells_nilm flat_iface one_iface cells_iface flat_nili one_nili cells_nili flat_rd one_rd cells_rd flat_emp one_emp cells_emp flat_byteV one_byteV cells_byteV flat_agg cells_agg one_agg B_size B_list B_ext B_toList B_app List.take_length Int.le_refl
def retR (l : List UInt8) (e : Int) : AV := .tup [.str (B l), .int .i64 e]
def Chp.read (x : Chp) (at_ n : Int) : AV := if x.on = true then (if hasN at_ n = true then retR ((x.l.drop at_.toNat).take n.toNat) 0 else retR [] 2) else retR [] 4
theorem read_a {H : AHeap} {b c : Nat} (ok : ChipOk H b c) {x : Chp} (hl : x.l.length = 24576) {at_ n : Int} {K : AV → AHeap → Prop} (h : K (x.read at_ n) (chipAt H b c x)) : (ACalls Try.prog) 128 [.ptr c 0 0, .int .i64 at_, .int .i64 n] (chipAt H b c x) K := by
  refine acalls_go mo t128 (fun hs hu => ?_)
  have hc := chip_c ok x
  have hb := chip_b ok x
  have hlt : c < (chipAt H b c x).next := ok.c
  have hlb : b < (chipAt H b c x).next := ok.b
  unfold Chp.read at h
  simp only [c128, go_sem, Nat.reduceLeDiff, Nat.reduceAdd, Nat.reduceSub, Nat.reduceMul, Nat.reduceLT, Int.reduceLT, Int.reduceLE, Int.reduceAdd, Int.reduceSub, Int.reduceMul, Int.reduceToNat, Int.reduceNeg, Int.reduceEq, Nat.reducePow, Int.reducePow, Nat.reduceEqDiff, decide_true, decide_false, reduceIte, reduceCtorEq, Int.reduceBEq, Int.reduceBNe, bne_self_eq_false, Int.cast_ofNat_Int, Bool.not_true, Bool.not_false, IntKind.bits]
  refine on_l ok ?_
  by_cases h1 : x.on = true
  · rw [if_pos h1] at h
    simp only [h1, go_sem, Nat.reduceLeDiff, Nat.reduceAdd, Nat.reduceSub, Nat.reduceMul, Nat.reduceLT, Int.reduceLT, Int.reduceLE, Int.reduceAdd, Int.reduceSub, Int.reduceMul, Int.reduceToNat, Int.reduceNeg, Int.reduceEq, Nat.reducePow, Int.reducePow, Nat.reduceEqDiff, decide_true, decide_false, reduceIte, reduceCtorEq, Int.reduceBEq, Int.reduceBNe, bne_self_eq_false, Int.cast_ofNat_Int, Bool.not_true, Bool.not_false, IntKind.bits]
    refine has_l ok ?_
    by_cases h2 : hasN at_ n = true
    · rw [if_pos h2] at h
      have h3 := h2
      unfold hasN at h3
      simp only [decide_eq_true_eq] at h3
      obtain ⟨h4, h5, h6, h7⟩ := h3
      obtain ⟨i, rfl⟩ := Int.eq_ofNat_of_zero_le h4
      obtain ⟨m, rfl⟩ := Int.eq_ofNat_of_zero_le h5
      have h8 : i + m ≤ 24576 := by omega
      simp only [h2, go_sem, Nat.reduceLeDiff, Nat.reduceAdd, Nat.reduceSub, Nat.reduceMul, Nat.reduceLT, Int.reduceLT, Int.reduceLE, Int.reduceAdd, Int.reduceSub, Int.reduceMul, Int.reduceToNat, Int.reduceNeg, Int.reduceEq, Nat.reducePow, Int.reducePow, Nat.reduceEqDiff, decide_true, decide_false, reduceIte, reduceCtorEq, Int.reduceBEq, Int.reduceBNe, bne_self_eq_false, Int.cast_ofNat_Int, Bool.not_true, Bool.not_false, IntKind.bits]
      simp only [Int.toNat_natCast] at h
      unfold retR at h
      have hbs : ab2s (hp (chipAt H b c x) []) (.wr b 0 i m 1) = some (.str (B ((x.l.drop i).take m))) := b2s_at (by rw [hp_old hlb]; exact hb) (by omega)
      by_cases hm : i = 0 ∨ i < i + m
      · simp (maxSteps := 4000000) (disch := (first | omega | (simp only [set_next, List.length_append, List.length_cons, List.length_nil, List.length_take, List.length_drop, List.length_map, List.length_set, List.length_replicate]; omega) | (simp only [set_next, ne_eq, reduceCtorEq, not_false_eq_true]))) only [hc, hb, hl, hbs, hm, Chp.row_is, Nat.add_sub_cancel_left, if_true, go_sem, Nat.reduceLeDiff, Nat.reduceAdd, Nat.reduceSub, Nat.reduceMul, Nat.reduceLT, Int.reduceLT, Int.reduceLE, Int.reduceAdd, Int.reduceSub, Int.reduceMul, Int.reduceToNat, Int.reduceNeg, Int.reduceEq, Nat.reducePow, Int.reducePow, Nat.reduceEqDiff, decide_true, decide_false, reduceIte, reduceCtorEq, Int.reduceBEq, Int.reduceBNe, bne_self_eq_false, Int.cast_ofNat_Int, Bool.not_true, Bool.not_false, IntKind.bits, w_nat, w_lit, w_add, w_addl, w_ladd, w_sub, w_subl, w_lsub, w_mul, w_mull, w_lmul, t_div, t_divl, t_mod, t_modl, i_lt, i_ltl, i_llt, i_le, i_lel, i_lle, i_eq, i_eql, i_leq, Nat.zero_le, d_beq, d_bne, d_bytes, byte_at, Int.toNat_natCast, toNat_lit, decide_eq_true, decide_eq_false, if_pos, if_neg, slA_len, slA_idx, slA_cells, flat_slA, one_slA, cells_slA, map_mid, strV_is, hp_get1, hp_get2, hp_get3, hp_set1, hp_set2, hp_set3, hp_old, hp_sold, set_got, set_set, set_next, set_other, bytesL, bytes_all, List.length_map, aapp_nils, aapp_wr, List.flatMap_cons, List.flatMap_nil, Nat.mul_one]
        exact aret_plain hs (by simp only [u_top, u_bool, u_int, u_str, u_nilp, u_nils, u_nilf, u_nilm, u_nili, u_emp, u_byteV, u_ptr, u_wr, u_agg, u_tup, u_rd, u_imm, u_func, u_nil, u_cons, u_app, uc_nil, uc_cons, uc_app, u_bytes, uc_bytes, u_ints, uc_ints, cells_bool, cells_int, cells_str, cells_agg, cells_ptr, cells_nils, cells_imm, cells_wr, cells_nilp, cells_nilf, cells_nilm, cells_rd, cells_emp, cells_byteV, cells_func, and_self, and_true, true_and, u_slA, uc_strs, cells_slA, strV_is]) (h)
      · have hm0 : m = 0 := by omega
        have hem : ab2s (hp (chipAt H b c x) []) .emp = some (.str (B [])) := rfl
        subst hm0
        rw [List.take_zero] at h
        simp (maxSteps := 4000000) (disch := (first | omega | (simp only [set_next, List.length_append, List.length_cons, List.length_nil, List.length_take, List.length_drop, List.length_map, List.length_set, List.length_replicate]; omega) | (simp only [set_next, ne_eq, reduceCtorEq, not_false_eq_true]))) only [hc, hb, hl, hem, hm, Chp.row_is, Nat.add_sub_cancel_left, if_false, if_neg, go_sem, Nat.reduceLeDiff, Nat.reduceAdd, Nat.reduceSub, Nat.reduceMul, Nat.reduceLT, Int.reduceLT, Int.reduceLE, Int.reduceAdd, Int.reduceSub, Int.reduceMul, Int.reduceToNat, Int.reduceNeg, Int.reduceEq, Nat.reducePow, Int.reducePow, Nat.reduceEqDiff, decide_true, decide_false, reduceIte, reduceCtorEq, Int.reduceBEq, Int.reduceBNe, bne_self_eq_false, Int.cast_ofNat_Int, Bool.not_true, Bool.not_false, IntKind.bits, w_nat, w_lit, w_add, w_addl, w_ladd, w_sub, w_subl, w_lsub, w_mul, w_mull, w_lmul, t_div, t_divl, t_mod, t_modl, i_lt, i_ltl, i_llt, i_le, i_lel, i_lle, i_eq, i_eql, i_leq, Nat.zero_le, d_beq, d_bne, d_bytes, byte_at, Int.toNat_natCast, toNat_lit, decide_eq_true, decide_eq_false, if_pos, if_neg, slA_len, slA_idx, slA_cells, flat_slA, one_slA, cells_slA, map_mid, strV_is, hp_get1, hp_get2, hp_get3, hp_set1, hp_set2, hp_set3, hp_old, hp_sold, set_got, set_set, set_next, set_other, bytesL, bytes_all, List.length_map, aapp_nils, aapp_wr, List.flatMap_cons, List.flatMap_nil, Nat.mul_one]
        exact aret_plain hs (by simp only [u_top, u_bool, u_int, u_str, u_nilp, u_nils, u_nilf, u_nilm, u_nili, u_emp, u_byteV, u_ptr, u_wr, u_agg, u_tup, u_rd, u_imm, u_func, u_nil, u_cons, u_app, uc_nil, uc_cons, uc_app, u_bytes, uc_bytes, u_ints, uc_ints, cells_bool, cells_int, cells_str, cells_agg, cells_ptr, cells_nils, cells_imm, cells_wr, cells_nilp, cells_nilf, cells_nilm, cells_rd, cells_emp, cells_byteV, cells_func, and_self, and_true, true_and, u_slA, uc_strs, cells_slA, strV_is]) (h)
    · rw [if_neg h2] at h
      rw [Bool.not_eq_true] at h2
      simp only [h2, go_sem, Nat.reduceLeDiff, Nat.reduceAdd, Nat.reduceSub, Nat.reduceMul, Nat.reduceLT, Int.reduceLT, Int.reduceLE, Int.reduceAdd, Int.reduceSub, Int.reduceMul, Int.reduceToNat, Int.reduceNeg, Int.reduceEq, Nat.reducePow, Int.reducePow, Nat.reduceEqDiff, decide_true, decide_false, reduceIte, reduceCtorEq, Int.reduceBEq, Int.reduceBNe, bne_self_eq_false, Int.cast_ofNat_Int, Bool.not_true, Bool.not_false, IntKind.bits]
      exact aret_plain hs (by simp only [u_top, u_bool, u_int, u_str, u_nilp, u_nils, u_nilf, u_nilm, u_nili, u_emp, u_byteV, u_ptr, u_wr, u_agg, u_tup, u_rd, u_imm, u_func, u_nil, u_cons, u_app, uc_nil, uc_cons, uc_app, u_bytes, uc_bytes, u_ints, uc_ints, cells_bool, cells_int, cells_str, cells_agg, cells_ptr, cells_nils, cells_imm, cells_wr, cells_nilp, cells_nilf, cells_nilm, cells_rd, cells_emp, cells_byteV, cells_func, and_self, and_true, true_and, u_slA, uc_strs, cells_slA, strV_is]) (h)
  · rw [if_neg h1] at h
    rw [Bool.not_eq_true] at h1
    simp only [h1, go_sem, Nat.reduceLeDiff, Nat.reduceAdd, Nat.reduceSub, Nat.reduceMul, Nat.reduceLT, Int.reduceLT, Int.reduceLE, Int.reduceAdd, Int.reduceSub, Int.reduceMul, Int.reduceToNat, Int.reduceNeg, Int.reduceEq, Nat.reducePow, Int.reducePow, Nat.reduceEqDiff, decide_true, decide_false, reduceIte, reduceCtorEq, Int.reduceBEq, Int.reduceBNe, bne_self_eq_false, Int.cast_ofNat_Int, Bool.not_true, Bool.not_false, IntKind.bits]
    exact aret_plain hs (by simp only [u_top, u_bool, u_int, u_str, u_nilp, u_nils, u_nilf, u_nilm, u_nili, u_emp, u_byteV, u_ptr, u_wr, u_agg, u_tup, u_rd, u_imm, u_func, u_nil, u_cons, u_app, uc_nil, uc_cons, uc_app, u_bytes, uc_bytes, u_ints, uc_ints, cells_bool, cells_int, cells_str, cells_agg, cells_ptr, cells_nils, cells_imm, cells_wr, cells_nilp, cells_nilf, cells_nilm, cells_rd, cells_emp, cells_byteV, cells_func, and_self, and_true, true_and, u_slA, uc_strs, cells_slA, strV_is]) (h)
theorem bytes_a {H : AHeap} {b c : Nat} (ok : ChipOk H b c) {x : Chp} (hl : x.l.length = 24576) {K : AV → AHeap → Prop} (h : K (.str (B x.l)) (chipAt H b c x)) : (ACalls Try.prog) 20 [.ptr c 0 0] (chipAt H b c x) K := by
  refine acalls_go mo t20 (fun hs hu => ?_)
  have hc := chip_c ok x
  have hb := chip_b ok x
  have hlt : c < (chipAt H b c x).next := ok.c
  have hlb : b < (chipAt H b c x).next := ok.b
  simp only [c20, go_sem, Nat.reduceLeDiff, Nat.reduceAdd, Nat.reduceSub, Nat.reduceMul, Nat.reduceLT, Int.reduceLT, Int.reduceLE, Int.reduceAdd, Int.reduceSub, Int.reduceMul, Int.reduceToNat, Int.reduceNeg, Int.reduceEq, Nat.reducePow, Int.reducePow, Nat.reduceEqDiff, decide_true, decide_false, reduceIte, reduceCtorEq, Int.reduceBEq, Int.reduceBNe, bne_self_eq_false, Int.cast_ofNat_Int, Bool.not_true, Bool.not_false, IntKind.bits]
  have hbs : ab2s (hp (chipAt H b c x) []) (.wr b 0 0 24576 1) = some (.str (B x.l)) := by rw [b2s_at (by rw [hp_old hlb]; exact hb) (by omega), List.drop_zero, List.take_of_length_le (by omega)]
  simp (maxSteps := 4000000) (disch := (first | omega | (simp only [set_next, List.length_append, List.length_cons, List.length_nil, List.length_take, List.length_drop, List.length_map, List.length_set, List.length_replicate]; omega) | (simp only [set_next, ne_eq, reduceCtorEq, not_false_eq_true]))) only [hc, hb, hl, hbs, Chp.row_is, go_sem, Nat.reduceLeDiff, Nat.reduceAdd, Nat.reduceSub, Nat.reduceMul, Nat.reduceLT, Int.reduceLT, Int.reduceLE, Int.reduceAdd, Int.reduceSub, Int.reduceMul, Int.reduceToNat, Int.reduceNeg, Int.reduceEq, Nat.reducePow, Int.reducePow, Nat.reduceEqDiff, decide_true, decide_false, reduceIte, reduceCtorEq, Int.reduceBEq, Int.reduceBNe, bne_self_eq_false, Int.cast_ofNat_Int, Bool.not_true, Bool.not_false, IntKind.bits, w_nat, w_lit, w_add, w_addl, w_ladd, w_sub, w_subl, w_lsub, w_mul, w_mull, w_lmul, t_div, t_divl, t_mod, t_modl, i_lt, i_ltl, i_llt, i_le, i_lel, i_lle, i_eq, i_eql, i_leq, Nat.zero_le, d_beq, d_bne, d_bytes, byte_at, Int.toNat_natCast, toNat_lit, decide_eq_true, decide_eq_false, if_pos, if_neg, slA_len, slA_idx, slA_cells, flat_slA, one_slA, cells_slA, map_mid, strV_is, hp_get1, hp_get2, hp_get3, hp_set1, hp_set2, hp_set3, hp_old, hp_sold, set_got, set_set, set_next, set_other, bytesL, bytes_all, List.length_map, aapp_nils, aapp_wr, List.flatMap_cons, List.flatMap_nil, Nat.mul_one]
  exact aret_plain hs (by simp only [u_top, u_bool, u_int, u_str, u_nilp, u_nils, u_nilf, u_nilm, u_nili, u_emp, u_byteV, u_ptr, u_wr, u_agg, u_tup, u_rd, u_imm, u_func, u_nil, u_cons, u_app, uc_nil, uc_cons, uc_app, u_bytes, uc_bytes, u_ints, uc_ints, cells_bool, cells_int, cells_str, cells_agg, cells_ptr, cells_nils, cells_imm, cells_wr, cells_nilp, cells_nilf, cells_nilm, cells_rd, cells_emp, cells_byteV, cells_func, and_self, and_true, true_and, u_slA, uc_strs, cells_slA, strV_is]) (h)
theorem chip_in {H : AHeap} {b c : Nat} (ok : ChipOk H b c) {x y : Chp} (hs : (chipAt H b c x).within (chipAt H b c x).next) : (chipAt H b c y).within (chipAt H b c x).next := by
  intro id o h1 h2
  by_cases hb : id = b
  · rw [hb, chip_b ok] at h2
    obtain rfl := Option.some.inj h2
    intro v hv
    obtain ⟨u, _, rfl⟩ := List.mem_map.1 hv
    exact .int _ _
  · by_cases hc : id = c
    · rw [hc, chip_c ok] at h2
      obtain rfl := Option.some.inj h2
      intro v hv
      simp only [Chp.row_is, List.mem_cons, List.not_mem_nil, or_false] at hv
      rcases hv with rfl | rfl | rfl | rfl | rfl
      · exact .wr _ _ _ _ _ ok.b
      · exact .bool _
      · exact .int _ _
      · exact .str _
      · exact .int _ _
    · rw [chip_o _ hb hc] at h2
      exact hs id o h1 (by rw [chip_o _ hb hc]; exact h2)
def Chp.set (x : Chp) (n : Int) (torn : List UInt8) : Chp := { x with fuse := if n < -1 then -1 else n, torn := torn }
def wo (n : Int) : Int := IntKind.wrap .i64 n
def Chp.blow (x : Chp) : Chp :=
  if x.fuse = -1 then { x with ops := wo (x.ops + 1) } else { x with ops := wo (x.ops + 1), fuse := wo (x.fuse - 1), on := !decide (wo (x.fuse - 1) = -1) }
def Chp.blown (x : Chp) : Bool := if x.fuse = -1 then false else decide (wo (x.fuse - 1) = -1)
theorem blows_a {H : AHeap} {b c : Nat} (ok : ChipOk H b c) {x : Chp} {K : AV → AHeap → Prop} (h : K (.bool x.blown) (chipAt H b c x.blow)) : (ACalls Try.prog) 180 [.ptr c 0 0] (chipAt H b c x) K := by
  refine acalls_go mo t180 (fun hs hu => ?_)
  have hc := chip_c ok x
  have hlt : c < (chipAt H b c x).next := ok.c
  unfold Chp.blow Chp.blown at h
  by_cases h1 : x.fuse = -1
  · rw [if_pos h1, if_pos h1] at h
    have hset := chip_setc ok (x := x) { x with ops := wo (x.ops + 1) } rfl
    rw [Chp.row_is] at hset
    simp only [wo] at hset h
    simp only [c180, go_sem, Nat.reduceLeDiff, Nat.reduceAdd, Nat.reduceSub, Nat.reduceMul, Nat.reduceLT, Int.reduceLT, Int.reduceLE, Int.reduceAdd, Int.reduceSub, Int.reduceMul, Int.reduceToNat, Int.reduceNeg, Int.reduceEq, Nat.reducePow, Int.reducePow, Nat.reduceEqDiff, decide_true, decide_false, reduceIte, reduceCtorEq, Int.reduceBEq, Int.reduceBNe, bne_self_eq_false, Int.cast_ofNat_Int, Bool.not_true, Bool.not_false, IntKind.bits]
    simp (maxSteps := 4000000) (disch := (first | omega | (simp only [set_next, List.length_append, List.length_cons, List.length_nil, List.length_take, List.length_drop, List.length_map, List.length_set, List.length_replicate]; omega) | (simp only [set_next, ne_eq, reduceCtorEq, not_false_eq_true]))) only [hc, h1, Chp.row_is, go_sem, Nat.reduceLeDiff, Nat.reduceAdd, Nat.reduceSub, Nat.reduceMul, Nat.reduceLT, Int.reduceLT, Int.reduceLE, Int.reduceAdd, Int.reduceSub, Int.reduceMul, Int.reduceToNat, Int.reduceNeg, Int.reduceEq, Nat.reducePow, Int.reducePow, Nat.reduceEqDiff, decide_true, decide_false, reduceIte, reduceCtorEq, Int.reduceBEq, Int.reduceBNe, bne_self_eq_false, Int.cast_ofNat_Int, Bool.not_true, Bool.not_false, IntKind.bits, w_nat, w_lit, w_add, w_addl, w_ladd, w_sub, w_subl, w_lsub, w_mul, w_mull, w_lmul, t_div, t_divl, t_mod, t_modl, i_lt, i_ltl, i_llt, i_le, i_lel, i_lle, i_eq, i_eql, i_leq, Nat.zero_le, d_beq, d_bne, d_bytes, byte_at, Int.toNat_natCast, toNat_lit, decide_eq_true, decide_eq_false, if_pos, if_neg, slA_len, slA_idx, slA_cells, flat_slA, one_slA, cells_slA, map_mid, strV_is, hp_get1, hp_get2, hp_get3, hp_set1, hp_set2, hp_set3, hp_old, hp_sold, set_got, set_set, set_next, set_other, bytesL, bytes_all, List.length_map, aapp_nils, aapp_wr, List.flatMap_cons, List.flatMap_nil, Nat.mul_one]
    simp only [h1] at hset h
    simp (maxSteps := 4000000) (disch := (first | omega | (simp only [set_next, List.length_append, List.length_cons, List.length_nil, List.length_take, List.length_drop, List.length_map, List.length_set, List.length_replicate]; omega) | (simp only [set_next, ne_eq, reduceCtorEq, not_false_eq_true]))) only [hset, go_sem, Nat.reduceLeDiff, Nat.reduceAdd, Nat.reduceSub, Nat.reduceMul, Nat.reduceLT, Int.reduceLT, Int.reduceLE, Int.reduceAdd, Int.reduceSub, Int.reduceMul, Int.reduceToNat, Int.reduceNeg, Int.reduceEq, Nat.reducePow, Int.reducePow, Nat.reduceEqDiff, decide_true, decide_false, reduceIte, reduceCtorEq, Int.reduceBEq, Int.reduceBNe, bne_self_eq_false, Int.cast_ofNat_Int, Bool.not_true, Bool.not_false, IntKind.bits, w_nat, w_lit, w_add, w_addl, w_ladd, w_sub, w_subl, w_lsub, w_mul, w_mull, w_lmul, t_div, t_divl, t_mod, t_modl, i_lt, i_ltl, i_llt, i_le, i_lel, i_lle, i_eq, i_eql, i_leq, Nat.zero_le, d_beq, d_bne, d_bytes, byte_at, Int.toNat_natCast, toNat_lit, decide_eq_true, decide_eq_false, if_pos, if_neg, slA_len, slA_idx, slA_cells, flat_slA, one_slA, cells_slA, map_mid, strV_is, hp_get1, hp_get2, hp_get3, hp_set1, hp_set2, hp_set3, hp_old, hp_sold, set_got, set_set, set_next, set_other, bytesL, bytes_all, List.length_map, aapp_nils, aapp_wr, List.flatMap_cons, List.flatMap_nil, Nat.mul_one]
    exact aret_old rfl (chip_in ok hs) (.bool _) h
  · rw [if_neg h1, if_neg h1] at h
    have hset := chip_setc ok (x := x) { x with ops := wo (x.ops + 1), fuse := wo (x.fuse - 1), on := !decide (wo (x.fuse - 1) = -1) } rfl
    rw [Chp.row_is] at hset
    simp only [wo] at hset h
    simp only [c180, go_sem, Nat.reduceLeDiff, Nat.reduceAdd, Nat.reduceSub, Nat.reduceMul, Nat.reduceLT, Int.reduceLT, Int.reduceLE, Int.reduceAdd, Int.reduceSub, Int.reduceMul, Int.reduceToNat, Int.reduceNeg, Int.reduceEq, Nat.reducePow, Int.reducePow, Nat.reduceEqDiff, decide_true, decide_false, reduceIte, reduceCtorEq, Int.reduceBEq, Int.reduceBNe, bne_self_eq_false, Int.cast_ofNat_Int, Bool.not_true, Bool.not_false, IntKind.bits]
    simp (maxSteps := 4000000) (disch := (first | omega | (simp only [set_next, List.length_append, List.length_cons, List.length_nil, List.length_take, List.length_drop, List.length_map, List.length_set, List.length_replicate]; omega) | (simp only [set_next, ne_eq, reduceCtorEq, not_false_eq_true]))) only [hc, h1, Chp.row_is, go_sem, Nat.reduceLeDiff, Nat.reduceAdd, Nat.reduceSub, Nat.reduceMul, Nat.reduceLT, Int.reduceLT, Int.reduceLE, Int.reduceAdd, Int.reduceSub, Int.reduceMul, Int.reduceToNat, Int.reduceNeg, Int.reduceEq, Nat.reducePow, Int.reducePow, Nat.reduceEqDiff, decide_true, decide_false, reduceIte, reduceCtorEq, Int.reduceBEq, Int.reduceBNe, bne_self_eq_false, Int.cast_ofNat_Int, Bool.not_true, Bool.not_false, IntKind.bits, w_nat, w_lit, w_add, w_addl, w_ladd, w_sub, w_subl, w_lsub, w_mul, w_mull, w_lmul, t_div, t_divl, t_mod, t_modl, i_lt, i_ltl, i_llt, i_le, i_lel, i_lle, i_eq, i_eql, i_leq, Nat.zero_le, d_beq, d_bne, d_bytes, byte_at, Int.toNat_natCast, toNat_lit, decide_eq_true, decide_eq_false, if_pos, if_neg, slA_len, slA_idx, slA_cells, flat_slA, one_slA, cells_slA, map_mid, strV_is, hp_get1, hp_get2, hp_get3, hp_set1, hp_set2, hp_set3, hp_old, hp_sold, set_got, set_set, set_next, set_other, bytesL, bytes_all, List.length_map, aapp_nils, aapp_wr, List.flatMap_cons, List.flatMap_nil, Nat.mul_one]
    simp only [Bool.not_not] at hset h ⊢
    refine Eq.mp (congrArg (fun G => ARet _ K _ (hp G [])) hset.symm) ?_
    exact aret_old rfl (chip_in ok hs) (.bool _) h
theorem blows_l {H : AHeap} {b c : Nat} (ok : ChipOk H b c) {l : List AObj} {x : Chp} {K : AV → AHeap → Prop} (h : K (.bool x.blown) (hp (chipAt H b c x.blow) l)) : (ACalls Try.prog) 180 [.ptr c 0 0] (hp (chipAt H b c x) l) K := chip_lift (fun _ _ o k => blows_a o k) ok h
end Go.Proofs.Ytfilheaaacffmaa.AL
/- A flash's operation told: each byte becomes another one, or is torn. -/
set_option linter.unusedSimpArgs false
set_option linter.unusedVariables false
set_option maxRecDepth 100000
namespace Go.Proofs.Ytfilheaaacffmaa.AL
open Go Go.Proofs
attribute [local go_sem] go_seq go_skip go_region go_regionN go_fregion rgF_some go_cond go_block go_exit go_ret nxt_nil nxt_code nxt_blk nxt_cut leave_nil leave_code leave_cut leave_blk rtn_nil rtn_code rtn_blk rtn_cut cnd_t cnd_f rgn_nil rgY_some rgY_none rgH_some rgP_some retTo_is rgV_func grd_und grd_tt grd_ff grd_tf grd_ft rgn_q rgn_alloc rgn_box rgn_store rgn_lit rgn_litw litCells_nil litCells_cons rgn_app rgn_copy rgn_mk rgn_s2b rgn_call rgn_callv rgn_stop rgn_slice3 aslice3 rgn_put rgn_mkmap rgn_lookup rgn_mapup alookup_nilm alookup_map amapup_map afound_ok afound_no rgn_c rgn_cv qclV_func aloadr rgn_guard post_ret post_normal retY_some ares aresL ares1 AX.ev aput List.getD_cons_zero List.getD_cons_succ List.set_cons_zero List.set_cons_succ List.map_cons List.map_nil aq abin aint astr abeq aconv asame aextract alenS alenL_nils alenL_emp alenL_imm alenL_wr aun apart aload afieldAddr afield aidxSl_wr aidxSl_imm aidxPt aidxStr aidxArr abound asliceStr asliceSl asliceArr abest anonil afill astore acells_nils acells_emp acells_imm acells_wr acells_str acopy litAll amk as2b anil nilOf aseq aeqs aeqv fits fit1 hp_next hp_push hp_get hp_set List.length_cons List.length_nil List.getElem?_cons_zero List.getElem?_cons_succ List.cons_append List.nil_append List.append_nil List.take_succ_cons List.take_zero List.drop_succ_cons List.drop_zero List.all_cons List.all_nil Option.map_some Option.some.injEq Bool.and_true Bool.true_and Bool.false_eq_true if_true if_false ite_true ite_false Bool.and_self true_and and_true and_self Nat.zero_add Nat.le_refl Int.toNat_natCast beq_self_eq_true eq_self tops_zero tops_succ Int.natCast_nonneg List.take_nil List.drop_nil Option.map_none flat_bool one_bool cells_bool flat_int one_int cells_int flat_str one_str cells_str flat_nilp one_nilp cells_nilp flat_ptr one_ptr cells_ptr flat_nils one_nils cells_nils flat_imm one_imm cells_imm flat_wr one_wr cells_wr flat_func one_func cells_func flat_nilf one_nilf cells_nilf flat_map one_map cells_map flat_nilm one_nilm cells_nilm flat_iface one_iface cells_iface flat_nili one_nili cells_nili flat_rd one_rd cells_rd flat_emp one_emp cells_emp flat_byteV one_byteV cells_byteV flat_agg cells_agg one_agg B_size B_list B_ext B_toList B_app List.take_length Int.le_refl
theorem blow_l (x : Chp) : x.blow.l = x.l := by unfold Chp.blow; split <;> rfl
theorem blow_torn (x : Chp) : x.blow.torn = x.torn := by unfold Chp.blow; split <;> rfl
def tornAt (t : List UInt8) (i : Nat) : UInt8 := t.getD (i % t.length) 0
def Chp.doC (x : Chp) (at_ n : Nat) (f : Nat → UInt8 → UInt8) (g : Nat → UInt8 → UInt8 → UInt8) : Chp :=
  if x.blown = true then (if x.torn = [] then x.blow else { x.blow with l := mapAt at_ (fun i u => g i u (tornAt x.torn i)) x.l n }) else { x.blow with l := mapAt at_ f x.l n }
def Chp.doE (x : Chp) : Int := if x.blown = true then 4 else 0
theorem put_bytes {l : List UInt8} {k : Nat} {u : UInt8} (h : k < l.length) : (l.map byteV).take k ++ [byteV u] ++ (l.map byteV).drop (k + 1) = (l.set k u).map byteV := by
  rw [List.map_set, List.set_eq_take_append_cons_drop, if_pos (by simpa using h), List.append_assoc]
  rfl
theorem do_a {H : AHeap} {b c : Nat} (ok : ChipOk H b c) {x : Chp} (hl : x.l.length = 24576) {at_ n : Nat} (hn : 0 < n) (han : at_ + n ≤ 24576) {fw fp : Nat} {cw cp : List AV} {f : Nat → UInt8 → UInt8} {g : Nat → UInt8 → UInt8 → UInt8}
    (hW : ∀ (y : Chp) (i : Nat) (u : UInt8) (K : AV → AHeap → Prop), i < n → K (byteV (f i u)) (hp (chipAt H b c y) []) → (ACalls Try.prog) fw (.int .i64 (i : Int) :: byteV u :: cw) (hp (chipAt H b c y) []) K)
    (hP : ∀ (y : Chp) (i : Nat) (u t : UInt8) (K : AV → AHeap → Prop), i < n → K (byteV (g i u t)) (hp (chipAt H b c y) []) → (ACalls Try.prog) fp (.int .i64 (i : Int) :: byteV u :: byteV t :: cp) (hp (chipAt H b c y) []) K)
    {K : AV → AHeap → Prop} (h : K (.int .i64 x.doE) (chipAt H b c (x.doC at_ n f g))) : (ACalls Try.prog) 160 [.ptr c 0 0, .int .i64 (at_ : Int), .int .i64 (n : Int), .func (.func fw) [] cw, .func (.func fp) [] cp] (chipAt H b c x) K := by
  refine acalls_go mo t160 (fun hs hu => ?_)
  simp only [c160, go_sem, Nat.reduceLeDiff, Nat.reduceAdd, Nat.reduceSub, Nat.reduceMul, Nat.reduceLT, Int.reduceLT, Int.reduceLE, Int.reduceAdd, Int.reduceSub, Int.reduceMul, Int.reduceToNat, Int.reduceNeg, Int.reduceEq, Nat.reducePow, Int.reducePow, Nat.reduceEqDiff, decide_true, decide_false, reduceIte, reduceCtorEq, Int.reduceBEq, Int.reduceBNe, bne_self_eq_false, Int.cast_ofNat_Int, Bool.not_true, Bool.not_false, IntKind.bits]
  refine blows_l ok ?_
  have hlt : ∀ y, c < (chipAt H b c y).next := fun _ => ok.c
  have hlb : ∀ y, b < (chipAt H b c y).next := fun _ => ok.b
  unfold Chp.doC Chp.doE at h
  have hyl := blow_l x
  have hyt := blow_torn x
  have hin0 : ∀ y : Chp, (chipAt H b c y).within (chipAt H b c x).next := fun y => chip_in ok hs
  generalize x.blow = y at *
  have hor : at_ = 0 ∨ at_ < at_ + n := by omega
  by_cases hbl : x.blown = true
  · rw [if_pos hbl, if_pos hbl] at h
    have hc := chip_c ok y
    have hcl := hlt y
    have hbl2 := hlb y
    by_cases ht : x.torn = []
    · rw [if_pos ht] at h
      rw [← hyt] at ht
      simp only [hbl, go_sem, Nat.reduceLeDiff, Nat.reduceAdd, Nat.reduceSub, Nat.reduceMul, Nat.reduceLT, Int.reduceLT, Int.reduceLE, Int.reduceAdd, Int.reduceSub, Int.reduceMul, Int.reduceToNat, Int.reduceNeg, Int.reduceEq, Nat.reducePow, Int.reducePow, Nat.reduceEqDiff, decide_true, decide_false, reduceIte, reduceCtorEq, Int.reduceBEq, Int.reduceBNe, bne_self_eq_false, Int.cast_ofNat_Int, Bool.not_true, Bool.not_false, IntKind.bits]
      simp (maxSteps := 4000000) (disch := (first | omega | (simp only [set_next, List.length_append, List.length_cons, List.length_nil, List.length_take, List.length_drop, List.length_map, List.length_set, List.length_replicate]; omega) | (simp only [set_next, ne_eq, reduceCtorEq, not_false_eq_true]))) only [hc, ht, Chp.row_is, go_sem, Nat.reduceLeDiff, Nat.reduceAdd, Nat.reduceSub, Nat.reduceMul, Nat.reduceLT, Int.reduceLT, Int.reduceLE, Int.reduceAdd, Int.reduceSub, Int.reduceMul, Int.reduceToNat, Int.reduceNeg, Int.reduceEq, Nat.reducePow, Int.reducePow, Nat.reduceEqDiff, decide_true, decide_false, reduceIte, reduceCtorEq, Int.reduceBEq, Int.reduceBNe, bne_self_eq_false, Int.cast_ofNat_Int, Bool.not_true, Bool.not_false, IntKind.bits, w_nat, w_lit, w_add, w_addl, w_ladd, w_sub, w_subl, w_lsub, w_mul, w_mull, w_lmul, t_div, t_divl, t_mod, t_modl, i_lt, i_ltl, i_llt, i_le, i_lel, i_lle, i_eq, i_eql, i_leq, Nat.zero_le, d_beq, d_bne, d_bytes, byte_at, Int.toNat_natCast, toNat_lit, decide_eq_true, decide_eq_false, if_pos, if_neg, slA_len, slA_idx, slA_cells, flat_slA, one_slA, cells_slA, map_mid, strV_is, hp_get1, hp_get2, hp_get3, hp_set1, hp_set2, hp_set3, hp_old, hp_sold, set_got, set_set, set_next, set_other, bytesL, bytes_all, List.length_map, aapp_nils, aapp_wr, List.flatMap_cons, List.flatMap_nil, Nat.mul_one]
      exact aret_old rfl (hin0 _) (.int _ _) h
    rw [if_neg ht] at h
    rw [← hyt] at ht h
    have hpos : y.torn.length ≠ 0 := fun h0 => ht (List.eq_nil_of_length_eq_zero h0)
    have hpos2 : 0 < y.torn.length := Nat.pos_of_ne_zero hpos
    simp only [hbl, go_sem, Nat.reduceLeDiff, Nat.reduceAdd, Nat.reduceSub, Nat.reduceMul, Nat.reduceLT, Int.reduceLT, Int.reduceLE, Int.reduceAdd, Int.reduceSub, Int.reduceMul, Int.reduceToNat, Int.reduceNeg, Int.reduceEq, Nat.reducePow, Int.reducePow, Nat.reduceEqDiff, decide_true, decide_false, reduceIte, reduceCtorEq, Int.reduceBEq, Int.reduceBNe, bne_self_eq_false, Int.cast_ofNat_Int, Bool.not_true, Bool.not_false, IntKind.bits]
    simp (maxSteps := 4000000) (disch := (first | omega | (simp only [set_next, List.length_append, List.length_cons, List.length_nil, List.length_take, List.length_drop, List.length_map, List.length_set, List.length_replicate]; omega) | (simp only [set_next, ne_eq, reduceCtorEq, not_false_eq_true]))) only [hc, hor, ht, if_true, Chp.row_is, Nat.add_sub_cancel_left, go_sem, Nat.reduceLeDiff, Nat.reduceAdd, Nat.reduceSub, Nat.reduceMul, Nat.reduceLT, Int.reduceLT, Int.reduceLE, Int.reduceAdd, Int.reduceSub, Int.reduceMul, Int.reduceToNat, Int.reduceNeg, Int.reduceEq, Nat.reducePow, Int.reducePow, Nat.reduceEqDiff, decide_true, decide_false, reduceIte, reduceCtorEq, Int.reduceBEq, Int.reduceBNe, bne_self_eq_false, Int.cast_ofNat_Int, Bool.not_true, Bool.not_false, IntKind.bits, w_nat, w_lit, w_add, w_addl, w_ladd, w_sub, w_subl, w_lsub, w_mul, w_mull, w_lmul, t_div, t_divl, t_mod, t_modl, i_lt, i_ltl, i_llt, i_le, i_lel, i_lle, i_eq, i_eql, i_leq, Nat.zero_le, d_beq, d_bne, d_bytes, byte_at, Int.toNat_natCast, toNat_lit, decide_eq_true, decide_eq_false, if_pos, if_neg, slA_len, slA_idx, slA_cells, flat_slA, one_slA, cells_slA, map_mid, strV_is, hp_get1, hp_get2, hp_get3, hp_set1, hp_set2, hp_set3, hp_old, hp_sold, set_got, set_set, set_next, set_other, bytesL, bytes_all, List.length_map, aapp_nils, aapp_wr, List.flatMap_cons, List.flatMap_nil, Nat.mul_one]
    have hst : hp (chipAt H b c y) [] = hp (chipAt H b c { y with l := mapAt at_ (fun i u => g i u (tornAt y.torn i)) x.l 0 }) [] := by rw [mapAt, ← hyl]
    rw [hst]
    refine go_loopS mono (σ := Nat) (fun i => [(61, .int .i64 (i : Int))]) (fun i => hp (chipAt H b c { y with l := mapAt at_ (fun i u => g i u (tornAt y.torn i)) x.l i }) []) (fun i => i ≤ n) (fun i => n - i) 0 ?_ rfl (Nat.zero_le _) (fun i hi J hJ => ?_)
    · (simp only [blurR_nil, blurR_some, blurR_none, blurC_region, blurC_regionN, blurC_fregion, blurT_nil, blurT_cons, blurC_seq, blurC_cond, blurC_block, blurC_loop, blurC_skip, blurC_exit, blurC_ret, tellS_nil, tellS_cons, List.set_cons_zero, List.set_cons_succ, tops_zero, tops_succ]; repeat first | exact forget_nil | apply forget_keep | apply forget_top)
    have hi : i ≤ n := hi
    simp only [blurR_nil, blurR_some, blurR_none, blurC_region, blurC_regionN, blurC_fregion, blurT_nil, blurT_cons, blurC_seq, blurC_cond, blurC_block, blurC_loop, blurC_skip, blurC_exit, blurC_ret, tellS_nil, tellS_cons, List.set_cons_zero, List.set_cons_succ, tops_zero, tops_succ]
    have hlen := mapAt_len at_ (fun i u => g i u (tornAt y.torn i)) x.l i
    have hc := chip_c ok { y with l := mapAt at_ (fun i u => g i u (tornAt y.torn i)) x.l i }
    have hb := chip_b ok { y with l := mapAt at_ (fun i u => g i u (tornAt y.torn i)) x.l i }
    have hcl := hlt { y with l := mapAt at_ (fun i u => g i u (tornAt y.torn i)) x.l i }
    have hbl3 := hlb { y with l := mapAt at_ (fun i u => g i u (tornAt y.torn i)) x.l i }
    have hP' := hP { y with l := mapAt at_ (fun i u => g i u (tornAt y.torn i)) x.l i } i (x.l.getD (at_ + i) 0) (tornAt y.torn i)
    have hset := chip_setb (H := H) (b := b) (c := c) { y with l := mapAt at_ (fun i u => g i u (tornAt y.torn i)) x.l i } (mapAt at_ (fun i u => g i u (tornAt y.torn i)) x.l (i + 1))
    by_cases h2 : i < n
    · have hnx := mapAt_next at_ (fun i u => g i u (tornAt y.torn i)) x.l i (by omega)
      have hmod : i % y.torn.length < y.torn.length := Nat.mod_lt _ hpos2
      have htb : AV.int .u8 ((y.torn.getD (i % y.torn.length) 0).toNat : Int) = byteV (tornAt y.torn i) := rfl
      rw [mapAt] at hset
      generalize hmm : mapAt at_ (fun i u => g i u (tornAt y.torn i)) x.l i = m at *
      simp (maxSteps := 4000000) (disch := (first | omega | (simp only [set_next, List.length_append, List.length_cons, List.length_nil, List.length_take, List.length_drop, List.length_map, List.length_set, List.length_replicate]; omega) | (simp only [set_next, ne_eq, reduceCtorEq, not_false_eq_true]))) only [hc, hb, hnx, hlen, hl, hpos2, htb, Chp.row_is, List.getElem?_map, Option.map_some, go_sem, Nat.reduceLeDiff, Nat.reduceAdd, Nat.reduceSub, Nat.reduceMul, Nat.reduceLT, Int.reduceLT, Int.reduceLE, Int.reduceAdd, Int.reduceSub, Int.reduceMul, Int.reduceToNat, Int.reduceNeg, Int.reduceEq, Nat.reducePow, Int.reducePow, Nat.reduceEqDiff, decide_true, decide_false, reduceIte, reduceCtorEq, Int.reduceBEq, Int.reduceBNe, bne_self_eq_false, Int.cast_ofNat_Int, Bool.not_true, Bool.not_false, IntKind.bits, w_nat, w_lit, w_add, w_addl, w_ladd, w_sub, w_subl, w_lsub, w_mul, w_mull, w_lmul, t_div, t_divl, t_mod, t_modl, i_lt, i_ltl, i_llt, i_le, i_lel, i_lle, i_eq, i_eql, i_leq, Nat.zero_le, d_beq, d_bne, d_bytes, byte_at, Int.toNat_natCast, toNat_lit, decide_eq_true, decide_eq_false, if_pos, if_neg, slA_len, slA_idx, slA_cells, flat_slA, one_slA, cells_slA, map_mid, strV_is, hp_get1, hp_get2, hp_get3, hp_set1, hp_set2, hp_set3, hp_old, hp_sold, set_got, set_set, set_next, set_other, bytesL, bytes_all, List.length_map, aapp_nils, aapp_wr, List.flatMap_cons, List.flatMap_nil, Nat.mul_one]
      refine ⟨_, hP' _ h2 ⟨rfl, rfl⟩, ?_⟩
      simp (maxSteps := 4000000) (disch := (first | omega | (simp only [set_next, List.length_append, List.length_cons, List.length_nil, List.length_take, List.length_drop, List.length_map, List.length_set, List.length_replicate]; omega) | (simp only [set_next, ne_eq, reduceCtorEq, not_false_eq_true]))) only [hc, hb, hnx, hlen, hl, Chp.row_is, List.getElem?_map, Option.map_some, go_sem, Nat.reduceLeDiff, Nat.reduceAdd, Nat.reduceSub, Nat.reduceMul, Nat.reduceLT, Int.reduceLT, Int.reduceLE, Int.reduceAdd, Int.reduceSub, Int.reduceMul, Int.reduceToNat, Int.reduceNeg, Int.reduceEq, Nat.reducePow, Int.reducePow, Nat.reduceEqDiff, decide_true, decide_false, reduceIte, reduceCtorEq, Int.reduceBEq, Int.reduceBNe, bne_self_eq_false, Int.cast_ofNat_Int, Bool.not_true, Bool.not_false, IntKind.bits, w_nat, w_lit, w_add, w_addl, w_ladd, w_sub, w_subl, w_lsub, w_mul, w_mull, w_lmul, t_div, t_divl, t_mod, t_modl, i_lt, i_ltl, i_llt, i_le, i_lel, i_lle, i_eq, i_eql, i_leq, Nat.zero_le, d_beq, d_bne, d_bytes, byte_at, Int.toNat_natCast, toNat_lit, decide_eq_true, decide_eq_false, if_pos, if_neg, slA_len, slA_idx, slA_cells, flat_slA, one_slA, cells_slA, map_mid, strV_is, hp_get1, hp_get2, hp_get3, hp_set1, hp_set2, hp_set3, hp_old, hp_sold, set_got, set_set, set_next, set_other, bytesL, bytes_all, List.length_map, aapp_nils, aapp_wr, List.flatMap_cons, List.flatMap_nil, Nat.mul_one]
      rw [put_bytes (by omega), hset]
      have hm1 : m.set (at_ + i) (g i (x.l.getD (at_ + i) 0) (tornAt y.torn i)) = mapAt at_ (fun i u => g i u (tornAt y.torn i)) x.l (i + 1) := by rw [mapAt, hmm]
      rw [hm1]
      exact hJ (i + 1) _ h2 (by omega) (by (simp only [blurR_nil, blurR_some, blurR_none, blurC_region, blurC_regionN, blurC_fregion, blurT_nil, blurT_cons, blurC_seq, blurC_cond, blurC_block, blurC_loop, blurC_skip, blurC_exit, blurC_ret, tellS_nil, tellS_cons, List.set_cons_zero, List.set_cons_succ, tops_zero, tops_succ]; repeat first | exact forget_nil | apply forget_keep | apply forget_top))
    · have h3 : i = n := by omega
      subst h3
      simp (maxSteps := 4000000) (disch := (first | omega | (simp only [set_next, List.length_append, List.length_cons, List.length_nil, List.length_take, List.length_drop, List.length_map, List.length_set, List.length_replicate]; omega) | (simp only [set_next, ne_eq, reduceCtorEq, not_false_eq_true]))) only [go_sem, Nat.reduceLeDiff, Nat.reduceAdd, Nat.reduceSub, Nat.reduceMul, Nat.reduceLT, Int.reduceLT, Int.reduceLE, Int.reduceAdd, Int.reduceSub, Int.reduceMul, Int.reduceToNat, Int.reduceNeg, Int.reduceEq, Nat.reducePow, Int.reducePow, Nat.reduceEqDiff, decide_true, decide_false, reduceIte, reduceCtorEq, Int.reduceBEq, Int.reduceBNe, bne_self_eq_false, Int.cast_ofNat_Int, Bool.not_true, Bool.not_false, IntKind.bits, w_nat, w_lit, w_add, w_addl, w_ladd, w_sub, w_subl, w_lsub, w_mul, w_mull, w_lmul, t_div, t_divl, t_mod, t_modl, i_lt, i_ltl, i_llt, i_le, i_lel, i_lle, i_eq, i_eql, i_leq, Nat.zero_le, d_beq, d_bne, d_bytes, byte_at, Int.toNat_natCast, toNat_lit, decide_eq_true, decide_eq_false, if_pos, if_neg, slA_len, slA_idx, slA_cells, flat_slA, one_slA, cells_slA, map_mid, strV_is, hp_get1, hp_get2, hp_get3, hp_set1, hp_set2, hp_set3, hp_old, hp_sold, set_got, set_set, set_next, set_other, bytesL, bytes_all, List.length_map, aapp_nils, aapp_wr, List.flatMap_cons, List.flatMap_nil, Nat.mul_one]
      exact aret_old rfl (hin0 _) (.int _ _) h
  · rw [if_neg hbl, if_neg hbl] at h
    rw [Bool.not_eq_true] at hbl
    have hc := chip_c ok y
    have hcl := hlt y
    have hbl2 := hlb y
    simp only [hbl, go_sem, Nat.reduceLeDiff, Nat.reduceAdd, Nat.reduceSub, Nat.reduceMul, Nat.reduceLT, Int.reduceLT, Int.reduceLE, Int.reduceAdd, Int.reduceSub, Int.reduceMul, Int.reduceToNat, Int.reduceNeg, Int.reduceEq, Nat.reducePow, Int.reducePow, Nat.reduceEqDiff, decide_true, decide_false, reduceIte, reduceCtorEq, Int.reduceBEq, Int.reduceBNe, bne_self_eq_false, Int.cast_ofNat_Int, Bool.not_true, Bool.not_false, IntKind.bits]
    simp (maxSteps := 4000000) (disch := (first | omega | (simp only [set_next, List.length_append, List.length_cons, List.length_nil, List.length_take, List.length_drop, List.length_map, List.length_set, List.length_replicate]; omega) | (simp only [set_next, ne_eq, reduceCtorEq, not_false_eq_true]))) only [hc, hor, if_true, Chp.row_is, Nat.add_sub_cancel_left, go_sem, Nat.reduceLeDiff, Nat.reduceAdd, Nat.reduceSub, Nat.reduceMul, Nat.reduceLT, Int.reduceLT, Int.reduceLE, Int.reduceAdd, Int.reduceSub, Int.reduceMul, Int.reduceToNat, Int.reduceNeg, Int.reduceEq, Nat.reducePow, Int.reducePow, Nat.reduceEqDiff, decide_true, decide_false, reduceIte, reduceCtorEq, Int.reduceBEq, Int.reduceBNe, bne_self_eq_false, Int.cast_ofNat_Int, Bool.not_true, Bool.not_false, IntKind.bits, w_nat, w_lit, w_add, w_addl, w_ladd, w_sub, w_subl, w_lsub, w_mul, w_mull, w_lmul, t_div, t_divl, t_mod, t_modl, i_lt, i_ltl, i_llt, i_le, i_lel, i_lle, i_eq, i_eql, i_leq, Nat.zero_le, d_beq, d_bne, d_bytes, byte_at, Int.toNat_natCast, toNat_lit, decide_eq_true, decide_eq_false, if_pos, if_neg, slA_len, slA_idx, slA_cells, flat_slA, one_slA, cells_slA, map_mid, strV_is, hp_get1, hp_get2, hp_get3, hp_set1, hp_set2, hp_set3, hp_old, hp_sold, set_got, set_set, set_next, set_other, bytesL, bytes_all, List.length_map, aapp_nils, aapp_wr, List.flatMap_cons, List.flatMap_nil, Nat.mul_one]
    have hst : hp (chipAt H b c y) [] = hp (chipAt H b c { y with l := mapAt at_ f x.l 0 }) [] := by rw [mapAt, ← hyl]
    rw [hst]
    refine go_loopS mono (σ := Nat) (fun i => [(28, .int .i64 (i : Int))]) (fun i => hp (chipAt H b c { y with l := mapAt at_ f x.l i }) []) (fun i => i ≤ n) (fun i => n - i) 0 ?_ rfl (Nat.zero_le _) (fun i hi J hJ => ?_)
    · (simp only [blurR_nil, blurR_some, blurR_none, blurC_region, blurC_regionN, blurC_fregion, blurT_nil, blurT_cons, blurC_seq, blurC_cond, blurC_block, blurC_loop, blurC_skip, blurC_exit, blurC_ret, tellS_nil, tellS_cons, List.set_cons_zero, List.set_cons_succ, tops_zero, tops_succ]; repeat first | exact forget_nil | apply forget_keep | apply forget_top)
    have hi : i ≤ n := hi
    simp only [blurR_nil, blurR_some, blurR_none, blurC_region, blurC_regionN, blurC_fregion, blurT_nil, blurT_cons, blurC_seq, blurC_cond, blurC_block, blurC_loop, blurC_skip, blurC_exit, blurC_ret, tellS_nil, tellS_cons, List.set_cons_zero, List.set_cons_succ, tops_zero, tops_succ]
    have hlen := mapAt_len at_ f x.l i
    have hc := chip_c ok { y with l := mapAt at_ f x.l i }
    have hb := chip_b ok { y with l := mapAt at_ f x.l i }
    have hcl := hlt { y with l := mapAt at_ f x.l i }
    have hbl3 := hlb { y with l := mapAt at_ f x.l i }
    have hW' := hW { y with l := mapAt at_ f x.l i } i (x.l.getD (at_ + i) 0)
    have hset := chip_setb (H := H) (b := b) (c := c) { y with l := mapAt at_ f x.l i } (mapAt at_ f x.l (i + 1))
    by_cases h2 : i < n
    · have hnx := mapAt_next at_ f x.l i (by omega)
      rw [mapAt] at hset
      generalize hmm : mapAt at_ f x.l i = m at *
      simp (maxSteps := 4000000) (disch := (first | omega | (simp only [set_next, List.length_append, List.length_cons, List.length_nil, List.length_take, List.length_drop, List.length_map, List.length_set, List.length_replicate]; omega) | (simp only [set_next, ne_eq, reduceCtorEq, not_false_eq_true]))) only [hc, hb, hnx, hlen, hl, Chp.row_is, List.getElem?_map, Option.map_some, go_sem, Nat.reduceLeDiff, Nat.reduceAdd, Nat.reduceSub, Nat.reduceMul, Nat.reduceLT, Int.reduceLT, Int.reduceLE, Int.reduceAdd, Int.reduceSub, Int.reduceMul, Int.reduceToNat, Int.reduceNeg, Int.reduceEq, Nat.reducePow, Int.reducePow, Nat.reduceEqDiff, decide_true, decide_false, reduceIte, reduceCtorEq, Int.reduceBEq, Int.reduceBNe, bne_self_eq_false, Int.cast_ofNat_Int, Bool.not_true, Bool.not_false, IntKind.bits, w_nat, w_lit, w_add, w_addl, w_ladd, w_sub, w_subl, w_lsub, w_mul, w_mull, w_lmul, t_div, t_divl, t_mod, t_modl, i_lt, i_ltl, i_llt, i_le, i_lel, i_lle, i_eq, i_eql, i_leq, Nat.zero_le, d_beq, d_bne, d_bytes, byte_at, Int.toNat_natCast, toNat_lit, decide_eq_true, decide_eq_false, if_pos, if_neg, slA_len, slA_idx, slA_cells, flat_slA, one_slA, cells_slA, map_mid, strV_is, hp_get1, hp_get2, hp_get3, hp_set1, hp_set2, hp_set3, hp_old, hp_sold, set_got, set_set, set_next, set_other, bytesL, bytes_all, List.length_map, aapp_nils, aapp_wr, List.flatMap_cons, List.flatMap_nil, Nat.mul_one]
      refine ⟨_, hW' _ h2 ⟨rfl, rfl⟩, ?_⟩
      simp (maxSteps := 4000000) (disch := (first | omega | (simp only [set_next, List.length_append, List.length_cons, List.length_nil, List.length_take, List.length_drop, List.length_map, List.length_set, List.length_replicate]; omega) | (simp only [set_next, ne_eq, reduceCtorEq, not_false_eq_true]))) only [hc, hb, hnx, hlen, hl, Chp.row_is, List.getElem?_map, Option.map_some, go_sem, Nat.reduceLeDiff, Nat.reduceAdd, Nat.reduceSub, Nat.reduceMul, Nat.reduceLT, Int.reduceLT, Int.reduceLE, Int.reduceAdd, Int.reduceSub, Int.reduceMul, Int.reduceToNat, Int.reduceNeg, Int.reduceEq, Nat.reducePow, Int.reducePow, Nat.reduceEqDiff, decide_true, decide_false, reduceIte, reduceCtorEq, Int.reduceBEq, Int.reduceBNe, bne_self_eq_false, Int.cast_ofNat_Int, Bool.not_true, Bool.not_false, IntKind.bits, w_nat, w_lit, w_add, w_addl, w_ladd, w_sub, w_subl, w_lsub, w_mul, w_mull, w_lmul, t_div, t_divl, t_mod, t_modl, i_lt, i_ltl, i_llt, i_le, i_lel, i_lle, i_eq, i_eql, i_leq, Nat.zero_le, d_beq, d_bne, d_bytes, byte_at, Int.toNat_natCast, toNat_lit, decide_eq_true, decide_eq_false, if_pos, if_neg, slA_len, slA_idx, slA_cells, flat_slA, one_slA, cells_slA, map_mid, strV_is, hp_get1, hp_get2, hp_get3, hp_set1, hp_set2, hp_set3, hp_old, hp_sold, set_got, set_set, set_next, set_other, bytesL, bytes_all, List.length_map, aapp_nils, aapp_wr, List.flatMap_cons, List.flatMap_nil, Nat.mul_one]
      rw [put_bytes (by omega), hset]
      have hm1 : m.set (at_ + i) (f i (x.l.getD (at_ + i) 0)) = mapAt at_ f x.l (i + 1) := by rw [mapAt, hmm]
      rw [hm1]
      exact hJ (i + 1) _ h2 (by omega) (by (simp only [blurR_nil, blurR_some, blurR_none, blurC_region, blurC_regionN, blurC_fregion, blurT_nil, blurT_cons, blurC_seq, blurC_cond, blurC_block, blurC_loop, blurC_skip, blurC_exit, blurC_ret, tellS_nil, tellS_cons, List.set_cons_zero, List.set_cons_succ, tops_zero, tops_succ]; repeat first | exact forget_nil | apply forget_keep | apply forget_top))
    · have h3 : i = n := by omega
      subst h3
      simp (maxSteps := 4000000) (disch := (first | omega | (simp only [set_next, List.length_append, List.length_cons, List.length_nil, List.length_take, List.length_drop, List.length_map, List.length_set, List.length_replicate]; omega) | (simp only [set_next, ne_eq, reduceCtorEq, not_false_eq_true]))) only [go_sem, Nat.reduceLeDiff, Nat.reduceAdd, Nat.reduceSub, Nat.reduceMul, Nat.reduceLT, Int.reduceLT, Int.reduceLE, Int.reduceAdd, Int.reduceSub, Int.reduceMul, Int.reduceToNat, Int.reduceNeg, Int.reduceEq, Nat.reducePow, Int.reducePow, Nat.reduceEqDiff, decide_true, decide_false, reduceIte, reduceCtorEq, Int.reduceBEq, Int.reduceBNe, bne_self_eq_false, Int.cast_ofNat_Int, Bool.not_true, Bool.not_false, IntKind.bits, w_nat, w_lit, w_add, w_addl, w_ladd, w_sub, w_subl, w_lsub, w_mul, w_mull, w_lmul, t_div, t_divl, t_mod, t_modl, i_lt, i_ltl, i_llt, i_le, i_lel, i_lle, i_eq, i_eql, i_leq, Nat.zero_le, d_beq, d_bne, d_bytes, byte_at, Int.toNat_natCast, toNat_lit, decide_eq_true, decide_eq_false, if_pos, if_neg, slA_len, slA_idx, slA_cells, flat_slA, one_slA, cells_slA, map_mid, strV_is, hp_get1, hp_get2, hp_get3, hp_set1, hp_set2, hp_set3, hp_old, hp_sold, set_got, set_set, set_next, set_other, bytesL, bytes_all, List.length_map, aapp_nils, aapp_wr, List.flatMap_cons, List.flatMap_nil, Nat.mul_one]
      exact aret_old rfl (hin0 _) (.int _ _) h
end Go.Proofs.Ytfilheaaacffmaa.AL
/- Erasing and programming told. -/
set_option linter.unusedSimpArgs false
set_option linter.unusedVariables false
set_option maxRecDepth 100000
namespace Go.Proofs.Ytfilheaaacffmaa.AL
open Go Go.Proofs
attribute [local go_sem] go_seq go_skip go_region go_regionN go_fregion rgF_some go_cond go_block go_exit go_ret nxt_nil nxt_code nxt_blk nxt_cut leave_nil leave_code leave_cut leave_blk rtn_nil rtn_code rtn_blk rtn_cut cnd_t cnd_f rgn_nil rgY_some rgY_none rgH_some rgP_some retTo_is rgV_func grd_und grd_tt grd_ff grd_tf grd_ft rgn_q rgn_alloc rgn_box rgn_store rgn_lit rgn_litw litCells_nil litCells_cons rgn_app rgn_copy rgn_mk rgn_s2b rgn_call rgn_callv rgn_stop rgn_slice3 aslice3 rgn_put rgn_mkmap rgn_lookup rgn_mapup alookup_nilm alookup_map amapup_map afound_ok afound_no rgn_c rgn_cv qclV_func aloadr rgn_guard post_ret post_normal retY_some ares aresL ares1 AX.ev aput List.getD_cons_zero List.getD_cons_succ List.set_cons_zero List.set_cons_succ List.map_cons List.map_nil aq abin aint astr abeq aconv asame aextract alenS alenL_nils alenL_emp alenL_imm alenL_wr aun apart aload afieldAddr afield aidxSl_wr aidxSl_imm aidxPt aidxStr aidxArr abound asliceStr asliceSl asliceArr abest anonil afill astore acells_nils acells_emp acells_imm acells_wr acells_str acopy litAll amk as2b anil nilOf aseq aeqs aeqv fits fit1 hp_next hp_push hp_get hp_set List.length_cons List.length_nil List.getElem?_cons_zero List.getElem?_cons_succ List.cons_append List.nil_append List.append_nil List.take_succ_cons List.take_zero List.drop_succ_cons List.drop_zero List.all_cons List.all_nil Option.map_some Option.some.injEq Bool.and_true Bool.true_and Bool.false_eq_true if_true if_false ite_true ite_false Bool.and_self true_and and_true and_self Nat.zero_add Nat.le_refl Int.toNat_natCast beq_self_eq_true eq_self tops_zero tops_succ Int.natCast_nonneg List.take_nil List.drop_nil Option.map_none flat_bool one_bool cells_bool flat_int one_int cells_int flat_str one_str cells_str flat_nilp one_nilp cells_nilp flat_ptr one_ptr cells_ptr flat_nils one_nils cells_nils flat_imm one_imm cells_imm flat_wr one_wr cells_wr flat_func one_func cells_func flat_nilf one_nilf cells_nilf flat_map one_map cells_map flat_nilm one_nilm cells_nilm flat_iface one_iface cells_iface flat_nili one_nili cells_nili flat_rd one_rd cells_rd flat_emp one_emp cells_emp flat_byteV one_byteV cells_byteV flat_agg cells_agg one_agg B_size B_list B_ext B_toList B_app List.take_length Int.le_refl
def erF (_ : Nat) (_ : UInt8) : UInt8 := 255
def erG (_ : Nat) (u t : UInt8) : UInt8 := u ||| (0 - (t &&& 1))
theorem and_u8 (a b : UInt8) : bits .and .u8 (a.toNat : Int) (b.toNat : Int) = ((a &&& b).toNat : Int) := by
  have h : bits .and .u8 (a.toNat : Int) (b.toNat : Int) = IntKind.u8.wrap ((BitVec.ofInt 8 (a.toNat : Int) &&& BitVec.ofInt 8 (b.toNat : Int)).toNat : Int) := rfl
  rw [h, BitVec.ofInt_natCast, BitVec.ofInt_natCast, IntKind.wrap_u8]
  have h1 : (BitVec.ofNat 8 a.toNat &&& BitVec.ofNat 8 b.toNat).toNat = (a &&& b).toNat := by
    simp [UInt8.toNat_and, BitVec.toNat_and]
  rw [h1]
  have := (a &&& b).toNat_lt
  omega
theorem or_u8 (a b : UInt8) : bits .or .u8 (a.toNat : Int) (b.toNat : Int) = ((a ||| b).toNat : Int) := by
  have h : bits .or .u8 (a.toNat : Int) (b.toNat : Int) = IntKind.u8.wrap ((BitVec.ofInt 8 (a.toNat : Int) ||| BitVec.ofInt 8 (b.toNat : Int)).toNat : Int) := rfl
  rw [h, BitVec.ofInt_natCast, BitVec.ofInt_natCast, IntKind.wrap_u8]
  have h1 : (BitVec.ofNat 8 a.toNat ||| BitVec.ofNat 8 b.toNat).toNat = (a ||| b).toNat := by
    simp [UInt8.toNat_or, BitVec.toNat_or]
  rw [h1]
  have := (a ||| b).toNat_lt
  omega
theorem er1_a {i : Nat} {u : UInt8} {H : AHeap} {K : AV → AHeap → Prop} (h : K (byteV (erF i u)) H) : (ACalls Try.prog) 158 [.int .i64 (i : Int), byteV u] H K := by
  refine acalls_go mo t158 (fun hs hu => ?_)
  simp only [c158, go_sem, Nat.reduceLeDiff, Nat.reduceAdd, Nat.reduceSub, Nat.reduceMul, Nat.reduceLT, Int.reduceLT, Int.reduceLE, Int.reduceAdd, Int.reduceSub, Int.reduceMul, Int.reduceToNat, Int.reduceNeg, Int.reduceEq, Nat.reducePow, Int.reducePow, Nat.reduceEqDiff, decide_true, decide_false, reduceIte, reduceCtorEq, Int.reduceBEq, Int.reduceBNe, bne_self_eq_false, Int.cast_ofNat_Int, Bool.not_true, Bool.not_false, IntKind.bits]
  exact aret_plain hs (.int _ _) h
theorem er2_a {i : Nat} {u t : UInt8} {H : AHeap} {K : AV → AHeap → Prop} (h : K (byteV (erG i u t)) H) : (ACalls Try.prog) 159 [.int .i64 (i : Int), byteV u, byteV t] H K := by
  refine acalls_go mo t159 (fun hs hu => ?_)
  simp only [c159, byteV, go_sem, Nat.reduceLeDiff, Nat.reduceAdd, Nat.reduceSub, Nat.reduceMul, Nat.reduceLT, Int.reduceLT, Int.reduceLE, Int.reduceAdd, Int.reduceSub, Int.reduceMul, Int.reduceToNat, Int.reduceNeg, Int.reduceEq, Nat.reducePow, Int.reducePow, Nat.reduceEqDiff, decide_true, decide_false, reduceIte, reduceCtorEq, Int.reduceBEq, Int.reduceBNe, bne_self_eq_false, Int.cast_ofNat_Int, Bool.not_true, Bool.not_false, IntKind.bits]
  have h1 : bits .and .u8 (t.toNat : Int) 1 = ((t &&& 1).toNat : Int) := and_u8 t 1
  have h2 : IntKind.wrap .u8 (0 - ((t &&& 1).toNat : Int)) = ((0 - (t &&& 1)).toNat : Int) := by
    rw [IntKind.wrap_u8, UInt8.toNat_sub]
    have := (t &&& 1).toNat_lt
    have h0 : (0 : UInt8).toNat = 0 := rfl
    rw [h0]
    omega
  rw [h1, h2, or_u8]
  exact aret_plain hs (.int _ _) h
def prF (s : List UInt8) (i : Nat) (u : UInt8) : UInt8 := u &&& s.getD i 0
def prG (s : List UInt8) (i : Nat) (u t : UInt8) : UInt8 := u &&& (s.getD i 0 ||| t)
theorem pr1_a {s : List UInt8} {id e gen : Nat} {i : Nat} {u : UInt8} {H : AHeap} (hg : H.get id = some (.row e gen [.str (B s)])) (hi : i < s.length) {K : AV → AHeap → Prop} (h : K (byteV (prF s i u)) H) : (ACalls Try.prog) 162 [.int .i64 (i : Int), byteV u, .ptr id gen 0] H K := by
  refine acalls_go mo t162 (fun hs hu => ?_)
  have hlt := H.lt hg
  simp only [c162, byteV, go_sem, Nat.reduceLeDiff, Nat.reduceAdd, Nat.reduceSub, Nat.reduceMul, Nat.reduceLT, Int.reduceLT, Int.reduceLE, Int.reduceAdd, Int.reduceSub, Int.reduceMul, Int.reduceToNat, Int.reduceNeg, Int.reduceEq, Nat.reducePow, Int.reducePow, Nat.reduceEqDiff, decide_true, decide_false, reduceIte, reduceCtorEq, Int.reduceBEq, Int.reduceBNe, bne_self_eq_false, Int.cast_ofNat_Int, Bool.not_true, Bool.not_false, IntKind.bits]
  simp (maxSteps := 4000000) (disch := (first | omega | (simp only [set_next, List.length_append, List.length_cons, List.length_nil, List.length_take, List.length_drop, List.length_map, List.length_set, List.length_replicate]; omega) | (simp only [set_next, ne_eq, reduceCtorEq, not_false_eq_true]))) only [hg, go_sem, Nat.reduceLeDiff, Nat.reduceAdd, Nat.reduceSub, Nat.reduceMul, Nat.reduceLT, Int.reduceLT, Int.reduceLE, Int.reduceAdd, Int.reduceSub, Int.reduceMul, Int.reduceToNat, Int.reduceNeg, Int.reduceEq, Nat.reducePow, Int.reducePow, Nat.reduceEqDiff, decide_true, decide_false, reduceIte, reduceCtorEq, Int.reduceBEq, Int.reduceBNe, bne_self_eq_false, Int.cast_ofNat_Int, Bool.not_true, Bool.not_false, IntKind.bits, w_nat, w_lit, w_add, w_addl, w_ladd, w_sub, w_subl, w_lsub, w_mul, w_mull, w_lmul, t_div, t_divl, t_mod, t_modl, i_lt, i_ltl, i_llt, i_le, i_lel, i_lle, i_eq, i_eql, i_leq, Nat.zero_le, d_beq, d_bne, d_bytes, byte_at, Int.toNat_natCast, toNat_lit, decide_eq_true, decide_eq_false, if_pos, if_neg, slA_len, slA_idx, slA_cells, flat_slA, one_slA, cells_slA, map_mid, strV_is, hp_get1, hp_get2, hp_get3, hp_set1, hp_set2, hp_set3, hp_old, hp_sold, set_got, set_set, set_next, set_other, bytesL, bytes_all, List.length_map, aapp_nils, aapp_wr, List.flatMap_cons, List.flatMap_nil, Nat.mul_one]
  rw [and_u8]
  exact aret_plain hs (.int _ _) h
theorem pr2_a {s : List UInt8} {id e gen : Nat} {i : Nat} {u t : UInt8} {H : AHeap} (hg : H.get id = some (.row e gen [.str (B s)])) (hi : i < s.length) {K : AV → AHeap → Prop} (h : K (byteV (prG s i u t)) H) : (ACalls Try.prog) 163 [.int .i64 (i : Int), byteV u, byteV t, .ptr id gen 0] H K := by
  refine acalls_go mo t163 (fun hs hu => ?_)
  have hlt := H.lt hg
  simp only [c163, byteV, go_sem, Nat.reduceLeDiff, Nat.reduceAdd, Nat.reduceSub, Nat.reduceMul, Nat.reduceLT, Int.reduceLT, Int.reduceLE, Int.reduceAdd, Int.reduceSub, Int.reduceMul, Int.reduceToNat, Int.reduceNeg, Int.reduceEq, Nat.reducePow, Int.reducePow, Nat.reduceEqDiff, decide_true, decide_false, reduceIte, reduceCtorEq, Int.reduceBEq, Int.reduceBNe, bne_self_eq_false, Int.cast_ofNat_Int, Bool.not_true, Bool.not_false, IntKind.bits]
  simp (maxSteps := 4000000) (disch := (first | omega | (simp only [set_next, List.length_append, List.length_cons, List.length_nil, List.length_take, List.length_drop, List.length_map, List.length_set, List.length_replicate]; omega) | (simp only [set_next, ne_eq, reduceCtorEq, not_false_eq_true]))) only [hg, go_sem, Nat.reduceLeDiff, Nat.reduceAdd, Nat.reduceSub, Nat.reduceMul, Nat.reduceLT, Int.reduceLT, Int.reduceLE, Int.reduceAdd, Int.reduceSub, Int.reduceMul, Int.reduceToNat, Int.reduceNeg, Int.reduceEq, Nat.reducePow, Int.reducePow, Nat.reduceEqDiff, decide_true, decide_false, reduceIte, reduceCtorEq, Int.reduceBEq, Int.reduceBNe, bne_self_eq_false, Int.cast_ofNat_Int, Bool.not_true, Bool.not_false, IntKind.bits, w_nat, w_lit, w_add, w_addl, w_ladd, w_sub, w_subl, w_lsub, w_mul, w_mull, w_lmul, t_div, t_divl, t_mod, t_modl, i_lt, i_ltl, i_llt, i_le, i_lel, i_lle, i_eq, i_eql, i_leq, Nat.zero_le, d_beq, d_bne, d_bytes, byte_at, Int.toNat_natCast, toNat_lit, decide_eq_true, decide_eq_false, if_pos, if_neg, slA_len, slA_idx, slA_cells, flat_slA, one_slA, cells_slA, map_mid, strV_is, hp_get1, hp_get2, hp_get3, hp_set1, hp_set2, hp_set3, hp_old, hp_sold, set_got, set_set, set_next, set_other, bytesL, bytes_all, List.length_map, aapp_nils, aapp_wr, List.flatMap_cons, List.flatMap_nil, Nat.mul_one]
  rw [or_u8, and_u8]
  exact aret_plain hs (.int _ _) h
def Chp.erase (x : Chp) (s : Int) : Chp × Int :=
  if x.on = true then (if s < 0 ∨ 48 ≤ s then (x, 2) else (x.doC (s.toNat * 512) 512 erF erG, x.doE)) else (x, 4)
theorem erase_a {H : AHeap} {b c : Nat} (ok : ChipOk H b c) {x : Chp} (hl : x.l.length = 24576) {s : Int} {K : AV → AHeap → Prop} (h : K (.int .i64 (x.erase s).2) (chipAt H b c (x.erase s).1)) : (ACalls Try.prog) 124 [.ptr c 0 0, .int .i64 s] (chipAt H b c x) K := by
  refine acalls_go mo t124 (fun hs hu => ?_)
  have hin0 : ∀ y : Chp, (chipAt H b c y).within (chipAt H b c x).next := fun y => chip_in ok hs
  unfold Chp.erase at h
  simp only [c124, go_sem, Nat.reduceLeDiff, Nat.reduceAdd, Nat.reduceSub, Nat.reduceMul, Nat.reduceLT, Int.reduceLT, Int.reduceLE, Int.reduceAdd, Int.reduceSub, Int.reduceMul, Int.reduceToNat, Int.reduceNeg, Int.reduceEq, Nat.reducePow, Int.reducePow, Nat.reduceEqDiff, decide_true, decide_false, reduceIte, reduceCtorEq, Int.reduceBEq, Int.reduceBNe, bne_self_eq_false, Int.cast_ofNat_Int, Bool.not_true, Bool.not_false, IntKind.bits]
  refine on_l ok ?_
  by_cases h1 : x.on = true
  · rw [if_pos h1] at h
    simp only [h1, go_sem, Nat.reduceLeDiff, Nat.reduceAdd, Nat.reduceSub, Nat.reduceMul, Nat.reduceLT, Int.reduceLT, Int.reduceLE, Int.reduceAdd, Int.reduceSub, Int.reduceMul, Int.reduceToNat, Int.reduceNeg, Int.reduceEq, Nat.reducePow, Int.reducePow, Nat.reduceEqDiff, decide_true, decide_false, reduceIte, reduceCtorEq, Int.reduceBEq, Int.reduceBNe, bne_self_eq_false, Int.cast_ofNat_Int, Bool.not_true, Bool.not_false, IntKind.bits]
    by_cases h2 : s < 0
    · rw [if_pos (.inl h2)] at h
      simp only [h2, decide_true, go_sem, Nat.reduceLeDiff, Nat.reduceAdd, Nat.reduceSub, Nat.reduceMul, Nat.reduceLT, Int.reduceLT, Int.reduceLE, Int.reduceAdd, Int.reduceSub, Int.reduceMul, Int.reduceToNat, Int.reduceNeg, Int.reduceEq, Nat.reducePow, Int.reducePow, Nat.reduceEqDiff, decide_true, decide_false, reduceIte, reduceCtorEq, Int.reduceBEq, Int.reduceBNe, bne_self_eq_false, Int.cast_ofNat_Int, Bool.not_true, Bool.not_false, IntKind.bits]
      exact aret_old rfl (hin0 _) (.int _ _) h
    · obtain ⟨k, rfl⟩ := Int.eq_ofNat_of_zero_le (Int.not_lt.1 h2)
      by_cases h3 : 48 ≤ k
      · rw [if_pos (.inr (by omega))] at h
        simp (maxSteps := 4000000) (disch := (first | omega | (simp only [set_next, List.length_append, List.length_cons, List.length_nil, List.length_take, List.length_drop, List.length_map, List.length_set, List.length_replicate]; omega) | (simp only [set_next, ne_eq, reduceCtorEq, not_false_eq_true]))) only [go_sem, Nat.reduceLeDiff, Nat.reduceAdd, Nat.reduceSub, Nat.reduceMul, Nat.reduceLT, Int.reduceLT, Int.reduceLE, Int.reduceAdd, Int.reduceSub, Int.reduceMul, Int.reduceToNat, Int.reduceNeg, Int.reduceEq, Nat.reducePow, Int.reducePow, Nat.reduceEqDiff, decide_true, decide_false, reduceIte, reduceCtorEq, Int.reduceBEq, Int.reduceBNe, bne_self_eq_false, Int.cast_ofNat_Int, Bool.not_true, Bool.not_false, IntKind.bits, w_nat, w_lit, w_add, w_addl, w_ladd, w_sub, w_subl, w_lsub, w_mul, w_mull, w_lmul, t_div, t_divl, t_mod, t_modl, i_lt, i_ltl, i_llt, i_le, i_lel, i_lle, i_eq, i_eql, i_leq, Nat.zero_le, d_beq, d_bne, d_bytes, byte_at, Int.toNat_natCast, toNat_lit, decide_eq_true, decide_eq_false, if_pos, if_neg, slA_len, slA_idx, slA_cells, flat_slA, one_slA, cells_slA, map_mid, strV_is, hp_get1, hp_get2, hp_get3, hp_set1, hp_set2, hp_set3, hp_old, hp_sold, set_got, set_set, set_next, set_other, bytesL, bytes_all, List.length_map, aapp_nils, aapp_wr, List.flatMap_cons, List.flatMap_nil, Nat.mul_one]
        exact aret_old rfl (hin0 _) (.int _ _) h
      · rw [if_neg (by omega)] at h
        simp only [Int.toNat_natCast] at h
        simp (maxSteps := 4000000) (disch := (first | omega | (simp only [set_next, List.length_append, List.length_cons, List.length_nil, List.length_take, List.length_drop, List.length_map, List.length_set, List.length_replicate]; omega) | (simp only [set_next, ne_eq, reduceCtorEq, not_false_eq_true]))) only [go_sem, Nat.reduceLeDiff, Nat.reduceAdd, Nat.reduceSub, Nat.reduceMul, Nat.reduceLT, Int.reduceLT, Int.reduceLE, Int.reduceAdd, Int.reduceSub, Int.reduceMul, Int.reduceToNat, Int.reduceNeg, Int.reduceEq, Nat.reducePow, Int.reducePow, Nat.reduceEqDiff, decide_true, decide_false, reduceIte, reduceCtorEq, Int.reduceBEq, Int.reduceBNe, bne_self_eq_false, Int.cast_ofNat_Int, Bool.not_true, Bool.not_false, IntKind.bits, w_nat, w_lit, w_add, w_addl, w_ladd, w_sub, w_subl, w_lsub, w_mul, w_mull, w_lmul, t_div, t_divl, t_mod, t_modl, i_lt, i_ltl, i_llt, i_le, i_lel, i_lle, i_eq, i_eql, i_leq, Nat.zero_le, d_beq, d_bne, d_bytes, byte_at, Int.toNat_natCast, toNat_lit, decide_eq_true, decide_eq_false, if_pos, if_neg, slA_len, slA_idx, slA_cells, flat_slA, one_slA, cells_slA, map_mid, strV_is, hp_get1, hp_get2, hp_get3, hp_set1, hp_set2, hp_set3, hp_old, hp_sold, set_got, set_set, set_next, set_other, bytesL, bytes_all, List.length_map, aapp_nils, aapp_wr, List.flatMap_cons, List.flatMap_nil, Nat.mul_one]
        rw [hp_nil]
        refine do_a ok hl (at_ := k * 512) (n := 512) (f := erF) (g := erG) (by omega) (by omega) (fun y i u K hi hk => er1_a hk) (fun y i u t K hi hk => er2_a hk) ?_
        rw [← hp_nil (H := chipAt H b c (x.doC (k * 512) 512 erF erG))]
        simp (maxSteps := 4000000) (disch := (first | omega | (simp only [set_next, List.length_append, List.length_cons, List.length_nil, List.length_take, List.length_drop, List.length_map, List.length_set, List.length_replicate]; omega) | (simp only [set_next, ne_eq, reduceCtorEq, not_false_eq_true]))) only [go_sem, Nat.reduceLeDiff, Nat.reduceAdd, Nat.reduceSub, Nat.reduceMul, Nat.reduceLT, Int.reduceLT, Int.reduceLE, Int.reduceAdd, Int.reduceSub, Int.reduceMul, Int.reduceToNat, Int.reduceNeg, Int.reduceEq, Nat.reducePow, Int.reducePow, Nat.reduceEqDiff, decide_true, decide_false, reduceIte, reduceCtorEq, Int.reduceBEq, Int.reduceBNe, bne_self_eq_false, Int.cast_ofNat_Int, Bool.not_true, Bool.not_false, IntKind.bits, w_nat, w_lit, w_add, w_addl, w_ladd, w_sub, w_subl, w_lsub, w_mul, w_mull, w_lmul, t_div, t_divl, t_mod, t_modl, i_lt, i_ltl, i_llt, i_le, i_lel, i_lle, i_eq, i_eql, i_leq, Nat.zero_le, d_beq, d_bne, d_bytes, byte_at, Int.toNat_natCast, toNat_lit, decide_eq_true, decide_eq_false, if_pos, if_neg, slA_len, slA_idx, slA_cells, flat_slA, one_slA, cells_slA, map_mid, strV_is, hp_get1, hp_get2, hp_get3, hp_set1, hp_set2, hp_set3, hp_old, hp_sold, set_got, set_set, set_next, set_other, bytesL, bytes_all, List.length_map, aapp_nils, aapp_wr, List.flatMap_cons, List.flatMap_nil, Nat.mul_one]
        exact aret_old rfl (hin0 _) (.int _ _) h
  · rw [if_neg h1] at h
    rw [Bool.not_eq_true] at h1
    simp only [h1, go_sem, Nat.reduceLeDiff, Nat.reduceAdd, Nat.reduceSub, Nat.reduceMul, Nat.reduceLT, Int.reduceLT, Int.reduceLE, Int.reduceAdd, Int.reduceSub, Int.reduceMul, Int.reduceToNat, Int.reduceNeg, Int.reduceEq, Nat.reducePow, Int.reducePow, Nat.reduceEqDiff, decide_true, decide_false, reduceIte, reduceCtorEq, Int.reduceBEq, Int.reduceBNe, bne_self_eq_false, Int.cast_ofNat_Int, Bool.not_true, Bool.not_false, IntKind.bits]
    exact aret_old rfl (hin0 _) (.int _ _) h
end Go.Proofs.Ytfilheaaacffmaa.AL
/- Programming and writing told. -/
set_option linter.unusedSimpArgs false
set_option linter.unusedVariables false
set_option maxRecDepth 100000
namespace Go.Proofs.Ytfilheaaacffmaa.AL
open Go Go.Proofs
attribute [local go_sem] go_seq go_skip go_region go_regionN go_fregion rgF_some go_cond go_block go_exit go_ret nxt_nil nxt_code nxt_blk nxt_cut leave_nil leave_code leave_cut leave_blk rtn_nil rtn_code rtn_blk rtn_cut cnd_t cnd_f rgn_nil rgY_some rgY_none rgH_some rgP_some retTo_is rgV_func grd_und grd_tt grd_ff grd_tf grd_ft rgn_q rgn_alloc rgn_box rgn_store rgn_lit rgn_litw litCells_nil litCells_cons rgn_app rgn_copy rgn_mk rgn_s2b rgn_call rgn_callv rgn_stop rgn_slice3 aslice3 rgn_put rgn_mkmap rgn_lookup rgn_mapup alookup_nilm alookup_map amapup_map afound_ok afound_no rgn_c rgn_cv qclV_func aloadr rgn_guard post_ret post_normal retY_some ares aresL ares1 AX.ev aput List.getD_cons_zero List.getD_cons_succ List.set_cons_zero List.set_cons_succ List.map_cons List.map_nil aq abin aint astr abeq aconv asame aextract alenS alenL_nils alenL_emp alenL_imm alenL_wr aun apart aload afieldAddr afield aidxSl_wr aidxSl_imm aidxPt aidxStr aidxArr abound asliceStr asliceSl asliceArr abest anonil afill astore acells_nils acells_emp acells_imm acells_wr acells_str acopy litAll amk as2b anil nilOf aseq aeqs aeqv fits fit1 hp_next hp_push hp_get hp_set List.length_cons List.length_nil List.getElem?_cons_zero List.getElem?_cons_succ List.cons_append List.nil_append List.append_nil List.take_succ_cons List.take_zero List.drop_succ_cons List.drop_zero List.all_cons List.all_nil Option.map_some Option.some.injEq Bool.and_true Bool.true_and Bool.false_eq_true if_true if_false ite_true ite_false Bool.and_self true_and and_true and_self Nat.zero_add Nat.le_refl Int.toNat_natCast beq_self_eq_true eq_self tops_zero tops_succ Int.natCast_nonneg List.take_nil List.drop_nil Option.map_none flat_bool one_bool cells_bool flat_int one_int cells_int flat_str one_str cells_str flat_nilp one_nilp cells_nilp flat_ptr one_ptr cells_ptr flat_nils one_nils cells_nils flat_imm one_imm cells_imm flat_wr one_wr cells_wr flat_func one_func cells_func flat_nilf one_nilf cells_nilf flat_map one_map cells_map flat_nilm one_nilm cells_nilm flat_iface one_iface cells_iface flat_nili one_nili cells_nili flat_rd one_rd cells_rd flat_emp one_emp cells_emp flat_byteV one_byteV cells_byteV flat_agg cells_agg one_agg B_size B_list B_ext B_toList B_app List.take_length Int.le_refl
def Chp.prog (x : Chp) (at_ : Int) (s : List UInt8) : Chp × Int :=
  if x.on = true then (if s = [] ∨ 32 < s.length then (x, 1) else if hasN at_ (s.length : Int) = true then (if 32 < at_.toNat % 32 + s.length then (x, 1) else (x.doC at_.toNat s.length (prF s) (prG s), x.doE)) else (x, 2)) else (x, 4)
theorem program_a {H : AHeap} {b c : Nat} (ok : ChipOk H b c) {x : Chp} (hl : x.l.length = 24576) {at_ : Int} {s : List UInt8} {K : AV → AHeap → Prop} (h : K (.int .i64 (x.prog at_ s).2) (chipAt H b c (x.prog at_ s).1)) : (ACalls Try.prog) 127 [.ptr c 0 0, .int .i64 at_, .str (B s)] (chipAt H b c x) K := by
  refine acalls_go mo t127 (fun hs hu => ?_)
  have hin0 : ∀ y : Chp, (chipAt H b c y).within (chipAt H b c x).next := fun y => chip_in ok hs
  have hnx : (chipAt H b c x).next = H.next := rfl
  unfold Chp.prog at h
  simp only [c127, go_sem, Nat.reduceLeDiff, Nat.reduceAdd, Nat.reduceSub, Nat.reduceMul, Nat.reduceLT, Int.reduceLT, Int.reduceLE, Int.reduceAdd, Int.reduceSub, Int.reduceMul, Int.reduceToNat, Int.reduceNeg, Int.reduceEq, Nat.reducePow, Int.reducePow, Nat.reduceEqDiff, decide_true, decide_false, reduceIte, reduceCtorEq, Int.reduceBEq, Int.reduceBNe, bne_self_eq_false, Int.cast_ofNat_Int, Bool.not_true, Bool.not_false, IntKind.bits]
  refine on_l ok ?_
  by_cases h1 : x.on = true
  · rw [if_pos h1] at h
    by_cases h2 : s = []
    · rw [if_pos (.inl h2)] at h
      subst h2
      simp (maxSteps := 4000000) (disch := (first | omega | (simp only [set_next, List.length_append, List.length_cons, List.length_nil, List.length_take, List.length_drop, List.length_map, List.length_set, List.length_replicate]; omega) | (simp only [set_next, ne_eq, reduceCtorEq, not_false_eq_true]))) only [h1, go_sem, Nat.reduceLeDiff, Nat.reduceAdd, Nat.reduceSub, Nat.reduceMul, Nat.reduceLT, Int.reduceLT, Int.reduceLE, Int.reduceAdd, Int.reduceSub, Int.reduceMul, Int.reduceToNat, Int.reduceNeg, Int.reduceEq, Nat.reducePow, Int.reducePow, Nat.reduceEqDiff, decide_true, decide_false, reduceIte, reduceCtorEq, Int.reduceBEq, Int.reduceBNe, bne_self_eq_false, Int.cast_ofNat_Int, Bool.not_true, Bool.not_false, IntKind.bits, w_nat, w_lit, w_add, w_addl, w_ladd, w_sub, w_subl, w_lsub, w_mul, w_mull, w_lmul, t_div, t_divl, t_mod, t_modl, i_lt, i_ltl, i_llt, i_le, i_lel, i_lle, i_eq, i_eql, i_leq, Nat.zero_le, d_beq, d_bne, d_bytes, byte_at, Int.toNat_natCast, toNat_lit, decide_eq_true, decide_eq_false, if_pos, if_neg, slA_len, slA_idx, slA_cells, flat_slA, one_slA, cells_slA, map_mid, strV_is, hp_get1, hp_get2, hp_get3, hp_set1, hp_set2, hp_set3, hp_old, hp_sold, set_got, set_set, set_next, set_other, bytesL, bytes_all, List.length_map, aapp_nils, aapp_wr, List.flatMap_cons, List.flatMap_nil, Nat.mul_one]
      exact aret_old rfl (hin0 _) (.int _ _) h
    have h2p : 0 < s.length := List.length_pos_iff.2 h2
    by_cases h3 : 32 < s.length
    · rw [if_pos (.inr h3)] at h
      simp (maxSteps := 4000000) (disch := (first | omega | (simp only [set_next, List.length_append, List.length_cons, List.length_nil, List.length_take, List.length_drop, List.length_map, List.length_set, List.length_replicate]; omega) | (simp only [set_next, ne_eq, reduceCtorEq, not_false_eq_true]))) only [h1, go_sem, Nat.reduceLeDiff, Nat.reduceAdd, Nat.reduceSub, Nat.reduceMul, Nat.reduceLT, Int.reduceLT, Int.reduceLE, Int.reduceAdd, Int.reduceSub, Int.reduceMul, Int.reduceToNat, Int.reduceNeg, Int.reduceEq, Nat.reducePow, Int.reducePow, Nat.reduceEqDiff, decide_true, decide_false, reduceIte, reduceCtorEq, Int.reduceBEq, Int.reduceBNe, bne_self_eq_false, Int.cast_ofNat_Int, Bool.not_true, Bool.not_false, IntKind.bits, w_nat, w_lit, w_add, w_addl, w_ladd, w_sub, w_subl, w_lsub, w_mul, w_mull, w_lmul, t_div, t_divl, t_mod, t_modl, i_lt, i_ltl, i_llt, i_le, i_lel, i_lle, i_eq, i_eql, i_leq, Nat.zero_le, d_beq, d_bne, d_bytes, byte_at, Int.toNat_natCast, toNat_lit, decide_eq_true, decide_eq_false, if_pos, if_neg, slA_len, slA_idx, slA_cells, flat_slA, one_slA, cells_slA, map_mid, strV_is, hp_get1, hp_get2, hp_get3, hp_set1, hp_set2, hp_set3, hp_old, hp_sold, set_got, set_set, set_next, set_other, bytesL, bytes_all, List.length_map, aapp_nils, aapp_wr, List.flatMap_cons, List.flatMap_nil, Nat.mul_one]
      exact aret_old rfl (hin0 _) (.int _ _) h
    rw [if_neg (by rintro (h | h) <;> contradiction)] at h
    simp (maxSteps := 4000000) (disch := (first | omega | (simp only [set_next, List.length_append, List.length_cons, List.length_nil, List.length_take, List.length_drop, List.length_map, List.length_set, List.length_replicate]; omega) | (simp only [set_next, ne_eq, reduceCtorEq, not_false_eq_true]))) only [h1, go_sem, Nat.reduceLeDiff, Nat.reduceAdd, Nat.reduceSub, Nat.reduceMul, Nat.reduceLT, Int.reduceLT, Int.reduceLE, Int.reduceAdd, Int.reduceSub, Int.reduceMul, Int.reduceToNat, Int.reduceNeg, Int.reduceEq, Nat.reducePow, Int.reducePow, Nat.reduceEqDiff, decide_true, decide_false, reduceIte, reduceCtorEq, Int.reduceBEq, Int.reduceBNe, bne_self_eq_false, Int.cast_ofNat_Int, Bool.not_true, Bool.not_false, IntKind.bits, w_nat, w_lit, w_add, w_addl, w_ladd, w_sub, w_subl, w_lsub, w_mul, w_mull, w_lmul, t_div, t_divl, t_mod, t_modl, i_lt, i_ltl, i_llt, i_le, i_lel, i_lle, i_eq, i_eql, i_leq, Nat.zero_le, d_beq, d_bne, d_bytes, byte_at, Int.toNat_natCast, toNat_lit, decide_eq_true, decide_eq_false, if_pos, if_neg, slA_len, slA_idx, slA_cells, flat_slA, one_slA, cells_slA, map_mid, strV_is, hp_get1, hp_get2, hp_get3, hp_set1, hp_set2, hp_set3, hp_old, hp_sold, set_got, set_set, set_next, set_other, bytesL, bytes_all, List.length_map, aapp_nils, aapp_wr, List.flatMap_cons, List.flatMap_nil, Nat.mul_one]
    refine has_l ok ?_
    by_cases h4 : hasN at_ (s.length : Int) = true
    · rw [if_pos h4] at h
      have h5 := h4
      unfold hasN at h5
      simp only [decide_eq_true_eq] at h5
      obtain ⟨g1, g2, g3, g4⟩ := h5
      obtain ⟨i, rfl⟩ := Int.eq_ofNat_of_zero_le g1
      have g5 : i + s.length ≤ 24576 := by omega
      simp only [Int.toNat_natCast] at h
      by_cases h6 : 32 < i % 32 + s.length
      · rw [if_pos h6] at h
        simp (maxSteps := 4000000) (disch := (first | omega | (simp only [set_next, List.length_append, List.length_cons, List.length_nil, List.length_take, List.length_drop, List.length_map, List.length_set, List.length_replicate]; omega) | (simp only [set_next, ne_eq, reduceCtorEq, not_false_eq_true]))) only [h4, go_sem, Nat.reduceLeDiff, Nat.reduceAdd, Nat.reduceSub, Nat.reduceMul, Nat.reduceLT, Int.reduceLT, Int.reduceLE, Int.reduceAdd, Int.reduceSub, Int.reduceMul, Int.reduceToNat, Int.reduceNeg, Int.reduceEq, Nat.reducePow, Int.reducePow, Nat.reduceEqDiff, decide_true, decide_false, reduceIte, reduceCtorEq, Int.reduceBEq, Int.reduceBNe, bne_self_eq_false, Int.cast_ofNat_Int, Bool.not_true, Bool.not_false, IntKind.bits, w_nat, w_lit, w_add, w_addl, w_ladd, w_sub, w_subl, w_lsub, w_mul, w_mull, w_lmul, t_div, t_divl, t_mod, t_modl, i_lt, i_ltl, i_llt, i_le, i_lel, i_lle, i_eq, i_eql, i_leq, Nat.zero_le, d_beq, d_bne, d_bytes, byte_at, Int.toNat_natCast, toNat_lit, decide_eq_true, decide_eq_false, if_pos, if_neg, slA_len, slA_idx, slA_cells, flat_slA, one_slA, cells_slA, map_mid, strV_is, hp_get1, hp_get2, hp_get3, hp_set1, hp_set2, hp_set3, hp_old, hp_sold, set_got, set_set, set_next, set_other, bytesL, bytes_all, List.length_map, aapp_nils, aapp_wr, List.flatMap_cons, List.flatMap_nil, Nat.mul_one]
        exact aret_old rfl (hin0 _) (.int _ _) h
      · rw [if_neg h6] at h
        simp (maxSteps := 4000000) (disch := (first | omega | (simp only [set_next, List.length_append, List.length_cons, List.length_nil, List.length_take, List.length_drop, List.length_map, List.length_set, List.length_replicate]; omega) | (simp only [set_next, ne_eq, reduceCtorEq, not_false_eq_true]))) only [h4, go_sem, Nat.reduceLeDiff, Nat.reduceAdd, Nat.reduceSub, Nat.reduceMul, Nat.reduceLT, Int.reduceLT, Int.reduceLE, Int.reduceAdd, Int.reduceSub, Int.reduceMul, Int.reduceToNat, Int.reduceNeg, Int.reduceEq, Nat.reducePow, Int.reducePow, Nat.reduceEqDiff, decide_true, decide_false, reduceIte, reduceCtorEq, Int.reduceBEq, Int.reduceBNe, bne_self_eq_false, Int.cast_ofNat_Int, Bool.not_true, Bool.not_false, IntKind.bits, w_nat, w_lit, w_add, w_addl, w_ladd, w_sub, w_subl, w_lsub, w_mul, w_mull, w_lmul, t_div, t_divl, t_mod, t_modl, i_lt, i_ltl, i_llt, i_le, i_lel, i_lle, i_eq, i_eql, i_leq, Nat.zero_le, d_beq, d_bne, d_bytes, byte_at, Int.toNat_natCast, toNat_lit, decide_eq_true, decide_eq_false, if_pos, if_neg, slA_len, slA_idx, slA_cells, flat_slA, one_slA, cells_slA, map_mid, strV_is, hp_get1, hp_get2, hp_get3, hp_set1, hp_set2, hp_set3, hp_old, hp_sold, set_got, set_set, set_next, set_other, bytesL, bytes_all, List.length_map, aapp_nils, aapp_wr, List.flatMap_cons, List.flatMap_nil, Nat.mul_one]
        rw [hp_chip ok]
        have hbox : ∀ y, (hp (chipAt (hp H [.row 9 0 [.str (B s)]]) b c y) []).get (H.next + 0) = some (.row 9 0 [.str (B s)]) := fun y => by
          rw [hp_nil, ← hp_chip ok]
          show (hp (chipAt H b c y) _).get ((chipAt H b c y).next + 0) = _
          rw [hp_get]
          rfl
        refine do_a (chip_okl ok _) hl (f := prF s) (g := prG s) h2p g5 (fun y i u K hi hk => pr1_a (hbox y) hi hk) (fun y i u t K hi hk => pr2_a (hbox y) hi hk) ?_
        rw [← hp_chip ok]
        simp (maxSteps := 4000000) (disch := (first | omega | (simp only [set_next, List.length_append, List.length_cons, List.length_nil, List.length_take, List.length_drop, List.length_map, List.length_set, List.length_replicate]; omega) | (simp only [set_next, ne_eq, reduceCtorEq, not_false_eq_true]))) only [go_sem, Nat.reduceLeDiff, Nat.reduceAdd, Nat.reduceSub, Nat.reduceMul, Nat.reduceLT, Int.reduceLT, Int.reduceLE, Int.reduceAdd, Int.reduceSub, Int.reduceMul, Int.reduceToNat, Int.reduceNeg, Int.reduceEq, Nat.reducePow, Int.reducePow, Nat.reduceEqDiff, decide_true, decide_false, reduceIte, reduceCtorEq, Int.reduceBEq, Int.reduceBNe, bne_self_eq_false, Int.cast_ofNat_Int, Bool.not_true, Bool.not_false, IntKind.bits, w_nat, w_lit, w_add, w_addl, w_ladd, w_sub, w_subl, w_lsub, w_mul, w_mull, w_lmul, t_div, t_divl, t_mod, t_modl, i_lt, i_ltl, i_llt, i_le, i_lel, i_lle, i_eq, i_eql, i_leq, Nat.zero_le, d_beq, d_bne, d_bytes, byte_at, Int.toNat_natCast, toNat_lit, decide_eq_true, decide_eq_false, if_pos, if_neg, slA_len, slA_idx, slA_cells, flat_slA, one_slA, cells_slA, map_mid, strV_is, hp_get1, hp_get2, hp_get3, hp_set1, hp_set2, hp_set3, hp_old, hp_sold, set_got, set_set, set_next, set_other, bytesL, bytes_all, List.length_map, aapp_nils, aapp_wr, List.flatMap_cons, List.flatMap_nil, Nat.mul_one]
        exact aret_old rfl (hin0 _) (.int _ _) h
    · rw [if_neg h4] at h
      rw [Bool.not_eq_true] at h4
      simp (maxSteps := 4000000) (disch := (first | omega | (simp only [set_next, List.length_append, List.length_cons, List.length_nil, List.length_take, List.length_drop, List.length_map, List.length_set, List.length_replicate]; omega) | (simp only [set_next, ne_eq, reduceCtorEq, not_false_eq_true]))) only [h4, go_sem, Nat.reduceLeDiff, Nat.reduceAdd, Nat.reduceSub, Nat.reduceMul, Nat.reduceLT, Int.reduceLT, Int.reduceLE, Int.reduceAdd, Int.reduceSub, Int.reduceMul, Int.reduceToNat, Int.reduceNeg, Int.reduceEq, Nat.reducePow, Int.reducePow, Nat.reduceEqDiff, decide_true, decide_false, reduceIte, reduceCtorEq, Int.reduceBEq, Int.reduceBNe, bne_self_eq_false, Int.cast_ofNat_Int, Bool.not_true, Bool.not_false, IntKind.bits, w_nat, w_lit, w_add, w_addl, w_ladd, w_sub, w_subl, w_lsub, w_mul, w_mull, w_lmul, t_div, t_divl, t_mod, t_modl, i_lt, i_ltl, i_llt, i_le, i_lel, i_lle, i_eq, i_eql, i_leq, Nat.zero_le, d_beq, d_bne, d_bytes, byte_at, Int.toNat_natCast, toNat_lit, decide_eq_true, decide_eq_false, if_pos, if_neg, slA_len, slA_idx, slA_cells, flat_slA, one_slA, cells_slA, map_mid, strV_is, hp_get1, hp_get2, hp_get3, hp_set1, hp_set2, hp_set3, hp_old, hp_sold, set_got, set_set, set_next, set_other, bytesL, bytes_all, List.length_map, aapp_nils, aapp_wr, List.flatMap_cons, List.flatMap_nil, Nat.mul_one]
      exact aret_old rfl (hin0 _) (.int _ _) h
  · rw [if_neg h1] at h
    rw [Bool.not_eq_true] at h1
    simp only [h1, go_sem, Nat.reduceLeDiff, Nat.reduceAdd, Nat.reduceSub, Nat.reduceMul, Nat.reduceLT, Int.reduceLT, Int.reduceLE, Int.reduceAdd, Int.reduceSub, Int.reduceMul, Int.reduceToNat, Int.reduceNeg, Int.reduceEq, Nat.reducePow, Int.reducePow, Nat.reduceEqDiff, decide_true, decide_false, reduceIte, reduceCtorEq, Int.reduceBEq, Int.reduceBNe, bne_self_eq_false, Int.cast_ofNat_Int, Bool.not_true, Bool.not_false, IntKind.bits]
    exact aret_old rfl (hin0 _) (.int _ _) h
end Go.Proofs.Ytfilheaaacffmaa.AL
/- Writing told. -/
set_option linter.unusedSimpArgs false
set_option linter.unusedVariables false
set_option maxRecDepth 100000
namespace Go.Proofs.Ytfilheaaacffmaa.AL
open Go Go.Proofs
attribute [local go_sem] go_seq go_skip go_region go_regionN go_fregion rgF_some go_cond go_block go_exit go_ret nxt_nil nxt_code nxt_blk nxt_cut leave_nil leave_code leave_cut leave_blk rtn_nil rtn_code rtn_blk rtn_cut cnd_t cnd_f rgn_nil rgY_some rgY_none rgH_some rgP_some retTo_is rgV_func grd_und grd_tt grd_ff grd_tf grd_ft rgn_q rgn_alloc rgn_box rgn_store rgn_lit rgn_litw litCells_nil litCells_cons rgn_app rgn_copy rgn_mk rgn_s2b rgn_call rgn_callv rgn_stop rgn_slice3 aslice3 rgn_put rgn_mkmap rgn_lookup rgn_mapup alookup_nilm alookup_map amapup_map afound_ok afound_no rgn_c rgn_cv qclV_func aloadr rgn_guard post_ret post_normal retY_some ares aresL ares1 AX.ev aput List.getD_cons_zero List.getD_cons_succ List.set_cons_zero List.set_cons_succ List.map_cons List.map_nil aq abin aint astr abeq aconv asame aextract alenS alenL_nils alenL_emp alenL_imm alenL_wr aun apart aload afieldAddr afield aidxSl_wr aidxSl_imm aidxPt aidxStr aidxArr abound asliceStr asliceSl asliceArr abest anonil afill astore acells_nils acells_emp acells_imm acells_wr acells_str acopy litAll amk as2b anil nilOf aseq aeqs aeqv fits fit1 hp_next hp_push hp_get hp_set List.length_cons List.length_nil List.getElem?_cons_zero List.getElem?_cons_succ List.cons_append List.nil_append List.append_nil List.take_succ_cons List.take_zero List.drop_succ_cons List.drop_zero List.all_cons List.all_nil Option.map_some Option.some.injEq Bool.and_true Bool.true_and Bool.false_eq_true if_true if_false ite_true ite_false Bool.and_self true_and and_true and_self Nat.zero_add Nat.le_refl Int.toNat_natCast beq_self_eq_true eq_self tops_zero tops_succ Int.natCast_nonneg List.take_nil List.drop_nil Option.map_none flat_bool one_bool cells_bool flat_int one_int cells_int flat_str one_str cells_str flat_nilp one_nilp cells_nilp flat_ptr one_ptr cells_ptr flat_nils one_nils cells_nils flat_imm one_imm cells_imm flat_wr one_wr cells_wr flat_func one_func cells_func flat_nilf one_nilf cells_nilf flat_map one_map cells_map flat_nilm one_nilm cells_nilm flat_iface one_iface cells_iface flat_nili one_nili cells_nili flat_rd one_rd cells_rd flat_emp one_emp cells_emp flat_byteV one_byteV cells_byteV flat_agg cells_agg one_agg B_size B_list B_ext B_toList B_app List.take_length Int.le_refl
theorem doC_len (x : Chp) (at_ n : Nat) (f : Nat → UInt8 → UInt8) (g : Nat → UInt8 → UInt8 → UInt8) : (x.doC at_ n f g).l.length = x.l.length := by
  unfold Chp.doC
  split
  · split
    · rw [blow_l]
    · exact mapAt_len _ _ _ _
  · exact mapAt_len _ _ _ _
theorem prog_len (x : Chp) (at_ : Int) (s : List UInt8) : (x.prog at_ s).1.l.length = x.l.length := by
  unfold Chp.prog
  repeat' split
  all_goals first | rfl | exact doC_len _ _ _ _ _
theorem erase_len (x : Chp) (s : Int) : (x.erase s).1.l.length = x.l.length := by
  unfold Chp.erase
  repeat' split
  all_goals first | rfl | exact doC_len _ _ _ _ _
def page (i : Nat) (s : List UInt8) : Nat := min s.length (32 - i % 32)
theorem page_pos (i : Nat) {s : List UInt8} (h : s ≠ []) : 0 < page i s := by
  have := List.length_pos_iff.2 h
  unfold page
  omega
def Chp.wr (x : Chp) (i : Nat) (s : List UInt8) : Chp × Int :=
  if h : s = [] then (x, 0) else
    if (x.prog (i : Int) (s.take (page i s))).2 = 0 then (x.prog (i : Int) (s.take (page i s))).1.wr (i + page i s) (s.drop (page i s)) else x.prog (i : Int) (s.take (page i s))
termination_by s.length
decreasing_by
  have := page_pos i h
  have := List.length_pos_iff.2 h
  simp only [List.length_drop]
  omega
def Chp.write (x : Chp) (at_ : Int) (s : List UInt8) : Chp × Int :=
  if x.on = true then (if hasN at_ (s.length : Int) = true then x.wr at_.toNat s else (x, 2)) else (x, 4)
theorem program_l {H : AHeap} {b c : Nat} (ok : ChipOk H b c) {l : List AObj} {x : Chp} (hl : x.l.length = 24576) {at_ : Int} {s : List UInt8} {K : AV → AHeap → Prop} (h : K (.int .i64 (x.prog at_ s).2) (hp (chipAt H b c (x.prog at_ s).1) l)) : (ACalls Try.prog) 127 [.ptr c 0 0, .int .i64 at_, .str (B s)] (hp (chipAt H b c x) l) K := chip_lift (fun _ _ o k => program_a o hl k) ok h
theorem write_a {H : AHeap} {b c : Nat} (ok : ChipOk H b c) {x : Chp} (hl : x.l.length = 24576) {at_ : Int} {s : List UInt8} {K : AV → AHeap → Prop} (h : K (.int .i64 (x.write at_ s).2) (chipAt H b c (x.write at_ s).1)) : (ACalls Try.prog) 126 [.ptr c 0 0, .int .i64 at_, .str (B s)] (chipAt H b c x) K := by
  refine acalls_go mo t126 (fun hs hu => ?_)
  have hin0 : ∀ y : Chp, (chipAt H b c y).within (chipAt H b c x).next := fun y => chip_in ok hs
  unfold Chp.write at h
  simp only [c126, go_sem, Nat.reduceLeDiff, Nat.reduceAdd, Nat.reduceSub, Nat.reduceMul, Nat.reduceLT, Int.reduceLT, Int.reduceLE, Int.reduceAdd, Int.reduceSub, Int.reduceMul, Int.reduceToNat, Int.reduceNeg, Int.reduceEq, Nat.reducePow, Int.reducePow, Nat.reduceEqDiff, decide_true, decide_false, reduceIte, reduceCtorEq, Int.reduceBEq, Int.reduceBNe, bne_self_eq_false, Int.cast_ofNat_Int, Bool.not_true, Bool.not_false, IntKind.bits]
  refine on_l ok ?_
  by_cases h1 : x.on = true
  · rw [if_pos h1] at h
    simp only [h1, go_sem, Nat.reduceLeDiff, Nat.reduceAdd, Nat.reduceSub, Nat.reduceMul, Nat.reduceLT, Int.reduceLT, Int.reduceLE, Int.reduceAdd, Int.reduceSub, Int.reduceMul, Int.reduceToNat, Int.reduceNeg, Int.reduceEq, Nat.reducePow, Int.reducePow, Nat.reduceEqDiff, decide_true, decide_false, reduceIte, reduceCtorEq, Int.reduceBEq, Int.reduceBNe, bne_self_eq_false, Int.cast_ofNat_Int, Bool.not_true, Bool.not_false, IntKind.bits]
    refine has_l ok ?_
    by_cases h4 : hasN at_ (s.length : Int) = true
    · rw [if_pos h4] at h
      have h5 := h4
      unfold hasN at h5
      simp only [decide_eq_true_eq] at h5
      obtain ⟨g1, g2, g3, g4⟩ := h5
      obtain ⟨i, rfl⟩ := Int.eq_ofNat_of_zero_le g1
      have g5 : i + s.length ≤ 24576 := by omega
      simp only [Int.toNat_natCast] at h
      simp only [h4, go_sem, Nat.reduceLeDiff, Nat.reduceAdd, Nat.reduceSub, Nat.reduceMul, Nat.reduceLT, Int.reduceLT, Int.reduceLE, Int.reduceAdd, Int.reduceSub, Int.reduceMul, Int.reduceToNat, Int.reduceNeg, Int.reduceEq, Nat.reducePow, Int.reducePow, Nat.reduceEqDiff, decide_true, decide_false, reduceIte, reduceCtorEq, Int.reduceBEq, Int.reduceBNe, bne_self_eq_false, Int.cast_ofNat_Int, Bool.not_true, Bool.not_false, IntKind.bits]
      refine go_loopS mono (σ := Chp × Nat × List UInt8) (fun t => [(1, .int .i64 (t.2.1 : Int)), (2, .str (B t.2.2))]) (fun t => hp (chipAt H b c t.1) []) (fun t => t.1.wr t.2.1 t.2.2 = x.wr i s ∧ t.1.l.length = 24576 ∧ t.2.1 + t.2.2.length ≤ 24576) (fun t => t.2.2.length) (x, i, s) ?_ rfl ⟨rfl, hl, g5⟩ (fun t ht J hJ => ?_)
      · (simp only [blurR_nil, blurR_some, blurR_none, blurC_region, blurC_regionN, blurC_fregion, blurT_nil, blurT_cons, blurC_seq, blurC_cond, blurC_block, blurC_loop, blurC_skip, blurC_exit, blurC_ret, tellS_nil, tellS_cons, List.set_cons_zero, List.set_cons_succ, tops_zero, tops_succ]; repeat first | exact forget_nil | apply forget_keep | apply forget_top)
      obtain ⟨y, k, r⟩ := t
      obtain ⟨t1, t2, t3⟩ := ht
      simp only at t1 t2 t3 hJ ⊢
      simp only [blurR_nil, blurR_some, blurR_none, blurC_region, blurC_regionN, blurC_fregion, blurT_nil, blurT_cons, blurC_seq, blurC_cond, blurC_block, blurC_loop, blurC_skip, blurC_exit, blurC_ret, tellS_nil, tellS_cons, List.set_cons_zero, List.set_cons_succ, tops_zero, tops_succ]
      by_cases h6 : r = []
      · subst h6
        rw [Chp.wr, dif_pos rfl] at t1
        rw [← t1] at h
        simp (maxSteps := 4000000) (disch := (first | omega | (simp only [set_next, List.length_append, List.length_cons, List.length_nil, List.length_take, List.length_drop, List.length_map, List.length_set, List.length_replicate]; omega) | (simp only [set_next, ne_eq, reduceCtorEq, not_false_eq_true]))) only [go_sem, Nat.reduceLeDiff, Nat.reduceAdd, Nat.reduceSub, Nat.reduceMul, Nat.reduceLT, Int.reduceLT, Int.reduceLE, Int.reduceAdd, Int.reduceSub, Int.reduceMul, Int.reduceToNat, Int.reduceNeg, Int.reduceEq, Nat.reducePow, Int.reducePow, Nat.reduceEqDiff, decide_true, decide_false, reduceIte, reduceCtorEq, Int.reduceBEq, Int.reduceBNe, bne_self_eq_false, Int.cast_ofNat_Int, Bool.not_true, Bool.not_false, IntKind.bits, w_nat, w_lit, w_add, w_addl, w_ladd, w_sub, w_subl, w_lsub, w_mul, w_mull, w_lmul, t_div, t_divl, t_mod, t_modl, i_lt, i_ltl, i_llt, i_le, i_lel, i_lle, i_eq, i_eql, i_leq, Nat.zero_le, d_beq, d_bne, d_bytes, byte_at, Int.toNat_natCast, toNat_lit, decide_eq_true, decide_eq_false, if_pos, if_neg, slA_len, slA_idx, slA_cells, flat_slA, one_slA, cells_slA, map_mid, strV_is, hp_get1, hp_get2, hp_get3, hp_set1, hp_set2, hp_set3, hp_old, hp_sold, set_got, set_set, set_next, set_other, bytesL, bytes_all, List.length_map, aapp_nils, aapp_wr, List.flatMap_cons, List.flatMap_nil, Nat.mul_one]
        exact aret_old rfl (hin0 _) (.int _ _) h
      · have h6p : 0 < r.length := List.length_pos_iff.2 h6
        rw [Chp.wr, dif_neg h6] at t1
        have hp1 : page k r = if 32 - k % 32 < r.length then 32 - k % 32 else r.length := by unfold page; split <;> omega
        have hp2 := page_pos k h6
        have hp3 : page k r ≤ r.length := Nat.min_le_left _ _
        have hmk : k % 32 < 32 := Nat.mod_lt _ (by omega)
        have hbst : (if 32 - k % 32 < r.length then ((32 - k % 32 : Nat) : Int) else (r.length : Int)) = (page k r : Int) := by
          rw [hp1]
          split <;> rfl
        generalize page k r = n at *
        simp (maxSteps := 4000000) (disch := (first | omega | (simp only [set_next, List.length_append, List.length_cons, List.length_nil, List.length_take, List.length_drop, List.length_map, List.length_set, List.length_replicate]; omega) | (simp only [set_next, ne_eq, reduceCtorEq, not_false_eq_true]))) only [h6, hbst, go_sem, Nat.reduceLeDiff, Nat.reduceAdd, Nat.reduceSub, Nat.reduceMul, Nat.reduceLT, Int.reduceLT, Int.reduceLE, Int.reduceAdd, Int.reduceSub, Int.reduceMul, Int.reduceToNat, Int.reduceNeg, Int.reduceEq, Nat.reducePow, Int.reducePow, Nat.reduceEqDiff, decide_true, decide_false, reduceIte, reduceCtorEq, Int.reduceBEq, Int.reduceBNe, bne_self_eq_false, Int.cast_ofNat_Int, Bool.not_true, Bool.not_false, IntKind.bits, w_nat, w_lit, w_add, w_addl, w_ladd, w_sub, w_subl, w_lsub, w_mul, w_mull, w_lmul, t_div, t_divl, t_mod, t_modl, i_lt, i_ltl, i_llt, i_le, i_lel, i_lle, i_eq, i_eql, i_leq, Nat.zero_le, d_beq, d_bne, d_bytes, byte_at, Int.toNat_natCast, toNat_lit, decide_eq_true, decide_eq_false, if_pos, if_neg, slA_len, slA_idx, slA_cells, flat_slA, one_slA, cells_slA, map_mid, strV_is, hp_get1, hp_get2, hp_get3, hp_set1, hp_set2, hp_set3, hp_old, hp_sold, set_got, set_set, set_next, set_other, bytesL, bytes_all, List.length_map, aapp_nils, aapp_wr, List.flatMap_cons, List.flatMap_nil, Nat.mul_one]
        refine program_l ok t2 ?_
        have hpl := prog_len y (k : Int) (r.take n)
        generalize y.prog (k : Int) (r.take n) = q at *
        by_cases h7 : q.2 = 0
        · rw [if_pos h7] at t1
          simp (maxSteps := 4000000) (disch := (first | omega | (simp only [set_next, List.length_append, List.length_cons, List.length_nil, List.length_take, List.length_drop, List.length_map, List.length_set, List.length_replicate]; omega) | (simp only [set_next, ne_eq, reduceCtorEq, not_false_eq_true]))) only [h7, go_sem, Nat.reduceLeDiff, Nat.reduceAdd, Nat.reduceSub, Nat.reduceMul, Nat.reduceLT, Int.reduceLT, Int.reduceLE, Int.reduceAdd, Int.reduceSub, Int.reduceMul, Int.reduceToNat, Int.reduceNeg, Int.reduceEq, Nat.reducePow, Int.reducePow, Nat.reduceEqDiff, decide_true, decide_false, reduceIte, reduceCtorEq, Int.reduceBEq, Int.reduceBNe, bne_self_eq_false, Int.cast_ofNat_Int, Bool.not_true, Bool.not_false, IntKind.bits, w_nat, w_lit, w_add, w_addl, w_ladd, w_sub, w_subl, w_lsub, w_mul, w_mull, w_lmul, t_div, t_divl, t_mod, t_modl, i_lt, i_ltl, i_llt, i_le, i_lel, i_lle, i_eq, i_eql, i_leq, Nat.zero_le, d_beq, d_bne, d_bytes, byte_at, Int.toNat_natCast, toNat_lit, decide_eq_true, decide_eq_false, if_pos, if_neg, slA_len, slA_idx, slA_cells, flat_slA, one_slA, cells_slA, map_mid, strV_is, hp_get1, hp_get2, hp_get3, hp_set1, hp_set2, hp_set3, hp_old, hp_sold, set_got, set_set, set_next, set_other, bytesL, bytes_all, List.length_map, aapp_nils, aapp_wr, List.flatMap_cons, List.flatMap_nil, Nat.mul_one]
          exact hJ (q.1, k + n, r.drop n) _ ⟨t1, by rw [hpl]; exact t2, by simp only [List.length_drop]; omega⟩ (by simp only [List.length_drop]; omega) (by (simp only [blurR_nil, blurR_some, blurR_none, blurC_region, blurC_regionN, blurC_fregion, blurT_nil, blurT_cons, blurC_seq, blurC_cond, blurC_block, blurC_loop, blurC_skip, blurC_exit, blurC_ret, tellS_nil, tellS_cons, List.set_cons_zero, List.set_cons_succ, tops_zero, tops_succ]; repeat first | exact forget_nil | apply forget_keep | apply forget_top))
        · rw [if_neg h7] at t1
          rw [← t1] at h
          simp (maxSteps := 4000000) (disch := (first | omega | (simp only [set_next, List.length_append, List.length_cons, List.length_nil, List.length_take, List.length_drop, List.length_map, List.length_set, List.length_replicate]; omega) | (simp only [set_next, ne_eq, reduceCtorEq, not_false_eq_true]))) only [h7, go_sem, Nat.reduceLeDiff, Nat.reduceAdd, Nat.reduceSub, Nat.reduceMul, Nat.reduceLT, Int.reduceLT, Int.reduceLE, Int.reduceAdd, Int.reduceSub, Int.reduceMul, Int.reduceToNat, Int.reduceNeg, Int.reduceEq, Nat.reducePow, Int.reducePow, Nat.reduceEqDiff, decide_true, decide_false, reduceIte, reduceCtorEq, Int.reduceBEq, Int.reduceBNe, bne_self_eq_false, Int.cast_ofNat_Int, Bool.not_true, Bool.not_false, IntKind.bits, w_nat, w_lit, w_add, w_addl, w_ladd, w_sub, w_subl, w_lsub, w_mul, w_mull, w_lmul, t_div, t_divl, t_mod, t_modl, i_lt, i_ltl, i_llt, i_le, i_lel, i_lle, i_eq, i_eql, i_leq, Nat.zero_le, d_beq, d_bne, d_bytes, byte_at, Int.toNat_natCast, toNat_lit, decide_eq_true, decide_eq_false, if_pos, if_neg, slA_len, slA_idx, slA_cells, flat_slA, one_slA, cells_slA, map_mid, strV_is, hp_get1, hp_get2, hp_get3, hp_set1, hp_set2, hp_set3, hp_old, hp_sold, set_got, set_set, set_next, set_other, bytesL, bytes_all, List.length_map, aapp_nils, aapp_wr, List.flatMap_cons, List.flatMap_nil, Nat.mul_one]
          exact aret_old rfl (hin0 _) (.int _ _) h
    · rw [if_neg h4] at h
      rw [Bool.not_eq_true] at h4
      simp only [h4, go_sem, Nat.reduceLeDiff, Nat.reduceAdd, Nat.reduceSub, Nat.reduceMul, Nat.reduceLT, Int.reduceLT, Int.reduceLE, Int.reduceAdd, Int.reduceSub, Int.reduceMul, Int.reduceToNat, Int.reduceNeg, Int.reduceEq, Nat.reducePow, Int.reducePow, Nat.reduceEqDiff, decide_true, decide_false, reduceIte, reduceCtorEq, Int.reduceBEq, Int.reduceBNe, bne_self_eq_false, Int.cast_ofNat_Int, Bool.not_true, Bool.not_false, IntKind.bits]
      exact aret_old rfl (hin0 _) (.int _ _) h
  · rw [if_neg h1] at h
    rw [Bool.not_eq_true] at h1
    simp only [h1, go_sem, Nat.reduceLeDiff, Nat.reduceAdd, Nat.reduceSub, Nat.reduceMul, Nat.reduceLT, Int.reduceLT, Int.reduceLE, Int.reduceAdd, Int.reduceSub, Int.reduceMul, Int.reduceToNat, Int.reduceNeg, Int.reduceEq, Nat.reducePow, Int.reducePow, Nat.reduceEqDiff, decide_true, decide_false, reduceIte, reduceCtorEq, Int.reduceBEq, Int.reduceBNe, bne_self_eq_false, Int.cast_ofNat_Int, Bool.not_true, Bool.not_false, IntKind.bits]
    exact aret_old rfl (hin0 _) (.int _ _) h
end Go.Proofs.Ytfilheaaacffmaa.AL
/- A new chip told. -/
set_option linter.unusedSimpArgs false
set_option linter.unusedVariables false
set_option maxRecDepth 100000
namespace Go.Proofs.Ytfilheaaacffmaa.AL
open Go Go.Proofs
attribute [local go_sem] go_seq go_skip go_region go_regionN go_fregion rgF_some go_cond go_block go_exit go_ret nxt_nil nxt_code nxt_blk nxt_cut leave_nil leave_code leave_cut leave_blk rtn_nil rtn_code rtn_blk rtn_cut cnd_t cnd_f rgn_nil rgY_some rgY_none rgH_some rgP_some retTo_is rgV_func grd_und grd_tt grd_ff grd_tf grd_ft rgn_q rgn_alloc rgn_box rgn_store rgn_lit rgn_litw litCells_nil litCells_cons rgn_app rgn_copy rgn_mk rgn_s2b rgn_call rgn_callv rgn_stop rgn_slice3 aslice3 rgn_put rgn_mkmap rgn_lookup rgn_mapup alookup_nilm alookup_map amapup_map afound_ok afound_no rgn_c rgn_cv qclV_func aloadr rgn_guard post_ret post_normal retY_some ares aresL ares1 AX.ev aput List.getD_cons_zero List.getD_cons_succ List.set_cons_zero List.set_cons_succ List.map_cons List.map_nil aq abin aint astr abeq aconv asame aextract alenS alenL_nils alenL_emp alenL_imm alenL_wr aun apart aload afieldAddr afield aidxSl_wr aidxSl_imm aidxPt aidxStr aidxArr abound asliceStr asliceSl asliceArr abest anonil afill astore acells_nils acells_emp acells_imm acells_wr acells_str acopy litAll amk as2b anil nilOf aseq aeqs aeqv fits fit1 hp_next hp_push hp_get hp_set List.length_cons List.length_nil List.getElem?_cons_zero List.getElem?_cons_succ List.cons_append List.nil_append List.append_nil List.take_succ_cons List.take_zero List.drop_succ_cons List.drop_zero List.all_cons List.all_nil Option.map_some Option.some.injEq Bool.and_true Bool.true_and Bool.false_eq_true if_true if_false ite_true ite_false Bool.and_self true_and and_true and_self Nat.zero_add Nat.le_refl Int.toNat_natCast beq_self_eq_true eq_self tops_zero tops_succ Int.natCast_nonneg List.take_nil List.drop_nil Option.map_none flat_bool one_bool cells_bool flat_int one_int cells_int flat_str one_str cells_str flat_nilp one_nilp cells_nilp flat_ptr one_ptr cells_ptr flat_nils one_nils cells_nils flat_imm one_imm cells_imm flat_wr one_wr cells_wr flat_func one_func cells_func flat_nilf one_nilf cells_nilf flat_map one_map cells_map flat_nilm one_nilm cells_nilm flat_iface one_iface cells_iface flat_nili one_nili cells_nili flat_rd one_rd cells_rd flat_emp one_emp cells_emp flat_byteV one_byteV cells_byteV flat_agg cells_agg one_agg B_size B_list B_ext B_toList B_app List.take_length Int.le_refl
def loadL (s : List UInt8) : List UInt8 := s ++ (List.replicate 24576 255).drop s.length
theorem loadL_len {s : List UInt8} (h : s.length ≤ 24576) : (loadL s).length = 24576 := by
  unfold loadL
  rw [List.length_append, List.length_drop, List.length_replicate]
  omega
def chp0 (s : List UInt8) : Chp := ⟨loadL s, true, -1, [], 0⟩
theorem load_a {s : List UInt8} (hsl : s.length ≤ 24576) {H : AHeap} {K : AV → AHeap → Prop} (h : K (.ptr (H.next + 1) 0 0) (hp H [.row 5 0 ((chp0 s).l.map byteV), .row 110 0 ((chp0 s).row (H.next + 0))])) : (ACalls Try.prog) 15 [.str (B s)] H K := by
  refine acalls_go mo t15 (fun hs hu => ?_)
  simp only [c15, go_sem, Nat.reduceLeDiff, Nat.reduceAdd, Nat.reduceSub, Nat.reduceMul, Nat.reduceLT, Int.reduceLT, Int.reduceLE, Int.reduceAdd, Int.reduceSub, Int.reduceMul, Int.reduceToNat, Int.reduceNeg, Int.reduceEq, Nat.reducePow, Int.reducePow, Nat.reduceEqDiff, decide_true, decide_false, reduceIte, reduceCtorEq, Int.reduceBEq, Int.reduceBNe, bne_self_eq_false, Int.cast_ofNat_Int, Bool.not_true, Bool.not_false, IntKind.bits]
  rw [hp_nil]
  refine repeat_a (c := 255) ?_
  unfold chp0 loadL at h
  have hR : (List.replicate 24576 (255 : UInt8)).length = 24576 := List.length_replicate
  generalize List.replicate 24576 (255 : UInt8) = R at *
  have hall : (s.map byteV).all AV.one = true := bytes_all s
  simp (maxSteps := 4000000) (disch := (first | omega | (simp only [set_next, List.length_append, List.length_cons, List.length_nil, List.length_take, List.length_drop, List.length_map, List.length_set, List.length_replicate]; omega) | (simp only [set_next, ne_eq, reduceCtorEq, not_false_eq_true]))) only [hR, List.take_zero, List.nil_append, Nat.min_eq_left hsl, Nat.zero_add, go_sem, Nat.reduceLeDiff, Nat.reduceAdd, Nat.reduceSub, Nat.reduceMul, Nat.reduceLT, Int.reduceLT, Int.reduceLE, Int.reduceAdd, Int.reduceSub, Int.reduceMul, Int.reduceToNat, Int.reduceNeg, Int.reduceEq, Nat.reducePow, Int.reducePow, Nat.reduceEqDiff, decide_true, decide_false, reduceIte, reduceCtorEq, Int.reduceBEq, Int.reduceBNe, bne_self_eq_false, Int.cast_ofNat_Int, Bool.not_true, Bool.not_false, IntKind.bits, w_nat, w_lit, w_add, w_addl, w_ladd, w_sub, w_subl, w_lsub, w_mul, w_mull, w_lmul, t_div, t_divl, t_mod, t_modl, i_lt, i_ltl, i_llt, i_le, i_lel, i_lle, i_eq, i_eql, i_leq, Nat.zero_le, d_beq, d_bne, d_bytes, byte_at, Int.toNat_natCast, toNat_lit, decide_eq_true, decide_eq_false, if_pos, if_neg, slA_len, slA_idx, slA_cells, flat_slA, one_slA, cells_slA, map_mid, strV_is, hp_get1, hp_get2, hp_get3, hp_set1, hp_set2, hp_set3, hp_old, hp_sold, set_got, set_set, set_next, set_other, bytesL, bytes_all, List.length_map, aapp_nils, aapp_wr, List.flatMap_cons, List.flatMap_nil, Nat.mul_one]
  have hrow : (s.map byteV).take s.length ++ (R.map byteV).drop s.length = (s ++ R.drop s.length).map byteV := by
    rw [List.take_of_length_le (by simp), List.map_append, List.map_drop]
  rw [hrow]
  refine aret_stay hs (fun o ho => ?_) (.ptr _ _ _ (by simp)) h
  simp only [List.mem_cons, List.not_mem_nil, or_false] at ho
  rcases ho with rfl | rfl
  · intro v hv
    obtain ⟨u, _, rfl⟩ := List.mem_map.1 hv
    exact .int _ _
  · intro v hv
    simp only [List.mem_cons, List.not_mem_nil, or_false] at hv
    rcases hv with rfl | rfl | rfl | rfl | rfl
    · exact .wr _ _ _ _ _ (by simp)
    · exact .bool _
    · exact .int _ _
    · exact .str _
    · exact .int _ _
theorem new_a {H : AHeap} {K : AV → AHeap → Prop} (h : K (.ptr (H.next + 1) 0 0) (hp H [.row 5 0 ((chp0 []).l.map byteV), .row 110 0 ((chp0 []).row (H.next + 0))])) : (ACalls Try.prog) 29 [] H K := by
  refine acalls_go mo t29 (fun hs hu => ?_)
  simp only [c29, go_sem, Nat.reduceLeDiff, Nat.reduceAdd, Nat.reduceSub, Nat.reduceMul, Nat.reduceLT, Int.reduceLT, Int.reduceLE, Int.reduceAdd, Int.reduceSub, Int.reduceMul, Int.reduceToNat, Int.reduceNeg, Int.reduceEq, Nat.reducePow, Int.reducePow, Nat.reduceEqDiff, decide_true, decide_false, reduceIte, reduceCtorEq, Int.reduceBEq, Int.reduceBNe, bne_self_eq_false, Int.cast_ofNat_Int, Bool.not_true, Bool.not_false, IntKind.bits]
  rw [hp_nil]
  refine load_a (s := []) (by simp) ?_
  simp (maxSteps := 4000000) (disch := (first | omega | (simp only [set_next, List.length_append, List.length_cons, List.length_nil, List.length_take, List.length_drop, List.length_map, List.length_set, List.length_replicate]; omega) | (simp only [set_next, ne_eq, reduceCtorEq, not_false_eq_true]))) only [go_sem, Nat.reduceLeDiff, Nat.reduceAdd, Nat.reduceSub, Nat.reduceMul, Nat.reduceLT, Int.reduceLT, Int.reduceLE, Int.reduceAdd, Int.reduceSub, Int.reduceMul, Int.reduceToNat, Int.reduceNeg, Int.reduceEq, Nat.reducePow, Int.reducePow, Nat.reduceEqDiff, decide_true, decide_false, reduceIte, reduceCtorEq, Int.reduceBEq, Int.reduceBNe, bne_self_eq_false, Int.cast_ofNat_Int, Bool.not_true, Bool.not_false, IntKind.bits, w_nat, w_lit, w_add, w_addl, w_ladd, w_sub, w_subl, w_lsub, w_mul, w_mull, w_lmul, t_div, t_divl, t_mod, t_modl, i_lt, i_ltl, i_llt, i_le, i_lel, i_lle, i_eq, i_eql, i_leq, Nat.zero_le, d_beq, d_bne, d_bytes, byte_at, Int.toNat_natCast, toNat_lit, decide_eq_true, decide_eq_false, if_pos, if_neg, slA_len, slA_idx, slA_cells, flat_slA, one_slA, cells_slA, map_mid, strV_is, hp_get1, hp_get2, hp_get3, hp_set1, hp_set2, hp_set3, hp_old, hp_sold, set_got, set_set, set_next, set_other, bytesL, bytes_all, List.length_map, aapp_nils, aapp_wr, List.flatMap_cons, List.flatMap_nil, Nat.mul_one]
  refine aret_stay hs (fun o ho => ?_) (.ptr _ _ _ (by simp)) h
  simp only [List.mem_cons, List.not_mem_nil, or_false] at ho
  rcases ho with rfl | rfl
  · intro v hv
    obtain ⟨u, _, rfl⟩ := List.mem_map.1 hv
    exact .int _ _
  · intro v hv
    simp only [Chp.row_is, List.mem_cons, List.not_mem_nil, or_false] at hv
    rcases hv with rfl | rfl | rfl | rfl | rfl
    · exact .wr _ _ _ _ _ (by simp)
    · exact .bool _
    · exact .int _ _
    · exact .str _
    · exact .int _ _
end Go.Proofs.Ytfilheaaacffmaa.AL
/- What must come, whatever the arguments are. -/
set_option linter.unusedSimpArgs false
set_option linter.unusedVariables false
set_option maxRecDepth 100000
namespace Go.Proofs.Ytfilheaaacffmaa.AL
open Go Go.Proofs
attribute [local go_sem] go_seq go_skip go_region go_regionN go_fregion rgF_some go_cond go_block go_exit go_ret nxt_nil nxt_code nxt_blk nxt_cut leave_nil leave_code leave_cut leave_blk rtn_nil rtn_code rtn_blk rtn_cut cnd_t cnd_f rgn_nil rgY_some rgY_none rgH_some rgP_some retTo_is rgV_func grd_und grd_tt grd_ff grd_tf grd_ft rgn_q rgn_alloc rgn_box rgn_store rgn_lit rgn_litw litCells_nil litCells_cons rgn_app rgn_copy rgn_mk rgn_s2b rgn_call rgn_callv rgn_stop rgn_slice3 aslice3 rgn_put rgn_mkmap rgn_lookup rgn_mapup alookup_nilm alookup_map amapup_map afound_ok afound_no rgn_c rgn_cv qclV_func aloadr rgn_guard post_ret post_normal retY_some ares aresL ares1 AX.ev aput List.getD_cons_zero List.getD_cons_succ List.set_cons_zero List.set_cons_succ List.map_cons List.map_nil aq abin aint astr abeq aconv asame aextract alenS alenL_nils alenL_emp alenL_imm alenL_wr aun apart aload afieldAddr afield aidxSl_wr aidxSl_imm aidxPt aidxStr aidxArr abound asliceStr asliceSl asliceArr abest anonil afill astore acells_nils acells_emp acells_imm acells_wr acells_str acopy litAll amk as2b anil nilOf aseq aeqs aeqv fits fit1 hp_next hp_push hp_get hp_set List.length_cons List.length_nil List.getElem?_cons_zero List.getElem?_cons_succ List.cons_append List.nil_append List.append_nil List.take_succ_cons List.take_zero List.drop_succ_cons List.drop_zero List.all_cons List.all_nil Option.map_some Option.some.injEq Bool.and_true Bool.true_and Bool.false_eq_true if_true if_false ite_true ite_false Bool.and_self true_and and_true and_self Nat.zero_add Nat.le_refl Int.toNat_natCast beq_self_eq_true eq_self tops_zero tops_succ Int.natCast_nonneg List.take_nil List.drop_nil Option.map_none flat_bool one_bool cells_bool flat_int one_int cells_int flat_str one_str cells_str flat_nilp one_nilp cells_nilp flat_ptr one_ptr cells_ptr flat_nils one_nils cells_nils flat_imm one_imm cells_imm flat_wr one_wr cells_wr flat_func one_func cells_func flat_nilf one_nilf cells_nilf flat_map one_map cells_map flat_nilm one_nilm cells_nilm flat_iface one_iface cells_iface flat_nili one_nili cells_nili flat_rd one_rd cells_rd flat_emp one_emp cells_emp flat_byteV one_byteV cells_byteV flat_agg cells_agg one_agg B_size B_list B_ext B_toList B_app List.take_length Int.le_refl
theorem erase_l {H : AHeap} {b c : Nat} (ok : ChipOk H b c) {l : List AObj} {x : Chp} (hl : x.l.length = 24576) {s : Int} {K : AV → AHeap → Prop} (h : K (.int .i64 (x.erase s).2) (hp (chipAt H b c (x.erase s).1) l)) : (ACalls Try.prog) 124 [.ptr c 0 0, .int .i64 s] (hp (chipAt H b c x) l) K := chip_lift (fun _ _ o k => erase_a o hl k) ok h
theorem write_l {H : AHeap} {b c : Nat} (ok : ChipOk H b c) {l : List AObj} {x : Chp} (hl : x.l.length = 24576) {at_ : Int} {s : List UInt8} {K : AV → AHeap → Prop} (h : K (.int .i64 (x.write at_ s).2) (hp (chipAt H b c (x.write at_ s).1) l)) : (ACalls Try.prog) 126 [.ptr c 0 0, .int .i64 at_, .str (B s)] (hp (chipAt H b c x) l) K := chip_lift (fun _ _ o k => write_a o hl k) ok h
theorem read_l {H : AHeap} {b c : Nat} (ok : ChipOk H b c) {l : List AObj} {x : Chp} (hl : x.l.length = 24576) {at_ n : Int} {K : AV → AHeap → Prop} (h : K (x.read at_ n) (hp (chipAt H b c x) l)) : (ACalls Try.prog) 128 [.ptr c 0 0, .int .i64 at_, .int .i64 n] (hp (chipAt H b c x) l) K := chip_lift (fun _ _ o k => read_a o hl k) ok h
theorem bytes_l {H : AHeap} {b c : Nat} (ok : ChipOk H b c) {l : List AObj} {x : Chp} (hl : x.l.length = 24576) {K : AV → AHeap → Prop} (h : K (.str (B x.l)) (hp (chipAt H b c x) l)) : (ACalls Try.prog) 20 [.ptr c 0 0] (hp (chipAt H b c x) l) K := chip_lift (fun _ _ o k => bytes_a o hl k) ok h
theorem chip_ok2 (H : AHeap) (o1 o2 : AObj) (l : List AObj) : ChipOk (hp H (o1 :: o2 :: l)) (H.next + 0) (H.next + 1) := ⟨by omega, by rw [hp_next]; simp, by rw [hp_next]; simp⟩
theorem chip_hp2 (H : AHeap) (o1 o2 : AObj) (l : List AObj) (x : Chp) : chipAt (hp H (o1 :: o2 :: l)) (H.next + 0) (H.next + 1) x = hp H (.row 5 0 (x.l.map byteV) :: .row 110 0 (x.row (H.next + 0)) :: l) := by
  apply AHeap.ext'
  · rfl
  · intro k
    by_cases h1 : k = H.next + 0
    · rw [h1, chip_b (chip_ok2 H o1 o2 l), hp_get]; rfl
    · by_cases h2 : k = H.next + 1
      · rw [h2, chip_c (chip_ok2 H o1 o2 l), hp_get]; rfl
      · rw [chip_o x h1 h2]
        simp only [hp]
        split
        · rfl
        · obtain ⟨j, hj⟩ : ∃ j, k - H.next = j + 2 := ⟨k - H.next - 2, by omega⟩
          rw [hj]
          rfl
end Go.Proofs.Ytfilheaaacffmaa.AL

