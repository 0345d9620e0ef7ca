/- The code of sha and its reference told, as the kernel evaluates it. -/
import Derived.Test.YtblflecalomgfaaAL14
import Derived.Test.YtblflecalomgfaaProg
import Derived.KernelRfl
set_option maxRecDepth 100000
namespace Go.Proofs.Ytblflecalomgfaa.AL
open Go Go.Proofs
def c197 : ACode := 
    (.seq 
    (.region [⟨(some 4), (.q (.move (.const (.int .u32 0)))), none⟩]) 
    (.seq 
    (.region [⟨(some 6), (.q (.move (.tmp 1))), none⟩, ⟨(some 7), (.q (.conv .u64 (.tmp 6))), none⟩, ⟨(some 8), (.q (.bin .and (.tmp 7) (.const (.int .u64 31)))), none⟩, ⟨(some 5), (.q (.move (.tmp 8))), none⟩]) 
    (.seq 
    (.region [⟨(some 9), (.q (.move (.tmp 0))), none⟩, ⟨(some 10), (.q (.move (.tmp 5))), none⟩, ⟨(some 11), (.q (.bin .shl (.tmp 9) (.tmp 10))), none⟩, ⟨(some 12), (.q (.move (.tmp 0))), none⟩, ⟨(some 13), (.q (.move (.tmp 5))), none⟩, ⟨(some 14), (.q (.bin .sub (.const (.int .u64 32)) (.tmp 13))), none⟩, ⟨(some 15), (.q (.bin .shr (.tmp 12) (.tmp 14))), none⟩, ⟨(some 16), (.q (.bin .or (.tmp 11) (.tmp 15))), none⟩, ⟨(some 4), (.q (.move (.tmp 16))), none⟩]) .ret)))
theorem t197 : Told Try.prog 197 17 c197 [(.tmp 4)] := ⟨Try.f197, _, [], Try.func197, rfl, by kernel_rfl, rfl, by kernel_rfl, by kernel_rfl⟩
def c195 : ACode := 
    (.seq 
    (.region [⟨(some 8), (.q (.move (.const (.int .u32 0)))), none⟩]) 
    (.seq 
    (.region [⟨(some 9), (.q (.move (.tmp 0))), none⟩, ⟨(some 10), (.q (.move (.tmp 1))), none⟩, ⟨(some 11), (.q (.un .neg (.tmp 10))), none⟩, ⟨(some 12), (.s (.call 197 [(.tmp 9), (.tmp 11)])), none⟩, ⟨(some 13), (.q (.move (.tmp 0))), none⟩, ⟨(some 14), (.q (.move (.tmp 2))), none⟩, ⟨(some 15), (.q (.un .neg (.tmp 14))), none⟩, ⟨(some 16), (.s (.call 197 [(.tmp 13), (.tmp 15)])), none⟩, ⟨(some 17), (.q (.bin .xor (.tmp 12) (.tmp 16))), none⟩, ⟨(some 18), (.q (.move (.tmp 0))), none⟩, ⟨(some 19), (.q (.move (.tmp 3))), none⟩, ⟨(some 20), (.q (.un .neg (.tmp 19))), none⟩, ⟨(some 21), (.s (.call 197 [(.tmp 18), (.tmp 20)])), none⟩, ⟨(some 22), (.q (.bin .xor (.tmp 17) (.tmp 21))), none⟩, ⟨(some 8), (.q (.move (.tmp 22))), none⟩]) .ret))
theorem t195 : Told Try.prog 195 23 c195 [(.tmp 8)] := ⟨Try.f195, _, [], Try.func195, rfl, by kernel_rfl, rfl, by kernel_rfl, by kernel_rfl⟩
def c193 : ACode := 
    (.seq 
    (.region [⟨(some 2), (.s (.alloc 183 (List.replicate 64 (.int .u32 0)))), none⟩]) 
    (.seq 
    (.region [⟨(some 3), (.s (.alloc 183 (List.replicate 64 (.int .u32 0)))), none⟩]) 
    (.seq 
    (.seq 
    (.region [⟨(some 9), (.q (.move (.const (.int .i64 0)))), none⟩]) 
    (.block 0 
    (.loop 
    (.seq 
    (.region [⟨(some 10), (.q (.bin .lss (.tmp 9) (.const (.int .i64 64)))), none⟩]) 
    (.seq 
    (.cond (.tmp 10) .skip (.exit 0)) 
    (.seq 
    (.block 1 
    (.seq 
    (.region [⟨(some 11), (.q (.move (.tmp 9))), none⟩, ⟨(some 4), (.q (.move (.tmp 11))), none⟩]) 
    (.seq 
    (.seq 
    (.region [⟨(some 12), (.q (.move (.tmp 4))), none⟩, ⟨(some 13), (.q (.bin .lss (.tmp 12) (.const (.int .i64 16)))), none⟩]) 
    (.cond (.tmp 13) 
    (.seq 
    (.region [⟨(some 14), (.q (.move (.tmp 4))), none⟩, ⟨(some 15), (.q (.move (.tmp 0))), none⟩, ⟨(some 16), (.q (.move (.tmp 4))), none⟩, ⟨(some 17), (.q (.bin .mul (.const (.int .i64 4)) (.tmp 16))), none⟩, ⟨(some 18), (.q (.idxSl 1 (.tmp 15) (.tmp 17))), none⟩, ⟨(some 19), (.q (.load false 1 (.tmp 18))), none⟩, ⟨(some 20), (.q (.conv .u32 (.tmp 19))), none⟩, ⟨(some 21), (.q (.bin .shl (.tmp 20) (.const (.int .u64 24)))), none⟩, ⟨(some 22), (.q (.move (.tmp 0))), none⟩, ⟨(some 23), (.q (.move (.tmp 4))), none⟩, ⟨(some 24), (.q (.bin .mul (.const (.int .i64 4)) (.tmp 23))), none⟩, ⟨(some 25), (.q (.bin .add (.tmp 24) (.const (.int .i64 1)))), none⟩, ⟨(some 26), (.q (.idxSl 1 (.tmp 22) (.tmp 25))), none⟩, ⟨(some 27), (.q (.load false 1 (.tmp 26))), none⟩, ⟨(some 28), (.q (.conv .u32 (.tmp 27))), none⟩, ⟨(some 29), (.q (.bin .shl (.tmp 28) (.const (.int .u64 16)))), none⟩, ⟨(some 30), (.q (.bin .or (.tmp 21) (.tmp 29))), none⟩, ⟨(some 31), (.q (.move (.tmp 0))), none⟩, ⟨(some 32), (.q (.move (.tmp 4))), none⟩, ⟨(some 33), (.q (.bin .mul (.const (.int .i64 4)) (.tmp 32))), none⟩, ⟨(some 34), (.q (.bin .add (.tmp 33) (.const (.int .i64 2)))), none⟩, ⟨(some 35), (.q (.idxSl 1 (.tmp 31) (.tmp 34))), none⟩, ⟨(some 36), (.q (.load false 1 (.tmp 35))), none⟩, ⟨(some 37), (.q (.conv .u32 (.tmp 36))), none⟩, ⟨(some 38), (.q (.bin .shl (.tmp 37) (.const (.int .u64 8)))), none⟩, ⟨(some 39), (.q (.bin .or (.tmp 30) (.tmp 38))), none⟩, ⟨(some 40), (.q (.move (.tmp 0))), none⟩, ⟨(some 41), (.q (.move (.tmp 4))), none⟩, ⟨(some 42), (.q (.bin .mul (.const (.int .i64 4)) (.tmp 41))), none⟩, ⟨(some 43), (.q (.bin .add (.tmp 42) (.const (.int .i64 3)))), none⟩, ⟨(some 44), (.q (.idxSl 1 (.tmp 40) (.tmp 43))), none⟩, ⟨(some 45), (.q (.load false 1 (.tmp 44))), none⟩, ⟨(some 46), (.q (.conv .u32 (.tmp 45))), none⟩, ⟨(some 47), (.q (.bin .or (.tmp 39) (.tmp 46))), none⟩, ⟨(some 48), (.q (.idxPt 1 64 (.tmp 3) (.tmp 14))), none⟩, ⟨none, (.s (.store 1 (.tmp 48) (.tmp 47))), none⟩]) (.exit 1)) .skip)) 
    (.seq 
    (.region [⟨(some 49), (.q (.move (.tmp 4))), none⟩, ⟨(some 50), (.q (.bin .sub (.tmp 49) (.const (.int .i64 15)))), none⟩, ⟨(some 51), (.q (.idxPt 1 64 (.tmp 3) (.tmp 50))), none⟩, ⟨(some 52), (.q (.load false 1 (.tmp 51))), none⟩, ⟨(some 53), (.q (.move (.tmp 4))), none⟩, ⟨(some 54), (.q (.bin .sub (.tmp 53) (.const (.int .i64 2)))), none⟩, ⟨(some 55), (.q (.idxPt 1 64 (.tmp 3) (.tmp 54))), none⟩, ⟨(some 56), (.q (.load false 1 (.tmp 55))), none⟩, ⟨(some 5), (.q (.move (.tmp 52))), none⟩, ⟨(some 6), (.q (.move (.tmp 56))), none⟩]) 
    (.seq 
    (.region [⟨(some 57), (.q (.move (.tmp 5))), none⟩, ⟨(some 58), (.s (.call 197 [(.tmp 57), (.const (.int .i64 (-7)))])), none⟩, ⟨(some 59), (.q (.move (.tmp 5))), none⟩, ⟨(some 60), (.s (.call 197 [(.tmp 59), (.const (.int .i64 (-18)))])), none⟩, ⟨(some 61), (.q (.bin .xor (.tmp 58) (.tmp 60))), none⟩, ⟨(some 62), (.q (.move (.tmp 5))), none⟩, ⟨(some 63), (.q (.bin .shr (.tmp 62) (.const (.int .u64 3)))), none⟩, ⟨(some 64), (.q (.bin .xor (.tmp 61) (.tmp 63))), none⟩, ⟨(some 7), (.q (.move (.tmp 64))), none⟩]) 
    (.seq 
    (.region [⟨(some 65), (.q (.move (.tmp 6))), none⟩, ⟨(some 66), (.s (.call 197 [(.tmp 65), (.const (.int .i64 (-17)))])), none⟩, ⟨(some 67), (.q (.move (.tmp 6))), none⟩, ⟨(some 68), (.s (.call 197 [(.tmp 67), (.const (.int .i64 (-19)))])), none⟩, ⟨(some 69), (.q (.bin .xor (.tmp 66) (.tmp 68))), none⟩, ⟨(some 70), (.q (.move (.tmp 6))), none⟩, ⟨(some 71), (.q (.bin .shr (.tmp 70) (.const (.int .u64 10)))), none⟩, ⟨(some 72), (.q (.bin .xor (.tmp 69) (.tmp 71))), none⟩, ⟨(some 8), (.q (.move (.tmp 72))), none⟩]) 
    (.region [⟨(some 73), (.q (.move (.tmp 4))), none⟩, ⟨(some 74), (.q (.move (.tmp 4))), none⟩, ⟨(some 75), (.q (.bin .sub (.tmp 74) (.const (.int .i64 16)))), none⟩, ⟨(some 76), (.q (.idxPt 1 64 (.tmp 3) (.tmp 75))), none⟩, ⟨(some 77), (.q (.load false 1 (.tmp 76))), none⟩, ⟨(some 78), (.q (.move (.tmp 7))), none⟩, ⟨(some 79), (.q (.bin .add (.tmp 77) (.tmp 78))), none⟩, ⟨(some 80), (.q (.move (.tmp 4))), none⟩, ⟨(some 81), (.q (.bin .sub (.tmp 80) (.const (.int .i64 7)))), none⟩, ⟨(some 82), (.q (.idxPt 1 64 (.tmp 3) (.tmp 81))), none⟩, ⟨(some 83), (.q (.load false 1 (.tmp 82))), none⟩, ⟨(some 84), (.q (.bin .add (.tmp 79) (.tmp 83))), none⟩, ⟨(some 85), (.q (.move (.tmp 8))), none⟩, ⟨(some 86), (.q (.bin .add (.tmp 84) (.tmp 85))), none⟩, ⟨(some 87), (.q (.idxPt 1 64 (.tmp 3) (.tmp 73))), none⟩, ⟨none, (.s (.store 1 (.tmp 87) (.tmp 86))), none⟩]))))))) 
    (.region [⟨(some 88), (.q (.bin .add (.tmp 9) (.const (.int .i64 1)))), none⟩, ⟨(some 9), (.q (.move (.tmp 88))), none⟩]))))))) 
    (.seq 
    (.region [⟨(some 89), (.q (.load true 64 (.tmp 3))), none⟩, ⟨none, (.s (.store 64 (.tmp 2) (.tmp 89))), none⟩]) .ret))))
theorem t193 : Told Try.prog 193 90 c193 [(.cell 2 true 64)] := ⟨Try.f193, _, [], Try.func193, rfl, by kernel_rfl, rfl, by kernel_rfl, by kernel_rfl⟩
def c194 : ACode := 
    (.seq 
    (.region [⟨(some 0), (.s (.alloc 183 (List.replicate 64 (.int .u32 0)))), none⟩]) 
    (.seq 
    (.region [⟨(some 1), (.q (.build (List.replicate 64 (.int .u32 0)) [(0, (1, (.const (.int .u32 1116352408)))), (1, (1, (.const (.int .u32 1899447441)))), (2, (1, (.const (.int .u32 3049323471)))), (3, (1, (.const (.int .u32 3921009573)))), (4, (1, (.const (.int .u32 961987163)))), (5, (1, (.const (.int .u32 1508970993)))), (6, (1, (.const (.int .u32 2453635748)))), (7, (1, (.const (.int .u32 2870763221)))), (8, (1, (.const (.int .u32 3624381080)))), (9, (1, (.const (.int .u32 310598401)))), (10, (1, (.const (.int .u32 607225278)))), (11, (1, (.const (.int .u32 1426881987)))), (12, (1, (.const (.int .u32 1925078388)))), (13, (1, (.const (.int .u32 2162078206)))), (14, (1, (.const (.int .u32 2614888103)))), (15, (1, (.const (.int .u32 3248222580)))), (16, (1, (.const (.int .u32 3835390401)))), (17, (1, (.const (.int .u32 4022224774)))), (18, (1, (.const (.int .u32 264347078)))), (19, (1, (.const (.int .u32 604807628)))), (20, (1, (.const (.int .u32 770255983)))), (21, (1, (.const (.int .u32 1249150122)))), (22, (1, (.const (.int .u32 1555081692)))), (23, (1, (.const (.int .u32 1996064986)))), (24, (1, (.const (.int .u32 2554220882)))), (25, (1, (.const (.int .u32 2821834349)))), (26, (1, (.const (.int .u32 2952996808)))), (27, (1, (.const (.int .u32 3210313671)))), (28, (1, (.const (.int .u32 3336571891)))), (29, (1, (.const (.int .u32 3584528711)))), (30, (1, (.const (.int .u32 113926993)))), (31, (1, (.const (.int .u32 338241895)))), (32, (1, (.const (.int .u32 666307205)))), (33, (1, (.const (.int .u32 773529912)))), (34, (1, (.const (.int .u32 1294757372)))), (35, (1, (.const (.int .u32 1396182291)))), (36, (1, (.const (.int .u32 1695183700)))), (37, (1, (.const (.int .u32 1986661051)))), (38, (1, (.const (.int .u32 2177026350)))), (39, (1, (.const (.int .u32 2456956037)))), (40, (1, (.const (.int .u32 2730485921)))), (41, (1, (.const (.int .u32 2820302411)))), (42, (1, (.const (.int .u32 3259730800)))), (43, (1, (.const (.int .u32 3345764771)))), (44, (1, (.const (.int .u32 3516065817)))), (45, (1, (.const (.int .u32 3600352804)))), (46, (1, (.const (.int .u32 4094571909)))), (47, (1, (.const (.int .u32 275423344)))), (48, (1, (.const (.int .u32 430227734)))), (49, (1, (.const (.int .u32 506948616)))), (50, (1, (.const (.int .u32 659060556)))), (51, (1, (.const (.int .u32 883997877)))), (52, (1, (.const (.int .u32 958139571)))), (53, (1, (.const (.int .u32 1322822218)))), (54, (1, (.const (.int .u32 1537002063)))), (55, (1, (.const (.int .u32 1747873779)))), (56, (1, (.const (.int .u32 1955562222)))), (57, (1, (.const (.int .u32 2024104815)))), (58, (1, (.const (.int .u32 2227730452)))), (59, (1, (.const (.int .u32 2361852424)))), (60, (1, (.const (.int .u32 2428436474)))), (61, (1, (.const (.int .u32 2756734187)))), (62, (1, (.const (.int .u32 3204031479)))), (63, (1, (.const (.int .u32 3329325298))))])), none⟩, ⟨none, (.s (.store 64 (.tmp 0) (.tmp 1))), none⟩]) .ret))
theorem t194 : Told Try.prog 194 2 c194 [(.cell 0 true 64)] := ⟨Try.f194, _, [], Try.func194, rfl, by kernel_rfl, rfl, by kernel_rfl, by kernel_rfl⟩
def c172 : ACode := 
    (.seq 
    (.region [⟨(some 0), (.s (.alloc 176 [(.int .u32 0), (.int .u32 0), (.int .u32 0), (.int .u32 0), (.int .u32 0), (.int .u32 0), (.int .u32 0), (.int .u32 0)])), none⟩]) 
    (.seq 
    (.region [⟨(some 1), (.q (.build [(.int .u32 0), (.int .u32 0), (.int .u32 0), (.int .u32 0), (.int .u32 0), (.int .u32 0), (.int .u32 0), (.int .u32 0)] [(0, (1, (.const (.int .u32 1779033703)))), (1, (1, (.const (.int .u32 3144134277)))), (2, (1, (.const (.int .u32 1013904242)))), (3, (1, (.const (.int .u32 2773480762)))), (4, (1, (.const (.int .u32 1359893119)))), (5, (1, (.const (.int .u32 2600822924)))), (6, (1, (.const (.int .u32 528734635)))), (7, (1, (.const (.int .u32 1541459225))))])), none⟩, ⟨none, (.s (.store 8 (.tmp 0) (.tmp 1))), none⟩]) .ret))
theorem t172 : Told Try.prog 172 2 c172 [(.cell 0 true 8)] := ⟨Try.f172, _, [], Try.func172, rfl, by kernel_rfl, rfl, by kernel_rfl, by kernel_rfl⟩
def c187 : ACode := 
    (.seq 
    (.region [⟨(some 15), (.q (.move (.tmp 1))), none⟩, ⟨(some 16), (.s (.call 193 [(.tmp 15)])), none⟩, ⟨(some 17), (.s (.call 194 [])), none⟩, ⟨(some 4), (.s (.alloc 183 (List.replicate 64 (.int .u32 0)))), none⟩, ⟨(some 5), (.s (.alloc 183 (List.replicate 64 (.int .u32 0)))), none⟩, ⟨none, (.s (.store 64 (.tmp 4) (.tmp 16))), none⟩, ⟨none, (.s (.store 64 (.tmp 5) (.tmp 17))), none⟩]) 
    (.seq 
    (.region [⟨(some 18), (.q (.move (.tmp 0))), none⟩, ⟨(some 19), (.q (.nonil (.tmp 18))), none⟩, ⟨(some 20), (.q (.load true 8 (.tmp 19))), none⟩, ⟨(some 6), (.s (.alloc 176 [(.int .u32 0), (.int .u32 0), (.int .u32 0), (.int .u32 0), (.int .u32 0), (.int .u32 0), (.int .u32 0), (.int .u32 0)])), none⟩, ⟨none, (.s (.store 8 (.tmp 6) (.tmp 20))), none⟩]) 
    (.seq 
    (.seq 
    (.region [⟨(some 21), (.q (.move (.const (.int .i64 0)))), none⟩]) 
    (.block 0 
    (.loop 
    (.seq 
    (.region [⟨(some 22), (.q (.bin .lss (.tmp 21) (.const (.int .i64 64)))), none⟩]) 
    (.seq 
    (.cond (.tmp 22) .skip (.exit 0)) 
    (.seq 
    (.block 1 
    (.seq 
    (.region [⟨(some 23), (.q (.move (.tmp 21))), none⟩, ⟨(some 7), (.q (.move (.tmp 23))), none⟩]) 
    (.seq 
    (.region [⟨(some 24), (.q (.idxPt 1 8 (.tmp 6) (.const (.int .i64 4)))), none⟩, ⟨(some 25), (.q (.load false 1 (.tmp 24))), none⟩, ⟨(some 26), (.q (.idxPt 1 8 (.tmp 6) (.const (.int .i64 5)))), none⟩, ⟨(some 27), (.q (.load false 1 (.tmp 26))), none⟩, ⟨(some 28), (.q (.idxPt 1 8 (.tmp 6) (.const (.int .i64 6)))), none⟩, ⟨(some 29), (.q (.load false 1 (.tmp 28))), none⟩, ⟨(some 8), (.q (.move (.tmp 25))), none⟩, ⟨(some 9), (.q (.move (.tmp 27))), none⟩, ⟨(some 10), (.q (.move (.tmp 29))), none⟩]) 
    (.seq 
    (.region [⟨(some 30), (.q (.idxPt 1 8 (.tmp 6) (.const (.int .i64 7)))), none⟩, ⟨(some 31), (.q (.load false 1 (.tmp 30))), none⟩, ⟨(some 32), (.q (.move (.tmp 8))), none⟩, ⟨(some 33), (.c (.fn 195) [(.tmp 32), (.const (.int .i64 6)), (.const (.int .i64 11)), (.const (.int .i64 25))]), none⟩, ⟨(some 34), (.q (.bin .add (.tmp 31) (.tmp 33))), none⟩, ⟨(some 35), (.q (.move (.tmp 8))), none⟩, ⟨(some 36), (.q (.move (.tmp 9))), none⟩, ⟨(some 37), (.q (.bin .and (.tmp 35) (.tmp 36))), none⟩, ⟨(some 38), (.q (.move (.tmp 8))), none⟩, ⟨(some 39), (.q (.un .xor (.tmp 38))), none⟩, ⟨(some 40), (.q (.move (.tmp 10))), none⟩, ⟨(some 41), (.q (.bin .and (.tmp 39) (.tmp 40))), none⟩, ⟨(some 42), (.q (.bin .xor (.tmp 37) (.tmp 41))), none⟩, ⟨(some 43), (.q (.bin .add (.tmp 34) (.tmp 42))), none⟩, ⟨(some 44), (.q (.move (.tmp 7))), none⟩, ⟨(some 45), (.q (.idxPt 1 64 (.tmp 5) (.tmp 44))), none⟩, ⟨(some 46), (.q (.load false 1 (.tmp 45))), none⟩, ⟨(some 47), (.q (.bin .add (.tmp 43) (.tmp 46))), none⟩, ⟨(some 48), (.q (.move (.tmp 7))), none⟩, ⟨(some 49), (.q (.idxPt 1 64 (.tmp 4) (.tmp 48))), none⟩, ⟨(some 50), (.q (.load false 1 (.tmp 49))), none⟩, ⟨(some 51), (.q (.bin .add (.tmp 47) (.tmp 50))), none⟩, ⟨(some 11), (.q (.move (.tmp 51))), none⟩]) 
    (.seq 
    (.region [⟨(some 52), (.q (.idxPt 1 8 (.tmp 6) (.const (.int .i64 0)))), none⟩, ⟨(some 53), (.q (.load false 1 (.tmp 52))), none⟩, ⟨(some 54), (.c (.fn 195) [(.tmp 53), (.const (.int .i64 2)), (.const (.int .i64 13)), (.const (.int .i64 22))]), none⟩, ⟨(some 55), (.q (.idxPt 1 8 (.tmp 6) (.const (.int .i64 0)))), none⟩, ⟨(some 56), (.q (.load false 1 (.tmp 55))), none⟩, ⟨(some 57), (.q (.idxPt 1 8 (.tmp 6) (.const (.int .i64 1)))), none⟩, ⟨(some 58), (.q (.load false 1 (.tmp 57))), none⟩, ⟨(some 59), (.q (.bin .and (.tmp 56) (.tmp 58))), none⟩, ⟨(some 60), (.q (.idxPt 1 8 (.tmp 6) (.const (.int .i64 0)))), none⟩, ⟨(some 61), (.q (.load false 1 (.tmp 60))), none⟩, ⟨(some 62), (.q (.idxPt 1 8 (.tmp 6) (.const (.int .i64 2)))), none⟩, ⟨(some 63), (.q (.load false 1 (.tmp 62))), none⟩, ⟨(some 64), (.q (.bin .and (.tmp 61) (.tmp 63))), none⟩, ⟨(some 65), (.q (.bin .xor (.tmp 59) (.tmp 64))), none⟩, ⟨(some 66), (.q (.idxPt 1 8 (.tmp 6) (.const (.int .i64 1)))), none⟩, ⟨(some 67), (.q (.load false 1 (.tmp 66))), none⟩, ⟨(some 68), (.q (.idxPt 1 8 (.tmp 6) (.const (.int .i64 2)))), none⟩, ⟨(some 69), (.q (.load false 1 (.tmp 68))), none⟩, ⟨(some 70), (.q (.bin .and (.tmp 67) (.tmp 69))), none⟩, ⟨(some 71), (.q (.bin .xor (.tmp 65) (.tmp 70))), none⟩, ⟨(some 72), (.q (.bin .add (.tmp 54) (.tmp 71))), none⟩, ⟨(some 12), (.q (.move (.tmp 72))), none⟩]) 
    (.seq 
    (.region [⟨(some 73), (.q (.sliceArr 1 8 (.tmp 6) (some (.const (.int .i64 1))) none)), none⟩, ⟨(some 74), (.q (.sliceArr 1 8 (.tmp 6) none (some (.const (.int .i64 7))))), none⟩, ⟨(some 75), (.s (.copy 1 (.tmp 73) (.tmp 74))), none⟩]) 
    (.seq 
    (.region [⟨(some 76), (.q (.idxPt 1 8 (.tmp 6) (.const (.int .i64 4)))), none⟩, ⟨(some 77), (.q (.load false 1 (.tmp 76))), none⟩, ⟨(some 78), (.q (.move (.tmp 11))), none⟩, ⟨(some 79), (.q (.bin .add (.tmp 77) (.tmp 78))), none⟩, ⟨(some 80), (.q (.idxPt 1 8 (.tmp 6) (.const (.int .i64 4)))), none⟩, ⟨none, (.s (.store 1 (.tmp 80) (.tmp 79))), none⟩]) 
    (.region [⟨(some 81), (.q (.move (.tmp 11))), none⟩, ⟨(some 82), (.q (.move (.tmp 12))), none⟩, ⟨(some 83), (.q (.bin .add (.tmp 81) (.tmp 82))), none⟩, ⟨(some 84), (.q (.idxPt 1 8 (.tmp 6) (.const (.int .i64 0)))), none⟩, ⟨none, (.s (.store 1 (.tmp 84) (.tmp 83))), none⟩])))))))) 
    (.region [⟨(some 85), (.q (.bin .add (.tmp 21) (.const (.int .i64 1)))), none⟩, ⟨(some 21), (.q (.move (.tmp 85))), none⟩]))))))) 
    (.seq 
    (.region [⟨(some 86), (.q (.load true 8 (.tmp 6))), none⟩, ⟨(some 87), (.q (.move (.const (.int .i64 0)))), none⟩]) 
    (.block 2 
    (.loop 
    (.seq 
    (.region [⟨(some 88), (.q (.bin .lss (.tmp 87) (.const (.int .i64 8)))), none⟩]) 
    (.seq 
    (.cond (.tmp 88) .skip (.exit 2)) 
    (.seq 
    (.block 3 
    (.seq 
    (.region [⟨(some 89), (.q (.move (.tmp 87))), none⟩, ⟨(some 90), (.q (.idxArr false 1 8 (.tmp 86) (.tmp 87))), none⟩, ⟨(some 13), (.q (.move (.tmp 89))), none⟩, ⟨(some 14), (.q (.move (.tmp 90))), none⟩]) 
    (.region [⟨(some 91), (.q (.move (.tmp 0))), none⟩, ⟨(some 92), (.q (.move (.tmp 13))), none⟩, ⟨(some 93), (.q (.nonil (.tmp 91))), none⟩, ⟨(some 94), (.q (.idxPt 1 8 (.tmp 93) (.tmp 92))), none⟩, ⟨(some 95), (.q (.load false 1 (.tmp 94))), none⟩, ⟨(some 96), (.q (.move (.tmp 14))), none⟩, ⟨(some 97), (.q (.bin .add (.tmp 95) (.tmp 96))), none⟩, ⟨(some 98), (.q (.nonil (.tmp 91))), none⟩, ⟨(some 99), (.q (.idxPt 1 8 (.tmp 98) (.tmp 92))), none⟩, ⟨none, (.s (.store 1 (.tmp 99) (.tmp 97))), none⟩]))) 
    (.region [⟨(some 100), (.q (.bin .add (.tmp 87) (.const (.int .i64 1)))), none⟩, ⟨(some 87), (.q (.move (.tmp 100))), none⟩]))))))))))
theorem t187 : Told Try.prog 187 101 c187 [] := ⟨Try.f187, _, [], Try.func187, rfl, by kernel_rfl, rfl, by kernel_rfl, by kernel_rfl⟩
def c173 : ACode := 
    (.block 0 
    (.loop 
    (.seq 
    (.seq 
    (.region [⟨(some 5), (.q (.move (.tmp 1))), none⟩, ⟨(some 6), (.q (.bin .neq (.tmp 5) (.const (.str (B []))))), none⟩]) 
    (.cond (.tmp 6) .skip (.exit 0))) 
    (.block 1 
    (.seq 
    (.region [⟨(some 7), (.q (.move (.tmp 0))), none⟩, ⟨(some 8), (.q (.nonil (.tmp 7))), none⟩, ⟨(some 9), (.q (.fieldAddr 9 (.tmp 8))), none⟩, ⟨(some 10), (.q (.move (.tmp 0))), none⟩, ⟨(some 11), (.q (.nonil (.tmp 10))), none⟩, ⟨(some 12), (.q (.fieldAddr 73 (.tmp 11))), none⟩, ⟨(some 13), (.q (.load false 1 (.tmp 12))), none⟩, ⟨(some 14), (.q (.sliceArr 1 64 (.tmp 9) (some (.tmp 13)) none)), none⟩, ⟨(some 15), (.q (.move (.tmp 1))), none⟩, ⟨(some 16), (.s (.copy 1 (.tmp 14) (.tmp 15))), none⟩, ⟨(some 4), (.q (.move (.tmp 16))), none⟩]) 
    (.seq 
    (.region [⟨(some 17), (.q (.move (.tmp 1))), none⟩, ⟨(some 18), (.q (.move (.tmp 4))), none⟩, ⟨(some 19), (.q (.sliceStr (.tmp 17) (some (.tmp 18)) none)), none⟩, ⟨(some 1), (.q (.move (.tmp 19))), none⟩]) 
    (.seq 
    (.region [⟨(some 20), (.q (.move (.tmp 0))), none⟩, ⟨(some 21), (.q (.nonil (.tmp 20))), none⟩, ⟨(some 22), (.q (.fieldAddr 73 (.tmp 21))), none⟩, ⟨(some 23), (.q (.load false 1 (.tmp 22))), none⟩, ⟨(some 24), (.q (.move (.tmp 4))), none⟩, ⟨(some 25), (.q (.bin .add (.tmp 23) (.tmp 24))), none⟩, ⟨(some 26), (.q (.nonil (.tmp 20))), none⟩, ⟨(some 27), (.q (.fieldAddr 73 (.tmp 26))), none⟩, ⟨none, (.s (.store 1 (.tmp 27) (.tmp 25))), none⟩]) 
    (.seq 
    (.region [⟨(some 28), (.q (.move (.tmp 0))), none⟩, ⟨(some 29), (.q (.nonil (.tmp 28))), none⟩, ⟨(some 30), (.q (.fieldAddr 73 (.tmp 29))), none⟩, ⟨(some 31), (.q (.load false 1 (.tmp 30))), none⟩, ⟨(some 32), (.q (.bin .eql (.tmp 31) (.const (.int .i64 64)))), none⟩]) 
    (.cond (.tmp 32) 
    (.seq 
    (.region [⟨(some 33), (.q (.move (.tmp 0))), none⟩, ⟨(some 34), (.q (.nonil (.tmp 33))), none⟩, ⟨(some 35), (.q (.fieldAddr 1 (.tmp 34))), none⟩, ⟨(some 36), (.q (.move (.tmp 0))), none⟩, ⟨(some 37), (.q (.nonil (.tmp 36))), none⟩, ⟨(some 38), (.q (.fieldAddr 9 (.tmp 37))), none⟩, ⟨(some 39), (.q (.sliceArr 1 64 (.tmp 38) none none)), none⟩, ⟨(some 40), (.s (.call 187 [(.tmp 35), (.tmp 39)])), none⟩]) 
    (.region [⟨(some 41), (.q (.move (.tmp 0))), none⟩, ⟨(some 42), (.q (.nonil (.tmp 41))), none⟩, ⟨(some 43), (.q (.fieldAddr 73 (.tmp 42))), none⟩, ⟨none, (.s (.store 1 (.tmp 43) (.const (.int .i64 0)))), none⟩])) .skip)))))))))
theorem t173 : Told Try.prog 173 44 c173 [] := ⟨Try.f173, _, [], Try.func173, rfl, by kernel_rfl, rfl, by kernel_rfl, by kernel_rfl⟩
def c151 : ACode := 
    (.seq 
    (.seq 
    (.region [⟨(some 6), (.q (.move (.tmp 0))), none⟩, ⟨(some 7), (.q (.nil .ptr false (.tmp 6) (.const .nilp))), none⟩]) 
    (.cond (.tmp 7) .ret .skip)) 
    (.seq 
    (.seq 
    (.region [⟨(some 8), (.q (.move (.tmp 0))), none⟩, ⟨(some 9), (.q (.nonil (.tmp 8))), none⟩, ⟨(some 10), (.q (.fieldAddr 0 (.tmp 9))), none⟩, ⟨(some 11), (.q (.load false 1 (.tmp 10))), none⟩, ⟨(some 12), (.q (.un .not (.tmp 11))), none⟩]) 
    (.cond (.tmp 12) 
    (.region [⟨(some 13), (.q (.move (.tmp 0))), none⟩, ⟨(some 14), (.q (.move (.tmp 0))), none⟩, ⟨(some 15), (.s (.call 172 [])), none⟩, ⟨(some 16), (.q (.nonil (.tmp 13))), none⟩, ⟨(some 17), (.q (.fieldAddr 0 (.tmp 16))), none⟩, ⟨none, (.s (.store 1 (.tmp 17) (.const (.bool true)))), none⟩, ⟨(some 18), (.q (.nonil (.tmp 14))), none⟩, ⟨(some 19), (.q (.fieldAddr 1 (.tmp 18))), none⟩, ⟨none, (.s (.store 8 (.tmp 19) (.tmp 15))), none⟩]) .skip)) 
    (.seq 
    (.region [⟨(some 20), (.q (.move (.tmp 1))), none⟩, ⟨(some 21), (.q (.len false (.tmp 20))), none⟩, ⟨(some 22), (.q (.move (.const (.int .i64 0)))), none⟩]) 
    (.block 0 
    (.loop 
    (.seq 
    (.region [⟨(some 23), (.q (.bin .lss (.tmp 22) (.tmp 21))), none⟩]) 
    (.seq 
    (.cond (.tmp 23) .skip (.exit 0)) 
    (.seq 
    (.block 1 
    (.seq 
    (.region [⟨(some 24), (.q (.idxSl 1 (.tmp 20) (.tmp 22))), none⟩, ⟨(some 25), (.q (.load false 1 (.tmp 24))), none⟩, ⟨(some 5), (.q (.move (.tmp 25))), none⟩]) 
    (.seq 
    (.region [⟨(some 26), (.q (.move (.tmp 0))), none⟩, ⟨(some 27), (.q (.nonil (.tmp 26))), none⟩, ⟨(some 28), (.q (.fieldAddr 74 (.tmp 27))), none⟩, ⟨(some 29), (.q (.load false 1 (.tmp 28))), none⟩, ⟨(some 30), (.q (.move (.tmp 5))), none⟩, ⟨(some 31), (.q (.len true (.tmp 30))), none⟩, ⟨(some 32), (.q (.bin .add (.tmp 29) (.tmp 31))), none⟩, ⟨(some 33), (.q (.nonil (.tmp 26))), none⟩, ⟨(some 34), (.q (.fieldAddr 74 (.tmp 33))), none⟩, ⟨none, (.s (.store 1 (.tmp 34) (.tmp 32))), none⟩]) 
    (.region [⟨(some 35), (.q (.move (.tmp 0))), none⟩, ⟨(some 36), (.q (.move (.tmp 5))), none⟩, ⟨(some 37), (.s (.call 173 [(.tmp 35), (.tmp 36)])), none⟩])))) 
    (.region [⟨(some 38), (.q (.bin .add (.tmp 22) (.const (.int .i64 1)))), none⟩, ⟨(some 22), (.q (.move (.tmp 38))), none⟩])))))))))
theorem t151 : Told Try.prog 151 39 c151 [] := ⟨Try.f151, _, [], Try.func151, rfl, by kernel_rfl, rfl, by kernel_rfl, by kernel_rfl⟩
def c152 : ACode := 
    (.seq 
    (.region [⟨(some 2), (.q (.move (.const (.str (B []))))), none⟩]) 
    (.seq 
    (.seq 
    (.region [⟨(some 7), (.q (.move (.tmp 0))), none⟩, ⟨(some 8), (.q (.nil .ptr false (.tmp 7) (.const .nilp))), none⟩]) 
    (.cond (.tmp 8) 
    (.seq 
    (.region [⟨(some 2), (.q (.move (.const (.str (B []))))), none⟩]) .ret) .skip)) 
    (.seq 
    (.region [⟨(some 9), (.q (.move (.tmp 0))), none⟩, ⟨(some 10), (.q (.nonil (.tmp 9))), none⟩, ⟨(some 11), (.q (.load true 75 (.tmp 10))), none⟩, ⟨(some 3), (.s (.alloc 179 [(.bool false), (.int .u32 0), (.int .u32 0), (.int .u32 0), (.int .u32 0), (.int .u32 0), (.int .u32 0), (.int .u32 0), (.int .u32 0), (.int .u8 0), (.int .u8 0), (.int .u8 0), (.int .u8 0), (.int .u8 0), (.int .u8 0), (.int .u8 0), (.int .u8 0), (.int .u8 0), (.int .u8 0), (.int .u8 0), (.int .u8 0), (.int .u8 0), (.int .u8 0), (.int .u8 0), (.int .u8 0), (.int .u8 0), (.int .u8 0), (.int .u8 0), (.int .u8 0), (.int .u8 0), (.int .u8 0), (.int .u8 0), (.int .u8 0), (.int .u8 0), (.int .u8 0), (.int .u8 0), (.int .u8 0), (.int .u8 0), (.int .u8 0), (.int .u8 0), (.int .u8 0), (.int .u8 0), (.int .u8 0), (.int .u8 0), (.int .u8 0), (.int .u8 0), (.int .u8 0), (.int .u8 0), (.int .u8 0), (.int .u8 0), (.int .u8 0), (.int .u8 0), (.int .u8 0), (.int .u8 0), (.int .u8 0), (.int .u8 0), (.int .u8 0), (.int .u8 0), (.int .u8 0), (.int .u8 0), (.int .u8 0), (.int .u8 0), (.int .u8 0), (.int .u8 0), (.int .u8 0), (.int .u8 0), (.int .u8 0), (.int .u8 0), (.int .u8 0), (.int .u8 0), (.int .u8 0), (.int .u8 0), (.int .u8 0), (.int .i64 0), (.int .i64 0)])), none⟩, ⟨none, (.s (.store 75 (.tmp 3) (.tmp 11))), none⟩]) 
    (.seq 
    (.region [⟨(some 12), (.s (.call 151 [(.tmp 3), (.const .nils)])), none⟩]) 
    (.seq 
    (.region [⟨(some 13), (.q (.move (.tmp 0))), none⟩, ⟨(some 14), (.q (.nonil (.tmp 13))), none⟩, ⟨(some 15), (.q (.fieldAddr 74 (.tmp 14))), none⟩, ⟨(some 16), (.q (.load false 1 (.tmp 15))), none⟩, ⟨(some 17), (.s (.call 174 [(.tmp 16)])), none⟩, ⟨(some 18), (.s (.call 173 [(.tmp 3), (.tmp 17)])), none⟩]) 
    (.seq 
    (.region [⟨(some 4), (.q (.move (.const .nils))), none⟩]) 
    (.seq 
    (.seq 
    (.region [⟨(some 19), (.q (.fieldAddr 1 (.tmp 3))), none⟩, ⟨(some 20), (.q (.load true 8 (.tmp 19))), none⟩, ⟨(some 21), (.q (.move (.const (.int .i64 0)))), none⟩]) 
    (.block 0 
    (.loop 
    (.seq 
    (.region [⟨(some 22), (.q (.bin .lss (.tmp 21) (.const (.int .i64 8)))), none⟩]) 
    (.seq 
    (.cond (.tmp 22) .skip (.exit 0)) 
    (.seq 
    (.block 1 
    (.seq 
    (.region [⟨(some 23), (.q (.idxArr false 1 8 (.tmp 20) (.tmp 21))), none⟩, ⟨(some 6), (.q (.move (.tmp 23))), none⟩]) 
    (.region [⟨(some 24), (.q (.move (.tmp 4))), none⟩, ⟨(some 25), (.q (.move (.tmp 6))), none⟩, ⟨(some 26), (.q (.bin .shr (.tmp 25) (.const (.int .u64 24)))), none⟩, ⟨(some 27), (.q (.conv .u8 (.tmp 26))), none⟩, ⟨(some 28), (.q (.move (.tmp 6))), none⟩, ⟨(some 29), (.q (.bin .shr (.tmp 28) (.const (.int .u64 16)))), none⟩, ⟨(some 30), (.q (.conv .u8 (.tmp 29))), none⟩, ⟨(some 31), (.q (.move (.tmp 6))), none⟩, ⟨(some 32), (.q (.bin .shr (.tmp 31) (.const (.int .u64 8)))), none⟩, ⟨(some 33), (.q (.conv .u8 (.tmp 32))), none⟩, ⟨(some 34), (.q (.move (.tmp 6))), none⟩, ⟨(some 35), (.q (.conv .u8 (.tmp 34))), none⟩, ⟨(some 36), (.s (.lit 5 1 [(.tmp 27), (.tmp 30), (.tmp 33), (.tmp 35)])), none⟩, ⟨(some 37), (.s (.app 5 1 1 (.tmp 24) (.tmp 36))), none⟩, ⟨(some 4), (.q (.move (.tmp 37))), none⟩]))) 
    (.region [⟨(some 38), (.q (.bin .add (.tmp 21) (.const (.int .i64 1)))), none⟩, ⟨(some 21), (.q (.move (.tmp 38))), none⟩]))))))) 
    (.seq 
    (.region [⟨(some 39), (.q (.move (.tmp 4))), none⟩, ⟨(some 40), (.q (.b2s (.tmp 39))), none⟩, ⟨(some 2), (.q (.move (.tmp 40))), none⟩]) .ret))))))))
theorem t152 : Told Try.prog 152 41 c152 [(.tmp 2)] := ⟨Try.f152, _, [], Try.func152, rfl, by kernel_rfl, rfl, by kernel_rfl, by kernel_rfl⟩
def c174 : ACode := 
    (.seq 
    (.region [⟨(some 2), (.q (.move (.const (.str (B []))))), none⟩]) 
    (.seq 
    (.region [⟨(some 6), (.s (.litw 5 1 [(.const (.int .u8 128))])), none⟩, ⟨(some 3), (.q (.move (.tmp 6))), none⟩]) 
    (.seq 
    (.block 0 
    (.loop 
    (.seq 
    (.seq 
    (.region [⟨(some 7), (.q (.move (.tmp 0))), none⟩, ⟨(some 8), (.q (.move (.tmp 3))), none⟩, ⟨(some 9), (.q (.len false (.tmp 8))), none⟩, ⟨(some 10), (.q (.bin .add (.tmp 7) (.tmp 9))), none⟩, ⟨(some 11), (.q (.bin .rem (.tmp 10) (.const (.int .i64 64)))), none⟩, ⟨(some 12), (.q (.bin .neq (.tmp 11) (.const (.int .i64 56)))), none⟩]) 
    (.cond (.tmp 12) .skip (.exit 0))) 
    (.block 1 
    (.region [⟨(some 13), (.q (.move (.tmp 3))), none⟩, ⟨(some 14), (.s (.lit 5 1 [(.const (.int .u8 0))])), none⟩, ⟨(some 15), (.s (.app 5 1 1 (.tmp 13) (.tmp 14))), none⟩, ⟨(some 3), (.q (.move (.tmp 15))), none⟩]))))) 
    (.seq 
    (.region [⟨(some 16), (.q (.move (.tmp 0))), none⟩, ⟨(some 17), (.q (.conv .u64 (.tmp 16))), none⟩, ⟨(some 18), (.q (.bin .mul (.tmp 17) (.const (.int .u64 8)))), none⟩, ⟨(some 4), (.q (.move (.tmp 18))), none⟩]) 
    (.seq 
    (.seq 
    (.region [⟨(some 19), (.q (.move (.const (.int .i64 0)))), none⟩]) 
    (.block 2 
    (.loop 
    (.seq 
    (.region [⟨(some 20), (.q (.bin .lss (.tmp 19) (.const (.int .i64 8)))), none⟩]) 
    (.seq 
    (.cond (.tmp 20) .skip (.exit 2)) 
    (.seq 
    (.block 3 
    (.seq 
    (.region [⟨(some 21), (.q (.move (.tmp 19))), none⟩, ⟨(some 5), (.q (.move (.tmp 21))), none⟩]) 
    (.region [⟨(some 22), (.q (.move (.tmp 3))), none⟩, ⟨(some 23), (.q (.move (.tmp 4))), none⟩, ⟨(some 24), (.q (.move (.tmp 5))), none⟩, ⟨(some 25), (.q (.bin .mul (.const (.int .i64 8)) (.tmp 24))), none⟩, ⟨(some 26), (.q (.bin .sub (.const (.int .i64 56)) (.tmp 25))), none⟩, ⟨(some 27), (.q (.bin .shr (.tmp 23) (.tmp 26))), none⟩, ⟨(some 28), (.q (.conv .u8 (.tmp 27))), none⟩, ⟨(some 29), (.s (.lit 5 1 [(.tmp 28)])), none⟩, ⟨(some 30), (.s (.app 5 1 1 (.tmp 22) (.tmp 29))), none⟩, ⟨(some 3), (.q (.move (.tmp 30))), none⟩]))) 
    (.region [⟨(some 31), (.q (.bin .add (.tmp 19) (.const (.int .i64 1)))), none⟩, ⟨(some 19), (.q (.move (.tmp 31))), none⟩]))))))) 
    (.seq 
    (.region [⟨(some 32), (.q (.move (.tmp 3))), none⟩, ⟨(some 33), (.q (.b2s (.tmp 32))), none⟩, ⟨(some 2), (.q (.move (.tmp 33))), none⟩]) .ret))))))
theorem t174 : Told Try.prog 174 34 c174 [(.tmp 2)] := ⟨Try.f174, _, [6], Try.func174, rfl, by kernel_rfl, rfl, by kernel_rfl, by kernel_rfl⟩
def c95 : ACode := 
    (.seq 
    (.region [⟨(some 2), (.q (.move (.const (.str (B []))))), none⟩]) 
    (.seq 
    (.region [⟨(some 3), (.s (.alloc 179 [(.bool false), (.int .u32 0), (.int .u32 0), (.int .u32 0), (.int .u32 0), (.int .u32 0), (.int .u32 0), (.int .u32 0), (.int .u32 0), (.int .u8 0), (.int .u8 0), (.int .u8 0), (.int .u8 0), (.int .u8 0), (.int .u8 0), (.int .u8 0), (.int .u8 0), (.int .u8 0), (.int .u8 0), (.int .u8 0), (.int .u8 0), (.int .u8 0), (.int .u8 0), (.int .u8 0), (.int .u8 0), (.int .u8 0), (.int .u8 0), (.int .u8 0), (.int .u8 0), (.int .u8 0), (.int .u8 0), (.int .u8 0), (.int .u8 0), (.int .u8 0), (.int .u8 0), (.int .u8 0), (.int .u8 0), (.int .u8 0), (.int .u8 0), (.int .u8 0), (.int .u8 0), (.int .u8 0), (.int .u8 0), (.int .u8 0), (.int .u8 0), (.int .u8 0), (.int .u8 0), (.int .u8 0), (.int .u8 0), (.int .u8 0), (.int .u8 0), (.int .u8 0), (.int .u8 0), (.int .u8 0), (.int .u8 0), (.int .u8 0), (.int .u8 0), (.int .u8 0), (.int .u8 0), (.int .u8 0), (.int .u8 0), (.int .u8 0), (.int .u8 0), (.int .u8 0), (.int .u8 0), (.int .u8 0), (.int .u8 0), (.int .u8 0), (.int .u8 0), (.int .u8 0), (.int .u8 0), (.int .u8 0), (.int .u8 0), (.int .i64 0), (.int .i64 0)])), none⟩]) 
    (.seq 
    (.region [⟨(some 4), (.q (.move (.tmp 0))), none⟩, ⟨(some 5), (.s (.call 151 [(.tmp 3), (.tmp 4)])), none⟩]) 
    (.seq 
    (.region [⟨(some 6), (.s (.call 152 [(.tmp 3)])), none⟩, ⟨(some 2), (.q (.move (.tmp 6))), none⟩]) .ret))))
theorem t95 : Told Try.prog 95 7 c95 [(.tmp 2)] := ⟨Try.f95, _, [], Try.func95, rfl, by kernel_rfl, rfl, by kernel_rfl, by kernel_rfl⟩
def c102 : ACode := 
    (.seq 
    (.region [⟨(some 4), (.q (.move (.const (.bool false)))), none⟩]) 
    (.seq 
    (.seq 
    (.region [⟨(some 7), (.q (.move (.tmp 0))), none⟩, ⟨(some 8), (.q (.len true (.tmp 7))), none⟩, ⟨(some 9), (.q (.move (.tmp 1))), none⟩, ⟨(some 10), (.q (.len true (.tmp 9))), none⟩, ⟨(some 11), (.q (.bin .neq (.tmp 8) (.tmp 10))), none⟩]) 
    (.cond (.tmp 11) 
    (.seq 
    (.region [⟨(some 4), (.q (.move (.const (.bool false)))), none⟩]) .ret) .skip)) 
    (.seq 
    (.region [⟨(some 5), (.q (.move (.const (.int .u8 0)))), none⟩]) 
    (.seq 
    (.seq 
    (.region [⟨(some 12), (.q (.move (.tmp 0))), none⟩, ⟨(some 13), (.q (.len true (.tmp 12))), none⟩, ⟨(some 14), (.q (.move (.const (.int .i64 0)))), none⟩]) 
    (.block 0 
    (.loop 
    (.seq 
    (.region [⟨(some 15), (.q (.bin .lss (.tmp 14) (.tmp 13))), none⟩]) 
    (.seq 
    (.cond (.tmp 15) .skip (.exit 0)) 
    (.seq 
    (.block 1 
    (.seq 
    (.region [⟨(some 16), (.q (.move (.tmp 14))), none⟩, ⟨(some 6), (.q (.move (.tmp 16))), none⟩]) 
    (.region [⟨(some 17), (.q (.move (.tmp 5))), none⟩, ⟨(some 18), (.q (.move (.tmp 0))), none⟩, ⟨(some 19), (.q (.move (.tmp 6))), none⟩, ⟨(some 20), (.q (.idxStr (.tmp 18) (.tmp 19))), none⟩, ⟨(some 21), (.q (.move (.tmp 1))), none⟩, ⟨(some 22), (.q (.move (.tmp 6))), none⟩, ⟨(some 23), (.q (.idxStr (.tmp 21) (.tmp 22))), none⟩, ⟨(some 24), (.q (.bin .xor (.tmp 20) (.tmp 23))), none⟩, ⟨(some 25), (.q (.bin .or (.tmp 17) (.tmp 24))), none⟩, ⟨(some 5), (.q (.move (.tmp 25))), none⟩]))) 
    (.region [⟨(some 26), (.q (.bin .add (.tmp 14) (.const (.int .i64 1)))), none⟩, ⟨(some 14), (.q (.move (.tmp 26))), none⟩]))))))) 
    (.seq 
    (.region [⟨(some 27), (.q (.move (.tmp 5))), none⟩, ⟨(some 28), (.q (.bin .eql (.tmp 27) (.const (.int .u8 0)))), none⟩, ⟨(some 4), (.q (.move (.tmp 28))), none⟩]) .ret)))))
theorem t102 : Told Try.prog 102 29 c102 [(.tmp 4)] := ⟨Try.f102, _, [], Try.func102, rfl, by kernel_rfl, rfl, by kernel_rfl, by kernel_rfl⟩
def c177 : ACode := 
    (.seq 
    (.region [⟨(some 4), (.q (.move (.const (.int .u32 0)))), none⟩]) 
    (.seq 
    (.region [⟨(some 5), (.q (.move (.tmp 0))), none⟩, ⟨(some 6), (.q (.move (.tmp 1))), none⟩, ⟨(some 7), (.q (.bin .shr (.tmp 5) (.tmp 6))), none⟩, ⟨(some 8), (.q (.move (.tmp 0))), none⟩, ⟨(some 9), (.q (.move (.tmp 1))), none⟩, ⟨(some 10), (.q (.bin .sub (.const (.int .i64 32)) (.tmp 9))), none⟩, ⟨(some 11), (.q (.bin .shl (.tmp 8) (.tmp 10))), none⟩, ⟨(some 12), (.q (.bin .or (.tmp 7) (.tmp 11))), none⟩, ⟨(some 4), (.q (.move (.tmp 12))), none⟩]) .ret))
theorem t177 : Told Try.prog 177 13 c177 [(.tmp 4)] := ⟨Try.f177, _, [], Try.func177, rfl, by kernel_rfl, rfl, by kernel_rfl, by kernel_rfl⟩
def c176 : ACode := 
    (.seq 
    (.region [⟨(some 2), (.s (.alloc 183 (List.replicate 64 (.int .u32 0)))), none⟩]) 
    (.seq 
    (.region [⟨(some 3), (.s (.alloc 183 (List.replicate 64 (.int .u32 0)))), none⟩]) 
    (.seq 
    (.seq 
    (.region [⟨(some 4), (.q (.move (.const (.int .i64 0)))), none⟩]) 
    (.block 0 
    (.loop 
    (.seq 
    (.seq 
    (.region [⟨(some 8), (.q (.move (.tmp 4))), none⟩, ⟨(some 9), (.q (.bin .lss (.tmp 8) (.const (.int .i64 64)))), none⟩]) 
    (.cond (.tmp 9) .skip (.exit 0))) 
    (.seq 
    (.block 1 
    (.seq 
    (.seq 
    (.region [⟨(some 12), (.q (.move (.tmp 4))), none⟩, ⟨(some 13), (.q (.bin .lss (.tmp 12) (.const (.int .i64 16)))), none⟩]) 
    (.cond (.tmp 13) 
    (.seq 
    (.seq 
    (.region [⟨(some 5), (.q (.move (.const (.int .i64 0)))), none⟩]) 
    (.block 2 
    (.loop 
    (.seq 
    (.seq 
    (.region [⟨(some 14), (.q (.move (.tmp 5))), none⟩, ⟨(some 15), (.q (.bin .lss (.tmp 14) (.const (.int .i64 4)))), none⟩]) 
    (.cond (.tmp 15) .skip (.exit 2))) 
    (.seq 
    (.block 3 
    (.region [⟨(some 18), (.q (.move (.tmp 4))), none⟩, ⟨(some 19), (.q (.move (.tmp 4))), none⟩, ⟨(some 20), (.q (.idxPt 1 64 (.tmp 3) (.tmp 19))), none⟩, ⟨(some 21), (.q (.load false 1 (.tmp 20))), none⟩, ⟨(some 22), (.q (.bin .mul (.tmp 21) (.const (.int .u32 256)))), none⟩, ⟨(some 23), (.q (.move (.tmp 0))), none⟩, ⟨(some 24), (.q (.move (.tmp 4))), none⟩, ⟨(some 25), (.q (.bin .mul (.const (.int .i64 4)) (.tmp 24))), none⟩, ⟨(some 26), (.q (.move (.tmp 5))), none⟩, ⟨(some 27), (.q (.bin .add (.tmp 25) (.tmp 26))), none⟩, ⟨(some 28), (.q (.idxStr (.tmp 23) (.tmp 27))), none⟩, ⟨(some 29), (.q (.conv .u32 (.tmp 28))), none⟩, ⟨(some 30), (.q (.bin .add (.tmp 22) (.tmp 29))), none⟩, ⟨(some 31), (.q (.idxPt 1 64 (.tmp 3) (.tmp 18))), none⟩, ⟨none, (.s (.store 1 (.tmp 31) (.tmp 30))), none⟩])) 
    (.region [⟨(some 16), (.q (.move (.tmp 5))), none⟩, ⟨(some 17), (.q (.bin .add (.tmp 16) (.const (.int .i64 1)))), none⟩, ⟨(some 5), (.q (.move (.tmp 17))), none⟩])))))) (.exit 1)) .skip)) 
    (.seq 
    (.region [⟨(some 32), (.q (.move (.tmp 4))), none⟩, ⟨(some 33), (.q (.bin .sub (.tmp 32) (.const (.int .i64 15)))), none⟩, ⟨(some 34), (.q (.idxPt 1 64 (.tmp 3) (.tmp 33))), none⟩, ⟨(some 35), (.q (.load false 1 (.tmp 34))), none⟩, ⟨(some 36), (.q (.move (.tmp 4))), none⟩, ⟨(some 37), (.q (.bin .sub (.tmp 36) (.const (.int .i64 2)))), none⟩, ⟨(some 38), (.q (.idxPt 1 64 (.tmp 3) (.tmp 37))), none⟩, ⟨(some 39), (.q (.load false 1 (.tmp 38))), none⟩, ⟨(some 6), (.q (.move (.tmp 35))), none⟩, ⟨(some 7), (.q (.move (.tmp 39))), none⟩]) 
    (.region [⟨(some 40), (.q (.move (.tmp 4))), none⟩, ⟨(some 41), (.q (.move (.tmp 4))), none⟩, ⟨(some 42), (.q (.bin .sub (.tmp 41) (.const (.int .i64 16)))), none⟩, ⟨(some 43), (.q (.idxPt 1 64 (.tmp 3) (.tmp 42))), none⟩, ⟨(some 44), (.q (.load false 1 (.tmp 43))), none⟩, ⟨(some 45), (.q (.move (.tmp 6))), none⟩, ⟨(some 46), (.c (.fn 177) [(.tmp 45), (.const (.int .i64 7))]), none⟩, ⟨(some 47), (.q (.move (.tmp 6))), none⟩, ⟨(some 48), (.c (.fn 177) [(.tmp 47), (.const (.int .i64 18))]), none⟩, ⟨(some 49), (.q (.bin .xor (.tmp 46) (.tmp 48))), none⟩, ⟨(some 50), (.q (.move (.tmp 6))), none⟩, ⟨(some 51), (.q (.bin .shr (.tmp 50) (.const (.int .u64 3)))), none⟩, ⟨(some 52), (.q (.bin .xor (.tmp 49) (.tmp 51))), none⟩, ⟨(some 53), (.q (.bin .add (.tmp 44) (.tmp 52))), none⟩, ⟨(some 54), (.q (.move (.tmp 4))), none⟩, ⟨(some 55), (.q (.bin .sub (.tmp 54) (.const (.int .i64 7)))), none⟩, ⟨(some 56), (.q (.idxPt 1 64 (.tmp 3) (.tmp 55))), none⟩, ⟨(some 57), (.q (.load false 1 (.tmp 56))), none⟩, ⟨(some 58), (.q (.bin .add (.tmp 53) (.tmp 57))), none⟩, ⟨(some 59), (.q (.move (.tmp 7))), none⟩, ⟨(some 60), (.c (.fn 177) [(.tmp 59), (.const (.int .i64 17))]), none⟩, ⟨(some 61), (.q (.move (.tmp 7))), none⟩, ⟨(some 62), (.c (.fn 177) [(.tmp 61), (.const (.int .i64 19))]), none⟩, ⟨(some 63), (.q (.bin .xor (.tmp 60) (.tmp 62))), none⟩, ⟨(some 64), (.q (.move (.tmp 7))), none⟩, ⟨(some 65), (.q (.bin .shr (.tmp 64) (.const (.int .u64 10)))), none⟩, ⟨(some 66), (.q (.bin .xor (.tmp 63) (.tmp 65))), none⟩, ⟨(some 67), (.q (.bin .add (.tmp 58) (.tmp 66))), none⟩, ⟨(some 68), (.q (.idxPt 1 64 (.tmp 3) (.tmp 40))), none⟩, ⟨none, (.s (.store 1 (.tmp 68) (.tmp 67))), none⟩])))) 
    (.region [⟨(some 10), (.q (.move (.tmp 4))), none⟩, ⟨(some 11), (.q (.bin .add (.tmp 10) (.const (.int .i64 1)))), none⟩, ⟨(some 4), (.q (.move (.tmp 11))), none⟩])))))) 
    (.seq 
    (.region [⟨(some 69), (.q (.load true 64 (.tmp 3))), none⟩, ⟨none, (.s (.store 64 (.tmp 2) (.tmp 69))), none⟩]) .ret))))
theorem t176 : Told Try.prog 176 70 c176 [(.cell 2 true 64)] := ⟨Try.f176, _, [], Try.func176, rfl, by kernel_rfl, rfl, by kernel_rfl, by kernel_rfl⟩
def c155 : ACode := 
    (.seq 
    (.region [⟨(some 3), (.s (.box 175 (.tmp 0))), none⟩, ⟨(some 5), (.s (.box 183 (.tmp 2))), none⟩, ⟨(some 6), (.s (.alloc 175 [(.int .u32 0), (.int .u32 0), (.int .u32 0), (.int .u32 0), (.int .u32 0), (.int .u32 0), (.int .u32 0), (.int .u32 0)])), none⟩]) 
    (.seq 
    (.region [⟨(some 15), (.q (.move (.tmp 1))), none⟩, ⟨(some 16), (.s (.call 176 [(.tmp 15)])), none⟩, ⟨(some 7), (.s (.alloc 183 (List.replicate 64 (.int .u32 0)))), none⟩, ⟨none, (.s (.store 64 (.tmp 7) (.tmp 16))), none⟩]) 
    (.seq 
    (.region [⟨(some 17), (.q (.load true 8 (.tmp 3))), none⟩, ⟨(some 8), (.s (.alloc 175 [(.int .u32 0), (.int .u32 0), (.int .u32 0), (.int .u32 0), (.int .u32 0), (.int .u32 0), (.int .u32 0), (.int .u32 0)])), none⟩, ⟨none, (.s (.store 8 (.tmp 8) (.tmp 17))), none⟩]) 
    (.seq 
    (.seq 
    (.region [⟨(some 9), (.q (.move (.const (.int .i64 0)))), none⟩]) 
    (.block 0 
    (.loop 
    (.seq 
    (.seq 
    (.region [⟨(some 18), (.q (.move (.tmp 9))), none⟩, ⟨(some 19), (.q (.bin .lss (.tmp 18) (.const (.int .i64 64)))), none⟩]) 
    (.cond (.tmp 19) .skip (.exit 0))) 
    (.seq 
    (.block 1 
    (.seq 
    (.region [⟨(some 22), (.q (.idxPt 1 8 (.tmp 8) (.const (.int .i64 0)))), none⟩, ⟨(some 23), (.q (.load false 1 (.tmp 22))), none⟩, ⟨(some 24), (.q (.idxPt 1 8 (.tmp 8) (.const (.int .i64 4)))), none⟩, ⟨(some 25), (.q (.load false 1 (.tmp 24))), none⟩, ⟨(some 10), (.q (.move (.tmp 23))), none⟩, ⟨(some 11), (.q (.move (.tmp 25))), none⟩]) 
    (.seq 
    (.region [⟨(some 26), (.q (.idxPt 1 8 (.tmp 8) (.const (.int .i64 7)))), none⟩, ⟨(some 27), (.q (.load false 1 (.tmp 26))), none⟩, ⟨(some 28), (.q (.move (.tmp 11))), none⟩, ⟨(some 29), (.c (.fn 177) [(.tmp 28), (.const (.int .i64 6))]), none⟩, ⟨(some 30), (.q (.move (.tmp 11))), none⟩, ⟨(some 31), (.c (.fn 177) [(.tmp 30), (.const (.int .i64 11))]), none⟩, ⟨(some 32), (.q (.bin .xor (.tmp 29) (.tmp 31))), none⟩, ⟨(some 33), (.q (.move (.tmp 11))), none⟩, ⟨(some 34), (.c (.fn 177) [(.tmp 33), (.const (.int .i64 25))]), none⟩, ⟨(some 35), (.q (.bin .xor (.tmp 32) (.tmp 34))), none⟩, ⟨(some 36), (.q (.bin .add (.tmp 27) (.tmp 35))), none⟩, ⟨(some 37), (.q (.move (.tmp 11))), none⟩, ⟨(some 38), (.q (.idxPt 1 8 (.tmp 8) (.const (.int .i64 5)))), none⟩, ⟨(some 39), (.q (.load false 1 (.tmp 38))), none⟩, ⟨(some 40), (.q (.bin .and (.tmp 37) (.tmp 39))), none⟩, ⟨(some 41), (.q (.move (.tmp 11))), none⟩, ⟨(some 42), (.q (.un .xor (.tmp 41))), none⟩, ⟨(some 43), (.q (.idxPt 1 8 (.tmp 8) (.const (.int .i64 6)))), none⟩, ⟨(some 44), (.q (.load false 1 (.tmp 43))), none⟩, ⟨(some 45), (.q (.bin .and (.tmp 42) (.tmp 44))), none⟩, ⟨(some 46), (.q (.bin .xor (.tmp 40) (.tmp 45))), none⟩, ⟨(some 47), (.q (.bin .add (.tmp 36) (.tmp 46))), none⟩, ⟨(some 48), (.q (.move (.tmp 9))), none⟩, ⟨(some 49), (.q (.idxPt 1 64 (.tmp 5) (.tmp 48))), none⟩, ⟨(some 50), (.q (.load false 1 (.tmp 49))), none⟩, ⟨(some 51), (.q (.bin .add (.tmp 47) (.tmp 50))), none⟩, ⟨(some 52), (.q (.move (.tmp 9))), none⟩, ⟨(some 53), (.q (.idxPt 1 64 (.tmp 7) (.tmp 52))), none⟩, ⟨(some 54), (.q (.load false 1 (.tmp 53))), none⟩, ⟨(some 55), (.q (.bin .add (.tmp 51) (.tmp 54))), none⟩, ⟨(some 12), (.q (.move (.tmp 55))), none⟩]) 
    (.seq 
    (.region [⟨(some 56), (.q (.move (.tmp 10))), none⟩, ⟨(some 57), (.c (.fn 177) [(.tmp 56), (.const (.int .i64 2))]), none⟩, ⟨(some 58), (.q (.move (.tmp 10))), none⟩, ⟨(some 59), (.c (.fn 177) [(.tmp 58), (.const (.int .i64 13))]), none⟩, ⟨(some 60), (.q (.bin .xor (.tmp 57) (.tmp 59))), none⟩, ⟨(some 61), (.q (.move (.tmp 10))), none⟩, ⟨(some 62), (.c (.fn 177) [(.tmp 61), (.const (.int .i64 22))]), none⟩, ⟨(some 63), (.q (.bin .xor (.tmp 60) (.tmp 62))), none⟩, ⟨(some 64), (.q (.move (.tmp 10))), none⟩, ⟨(some 65), (.q (.idxPt 1 8 (.tmp 8) (.const (.int .i64 1)))), none⟩, ⟨(some 66), (.q (.load false 1 (.tmp 65))), none⟩, ⟨(some 67), (.q (.bin .and (.tmp 64) (.tmp 66))), none⟩, ⟨(some 68), (.q (.move (.tmp 10))), none⟩, ⟨(some 69), (.q (.idxPt 1 8 (.tmp 8) (.const (.int .i64 2)))), none⟩, ⟨(some 70), (.q (.load false 1 (.tmp 69))), none⟩, ⟨(some 71), (.q (.bin .and (.tmp 68) (.tmp 70))), none⟩, ⟨(some 72), (.q (.bin .xor (.tmp 67) (.tmp 71))), none⟩, ⟨(some 73), (.q (.idxPt 1 8 (.tmp 8) (.const (.int .i64 1)))), none⟩, ⟨(some 74), (.q (.load false 1 (.tmp 73))), none⟩, ⟨(some 75), (.q (.idxPt 1 8 (.tmp 8) (.const (.int .i64 2)))), none⟩, ⟨(some 76), (.q (.load false 1 (.tmp 75))), none⟩, ⟨(some 77), (.q (.bin .and (.tmp 74) (.tmp 76))), none⟩, ⟨(some 78), (.q (.bin .xor (.tmp 72) (.tmp 77))), none⟩, ⟨(some 79), (.q (.bin .add (.tmp 63) (.tmp 78))), none⟩, ⟨(some 13), (.q (.move (.tmp 79))), none⟩]) 
    (.region [⟨(some 80), (.q (.move (.tmp 12))), none⟩, ⟨(some 81), (.q (.move (.tmp 13))), none⟩, ⟨(some 82), (.q (.bin .add (.tmp 80) (.tmp 81))), none⟩, ⟨(some 83), (.q (.move (.tmp 10))), none⟩, ⟨(some 84), (.q (.idxPt 1 8 (.tmp 8) (.const (.int .i64 1)))), none⟩, ⟨(some 85), (.q (.load false 1 (.tmp 84))), none⟩, ⟨(some 86), (.q (.idxPt 1 8 (.tmp 8) (.const (.int .i64 2)))), none⟩, ⟨(some 87), (.q (.load false 1 (.tmp 86))), none⟩, ⟨(some 88), (.q (.idxPt 1 8 (.tmp 8) (.const (.int .i64 3)))), none⟩, ⟨(some 89), (.q (.load false 1 (.tmp 88))), none⟩, ⟨(some 90), (.q (.move (.tmp 12))), none⟩, ⟨(some 91), (.q (.bin .add (.tmp 89) (.tmp 90))), none⟩, ⟨(some 92), (.q (.move (.tmp 11))), none⟩, ⟨(some 93), (.q (.idxPt 1 8 (.tmp 8) (.const (.int .i64 5)))), none⟩, ⟨(some 94), (.q (.load false 1 (.tmp 93))), none⟩, ⟨(some 95), (.q (.idxPt 1 8 (.tmp 8) (.const (.int .i64 6)))), none⟩, ⟨(some 96), (.q (.load false 1 (.tmp 95))), none⟩, ⟨(some 97), (.q (.build [(.int .u32 0), (.int .u32 0), (.int .u32 0), (.int .u32 0), (.int .u32 0), (.int .u32 0), (.int .u32 0), (.int .u32 0)] [(0, (1, (.tmp 82))), (1, (1, (.tmp 83))), (2, (1, (.tmp 85))), (3, (1, (.tmp 87))), (4, (1, (.tmp 91))), (5, (1, (.tmp 92))), (6, (1, (.tmp 94))), (7, (1, (.tmp 96)))])), none⟩, ⟨none, (.s (.store 8 (.tmp 8) (.tmp 97))), none⟩]))))) 
    (.region [⟨(some 20), (.q (.move (.tmp 9))), none⟩, ⟨(some 21), (.q (.bin .add (.tmp 20) (.const (.int .i64 1)))), none⟩, ⟨(some 9), (.q (.move (.tmp 21))), none⟩])))))) 
    (.seq 
    (.seq 
    (.region [⟨(some 14), (.q (.move (.const (.int .i64 0)))), none⟩]) 
    (.block 2 
    (.loop 
    (.seq 
    (.seq 
    (.region [⟨(some 98), (.q (.move (.tmp 14))), none⟩, ⟨(some 99), (.q (.bin .lss (.tmp 98) (.const (.int .i64 8)))), none⟩]) 
    (.cond (.tmp 99) .skip (.exit 2))) 
    (.seq 
    (.block 3 
    (.region [⟨(some 102), (.q (.move (.tmp 14))), none⟩, ⟨(some 103), (.q (.move (.tmp 14))), none⟩, ⟨(some 104), (.q (.idxPt 1 8 (.tmp 3) (.tmp 103))), none⟩, ⟨(some 105), (.q (.load false 1 (.tmp 104))), none⟩, ⟨(some 106), (.q (.move (.tmp 14))), none⟩, ⟨(some 107), (.q (.idxPt 1 8 (.tmp 8) (.tmp 106))), none⟩, ⟨(some 108), (.q (.load false 1 (.tmp 107))), none⟩, ⟨(some 109), (.q (.bin .add (.tmp 105) (.tmp 108))), none⟩, ⟨(some 110), (.q (.idxPt 1 8 (.tmp 3) (.tmp 102))), none⟩, ⟨none, (.s (.store 1 (.tmp 110) (.tmp 109))), none⟩])) 
    (.region [⟨(some 100), (.q (.move (.tmp 14))), none⟩, ⟨(some 101), (.q (.bin .add (.tmp 100) (.const (.int .i64 1)))), none⟩, ⟨(some 14), (.q (.move (.tmp 101))), none⟩])))))) 
    (.seq 
    (.region [⟨(some 111), (.q (.load true 8 (.tmp 3))), none⟩, ⟨none, (.s (.store 8 (.tmp 6) (.tmp 111))), none⟩]) .ret))))))
theorem t155 : Told Try.prog 155 112 c155 [(.cell 6 true 8)] := ⟨Try.f155, _, [], Try.func155, rfl, by kernel_rfl, rfl, by kernel_rfl, by kernel_rfl⟩
def c154 : ACode := 
    (.seq 
    (.region [⟨(some 0), (.s (.alloc 183 (List.replicate 64 (.int .u32 0)))), none⟩]) 
    (.seq 
    (.region [⟨(some 1), (.q (.build (List.replicate 64 (.int .u32 0)) [(0, (1, (.const (.int .u32 1116352408)))), (1, (1, (.const (.int .u32 1899447441)))), (2, (1, (.const (.int .u32 3049323471)))), (3, (1, (.const (.int .u32 3921009573)))), (4, (1, (.const (.int .u32 961987163)))), (5, (1, (.const (.int .u32 1508970993)))), (6, (1, (.const (.int .u32 2453635748)))), (7, (1, (.const (.int .u32 2870763221)))), (8, (1, (.const (.int .u32 3624381080)))), (9, (1, (.const (.int .u32 310598401)))), (10, (1, (.const (.int .u32 607225278)))), (11, (1, (.const (.int .u32 1426881987)))), (12, (1, (.const (.int .u32 1925078388)))), (13, (1, (.const (.int .u32 2162078206)))), (14, (1, (.const (.int .u32 2614888103)))), (15, (1, (.const (.int .u32 3248222580)))), (16, (1, (.const (.int .u32 3835390401)))), (17, (1, (.const (.int .u32 4022224774)))), (18, (1, (.const (.int .u32 264347078)))), (19, (1, (.const (.int .u32 604807628)))), (20, (1, (.const (.int .u32 770255983)))), (21, (1, (.const (.int .u32 1249150122)))), (22, (1, (.const (.int .u32 1555081692)))), (23, (1, (.const (.int .u32 1996064986)))), (24, (1, (.const (.int .u32 2554220882)))), (25, (1, (.const (.int .u32 2821834349)))), (26, (1, (.const (.int .u32 2952996808)))), (27, (1, (.const (.int .u32 3210313671)))), (28, (1, (.const (.int .u32 3336571891)))), (29, (1, (.const (.int .u32 3584528711)))), (30, (1, (.const (.int .u32 113926993)))), (31, (1, (.const (.int .u32 338241895)))), (32, (1, (.const (.int .u32 666307205)))), (33, (1, (.const (.int .u32 773529912)))), (34, (1, (.const (.int .u32 1294757372)))), (35, (1, (.const (.int .u32 1396182291)))), (36, (1, (.const (.int .u32 1695183700)))), (37, (1, (.const (.int .u32 1986661051)))), (38, (1, (.const (.int .u32 2177026350)))), (39, (1, (.const (.int .u32 2456956037)))), (40, (1, (.const (.int .u32 2730485921)))), (41, (1, (.const (.int .u32 2820302411)))), (42, (1, (.const (.int .u32 3259730800)))), (43, (1, (.const (.int .u32 3345764771)))), (44, (1, (.const (.int .u32 3516065817)))), (45, (1, (.const (.int .u32 3600352804)))), (46, (1, (.const (.int .u32 4094571909)))), (47, (1, (.const (.int .u32 275423344)))), (48, (1, (.const (.int .u32 430227734)))), (49, (1, (.const (.int .u32 506948616)))), (50, (1, (.const (.int .u32 659060556)))), (51, (1, (.const (.int .u32 883997877)))), (52, (1, (.const (.int .u32 958139571)))), (53, (1, (.const (.int .u32 1322822218)))), (54, (1, (.const (.int .u32 1537002063)))), (55, (1, (.const (.int .u32 1747873779)))), (56, (1, (.const (.int .u32 1955562222)))), (57, (1, (.const (.int .u32 2024104815)))), (58, (1, (.const (.int .u32 2227730452)))), (59, (1, (.const (.int .u32 2361852424)))), (60, (1, (.const (.int .u32 2428436474)))), (61, (1, (.const (.int .u32 2756734187)))), (62, (1, (.const (.int .u32 3204031479)))), (63, (1, (.const (.int .u32 3329325298))))])), none⟩, ⟨none, (.s (.store 64 (.tmp 0) (.tmp 1))), none⟩]) .ret))
theorem t154 : Told Try.prog 154 2 c154 [(.cell 0 true 64)] := ⟨Try.f154, _, [], Try.func154, rfl, by kernel_rfl, rfl, by kernel_rfl, by kernel_rfl⟩
def c99 : ACode := 
    (.seq 
    (.region [⟨(some 2), (.q (.move (.const (.str (B []))))), none⟩]) 
    (.seq 
    (.region [⟨(some 12), (.q (.move (.tmp 0))), none⟩, ⟨(some 13), (.s (.s2b 5 (.tmp 12))), none⟩, ⟨(some 3), (.q (.move (.tmp 13))), none⟩]) 
    (.seq 
    (.region [⟨(some 14), (.q (.move (.tmp 3))), none⟩, ⟨(some 15), (.s (.lit 5 1 [(.const (.int .u8 128))])), none⟩, ⟨(some 16), (.s (.app 5 1 1 (.tmp 14) (.tmp 15))), none⟩, ⟨(some 3), (.q (.move (.tmp 16))), none⟩]) 
    (.seq 
    (.block 0 
    (.loop 
    (.seq 
    (.seq 
    (.region [⟨(some 17), (.q (.move (.tmp 3))), none⟩, ⟨(some 18), (.q (.len false (.tmp 17))), none⟩, ⟨(some 19), (.q (.bin .rem (.tmp 18) (.const (.int .i64 64)))), none⟩, ⟨(some 20), (.q (.bin .neq (.tmp 19) (.const (.int .i64 56)))), none⟩]) 
    (.cond (.tmp 20) .skip (.exit 0))) 
    (.block 1 
    (.region [⟨(some 21), (.q (.move (.tmp 3))), none⟩, ⟨(some 22), (.s (.lit 5 1 [(.const (.int .u8 0))])), none⟩, ⟨(some 23), (.s (.app 5 1 1 (.tmp 21) (.tmp 22))), none⟩, ⟨(some 3), (.q (.move (.tmp 23))), none⟩]))))) 
    (.seq 
    (.region [⟨(some 24), (.q (.move (.tmp 0))), none⟩, ⟨(some 25), (.q (.len true (.tmp 24))), none⟩, ⟨(some 26), (.q (.conv .u64 (.tmp 25))), none⟩, ⟨(some 27), (.q (.bin .mul (.tmp 26) (.const (.int .u64 8)))), none⟩, ⟨(some 4), (.q (.move (.tmp 27))), none⟩]) 
    (.seq 
    (.seq 
    (.region [⟨(some 5), (.q (.move (.const (.int .i64 0)))), none⟩]) 
    (.block 2 
    (.loop 
    (.seq 
    (.seq 
    (.region [⟨(some 28), (.q (.move (.tmp 5))), none⟩, ⟨(some 29), (.q (.bin .lss (.tmp 28) (.const (.int .i64 8)))), none⟩]) 
    (.cond (.tmp 29) .skip (.exit 2))) 
    (.seq 
    (.block 3 
    (.region [⟨(some 32), (.q (.move (.tmp 3))), none⟩, ⟨(some 33), (.q (.move (.tmp 4))), none⟩, ⟨(some 34), (.q (.move (.tmp 5))), none⟩, ⟨(some 35), (.q (.bin .mul (.const (.int .i64 8)) (.tmp 34))), none⟩, ⟨(some 36), (.q (.bin .sub (.const (.int .i64 56)) (.tmp 35))), none⟩, ⟨(some 37), (.q (.bin .shr (.tmp 33) (.tmp 36))), none⟩, ⟨(some 38), (.q (.conv .u8 (.tmp 37))), none⟩, ⟨(some 39), (.s (.lit 5 1 [(.tmp 38)])), none⟩, ⟨(some 40), (.s (.app 5 1 1 (.tmp 32) (.tmp 39))), none⟩, ⟨(some 3), (.q (.move (.tmp 40))), none⟩])) 
    (.region [⟨(some 30), (.q (.move (.tmp 5))), none⟩, ⟨(some 31), (.q (.bin .add (.tmp 30) (.const (.int .i64 1)))), none⟩, ⟨(some 5), (.q (.move (.tmp 31))), none⟩])))))) 
    (.seq 
    (.region [⟨(some 41), (.q (.move (.tmp 3))), none⟩, ⟨(some 42), (.q (.b2s (.tmp 41))), none⟩, ⟨(some 6), (.q (.move (.tmp 42))), none⟩]) 
    (.seq 
    (.region [⟨(some 43), (.s (.call 154 [])), none⟩, ⟨(some 7), (.s (.alloc 183 (List.replicate 64 (.int .u32 0)))), none⟩, ⟨none, (.s (.store 64 (.tmp 7) (.tmp 43))), none⟩]) 
    (.seq 
    (.region [⟨(some 44), (.q (.build [(.int .u32 0), (.int .u32 0), (.int .u32 0), (.int .u32 0), (.int .u32 0), (.int .u32 0), (.int .u32 0), (.int .u32 0)] [(0, (1, (.const (.int .u32 1779033703)))), (1, (1, (.const (.int .u32 3144134277)))), (2, (1, (.const (.int .u32 1013904242)))), (3, (1, (.const (.int .u32 2773480762)))), (4, (1, (.const (.int .u32 1359893119)))), (5, (1, (.const (.int .u32 2600822924)))), (6, (1, (.const (.int .u32 528734635)))), (7, (1, (.const (.int .u32 1541459225))))])), none⟩, ⟨(some 8), (.s (.alloc 175 [(.int .u32 0), (.int .u32 0), (.int .u32 0), (.int .u32 0), (.int .u32 0), (.int .u32 0), (.int .u32 0), (.int .u32 0)])), none⟩, ⟨none, (.s (.store 8 (.tmp 8) (.tmp 44))), none⟩]) 
    (.seq 
    (.seq 
    (.region [⟨(some 9), (.q (.move (.const (.int .i64 0)))), none⟩]) 
    (.block 4 
    (.loop 
    (.seq 
    (.seq 
    (.region [⟨(some 45), (.q (.move (.tmp 9))), none⟩, ⟨(some 46), (.q (.bin .add (.tmp 45) (.const (.int .i64 64)))), none⟩, ⟨(some 47), (.q (.move (.tmp 6))), none⟩, ⟨(some 48), (.q (.len true (.tmp 47))), none⟩, ⟨(some 49), (.q (.bin .leq (.tmp 46) (.tmp 48))), none⟩]) 
    (.cond (.tmp 49) .skip (.exit 4))) 
    (.seq 
    (.block 5 
    (.region [⟨(some 52), (.q (.load true 8 (.tmp 8))), none⟩, ⟨(some 53), (.q (.move (.tmp 6))), none⟩, ⟨(some 54), (.q (.move (.tmp 9))), none⟩, ⟨(some 55), (.q (.move (.tmp 9))), none⟩, ⟨(some 56), (.q (.bin .add (.tmp 55) (.const (.int .i64 64)))), none⟩, ⟨(some 57), (.q (.sliceStr (.tmp 53) (some (.tmp 54)) (some (.tmp 56)))), none⟩, ⟨(some 58), (.q (.load true 64 (.tmp 7))), none⟩, ⟨(some 59), (.s (.call 155 [(.tmp 52), (.tmp 57), (.tmp 58)])), none⟩, ⟨none, (.s (.store 8 (.tmp 8) (.tmp 59))), none⟩])) 
    (.region [⟨(some 50), (.q (.move (.tmp 9))), none⟩, ⟨(some 51), (.q (.bin .add (.tmp 50) (.const (.int .i64 64)))), none⟩, ⟨(some 9), (.q (.move (.tmp 51))), none⟩])))))) 
    (.seq 
    (.region [⟨(some 10), (.q (.move (.const .nils))), none⟩]) 
    (.seq 
    (.seq 
    (.region [⟨(some 11), (.q (.move (.const (.int .i64 0)))), none⟩]) 
    (.block 6 
    (.loop 
    (.seq 
    (.seq 
    (.region [⟨(some 60), (.q (.move (.tmp 11))), none⟩, ⟨(some 61), (.q (.bin .lss (.tmp 60) (.const (.int .i64 8)))), none⟩]) 
    (.cond (.tmp 61) .skip (.exit 6))) 
    (.seq 
    (.block 7 
    (.seq 
    (.region [⟨(some 64), (.q (.move (.tmp 10))), none⟩, ⟨(some 65), (.q (.move (.tmp 11))), none⟩, ⟨(some 66), (.q (.idxPt 1 8 (.tmp 8) (.tmp 65))), none⟩, ⟨(some 67), (.q (.load false 1 (.tmp 66))), none⟩, ⟨(some 68), (.q (.bin .shr (.tmp 67) (.const (.int .u64 24)))), none⟩, ⟨(some 69), (.q (.conv .u8 (.tmp 68))), none⟩, ⟨(some 70), (.s (.lit 5 1 [(.tmp 69)])), none⟩, ⟨(some 71), (.s (.app 5 1 1 (.tmp 64) (.tmp 70))), none⟩, ⟨(some 10), (.q (.move (.tmp 71))), none⟩]) 
    (.seq 
    (.region [⟨(some 72), (.q (.move (.tmp 10))), none⟩, ⟨(some 73), (.q (.move (.tmp 11))), none⟩, ⟨(some 74), (.q (.idxPt 1 8 (.tmp 8) (.tmp 73))), none⟩, ⟨(some 75), (.q (.load false 1 (.tmp 74))), none⟩, ⟨(some 76), (.q (.bin .shr (.tmp 75) (.const (.int .u64 16)))), none⟩, ⟨(some 77), (.q (.conv .u8 (.tmp 76))), none⟩, ⟨(some 78), (.s (.lit 5 1 [(.tmp 77)])), none⟩, ⟨(some 79), (.s (.app 5 1 1 (.tmp 72) (.tmp 78))), none⟩, ⟨(some 10), (.q (.move (.tmp 79))), none⟩]) 
    (.seq 
    (.region [⟨(some 80), (.q (.move (.tmp 10))), none⟩, ⟨(some 81), (.q (.move (.tmp 11))), none⟩, ⟨(some 82), (.q (.idxPt 1 8 (.tmp 8) (.tmp 81))), none⟩, ⟨(some 83), (.q (.load false 1 (.tmp 82))), none⟩, ⟨(some 84), (.q (.bin .shr (.tmp 83) (.const (.int .u64 8)))), none⟩, ⟨(some 85), (.q (.conv .u8 (.tmp 84))), none⟩, ⟨(some 86), (.s (.lit 5 1 [(.tmp 85)])), none⟩, ⟨(some 87), (.s (.app 5 1 1 (.tmp 80) (.tmp 86))), none⟩, ⟨(some 10), (.q (.move (.tmp 87))), none⟩]) 
    (.region [⟨(some 88), (.q (.move (.tmp 10))), none⟩, ⟨(some 89), (.q (.move (.tmp 11))), none⟩, ⟨(some 90), (.q (.idxPt 1 8 (.tmp 8) (.tmp 89))), none⟩, ⟨(some 91), (.q (.load false 1 (.tmp 90))), none⟩, ⟨(some 92), (.q (.conv .u8 (.tmp 91))), none⟩, ⟨(some 93), (.s (.lit 5 1 [(.tmp 92)])), none⟩, ⟨(some 94), (.s (.app 5 1 1 (.tmp 88) (.tmp 93))), none⟩, ⟨(some 10), (.q (.move (.tmp 94))), none⟩]))))) 
    (.region [⟨(some 62), (.q (.move (.tmp 11))), none⟩, ⟨(some 63), (.q (.bin .add (.tmp 62) (.const (.int .i64 1)))), none⟩, ⟨(some 11), (.q (.move (.tmp 63))), none⟩])))))) 
    (.seq 
    (.region [⟨(some 95), (.q (.move (.tmp 10))), none⟩, ⟨(some 96), (.q (.b2s (.tmp 95))), none⟩, ⟨(some 2), (.q (.move (.tmp 96))), none⟩]) .ret)))))))))))))
theorem t99 : Told Try.prog 99 97 c99 [(.tmp 2)] := ⟨Try.f99, _, [], Try.func99, rfl, by kernel_rfl, rfl, by kernel_rfl, by kernel_rfl⟩
end Go.Proofs.Ytblflecalomgfaa.AL
