/- Texts gathered into one. -/
import Derived.Test.YtfilheaaacffmaaQPartPlaysALA3
import Derived.Test.YtfilheaaacffmaaProg
import Derived.KernelRfl
import Derived.Test.YtfilheaaacffmaaQPartPlaysALNorB
/- Package guard, its law: the code told. -/
set_option linter.unusedSimpArgs false
set_option linter.unusedVariables false
set_option maxRecDepth 100000
namespace Go.Proofs.Ytfilheaaacffmaa.AL
open Go Go.Proofs
def c16 : ACode := 
    (.seq 
    (.region [⟨(some 4), (.q (.move (.const .nilp))), none⟩]) 
    (.seq 
    (.region [⟨(some 8), (.q (.move (.tmp 0))), none⟩, ⟨(some 9), (.q (.build [.nilp, (.bool false), (.bool false), (.bool false), (.bool false), (.bool false), (.bool false), (.bool false), (.bool false), (.bool false), (.bool false), (.bool false), (.bool false), (.bool false), (.bool false), (.bool false), (.bool false), (.bool false), (.bool false), (.bool false), (.bool false), (.bool false), (.bool false), (.bool false), (.bool false), (.bool false), (.bool false), (.bool false), (.bool false), (.bool false), (.bool false), (.bool false), (.bool false), (.bool false), (.bool false), (.bool false), (.bool false), (.bool false), (.bool false), (.bool false), (.bool false), (.bool false), (.bool false), (.bool false), (.bool false), (.bool false), (.bool false), (.bool false), (.bool false)] [(0, (1, (.tmp 8)))])), none⟩, ⟨(some 10), (.s (.box 37 (.tmp 9))), none⟩, ⟨(some 5), (.q (.move (.tmp 10))), none⟩]) 
    (.seq 
    (.seq 
    (.region [⟨(some 11), (.q (.move (.tmp 1))), none⟩, ⟨(some 12), (.q (.len false (.tmp 11))), none⟩, ⟨(some 13), (.q (.move (.const (.int .i64 0)))), none⟩]) 
    (.block 0 
    (.loop 
    (.seq 
    (.region [⟨(some 14), (.q (.bin .lss (.tmp 13) (.tmp 12))), none⟩]) 
    (.seq 
    (.cond (.tmp 14) .skip (.exit 0)) 
    (.seq 
    (.block 1 
    (.seq 
    (.region [⟨(some 15), (.q (.idxSl 1 (.tmp 11) (.tmp 13))), none⟩, ⟨(some 16), (.q (.load false 1 (.tmp 15))), none⟩, ⟨(some 7), (.q (.move (.tmp 16))), none⟩]) 
    (.seq 
    (.region [⟨(some 17), (.q (.move (.tmp 7))), none⟩, ⟨(some 18), (.q (.bin .geq (.tmp 17) (.const (.int .i64 0)))), none⟩, ⟨(some 19), (.q (.move (.tmp 18))), none⟩, ⟨(some 20), (.q (.move (.tmp 7))), (some (19, true))⟩, ⟨(some 21), (.q (.bin .lss (.tmp 20) (.const (.int .i64 48)))), (some (19, true))⟩, ⟨(some 22), (.q (.pick (.tmp 19) (.tmp 21) (.const (.bool false)))), none⟩]) 
    (.cond (.tmp 22) 
    (.region [⟨(some 23), (.q (.move (.tmp 5))), none⟩, ⟨(some 24), (.q (.move (.tmp 7))), none⟩, ⟨(some 25), (.q (.nonil (.tmp 23))), none⟩, ⟨(some 26), (.q (.fieldAddr 1 (.tmp 25))), none⟩, ⟨(some 27), (.q (.idxPt 1 48 (.tmp 26) (.tmp 24))), none⟩, ⟨none, (.s (.store 1 (.tmp 27) (.const (.bool true)))), none⟩]) .skip)))) 
    (.region [⟨(some 28), (.q (.bin .add (.tmp 13) (.const (.int .i64 1)))), none⟩, ⟨(some 13), (.q (.move (.tmp 28))), none⟩]))))))) 
    (.seq 
    (.region [⟨(some 29), (.q (.move (.tmp 5))), none⟩, ⟨(some 4), (.q (.move (.tmp 29))), none⟩]) .ret))))
theorem t16 : Told Try.prog 16 30 c16 [(.tmp 4)] := ⟨Try.f16, _, [], Try.func16, rfl, by kernel_rfl, rfl, by kernel_rfl, by kernel_rfl⟩
def c78 : ACode := 
    (.seq 
    (.region [⟨(some 4), (.q (.move (.const (.bool false)))), none⟩]) 
    (.seq 
    (.region [⟨(some 5), (.q (.move (.tmp 0))), none⟩, ⟨(some 6), (.q (.nil .ptr true (.tmp 5) (.const .nilp))), none⟩, ⟨(some 7), (.q (.move (.tmp 6))), none⟩, ⟨(some 8), (.q (.move (.tmp 1))), (some (7, true))⟩, ⟨(some 9), (.q (.bin .geq (.tmp 8) (.const (.int .i64 0)))), (some (7, true))⟩, ⟨(some 10), (.q (.pick (.tmp 7) (.tmp 9) (.const (.bool false)))), none⟩, ⟨(some 11), (.q (.move (.tmp 10))), none⟩, ⟨(some 12), (.q (.move (.tmp 1))), (some (11, true))⟩, ⟨(some 13), (.q (.bin .lss (.tmp 12) (.const (.int .i64 48)))), (some (11, true))⟩, ⟨(some 14), (.q (.pick (.tmp 11) (.tmp 13) (.const (.bool false)))), none⟩, ⟨(some 15), (.q (.move (.tmp 14))), none⟩, ⟨(some 16), (.q (.move (.tmp 0))), (some (15, true))⟩, ⟨(some 17), (.q (.move (.tmp 1))), (some (15, true))⟩, ⟨(some 18), (.q (.nonil (.tmp 16))), (some (15, true))⟩, ⟨(some 19), (.q (.fieldAddr 1 (.tmp 18))), (some (15, true))⟩, ⟨(some 20), (.q (.idxPt 1 48 (.tmp 19) (.tmp 17))), (some (15, true))⟩, ⟨(some 21), (.q (.load false 1 (.tmp 20))), (some (15, true))⟩, ⟨(some 22), (.q (.pick (.tmp 15) (.tmp 21) (.const (.bool false)))), none⟩, ⟨(some 4), (.q (.move (.tmp 22))), none⟩]) .ret))
theorem t78 : Told Try.prog 78 23 c78 [(.tmp 4)] := ⟨Try.f78, _, [], Try.func78, rfl, by kernel_rfl, rfl, by kernel_rfl, by kernel_rfl⟩
def c75 : ACode := 
    (.seq 
    (.region [⟨(some 2), (.q (.move (.const .nilp))), none⟩]) 
    (.seq 
    (.seq 
    (.region [⟨(some 3), (.q (.move (.tmp 0))), none⟩, ⟨(some 4), (.q (.nil .ptr false (.tmp 3) (.const .nilp))), none⟩]) 
    (.cond (.tmp 4) 
    (.seq 
    (.region [⟨(some 2), (.q (.move (.const .nilp))), none⟩]) .ret) .skip)) 
    (.seq 
    (.region [⟨(some 5), (.q (.move (.tmp 0))), none⟩, ⟨(some 6), (.q (.nonil (.tmp 5))), none⟩, ⟨(some 7), (.q (.fieldAddr 0 (.tmp 6))), none⟩, ⟨(some 8), (.q (.load false 1 (.tmp 7))), none⟩, ⟨(some 2), (.q (.move (.tmp 8))), none⟩]) .ret)))
theorem t75 : Told Try.prog 75 9 c75 [(.tmp 2)] := ⟨Try.f75, _, [], Try.func75, rfl, by kernel_rfl, rfl, by kernel_rfl, by kernel_rfl⟩
def c125 : ACode := 
    (.seq 
    (.region [⟨(some 6), (.q (.move (.const (.bool false)))), none⟩]) 
    (.seq 
    (.seq 
    (.region [⟨(some 9), (.q (.move (.tmp 1))), none⟩, ⟨(some 10), (.q (.bin .lss (.tmp 9) (.const (.int .i64 0)))), none⟩, ⟨(some 11), (.q (.move (.tmp 10))), none⟩, ⟨(some 12), (.q (.move (.tmp 1))), (some (11, false))⟩, ⟨(some 13), (.q (.bin .geq (.tmp 12) (.const (.int .i64 24576)))), (some (11, false))⟩, ⟨(some 14), (.q (.pick (.tmp 11) (.const (.bool true)) (.tmp 13))), none⟩, ⟨(some 15), (.q (.move (.tmp 14))), none⟩, ⟨(some 16), (.q (.move (.tmp 2))), (some (15, false))⟩, ⟨(some 17), (.q (.bin .eql (.tmp 16) (.const (.int .i64 0)))), (some (15, false))⟩, ⟨(some 18), (.q (.pick (.tmp 15) (.const (.bool true)) (.tmp 17))), none⟩]) 
    (.cond (.tmp 18) 
    (.seq 
    (.region [⟨(some 6), (.q (.move (.const (.bool false)))), none⟩]) .ret) .skip)) 
    (.seq 
    (.region [⟨(some 19), (.q (.move (.tmp 1))), none⟩, ⟨(some 20), (.q (.move (.tmp 2))), none⟩, ⟨(some 21), (.q (.move (.tmp 1))), none⟩, ⟨(some 22), (.q (.bin .sub (.const (.int .i64 24576)) (.tmp 21))), none⟩, ⟨(some 23), (.q (.best false (.tmp 20) (.tmp 22))), none⟩, ⟨(some 24), (.q (.bin .add (.tmp 19) (.tmp 23))), none⟩, ⟨(some 25), (.q (.bin .sub (.tmp 24) (.const (.int .i64 1)))), none⟩, ⟨(some 7), (.q (.move (.tmp 25))), none⟩]) 
    (.seq 
    (.seq 
    (.region [⟨(some 26), (.q (.move (.tmp 1))), none⟩, ⟨(some 27), (.q (.bin .quo (.tmp 26) (.const (.int .i64 512)))), none⟩, ⟨(some 8), (.q (.move (.tmp 27))), none⟩]) 
    (.block 0 
    (.loop 
    (.seq 
    (.seq 
    (.region [⟨(some 28), (.q (.move (.tmp 8))), none⟩, ⟨(some 29), (.q (.move (.tmp 7))), none⟩, ⟨(some 30), (.q (.bin .quo (.tmp 29) (.const (.int .i64 512)))), none⟩, ⟨(some 31), (.q (.bin .leq (.tmp 28) (.tmp 30))), none⟩]) 
    (.cond (.tmp 31) .skip (.exit 0))) 
    (.seq 
    (.block 1 
    (.seq 
    (.region [⟨(some 34), (.q (.move (.tmp 0))), none⟩, ⟨(some 35), (.q (.move (.tmp 8))), none⟩, ⟨(some 36), (.s (.call 78 [(.tmp 34), (.tmp 35)])), none⟩]) 
    (.cond (.tmp 36) 
    (.seq 
    (.region [⟨(some 6), (.q (.move (.const (.bool true)))), none⟩]) .ret) .skip))) 
    (.region [⟨(some 32), (.q (.move (.tmp 8))), none⟩, ⟨(some 33), (.q (.bin .add (.tmp 32) (.const (.int .i64 1)))), none⟩, ⟨(some 8), (.q (.move (.tmp 33))), none⟩])))))) 
    (.seq 
    (.region [⟨(some 6), (.q (.move (.const (.bool false)))), none⟩]) .ret)))))
theorem t125 : Told Try.prog 125 37 c125 [(.tmp 6)] := ⟨Try.f125, _, [], Try.func125, rfl, by kernel_rfl, rfl, by kernel_rfl, by kernel_rfl⟩
def c62 : ACode := 
    (.seq 
    (.region [⟨(some 4), (.q (.move (.const (.int .i64 0)))), none⟩]) 
    (.seq 
    (.seq 
    (.region [⟨(some 5), (.q (.move (.tmp 0))), none⟩, ⟨(some 6), (.q (.move (.tmp 1))), none⟩, ⟨(some 7), (.s (.call 78 [(.tmp 5), (.tmp 6)])), none⟩]) 
    (.cond (.tmp 7) 
    (.seq 
    (.region [⟨(some 4), (.q (.move (.const (.int .i64 3)))), none⟩]) .ret) .skip)) 
    (.seq 
    (.region [⟨(some 8), (.q (.move (.tmp 0))), none⟩, ⟨(some 9), (.s (.call 75 [(.tmp 8)])), none⟩, ⟨(some 10), (.q (.move (.tmp 1))), none⟩, ⟨(some 11), (.s (.call 124 [(.tmp 9), (.tmp 10)])), none⟩, ⟨(some 4), (.q (.move (.tmp 11))), none⟩]) .ret)))
theorem t62 : Told Try.prog 62 12 c62 [(.tmp 4)] := ⟨Try.f62, _, [], Try.func62, rfl, by kernel_rfl, rfl, by kernel_rfl, by kernel_rfl⟩
def c63 : ACode := 
    (.seq 
    (.region [⟨(some 6), (.q (.move (.const (.int .i64 0)))), none⟩]) 
    (.seq 
    (.seq 
    (.region [⟨(some 7), (.q (.move (.tmp 0))), none⟩, ⟨(some 8), (.q (.move (.tmp 1))), none⟩, ⟨(some 9), (.q (.move (.tmp 2))), none⟩, ⟨(some 10), (.q (.len true (.tmp 9))), none⟩, ⟨(some 11), (.s (.call 125 [(.tmp 7), (.tmp 8), (.tmp 10)])), none⟩]) 
    (.cond (.tmp 11) 
    (.seq 
    (.region [⟨(some 6), (.q (.move (.const (.int .i64 3)))), none⟩]) .ret) .skip)) 
    (.seq 
    (.region [⟨(some 12), (.q (.move (.tmp 0))), none⟩, ⟨(some 13), (.s (.call 75 [(.tmp 12)])), none⟩, ⟨(some 14), (.q (.move (.tmp 1))), none⟩, ⟨(some 15), (.q (.move (.tmp 2))), none⟩, ⟨(some 16), (.s (.call 126 [(.tmp 13), (.tmp 14), (.tmp 15)])), none⟩, ⟨(some 6), (.q (.move (.tmp 16))), none⟩]) .ret)))
theorem t63 : Told Try.prog 63 17 c63 [(.tmp 6)] := ⟨Try.f63, _, [], Try.func63, rfl, by kernel_rfl, rfl, by kernel_rfl, by kernel_rfl⟩
def c65 : ACode := 
    (.seq 
    (.region [⟨(some 6), (.q (.move (.const (.str (B []))))), none⟩, ⟨(some 7), (.q (.move (.const (.int .i64 0)))), none⟩]) 
    (.seq 
    (.region [⟨(some 8), (.q (.move (.tmp 0))), none⟩, ⟨(some 9), (.s (.call 75 [(.tmp 8)])), none⟩, ⟨(some 10), (.q (.move (.tmp 1))), none⟩, ⟨(some 11), (.q (.move (.tmp 2))), none⟩, ⟨(some 12), (.s (.call 128 [(.tmp 9), (.tmp 10), (.tmp 11)])), none⟩, ⟨(some 13), (.q (.extract 0 (.tmp 12))), none⟩, ⟨(some 14), (.q (.extract 1 (.tmp 12))), none⟩, ⟨(some 6), (.q (.move (.tmp 13))), none⟩, ⟨(some 7), (.q (.move (.tmp 14))), none⟩]) .ret))
theorem t65 : Told Try.prog 65 15 c65 [(.tmp 6), (.tmp 7)] := ⟨Try.f65, _, [], Try.func65, rfl, by kernel_rfl, rfl, by kernel_rfl, by kernel_rfl⟩
def c3 : ACode := 
    (.seq 
    (.region [⟨(some 6), (.q (.move (.const (.bool false)))), none⟩]) 
    (.seq 
    (.seq 
    (.region [⟨(some 19), (.q (.move (.tmp 0))), none⟩, ⟨(some 20), (.q (.len true (.tmp 19))), none⟩, ⟨(some 21), (.q (.bin .gtr (.tmp 20) (.const (.int .i64 300)))), none⟩, ⟨(some 22), (.q (.move (.tmp 21))), none⟩, ⟨(some 23), (.q (.move (.tmp 1))), (some (22, false))⟩, ⟨(some 24), (.q (.len false (.tmp 23))), (some (22, false))⟩, ⟨(some 25), (.q (.bin .gtr (.tmp 24) (.const (.int .i64 12)))), (some (22, false))⟩, ⟨(some 26), (.q (.pick (.tmp 22) (.const (.bool true)) (.tmp 25))), none⟩, ⟨(some 27), (.q (.move (.tmp 26))), none⟩, ⟨(some 28), (.q (.move (.tmp 2))), (some (27, false))⟩, ⟨(some 29), (.s (.call 13 [(.tmp 28), (.const (.int .i64 12))])), (some (27, false))⟩, ⟨(some 30), (.q (.un .not (.tmp 29))), (some (27, false))⟩, ⟨(some 31), (.q (.pick (.tmp 27) (.const (.bool true)) (.tmp 30))), none⟩]) 
    (.cond (.tmp 31) 
    (.seq 
    (.region [⟨(some 32), (.s (.call 14 [])), none⟩, ⟨(some 6), (.q (.move (.tmp 32))), none⟩]) .ret) .skip)) 
    (.seq 
    (.region [⟨(some 33), (.q (.move (.tmp 0))), none⟩, ⟨(some 34), (.s (.call 15 [(.tmp 33)])), none⟩, ⟨(some 7), (.q (.move (.tmp 34))), none⟩]) 
    (.seq 
    (.region [⟨(some 35), (.q (.move (.tmp 7))), none⟩, ⟨(some 36), (.q (.move (.tmp 1))), none⟩, ⟨(some 37), (.s (.call 16 [(.tmp 35), (.tmp 36)])), none⟩, ⟨(some 8), (.q (.move (.tmp 37))), none⟩]) 
    (.seq 
    (.region [⟨(some 38), (.q (.move (.tmp 0))), none⟩, ⟨(some 39), (.s (.call 17 [(.tmp 38)])), none⟩, ⟨(some 40), (.q (.move (.tmp 1))), none⟩, ⟨(some 41), (.q (.build [.nilp, .nils] [(0, (1, (.tmp 39))), (1, (1, (.tmp 40)))])), none⟩, ⟨(some 42), (.s (.box 34 (.tmp 41))), none⟩, ⟨(some 9), (.q (.move (.tmp 42))), none⟩]) 
    (.seq 
    (.region [⟨(some 43), (.q (.build [.nilp, (.bool false), (.bool false), (.bool false), (.bool false), (.bool false), (.bool false), (.bool false), (.bool false), (.bool false), (.bool false), (.bool false), (.bool false), (.bool false), (.bool false), (.bool false), (.bool false), (.bool false), (.bool false), (.bool false), (.bool false), (.bool false), (.bool false), (.bool false), (.bool false), (.bool false), (.bool false), (.bool false), (.bool false), (.bool false), (.bool false), (.bool false), (.bool false), (.bool false), (.bool false), (.bool false), (.bool false), (.bool false), (.bool false), (.bool false), (.bool false), (.bool false), (.bool false), (.bool false), (.bool false), (.bool false), (.bool false), (.bool false), (.bool false)] [])), none⟩, ⟨(some 44), (.s (.box 37 (.tmp 43))), none⟩, ⟨(some 45), (.s (.lit 28 1 [(.const .nilp), (.tmp 44)])), none⟩, ⟨(some 10), (.q (.move (.tmp 45))), none⟩]) 
    (.seq 
    (.seq 
    (.region [⟨(some 11), (.q (.move (.const (.int .i64 0)))), none⟩]) 
    (.block 0 
    (.loop 
    (.seq 
    (.seq 
    (.region [⟨(some 46), (.q (.move (.tmp 11))), none⟩, ⟨(some 47), (.q (.move (.tmp 2))), none⟩, ⟨(some 48), (.q (.len false (.tmp 47))), none⟩, ⟨(some 49), (.q (.bin .lss (.tmp 46) (.tmp 48))), none⟩]) 
    (.cond (.tmp 49) .skip (.exit 0))) 
    (.seq 
    (.block 1 
    (.seq 
    (.region [⟨(some 53), (.q (.move (.tmp 8))), none⟩, ⟨(some 54), (.q (.move (.tmp 7))), none⟩, ⟨(some 55), (.q (.move (.tmp 2))), none⟩, ⟨(some 56), (.q (.move (.tmp 11))), none⟩, ⟨(some 57), (.q (.idxSl 4 (.tmp 55) (.tmp 56))), none⟩, ⟨(some 58), (.q (.load true 4 (.tmp 57))), none⟩, ⟨(some 59), (.s (.call 18 [(.tmp 53), (.tmp 54), (.tmp 58)])), none⟩, ⟨(some 52), (.q (.move (.tmp 59))), none⟩, ⟨(some 60), (.q (.extract 0 (.tmp 52))), none⟩, ⟨(some 61), (.q (.extract 1 (.tmp 52))), none⟩, ⟨(some 12), (.q (.move (.tmp 60))), none⟩, ⟨(some 13), (.q (.move (.tmp 61))), none⟩]) 
    (.seq 
    (.region [⟨(some 63), (.q (.move (.tmp 9))), none⟩, ⟨(some 64), (.q (.move (.tmp 2))), none⟩, ⟨(some 65), (.q (.move (.tmp 11))), none⟩, ⟨(some 66), (.q (.idxSl 4 (.tmp 64) (.tmp 65))), none⟩, ⟨(some 67), (.q (.load true 4 (.tmp 66))), none⟩, ⟨(some 68), (.s (.call 19 [(.tmp 63), (.tmp 67)])), none⟩, ⟨(some 62), (.q (.move (.tmp 68))), none⟩, ⟨(some 69), (.q (.extract 0 (.tmp 62))), none⟩, ⟨(some 70), (.q (.extract 1 (.tmp 62))), none⟩, ⟨(some 14), (.q (.move (.tmp 69))), none⟩, ⟨(some 15), (.q (.move (.tmp 70))), none⟩]) 
    (.seq 
    (.seq 
    (.region [⟨(some 71), (.q (.move (.tmp 12))), none⟩, ⟨(some 72), (.q (.move (.tmp 14))), none⟩, ⟨(some 73), (.q (.bin .neq (.tmp 71) (.tmp 72))), none⟩, ⟨(some 74), (.q (.move (.tmp 73))), none⟩, ⟨(some 75), (.q (.move (.tmp 13))), (some (74, false))⟩, ⟨(some 76), (.q (.move (.tmp 15))), (some (74, false))⟩, ⟨(some 77), (.q (.bin .neq (.tmp 75) (.tmp 76))), (some (74, false))⟩, ⟨(some 78), (.q (.pick (.tmp 74) (.const (.bool true)) (.tmp 77))), none⟩, ⟨(some 79), (.q (.move (.tmp 78))), none⟩, ⟨(some 80), (.q (.move (.tmp 7))), (some (79, false))⟩, ⟨(some 81), (.c (.fn 20) [(.tmp 80)]), (some (79, false))⟩, ⟨(some 82), (.q (.move (.tmp 9))), (some (79, false))⟩, ⟨(some 83), (.q (.nonil (.tmp 82))), (some (79, false))⟩, ⟨(some 84), (.q (.fieldAddr 0 (.tmp 83))), (some (79, false))⟩, ⟨(some 85), (.q (.load false 1 (.tmp 84))), (some (79, false))⟩, ⟨(some 86), (.q (.nonil (.tmp 85))), (some (79, false))⟩, ⟨(some 87), (.q (.fieldAddr 0 (.tmp 86))), (some (79, false))⟩, ⟨(some 88), (.q (.load false 1 (.tmp 87))), (some (79, false))⟩, ⟨(some 89), (.q (.bin .neq (.tmp 81) (.tmp 88))), (some (79, false))⟩, ⟨(some 90), (.q (.pick (.tmp 79) (.const (.bool true)) (.tmp 89))), none⟩, ⟨(some 91), (.q (.move (.tmp 90))), none⟩, ⟨(some 92), (.q (.move (.tmp 8))), (some (91, false))⟩, ⟨(some 93), (.c (.fn 21) [(.tmp 92)]), (some (91, false))⟩, ⟨(some 94), (.q (.move (.tmp 9))), (some (91, false))⟩, ⟨(some 95), (.q (.nonil (.tmp 94))), (some (91, false))⟩, ⟨(some 96), (.q (.fieldAddr 0 (.tmp 95))), (some (91, false))⟩, ⟨(some 97), (.q (.load false 1 (.tmp 96))), (some (91, false))⟩, ⟨(some 98), (.q (.nonil (.tmp 97))), (some (91, false))⟩, ⟨(some 99), (.q (.fieldAddr 1 (.tmp 98))), (some (91, false))⟩, ⟨(some 100), (.q (.load false 1 (.tmp 99))), (some (91, false))⟩, ⟨(some 101), (.q (.beq true (.tmp 93) (.tmp 100))), (some (91, false))⟩, ⟨(some 102), (.q (.pick (.tmp 91) (.const (.bool true)) (.tmp 101))), none⟩, ⟨(some 103), (.q (.move (.tmp 102))), none⟩, ⟨(some 104), (.q (.move (.tmp 8))), (some (103, false))⟩, ⟨(some 105), (.c (.fn 22) [(.tmp 104)]), (some (103, false))⟩, ⟨(some 106), (.q (.move (.tmp 9))), (some (103, false))⟩, ⟨(some 107), (.q (.nonil (.tmp 106))), (some (103, false))⟩, ⟨(some 108), (.q (.fieldAddr 0 (.tmp 107))), (some (103, false))⟩, ⟨(some 109), (.q (.load false 1 (.tmp 108))), (some (103, false))⟩, ⟨(some 110), (.q (.nonil (.tmp 109))), (some (103, false))⟩, ⟨(some 111), (.q (.fieldAddr 4 (.tmp 110))), (some (103, false))⟩, ⟨(some 112), (.q (.load false 1 (.tmp 111))), (some (103, false))⟩, ⟨(some 113), (.q (.bin .neq (.tmp 105) (.tmp 112))), (some (103, false))⟩, ⟨(some 114), (.q (.pick (.tmp 103) (.const (.bool true)) (.tmp 113))), none⟩, ⟨(some 115), (.q (.move (.tmp 114))), none⟩, ⟨(some 116), (.q (.move (.tmp 8))), (some (115, false))⟩, ⟨(some 117), (.q (.move (.tmp 2))), (some (115, false))⟩, ⟨(some 118), (.q (.move (.tmp 11))), (some (115, false))⟩, ⟨(some 119), (.q (.idxSl 4 (.tmp 117) (.tmp 118))), (some (115, false))⟩, ⟨(some 120), (.q (.fieldAddr 1 (.tmp 119))), (some (115, false))⟩, ⟨(some 121), (.q (.load false 1 (.tmp 120))), (some (115, false))⟩, ⟨(some 122), (.s (.lit 3 1 [(.tmp 121)])), (some (115, false))⟩, ⟨(some 123), (.c (.fn 23) [(.tmp 116), (.tmp 122)]), (some (115, false))⟩, ⟨(some 124), (.q (.move (.tmp 9))), (some (115, false))⟩, ⟨(some 125), (.q (.move (.tmp 2))), (some (115, false))⟩, ⟨(some 126), (.q (.move (.tmp 11))), (some (115, false))⟩, ⟨(some 127), (.q (.idxSl 4 (.tmp 125) (.tmp 126))), (some (115, false))⟩, ⟨(some 128), (.q (.fieldAddr 1 (.tmp 127))), (some (115, false))⟩, ⟨(some 129), (.q (.load false 1 (.tmp 128))), (some (115, false))⟩, ⟨(some 130), (.s (.lit 3 1 [(.tmp 129)])), (some (115, false))⟩, ⟨(some 131), (.s (.call 24 [(.tmp 124), (.tmp 130)])), (some (115, false))⟩, ⟨(some 132), (.q (.beq true (.tmp 123) (.tmp 131))), (some (115, false))⟩, ⟨(some 133), (.q (.pick (.tmp 115) (.const (.bool true)) (.tmp 132))), none⟩]) 
    (.cond (.tmp 133) 
    (.seq 
    (.region [⟨(some 6), (.q (.move (.const (.bool false)))), none⟩]) .ret) .skip)) 
    (.seq 
    (.region [⟨(some 16), (.q (.move (.const (.int .i64 0)))), none⟩]) 
    (.block 2 
    (.loop 
    (.seq 
    (.seq 
    (.region [⟨(some 134), (.q (.move (.tmp 16))), none⟩, ⟨(some 135), (.q (.move (.tmp 10))), none⟩, ⟨(some 136), (.q (.len false (.tmp 135))), none⟩, ⟨(some 137), (.q (.bin .lss (.tmp 134) (.tmp 136))), none⟩]) 
    (.cond (.tmp 137) .skip (.exit 2))) 
    (.seq 
    (.block 3 
    (.seq 
    (.region [⟨(some 141), (.q (.move (.tmp 10))), none⟩, ⟨(some 142), (.q (.move (.tmp 16))), none⟩, ⟨(some 143), (.q (.idxSl 1 (.tmp 141) (.tmp 142))), none⟩, ⟨(some 144), (.q (.load false 1 (.tmp 143))), none⟩, ⟨(some 145), (.q (.move (.tmp 2))), none⟩, ⟨(some 146), (.q (.move (.tmp 11))), none⟩, ⟨(some 147), (.q (.idxSl 4 (.tmp 145) (.tmp 146))), none⟩, ⟨(some 148), (.q (.load true 4 (.tmp 147))), none⟩, ⟨(some 149), (.s (.call 18 [(.tmp 144), (.const .nilp), (.tmp 148)])), none⟩, ⟨(some 140), (.q (.move (.tmp 149))), none⟩, ⟨(some 150), (.q (.extract 0 (.tmp 140))), none⟩, ⟨(some 151), (.q (.extract 1 (.tmp 140))), none⟩, ⟨(some 17), (.q (.move (.tmp 150))), none⟩, ⟨(some 18), (.q (.move (.tmp 151))), none⟩]) 
    (.seq 
    (.region [⟨(some 152), (.q (.move (.tmp 17))), none⟩, ⟨(some 153), (.q (.bin .neq (.tmp 152) (.const (.str (B []))))), none⟩, ⟨(some 154), (.q (.move (.tmp 153))), none⟩, ⟨(some 155), (.q (.move (.tmp 18))), (some (154, false))⟩, ⟨(some 156), (.q (.bin .eql (.tmp 155) (.const (.int .i64 0)))), (some (154, false))⟩, ⟨(some 157), (.q (.move (.tmp 156))), (some (154, false))⟩, ⟨(some 158), (.q (.move (.tmp 2))), (some (157, true))⟩, ⟨(some 159), (.q (.move (.tmp 11))), (some (157, true))⟩, ⟨(some 160), (.q (.idxSl 4 (.tmp 158) (.tmp 159))), (some (157, true))⟩, ⟨(some 161), (.q (.fieldAddr 0 (.tmp 160))), (some (157, true))⟩, ⟨(some 162), (.q (.load false 1 (.tmp 161))), (some (157, true))⟩, ⟨(some 163), (.q (.bin .lss (.tmp 162) (.const (.int .i64 4)))), (some (157, true))⟩, ⟨(some 164), (.q (.move (.tmp 163))), (some (157, true))⟩, ⟨(some 165), (.q (.move (.tmp 2))), (some (164, true))⟩, ⟨(some 166), (.q (.move (.tmp 11))), (some (164, true))⟩, ⟨(some 167), (.q (.idxSl 4 (.tmp 165) (.tmp 166))), (some (164, true))⟩, ⟨(some 168), (.q (.fieldAddr 0 (.tmp 167))), (some (164, true))⟩, ⟨(some 169), (.q (.load false 1 (.tmp 168))), (some (164, true))⟩, ⟨(some 170), (.q (.bin .gtr (.tmp 169) (.const (.int .i64 0)))), (some (164, true))⟩, ⟨(some 171), (.q (.pick (.tmp 164) (.tmp 170) (.const (.bool false)))), (some (157, true))⟩, ⟨(some 172), (.q (.move (.tmp 171))), (some (157, true))⟩, ⟨(some 173), (.q (.move (.tmp 2))), (some (172, false))⟩, ⟨(some 174), (.q (.move (.tmp 11))), (some (172, false))⟩, ⟨(some 175), (.q (.idxSl 4 (.tmp 173) (.tmp 174))), (some (172, false))⟩, ⟨(some 176), (.q (.fieldAddr 0 (.tmp 175))), (some (172, false))⟩, ⟨(some 177), (.q (.load false 1 (.tmp 176))), (some (172, false))⟩, ⟨(some 178), (.q (.bin .eql (.tmp 177) (.const (.int .i64 6)))), (some (172, false))⟩, ⟨(some 179), (.q (.pick (.tmp 172) (.const (.bool true)) (.tmp 178))), (some (157, true))⟩, ⟨(some 180), (.q (.pick (.tmp 157) (.tmp 179) (.const (.bool false)))), (some (154, false))⟩, ⟨(some 181), (.q (.pick (.tmp 154) (.const (.bool true)) (.tmp 180))), none⟩, ⟨(some 182), (.q (.move (.tmp 181))), none⟩, ⟨(some 183), (.q (.move (.tmp 10))), (some (182, false))⟩, ⟨(some 184), (.q (.move (.tmp 16))), (some (182, false))⟩, ⟨(some 185), (.q (.idxSl 1 (.tmp 183) (.tmp 184))), (some (182, false))⟩, ⟨(some 186), (.q (.load false 1 (.tmp 185))), (some (182, false))⟩, ⟨(some 187), (.s (.call 21 [(.tmp 186)])), (some (182, false))⟩, ⟨(some 188), (.q (.pick (.tmp 182) (.const (.bool true)) (.tmp 187))), none⟩, ⟨(some 189), (.q (.move (.tmp 188))), none⟩, ⟨(some 190), (.q (.move (.tmp 10))), (some (189, false))⟩, ⟨(some 191), (.q (.move (.tmp 16))), (some (189, false))⟩, ⟨(some 192), (.q (.idxSl 1 (.tmp 190) (.tmp 191))), (some (189, false))⟩, ⟨(some 193), (.q (.load false 1 (.tmp 192))), (some (189, false))⟩, ⟨(some 194), (.s (.call 22 [(.tmp 193)])), (some (189, false))⟩, ⟨(some 195), (.q (.bin .neq (.tmp 194) (.const (.int .i64 0)))), (some (189, false))⟩, ⟨(some 196), (.q (.pick (.tmp 189) (.const (.bool true)) (.tmp 195))), none⟩, ⟨(some 197), (.q (.move (.tmp 196))), none⟩, ⟨(some 198), (.q (.move (.tmp 10))), (some (197, false))⟩, ⟨(some 199), (.q (.move (.tmp 16))), (some (197, false))⟩, ⟨(some 200), (.q (.idxSl 1 (.tmp 198) (.tmp 199))), (some (197, false))⟩, ⟨(some 201), (.q (.load false 1 (.tmp 200))), (some (197, false))⟩, ⟨(some 202), (.s (.lit 3 1 [(.const (.int .i64 0))])), (some (197, false))⟩, ⟨(some 203), (.s (.call 23 [(.tmp 201), (.tmp 202)])), (some (197, false))⟩, ⟨(some 204), (.q (.pick (.tmp 197) (.const (.bool true)) (.tmp 203))), none⟩]) 
    (.cond (.tmp 204) 
    (.seq 
    (.region [⟨(some 6), (.q (.move (.const (.bool false)))), none⟩]) .ret) .skip)))) 
    (.region [⟨(some 138), (.q (.move (.tmp 16))), none⟩, ⟨(some 139), (.q (.bin .add (.tmp 138) (.const (.int .i64 1)))), none⟩, ⟨(some 16), (.q (.move (.tmp 139))), none⟩])))))))))) 
    (.region [⟨(some 50), (.q (.move (.tmp 11))), none⟩, ⟨(some 51), (.q (.bin .add (.tmp 50) (.const (.int .i64 1)))), none⟩, ⟨(some 11), (.q (.move (.tmp 51))), none⟩])))))) 
    (.seq 
    (.region [⟨(some 205), (.q (.move (.tmp 8))), none⟩, ⟨(some 206), (.q (.move (.tmp 1))), none⟩, ⟨(some 207), (.s (.call 23 [(.tmp 205), (.tmp 206)])), none⟩, ⟨(some 208), (.q (.move (.tmp 9))), none⟩, ⟨(some 209), (.q (.move (.tmp 1))), none⟩, ⟨(some 210), (.s (.call 24 [(.tmp 208), (.tmp 209)])), none⟩, ⟨(some 211), (.q (.beq false (.tmp 207) (.tmp 210))), none⟩, ⟨(some 212), (.q (.move (.tmp 211))), none⟩, ⟨(some 213), (.s (.call 14 [])), (some (212, true))⟩, ⟨(some 214), (.q (.pick (.tmp 212) (.tmp 213) (.const (.bool false)))), none⟩, ⟨(some 6), (.q (.move (.tmp 214))), none⟩]) .ret))))))))
def c79 : ACode := 
    (.seq 
    (.region [⟨(some 4), (.q (.move (.const (.bool false)))), none⟩]) 
    (.seq 
    (.seq 
    (.region [⟨(some 5), (.q (.move (.const (.int .i64 0)))), none⟩]) 
    (.block 0 
    (.loop 
    (.seq 
    (.seq 
    (.region [⟨(some 6), (.q (.move (.tmp 5))), none⟩, ⟨(some 7), (.q (.move (.tmp 0))), none⟩, ⟨(some 8), (.q (.nonil (.tmp 7))), none⟩, ⟨(some 9), (.q (.fieldAddr 1 (.tmp 8))), none⟩, ⟨(some 10), (.q (.load false 1 (.tmp 9))), none⟩, ⟨(some 11), (.q (.len false (.tmp 10))), none⟩, ⟨(some 12), (.q (.bin .lss (.tmp 6) (.tmp 11))), none⟩]) 
    (.cond (.tmp 12) .skip (.exit 0))) 
    (.seq 
    (.block 1 
    (.seq 
    (.region [⟨(some 15), (.q (.move (.tmp 0))), none⟩, ⟨(some 16), (.q (.nonil (.tmp 15))), none⟩, ⟨(some 17), (.q (.fieldAddr 1 (.tmp 16))), none⟩, ⟨(some 18), (.q (.load false 1 (.tmp 17))), none⟩, ⟨(some 19), (.q (.move (.tmp 5))), none⟩, ⟨(some 20), (.q (.idxSl 1 (.tmp 18) (.tmp 19))), none⟩, ⟨(some 21), (.q (.load false 1 (.tmp 20))), none⟩, ⟨(some 22), (.q (.move (.tmp 1))), none⟩, ⟨(some 23), (.q (.bin .eql (.tmp 21) (.tmp 22))), none⟩, ⟨(some 24), (.q (.move (.tmp 23))), none⟩, ⟨(some 25), (.q (.move (.tmp 1))), (some (24, true))⟩, ⟨(some 26), (.q (.bin .geq (.tmp 25) (.const (.int .i64 0)))), (some (24, true))⟩, ⟨(some 27), (.q (.pick (.tmp 24) (.tmp 26) (.const (.bool false)))), none⟩, ⟨(some 28), (.q (.move (.tmp 27))), none⟩, ⟨(some 29), (.q (.move (.tmp 1))), (some (28, true))⟩, ⟨(some 30), (.q (.bin .lss (.tmp 29) (.const (.int .i64 48)))), (some (28, true))⟩, ⟨(some 31), (.q (.pick (.tmp 28) (.tmp 30) (.const (.bool false)))), none⟩]) 
    (.cond (.tmp 31) 
    (.seq 
    (.region [⟨(some 4), (.q (.move (.const (.bool true)))), none⟩]) .ret) .skip))) 
    (.region [⟨(some 13), (.q (.move (.tmp 5))), none⟩, ⟨(some 14), (.q (.bin .add (.tmp 13) (.const (.int .i64 1)))), none⟩, ⟨(some 5), (.q (.move (.tmp 14))), none⟩])))))) 
    (.seq 
    (.region [⟨(some 4), (.q (.move (.const (.bool false)))), none⟩]) .ret)))
theorem t79 : Told Try.prog 79 32 c79 [(.tmp 4)] := ⟨Try.f79, _, [], Try.func79, rfl, by kernel_rfl, rfl, by kernel_rfl, by kernel_rfl⟩
def c69 : ACode := 
    (.seq 
    (.region [⟨(some 4), (.q (.move (.const (.int .i64 0)))), none⟩]) 
    (.seq 
    (.seq 
    (.region [⟨(some 5), (.q (.move (.tmp 0))), none⟩, ⟨(some 6), (.q (.move (.tmp 1))), none⟩, ⟨(some 7), (.s (.call 79 [(.tmp 5), (.tmp 6)])), none⟩]) 
    (.cond (.tmp 7) 
    (.seq 
    (.region [⟨(some 4), (.q (.move (.const (.int .i64 3)))), none⟩]) .ret) .skip)) 
    (.seq 
    (.region [⟨(some 8), (.q (.move (.tmp 0))), none⟩, ⟨(some 9), (.q (.nonil (.tmp 8))), none⟩, ⟨(some 10), (.q (.fieldAddr 0 (.tmp 9))), none⟩, ⟨(some 11), (.q (.load false 1 (.tmp 10))), none⟩, ⟨(some 12), (.q (.move (.tmp 1))), none⟩, ⟨(some 13), (.s (.call 131 [(.tmp 11), (.tmp 12)])), none⟩, ⟨(some 4), (.q (.move (.tmp 13))), none⟩]) .ret)))
theorem t69 : Told Try.prog 69 14 c69 [(.tmp 4)] := ⟨Try.f69, _, [], Try.func69, rfl, by kernel_rfl, rfl, by kernel_rfl, by kernel_rfl⟩
def c132 : ACode := 
    (.seq 
    (.region [⟨(some 6), (.q (.move (.const (.bool false)))), none⟩]) 
    (.seq 
    (.seq 
    (.region [⟨(some 7), (.q (.move (.const (.int .i64 0)))), none⟩]) 
    (.block 0 
    (.loop 
    (.seq 
    (.seq 
    (.region [⟨(some 8), (.q (.move (.tmp 7))), none⟩, ⟨(some 9), (.q (.bin .lss (.tmp 8) (.const (.int .i64 24576)))), none⟩]) 
    (.cond (.tmp 9) .skip (.exit 0))) 
    (.seq 
    (.block 1 
    (.seq 
    (.region [⟨(some 12), (.q (.move (.tmp 1))), none⟩, ⟨(some 13), (.q (.bin .geq (.tmp 12) (.const (.int .i64 0)))), none⟩, ⟨(some 14), (.q (.move (.tmp 13))), none⟩, ⟨(some 15), (.q (.move (.tmp 7))), (some (14, true))⟩, ⟨(some 16), (.q (.move (.tmp 1))), (some (14, true))⟩, ⟨(some 17), (.q (.bin .geq (.tmp 15) (.tmp 16))), (some (14, true))⟩, ⟨(some 18), (.q (.pick (.tmp 14) (.tmp 17) (.const (.bool false)))), none⟩, ⟨(some 19), (.q (.move (.tmp 18))), none⟩, ⟨(some 20), (.q (.move (.tmp 7))), (some (19, true))⟩, ⟨(some 21), (.q (.move (.tmp 1))), (some (19, true))⟩, ⟨(some 22), (.q (.bin .sub (.tmp 20) (.tmp 21))), (some (19, true))⟩, ⟨(some 23), (.q (.move (.tmp 2))), (some (19, true))⟩, ⟨(some 24), (.q (.bin .lss (.tmp 22) (.tmp 23))), (some (19, true))⟩, ⟨(some 25), (.q (.pick (.tmp 19) (.tmp 24) (.const (.bool false)))), none⟩, ⟨(some 26), (.q (.move (.tmp 25))), none⟩, ⟨(some 27), (.q (.move (.tmp 0))), (some (26, true))⟩, ⟨(some 28), (.q (.move (.tmp 7))), (some (26, true))⟩, ⟨(some 29), (.q (.bin .quo (.tmp 28) (.const (.int .i64 512)))), (some (26, true))⟩, ⟨(some 30), (.s (.call 79 [(.tmp 27), (.tmp 29)])), (some (26, true))⟩, ⟨(some 31), (.q (.pick (.tmp 26) (.tmp 30) (.const (.bool false)))), none⟩]) 
    (.cond (.tmp 31) 
    (.seq 
    (.region [⟨(some 6), (.q (.move (.const (.bool true)))), none⟩]) .ret) .skip))) 
    (.region [⟨(some 10), (.q (.move (.tmp 7))), none⟩, ⟨(some 11), (.q (.bin .add (.tmp 10) (.const (.int .i64 1)))), none⟩, ⟨(some 7), (.q (.move (.tmp 11))), none⟩])))))) 
    (.seq 
    (.region [⟨(some 6), (.q (.move (.const (.bool false)))), none⟩]) .ret)))
theorem t132 : Told Try.prog 132 32 c132 [(.tmp 6)] := ⟨Try.f132, _, [], Try.func132, rfl, by kernel_rfl, rfl, by kernel_rfl, by kernel_rfl⟩
def c71 : ACode := 
    (.seq 
    (.region [⟨(some 6), (.q (.move (.const (.int .i64 0)))), none⟩]) 
    (.seq 
    (.seq 
    (.region [⟨(some 7), (.q (.move (.tmp 0))), none⟩, ⟨(some 8), (.q (.move (.tmp 1))), none⟩, ⟨(some 9), (.q (.move (.tmp 2))), none⟩, ⟨(some 10), (.q (.len true (.tmp 9))), none⟩, ⟨(some 11), (.s (.call 132 [(.tmp 7), (.tmp 8), (.tmp 10)])), none⟩]) 
    (.cond (.tmp 11) 
    (.seq 
    (.region [⟨(some 6), (.q (.move (.const (.int .i64 3)))), none⟩]) .ret) .skip)) 
    (.seq 
    (.region [⟨(some 12), (.q (.move (.tmp 0))), none⟩, ⟨(some 13), (.q (.nonil (.tmp 12))), none⟩, ⟨(some 14), (.q (.fieldAddr 0 (.tmp 13))), none⟩, ⟨(some 15), (.q (.load false 1 (.tmp 14))), none⟩, ⟨(some 16), (.q (.move (.tmp 1))), none⟩, ⟨(some 17), (.q (.move (.tmp 2))), none⟩, ⟨(some 18), (.s (.call 134 [(.tmp 15), (.tmp 16), (.tmp 17)])), none⟩, ⟨(some 6), (.q (.move (.tmp 18))), none⟩]) .ret)))
theorem t71 : Told Try.prog 71 19 c71 [(.tmp 6)] := ⟨Try.f71, _, [], Try.func71, rfl, by kernel_rfl, rfl, by kernel_rfl, by kernel_rfl⟩
end Go.Proofs.Ytfilheaaacffmaa.AL
/- A guard told: which sectors are locked, and what it lets through. -/
set_option linter.unusedSimpArgs false
set_option linter.unusedVariables false
set_option maxRecDepth 100000
set_option maxHeartbeats 16000000
namespace Go.Proofs.Ytfilheaaacffmaa.AL
open Go Go.Proofs
attribute [local go_sem] go_seq go_skip go_region go_regionN go_fregion rgF_some go_cond go_block go_exit go_ret nxt_nil nxt_code nxt_blk nxt_cut leave_nil leave_code leave_cut leave_blk rtn_nil rtn_code rtn_blk rtn_cut cnd_t cnd_f rgn_nil rgY_some rgY_none rgH_some rgP_some retTo_is rgV_func grd_und grd_tt grd_ff grd_tf grd_ft rgn_q rgn_alloc rgn_box rgn_store rgn_lit rgn_litw litCells_nil litCells_cons rgn_app rgn_copy rgn_mk rgn_s2b rgn_call rgn_callv rgn_stop rgn_slice3 aslice3 rgn_put rgn_mkmap rgn_lookup rgn_mapup alookup_nilm alookup_map amapup_map afound_ok afound_no rgn_c rgn_cv qclV_func aloadr rgn_guard post_ret post_normal retY_some ares aresL ares1 AX.ev aput List.getD_cons_zero List.getD_cons_succ List.set_cons_zero List.set_cons_succ List.map_cons List.map_nil aq abin aint astr abeq aconv asame aextract alenS alenL_nils alenL_emp alenL_imm alenL_wr aun apart aload afieldAddr afield aidxSl_wr aidxSl_imm aidxPt aidxStr aidxArr abound asliceStr asliceSl asliceArr abest anonil afill astore acells_nils acells_emp acells_imm acells_wr acells_str acopy litAll amk as2b anil nilOf aseq aeqs aeqv fits fit1 hp_next hp_push hp_get hp_set List.length_cons List.length_nil List.getElem?_cons_zero List.getElem?_cons_succ List.cons_append List.nil_append List.append_nil List.take_succ_cons List.take_zero List.drop_succ_cons List.drop_zero List.all_cons List.all_nil Option.map_some Option.some.injEq Bool.and_true Bool.true_and Bool.false_eq_true if_true if_false ite_true ite_false Bool.and_self true_and and_true and_self Nat.zero_add Nat.le_refl Int.toNat_natCast beq_self_eq_true eq_self tops_zero tops_succ Int.natCast_nonneg List.take_nil List.drop_nil Option.map_none flat_bool one_bool cells_bool flat_int one_int cells_int flat_str one_str cells_str flat_nilp one_nilp cells_nilp flat_ptr one_ptr cells_ptr flat_nils one_nils cells_nils flat_imm one_imm cells_imm flat_wr one_wr cells_wr flat_func one_func cells_func flat_nilf one_nilf cells_nilf flat_map one_map cells_map flat_nilm one_nilm cells_nilm flat_iface one_iface cells_iface flat_nili one_nili cells_nili flat_rd one_rd cells_rd flat_emp one_emp cells_emp flat_byteV one_byteV cells_byteV flat_agg cells_agg one_agg B_size B_list B_ext B_toList B_app List.take_length Int.le_refl
def grow (c : Nat) (L : List Bool) : AObj := .row 37 0 (.ptr c 0 0 :: L.map AV.bool)
theorem grow_is (c : Nat) (L : List Bool) : grow c L = .row 37 0 (.ptr c 0 0 :: L.map AV.bool) := rfl
theorem grow_cell (c : Nat) {L : List Bool} {i : Nat} (h : i < L.length) : (AV.ptr c 0 0 :: L.map AV.bool)[1 + i]? = some (.bool (L.getD i false)) := by
  rw [Nat.add_comm, List.getElem?_cons_succ, List.getElem?_map, List.getElem?_eq_getElem h, List.getD_eq_getElem?_getD, List.getElem?_eq_getElem h]
  rfl
def gis (L : List Bool) (k : Int) : Bool := decide (0 ≤ k) && decide (k < 48) && L.getD k.toNat false
theorem gis_a {H : AHeap} {g c : Nat} {L : List Bool} (hg : H.get g = some (grow c L)) (hL : L.length = 48) {k : Int} {K : AV → AHeap → Prop} (h : K (.bool (gis L k)) H) : (ACalls Try.prog) 78 [.ptr g 0 0, .int .i64 k] H K := by
  refine acalls_go mo t78 (fun hs hu => ?_)
  have hlt := H.lt hg
  rw [grow_is] at hg
  unfold gis at h
  simp only [c78, go_sem, Nat.reduceLeDiff, Nat.reduceAdd, Nat.reduceSub, Nat.reduceMul, Nat.reduceLT, Int.reduceLT, Int.reduceLE, Int.reduceAdd, Int.reduceSub, Int.reduceMul, Int.reduceToNat, Int.reduceNeg, Int.reduceEq, Nat.reducePow, Int.reducePow, Nat.reduceEqDiff, decide_true, decide_false, reduceIte, reduceCtorEq, Int.reduceBEq, Int.reduceBNe, bne_self_eq_false, Int.cast_ofNat_Int, Bool.not_true, Bool.not_false, IntKind.bits]
  by_cases h1 : 0 ≤ k
  · obtain ⟨i, rfl⟩ := Int.eq_ofNat_of_zero_le h1
    by_cases h2 : i < 48
    · rw [decide_eq_true h1, decide_eq_true (by omega), Bool.true_and, Bool.true_and, Int.toNat_natCast] at h
      have hc := grow_cell c (L := L) (i := i) (by omega)
      simp (maxSteps := 4000000) (disch := (first | omega | (simp only [set_next, List.length_append, List.length_cons, List.length_nil, List.length_take, List.length_drop, List.length_map, List.length_set, List.length_replicate]; omega) | (simp only [set_next, ne_eq, reduceCtorEq, not_false_eq_true]))) only [hg, hc, go_sem, Nat.reduceLeDiff, Nat.reduceAdd, Nat.reduceSub, Nat.reduceMul, Nat.reduceLT, Int.reduceLT, Int.reduceLE, Int.reduceAdd, Int.reduceSub, Int.reduceMul, Int.reduceToNat, Int.reduceNeg, Int.reduceEq, Nat.reducePow, Int.reducePow, Nat.reduceEqDiff, decide_true, decide_false, reduceIte, reduceCtorEq, Int.reduceBEq, Int.reduceBNe, bne_self_eq_false, Int.cast_ofNat_Int, Bool.not_true, Bool.not_false, IntKind.bits, w_nat, w_lit, w_add, w_addl, w_ladd, w_sub, w_subl, w_lsub, w_mul, w_mull, w_lmul, t_div, t_divl, t_mod, t_modl, i_lt, i_ltl, i_llt, i_le, i_lel, i_lle, i_eq, i_eql, i_leq, Nat.zero_le, d_beq, d_bne, d_bytes, byte_at, Int.toNat_natCast, toNat_lit, decide_eq_true, decide_eq_false, if_pos, if_neg, slA_len, slA_idx, slA_cells, flat_slA, one_slA, cells_slA, map_mid, strV_is, hp_get1, hp_get2, hp_get3, hp_set1, hp_set2, hp_set3, hp_old, hp_sold, set_got, set_set, set_next, set_other, bytesL, bytes_all, List.length_map, aapp_nils, aapp_wr, List.flatMap_cons, List.flatMap_nil, Nat.mul_one]
      exact aret_plain hs (by simp only [u_top, u_bool, u_int, u_str, u_nilp, u_nils, u_nilf, u_nilm, u_nili, u_emp, u_byteV, u_ptr, u_wr, u_agg, u_tup, u_rd, u_imm, u_func, u_nil, u_cons, u_app, uc_nil, uc_cons, uc_app, u_bytes, uc_bytes, u_ints, uc_ints, cells_bool, cells_int, cells_str, cells_agg, cells_ptr, cells_nils, cells_imm, cells_wr, cells_nilp, cells_nilf, cells_nilm, cells_rd, cells_emp, cells_byteV, cells_func, and_self, and_true, true_and, u_slA, uc_strs, cells_slA, strV_is]) (h)
    · rw [decide_eq_false (p := (i : Int) < 48) (by omega), Bool.and_false, Bool.false_and] at h
      simp (maxSteps := 4000000) (disch := (first | omega | (simp only [set_next, List.length_append, List.length_cons, List.length_nil, List.length_take, List.length_drop, List.length_map, List.length_set, List.length_replicate]; omega) | (simp only [set_next, ne_eq, reduceCtorEq, not_false_eq_true]))) only [go_sem, Nat.reduceLeDiff, Nat.reduceAdd, Nat.reduceSub, Nat.reduceMul, Nat.reduceLT, Int.reduceLT, Int.reduceLE, Int.reduceAdd, Int.reduceSub, Int.reduceMul, Int.reduceToNat, Int.reduceNeg, Int.reduceEq, Nat.reducePow, Int.reducePow, Nat.reduceEqDiff, decide_true, decide_false, reduceIte, reduceCtorEq, Int.reduceBEq, Int.reduceBNe, bne_self_eq_false, Int.cast_ofNat_Int, Bool.not_true, Bool.not_false, IntKind.bits, w_nat, w_lit, w_add, w_addl, w_ladd, w_sub, w_subl, w_lsub, w_mul, w_mull, w_lmul, t_div, t_divl, t_mod, t_modl, i_lt, i_ltl, i_llt, i_le, i_lel, i_lle, i_eq, i_eql, i_leq, Nat.zero_le, d_beq, d_bne, d_bytes, byte_at, Int.toNat_natCast, toNat_lit, decide_eq_true, decide_eq_false, if_pos, if_neg, slA_len, slA_idx, slA_cells, flat_slA, one_slA, cells_slA, map_mid, strV_is, hp_get1, hp_get2, hp_get3, hp_set1, hp_set2, hp_set3, hp_old, hp_sold, set_got, set_set, set_next, set_other, bytesL, bytes_all, List.length_map, aapp_nils, aapp_wr, List.flatMap_cons, List.flatMap_nil, Nat.mul_one]
      exact aret_plain hs (by simp only [u_top, u_bool, u_int, u_str, u_nilp, u_nils, u_nilf, u_nilm, u_nili, u_emp, u_byteV, u_ptr, u_wr, u_agg, u_tup, u_rd, u_imm, u_func, u_nil, u_cons, u_app, uc_nil, uc_cons, uc_app, u_bytes, uc_bytes, u_ints, uc_ints, cells_bool, cells_int, cells_str, cells_agg, cells_ptr, cells_nils, cells_imm, cells_wr, cells_nilp, cells_nilf, cells_nilm, cells_rd, cells_emp, cells_byteV, cells_func, and_self, and_true, true_and, u_slA, uc_strs, cells_slA, strV_is]) (h)
  · rw [decide_eq_false h1, Bool.false_and, Bool.false_and] at h
    simp (maxSteps := 4000000) (disch := (first | omega | (simp only [set_next, List.length_append, List.length_cons, List.length_nil, List.length_take, List.length_drop, List.length_map, List.length_set, List.length_replicate]; omega) | (simp only [set_next, ne_eq, reduceCtorEq, not_false_eq_true]))) only [go_sem, Nat.reduceLeDiff, Nat.reduceAdd, Nat.reduceSub, Nat.reduceMul, Nat.reduceLT, Int.reduceLT, Int.reduceLE, Int.reduceAdd, Int.reduceSub, Int.reduceMul, Int.reduceToNat, Int.reduceNeg, Int.reduceEq, Nat.reducePow, Int.reducePow, Nat.reduceEqDiff, decide_true, decide_false, reduceIte, reduceCtorEq, Int.reduceBEq, Int.reduceBNe, bne_self_eq_false, Int.cast_ofNat_Int, Bool.not_true, Bool.not_false, IntKind.bits, w_nat, w_lit, w_add, w_addl, w_ladd, w_sub, w_subl, w_lsub, w_mul, w_mull, w_lmul, t_div, t_divl, t_mod, t_modl, i_lt, i_ltl, i_llt, i_le, i_lel, i_lle, i_eq, i_eql, i_leq, Nat.zero_le, d_beq, d_bne, d_bytes, byte_at, Int.toNat_natCast, toNat_lit, decide_eq_true, decide_eq_false, if_pos, if_neg, slA_len, slA_idx, slA_cells, flat_slA, one_slA, cells_slA, map_mid, strV_is, hp_get1, hp_get2, hp_get3, hp_set1, hp_set2, hp_set3, hp_old, hp_sold, set_got, set_set, set_next, set_other, bytesL, bytes_all, List.length_map, aapp_nils, aapp_wr, List.flatMap_cons, List.flatMap_nil, Nat.mul_one]
    exact aret_plain hs (by simp only [u_top, u_bool, u_int, u_str, u_nilp, u_nils, u_nilf, u_nilm, u_nili, u_emp, u_byteV, u_ptr, u_wr, u_agg, u_tup, u_rd, u_imm, u_func, u_nil, u_cons, u_app, uc_nil, uc_cons, uc_app, u_bytes, uc_bytes, u_ints, uc_ints, cells_bool, cells_int, cells_str, cells_agg, cells_ptr, cells_nils, cells_imm, cells_wr, cells_nilp, cells_nilf, cells_nilm, cells_rd, cells_emp, cells_byteV, cells_func, and_self, and_true, true_and, u_slA, uc_strs, cells_slA, strV_is]) (h)
theorem ints_at {ls : List Int} {i : Nat} (h : i < ls.length) : (ls.map (AV.int .i64))[i]? = some (.int .i64 (ls.getD i 0)) := by
  rw [List.getElem?_map, List.getElem?_eq_getElem h, List.getD_eq_getElem?_getD, List.getElem?_eq_getElem h]
  rfl
def lockIt (L : List Bool) (s : Int) : List Bool := if 0 ≤ s ∧ s < 48 then L.set s.toNat true else L
def locksOf (ls : List Int) : List Bool := ls.foldl lockIt (List.replicate 48 false)
theorem lockIt_len (L : List Bool) (s : Int) : (lockIt L s).length = L.length := by
  unfold lockIt
  split
  · exact List.length_set ..
  · rfl
theorem foldl_lock_len : ∀ (ls : List Int) (L : List Bool), (ls.foldl lockIt L).length = L.length
  | [], L => rfl
  | s :: ls, L => by rw [List.foldl_cons, foldl_lock_len ls, lockIt_len]
theorem locksOf_len (ls : List Int) : (locksOf ls).length = 48 := by
  unfold locksOf
  rw [foldl_lock_len]
  rfl
theorem put_lock (c : Nat) {L : List Bool} {i : Nat} (h : i < L.length) : List.take (1 + i) (AV.ptr c 0 0 :: L.map AV.bool) ++ [AV.bool true] ++ List.drop (1 + i) (L.map AV.bool) = AV.ptr c 0 0 :: (L.set i true).map AV.bool := by
  rw [show 1 + i = i + 1 by omega, List.take_succ_cons, List.map_set, List.set_eq_take_append_cons_drop, if_pos (by simpa using h), List.cons_append, List.cons_append, List.append_assoc]
  rfl
theorem gnew_a {H : AHeap} {c k : Nat} {ls : List Int} (hn : ls.length ≤ 9223372036854775807) {K : AV → AHeap → Prop} (h : K (.ptr (H.next + 0) 0 0) (hp H [grow c (locksOf ls)])) :
    (ACalls Try.prog) 16 [.ptr c 0 0, slA k 1 (ls.map (AV.int .i64))] H K := by
  refine acalls_go mo t16 (fun hs hu => ?_)
  have hcu : c < H.next := by
    have := hu (.ptr c 0 0) (by simp)
    rw [u_ptr] at this
    exact this
  simp only [c16, go_sem, Nat.reduceLeDiff, Nat.reduceAdd, Nat.reduceSub, Nat.reduceMul, Nat.reduceLT, Int.reduceLT, Int.reduceLE, Int.reduceAdd, Int.reduceSub, Int.reduceMul, Int.reduceToNat, Int.reduceNeg, Int.reduceEq, Nat.reducePow, Int.reducePow, Nat.reduceEqDiff, decide_true, decide_false, reduceIte, reduceCtorEq, Int.reduceBEq, Int.reduceBNe, bne_self_eq_false, Int.cast_ofNat_Int, Bool.not_true, Bool.not_false, IntKind.bits]
  simp (maxSteps := 4000000) (disch := (first | omega | (simp only [set_next, List.length_append, List.length_cons, List.length_nil, List.length_take, List.length_drop, List.length_map, List.length_set, List.length_replicate]; omega) | (simp only [set_next, ne_eq, reduceCtorEq, not_false_eq_true]))) only [go_sem, Nat.reduceLeDiff, Nat.reduceAdd, Nat.reduceSub, Nat.reduceMul, Nat.reduceLT, Int.reduceLT, Int.reduceLE, Int.reduceAdd, Int.reduceSub, Int.reduceMul, Int.reduceToNat, Int.reduceNeg, Int.reduceEq, Nat.reducePow, Int.reducePow, Nat.reduceEqDiff, decide_true, decide_false, reduceIte, reduceCtorEq, Int.reduceBEq, Int.reduceBNe, bne_self_eq_false, Int.cast_ofNat_Int, Bool.not_true, Bool.not_false, IntKind.bits, w_nat, w_lit, w_add, w_addl, w_ladd, w_sub, w_subl, w_lsub, w_mul, w_mull, w_lmul, t_div, t_divl, t_mod, t_modl, i_lt, i_ltl, i_llt, i_le, i_lel, i_lle, i_eq, i_eql, i_leq, Nat.zero_le, d_beq, d_bne, d_bytes, byte_at, Int.toNat_natCast, toNat_lit, decide_eq_true, decide_eq_false, if_pos, if_neg, slA_len, slA_idx, slA_cells, flat_slA, one_slA, cells_slA, map_mid, strV_is, hp_get1, hp_get2, hp_get3, hp_set1, hp_set2, hp_set3, hp_old, hp_sold, set_got, set_set, set_next, set_other, bytesL, bytes_all, List.length_map, aapp_nils, aapp_wr, List.flatMap_cons, List.flatMap_nil, Nat.mul_one]
  refine go_loopS mono (σ := Nat) (fun i => [(13, .int .i64 (i : Int))]) (fun i => hp H [grow c (locksOf (ls.take i))]) (fun i => i ≤ ls.length) (fun i => ls.length - i) 0 ?_ ?_ (Nat.zero_le _) (fun i hi J hJ => ?_)
  · (simp only [blurR_nil, blurR_some, blurR_none, blurC_region, blurC_regionN, blurC_fregion, blurT_nil, blurT_cons, blurC_seq, blurC_cond, blurC_block, blurC_loop, blurC_skip, blurC_exit, blurC_ret, tellS_nil, tellS_cons, List.set_cons_zero, List.set_cons_succ, tops_zero, tops_succ]; repeat first | exact forget_nil | apply forget_keep | apply forget_top)
  · rfl
  have hil : i ≤ ls.length := hi
  simp only [blurR_nil, blurR_some, blurR_none, blurC_region, blurC_regionN, blurC_fregion, blurT_nil, blurT_cons, blurC_seq, blurC_cond, blurC_block, blurC_loop, blurC_skip, blurC_exit, blurC_ret, tellS_nil, tellS_cons, List.set_cons_zero, List.set_cons_succ, tops_zero, tops_succ]
  by_cases h1 : i < ls.length
  · have ha := ints_at h1
    have hL := locksOf_len (ls.take i)
    have hst : locksOf (ls.take (i + 1)) = lockIt (locksOf (ls.take i)) (ls.getD i 0) := by
      unfold locksOf
      rw [List.take_add_one, List.getElem?_eq_getElem h1, List.foldl_append, List.getD_eq_getElem?_getD, List.getElem?_eq_getElem h1]
      rfl
    have hJ2 := fun a' => hJ (i + 1) a' h1 (by omega)
    rw [hst] at hJ2
    generalize locksOf (ls.take i) = L at *
    generalize ls.getD i 0 = s at *
    unfold lockIt at hJ2
    by_cases h2 : 0 ≤ s
    · obtain ⟨m, rfl⟩ := Int.eq_ofNat_of_zero_le h2
      by_cases h3 : m < 48
      · rw [if_pos (by omega), Int.toNat_natCast] at hJ2
        have hc := grow_cell c (L := L) (i := m) (by omega)
        have hp_ := put_lock c (L := L) (i := m) (by omega)
        simp (maxSteps := 4000000) (disch := (first | omega | (simp only [set_next, List.length_append, List.length_cons, List.length_nil, List.length_take, List.length_drop, List.length_map, List.length_set, List.length_replicate]; omega) | (simp only [set_next, ne_eq, reduceCtorEq, not_false_eq_true]))) only [ha, grow_is, hc, hp_, go_sem, Nat.reduceLeDiff, Nat.reduceAdd, Nat.reduceSub, Nat.reduceMul, Nat.reduceLT, Int.reduceLT, Int.reduceLE, Int.reduceAdd, Int.reduceSub, Int.reduceMul, Int.reduceToNat, Int.reduceNeg, Int.reduceEq, Nat.reducePow, Int.reducePow, Nat.reduceEqDiff, decide_true, decide_false, reduceIte, reduceCtorEq, Int.reduceBEq, Int.reduceBNe, bne_self_eq_false, Int.cast_ofNat_Int, Bool.not_true, Bool.not_false, IntKind.bits, w_nat, w_lit, w_add, w_addl, w_ladd, w_sub, w_subl, w_lsub, w_mul, w_mull, w_lmul, t_div, t_divl, t_mod, t_modl, i_lt, i_ltl, i_llt, i_le, i_lel, i_lle, i_eq, i_eql, i_leq, Nat.zero_le, d_beq, d_bne, d_bytes, byte_at, Int.toNat_natCast, toNat_lit, decide_eq_true, decide_eq_false, if_pos, if_neg, slA_len, slA_idx, slA_cells, flat_slA, one_slA, cells_slA, map_mid, strV_is, hp_get1, hp_get2, hp_get3, hp_set1, hp_set2, hp_set3, hp_old, hp_sold, set_got, set_set, set_next, set_other, bytesL, bytes_all, List.length_map, aapp_nils, aapp_wr, List.flatMap_cons, List.flatMap_nil, Nat.mul_one]
        exact hJ2 _ (by (simp only [blurR_nil, blurR_some, blurR_none, blurC_region, blurC_regionN, blurC_fregion, blurT_nil, blurT_cons, blurC_seq, blurC_cond, blurC_block, blurC_loop, blurC_skip, blurC_exit, blurC_ret, tellS_nil, tellS_cons, List.set_cons_zero, List.set_cons_succ, tops_zero, tops_succ]; repeat first | exact forget_nil | apply forget_keep | apply forget_top))
      · rw [if_neg (by omega)] at hJ2
        simp (maxSteps := 4000000) (disch := (first | omega | (simp only [set_next, List.length_append, List.length_cons, List.length_nil, List.length_take, List.length_drop, List.length_map, List.length_set, List.length_replicate]; omega) | (simp only [set_next, ne_eq, reduceCtorEq, not_false_eq_true]))) only [ha, go_sem, Nat.reduceLeDiff, Nat.reduceAdd, Nat.reduceSub, Nat.reduceMul, Nat.reduceLT, Int.reduceLT, Int.reduceLE, Int.reduceAdd, Int.reduceSub, Int.reduceMul, Int.reduceToNat, Int.reduceNeg, Int.reduceEq, Nat.reducePow, Int.reducePow, Nat.reduceEqDiff, decide_true, decide_false, reduceIte, reduceCtorEq, Int.reduceBEq, Int.reduceBNe, bne_self_eq_false, Int.cast_ofNat_Int, Bool.not_true, Bool.not_false, IntKind.bits, w_nat, w_lit, w_add, w_addl, w_ladd, w_sub, w_subl, w_lsub, w_mul, w_mull, w_lmul, t_div, t_divl, t_mod, t_modl, i_lt, i_ltl, i_llt, i_le, i_lel, i_lle, i_eq, i_eql, i_leq, Nat.zero_le, d_beq, d_bne, d_bytes, byte_at, Int.toNat_natCast, toNat_lit, decide_eq_true, decide_eq_false, if_pos, if_neg, slA_len, slA_idx, slA_cells, flat_slA, one_slA, cells_slA, map_mid, strV_is, hp_get1, hp_get2, hp_get3, hp_set1, hp_set2, hp_set3, hp_old, hp_sold, set_got, set_set, set_next, set_other, bytesL, bytes_all, List.length_map, aapp_nils, aapp_wr, List.flatMap_cons, List.flatMap_nil, Nat.mul_one]
        exact hJ2 _ (by (simp only [blurR_nil, blurR_some, blurR_none, blurC_region, blurC_regionN, blurC_fregion, blurT_nil, blurT_cons, blurC_seq, blurC_cond, blurC_block, blurC_loop, blurC_skip, blurC_exit, blurC_ret, tellS_nil, tellS_cons, List.set_cons_zero, List.set_cons_succ, tops_zero, tops_succ]; repeat first | exact forget_nil | apply forget_keep | apply forget_top))
    · rw [if_neg (by omega)] at hJ2
      simp (maxSteps := 4000000) (disch := (first | omega | (simp only [set_next, List.length_append, List.length_cons, List.length_nil, List.length_take, List.length_drop, List.length_map, List.length_set, List.length_replicate]; omega) | (simp only [set_next, ne_eq, reduceCtorEq, not_false_eq_true]))) only [ha, go_sem, Nat.reduceLeDiff, Nat.reduceAdd, Nat.reduceSub, Nat.reduceMul, Nat.reduceLT, Int.reduceLT, Int.reduceLE, Int.reduceAdd, Int.reduceSub, Int.reduceMul, Int.reduceToNat, Int.reduceNeg, Int.reduceEq, Nat.reducePow, Int.reducePow, Nat.reduceEqDiff, decide_true, decide_false, reduceIte, reduceCtorEq, Int.reduceBEq, Int.reduceBNe, bne_self_eq_false, Int.cast_ofNat_Int, Bool.not_true, Bool.not_false, IntKind.bits, w_nat, w_lit, w_add, w_addl, w_ladd, w_sub, w_subl, w_lsub, w_mul, w_mull, w_lmul, t_div, t_divl, t_mod, t_modl, i_lt, i_ltl, i_llt, i_le, i_lel, i_lle, i_eq, i_eql, i_leq, Nat.zero_le, d_beq, d_bne, d_bytes, byte_at, Int.toNat_natCast, toNat_lit, decide_eq_true, decide_eq_false, if_pos, if_neg, slA_len, slA_idx, slA_cells, flat_slA, one_slA, cells_slA, map_mid, strV_is, hp_get1, hp_get2, hp_get3, hp_set1, hp_set2, hp_set3, hp_old, hp_sold, set_got, set_set, set_next, set_other, bytesL, bytes_all, List.length_map, aapp_nils, aapp_wr, List.flatMap_cons, List.flatMap_nil, Nat.mul_one]
      exact hJ2 _ (by (simp only [blurR_nil, blurR_some, blurR_none, blurC_region, blurC_regionN, blurC_fregion, blurT_nil, blurT_cons, blurC_seq, blurC_cond, blurC_block, blurC_loop, blurC_skip, blurC_exit, blurC_ret, tellS_nil, tellS_cons, List.set_cons_zero, List.set_cons_succ, tops_zero, tops_succ]; repeat first | exact forget_nil | apply forget_keep | apply forget_top))
  · simp (maxSteps := 4000000) (disch := (first | omega | (simp only [set_next, List.length_append, List.length_cons, List.length_nil, List.length_take, List.length_drop, List.length_map, List.length_set, List.length_replicate]; omega) | (simp only [set_next, ne_eq, reduceCtorEq, not_false_eq_true]))) only [go_sem, Nat.reduceLeDiff, Nat.reduceAdd, Nat.reduceSub, Nat.reduceMul, Nat.reduceLT, Int.reduceLT, Int.reduceLE, Int.reduceAdd, Int.reduceSub, Int.reduceMul, Int.reduceToNat, Int.reduceNeg, Int.reduceEq, Nat.reducePow, Int.reducePow, Nat.reduceEqDiff, decide_true, decide_false, reduceIte, reduceCtorEq, Int.reduceBEq, Int.reduceBNe, bne_self_eq_false, Int.cast_ofNat_Int, Bool.not_true, Bool.not_false, IntKind.bits, w_nat, w_lit, w_add, w_addl, w_ladd, w_sub, w_subl, w_lsub, w_mul, w_mull, w_lmul, t_div, t_divl, t_mod, t_modl, i_lt, i_ltl, i_llt, i_le, i_lel, i_lle, i_eq, i_eql, i_leq, Nat.zero_le, d_beq, d_bne, d_bytes, byte_at, Int.toNat_natCast, toNat_lit, decide_eq_true, decide_eq_false, if_pos, if_neg, slA_len, slA_idx, slA_cells, flat_slA, one_slA, cells_slA, map_mid, strV_is, hp_get1, hp_get2, hp_get3, hp_set1, hp_set2, hp_set3, hp_old, hp_sold, set_got, set_set, set_next, set_other, bytesL, bytes_all, List.length_map, aapp_nils, aapp_wr, List.flatMap_cons, List.flatMap_nil, Nat.mul_one]
    rw [List.take_of_length_le (by omega)]
    refine aret_stay hs (fun o ho => ?_) (.ptr _ _ _ (by simp)) h
    rw [List.mem_singleton] at ho
    subst ho
    intro v hv
    rcases List.mem_cons.1 hv with rfl | hv
    · exact .ptr _ _ _ (by simp; omega)
    · obtain ⟨u, _, rfl⟩ := List.mem_map.1 hv
      exact .bool _
end Go.Proofs.Ytfilheaaacffmaa.AL
/- A guard over a flash told: erasing, programming, writing, reading. -/
set_option linter.unusedSimpArgs false
set_option linter.unusedVariables false
set_option maxRecDepth 100000
set_option maxHeartbeats 16000000
namespace Go.Proofs.Ytfilheaaacffmaa.AL
open Go Go.Proofs
attribute [local go_sem] go_seq go_skip go_region go_regionN go_fregion rgF_some go_cond go_block go_exit go_ret nxt_nil nxt_code nxt_blk nxt_cut leave_nil leave_code leave_cut leave_blk rtn_nil rtn_code rtn_blk rtn_cut cnd_t cnd_f rgn_nil rgY_some rgY_none rgH_some rgP_some retTo_is rgV_func grd_und grd_tt grd_ff grd_tf grd_ft rgn_q rgn_alloc rgn_box rgn_store rgn_lit rgn_litw litCells_nil litCells_cons rgn_app rgn_copy rgn_mk rgn_s2b rgn_call rgn_callv rgn_stop rgn_slice3 aslice3 rgn_put rgn_mkmap rgn_lookup rgn_mapup alookup_nilm alookup_map amapup_map afound_ok afound_no rgn_c rgn_cv qclV_func aloadr rgn_guard post_ret post_normal retY_some ares aresL ares1 AX.ev aput List.getD_cons_zero List.getD_cons_succ List.set_cons_zero List.set_cons_succ List.map_cons List.map_nil aq abin aint astr abeq aconv asame aextract alenS alenL_nils alenL_emp alenL_imm alenL_wr aun apart aload afieldAddr afield aidxSl_wr aidxSl_imm aidxPt aidxStr aidxArr abound asliceStr asliceSl asliceArr abest anonil afill astore acells_nils acells_emp acells_imm acells_wr acells_str acopy litAll amk as2b anil nilOf aseq aeqs aeqv fits fit1 hp_next hp_push hp_get hp_set List.length_cons List.length_nil List.getElem?_cons_zero List.getElem?_cons_succ List.cons_append List.nil_append List.append_nil List.take_succ_cons List.take_zero List.drop_succ_cons List.drop_zero List.all_cons List.all_nil Option.map_some Option.some.injEq Bool.and_true Bool.true_and Bool.false_eq_true if_true if_false ite_true ite_false Bool.and_self true_and and_true and_self Nat.zero_add Nat.le_refl Int.toNat_natCast beq_self_eq_true eq_self tops_zero tops_succ Int.natCast_nonneg List.take_nil List.drop_nil Option.map_none flat_bool one_bool cells_bool flat_int one_int cells_int flat_str one_str cells_str flat_nilp one_nilp cells_nilp flat_ptr one_ptr cells_ptr flat_nils one_nils cells_nils flat_imm one_imm cells_imm flat_wr one_wr cells_wr flat_func one_func cells_func flat_nilf one_nilf cells_nilf flat_map one_map cells_map flat_nilm one_nilm cells_nilm flat_iface one_iface cells_iface flat_nili one_nili cells_nili flat_rd one_rd cells_rd flat_emp one_emp cells_emp flat_byteV one_byteV cells_byteV flat_agg cells_agg one_agg B_size B_list B_ext B_toList B_app List.take_length Int.le_refl
structure GOk (H : AHeap) (b c g : Nat) (L : List Bool) : Prop where
  ok : ChipOk H b c
  get : H.get g = some (grow c L)
  gb : g ≠ b
  gc : g ≠ c
  len : L.length = 48
theorem gok_get {H : AHeap} {b c g : Nat} {L : List Bool} (o : GOk H b c g L) (x : Chp) : (chipAt H b c x).get g = some (grow c L) := by rw [chip_o x o.gb o.gc, o.get]
theorem gok_hp {H : AHeap} {b c g : Nat} {L : List Bool} (o : GOk H b c g L) (l : List AObj) : GOk (hp H l) b c g L := ⟨chip_okl o.ok l, by rw [hp_old (H.lt o.get), o.get], o.gb, o.gc, o.len⟩
theorem g_lift {f : Nat} {args : List AV} {b c g : Nat} {L : List Bool} {x x' : Chp} {y : AV} (base : ∀ (H : AHeap) (K : AV → AHeap → Prop), GOk H b c g L → K y (chipAt H b c x') → (ACalls Try.prog) f args (chipAt H b c x) K)
    {H : AHeap} {l : List AObj} (o : GOk H b c g L) {K : AV → AHeap → Prop} (h : K y (hp (chipAt H b c x') l)) : (ACalls Try.prog) f args (hp (chipAt H b c x) l) K := by
  rw [hp_chip o.ok] at h ⊢
  exact base _ _ (gok_hp o l) h
section
variable {H : AHeap} {b c g : Nat} {L : List Bool} {x : Chp} {K : AV → AHeap → Prop}
theorem gchip_a (hg : H.get g = some (grow c L)) (h : K (.ptr c 0 0) H) : (ACalls Try.prog) 75 [.ptr g 0 0] H K := by
  refine acalls_go mo t75 (fun hs hu => ?_)
  have hlt := H.lt hg
  have hcu : c < H.next := by
    have := hs g _ hlt hg
    have := this (.ptr c 0 0) (by simp)
    rw [u_ptr] at this
    exact this
  rw [grow_is] at hg
  simp only [c75, go_sem, Nat.reduceLeDiff, Nat.reduceAdd, Nat.reduceSub, Nat.reduceMul, Nat.reduceLT, Int.reduceLT, Int.reduceLE, Int.reduceAdd, Int.reduceSub, Int.reduceMul, Int.reduceToNat, Int.reduceNeg, Int.reduceEq, Nat.reducePow, Int.reducePow, Nat.reduceEqDiff, decide_true, decide_false, reduceIte, reduceCtorEq, Int.reduceBEq, Int.reduceBNe, bne_self_eq_false, Int.cast_ofNat_Int, Bool.not_true, Bool.not_false, IntKind.bits]
  simp (maxSteps := 4000000) (disch := (first | omega | (simp only [set_next, List.length_append, List.length_cons, List.length_nil, List.length_take, List.length_drop, List.length_map, List.length_set, List.length_replicate]; omega) | (simp only [set_next, ne_eq, reduceCtorEq, not_false_eq_true]))) only [hg, go_sem, Nat.reduceLeDiff, Nat.reduceAdd, Nat.reduceSub, Nat.reduceMul, Nat.reduceLT, Int.reduceLT, Int.reduceLE, Int.reduceAdd, Int.reduceSub, Int.reduceMul, Int.reduceToNat, Int.reduceNeg, Int.reduceEq, Nat.reducePow, Int.reducePow, Nat.reduceEqDiff, decide_true, decide_false, reduceIte, reduceCtorEq, Int.reduceBEq, Int.reduceBNe, bne_self_eq_false, Int.cast_ofNat_Int, Bool.not_true, Bool.not_false, IntKind.bits, w_nat, w_lit, w_add, w_addl, w_ladd, w_sub, w_subl, w_lsub, w_mul, w_mull, w_lmul, t_div, t_divl, t_mod, t_modl, i_lt, i_ltl, i_llt, i_le, i_lel, i_lle, i_eq, i_eql, i_leq, Nat.zero_le, d_beq, d_bne, d_bytes, byte_at, Int.toNat_natCast, toNat_lit, decide_eq_true, decide_eq_false, if_pos, if_neg, slA_len, slA_idx, slA_cells, flat_slA, one_slA, cells_slA, map_mid, strV_is, hp_get1, hp_get2, hp_get3, hp_set1, hp_set2, hp_set3, hp_old, hp_sold, set_got, set_set, set_next, set_other, bytesL, bytes_all, List.length_map, aapp_nils, aapp_wr, List.flatMap_cons, List.flatMap_nil, Nat.mul_one]
  exact aret_plain hs (.ptr _ _ _ hcu) h
def gbars (L : List Bool) (at_ : Int) (n : Nat) : Bool := decide (0 ≤ at_) && decide (0 < n) && (List.range 48).any fun k => L.getD k false && decide (at_ < ((k + 1) * 512 : Nat)) && decide (((k * 512 : Nat) : Int) < at_ + n)
theorem gis_nat {L : List Bool} {k : Nat} : gis L (k : Int) = true ↔ k < 48 ∧ L.getD k false = true := by
  unfold gis
  rw [Int.toNat_natCast]
  simp
  intro _
  omega
theorem bars_a (hg : H.get g = some (grow c L)) (hL : L.length = 48) {at_ : Int} {n : Nat} (hn : n ≤ 9223372036854775807) (h : K (.bool (gbars L at_ n)) H) : (ACalls Try.prog) 125 [.ptr g 0 0, .int .i64 at_, .int .i64 (n : Int)] H K := by
  refine acalls_go mo t125 (fun hs hu => ?_)
  have hlt := H.lt hg
  unfold gbars at h
  simp only [c125, go_sem, Nat.reduceLeDiff, Nat.reduceAdd, Nat.reduceSub, Nat.reduceMul, Nat.reduceLT, Int.reduceLT, Int.reduceLE, Int.reduceAdd, Int.reduceSub, Int.reduceMul, Int.reduceToNat, Int.reduceNeg, Int.reduceEq, Nat.reducePow, Int.reducePow, Nat.reduceEqDiff, decide_true, decide_false, reduceIte, reduceCtorEq, Int.reduceBEq, Int.reduceBNe, bne_self_eq_false, Int.cast_ofNat_Int, Bool.not_true, Bool.not_false, IntKind.bits]
  by_cases h1 : at_ < 0
  · rw [decide_eq_false (p := 0 ≤ at_) (by omega), Bool.false_and, Bool.false_and] at h
    simp (maxSteps := 4000000) (disch := (first | omega | (simp only [set_next, List.length_append, List.length_cons, List.length_nil, List.length_take, List.length_drop, List.length_map, List.length_set, List.length_replicate]; omega) | (simp only [set_next, ne_eq, reduceCtorEq, not_false_eq_true]))) only [go_sem, Nat.reduceLeDiff, Nat.reduceAdd, Nat.reduceSub, Nat.reduceMul, Nat.reduceLT, Int.reduceLT, Int.reduceLE, Int.reduceAdd, Int.reduceSub, Int.reduceMul, Int.reduceToNat, Int.reduceNeg, Int.reduceEq, Nat.reducePow, Int.reducePow, Nat.reduceEqDiff, decide_true, decide_false, reduceIte, reduceCtorEq, Int.reduceBEq, Int.reduceBNe, bne_self_eq_false, Int.cast_ofNat_Int, Bool.not_true, Bool.not_false, IntKind.bits, w_nat, w_lit, w_add, w_addl, w_ladd, w_sub, w_subl, w_lsub, w_mul, w_mull, w_lmul, t_div, t_divl, t_mod, t_modl, i_lt, i_ltl, i_llt, i_le, i_lel, i_lle, i_eq, i_eql, i_leq, Nat.zero_le, d_beq, d_bne, d_bytes, byte_at, Int.toNat_natCast, toNat_lit, decide_eq_true, decide_eq_false, if_pos, if_neg, slA_len, slA_idx, slA_cells, flat_slA, one_slA, cells_slA, map_mid, strV_is, hp_get1, hp_get2, hp_get3, hp_set1, hp_set2, hp_set3, hp_old, hp_sold, set_got, set_set, set_next, set_other, bytesL, bytes_all, List.length_map, aapp_nils, aapp_wr, List.flatMap_cons, List.flatMap_nil, Nat.mul_one]
    exact aret_plain hs (by simp only [u_top, u_bool, u_int, u_str, u_nilp, u_nils, u_nilf, u_nilm, u_nili, u_emp, u_byteV, u_ptr, u_wr, u_agg, u_tup, u_rd, u_imm, u_func, u_nil, u_cons, u_app, uc_nil, uc_cons, uc_app, u_bytes, uc_bytes, u_ints, uc_ints, cells_bool, cells_int, cells_str, cells_agg, cells_ptr, cells_nils, cells_imm, cells_wr, cells_nilp, cells_nilf, cells_nilm, cells_rd, cells_emp, cells_byteV, cells_func, and_self, and_true, true_and, u_slA, uc_strs, cells_slA, strV_is]) (h)
  rw [decide_eq_true (p := 0 ≤ at_) (by omega), Bool.true_and] at h
  obtain ⟨i0, rfl⟩ := Int.eq_ofNat_of_zero_le (Int.not_lt.1 h1)
  by_cases h2 : 24576 ≤ i0
  · have hf : ((List.range 48).any fun k => L.getD k false && decide ((i0 : Int) < ((k + 1) * 512 : Nat)) && decide (((k * 512 : Nat) : Int) < (i0 : Int) + n)) = false := by
      rw [List.any_eq_false]
      intro k hk
      rw [List.mem_range] at hk
      rw [decide_eq_false (p := (i0 : Int) < ((k + 1) * 512 : Nat)) (by omega)]
      simp
    rw [hf, Bool.and_false] at h
    simp (maxSteps := 4000000) (disch := (first | omega | (simp only [set_next, List.length_append, List.length_cons, List.length_nil, List.length_take, List.length_drop, List.length_map, List.length_set, List.length_replicate]; omega) | (simp only [set_next, ne_eq, reduceCtorEq, not_false_eq_true]))) only [go_sem, Nat.reduceLeDiff, Nat.reduceAdd, Nat.reduceSub, Nat.reduceMul, Nat.reduceLT, Int.reduceLT, Int.reduceLE, Int.reduceAdd, Int.reduceSub, Int.reduceMul, Int.reduceToNat, Int.reduceNeg, Int.reduceEq, Nat.reducePow, Int.reducePow, Nat.reduceEqDiff, decide_true, decide_false, reduceIte, reduceCtorEq, Int.reduceBEq, Int.reduceBNe, bne_self_eq_false, Int.cast_ofNat_Int, Bool.not_true, Bool.not_false, IntKind.bits, w_nat, w_lit, w_add, w_addl, w_ladd, w_sub, w_subl, w_lsub, w_mul, w_mull, w_lmul, t_div, t_divl, t_mod, t_modl, i_lt, i_ltl, i_llt, i_le, i_lel, i_lle, i_eq, i_eql, i_leq, Nat.zero_le, d_beq, d_bne, d_bytes, byte_at, Int.toNat_natCast, toNat_lit, decide_eq_true, decide_eq_false, if_pos, if_neg, slA_len, slA_idx, slA_cells, flat_slA, one_slA, cells_slA, map_mid, strV_is, hp_get1, hp_get2, hp_get3, hp_set1, hp_set2, hp_set3, hp_old, hp_sold, set_got, set_set, set_next, set_other, bytesL, bytes_all, List.length_map, aapp_nils, aapp_wr, List.flatMap_cons, List.flatMap_nil, Nat.mul_one]
    exact aret_plain hs (by simp only [u_top, u_bool, u_int, u_str, u_nilp, u_nils, u_nilf, u_nilm, u_nili, u_emp, u_byteV, u_ptr, u_wr, u_agg, u_tup, u_rd, u_imm, u_func, u_nil, u_cons, u_app, uc_nil, uc_cons, uc_app, u_bytes, uc_bytes, u_ints, uc_ints, cells_bool, cells_int, cells_str, cells_agg, cells_ptr, cells_nils, cells_imm, cells_wr, cells_nilp, cells_nilf, cells_nilm, cells_rd, cells_emp, cells_byteV, cells_func, and_self, and_true, true_and, u_slA, uc_strs, cells_slA, strV_is]) (h)
  by_cases h3 : n = 0
  · rw [decide_eq_false (p := 0 < n) (by omega), Bool.false_and] at h
    simp (maxSteps := 4000000) (disch := (first | omega | (simp only [set_next, List.length_append, List.length_cons, List.length_nil, List.length_take, List.length_drop, List.length_map, List.length_set, List.length_replicate]; omega) | (simp only [set_next, ne_eq, reduceCtorEq, not_false_eq_true]))) only [go_sem, Nat.reduceLeDiff, Nat.reduceAdd, Nat.reduceSub, Nat.reduceMul, Nat.reduceLT, Int.reduceLT, Int.reduceLE, Int.reduceAdd, Int.reduceSub, Int.reduceMul, Int.reduceToNat, Int.reduceNeg, Int.reduceEq, Nat.reducePow, Int.reducePow, Nat.reduceEqDiff, decide_true, decide_false, reduceIte, reduceCtorEq, Int.reduceBEq, Int.reduceBNe, bne_self_eq_false, Int.cast_ofNat_Int, Bool.not_true, Bool.not_false, IntKind.bits, w_nat, w_lit, w_add, w_addl, w_ladd, w_sub, w_subl, w_lsub, w_mul, w_mull, w_lmul, t_div, t_divl, t_mod, t_modl, i_lt, i_ltl, i_llt, i_le, i_lel, i_lle, i_eq, i_eql, i_leq, Nat.zero_le, d_beq, d_bne, d_bytes, byte_at, Int.toNat_natCast, toNat_lit, decide_eq_true, decide_eq_false, if_pos, if_neg, slA_len, slA_idx, slA_cells, flat_slA, one_slA, cells_slA, map_mid, strV_is, hp_get1, hp_get2, hp_get3, hp_set1, hp_set2, hp_set3, hp_old, hp_sold, set_got, set_set, set_next, set_other, bytesL, bytes_all, List.length_map, aapp_nils, aapp_wr, List.flatMap_cons, List.flatMap_nil, Nat.mul_one]
    exact aret_plain hs (by simp only [u_top, u_bool, u_int, u_str, u_nilp, u_nils, u_nilf, u_nilm, u_nili, u_emp, u_byteV, u_ptr, u_wr, u_agg, u_tup, u_rd, u_imm, u_func, u_nil, u_cons, u_app, uc_nil, uc_cons, uc_app, u_bytes, uc_bytes, u_ints, uc_ints, cells_bool, cells_int, cells_str, cells_agg, cells_ptr, cells_nils, cells_imm, cells_wr, cells_nilp, cells_nilf, cells_nilm, cells_rd, cells_emp, cells_byteV, cells_func, and_self, and_true, true_and, u_slA, uc_strs, cells_slA, strV_is]) (h)
  rw [decide_eq_true (p := 0 < n) (by omega), Bool.true_and] at h
  have hbst : (if n < 24576 - i0 then (n : Int) else ((24576 - i0 : Nat) : Int)) = ((min n (24576 - i0) : Nat) : Int) := by split <;> omega
  have hbst2 : (if 24576 - i0 < n then ((24576 - i0 : Nat) : Int) else (n : Int)) = ((min n (24576 - i0) : Nat) : Int) := by split <;> omega
  generalize hm : min n (24576 - i0) = m at *
  simp (maxSteps := 4000000) (disch := (first | omega | (simp only [set_next, List.length_append, List.length_cons, List.length_nil, List.length_take, List.length_drop, List.length_map, List.length_set, List.length_replicate]; omega) | (simp only [set_next, ne_eq, reduceCtorEq, not_false_eq_true]))) only [hbst, hbst2, go_sem, Nat.reduceLeDiff, Nat.reduceAdd, Nat.reduceSub, Nat.reduceMul, Nat.reduceLT, Int.reduceLT, Int.reduceLE, Int.reduceAdd, Int.reduceSub, Int.reduceMul, Int.reduceToNat, Int.reduceNeg, Int.reduceEq, Nat.reducePow, Int.reducePow, Nat.reduceEqDiff, decide_true, decide_false, reduceIte, reduceCtorEq, Int.reduceBEq, Int.reduceBNe, bne_self_eq_false, Int.cast_ofNat_Int, Bool.not_true, Bool.not_false, IntKind.bits, w_nat, w_lit, w_add, w_addl, w_ladd, w_sub, w_subl, w_lsub, w_mul, w_mull, w_lmul, t_div, t_divl, t_mod, t_modl, i_lt, i_ltl, i_llt, i_le, i_lel, i_lle, i_eq, i_eql, i_leq, Nat.zero_le, d_beq, d_bne, d_bytes, byte_at, Int.toNat_natCast, toNat_lit, decide_eq_true, decide_eq_false, if_pos, if_neg, slA_len, slA_idx, slA_cells, flat_slA, one_slA, cells_slA, map_mid, strV_is, hp_get1, hp_get2, hp_get3, hp_set1, hp_set2, hp_set3, hp_old, hp_sold, set_got, set_set, set_next, set_other, bytesL, bytes_all, List.length_map, aapp_nils, aapp_wr, List.flatMap_cons, List.flatMap_nil, Nat.mul_one]
  refine go_loopS mono (σ := Nat) (fun i => [(8, .int .i64 (i : Int))]) (fun i => hp H []) (fun i => i0 / 512 ≤ i ∧ i ≤ 48 ∧ ∀ j, i0 / 512 ≤ j → j < i → L.getD j false = false) (fun i => 48 - i) (i0 / 512) ?_ rfl ⟨Nat.le_refl _, by omega, fun j h1 h2 => by omega⟩ (fun i hi J hJ => ?_)
  · (simp only [blurR_nil, blurR_some, blurR_none, blurC_region, blurC_regionN, blurC_fregion, blurT_nil, blurT_cons, blurC_seq, blurC_cond, blurC_block, blurC_loop, blurC_skip, blurC_exit, blurC_ret, tellS_nil, tellS_cons, List.set_cons_zero, List.set_cons_succ, tops_zero, tops_succ]; repeat first | exact forget_nil | apply forget_keep | apply forget_top)
  obtain ⟨hi1, hi2, hi3⟩ := hi
  simp only [blurR_nil, blurR_some, blurR_none, blurC_region, blurC_regionN, blurC_fregion, blurT_nil, blurT_cons, blurC_seq, blurC_cond, blurC_block, blurC_loop, blurC_skip, blurC_exit, blurC_ret, tellS_nil, tellS_cons, List.set_cons_zero, List.set_cons_succ, tops_zero, tops_succ]
  by_cases h4 : i ≤ (i0 + m - 1) / 512
  · simp (maxSteps := 4000000) (disch := (first | omega | (simp only [set_next, List.length_append, List.length_cons, List.length_nil, List.length_take, List.length_drop, List.length_map, List.length_set, List.length_replicate]; omega) | (simp only [set_next, ne_eq, reduceCtorEq, not_false_eq_true]))) only [go_sem, Nat.reduceLeDiff, Nat.reduceAdd, Nat.reduceSub, Nat.reduceMul, Nat.reduceLT, Int.reduceLT, Int.reduceLE, Int.reduceAdd, Int.reduceSub, Int.reduceMul, Int.reduceToNat, Int.reduceNeg, Int.reduceEq, Nat.reducePow, Int.reducePow, Nat.reduceEqDiff, decide_true, decide_false, reduceIte, reduceCtorEq, Int.reduceBEq, Int.reduceBNe, bne_self_eq_false, Int.cast_ofNat_Int, Bool.not_true, Bool.not_false, IntKind.bits, w_nat, w_lit, w_add, w_addl, w_ladd, w_sub, w_subl, w_lsub, w_mul, w_mull, w_lmul, t_div, t_divl, t_mod, t_modl, i_lt, i_ltl, i_llt, i_le, i_lel, i_lle, i_eq, i_eql, i_leq, Nat.zero_le, d_beq, d_bne, d_bytes, byte_at, Int.toNat_natCast, toNat_lit, decide_eq_true, decide_eq_false, if_pos, if_neg, slA_len, slA_idx, slA_cells, flat_slA, one_slA, cells_slA, map_mid, strV_is, hp_get1, hp_get2, hp_get3, hp_set1, hp_set2, hp_set3, hp_old, hp_sold, set_got, set_set, set_next, set_other, bytesL, bytes_all, List.length_map, aapp_nils, aapp_wr, List.flatMap_cons, List.flatMap_nil, Nat.mul_one]
    refine gis_a (by rw [hp_nil]; exact hg) hL ?_
    cases h5 : gis L (i : Int) with
    | true =>
      obtain ⟨h6, h7⟩ := gis_nat.1 h5
      have hf : ((List.range 48).any fun k => L.getD k false && decide ((i0 : Int) < ((k + 1) * 512 : Nat)) && decide (((k * 512 : Nat) : Int) < (i0 : Int) + n)) = true := by
        rw [List.any_eq_true]
        refine ⟨i, List.mem_range.2 h6, ?_⟩
        rw [h7, decide_eq_true (p := (i0 : Int) < ((i + 1) * 512 : Nat)) (by omega), decide_eq_true (by omega)]
        rfl
      rw [hf] at h
      simp (maxSteps := 4000000) (disch := (first | omega | (simp only [set_next, List.length_append, List.length_cons, List.length_nil, List.length_take, List.length_drop, List.length_map, List.length_set, List.length_replicate]; omega) | (simp only [set_next, ne_eq, reduceCtorEq, not_false_eq_true]))) only [go_sem, Nat.reduceLeDiff, Nat.reduceAdd, Nat.reduceSub, Nat.reduceMul, Nat.reduceLT, Int.reduceLT, Int.reduceLE, Int.reduceAdd, Int.reduceSub, Int.reduceMul, Int.reduceToNat, Int.reduceNeg, Int.reduceEq, Nat.reducePow, Int.reducePow, Nat.reduceEqDiff, decide_true, decide_false, reduceIte, reduceCtorEq, Int.reduceBEq, Int.reduceBNe, bne_self_eq_false, Int.cast_ofNat_Int, Bool.not_true, Bool.not_false, IntKind.bits, w_nat, w_lit, w_add, w_addl, w_ladd, w_sub, w_subl, w_lsub, w_mul, w_mull, w_lmul, t_div, t_divl, t_mod, t_modl, i_lt, i_ltl, i_llt, i_le, i_lel, i_lle, i_eq, i_eql, i_leq, Nat.zero_le, d_beq, d_bne, d_bytes, byte_at, Int.toNat_natCast, toNat_lit, decide_eq_true, decide_eq_false, if_pos, if_neg, slA_len, slA_idx, slA_cells, flat_slA, one_slA, cells_slA, map_mid, strV_is, hp_get1, hp_get2, hp_get3, hp_set1, hp_set2, hp_set3, hp_old, hp_sold, set_got, set_set, set_next, set_other, bytesL, bytes_all, List.length_map, aapp_nils, aapp_wr, List.flatMap_cons, List.flatMap_nil, Nat.mul_one]
      exact aret_plain hs (by simp only [u_top, u_bool, u_int, u_str, u_nilp, u_nils, u_nilf, u_nilm, u_nili, u_emp, u_byteV, u_ptr, u_wr, u_agg, u_tup, u_rd, u_imm, u_func, u_nil, u_cons, u_app, uc_nil, uc_cons, uc_app, u_bytes, uc_bytes, u_ints, uc_ints, cells_bool, cells_int, cells_str, cells_agg, cells_ptr, cells_nils, cells_imm, cells_wr, cells_nilp, cells_nilf, cells_nilm, cells_rd, cells_emp, cells_byteV, cells_func, and_self, and_true, true_and, u_slA, uc_strs, cells_slA, strV_is]) (h)
    | false =>
      simp (maxSteps := 4000000) (disch := (first | omega | (simp only [set_next, List.length_append, List.length_cons, List.length_nil, List.length_take, List.length_drop, List.length_map, List.length_set, List.length_replicate]; omega) | (simp only [set_next, ne_eq, reduceCtorEq, not_false_eq_true]))) only [go_sem, Nat.reduceLeDiff, Nat.reduceAdd, Nat.reduceSub, Nat.reduceMul, Nat.reduceLT, Int.reduceLT, Int.reduceLE, Int.reduceAdd, Int.reduceSub, Int.reduceMul, Int.reduceToNat, Int.reduceNeg, Int.reduceEq, Nat.reducePow, Int.reducePow, Nat.reduceEqDiff, decide_true, decide_false, reduceIte, reduceCtorEq, Int.reduceBEq, Int.reduceBNe, bne_self_eq_false, Int.cast_ofNat_Int, Bool.not_true, Bool.not_false, IntKind.bits, w_nat, w_lit, w_add, w_addl, w_ladd, w_sub, w_subl, w_lsub, w_mul, w_mull, w_lmul, t_div, t_divl, t_mod, t_modl, i_lt, i_ltl, i_llt, i_le, i_lel, i_lle, i_eq, i_eql, i_leq, Nat.zero_le, d_beq, d_bne, d_bytes, byte_at, Int.toNat_natCast, toNat_lit, decide_eq_true, decide_eq_false, if_pos, if_neg, slA_len, slA_idx, slA_cells, flat_slA, one_slA, cells_slA, map_mid, strV_is, hp_get1, hp_get2, hp_get3, hp_set1, hp_set2, hp_set3, hp_old, hp_sold, set_got, set_set, set_next, set_other, bytesL, bytes_all, List.length_map, aapp_nils, aapp_wr, List.flatMap_cons, List.flatMap_nil, Nat.mul_one]
      refine hJ (i + 1) _ ⟨by omega, by omega, fun j h1 h2 => ?_⟩ (by omega) (by (simp only [blurR_nil, blurR_some, blurR_none, blurC_region, blurC_regionN, blurC_fregion, blurT_nil, blurT_cons, blurC_seq, blurC_cond, blurC_block, blurC_loop, blurC_skip, blurC_exit, blurC_ret, tellS_nil, tellS_cons, List.set_cons_zero, List.set_cons_succ, tops_zero, tops_succ]; repeat first | exact forget_nil | apply forget_keep | apply forget_top))
      by_cases h6 : j = i
      · subst h6
        cases h7 : L.getD j false with
        | false => rfl
        | true => rw [gis_nat.2 ⟨by omega, h7⟩] at h5; cases h5
      · exact hi3 j h1 (by omega)
  · have hf : ((List.range 48).any fun k => L.getD k false && decide ((i0 : Int) < ((k + 1) * 512 : Nat)) && decide (((k * 512 : Nat) : Int) < (i0 : Int) + n)) = false := by
      rw [List.any_eq_false]
      intro k hk
      rw [List.mem_range] at hk
      by_cases h5 : (i0 : Int) < ((k + 1) * 512 : Nat)
      · by_cases h6 : ((k * 512 : Nat) : Int) < (i0 : Int) + n
        · rw [hi3 k (by omega) (by omega)]
          simp
        · rw [decide_eq_false h6]
          simp
      · rw [decide_eq_false h5]
        simp
    rw [hf] at h
    simp (maxSteps := 4000000) (disch := (first | omega | (simp only [set_next, List.length_append, List.length_cons, List.length_nil, List.length_take, List.length_drop, List.length_map, List.length_set, List.length_replicate]; omega) | (simp only [set_next, ne_eq, reduceCtorEq, not_false_eq_true]))) only [go_sem, Nat.reduceLeDiff, Nat.reduceAdd, Nat.reduceSub, Nat.reduceMul, Nat.reduceLT, Int.reduceLT, Int.reduceLE, Int.reduceAdd, Int.reduceSub, Int.reduceMul, Int.reduceToNat, Int.reduceNeg, Int.reduceEq, Nat.reducePow, Int.reducePow, Nat.reduceEqDiff, decide_true, decide_false, reduceIte, reduceCtorEq, Int.reduceBEq, Int.reduceBNe, bne_self_eq_false, Int.cast_ofNat_Int, Bool.not_true, Bool.not_false, IntKind.bits, w_nat, w_lit, w_add, w_addl, w_ladd, w_sub, w_subl, w_lsub, w_mul, w_mull, w_lmul, t_div, t_divl, t_mod, t_modl, i_lt, i_ltl, i_llt, i_le, i_lel, i_lle, i_eq, i_eql, i_leq, Nat.zero_le, d_beq, d_bne, d_bytes, byte_at, Int.toNat_natCast, toNat_lit, decide_eq_true, decide_eq_false, if_pos, if_neg, slA_len, slA_idx, slA_cells, flat_slA, one_slA, cells_slA, map_mid, strV_is, hp_get1, hp_get2, hp_get3, hp_set1, hp_set2, hp_set3, hp_old, hp_sold, set_got, set_set, set_next, set_other, bytesL, bytes_all, List.length_map, aapp_nils, aapp_wr, List.flatMap_cons, List.flatMap_nil, Nat.mul_one]
    exact aret_plain hs (by simp only [u_top, u_bool, u_int, u_str, u_nilp, u_nils, u_nilf, u_nilm, u_nili, u_emp, u_byteV, u_ptr, u_wr, u_agg, u_tup, u_rd, u_imm, u_func, u_nil, u_cons, u_app, uc_nil, uc_cons, uc_app, u_bytes, uc_bytes, u_ints, uc_ints, cells_bool, cells_int, cells_str, cells_agg, cells_ptr, cells_nils, cells_imm, cells_wr, cells_nilp, cells_nilf, cells_nilm, cells_rd, cells_emp, cells_byteV, cells_func, and_self, and_true, true_and, u_slA, uc_strs, cells_slA, strV_is]) (h)
def gErase (L : List Bool) (x : Chp) (s : Int) : Chp × Int := if gis L s = true then (x, 3) else x.erase s
def gWrite (L : List Bool) (x : Chp) (at_ : Int) (s : List UInt8) : Chp × Int := if gbars L at_ s.length = true then (x, 3) else x.write at_ s
theorem gerase_a (o : GOk H b c g L) (hl : x.l.length = 24576) {s : Int} (h : K (.int .i64 (gErase L x s).2) (chipAt H b c (gErase L x s).1)) : (ACalls Try.prog) 62 [.ptr g 0 0, .int .i64 s] (chipAt H b c x) K := by
  refine acalls_go mo t62 (fun hs hu => ?_)
  have hin0 : ∀ y : Chp, (chipAt H b c y).within (chipAt H b c x).next := fun y => chip_in o.ok hs
  have hg := gok_get o
  unfold gErase at h
  simp only [c62, go_sem, Nat.reduceLeDiff, Nat.reduceAdd, Nat.reduceSub, Nat.reduceMul, Nat.reduceLT, Int.reduceLT, Int.reduceLE, Int.reduceAdd, Int.reduceSub, Int.reduceMul, Int.reduceToNat, Int.reduceNeg, Int.reduceEq, Nat.reducePow, Int.reducePow, Nat.reduceEqDiff, decide_true, decide_false, reduceIte, reduceCtorEq, Int.reduceBEq, Int.reduceBNe, bne_self_eq_false, Int.cast_ofNat_Int, Bool.not_true, Bool.not_false, IntKind.bits]
  refine gis_a (by rw [hp_nil]; exact hg x) o.len ?_
  cases h1 : gis L s with
  | true =>
    rw [if_pos h1] at h
    simp (maxSteps := 4000000) (disch := (first | omega | (simp only [set_next, List.length_append, List.length_cons, List.length_nil, List.length_take, List.length_drop, List.length_map, List.length_set, List.length_replicate]; omega) | (simp only [set_next, ne_eq, reduceCtorEq, not_false_eq_true]))) only [go_sem, Nat.reduceLeDiff, Nat.reduceAdd, Nat.reduceSub, Nat.reduceMul, Nat.reduceLT, Int.reduceLT, Int.reduceLE, Int.reduceAdd, Int.reduceSub, Int.reduceMul, Int.reduceToNat, Int.reduceNeg, Int.reduceEq, Nat.reducePow, Int.reducePow, Nat.reduceEqDiff, decide_true, decide_false, reduceIte, reduceCtorEq, Int.reduceBEq, Int.reduceBNe, bne_self_eq_false, Int.cast_ofNat_Int, Bool.not_true, Bool.not_false, IntKind.bits, w_nat, w_lit, w_add, w_addl, w_ladd, w_sub, w_subl, w_lsub, w_mul, w_mull, w_lmul, t_div, t_divl, t_mod, t_modl, i_lt, i_ltl, i_llt, i_le, i_lel, i_lle, i_eq, i_eql, i_leq, Nat.zero_le, d_beq, d_bne, d_bytes, byte_at, Int.toNat_natCast, toNat_lit, decide_eq_true, decide_eq_false, if_pos, if_neg, slA_len, slA_idx, slA_cells, flat_slA, one_slA, cells_slA, map_mid, strV_is, hp_get1, hp_get2, hp_get3, hp_set1, hp_set2, hp_set3, hp_old, hp_sold, set_got, set_set, set_next, set_other, bytesL, bytes_all, List.length_map, aapp_nils, aapp_wr, List.flatMap_cons, List.flatMap_nil, Nat.mul_one]
    exact aret_old rfl (hin0 _) (.int _ _) h
  | false =>
    rw [if_neg (by simp [h1])] at h
    simp (maxSteps := 4000000) (disch := (first | omega | (simp only [set_next, List.length_append, List.length_cons, List.length_nil, List.length_take, List.length_drop, List.length_map, List.length_set, List.length_replicate]; omega) | (simp only [set_next, ne_eq, reduceCtorEq, not_false_eq_true]))) only [go_sem, Nat.reduceLeDiff, Nat.reduceAdd, Nat.reduceSub, Nat.reduceMul, Nat.reduceLT, Int.reduceLT, Int.reduceLE, Int.reduceAdd, Int.reduceSub, Int.reduceMul, Int.reduceToNat, Int.reduceNeg, Int.reduceEq, Nat.reducePow, Int.reducePow, Nat.reduceEqDiff, decide_true, decide_false, reduceIte, reduceCtorEq, Int.reduceBEq, Int.reduceBNe, bne_self_eq_false, Int.cast_ofNat_Int, Bool.not_true, Bool.not_false, IntKind.bits, w_nat, w_lit, w_add, w_addl, w_ladd, w_sub, w_subl, w_lsub, w_mul, w_mull, w_lmul, t_div, t_divl, t_mod, t_modl, i_lt, i_ltl, i_llt, i_le, i_lel, i_lle, i_eq, i_eql, i_leq, Nat.zero_le, d_beq, d_bne, d_bytes, byte_at, Int.toNat_natCast, toNat_lit, decide_eq_true, decide_eq_false, if_pos, if_neg, slA_len, slA_idx, slA_cells, flat_slA, one_slA, cells_slA, map_mid, strV_is, hp_get1, hp_get2, hp_get3, hp_set1, hp_set2, hp_set3, hp_old, hp_sold, set_got, set_set, set_next, set_other, bytesL, bytes_all, List.length_map, aapp_nils, aapp_wr, List.flatMap_cons, List.flatMap_nil, Nat.mul_one]
    refine gchip_a (L := L) (by rw [hp_nil]; exact hg x) ?_
    simp (maxSteps := 4000000) (disch := (first | omega | (simp only [set_next, List.length_append, List.length_cons, List.length_nil, List.length_take, List.length_drop, List.length_map, List.length_set, List.length_replicate]; omega) | (simp only [set_next, ne_eq, reduceCtorEq, not_false_eq_true]))) only [go_sem, Nat.reduceLeDiff, Nat.reduceAdd, Nat.reduceSub, Nat.reduceMul, Nat.reduceLT, Int.reduceLT, Int.reduceLE, Int.reduceAdd, Int.reduceSub, Int.reduceMul, Int.reduceToNat, Int.reduceNeg, Int.reduceEq, Nat.reducePow, Int.reducePow, Nat.reduceEqDiff, decide_true, decide_false, reduceIte, reduceCtorEq, Int.reduceBEq, Int.reduceBNe, bne_self_eq_false, Int.cast_ofNat_Int, Bool.not_true, Bool.not_false, IntKind.bits, w_nat, w_lit, w_add, w_addl, w_ladd, w_sub, w_subl, w_lsub, w_mul, w_mull, w_lmul, t_div, t_divl, t_mod, t_modl, i_lt, i_ltl, i_llt, i_le, i_lel, i_lle, i_eq, i_eql, i_leq, Nat.zero_le, d_beq, d_bne, d_bytes, byte_at, Int.toNat_natCast, toNat_lit, decide_eq_true, decide_eq_false, if_pos, if_neg, slA_len, slA_idx, slA_cells, flat_slA, one_slA, cells_slA, map_mid, strV_is, hp_get1, hp_get2, hp_get3, hp_set1, hp_set2, hp_set3, hp_old, hp_sold, set_got, set_set, set_next, set_other, bytesL, bytes_all, List.length_map, aapp_nils, aapp_wr, List.flatMap_cons, List.flatMap_nil, Nat.mul_one]
    refine erase_l o.ok hl ?_
    simp (maxSteps := 4000000) (disch := (first | omega | (simp only [set_next, List.length_append, List.length_cons, List.length_nil, List.length_take, List.length_drop, List.length_map, List.length_set, List.length_replicate]; omega) | (simp only [set_next, ne_eq, reduceCtorEq, not_false_eq_true]))) only [go_sem, Nat.reduceLeDiff, Nat.reduceAdd, Nat.reduceSub, Nat.reduceMul, Nat.reduceLT, Int.reduceLT, Int.reduceLE, Int.reduceAdd, Int.reduceSub, Int.reduceMul, Int.reduceToNat, Int.reduceNeg, Int.reduceEq, Nat.reducePow, Int.reducePow, Nat.reduceEqDiff, decide_true, decide_false, reduceIte, reduceCtorEq, Int.reduceBEq, Int.reduceBNe, bne_self_eq_false, Int.cast_ofNat_Int, Bool.not_true, Bool.not_false, IntKind.bits, w_nat, w_lit, w_add, w_addl, w_ladd, w_sub, w_subl, w_lsub, w_mul, w_mull, w_lmul, t_div, t_divl, t_mod, t_modl, i_lt, i_ltl, i_llt, i_le, i_lel, i_lle, i_eq, i_eql, i_leq, Nat.zero_le, d_beq, d_bne, d_bytes, byte_at, Int.toNat_natCast, toNat_lit, decide_eq_true, decide_eq_false, if_pos, if_neg, slA_len, slA_idx, slA_cells, flat_slA, one_slA, cells_slA, map_mid, strV_is, hp_get1, hp_get2, hp_get3, hp_set1, hp_set2, hp_set3, hp_old, hp_sold, set_got, set_set, set_next, set_other, bytesL, bytes_all, List.length_map, aapp_nils, aapp_wr, List.flatMap_cons, List.flatMap_nil, Nat.mul_one]
    exact aret_old rfl (hin0 _) (.int _ _) h
theorem gwrite_a (o : GOk H b c g L) (hl : x.l.length = 24576) {at_ : Int} {s : List UInt8} (hn : s.length ≤ 9223372036854775807) (h : K (.int .i64 (gWrite L x at_ s).2) (chipAt H b c (gWrite L x at_ s).1)) : (ACalls Try.prog) 63 [.ptr g 0 0, .int .i64 at_, .str (B s)] (chipAt H b c x) K := by
  refine acalls_go mo t63 (fun hs hu => ?_)
  have hin0 : ∀ y : Chp, (chipAt H b c y).within (chipAt H b c x).next := fun y => chip_in o.ok hs
  have hg := gok_get o
  unfold gWrite at h
  simp only [c63, go_sem, Nat.reduceLeDiff, Nat.reduceAdd, Nat.reduceSub, Nat.reduceMul, Nat.reduceLT, Int.reduceLT, Int.reduceLE, Int.reduceAdd, Int.reduceSub, Int.reduceMul, Int.reduceToNat, Int.reduceNeg, Int.reduceEq, Nat.reducePow, Int.reducePow, Nat.reduceEqDiff, decide_true, decide_false, reduceIte, reduceCtorEq, Int.reduceBEq, Int.reduceBNe, bne_self_eq_false, Int.cast_ofNat_Int, Bool.not_true, Bool.not_false, IntKind.bits]
  refine bars_a (by rw [hp_nil]; exact hg x) o.len hn ?_
  cases h1 : gbars L at_ s.length with
  | true =>
    rw [if_pos h1] at h
    simp (maxSteps := 4000000) (disch := (first | omega | (simp only [set_next, List.length_append, List.length_cons, List.length_nil, List.length_take, List.length_drop, List.length_map, List.length_set, List.length_replicate]; omega) | (simp only [set_next, ne_eq, reduceCtorEq, not_false_eq_true]))) only [go_sem, Nat.reduceLeDiff, Nat.reduceAdd, Nat.reduceSub, Nat.reduceMul, Nat.reduceLT, Int.reduceLT, Int.reduceLE, Int.reduceAdd, Int.reduceSub, Int.reduceMul, Int.reduceToNat, Int.reduceNeg, Int.reduceEq, Nat.reducePow, Int.reducePow, Nat.reduceEqDiff, decide_true, decide_false, reduceIte, reduceCtorEq, Int.reduceBEq, Int.reduceBNe, bne_self_eq_false, Int.cast_ofNat_Int, Bool.not_true, Bool.not_false, IntKind.bits, w_nat, w_lit, w_add, w_addl, w_ladd, w_sub, w_subl, w_lsub, w_mul, w_mull, w_lmul, t_div, t_divl, t_mod, t_modl, i_lt, i_ltl, i_llt, i_le, i_lel, i_lle, i_eq, i_eql, i_leq, Nat.zero_le, d_beq, d_bne, d_bytes, byte_at, Int.toNat_natCast, toNat_lit, decide_eq_true, decide_eq_false, if_pos, if_neg, slA_len, slA_idx, slA_cells, flat_slA, one_slA, cells_slA, map_mid, strV_is, hp_get1, hp_get2, hp_get3, hp_set1, hp_set2, hp_set3, hp_old, hp_sold, set_got, set_set, set_next, set_other, bytesL, bytes_all, List.length_map, aapp_nils, aapp_wr, List.flatMap_cons, List.flatMap_nil, Nat.mul_one]
    exact aret_old rfl (hin0 _) (.int _ _) h
  | false =>
    rw [if_neg (by simp [h1])] at h
    simp (maxSteps := 4000000) (disch := (first | omega | (simp only [set_next, List.length_append, List.length_cons, List.length_nil, List.length_take, List.length_drop, List.length_map, List.length_set, List.length_replicate]; omega) | (simp only [set_next, ne_eq, reduceCtorEq, not_false_eq_true]))) only [go_sem, Nat.reduceLeDiff, Nat.reduceAdd, Nat.reduceSub, Nat.reduceMul, Nat.reduceLT, Int.reduceLT, Int.reduceLE, Int.reduceAdd, Int.reduceSub, Int.reduceMul, Int.reduceToNat, Int.reduceNeg, Int.reduceEq, Nat.reducePow, Int.reducePow, Nat.reduceEqDiff, decide_true, decide_false, reduceIte, reduceCtorEq, Int.reduceBEq, Int.reduceBNe, bne_self_eq_false, Int.cast_ofNat_Int, Bool.not_true, Bool.not_false, IntKind.bits, w_nat, w_lit, w_add, w_addl, w_ladd, w_sub, w_subl, w_lsub, w_mul, w_mull, w_lmul, t_div, t_divl, t_mod, t_modl, i_lt, i_ltl, i_llt, i_le, i_lel, i_lle, i_eq, i_eql, i_leq, Nat.zero_le, d_beq, d_bne, d_bytes, byte_at, Int.toNat_natCast, toNat_lit, decide_eq_true, decide_eq_false, if_pos, if_neg, slA_len, slA_idx, slA_cells, flat_slA, one_slA, cells_slA, map_mid, strV_is, hp_get1, hp_get2, hp_get3, hp_set1, hp_set2, hp_set3, hp_old, hp_sold, set_got, set_set, set_next, set_other, bytesL, bytes_all, List.length_map, aapp_nils, aapp_wr, List.flatMap_cons, List.flatMap_nil, Nat.mul_one]
    refine gchip_a (L := L) (by rw [hp_nil]; exact hg x) ?_
    simp (maxSteps := 4000000) (disch := (first | omega | (simp only [set_next, List.length_append, List.length_cons, List.length_nil, List.length_take, List.length_drop, List.length_map, List.length_set, List.length_replicate]; omega) | (simp only [set_next, ne_eq, reduceCtorEq, not_false_eq_true]))) only [go_sem, Nat.reduceLeDiff, Nat.reduceAdd, Nat.reduceSub, Nat.reduceMul, Nat.reduceLT, Int.reduceLT, Int.reduceLE, Int.reduceAdd, Int.reduceSub, Int.reduceMul, Int.reduceToNat, Int.reduceNeg, Int.reduceEq, Nat.reducePow, Int.reducePow, Nat.reduceEqDiff, decide_true, decide_false, reduceIte, reduceCtorEq, Int.reduceBEq, Int.reduceBNe, bne_self_eq_false, Int.cast_ofNat_Int, Bool.not_true, Bool.not_false, IntKind.bits, w_nat, w_lit, w_add, w_addl, w_ladd, w_sub, w_subl, w_lsub, w_mul, w_mull, w_lmul, t_div, t_divl, t_mod, t_modl, i_lt, i_ltl, i_llt, i_le, i_lel, i_lle, i_eq, i_eql, i_leq, Nat.zero_le, d_beq, d_bne, d_bytes, byte_at, Int.toNat_natCast, toNat_lit, decide_eq_true, decide_eq_false, if_pos, if_neg, slA_len, slA_idx, slA_cells, flat_slA, one_slA, cells_slA, map_mid, strV_is, hp_get1, hp_get2, hp_get3, hp_set1, hp_set2, hp_set3, hp_old, hp_sold, set_got, set_set, set_next, set_other, bytesL, bytes_all, List.length_map, aapp_nils, aapp_wr, List.flatMap_cons, List.flatMap_nil, Nat.mul_one]
    refine write_l o.ok hl ?_
    simp (maxSteps := 4000000) (disch := (first | omega | (simp only [set_next, List.length_append, List.length_cons, List.length_nil, List.length_take, List.length_drop, List.length_map, List.length_set, List.length_replicate]; omega) | (simp only [set_next, ne_eq, reduceCtorEq, not_false_eq_true]))) only [go_sem, Nat.reduceLeDiff, Nat.reduceAdd, Nat.reduceSub, Nat.reduceMul, Nat.reduceLT, Int.reduceLT, Int.reduceLE, Int.reduceAdd, Int.reduceSub, Int.reduceMul, Int.reduceToNat, Int.reduceNeg, Int.reduceEq, Nat.reducePow, Int.reducePow, Nat.reduceEqDiff, decide_true, decide_false, reduceIte, reduceCtorEq, Int.reduceBEq, Int.reduceBNe, bne_self_eq_false, Int.cast_ofNat_Int, Bool.not_true, Bool.not_false, IntKind.bits, w_nat, w_lit, w_add, w_addl, w_ladd, w_sub, w_subl, w_lsub, w_mul, w_mull, w_lmul, t_div, t_divl, t_mod, t_modl, i_lt, i_ltl, i_llt, i_le, i_lel, i_lle, i_eq, i_eql, i_leq, Nat.zero_le, d_beq, d_bne, d_bytes, byte_at, Int.toNat_natCast, toNat_lit, decide_eq_true, decide_eq_false, if_pos, if_neg, slA_len, slA_idx, slA_cells, flat_slA, one_slA, cells_slA, map_mid, strV_is, hp_get1, hp_get2, hp_get3, hp_set1, hp_set2, hp_set3, hp_old, hp_sold, set_got, set_set, set_next, set_other, bytesL, bytes_all, List.length_map, aapp_nils, aapp_wr, List.flatMap_cons, List.flatMap_nil, Nat.mul_one]
    exact aret_old rfl (hin0 _) (.int _ _) h
theorem gread_a (o : GOk H b c g L) (hl : x.l.length = 24576) {at_ n : Int} (h : K (x.read at_ n) (chipAt H b c x)) : (ACalls Try.prog) 65 [.ptr g 0 0, .int .i64 at_, .int .i64 n] (chipAt H b c x) K := by
  refine acalls_go mo t65 (fun hs hu => ?_)
  have hg := gok_get o
  simp only [c65, go_sem, Nat.reduceLeDiff, Nat.reduceAdd, Nat.reduceSub, Nat.reduceMul, Nat.reduceLT, Int.reduceLT, Int.reduceLE, Int.reduceAdd, Int.reduceSub, Int.reduceMul, Int.reduceToNat, Int.reduceNeg, Int.reduceEq, Nat.reducePow, Int.reducePow, Nat.reduceEqDiff, decide_true, decide_false, reduceIte, reduceCtorEq, Int.reduceBEq, Int.reduceBNe, bne_self_eq_false, Int.cast_ofNat_Int, Bool.not_true, Bool.not_false, IntKind.bits]
  refine gchip_a (L := L) (by rw [hp_nil]; exact hg x) ?_
  simp (maxSteps := 4000000) (disch := (first | omega | (simp only [set_next, List.length_append, List.length_cons, List.length_nil, List.length_take, List.length_drop, List.length_map, List.length_set, List.length_replicate]; omega) | (simp only [set_next, ne_eq, reduceCtorEq, not_false_eq_true]))) only [go_sem, Nat.reduceLeDiff, Nat.reduceAdd, Nat.reduceSub, Nat.reduceMul, Nat.reduceLT, Int.reduceLT, Int.reduceLE, Int.reduceAdd, Int.reduceSub, Int.reduceMul, Int.reduceToNat, Int.reduceNeg, Int.reduceEq, Nat.reducePow, Int.reducePow, Nat.reduceEqDiff, decide_true, decide_false, reduceIte, reduceCtorEq, Int.reduceBEq, Int.reduceBNe, bne_self_eq_false, Int.cast_ofNat_Int, Bool.not_true, Bool.not_false, IntKind.bits, w_nat, w_lit, w_add, w_addl, w_ladd, w_sub, w_subl, w_lsub, w_mul, w_mull, w_lmul, t_div, t_divl, t_mod, t_modl, i_lt, i_ltl, i_llt, i_le, i_lel, i_lle, i_eq, i_eql, i_leq, Nat.zero_le, d_beq, d_bne, d_bytes, byte_at, Int.toNat_natCast, toNat_lit, decide_eq_true, decide_eq_false, if_pos, if_neg, slA_len, slA_idx, slA_cells, flat_slA, one_slA, cells_slA, map_mid, strV_is, hp_get1, hp_get2, hp_get3, hp_set1, hp_set2, hp_set3, hp_old, hp_sold, set_got, set_set, set_next, set_other, bytesL, bytes_all, List.length_map, aapp_nils, aapp_wr, List.flatMap_cons, List.flatMap_nil, Nat.mul_one]
  refine read_l o.ok hl ?_
  obtain ⟨z, e, hz⟩ : ∃ z e, x.read at_ n = retR z e := by
    unfold Chp.read
    repeat' split
    all_goals exact ⟨_, _, rfl⟩
  rw [hz] at h ⊢
  unfold retR at h ⊢
  simp (maxSteps := 4000000) (disch := (first | omega | (simp only [set_next, List.length_append, List.length_cons, List.length_nil, List.length_take, List.length_drop, List.length_map, List.length_set, List.length_replicate]; omega) | (simp only [set_next, ne_eq, reduceCtorEq, not_false_eq_true]))) only [go_sem, Nat.reduceLeDiff, Nat.reduceAdd, Nat.reduceSub, Nat.reduceMul, Nat.reduceLT, Int.reduceLT, Int.reduceLE, Int.reduceAdd, Int.reduceSub, Int.reduceMul, Int.reduceToNat, Int.reduceNeg, Int.reduceEq, Nat.reducePow, Int.reducePow, Nat.reduceEqDiff, decide_true, decide_false, reduceIte, reduceCtorEq, Int.reduceBEq, Int.reduceBNe, bne_self_eq_false, Int.cast_ofNat_Int, Bool.not_true, Bool.not_false, IntKind.bits, w_nat, w_lit, w_add, w_addl, w_ladd, w_sub, w_subl, w_lsub, w_mul, w_mull, w_lmul, t_div, t_divl, t_mod, t_modl, i_lt, i_ltl, i_llt, i_le, i_lel, i_lle, i_eq, i_eql, i_leq, Nat.zero_le, d_beq, d_bne, d_bytes, byte_at, Int.toNat_natCast, toNat_lit, decide_eq_true, decide_eq_false, if_pos, if_neg, slA_len, slA_idx, slA_cells, flat_slA, one_slA, cells_slA, map_mid, strV_is, hp_get1, hp_get2, hp_get3, hp_set1, hp_set2, hp_set3, hp_old, hp_sold, set_got, set_set, set_next, set_other, bytesL, bytes_all, List.length_map, aapp_nils, aapp_wr, List.flatMap_cons, List.flatMap_nil, Nat.mul_one]
  exact aret_plain hs (by simp only [u_top, u_bool, u_int, u_str, u_nilp, u_nils, u_nilf, u_nilm, u_nili, u_emp, u_byteV, u_ptr, u_wr, u_agg, u_tup, u_rd, u_imm, u_func, u_nil, u_cons, u_app, uc_nil, uc_cons, uc_app, u_bytes, uc_bytes, u_ints, uc_ints, cells_bool, cells_int, cells_str, cells_agg, cells_ptr, cells_nils, cells_imm, cells_wr, cells_nilp, cells_nilf, cells_nilm, cells_rd, cells_emp, cells_byteV, cells_func, and_self, and_true, true_and, u_slA, uc_strs, cells_slA, strV_is]) (h)
theorem gerase_l {l : List AObj} (o : GOk H b c g L) (hl : x.l.length = 24576) {s : Int} (h : K (.int .i64 (gErase L x s).2) (hp (chipAt H b c (gErase L x s).1) l)) : (ACalls Try.prog) 62 [.ptr g 0 0, .int .i64 s] (hp (chipAt H b c x) l) K := g_lift (fun _ _ o k => gerase_a o hl k) o h
theorem gwrite_l {l : List AObj} (o : GOk H b c g L) (hl : x.l.length = 24576) {at_ : Int} {s : List UInt8} (hn : s.length ≤ 9223372036854775807) (h : K (.int .i64 (gWrite L x at_ s).2) (hp (chipAt H b c (gWrite L x at_ s).1) l)) : (ACalls Try.prog) 63 [.ptr g 0 0, .int .i64 at_, .str (B s)] (hp (chipAt H b c x) l) K := g_lift (fun _ _ o k => gwrite_a o hl hn k) o h
theorem gread_l {l : List AObj} (o : GOk H b c g L) (hl : x.l.length = 24576) {at_ n : Int} (h : K (x.read at_ n) (hp (chipAt H b c x) l)) : (ACalls Try.prog) 65 [.ptr g 0 0, .int .i64 at_, .int .i64 n] (hp (chipAt H b c x) l) K := g_lift (fun _ _ o k => gread_a o hl k) o h
end
end Go.Proofs.Ytfilheaaacffmaa.AL
/- The guard's laws: acts, and what must come whatever the arguments are. -/
set_option linter.unusedSimpArgs false
set_option linter.unusedVariables false
set_option maxRecDepth 100000
set_option maxHeartbeats 16000000
namespace Go.Proofs.Ytfilheaaacffmaa.AL
open Go Go.Proofs
attribute [local go_sem] go_seq go_skip go_region go_regionN go_fregion rgF_some go_cond go_block go_exit go_ret nxt_nil nxt_code nxt_blk nxt_cut leave_nil leave_code leave_cut leave_blk rtn_nil rtn_code rtn_blk rtn_cut cnd_t cnd_f rgn_nil rgY_some rgY_none rgH_some rgP_some retTo_is rgV_func grd_und grd_tt grd_ff grd_tf grd_ft rgn_q rgn_alloc rgn_box rgn_store rgn_lit rgn_litw litCells_nil litCells_cons rgn_app rgn_copy rgn_mk rgn_s2b rgn_call rgn_callv rgn_stop rgn_slice3 aslice3 rgn_put rgn_mkmap rgn_lookup rgn_mapup alookup_nilm alookup_map amapup_map afound_ok afound_no rgn_c rgn_cv qclV_func aloadr rgn_guard post_ret post_normal retY_some ares aresL ares1 AX.ev aput List.getD_cons_zero List.getD_cons_succ List.set_cons_zero List.set_cons_succ List.map_cons List.map_nil aq abin aint astr abeq aconv asame aextract alenS alenL_nils alenL_emp alenL_imm alenL_wr aun apart aload afieldAddr afield aidxSl_wr aidxSl_imm aidxPt aidxStr aidxArr abound asliceStr asliceSl asliceArr abest anonil afill astore acells_nils acells_emp acells_imm acells_wr acells_str acopy litAll amk as2b anil nilOf aseq aeqs aeqv fits fit1 hp_next hp_push hp_get hp_set List.length_cons List.length_nil List.getElem?_cons_zero List.getElem?_cons_succ List.cons_append List.nil_append List.append_nil List.take_succ_cons List.take_zero List.drop_succ_cons List.drop_zero List.all_cons List.all_nil Option.map_some Option.some.injEq Bool.and_true Bool.true_and Bool.false_eq_true if_true if_false ite_true ite_false Bool.and_self true_and and_true and_self Nat.zero_add Nat.le_refl Int.toNat_natCast beq_self_eq_true eq_self tops_zero tops_succ Int.natCast_nonneg List.take_nil List.drop_nil Option.map_none flat_bool one_bool cells_bool flat_int one_int cells_int flat_str one_str cells_str flat_nilp one_nilp cells_nilp flat_ptr one_ptr cells_ptr flat_nils one_nils cells_nils flat_imm one_imm cells_imm flat_wr one_wr cells_wr flat_func one_func cells_func flat_nilf one_nilf cells_nilf flat_map one_map cells_map flat_nilm one_nilm cells_nilm flat_iface one_iface cells_iface flat_nili one_nili cells_nili flat_rd one_rd cells_rd flat_emp one_emp cells_emp flat_byteV one_byteV cells_byteV flat_agg cells_agg one_agg B_size B_list B_ext B_toList B_app List.take_length Int.le_refl
theorem gok_new {G : AHeap} {b c : Nat} {L : List Bool} (ok : ChipOk G b c) (hL : L.length = 48) : GOk (hp G [grow c L]) b c (G.next + 0) L :=
  ⟨chip_okl ok _, by rw [hp_get]; rfl, by have := ok.b; omega, by have := ok.c; omega, hL⟩
section
variable {H : AHeap} {b c g : Nat} {L : List Bool} {x : Chp} {K : AV → AHeap → Prop}
end
/-! ### what must come -/
theorem gErase_len (L : List Bool) (x : Chp) (s : Int) : (gErase L x s).1.l.length = x.l.length := by
  unfold gErase
  split
  · rfl
  · exact erase_len _ _
theorem gWrite_len (L : List Bool) (x : Chp) (i : Int) (s : List UInt8) : (gWrite L x i s).1.l.length = x.l.length := by
  unfold gWrite
  split
  · rfl
  · unfold Chp.write
    repeat' split
    all_goals first | rfl | exact wr_len _ _ _ _ (Nat.le_refl _)
end Go.Proofs.Ytfilheaaacffmaa.AL
/- No byte of a locked sector ever changes: the law. -/
set_option linter.unusedSimpArgs false
set_option linter.unusedVariables false
set_option maxRecDepth 100000
set_option maxHeartbeats 16000000
namespace Go.Proofs.Ytfilheaaacffmaa.AL
open Go Go.Proofs
attribute [local go_sem] go_seq go_skip go_region go_regionN go_fregion rgF_some go_cond go_block go_exit go_ret nxt_nil nxt_code nxt_blk nxt_cut leave_nil leave_code leave_cut leave_blk rtn_nil rtn_code rtn_blk rtn_cut cnd_t cnd_f rgn_nil rgY_some rgY_none rgH_some rgP_some retTo_is rgV_func grd_und grd_tt grd_ff grd_tf grd_ft rgn_q rgn_alloc rgn_box rgn_store rgn_lit rgn_litw litCells_nil litCells_cons rgn_app rgn_copy rgn_mk rgn_s2b rgn_call rgn_callv rgn_stop rgn_slice3 aslice3 rgn_put rgn_mkmap rgn_lookup rgn_mapup alookup_nilm alookup_map amapup_map afound_ok afound_no rgn_c rgn_cv qclV_func aloadr rgn_guard post_ret post_normal retY_some ares aresL ares1 AX.ev aput List.getD_cons_zero List.getD_cons_succ List.set_cons_zero List.set_cons_succ List.map_cons List.map_nil aq abin aint astr abeq aconv asame aextract alenS alenL_nils alenL_emp alenL_imm alenL_wr aun apart aload afieldAddr afield aidxSl_wr aidxSl_imm aidxPt aidxStr aidxArr abound asliceStr asliceSl asliceArr abest anonil afill astore acells_nils acells_emp acells_imm acells_wr acells_str acopy litAll amk as2b anil nilOf aseq aeqs aeqv fits fit1 hp_next hp_push hp_get hp_set List.length_cons List.length_nil List.getElem?_cons_zero List.getElem?_cons_succ List.cons_append List.nil_append List.append_nil List.take_succ_cons List.take_zero List.drop_succ_cons List.drop_zero List.all_cons List.all_nil Option.map_some Option.some.injEq Bool.and_true Bool.true_and Bool.false_eq_true if_true if_false ite_true ite_false Bool.and_self true_and and_true and_self Nat.zero_add Nat.le_refl Int.toNat_natCast beq_self_eq_true eq_self tops_zero tops_succ Int.natCast_nonneg List.take_nil List.drop_nil Option.map_none flat_bool one_bool cells_bool flat_int one_int cells_int flat_str one_str cells_str flat_nilp one_nilp cells_nilp flat_ptr one_ptr cells_ptr flat_nils one_nils cells_nils flat_imm one_imm cells_imm flat_wr one_wr cells_wr flat_func one_func cells_func flat_nilf one_nilf cells_nilf flat_map one_map cells_map flat_nilm one_nilm cells_nilm flat_iface one_iface cells_iface flat_nili one_nili cells_nili flat_rd one_rd cells_rd flat_emp one_emp cells_emp flat_byteV one_byteV cells_byteV flat_agg cells_agg one_agg B_size B_list B_ext B_toList B_app List.take_length Int.le_refl
end Go.Proofs.Ytfilheaaacffmaa.AL

