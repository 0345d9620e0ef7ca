/- The code of the cells of trees, told. -/
import Derived.Test.YtmdgjfadbhenjaaGreatDoorQCellsIsALA3
import Derived.Test.YtmdgjfadbhenjaaGreatDoorProg
import Derived.KernelRfl
import Derived.Test.YtmdgjfadbhenjaaGreatDoorQCellsIsALA4
set_option maxRecDepth 100000
namespace Go.Proofs.YtmdgjfadbhenjaaGreatDoor.AL
open Go Go.Proofs
def c79 : ACode := 
    (.seq 
    (.region [⟨(some 2), (.q (.move (.const (.bool false)))), none⟩]) 
    (.seq 
    (.region [⟨(some 3), (.q (.move (.tmp 0))), none⟩, ⟨(some 4), (.s (.call 128 [(.tmp 3), (.const (.func (.func 129) [] []))])), none⟩, ⟨(some 5), (.q (.un .not (.tmp 4))), none⟩, ⟨(some 2), (.q (.move (.tmp 5))), none⟩]) .ret))
theorem t79 : Told Tryz.prog 79 6 c79 [(.tmp 2)] := ⟨Tryz.f79, _, [], Tryz.func79, rfl, by kernel_rfl, rfl, by kernel_rfl, by kernel_rfl⟩
def c129 : ACode := 
    (.seq 
    (.region [⟨(some 2), (.q (.move (.const (.bool false)))), none⟩]) 
    (.seq 
    (.region [⟨(some 3), (.q (.move (.tmp 0))), none⟩, ⟨(some 4), (.q (.bin .lss (.tmp 3) (.const (.int .i64 0)))), none⟩, ⟨(some 5), (.q (.move (.tmp 4))), none⟩, ⟨(some 6), (.q (.move (.tmp 0))), (some (5, false))⟩, ⟨(some 7), (.q (.bin .gtr (.tmp 6) (.const (.int .i64 4294967295)))), (some (5, false))⟩, ⟨(some 8), (.q (.pick (.tmp 5) (.const (.bool true)) (.tmp 7))), none⟩, ⟨(some 2), (.q (.move (.tmp 8))), none⟩]) .ret))
theorem t129 : Told Tryz.prog 129 9 c129 [(.tmp 2)] := ⟨Tryz.f129, _, [], Tryz.func129, rfl, by kernel_rfl, rfl, by kernel_rfl, by kernel_rfl⟩
def c71 : ACode := 
    (.seq 
    (.region [⟨(some 3), (.s (.box 25 (.tmp 0))), none⟩, ⟨(some 6), (.q (.move (.const (.int .i64 0)))), none⟩, ⟨(some 7), (.q (.move (.const (.bool false)))), none⟩]) 
    (.seq 
    (.region [⟨(some 11), (.q (.load true 3 (.tmp 3))), none⟩, ⟨(some 12), (.q (.move (.tmp 1))), none⟩, ⟨(some 13), (.s (.call 75 [(.tmp 11), (.tmp 12)])), none⟩, ⟨(some 10), (.q (.move (.tmp 13))), none⟩, ⟨(some 14), (.q (.extract 0 (.tmp 10))), none⟩, ⟨(some 15), (.q (.extract 1 (.tmp 10))), none⟩, ⟨(some 8), (.q (.move (.tmp 14))), none⟩, ⟨(some 9), (.q (.move (.tmp 15))), none⟩]) 
    (.seq 
    (.seq 
    (.region [⟨(some 16), (.q (.move (.tmp 9))), none⟩, ⟨(some 17), (.q (.un .not (.tmp 16))), none⟩]) 
    (.cond (.tmp 17) 
    (.seq 
    (.region [⟨(some 18), (.q (.move (.tmp 2))), none⟩, ⟨(some 6), (.q (.move (.tmp 18))), none⟩, ⟨(some 7), (.q (.move (.const (.bool true)))), none⟩]) .ret) .skip)) 
    (.seq 
    (.region [⟨(some 19), (.q (.move (.tmp 8))), none⟩, ⟨(some 20), (.s (.call 122 [(.tmp 19)])), none⟩, ⟨(some 21), (.q (.extract 0 (.tmp 20))), none⟩, ⟨(some 22), (.q (.extract 1 (.tmp 20))), none⟩, ⟨(some 6), (.q (.move (.tmp 21))), none⟩, ⟨(some 7), (.q (.move (.tmp 22))), none⟩]) .ret))))
theorem t71 : Told Tryz.prog 71 23 c71 [(.tmp 6), (.tmp 7)] := ⟨Tryz.f71, _, [], Tryz.func71, rfl, by kernel_rfl, rfl, by kernel_rfl, by kernel_rfl⟩
def c72 : ACode := 
    (.seq 
    (.region [⟨(some 4), (.q (.move (.const (.bool false)))), none⟩]) 
    (.seq 
    (.region [⟨(some 5), (.q (.move (.tmp 0))), none⟩, ⟨(some 6), (.q (.bin .geq (.tmp 5) (.const (.int .i64 1)))), none⟩, ⟨(some 7), (.q (.move (.tmp 6))), none⟩, ⟨(some 8), (.q (.move (.tmp 0))), (some (7, true))⟩, ⟨(some 9), (.q (.bin .leq (.tmp 8) (.const (.int .i64 2)))), (some (7, true))⟩, ⟨(some 10), (.q (.pick (.tmp 7) (.tmp 9) (.const (.bool false)))), none⟩, ⟨(some 11), (.q (.move (.tmp 10))), none⟩, ⟨(some 12), (.q (.move (.tmp 1))), (some (11, true))⟩, ⟨(some 13), (.q (.bin .geq (.tmp 12) (.const (.int .i64 0)))), (some (11, true))⟩, ⟨(some 14), (.q (.pick (.tmp 11) (.tmp 13) (.const (.bool false)))), none⟩, ⟨(some 15), (.q (.move (.tmp 14))), none⟩, ⟨(some 16), (.q (.move (.tmp 1))), (some (15, true))⟩, ⟨(some 17), (.q (.bin .leq (.tmp 16) (.const (.int .i64 2)))), (some (15, true))⟩, ⟨(some 18), (.q (.pick (.tmp 15) (.tmp 17) (.const (.bool false)))), none⟩, ⟨(some 4), (.q (.move (.tmp 18))), none⟩]) .ret))
theorem t72 : Told Tryz.prog 72 19 c72 [(.tmp 4)] := ⟨Tryz.f72, _, [], Tryz.func72, rfl, by kernel_rfl, rfl, by kernel_rfl, by kernel_rfl⟩
def c32 : ACode := 
    (.seq 
    (.region [⟨(some 1), (.s (.box 25 (.tmp 0))), none⟩, ⟨(some 2), (.q (.move (.const (.int .i64 0)))), none⟩, ⟨(some 3), (.q (.move (.const (.int .i64 0)))), none⟩, ⟨(some 4), (.q (.move (.const (.bool false)))), none⟩]) 
    (.seq 
    (.region [⟨(some 10), (.q (.load true 3 (.tmp 1))), none⟩, ⟨(some 11), (.s (.call 71 [(.tmp 10), (.const (.str (B [35, 97, 100, 100, 114, 101, 115, 115, 45, 99, 101, 108, 108, 115]))), (.const (.int .i64 2))])), none⟩, ⟨(some 9), (.q (.move (.tmp 11))), none⟩, ⟨(some 12), (.q (.extract 0 (.tmp 9))), none⟩, ⟨(some 13), (.q (.extract 1 (.tmp 9))), none⟩, ⟨(some 5), (.q (.move (.tmp 12))), none⟩, ⟨(some 6), (.q (.move (.tmp 13))), none⟩]) 
    (.seq 
    (.region [⟨(some 15), (.q (.load true 3 (.tmp 1))), none⟩, ⟨(some 16), (.s (.call 71 [(.tmp 15), (.const (.str (B [35, 115, 105, 122, 101, 45, 99, 101, 108, 108, 115]))), (.const (.int .i64 1))])), none⟩, ⟨(some 14), (.q (.move (.tmp 16))), none⟩, ⟨(some 17), (.q (.extract 0 (.tmp 14))), none⟩, ⟨(some 18), (.q (.extract 1 (.tmp 14))), none⟩, ⟨(some 7), (.q (.move (.tmp 17))), none⟩, ⟨(some 8), (.q (.move (.tmp 18))), none⟩]) 
    (.seq 
    (.seq 
    (.region [⟨(some 19), (.q (.move (.tmp 6))), none⟩, ⟨(some 20), (.q (.un .not (.tmp 19))), none⟩, ⟨(some 21), (.q (.move (.tmp 20))), none⟩, ⟨(some 22), (.q (.move (.tmp 8))), (some (21, false))⟩, ⟨(some 23), (.q (.un .not (.tmp 22))), (some (21, false))⟩, ⟨(some 24), (.q (.pick (.tmp 21) (.const (.bool true)) (.tmp 23))), none⟩, ⟨(some 25), (.q (.move (.tmp 24))), none⟩, ⟨(some 26), (.q (.move (.tmp 5))), (some (25, false))⟩, ⟨(some 27), (.q (.move (.tmp 7))), (some (25, false))⟩, ⟨(some 28), (.s (.call 72 [(.tmp 26), (.tmp 27)])), (some (25, false))⟩, ⟨(some 29), (.q (.un .not (.tmp 28))), (some (25, false))⟩, ⟨(some 30), (.q (.pick (.tmp 25) (.const (.bool true)) (.tmp 29))), none⟩]) 
    (.cond (.tmp 30) 
    (.seq 
    (.region [⟨(some 2), (.q (.move (.const (.int .i64 0)))), none⟩, ⟨(some 3), (.q (.move (.const (.int .i64 0)))), none⟩, ⟨(some 4), (.q (.move (.const (.bool false)))), none⟩]) .ret) .skip)) 
    (.seq 
    (.region [⟨(some 31), (.q (.move (.tmp 5))), none⟩, ⟨(some 32), (.q (.move (.tmp 7))), none⟩, ⟨(some 2), (.q (.move (.tmp 31))), none⟩, ⟨(some 3), (.q (.move (.tmp 32))), none⟩, ⟨(some 4), (.q (.move (.const (.bool true)))), none⟩]) .ret)))))
theorem t32 : Told Tryz.prog 32 33 c32 [(.tmp 2), (.tmp 3), (.tmp 4)] := ⟨Tryz.f32, _, [], Tryz.func32, rfl, by kernel_rfl, rfl, by kernel_rfl, by kernel_rfl⟩
def c87 : ACode := 
    (.seq 
    (.region [⟨(some 4), (.q (.move (.const .nils))), none⟩]) 
    (.seq 
    (.region [⟨(some 6), (.q (.move (.tmp 1))), none⟩, ⟨(some 7), (.s (.mk 3 1 8 [(.int .i64 0)] (.tmp 6))), none⟩, ⟨(some 5), (.q (.move (.tmp 7))), none⟩]) 
    (.seq 
    (.seq 
    (.region [⟨(some 8), (.q (.move (.tmp 1))), none⟩, ⟨(some 9), (.q (.bin .gtr (.tmp 8) (.const (.int .i64 0)))), none⟩]) 
    (.cond (.tmp 9) 
    (.region [⟨(some 10), (.q (.move (.tmp 5))), none⟩, ⟨(some 11), (.q (.move (.tmp 1))), none⟩, ⟨(some 12), (.q (.bin .sub (.tmp 11) (.const (.int .i64 1)))), none⟩, ⟨(some 13), (.q (.move (.tmp 0))), none⟩, ⟨(some 14), (.q (.idxSl 1 (.tmp 10) (.tmp 12))), none⟩, ⟨none, (.s (.store 1 (.tmp 14) (.tmp 13))), none⟩]) .skip)) 
    (.seq 
    (.region [⟨(some 15), (.q (.move (.tmp 5))), none⟩, ⟨(some 4), (.q (.move (.tmp 15))), none⟩]) .ret))))
theorem t87 : Told Tryz.prog 87 16 c87 [(.tmp 4)] := ⟨Tryz.f87, _, [], Tryz.func87, rfl, by kernel_rfl, rfl, by kernel_rfl, by kernel_rfl⟩
def c43 : ACode := 
    (.seq 
    (.region [⟨(some 6), (.q (.move (.const (.str (B []))))), none⟩, ⟨(some 7), (.q (.move (.const (.int .i64 0)))), none⟩]) 
    (.seq 
    (.seq 
    (.region [⟨(some 11), (.q (.move (.tmp 0))), none⟩, ⟨(some 12), (.q (.move (.tmp 1))), none⟩, ⟨(some 13), (.s (.call 72 [(.tmp 11), (.tmp 12)])), none⟩, ⟨(some 14), (.q (.un .not (.tmp 13))), none⟩]) 
    (.cond (.tmp 14) 
    (.seq 
    (.region [⟨(some 6), (.q (.move (.const (.str (B []))))), none⟩, ⟨(some 7), (.q (.move (.const (.int .i64 1)))), none⟩]) .ret) .skip)) 
    (.seq 
    (.region [⟨(some 8), (.q (.move (.const .nils))), none⟩]) 
    (.seq 
    (.seq 
    (.region [⟨(some 15), (.q (.move (.tmp 2))), none⟩, ⟨(some 16), (.q (.len false (.tmp 15))), none⟩, ⟨(some 17), (.q (.move (.const (.int .i64 0)))), none⟩]) 
    (.block 0 
    (.loop 
    (.seq 
    (.region [⟨(some 18), (.q (.bin .lss (.tmp 17) (.tmp 16))), none⟩]) 
    (.seq 
    (.cond (.tmp 18) .skip (.exit 0)) 
    (.seq 
    (.block 1 
    (.seq 
    (.region [⟨(some 19), (.q (.idxSl 2 (.tmp 15) (.tmp 17))), none⟩, ⟨(some 20), (.q (.load true 2 (.tmp 19))), none⟩, ⟨(some 10), (.s (.alloc 93 [(.int .i64 0), (.int .i64 0)])), none⟩, ⟨none, (.s (.store 2 (.tmp 10) (.tmp 20))), none⟩]) 
    (.seq 
    (.seq 
    (.region [⟨(some 21), (.q (.fieldAddr 0 (.tmp 10))), none⟩, ⟨(some 22), (.q (.load false 1 (.tmp 21))), none⟩, ⟨(some 23), (.q (.fieldAddr 1 (.tmp 10))), none⟩, ⟨(some 24), (.q (.load false 1 (.tmp 23))), none⟩, ⟨(some 25), (.s (.lit 3 1 [(.tmp 22), (.tmp 24)])), none⟩, ⟨(some 26), (.s (.call 79 [(.tmp 25)])), none⟩, ⟨(some 27), (.q (.un .not (.tmp 26))), none⟩, ⟨(some 28), (.q (.move (.tmp 27))), none⟩, ⟨(some 29), (.q (.move (.tmp 1))), (some (28, false))⟩, ⟨(some 30), (.q (.bin .eql (.tmp 29) (.const (.int .i64 0)))), (some (28, false))⟩, ⟨(some 31), (.q (.move (.tmp 30))), (some (28, false))⟩, ⟨(some 32), (.q (.fieldAddr 1 (.tmp 10))), (some (31, true))⟩, ⟨(some 33), (.q (.load false 1 (.tmp 32))), (some (31, true))⟩, ⟨(some 34), (.q (.bin .neq (.tmp 33) (.const (.int .i64 0)))), (some (31, true))⟩, ⟨(some 35), (.q (.pick (.tmp 31) (.tmp 34) (.const (.bool false)))), (some (28, false))⟩, ⟨(some 36), (.q (.pick (.tmp 28) (.const (.bool true)) (.tmp 35))), none⟩]) 
    (.cond (.tmp 36) 
    (.seq 
    (.region [⟨(some 6), (.q (.move (.const (.str (B []))))), none⟩, ⟨(some 7), (.q (.move (.const (.int .i64 1)))), none⟩]) .ret) .skip)) 
    (.seq 
    (.region [⟨(some 37), (.q (.move (.tmp 8))), none⟩, ⟨(some 38), (.q (.fieldAddr 0 (.tmp 10))), none⟩, ⟨(some 39), (.q (.load false 1 (.tmp 38))), none⟩, ⟨(some 40), (.q (.move (.tmp 0))), none⟩, ⟨(some 41), (.s (.call 87 [(.tmp 39), (.tmp 40)])), none⟩, ⟨(some 42), (.s (.app 3 1 8 (.tmp 37) (.tmp 41))), none⟩, ⟨(some 8), (.q (.move (.tmp 42))), none⟩]) 
    (.region [⟨(some 43), (.q (.move (.tmp 8))), none⟩, ⟨(some 44), (.q (.fieldAddr 1 (.tmp 10))), none⟩, ⟨(some 45), (.q (.load false 1 (.tmp 44))), none⟩, ⟨(some 46), (.q (.move (.tmp 1))), none⟩, ⟨(some 47), (.s (.call 87 [(.tmp 45), (.tmp 46)])), none⟩, ⟨(some 48), (.s (.app 3 1 8 (.tmp 43) (.tmp 47))), none⟩, ⟨(some 8), (.q (.move (.tmp 48))), none⟩]))))) 
    (.region [⟨(some 49), (.q (.bin .add (.tmp 17) (.const (.int .i64 1)))), none⟩, ⟨(some 17), (.q (.move (.tmp 49))), none⟩]))))))) 
    (.seq 
    (.region [⟨(some 50), (.q (.move (.tmp 8))), none⟩, ⟨(some 51), (.s (.call 88 [(.tmp 50)])), none⟩, ⟨(some 6), (.q (.move (.tmp 51))), none⟩, ⟨(some 7), (.q (.move (.const (.int .i64 0)))), none⟩]) .ret)))))
theorem t43 : Told Tryz.prog 43 52 c43 [(.tmp 6), (.tmp 7)] := ⟨Tryz.f43, _, [], Tryz.func43, rfl, by kernel_rfl, rfl, by kernel_rfl, by kernel_rfl⟩
def c76 : ACode := 
    (.seq 
    (.region [⟨(some 4), (.q (.move (.const .nils))), none⟩, ⟨(some 5), (.q (.move (.const (.int .i64 0)))), none⟩]) 
    (.seq 
    (.region [⟨(some 18), (.q (.move (.tmp 0))), none⟩, ⟨(some 19), (.s (.call 126 [(.tmp 18)])), none⟩, ⟨(some 17), (.q (.move (.tmp 19))), none⟩, ⟨(some 20), (.q (.extract 0 (.tmp 17))), none⟩, ⟨(some 21), (.q (.extract 1 (.tmp 17))), none⟩, ⟨(some 6), (.q (.move (.tmp 20))), none⟩, ⟨(some 7), (.q (.move (.tmp 21))), none⟩]) 
    (.seq 
    (.region [⟨(some 8), (.q (.move (.const (.int .i64 0)))), none⟩]) 
    (.seq 
    (.seq 
    (.region [⟨(some 22), (.q (.move (.tmp 1))), none⟩, ⟨(some 23), (.q (.len false (.tmp 22))), none⟩, ⟨(some 24), (.q (.move (.const (.int .i64 0)))), none⟩]) 
    (.block 0 
    (.loop 
    (.seq 
    (.region [⟨(some 25), (.q (.bin .lss (.tmp 24) (.tmp 23))), none⟩]) 
    (.seq 
    (.cond (.tmp 25) .skip (.exit 0)) 
    (.seq 
    (.block 1 
    (.seq 
    (.region [⟨(some 26), (.q (.idxSl 1 (.tmp 22) (.tmp 24))), none⟩, ⟨(some 27), (.q (.load false 1 (.tmp 26))), none⟩, ⟨(some 10), (.q (.move (.tmp 27))), none⟩]) 
    (.region [⟨(some 28), (.q (.move (.tmp 8))), none⟩, ⟨(some 29), (.q (.move (.tmp 10))), none⟩, ⟨(some 30), (.q (.bin .add (.tmp 28) (.tmp 29))), none⟩, ⟨(some 8), (.q (.move (.tmp 30))), none⟩]))) 
    (.region [⟨(some 31), (.q (.bin .add (.tmp 24) (.const (.int .i64 1)))), none⟩, ⟨(some 24), (.q (.move (.tmp 31))), none⟩]))))))) 
    (.seq 
    (.seq 
    (.region [⟨(some 32), (.q (.move (.tmp 7))), none⟩, ⟨(some 33), (.q (.un .not (.tmp 32))), none⟩, ⟨(some 34), (.q (.move (.tmp 33))), none⟩, ⟨(some 35), (.q (.move (.tmp 8))), (some (34, false))⟩, ⟨(some 36), (.q (.bin .eql (.tmp 35) (.const (.int .i64 0)))), (some (34, false))⟩, ⟨(some 37), (.q (.pick (.tmp 34) (.const (.bool true)) (.tmp 36))), none⟩, ⟨(some 38), (.q (.move (.tmp 37))), none⟩, ⟨(some 39), (.q (.move (.tmp 6))), (some (38, false))⟩, ⟨(some 40), (.q (.len false (.tmp 39))), (some (38, false))⟩, ⟨(some 41), (.q (.move (.tmp 8))), (some (38, false))⟩, ⟨(some 42), (.q (.bin .rem (.tmp 40) (.tmp 41))), (some (38, false))⟩, ⟨(some 43), (.q (.bin .neq (.tmp 42) (.const (.int .i64 0)))), (some (38, false))⟩, ⟨(some 44), (.q (.pick (.tmp 38) (.const (.bool true)) (.tmp 43))), none⟩]) 
    (.cond (.tmp 44) 
    (.seq 
    (.region [⟨(some 4), (.q (.move (.const .nils))), none⟩, ⟨(some 5), (.q (.move (.const (.int .i64 6)))), none⟩]) .ret) .skip)) 
    (.seq 
    (.region [⟨(some 11), (.q (.move (.const .nils))), none⟩]) 
    (.seq 
    (.block 2 
    (.loop 
    (.seq 
    (.seq 
    (.region [⟨(some 45), (.q (.move (.tmp 6))), none⟩, ⟨(some 46), (.q (.len false (.tmp 45))), none⟩, ⟨(some 47), (.q (.bin .gtr (.tmp 46) (.const (.int .i64 0)))), none⟩]) 
    (.cond (.tmp 47) .skip (.exit 2))) 
    (.seq 
    (.block 3 
    (.seq 
    (.region [⟨(some 12), (.q (.move (.const .nils))), none⟩]) 
    (.seq 
    (.region [⟨(some 13), (.q (.move (.const (.int .i64 0)))), none⟩]) 
    (.seq 
    (.seq 
    (.region [⟨(some 51), (.q (.move (.tmp 1))), none⟩, ⟨(some 52), (.q (.len false (.tmp 51))), none⟩, ⟨(some 53), (.q (.move (.const (.int .i64 0)))), none⟩]) 
    (.block 4 
    (.loop 
    (.seq 
    (.region [⟨(some 54), (.q (.bin .lss (.tmp 53) (.tmp 52))), none⟩]) 
    (.seq 
    (.cond (.tmp 54) .skip (.exit 4)) 
    (.seq 
    (.block 5 
    (.seq 
    (.region [⟨(some 55), (.q (.idxSl 1 (.tmp 51) (.tmp 53))), none⟩, ⟨(some 56), (.q (.load false 1 (.tmp 55))), none⟩, ⟨(some 15), (.q (.move (.tmp 56))), none⟩]) 
    (.seq 
    (.seq 
    (.region [⟨(some 57), (.q (.move (.tmp 15))), none⟩, ⟨(some 58), (.q (.bin .eql (.tmp 57) (.const (.int .i64 2)))), none⟩, ⟨(some 59), (.q (.move (.tmp 58))), none⟩, ⟨(some 60), (.q (.move (.tmp 6))), (some (59, true))⟩, ⟨(some 61), (.q (.move (.tmp 13))), (some (59, true))⟩, ⟨(some 62), (.q (.idxSl 1 (.tmp 60) (.tmp 61))), (some (59, true))⟩, ⟨(some 63), (.q (.load false 1 (.tmp 62))), (some (59, true))⟩, ⟨(some 64), (.q (.bin .neq (.tmp 63) (.const (.int .i64 0)))), (some (59, true))⟩, ⟨(some 65), (.q (.pick (.tmp 59) (.tmp 64) (.const (.bool false)))), none⟩]) 
    (.cond (.tmp 65) 
    (.seq 
    (.region [⟨(some 4), (.q (.move (.const .nils))), none⟩, ⟨(some 5), (.q (.move (.const (.int .i64 7)))), none⟩]) .ret) .skip)) 
    (.seq 
    (.region [⟨(some 66), (.q (.move (.tmp 13))), none⟩, ⟨(some 67), (.q (.move (.tmp 15))), none⟩, ⟨(some 68), (.q (.bin .add (.tmp 66) (.tmp 67))), none⟩, ⟨(some 13), (.q (.move (.tmp 68))), none⟩]) 
    (.seq 
    (.region [⟨(some 16), (.q (.move (.const (.int .i64 0)))), none⟩]) 
    (.seq 
    (.seq 
    (.region [⟨(some 69), (.q (.move (.tmp 15))), none⟩, ⟨(some 70), (.q (.bin .gtr (.tmp 69) (.const (.int .i64 0)))), none⟩]) 
    (.cond (.tmp 70) 
    (.region [⟨(some 71), (.q (.move (.tmp 6))), none⟩, ⟨(some 72), (.q (.move (.tmp 13))), none⟩, ⟨(some 73), (.q (.bin .sub (.tmp 72) (.const (.int .i64 1)))), none⟩, ⟨(some 74), (.q (.idxSl 1 (.tmp 71) (.tmp 73))), none⟩, ⟨(some 75), (.q (.load false 1 (.tmp 74))), none⟩, ⟨(some 16), (.q (.move (.tmp 75))), none⟩]) .skip)) 
    (.region [⟨(some 76), (.q (.move (.tmp 12))), none⟩, ⟨(some 77), (.q (.move (.tmp 16))), none⟩, ⟨(some 78), (.s (.lit 3 1 [(.tmp 77)])), none⟩, ⟨(some 79), (.s (.app 3 1 8 (.tmp 76) (.tmp 78))), none⟩, ⟨(some 12), (.q (.move (.tmp 79))), none⟩]))))))) 
    (.region [⟨(some 80), (.q (.bin .add (.tmp 53) (.const (.int .i64 1)))), none⟩, ⟨(some 53), (.q (.move (.tmp 80))), none⟩]))))))) 
    (.seq (.fregion [12] []) 
    (.region [⟨(some 81), (.q (.move (.tmp 11))), none⟩, ⟨(some 82), (.q (.move (.tmp 12))), none⟩, ⟨(some 83), (.s (.lit 121 1 [(.tmp 82)])), none⟩, ⟨(some 84), (.s (.app 121 1 24 (.tmp 81) (.tmp 83))), none⟩, ⟨(some 11), (.q (.move (.tmp 84))), none⟩])))))) 
    (.region [⟨(some 48), (.q (.move (.tmp 6))), none⟩, ⟨(some 49), (.q (.move (.tmp 8))), none⟩, ⟨(some 50), (.q (.sliceSl 1 (.tmp 48) (some (.tmp 49)) none)), none⟩, ⟨(some 6), (.q (.move (.tmp 50))), none⟩]))))) 
    (.seq 
    (.region [⟨(some 85), (.q (.move (.tmp 11))), none⟩, ⟨(some 4), (.q (.move (.tmp 85))), none⟩, ⟨(some 5), (.q (.move (.const (.int .i64 0)))), none⟩]) .ret))))))))
theorem t76 : Told Tryz.prog 76 86 c76 [(.tmp 4), (.tmp 5)] := ⟨Tryz.f76, _, [27000012], Tryz.func76, rfl, by kernel_rfl, rfl, by kernel_rfl, by kernel_rfl⟩
def c74 : ACode := 
    (.seq 
    (.region [⟨(some 2), (.s (.box 25 (.tmp 0))), none⟩, ⟨(some 4), (.s (.alloc 25 [(.str (B [])), .nils, .nils])), none⟩, ⟨(some 5), (.s (.alloc 25 [(.str (B [])), .nils, .nils])), none⟩, ⟨(some 6), (.q (.move (.const (.bool false)))), none⟩]) 
    (.seq 
    (.region [⟨(some 14), (.q (.move (.tmp 1))), none⟩, ⟨(some 15), (.s (.call 82 [(.tmp 14)])), none⟩, ⟨(some 13), (.q (.move (.tmp 15))), none⟩, ⟨(some 16), (.q (.extract 0 (.tmp 13))), none⟩, ⟨(some 17), (.q (.extract 1 (.tmp 13))), none⟩, ⟨(some 7), (.q (.move (.tmp 16))), none⟩, ⟨(some 8), (.q (.move (.tmp 17))), none⟩]) 
    (.seq 
    (.region [⟨(some 19), (.q (.load true 3 (.tmp 2))), none⟩, ⟨(some 20), (.q (.move (.tmp 1))), none⟩, ⟨(some 21), (.s (.call 62 [(.tmp 19), (.tmp 20)])), none⟩, ⟨(some 18), (.q (.move (.tmp 21))), none⟩, ⟨(some 22), (.q (.extract 0 (.tmp 18))), none⟩, ⟨(some 23), (.q (.extract 1 (.tmp 18))), none⟩, ⟨(some 9), (.s (.alloc 25 [(.str (B [])), .nils, .nils])), none⟩, ⟨none, (.s (.store 3 (.tmp 9) (.tmp 22))), none⟩, ⟨(some 10), (.q (.move (.tmp 23))), none⟩]) 
    (.seq 
    (.seq 
    (.region [⟨(some 24), (.q (.move (.tmp 8))), none⟩, ⟨(some 25), (.q (.un .not (.tmp 24))), none⟩, ⟨(some 26), (.q (.move (.tmp 25))), none⟩, ⟨(some 27), (.q (.move (.tmp 10))), (some (26, false))⟩, ⟨(some 28), (.q (.un .not (.tmp 27))), (some (26, false))⟩, ⟨(some 29), (.q (.pick (.tmp 26) (.const (.bool true)) (.tmp 28))), none⟩, ⟨(some 30), (.q (.move (.tmp 29))), none⟩, ⟨(some 31), (.q (.move (.tmp 7))), (some (30, false))⟩, ⟨(some 32), (.q (.len false (.tmp 31))), (some (30, false))⟩, ⟨(some 33), (.q (.bin .eql (.tmp 32) (.const (.int .i64 0)))), (some (30, false))⟩, ⟨(some 34), (.q (.pick (.tmp 30) (.const (.bool true)) (.tmp 33))), none⟩]) 
    (.cond (.tmp 34) 
    (.seq 
    (.region [⟨(some 35), (.q (.build [(.str (B [])), .nils, .nils] [])), none⟩, ⟨(some 36), (.q (.build [(.str (B [])), .nils, .nils] [])), none⟩, ⟨none, (.s (.store 3 (.tmp 4) (.tmp 35))), none⟩, ⟨none, (.s (.store 3 (.tmp 5) (.tmp 36))), none⟩, ⟨(some 6), (.q (.move (.const (.bool false)))), none⟩]) .ret) .skip)) 
    (.seq 
    (.regionN 12 [⟨(some 38), (.q (.load true 3 (.tmp 2))), none⟩, ⟨(some 39), (.q (.move (.tmp 7))), none⟩, ⟨(some 40), (.q (.move (.tmp 7))), none⟩, ⟨(some 41), (.q (.len false (.tmp 40))), none⟩, ⟨(some 42), (.q (.bin .sub (.tmp 41) (.const (.int .i64 1)))), none⟩, ⟨(some 43), (.q (.sliceSl 1 (.tmp 39) none (some (.tmp 42)))), none⟩, ⟨(some 44), (.c (.fn 83) [(.tmp 43)]), none⟩, ⟨(some 11), (.q (.move (.const .top))), none⟩, ⟨(some 45), (.s (.call 62 [(.tmp 38), (.tmp 44)])), none⟩, ⟨(some 37), (.q (.move (.tmp 45))), none⟩, ⟨(some 46), (.q (.extract 0 (.tmp 37))), none⟩, ⟨(some 47), (.q (.extract 1 (.tmp 37))), none⟩, ⟨(some 11), (.s (.put 25 3 (.tmp 46))), none⟩, ⟨(some 12), (.q (.move (.tmp 47))), none⟩]) 
    (.seq 
    (.seq (.fregion [11] []) 
    (.region [⟨(some 48), (.q (.load true 3 (.tmp 9))), none⟩, ⟨(some 49), (.q (.loadr true 3 (.tmp 11))), none⟩, ⟨none, (.s (.store 3 (.tmp 4) (.tmp 48))), none⟩, ⟨none, (.s (.store 3 (.tmp 5) (.tmp 49))), none⟩, ⟨(some 6), (.q (.move (.const (.bool true)))), none⟩])) .ret))))))
theorem t74 : Told Tryz.prog 74 50 c74 [(.cell 4 true 3), (.cell 5 true 3), (.tmp 6)] := ⟨Tryz.f74, _, [7000011], Tryz.func74, rfl, by kernel_rfl, rfl, by kernel_rfl, by kernel_rfl⟩
def c34 : ACode := 
    (.seq 
    (.region [⟨(some 2), (.s (.box 25 (.tmp 0))), none⟩, ⟨(some 4), (.q (.move (.const .nils))), none⟩, ⟨(some 5), (.q (.move (.const (.int .i64 0)))), none⟩]) 
    (.seq 
    (.region [⟨(some 20), (.q (.load true 3 (.tmp 2))), none⟩, ⟨(some 21), (.q (.move (.tmp 1))), none⟩, ⟨(some 22), (.s (.call 74 [(.tmp 20), (.tmp 21)])), none⟩, ⟨(some 19), (.q (.move (.tmp 22))), none⟩, ⟨(some 23), (.q (.extract 0 (.tmp 19))), none⟩, ⟨(some 24), (.q (.extract 1 (.tmp 19))), none⟩, ⟨(some 25), (.q (.extract 2 (.tmp 19))), none⟩, ⟨(some 6), (.s (.alloc 25 [(.str (B [])), .nils, .nils])), none⟩, ⟨(some 7), (.s (.alloc 25 [(.str (B [])), .nils, .nils])), none⟩, ⟨none, (.s (.store 3 (.tmp 6) (.tmp 23))), none⟩, ⟨none, (.s (.store 3 (.tmp 7) (.tmp 24))), none⟩, ⟨(some 8), (.q (.move (.tmp 25))), none⟩]) 
    (.seq 
    (.region [⟨(some 27), (.q (.load true 3 (.tmp 6))), none⟩, ⟨(some 28), (.s (.call 75 [(.tmp 27), (.const (.str (B [114, 101, 103])))])), none⟩, ⟨(some 26), (.q (.move (.tmp 28))), none⟩, ⟨(some 29), (.q (.extract 0 (.tmp 26))), none⟩, ⟨(some 30), (.q (.extract 1 (.tmp 26))), none⟩, ⟨(some 9), (.q (.move (.tmp 29))), none⟩, ⟨(some 10), (.q (.move (.tmp 30))), none⟩]) 
    (.seq 
    (.seq 
    (.region [⟨(some 31), (.q (.move (.tmp 8))), none⟩, ⟨(some 32), (.q (.un .not (.tmp 31))), none⟩, ⟨(some 33), (.q (.move (.tmp 32))), none⟩, ⟨(some 34), (.q (.move (.tmp 10))), (some (33, false))⟩, ⟨(some 35), (.q (.un .not (.tmp 34))), (some (33, false))⟩, ⟨(some 36), (.q (.pick (.tmp 33) (.const (.bool true)) (.tmp 35))), none⟩]) 
    (.cond (.tmp 36) 
    (.seq 
    (.region [⟨(some 4), (.q (.move (.const .nils))), none⟩, ⟨(some 5), (.q (.move (.const (.int .i64 8)))), none⟩]) .ret) .skip)) 
    (.seq 
    (.region [⟨(some 38), (.q (.load true 3 (.tmp 7))), none⟩, ⟨(some 39), (.s (.call 32 [(.tmp 38)])), none⟩, ⟨(some 37), (.q (.move (.tmp 39))), none⟩, ⟨(some 40), (.q (.extract 0 (.tmp 37))), none⟩, ⟨(some 41), (.q (.extract 1 (.tmp 37))), none⟩, ⟨(some 42), (.q (.extract 2 (.tmp 37))), none⟩, ⟨(some 11), (.q (.move (.tmp 40))), none⟩, ⟨(some 12), (.q (.move (.tmp 41))), none⟩, ⟨(some 13), (.q (.move (.tmp 42))), none⟩]) 
    (.seq 
    (.seq 
    (.region [⟨(some 43), (.q (.move (.tmp 13))), none⟩, ⟨(some 44), (.q (.un .not (.tmp 43))), none⟩]) 
    (.cond (.tmp 44) 
    (.seq 
    (.region [⟨(some 4), (.q (.move (.const .nils))), none⟩, ⟨(some 5), (.q (.move (.const (.int .i64 6)))), none⟩]) .ret) .skip)) 
    (.seq 
    (.region [⟨(some 46), (.q (.move (.tmp 9))), none⟩, ⟨(some 47), (.q (.move (.tmp 11))), none⟩, ⟨(some 48), (.q (.move (.tmp 12))), none⟩, ⟨(some 49), (.s (.lit 3 1 [(.tmp 47), (.tmp 48)])), none⟩, ⟨(some 50), (.s (.call 76 [(.tmp 46), (.tmp 49)])), none⟩, ⟨(some 45), (.q (.move (.tmp 50))), none⟩, ⟨(some 51), (.q (.extract 0 (.tmp 45))), none⟩, ⟨(some 52), (.q (.extract 1 (.tmp 45))), none⟩, ⟨(some 14), (.q (.move (.tmp 51))), none⟩, ⟨(some 15), (.q (.move (.tmp 52))), none⟩]) 
    (.seq 
    (.seq 
    (.region [⟨(some 53), (.q (.move (.tmp 15))), none⟩, ⟨(some 54), (.q (.bin .neq (.tmp 53) (.const (.int .i64 0)))), none⟩]) 
    (.cond (.tmp 54) 
    (.seq 
    (.region [⟨(some 55), (.q (.move (.tmp 15))), none⟩, ⟨(some 4), (.q (.move (.const .nils))), none⟩, ⟨(some 5), (.q (.move (.tmp 55))), none⟩]) .ret) .skip)) 
    (.seq 
    (.region [⟨(some 16), (.q (.move (.const .nils))), none⟩]) 
    (.seq 
    (.seq 
    (.region [⟨(some 56), (.q (.move (.tmp 14))), none⟩, ⟨(some 57), (.q (.len false (.tmp 56))), none⟩, ⟨(some 58), (.q (.move (.const (.int .i64 0)))), none⟩]) 
    (.block 0 
    (.loop 
    (.seq 
    (.region [⟨(some 59), (.q (.bin .lss (.tmp 58) (.tmp 57))), none⟩]) 
    (.seq 
    (.cond (.tmp 59) .skip (.exit 0)) 
    (.seq 
    (.block 1 
    (.seq 
    (.region [⟨(some 60), (.q (.idxSl 1 (.tmp 56) (.tmp 58))), none⟩, ⟨(some 61), (.q (.load false 1 (.tmp 60))), none⟩, ⟨(some 18), (.q (.move (.tmp 61))), none⟩]) 
    (.region [⟨(some 62), (.q (.move (.tmp 16))), none⟩, ⟨(some 63), (.q (.move (.tmp 18))), none⟩, ⟨(some 64), (.q (.idxSl 1 (.tmp 63) (.const (.int .i64 0)))), none⟩, ⟨(some 65), (.q (.load false 1 (.tmp 64))), none⟩, ⟨(some 66), (.q (.move (.tmp 18))), none⟩, ⟨(some 67), (.q (.idxSl 1 (.tmp 66) (.const (.int .i64 1)))), none⟩, ⟨(some 68), (.q (.load false 1 (.tmp 67))), none⟩, ⟨(some 69), (.q (.build [(.int .i64 0), (.int .i64 0)] [(0, (1, (.tmp 65))), (1, (1, (.tmp 68)))])), none⟩, ⟨(some 70), (.s (.lit 93 2 [(.tmp 69)])), none⟩, ⟨(some 71), (.s (.app 93 2 16 (.tmp 62) (.tmp 70))), none⟩, ⟨(some 16), (.q (.move (.tmp 71))), none⟩]))) 
    (.region [⟨(some 72), (.q (.bin .add (.tmp 58) (.const (.int .i64 1)))), none⟩, ⟨(some 58), (.q (.move (.tmp 72))), none⟩]))))))) 
    (.seq 
    (.region [⟨(some 73), (.q (.move (.tmp 16))), none⟩, ⟨(some 4), (.q (.move (.tmp 73))), none⟩, ⟨(some 5), (.q (.move (.const (.int .i64 0)))), none⟩]) .ret)))))))))))
theorem t34 : Told Tryz.prog 34 74 c34 [(.tmp 4), (.tmp 5)] := ⟨Tryz.f34, _, [], Tryz.func34, rfl, by kernel_rfl, rfl, by kernel_rfl, by kernel_rfl⟩
def c80 : ACode := 
    (.seq 
    (.region [⟨(some 3), (.s (.box 3 (.tmp 1))), none⟩, ⟨(some 4), (.q (.move (.const (.int .i64 0)))), none⟩, ⟨(some 5), (.q (.move (.const (.int .i64 0)))), none⟩]) 
    (.seq 
    (.region [⟨(some 8), (.q (.move (.tmp 0))), none⟩, ⟨(some 9), (.q (.mkFunc (.func 131) [] [(.tmp 3)])), none⟩, ⟨(some 10), (.s (.call 130 [(.tmp 8), (.tmp 9)])), none⟩, ⟨(some 6), (.q (.move (.tmp 10))), none⟩]) 
    (.seq 
    (.seq 
    (.region [⟨(some 11), (.q (.move (.tmp 6))), none⟩, ⟨(some 12), (.q (.bin .lss (.tmp 11) (.const (.int .i64 0)))), none⟩]) 
    (.cond (.tmp 12) 
    (.seq 
    (.region [⟨(some 4), (.q (.move (.const (.int .i64 0)))), none⟩, ⟨(some 5), (.q (.move (.const (.int .i64 2)))), none⟩]) .ret) .skip)) 
    (.seq 
    (.region [⟨(some 13), (.q (.move (.tmp 0))), none⟩, ⟨(some 14), (.q (.move (.tmp 6))), none⟩, ⟨(some 15), (.q (.idxSl 1 (.tmp 13) (.tmp 14))), none⟩, ⟨(some 16), (.q (.load false 1 (.tmp 15))), none⟩, ⟨(some 17), (.q (.idxSl 1 (.tmp 16) (.const (.int .i64 1)))), none⟩, ⟨(some 18), (.q (.load false 1 (.tmp 17))), none⟩, ⟨(some 19), (.q (.load false 1 (.tmp 3))), none⟩, ⟨(some 20), (.q (.bin .add (.tmp 18) (.tmp 19))), none⟩, ⟨(some 21), (.q (.move (.tmp 0))), none⟩, ⟨(some 22), (.q (.move (.tmp 6))), none⟩, ⟨(some 23), (.q (.idxSl 1 (.tmp 21) (.tmp 22))), none⟩, ⟨(some 24), (.q (.load false 1 (.tmp 23))), none⟩, ⟨(some 25), (.q (.idxSl 1 (.tmp 24) (.const (.int .i64 0)))), none⟩, ⟨(some 26), (.q (.load false 1 (.tmp 25))), none⟩, ⟨(some 27), (.q (.bin .sub (.tmp 20) (.tmp 26))), none⟩, ⟨(some 7), (.q (.move (.tmp 27))), none⟩]) 
    (.seq 
    (.seq 
    (.region [⟨(some 28), (.q (.move (.tmp 7))), none⟩, ⟨(some 29), (.s (.lit 3 1 [(.tmp 28)])), none⟩, ⟨(some 30), (.s (.call 79 [(.tmp 29)])), none⟩, ⟨(some 31), (.q (.un .not (.tmp 30))), none⟩]) 
    (.cond (.tmp 31) 
    (.seq 
    (.region [⟨(some 4), (.q (.move (.const (.int .i64 0)))), none⟩, ⟨(some 5), (.q (.move (.const (.int .i64 2)))), none⟩]) .ret) .skip)) 
    (.seq 
    (.region [⟨(some 32), (.q (.move (.tmp 7))), none⟩, ⟨(some 4), (.q (.move (.tmp 32))), none⟩, ⟨(some 5), (.q (.move (.const (.int .i64 0)))), none⟩]) .ret))))))
theorem t80 : Told Tryz.prog 80 33 c80 [(.tmp 4), (.tmp 5)] := ⟨Tryz.f80, _, [], Tryz.func80, rfl, by kernel_rfl, rfl, by kernel_rfl, by kernel_rfl⟩
def c131 : ACode := 
    (.seq 
    (.region [⟨(some 3), (.q (.move (.const (.bool false)))), none⟩]) 
    (.seq 
    (.region [⟨(some 4), (.q (.load false 1 (.tmp 1))), none⟩, ⟨(some 5), (.q (.move (.tmp 0))), none⟩, ⟨(some 6), (.q (.idxSl 1 (.tmp 5) (.const (.int .i64 0)))), none⟩, ⟨(some 7), (.q (.load false 1 (.tmp 6))), none⟩, ⟨(some 8), (.q (.bin .geq (.tmp 4) (.tmp 7))), none⟩, ⟨(some 9), (.q (.move (.tmp 8))), none⟩, ⟨(some 10), (.q (.load false 1 (.tmp 1))), (some (9, true))⟩, ⟨(some 11), (.q (.move (.tmp 0))), (some (9, true))⟩, ⟨(some 12), (.q (.idxSl 1 (.tmp 11) (.const (.int .i64 0)))), (some (9, true))⟩, ⟨(some 13), (.q (.load false 1 (.tmp 12))), (some (9, true))⟩, ⟨(some 14), (.q (.bin .sub (.tmp 10) (.tmp 13))), (some (9, true))⟩, ⟨(some 15), (.q (.move (.tmp 0))), (some (9, true))⟩, ⟨(some 16), (.q (.idxSl 1 (.tmp 15) (.const (.int .i64 2)))), (some (9, true))⟩, ⟨(some 17), (.q (.load false 1 (.tmp 16))), (some (9, true))⟩, ⟨(some 18), (.q (.bin .lss (.tmp 14) (.tmp 17))), (some (9, true))⟩, ⟨(some 19), (.q (.pick (.tmp 9) (.tmp 18) (.const (.bool false)))), none⟩, ⟨(some 3), (.q (.move (.tmp 19))), none⟩]) .ret))
theorem t131 : Told Tryz.prog 131 20 c131 [(.tmp 3)] := ⟨Tryz.f131, _, [], Tryz.func131, rfl, by kernel_rfl, rfl, by kernel_rfl, by kernel_rfl⟩
def c37 : ACode := 
    (.seq 
    (.region [⟨(some 3), (.s (.box 25 (.tmp 0))), none⟩, ⟨(some 6), (.q (.move (.const (.int .i64 0)))), none⟩, ⟨(some 7), (.q (.move (.const (.int .i64 0)))), none⟩]) 
    (.seq 
    (.region [⟨(some 22), (.q (.load true 3 (.tmp 3))), none⟩, ⟨(some 23), (.q (.move (.tmp 1))), none⟩, ⟨(some 24), (.s (.call 74 [(.tmp 22), (.tmp 23)])), none⟩, ⟨(some 21), (.q (.move (.tmp 24))), none⟩, ⟨(some 25), (.q (.extract 0 (.tmp 21))), none⟩, ⟨(some 26), (.q (.extract 1 (.tmp 21))), none⟩, ⟨(some 27), (.q (.extract 2 (.tmp 21))), none⟩, ⟨(some 8), (.s (.alloc 25 [(.str (B [])), .nils, .nils])), none⟩, ⟨(some 9), (.s (.alloc 25 [(.str (B [])), .nils, .nils])), none⟩, ⟨none, (.s (.store 3 (.tmp 8) (.tmp 25))), none⟩, ⟨none, (.s (.store 3 (.tmp 9) (.tmp 26))), none⟩, ⟨(some 10), (.q (.move (.tmp 27))), none⟩]) 
    (.seq 
    (.region [⟨(some 29), (.q (.load true 3 (.tmp 8))), none⟩, ⟨(some 30), (.s (.call 75 [(.tmp 29), (.const (.str (B [114, 97, 110, 103, 101, 115])))])), none⟩, ⟨(some 28), (.q (.move (.tmp 30))), none⟩, ⟨(some 31), (.q (.extract 0 (.tmp 28))), none⟩, ⟨(some 32), (.q (.extract 1 (.tmp 28))), none⟩, ⟨(some 11), (.q (.move (.tmp 31))), none⟩, ⟨(some 12), (.q (.move (.tmp 32))), none⟩]) 
    (.seq 
    (.block 0 
    (.seq 
    (.region [⟨(some 34), (.q (.move (.tmp 10))), none⟩, ⟨(some 35), (.q (.un .not (.tmp 34))), none⟩, ⟨(some 33), (.q (.move (.tmp 35))), none⟩]) 
    (.cond (.tmp 33) 
    (.seq 
    (.region [⟨(some 6), (.q (.move (.const (.int .i64 0)))), none⟩, ⟨(some 7), (.q (.move (.const (.int .i64 8)))), none⟩]) .ret) 
    (.seq 
    (.region [⟨(some 37), (.q (.move (.tmp 2))), none⟩, ⟨(some 38), (.s (.lit 3 1 [(.tmp 37)])), none⟩, ⟨(some 39), (.s (.call 79 [(.tmp 38)])), none⟩, ⟨(some 40), (.q (.un .not (.tmp 39))), none⟩, ⟨(some 36), (.q (.move (.tmp 40))), none⟩]) 
    (.cond (.tmp 36) 
    (.seq 
    (.region [⟨(some 6), (.q (.move (.const (.int .i64 0)))), none⟩, ⟨(some 7), (.q (.move (.const (.int .i64 1)))), none⟩]) .ret) 
    (.seq 
    (.region [⟨(some 42), (.q (.move (.tmp 12))), none⟩, ⟨(some 43), (.q (.un .not (.tmp 42))), none⟩, ⟨(some 41), (.q (.move (.tmp 43))), none⟩]) 
    (.cond (.tmp 41) 
    (.seq 
    (.region [⟨(some 6), (.q (.move (.const (.int .i64 0)))), none⟩, ⟨(some 7), (.q (.move (.const (.int .i64 8)))), none⟩]) .ret) 
    (.seq 
    (.region [⟨(some 45), (.q (.move (.tmp 11))), none⟩, ⟨(some 46), (.q (.bin .eql (.tmp 45) (.const (.str (B []))))), none⟩, ⟨(some 44), (.q (.move (.tmp 46))), none⟩]) 
    (.cond (.tmp 44) 
    (.seq 
    (.region [⟨(some 47), (.q (.move (.tmp 2))), none⟩, ⟨(some 6), (.q (.move (.tmp 47))), none⟩, ⟨(some 7), (.q (.move (.const (.int .i64 0)))), none⟩]) .ret) .skip))))))))) 
    (.seq 
    (.region [⟨(some 49), (.q (.load true 3 (.tmp 8))), none⟩, ⟨(some 50), (.s (.call 32 [(.tmp 49)])), none⟩, ⟨(some 48), (.q (.move (.tmp 50))), none⟩, ⟨(some 51), (.q (.extract 0 (.tmp 48))), none⟩, ⟨(some 52), (.q (.extract 1 (.tmp 48))), none⟩, ⟨(some 53), (.q (.extract 2 (.tmp 48))), none⟩, ⟨(some 13), (.q (.move (.tmp 51))), none⟩, ⟨(some 14), (.q (.move (.tmp 52))), none⟩, ⟨(some 15), (.q (.move (.tmp 53))), none⟩]) 
    (.seq 
    (.region [⟨(some 55), (.q (.load true 3 (.tmp 9))), none⟩, ⟨(some 56), (.s (.call 32 [(.tmp 55)])), none⟩, ⟨(some 54), (.q (.move (.tmp 56))), none⟩, ⟨(some 57), (.q (.extract 0 (.tmp 54))), none⟩, ⟨(some 58), (.q (.extract 1 (.tmp 54))), none⟩, ⟨(some 59), (.q (.extract 2 (.tmp 54))), none⟩, ⟨(some 16), (.q (.move (.tmp 57))), none⟩, ⟨(some 17), (.q (.move (.tmp 58))), none⟩, ⟨(some 18), (.q (.move (.tmp 59))), none⟩]) 
    (.seq 
    (.seq 
    (.region [⟨(some 60), (.q (.move (.tmp 15))), none⟩, ⟨(some 61), (.q (.un .not (.tmp 60))), none⟩, ⟨(some 62), (.q (.move (.tmp 61))), none⟩, ⟨(some 63), (.q (.move (.tmp 18))), (some (62, false))⟩, ⟨(some 64), (.q (.un .not (.tmp 63))), (some (62, false))⟩, ⟨(some 65), (.q (.pick (.tmp 62) (.const (.bool true)) (.tmp 64))), none⟩]) 
    (.cond (.tmp 65) 
    (.seq 
    (.region [⟨(some 6), (.q (.move (.const (.int .i64 0)))), none⟩, ⟨(some 7), (.q (.move (.const (.int .i64 6)))), none⟩]) .ret) .skip)) 
    (.seq 
    (.region [⟨(some 67), (.q (.move (.tmp 11))), none⟩, ⟨(some 68), (.q (.move (.tmp 13))), none⟩, ⟨(some 69), (.q (.move (.tmp 16))), none⟩, ⟨(some 70), (.q (.move (.tmp 14))), none⟩, ⟨(some 71), (.s (.lit 3 1 [(.tmp 68), (.tmp 69), (.tmp 70)])), none⟩, ⟨(some 72), (.s (.call 76 [(.tmp 67), (.tmp 71)])), none⟩, ⟨(some 66), (.q (.move (.tmp 72))), none⟩, ⟨(some 73), (.q (.extract 0 (.tmp 66))), none⟩, ⟨(some 74), (.q (.extract 1 (.tmp 66))), none⟩, ⟨(some 19), (.q (.move (.tmp 73))), none⟩, ⟨(some 20), (.q (.move (.tmp 74))), none⟩]) 
    (.seq 
    (.seq 
    (.region [⟨(some 75), (.q (.move (.tmp 20))), none⟩, ⟨(some 76), (.q (.bin .neq (.tmp 75) (.const (.int .i64 0)))), none⟩]) 
    (.cond (.tmp 76) 
    (.seq 
    (.region [⟨(some 77), (.q (.move (.tmp 20))), none⟩, ⟨(some 6), (.q (.move (.const (.int .i64 0)))), none⟩, ⟨(some 7), (.q (.move (.tmp 77))), none⟩]) .ret) .skip)) 
    (.seq 
    (.region [⟨(some 78), (.q (.move (.tmp 19))), none⟩, ⟨(some 79), (.q (.move (.tmp 2))), none⟩, ⟨(some 80), (.s (.call 80 [(.tmp 78), (.tmp 79)])), none⟩, ⟨(some 81), (.q (.extract 0 (.tmp 80))), none⟩, ⟨(some 82), (.q (.extract 1 (.tmp 80))), none⟩, ⟨(some 6), (.q (.move (.tmp 81))), none⟩, ⟨(some 7), (.q (.move (.tmp 82))), none⟩]) .ret))))))))))
theorem t37 : Told Tryz.prog 37 83 c37 [(.tmp 6), (.tmp 7)] := ⟨Tryz.f37, _, [], Tryz.func37, rfl, by kernel_rfl, rfl, by kernel_rfl, by kernel_rfl⟩
def c39 : ACode := 
    (.seq 
    (.region [⟨(some 3), (.s (.box 25 (.tmp 0))), none⟩, ⟨(some 6), (.q (.move (.const (.int .i64 0)))), none⟩, ⟨(some 7), (.q (.move (.const (.int .i64 0)))), none⟩]) 
    (.seq 
    (.region [⟨(some 16), (.q (.move (.tmp 1))), none⟩, ⟨(some 17), (.s (.call 82 [(.tmp 16)])), none⟩, ⟨(some 15), (.q (.move (.tmp 17))), none⟩, ⟨(some 18), (.q (.extract 0 (.tmp 15))), none⟩, ⟨(some 19), (.q (.extract 1 (.tmp 15))), none⟩, ⟨(some 8), (.q (.move (.tmp 18))), none⟩, ⟨(some 9), (.q (.move (.tmp 19))), none⟩]) 
    (.seq 
    (.region [⟨(some 21), (.q (.load true 3 (.tmp 3))), none⟩, ⟨(some 22), (.q (.move (.tmp 1))), none⟩, ⟨(some 23), (.s (.call 62 [(.tmp 21), (.tmp 22)])), none⟩, ⟨(some 20), (.q (.move (.tmp 23))), none⟩, ⟨(some 24), (.q (.extract 0 (.tmp 20))), none⟩, ⟨(some 25), (.q (.extract 1 (.tmp 20))), none⟩, ⟨(some 10), (.s (.alloc 25 [(.str (B [])), .nils, .nils])), none⟩, ⟨none, (.s (.store 3 (.tmp 10) (.tmp 24))), none⟩, ⟨(some 11), (.q (.move (.tmp 25))), none⟩]) 
    (.seq 
    (.block 0 
    (.seq 
    (.region [⟨(some 27), (.q (.move (.tmp 9))), none⟩, ⟨(some 28), (.q (.un .not (.tmp 27))), none⟩, ⟨(some 29), (.q (.move (.tmp 28))), none⟩, ⟨(some 30), (.q (.move (.tmp 11))), (some (29, false))⟩, ⟨(some 31), (.q (.un .not (.tmp 30))), (some (29, false))⟩, ⟨(some 32), (.q (.pick (.tmp 29) (.const (.bool true)) (.tmp 31))), none⟩, ⟨(some 26), (.q (.move (.tmp 32))), none⟩]) 
    (.cond (.tmp 26) 
    (.seq 
    (.region [⟨(some 6), (.q (.move (.const (.int .i64 0)))), none⟩, ⟨(some 7), (.q (.move (.const (.int .i64 8)))), none⟩]) .ret) 
    (.seq 
    (.region [⟨(some 34), (.q (.move (.tmp 2))), none⟩, ⟨(some 35), (.s (.lit 3 1 [(.tmp 34)])), none⟩, ⟨(some 36), (.s (.call 79 [(.tmp 35)])), none⟩, ⟨(some 37), (.q (.un .not (.tmp 36))), none⟩, ⟨(some 33), (.q (.move (.tmp 37))), none⟩]) 
    (.cond (.tmp 33) 
    (.seq 
    (.region [⟨(some 6), (.q (.move (.const (.int .i64 0)))), none⟩, ⟨(some 7), (.q (.move (.const (.int .i64 1)))), none⟩]) .ret) .skip))))) 
    (.seq 
    (.seq 
    (.region [⟨(some 38), (.q (.move (.tmp 8))), none⟩, ⟨(some 39), (.q (.len false (.tmp 38))), none⟩, ⟨(some 12), (.q (.move (.tmp 39))), none⟩]) 
    (.block 1 
    (.loop 
    (.seq 
    (.seq 
    (.region [⟨(some 40), (.q (.move (.tmp 12))), none⟩, ⟨(some 41), (.q (.bin .gtr (.tmp 40) (.const (.int .i64 0)))), none⟩]) 
    (.cond (.tmp 41) .skip (.exit 1))) 
    (.seq 
    (.block 2 
    (.seq 
    (.region [⟨(some 45), (.q (.load true 3 (.tmp 3))), none⟩, ⟨(some 46), (.q (.move (.tmp 8))), none⟩, ⟨(some 47), (.q (.move (.tmp 12))), none⟩, ⟨(some 48), (.q (.sliceSl 1 (.tmp 46) none (some (.tmp 47)))), none⟩, ⟨(some 49), (.c (.fn 83) [(.tmp 48)]), none⟩, ⟨(some 50), (.q (.move (.tmp 2))), none⟩, ⟨(some 51), (.s (.call 37 [(.tmp 45), (.tmp 49), (.tmp 50)])), none⟩, ⟨(some 44), (.q (.move (.tmp 51))), none⟩, ⟨(some 52), (.q (.extract 0 (.tmp 44))), none⟩, ⟨(some 53), (.q (.extract 1 (.tmp 44))), none⟩, ⟨(some 13), (.q (.move (.tmp 52))), none⟩, ⟨(some 14), (.q (.move (.tmp 53))), none⟩]) 
    (.seq 
    (.seq 
    (.region [⟨(some 54), (.q (.move (.tmp 14))), none⟩, ⟨(some 55), (.q (.bin .neq (.tmp 54) (.const (.int .i64 0)))), none⟩]) 
    (.cond (.tmp 55) 
    (.seq 
    (.region [⟨(some 56), (.q (.move (.tmp 14))), none⟩, ⟨(some 6), (.q (.move (.const (.int .i64 0)))), none⟩, ⟨(some 7), (.q (.move (.tmp 56))), none⟩]) .ret) .skip)) 
    (.region [⟨(some 57), (.q (.move (.tmp 13))), none⟩, ⟨(some 2), (.q (.move (.tmp 57))), none⟩])))) 
    (.region [⟨(some 42), (.q (.move (.tmp 12))), none⟩, ⟨(some 43), (.q (.bin .sub (.tmp 42) (.const (.int .i64 1)))), none⟩, ⟨(some 12), (.q (.move (.tmp 43))), none⟩])))))) 
    (.seq 
    (.region [⟨(some 58), (.q (.move (.tmp 2))), none⟩, ⟨(some 6), (.q (.move (.tmp 58))), none⟩, ⟨(some 7), (.q (.move (.const (.int .i64 0)))), none⟩]) .ret))))))
theorem t39 : Told Tryz.prog 39 59 c39 [(.tmp 6), (.tmp 7)] := ⟨Tryz.f39, _, [], Tryz.func39, rfl, by kernel_rfl, rfl, by kernel_rfl, by kernel_rfl⟩
def c41 : ACode := 
    (.seq 
    (.region [⟨(some 1), (.s (.box 25 (.tmp 0))), none⟩, ⟨(some 2), (.q (.move (.const .nils))), none⟩]) 
    (.seq 
    (.region [⟨(some 3), (.q (.move (.const .nils))), none⟩]) 
    (.seq 
    (.seq 
    (.region [⟨(some 10), (.q (.fieldAddr 2 (.tmp 1))), none⟩, ⟨(some 11), (.q (.load false 1 (.tmp 10))), none⟩, ⟨(some 12), (.q (.len false (.tmp 11))), none⟩, ⟨(some 13), (.q (.move (.const (.int .i64 0)))), none⟩]) 
    (.block 0 
    (.loop 
    (.seq 
    (.region [⟨(some 14), (.q (.bin .lss (.tmp 13) (.tmp 12))), none⟩]) 
    (.seq 
    (.cond (.tmp 14) .skip (.exit 0)) 
    (.seq 
    (.block 1 
    (.seq 
    (.region [⟨(some 15), (.q (.idxSl 3 (.tmp 11) (.tmp 13))), none⟩, ⟨(some 16), (.q (.load true 3 (.tmp 15))), none⟩, ⟨(some 5), (.s (.alloc 25 [(.str (B [])), .nils, .nils])), none⟩, ⟨none, (.s (.store 3 (.tmp 5) (.tmp 16))), none⟩]) 
    (.seq 
    (.region [⟨(some 18), (.q (.load true 3 (.tmp 5))), none⟩, ⟨(some 19), (.s (.call 84 [(.tmp 18), (.const (.str (B [47]))), (.const (.str (B [100, 101, 118, 105, 99, 101, 95, 116, 121, 112, 101])))])), none⟩, ⟨(some 17), (.q (.move (.tmp 19))), none⟩, ⟨(some 20), (.q (.extract 0 (.tmp 17))), none⟩, ⟨(some 21), (.q (.extract 1 (.tmp 17))), none⟩, ⟨(some 6), (.q (.move (.tmp 20))), none⟩, ⟨(some 7), (.q (.move (.tmp 21))), none⟩]) 
    (.seq 
    (.seq 
    (.region [⟨(some 22), (.q (.move (.tmp 6))), none⟩, ⟨(some 23), (.q (.bin .neq (.tmp 22) (.const (.str (B [109, 101, 109, 111, 114, 121]))))), none⟩]) 
    (.cond (.tmp 23) (.exit 1) .skip)) 
    (.seq 
    (.region [⟨(some 25), (.q (.load true 3 (.tmp 1))), none⟩, ⟨(some 26), (.q (.fieldAddr 0 (.tmp 5))), none⟩, ⟨(some 27), (.q (.load false 1 (.tmp 26))), none⟩, ⟨(some 28), (.s (.lit 9 1 [(.tmp 27)])), none⟩, ⟨(some 29), (.c (.fn 83) [(.tmp 28)]), none⟩, ⟨(some 30), (.s (.call 34 [(.tmp 25), (.tmp 29)])), none⟩, ⟨(some 24), (.q (.move (.tmp 30))), none⟩, ⟨(some 31), (.q (.extract 0 (.tmp 24))), none⟩, ⟨(some 32), (.q (.extract 1 (.tmp 24))), none⟩, ⟨(some 8), (.q (.move (.tmp 31))), none⟩, ⟨(some 9), (.q (.move (.tmp 32))), none⟩]) 
    (.seq 
    (.region [⟨(some 33), (.q (.move (.tmp 9))), none⟩, ⟨(some 34), (.q (.bin .eql (.tmp 33) (.const (.int .i64 0)))), none⟩]) 
    (.cond (.tmp 34) 
    (.region [⟨(some 35), (.q (.move (.tmp 3))), none⟩, ⟨(some 36), (.q (.move (.tmp 8))), none⟩, ⟨(some 37), (.s (.app 93 2 16 (.tmp 35) (.tmp 36))), none⟩, ⟨(some 3), (.q (.move (.tmp 37))), none⟩]) .skip))))))) 
    (.region [⟨(some 38), (.q (.bin .add (.tmp 13) (.const (.int .i64 1)))), none⟩, ⟨(some 13), (.q (.move (.tmp 38))), none⟩]))))))) 
    (.seq 
    (.region [⟨(some 39), (.q (.move (.tmp 3))), none⟩, ⟨(some 40), (.s (.call 85 [(.tmp 39)])), none⟩, ⟨(some 2), (.q (.move (.tmp 40))), none⟩]) .ret))))
theorem t41 : Told Tryz.prog 41 41 c41 [(.tmp 2)] := ⟨Tryz.f41, _, [], Tryz.func41, rfl, by kernel_rfl, rfl, by kernel_rfl, by kernel_rfl⟩
def c128 : ACode := 
    (.seq 
    (.region [⟨(some 4), (.q (.move (.const (.bool false)))), none⟩]) 
    (.seq 
    (.region [⟨(some 5), (.q (.move (.tmp 0))), none⟩, ⟨(some 6), (.q (.move (.tmp 1))), none⟩, ⟨(some 7), (.s (.call 172 [(.tmp 5), (.tmp 6)])), none⟩, ⟨(some 8), (.q (.bin .geq (.tmp 7) (.const (.int .i64 0)))), none⟩, ⟨(some 4), (.q (.move (.tmp 8))), none⟩]) .ret))
theorem t128 : Told Tryz.prog 128 9 c128 [(.tmp 4)] := ⟨Tryz.f128, _, [], Tryz.func128, rfl, by kernel_rfl, rfl, by kernel_rfl, by kernel_rfl⟩
def c172 : ACode := 
    (.seq 
    (.region [⟨(some 4), (.q (.move (.const (.int .i64 0)))), none⟩]) 
    (.seq 
    (.seq 
    (.region [⟨(some 6), (.q (.move (.tmp 0))), none⟩, ⟨(some 7), (.q (.len false (.tmp 6))), none⟩, ⟨(some 8), (.q (.move (.const (.int .i64 0)))), none⟩]) 
    (.block 0 
    (.loop 
    (.seq 
    (.region [⟨(some 9), (.q (.bin .lss (.tmp 8) (.tmp 7))), none⟩]) 
    (.seq 
    (.cond (.tmp 9) .skip (.exit 0)) 
    (.seq 
    (.block 1 
    (.seq 
    (.region [⟨(some 10), (.q (.move (.tmp 8))), none⟩, ⟨(some 5), (.q (.move (.tmp 10))), none⟩]) 
    (.seq 
    (.region [⟨(some 11), (.q (.move (.tmp 1))), none⟩, ⟨(some 12), (.q (.move (.tmp 0))), none⟩, ⟨(some 13), (.q (.move (.tmp 5))), none⟩, ⟨(some 14), (.q (.idxSl 1 (.tmp 12) (.tmp 13))), none⟩, ⟨(some 15), (.q (.load false 1 (.tmp 14))), none⟩, ⟨(some 16), (.s (.callv (.tmp 11) [(.tmp 15)])), none⟩]) 
    (.cond (.tmp 16) 
    (.seq 
    (.region [⟨(some 17), (.q (.move (.tmp 5))), none⟩, ⟨(some 4), (.q (.move (.tmp 17))), none⟩]) .ret) .skip)))) 
    (.region [⟨(some 18), (.q (.bin .add (.tmp 8) (.const (.int .i64 1)))), none⟩, ⟨(some 8), (.q (.move (.tmp 18))), none⟩]))))))) 
    (.seq 
    (.region [⟨(some 4), (.q (.move (.const (.int .i64 (-1))))), none⟩]) .ret)))
theorem t172 : Told Tryz.prog 172 19 c172 [(.tmp 4)] := ⟨Tryz.f172, _, [], Tryz.func172, rfl, by kernel_rfl, rfl, by kernel_rfl, by kernel_rfl⟩
def c130 : ACode := 
    (.seq 
    (.region [⟨(some 4), (.q (.move (.const (.int .i64 0)))), none⟩]) 
    (.seq 
    (.seq 
    (.region [⟨(some 6), (.q (.move (.tmp 0))), none⟩, ⟨(some 7), (.q (.len false (.tmp 6))), none⟩, ⟨(some 8), (.q (.move (.const (.int .i64 0)))), none⟩]) 
    (.block 0 
    (.loop 
    (.seq 
    (.region [⟨(some 9), (.q (.bin .lss (.tmp 8) (.tmp 7))), none⟩]) 
    (.seq 
    (.cond (.tmp 9) .skip (.exit 0)) 
    (.seq 
    (.block 1 
    (.seq 
    (.region [⟨(some 10), (.q (.move (.tmp 8))), none⟩, ⟨(some 5), (.q (.move (.tmp 10))), none⟩]) 
    (.seq 
    (.region [⟨(some 11), (.q (.move (.tmp 1))), none⟩, ⟨(some 12), (.q (.move (.tmp 0))), none⟩, ⟨(some 13), (.q (.move (.tmp 5))), none⟩, ⟨(some 14), (.q (.idxSl 1 (.tmp 12) (.tmp 13))), none⟩, ⟨(some 15), (.q (.load false 1 (.tmp 14))), none⟩, ⟨(some 16), (.s (.callv (.tmp 11) [(.tmp 15)])), none⟩]) 
    (.cond (.tmp 16) 
    (.seq 
    (.region [⟨(some 17), (.q (.move (.tmp 5))), none⟩, ⟨(some 4), (.q (.move (.tmp 17))), none⟩]) .ret) .skip)))) 
    (.region [⟨(some 18), (.q (.bin .add (.tmp 8) (.const (.int .i64 1)))), none⟩, ⟨(some 8), (.q (.move (.tmp 18))), none⟩]))))))) 
    (.seq 
    (.region [⟨(some 4), (.q (.move (.const (.int .i64 (-1))))), none⟩]) .ret)))
theorem t130 : Told Tryz.prog 130 19 c130 [(.tmp 4)] := ⟨Tryz.f130, _, [], Tryz.func130, rfl, by kernel_rfl, rfl, by kernel_rfl, by kernel_rfl⟩
def c81 : ACode := 
    (.seq 
    (.region [⟨(some 2), (.q (.move (.const (.bool false)))), none⟩]) 
    (.seq 
    (.region [⟨(some 3), (.q (.move (.tmp 0))), none⟩, ⟨(some 4), (.q (.bin .geq (.tmp 3) (.const (.int .i64 0)))), none⟩, ⟨(some 5), (.q (.move (.tmp 4))), none⟩, ⟨(some 6), (.q (.move (.tmp 0))), (some (5, true))⟩, ⟨(some 7), (.q (.bin .leq (.tmp 6) (.const (.int .i64 4294967295)))), (some (5, true))⟩, ⟨(some 8), (.q (.pick (.tmp 5) (.tmp 7) (.const (.bool false)))), none⟩, ⟨(some 2), (.q (.move (.tmp 8))), none⟩]) .ret))
theorem t81 : Told Tryz.prog 81 9 c81 [(.tmp 2)] := ⟨Tryz.f81, _, [], Tryz.func81, rfl, by kernel_rfl, rfl, by kernel_rfl, by kernel_rfl⟩
def c73 : ACode := 
    (.seq 
    (.region [⟨(some 3), (.s (.box 25 (.tmp 0))), none⟩, ⟨(some 6), (.q (.move (.const (.int .i64 0)))), none⟩]) 
    (.seq 
    (.region [⟨(some 12), (.q (.load true 3 (.tmp 3))), none⟩, ⟨(some 13), (.q (.move (.tmp 1))), none⟩, ⟨(some 14), (.s (.call 27 [(.tmp 12), (.tmp 13)])), none⟩, ⟨(some 11), (.q (.move (.tmp 14))), none⟩, ⟨(some 15), (.q (.extract 0 (.tmp 11))), none⟩, ⟨(some 16), (.q (.extract 1 (.tmp 11))), none⟩, ⟨(some 7), (.q (.move (.tmp 15))), none⟩, ⟨(some 8), (.q (.move (.tmp 16))), none⟩]) 
    (.seq 
    (.seq 
    (.region [⟨(some 17), (.q (.move (.tmp 8))), none⟩, ⟨(some 18), (.q (.un .not (.tmp 17))), none⟩]) 
    (.cond (.tmp 18) 
    (.seq 
    (.region [⟨(some 19), (.q (.move (.tmp 2))), none⟩, ⟨(some 6), (.q (.move (.tmp 19))), none⟩]) .ret) .skip)) 
    (.seq 
    (.region [⟨(some 21), (.q (.move (.tmp 7))), none⟩, ⟨(some 22), (.s (.call 123 [(.tmp 21)])), none⟩, ⟨(some 20), (.q (.move (.tmp 22))), none⟩, ⟨(some 23), (.q (.extract 0 (.tmp 20))), none⟩, ⟨(some 24), (.q (.extract 1 (.tmp 20))), none⟩, ⟨(some 9), (.q (.move (.tmp 23))), none⟩, ⟨(some 10), (.q (.move (.tmp 24))), none⟩]) 
    (.seq 
    (.seq 
    (.region [⟨(some 25), (.q (.move (.tmp 10))), none⟩, ⟨(some 26), (.q (.un .not (.tmp 25))), none⟩]) 
    (.cond (.tmp 26) 
    (.seq 
    (.region [⟨(some 6), (.q (.move (.const (.int .i64 (-1))))), none⟩]) .ret) .skip)) 
    (.seq 
    (.region [⟨(some 27), (.q (.move (.tmp 9))), none⟩, ⟨(some 6), (.q (.move (.tmp 27))), none⟩]) .ret))))))
theorem t73 : Told Tryz.prog 73 28 c73 [(.tmp 6)] := ⟨Tryz.f73, _, [], Tryz.func73, rfl, by kernel_rfl, rfl, by kernel_rfl, by kernel_rfl⟩
def c33 : ACode := 
    (.seq 
    (.region [⟨(some 1), (.s (.box 25 (.tmp 0))), none⟩, ⟨(some 2), (.q (.move (.const (.int .i64 0)))), none⟩, ⟨(some 3), (.q (.move (.const (.int .i64 0)))), none⟩, ⟨(some 4), (.q (.move (.const (.bool false)))), none⟩]) 
    (.seq 
    (.region [⟨(some 7), (.q (.load true 3 (.tmp 1))), none⟩, ⟨(some 8), (.c (.fn 73) [(.tmp 7), (.const (.str (B [35, 97, 100, 100, 114, 101, 115, 115, 45, 99, 101, 108, 108, 115]))), (.const (.int .i64 2))]), none⟩, ⟨(some 9), (.q (.load true 3 (.tmp 1))), none⟩, ⟨(some 10), (.s (.call 73 [(.tmp 9), (.const (.str (B [35, 115, 105, 122, 101, 45, 99, 101, 108, 108, 115]))), (.const (.int .i64 1))])), none⟩, ⟨(some 5), (.q (.move (.tmp 8))), none⟩, ⟨(some 6), (.q (.move (.tmp 10))), none⟩]) 
    (.seq 
    (.seq 
    (.region [⟨(some 11), (.q (.move (.tmp 5))), none⟩, ⟨(some 12), (.q (.bin .neq (.tmp 11) (.const (.int .i64 1)))), none⟩, ⟨(some 13), (.q (.move (.tmp 12))), none⟩, ⟨(some 14), (.q (.move (.tmp 5))), (some (13, true))⟩, ⟨(some 15), (.q (.bin .neq (.tmp 14) (.const (.int .i64 2)))), (some (13, true))⟩, ⟨(some 16), (.q (.pick (.tmp 13) (.tmp 15) (.const (.bool false)))), none⟩, ⟨(some 17), (.q (.move (.tmp 16))), none⟩, ⟨(some 18), (.q (.move (.tmp 6))), (some (17, false))⟩, ⟨(some 19), (.q (.bin .lss (.tmp 18) (.const (.int .i64 0)))), (some (17, false))⟩, ⟨(some 20), (.q (.pick (.tmp 17) (.const (.bool true)) (.tmp 19))), none⟩, ⟨(some 21), (.q (.move (.tmp 20))), none⟩, ⟨(some 22), (.q (.move (.tmp 6))), (some (21, false))⟩, ⟨(some 23), (.q (.bin .gtr (.tmp 22) (.const (.int .i64 2)))), (some (21, false))⟩, ⟨(some 24), (.q (.pick (.tmp 21) (.const (.bool true)) (.tmp 23))), none⟩]) 
    (.cond (.tmp 24) 
    (.seq 
    (.region [⟨(some 2), (.q (.move (.const (.int .i64 0)))), none⟩, ⟨(some 3), (.q (.move (.const (.int .i64 0)))), none⟩, ⟨(some 4), (.q (.move (.const (.bool false)))), none⟩]) .ret) .skip)) 
    (.seq 
    (.region [⟨(some 25), (.q (.move (.tmp 5))), none⟩, ⟨(some 26), (.q (.move (.tmp 6))), none⟩, ⟨(some 2), (.q (.move (.tmp 25))), none⟩, ⟨(some 3), (.q (.move (.tmp 26))), none⟩, ⟨(some 4), (.q (.move (.const (.bool true)))), none⟩]) .ret))))
theorem t33 : Told Tryz.prog 33 27 c33 [(.tmp 2), (.tmp 3), (.tmp 4)] := ⟨Tryz.f33, _, [], Tryz.func33, rfl, by kernel_rfl, rfl, by kernel_rfl, by kernel_rfl⟩
def c127 : ACode := 
    (.seq 
    (.region [⟨(some 2), (.q (.move (.const (.int .i64 0)))), none⟩, ⟨(some 3), (.q (.move (.const (.bool false)))), none⟩]) 
    (.seq 
    (.region [⟨(some 7), (.q (.move (.tmp 0))), none⟩, ⟨(some 8), (.s (.call 171 [(.tmp 7)])), none⟩, ⟨(some 6), (.q (.move (.tmp 8))), none⟩, ⟨(some 9), (.q (.extract 0 (.tmp 6))), none⟩, ⟨(some 10), (.q (.extract 1 (.tmp 6))), none⟩, ⟨(some 4), (.q (.move (.tmp 9))), none⟩, ⟨(some 5), (.q (.move (.tmp 10))), none⟩]) 
    (.seq 
    (.seq 
    (.region [⟨(some 11), (.q (.move (.tmp 4))), none⟩, ⟨(some 12), (.q (.len false (.tmp 11))), none⟩, ⟨(some 13), (.q (.bin .eql (.tmp 12) (.const (.int .i64 0)))), none⟩]) 
    (.cond (.tmp 13) 
    (.seq 
    (.region [⟨(some 2), (.q (.move (.const (.int .i64 0)))), none⟩, ⟨(some 3), (.q (.move (.const (.bool true)))), none⟩]) .ret) .skip)) 
    (.seq 
    (.region [⟨(some 14), (.q (.move (.tmp 4))), none⟩, ⟨(some 15), (.q (.move (.tmp 4))), none⟩, ⟨(some 16), (.q (.len false (.tmp 15))), none⟩, ⟨(some 17), (.q (.bin .sub (.tmp 16) (.const (.int .i64 1)))), none⟩, ⟨(some 18), (.q (.idxSl 1 (.tmp 14) (.tmp 17))), none⟩, ⟨(some 19), (.q (.load false 1 (.tmp 18))), none⟩, ⟨(some 20), (.q (.move (.tmp 4))), none⟩, ⟨(some 21), (.q (.len false (.tmp 20))), none⟩, ⟨(some 22), (.q (.bin .eql (.tmp 21) (.const (.int .i64 1)))), none⟩, ⟨(some 23), (.q (.move (.tmp 22))), none⟩, ⟨(some 24), (.q (.move (.tmp 4))), (some (23, false))⟩, ⟨(some 25), (.q (.idxSl 1 (.tmp 24) (.const (.int .i64 0)))), (some (23, false))⟩, ⟨(some 26), (.q (.load false 1 (.tmp 25))), (some (23, false))⟩, ⟨(some 27), (.q (.bin .eql (.tmp 26) (.const (.int .i64 0)))), (some (23, false))⟩, ⟨(some 28), (.q (.pick (.tmp 23) (.const (.bool true)) (.tmp 27))), none⟩, ⟨(some 2), (.q (.move (.tmp 19))), none⟩, ⟨(some 3), (.q (.move (.tmp 28))), none⟩]) .ret))))
theorem t127 : Told Tryz.prog 127 29 c127 [(.tmp 2), (.tmp 3)] := ⟨Tryz.f127, _, [], Tryz.func127, rfl, by kernel_rfl, rfl, by kernel_rfl, by kernel_rfl⟩
def c78 : ACode := 
    (.seq 
    (.region [⟨(some 3), (.s (.box 78 (.tmp 1))), none⟩, ⟨(some 4), (.q (.move (.const .nils))), none⟩, ⟨(some 5), (.q (.move (.const (.int .i64 0)))), none⟩]) 
    (.seq 
    (.region [⟨(some 14), (.q (.idxPt 1 3 (.tmp 3) (.const (.int .i64 0)))), none⟩, ⟨(some 15), (.q (.load false 1 (.tmp 14))), none⟩, ⟨(some 16), (.q (.idxPt 1 3 (.tmp 3) (.const (.int .i64 1)))), none⟩, ⟨(some 17), (.q (.load false 1 (.tmp 16))), none⟩, ⟨(some 18), (.q (.bin .add (.tmp 15) (.tmp 17))), none⟩, ⟨(some 19), (.q (.idxPt 1 3 (.tmp 3) (.const (.int .i64 2)))), none⟩, ⟨(some 20), (.q (.load false 1 (.tmp 19))), none⟩, ⟨(some 21), (.q (.bin .add (.tmp 18) (.tmp 20))), none⟩, ⟨(some 22), (.q (.bin .mul (.const (.int .i64 4)) (.tmp 21))), none⟩, ⟨(some 6), (.q (.move (.tmp 22))), none⟩]) 
    (.seq 
    (.seq 
    (.region [⟨(some 23), (.q (.move (.tmp 0))), none⟩, ⟨(some 24), (.q (.len true (.tmp 23))), none⟩, ⟨(some 25), (.q (.move (.tmp 6))), none⟩, ⟨(some 26), (.q (.bin .rem (.tmp 24) (.tmp 25))), none⟩, ⟨(some 27), (.q (.bin .neq (.tmp 26) (.const (.int .i64 0)))), none⟩]) 
    (.cond (.tmp 27) 
    (.seq 
    (.region [⟨(some 4), (.q (.move (.const .nils))), none⟩, ⟨(some 5), (.q (.move (.const (.int .i64 6)))), none⟩]) .ret) .skip)) 
    (.seq 
    (.region [⟨(some 7), (.q (.move (.const .nils))), none⟩]) 
    (.seq 
    (.seq 
    (.region [⟨(some 8), (.q (.move (.const (.int .i64 0)))), none⟩]) 
    (.block 0 
    (.loop 
    (.seq 
    (.seq 
    (.region [⟨(some 28), (.q (.move (.tmp 8))), none⟩, ⟨(some 29), (.q (.move (.tmp 0))), none⟩, ⟨(some 30), (.q (.len true (.tmp 29))), none⟩, ⟨(some 31), (.q (.bin .lss (.tmp 28) (.tmp 30))), none⟩]) 
    (.cond (.tmp 31) .skip (.exit 0))) 
    (.seq 
    (.block 1 
    (.seq 
    (.region [⟨(some 9), (.s (.alloc 78 [(.int .i64 0), (.int .i64 0), (.int .i64 0)])), none⟩]) 
    (.seq 
    (.region [⟨(some 35), (.q (.move (.tmp 8))), none⟩, ⟨(some 10), (.q (.move (.tmp 35))), none⟩]) 
    (.seq 
    (.seq 
    (.region [⟨(some 11), (.q (.move (.const (.int .i64 0)))), none⟩]) 
    (.block 2 
    (.loop 
    (.seq 
    (.seq 
    (.region [⟨(some 36), (.q (.move (.tmp 11))), none⟩, ⟨(some 37), (.q (.bin .lss (.tmp 36) (.const (.int .i64 3)))), none⟩]) 
    (.cond (.tmp 37) .skip (.exit 2))) 
    (.seq 
    (.block 3 
    (.seq 
    (.region [⟨(some 41), (.q (.move (.tmp 0))), none⟩, ⟨(some 42), (.q (.move (.tmp 10))), none⟩, ⟨(some 43), (.q (.move (.tmp 10))), none⟩, ⟨(some 44), (.q (.move (.tmp 11))), none⟩, ⟨(some 45), (.q (.idxPt 1 3 (.tmp 3) (.tmp 44))), none⟩, ⟨(some 46), (.q (.load false 1 (.tmp 45))), none⟩, ⟨(some 47), (.q (.bin .mul (.const (.int .i64 4)) (.tmp 46))), none⟩, ⟨(some 48), (.q (.bin .add (.tmp 43) (.tmp 47))), none⟩, ⟨(some 49), (.q (.sliceStr (.tmp 41) (some (.tmp 42)) (some (.tmp 48)))), none⟩, ⟨(some 50), (.s (.call 127 [(.tmp 49)])), none⟩, ⟨(some 40), (.q (.move (.tmp 50))), none⟩, ⟨(some 51), (.q (.extract 0 (.tmp 40))), none⟩, ⟨(some 52), (.q (.extract 1 (.tmp 40))), none⟩, ⟨(some 12), (.q (.move (.tmp 51))), none⟩, ⟨(some 13), (.q (.move (.tmp 52))), none⟩]) 
    (.seq 
    (.seq 
    (.region [⟨(some 53), (.q (.move (.tmp 13))), none⟩, ⟨(some 54), (.q (.un .not (.tmp 53))), none⟩]) 
    (.cond (.tmp 54) 
    (.seq 
    (.region [⟨(some 4), (.q (.move (.const .nils))), none⟩, ⟨(some 5), (.q (.move (.const (.int .i64 7)))), none⟩]) .ret) .skip)) 
    (.seq 
    (.region [⟨(some 55), (.q (.move (.tmp 11))), none⟩, ⟨(some 56), (.q (.move (.tmp 12))), none⟩, ⟨(some 57), (.q (.idxPt 1 3 (.tmp 9) (.tmp 55))), none⟩, ⟨none, (.s (.store 1 (.tmp 57) (.tmp 56))), none⟩]) 
    (.region [⟨(some 58), (.q (.move (.tmp 10))), none⟩, ⟨(some 59), (.q (.move (.tmp 11))), none⟩, ⟨(some 60), (.q (.idxPt 1 3 (.tmp 3) (.tmp 59))), none⟩, ⟨(some 61), (.q (.load false 1 (.tmp 60))), none⟩, ⟨(some 62), (.q (.bin .mul (.const (.int .i64 4)) (.tmp 61))), none⟩, ⟨(some 63), (.q (.bin .add (.tmp 58) (.tmp 62))), none⟩, ⟨(some 10), (.q (.move (.tmp 63))), none⟩]))))) 
    (.region [⟨(some 38), (.q (.move (.tmp 11))), none⟩, ⟨(some 39), (.q (.bin .add (.tmp 38) (.const (.int .i64 1)))), none⟩, ⟨(some 11), (.q (.move (.tmp 39))), none⟩])))))) 
    (.region [⟨(some 64), (.q (.move (.tmp 7))), none⟩, ⟨(some 65), (.q (.load true 3 (.tmp 9))), none⟩, ⟨(some 66), (.s (.lit 78 3 [(.tmp 65)])), none⟩, ⟨(some 67), (.s (.app 78 3 24 (.tmp 64) (.tmp 66))), none⟩, ⟨(some 7), (.q (.move (.tmp 67))), none⟩]))))) 
    (.region [⟨(some 32), (.q (.move (.tmp 8))), none⟩, ⟨(some 33), (.q (.move (.tmp 6))), none⟩, ⟨(some 34), (.q (.bin .add (.tmp 32) (.tmp 33))), none⟩, ⟨(some 8), (.q (.move (.tmp 34))), none⟩])))))) 
    (.seq 
    (.region [⟨(some 68), (.q (.move (.tmp 7))), none⟩, ⟨(some 4), (.q (.move (.tmp 68))), none⟩, ⟨(some 5), (.q (.move (.const (.int .i64 0)))), none⟩]) .ret))))))
theorem t78 : Told Tryz.prog 78 69 c78 [(.tmp 4), (.tmp 5)] := ⟨Tryz.f78, _, [], Tryz.func78, rfl, by kernel_rfl, rfl, by kernel_rfl, by kernel_rfl⟩
def c77 : ACode := 
    (.seq 
    (.region [⟨(some 2), (.q (.move (.const (.str (B []))))), none⟩]) 
    (.seq 
    (.region [⟨(some 6), (.q (.move (.tmp 0))), none⟩, ⟨(some 7), (.s (.call 47 [(.tmp 6)])), none⟩, ⟨(some 5), (.q (.move (.tmp 7))), none⟩, ⟨(some 8), (.q (.extract 0 (.tmp 5))), none⟩, ⟨(some 9), (.q (.extract 1 (.tmp 5))), none⟩, ⟨(some 3), (.q (.move (.tmp 8))), none⟩, ⟨(some 4), (.q (.move (.tmp 9))), none⟩]) 
    (.seq 
    (.seq 
    (.region [⟨(some 10), (.q (.move (.tmp 3))), none⟩, ⟨(some 11), (.q (.len false (.tmp 10))), none⟩, ⟨(some 12), (.q (.bin .eql (.tmp 11) (.const (.int .i64 0)))), none⟩]) 
    (.cond (.tmp 12) 
    (.seq 
    (.region [⟨(some 2), (.q (.move (.const (.str (B []))))), none⟩]) .ret) .skip)) 
    (.seq 
    (.region [⟨(some 13), (.q (.move (.tmp 3))), none⟩, ⟨(some 14), (.q (.move (.tmp 3))), none⟩, ⟨(some 15), (.q (.len false (.tmp 14))), none⟩, ⟨(some 16), (.q (.bin .sub (.tmp 15) (.const (.int .i64 1)))), none⟩, ⟨(some 17), (.q (.sliceSl 1 (.tmp 13) none (some (.tmp 16)))), none⟩, ⟨(some 18), (.s (.call 48 [(.tmp 17)])), none⟩, ⟨(some 2), (.q (.move (.tmp 18))), none⟩]) .ret))))
theorem t77 : Told Tryz.prog 77 19 c77 [(.tmp 2)] := ⟨Tryz.f77, _, [], Tryz.func77, rfl, by kernel_rfl, rfl, by kernel_rfl, by kernel_rfl⟩
def c35 : ACode := 
    (.seq 
    (.region [⟨(some 2), (.s (.box 25 (.tmp 0))), none⟩, ⟨(some 4), (.q (.move (.const .nils))), none⟩, ⟨(some 5), (.q (.move (.const (.int .i64 0)))), none⟩]) 
    (.seq 
    (.region [⟨(some 20), (.q (.load true 3 (.tmp 2))), none⟩, ⟨(some 21), (.q (.move (.tmp 1))), none⟩, ⟨(some 22), (.s (.call 26 [(.tmp 20), (.tmp 21)])), none⟩, ⟨(some 19), (.q (.move (.tmp 22))), none⟩, ⟨(some 23), (.q (.extract 0 (.tmp 19))), none⟩, ⟨(some 24), (.q (.extract 1 (.tmp 19))), none⟩, ⟨(some 6), (.s (.alloc 25 [(.str (B [])), .nils, .nils])), none⟩, ⟨none, (.s (.store 3 (.tmp 6) (.tmp 23))), none⟩, ⟨(some 7), (.q (.move (.tmp 24))), none⟩]) 
    (.seq 
    (.region [⟨(some 26), (.q (.load true 3 (.tmp 6))), none⟩, ⟨(some 27), (.s (.call 27 [(.tmp 26), (.const (.str (B [114, 101, 103])))])), none⟩, ⟨(some 25), (.q (.move (.tmp 27))), none⟩, ⟨(some 28), (.q (.extract 0 (.tmp 25))), none⟩, ⟨(some 29), (.q (.extract 1 (.tmp 25))), none⟩, ⟨(some 8), (.q (.move (.tmp 28))), none⟩, ⟨(some 9), (.q (.move (.tmp 29))), none⟩]) 
    (.seq 
    (.seq 
    (.region [⟨(some 30), (.q (.move (.tmp 7))), none⟩, ⟨(some 31), (.q (.un .not (.tmp 30))), none⟩, ⟨(some 32), (.q (.move (.tmp 31))), none⟩, ⟨(some 33), (.q (.move (.tmp 1))), (some (32, false))⟩, ⟨(some 34), (.q (.bin .eql (.tmp 33) (.const (.str (B [47]))))), (some (32, false))⟩, ⟨(some 35), (.q (.pick (.tmp 32) (.const (.bool true)) (.tmp 34))), none⟩, ⟨(some 36), (.q (.move (.tmp 35))), none⟩, ⟨(some 37), (.q (.move (.tmp 9))), (some (36, false))⟩, ⟨(some 38), (.q (.un .not (.tmp 37))), (some (36, false))⟩, ⟨(some 39), (.q (.pick (.tmp 36) (.const (.bool true)) (.tmp 38))), none⟩]) 
    (.cond (.tmp 39) 
    (.seq 
    (.region [⟨(some 4), (.q (.move (.const .nils))), none⟩, ⟨(some 5), (.q (.move (.const (.int .i64 8)))), none⟩]) .ret) .skip)) 
    (.seq 
    (.regionN 11 [⟨(some 41), (.q (.load true 3 (.tmp 2))), none⟩, ⟨(some 42), (.q (.move (.tmp 1))), none⟩, ⟨(some 43), (.c (.fn 77) [(.tmp 42)]), none⟩, ⟨(some 10), (.q (.move (.const .top))), none⟩, ⟨(some 44), (.s (.call 26 [(.tmp 41), (.tmp 43)])), none⟩, ⟨(some 40), (.q (.move (.tmp 44))), none⟩, ⟨(some 45), (.q (.extract 0 (.tmp 40))), none⟩, ⟨(some 46), (.q (.extract 1 (.tmp 40))), none⟩, ⟨(some 10), (.s (.put 25 3 (.tmp 45))), none⟩, ⟨(some 11), (.q (.move (.tmp 46))), none⟩]) 
    (.seq 
    (.region [⟨(some 48), (.q (.load true 3 (.tmp 10))), none⟩, ⟨(some 49), (.s (.call 33 [(.tmp 48)])), none⟩, ⟨(some 47), (.q (.move (.tmp 49))), none⟩, ⟨(some 50), (.q (.extract 0 (.tmp 47))), none⟩, ⟨(some 51), (.q (.extract 1 (.tmp 47))), none⟩, ⟨(some 52), (.q (.extract 2 (.tmp 47))), none⟩, ⟨(some 12), (.q (.move (.tmp 50))), none⟩, ⟨(some 13), (.q (.move (.tmp 51))), none⟩, ⟨(some 14), (.q (.move (.tmp 52))), none⟩]) 
    (.seq 
    (.seq 
    (.region [⟨(some 53), (.q (.move (.tmp 14))), none⟩, ⟨(some 54), (.q (.un .not (.tmp 53))), none⟩]) 
    (.cond (.tmp 54) 
    (.seq 
    (.region [⟨(some 4), (.q (.move (.const .nils))), none⟩, ⟨(some 5), (.q (.move (.const (.int .i64 6)))), none⟩]) .ret) .skip)) 
    (.seq 
    (.region [⟨(some 56), (.q (.move (.tmp 8))), none⟩, ⟨(some 57), (.q (.move (.tmp 12))), none⟩, ⟨(some 58), (.q (.move (.tmp 13))), none⟩, ⟨(some 59), (.q (.build [(.int .i64 0), (.int .i64 0), (.int .i64 0)] [(0, (1, (.tmp 57))), (1, (1, (.tmp 58))), (2, (1, (.const (.int .i64 0))))])), none⟩, ⟨(some 60), (.s (.call 78 [(.tmp 56), (.tmp 59)])), none⟩, ⟨(some 55), (.q (.move (.tmp 60))), none⟩, ⟨(some 61), (.q (.extract 0 (.tmp 55))), none⟩, ⟨(some 62), (.q (.extract 1 (.tmp 55))), none⟩, ⟨(some 15), (.q (.move (.tmp 61))), none⟩, ⟨(some 16), (.q (.move (.tmp 62))), none⟩]) 
    (.seq 
    (.seq 
    (.region [⟨(some 63), (.q (.move (.tmp 16))), none⟩, ⟨(some 64), (.q (.bin .neq (.tmp 63) (.const (.int .i64 0)))), none⟩]) 
    (.cond (.tmp 64) 
    (.seq 
    (.region [⟨(some 65), (.q (.move (.tmp 16))), none⟩, ⟨(some 4), (.q (.move (.const .nils))), none⟩, ⟨(some 5), (.q (.move (.tmp 65))), none⟩]) .ret) .skip)) 
    (.seq 
    (.region [⟨(some 17), (.q (.move (.const .nils))), none⟩]) 
    (.seq 
    (.seq 
    (.region [⟨(some 18), (.q (.move (.const (.int .i64 0)))), none⟩]) 
    (.block 0 
    (.loop 
    (.seq 
    (.seq 
    (.region [⟨(some 66), (.q (.move (.tmp 18))), none⟩, ⟨(some 67), (.q (.move (.tmp 15))), none⟩, ⟨(some 68), (.q (.len false (.tmp 67))), none⟩, ⟨(some 69), (.q (.bin .lss (.tmp 66) (.tmp 68))), none⟩]) 
    (.cond (.tmp 69) .skip (.exit 0))) 
    (.seq 
    (.block 1 
    (.region [⟨(some 72), (.q (.move (.tmp 17))), none⟩, ⟨(some 73), (.q (.move (.tmp 15))), none⟩, ⟨(some 74), (.q (.move (.tmp 18))), none⟩, ⟨(some 75), (.q (.idxSl 3 (.tmp 73) (.tmp 74))), none⟩, ⟨(some 76), (.q (.idxPt 1 3 (.tmp 75) (.const (.int .i64 0)))), none⟩, ⟨(some 77), (.q (.load false 1 (.tmp 76))), none⟩, ⟨(some 78), (.q (.move (.tmp 15))), none⟩, ⟨(some 79), (.q (.move (.tmp 18))), none⟩, ⟨(some 80), (.q (.idxSl 3 (.tmp 78) (.tmp 79))), none⟩, ⟨(some 81), (.q (.idxPt 1 3 (.tmp 80) (.const (.int .i64 1)))), none⟩, ⟨(some 82), (.q (.load false 1 (.tmp 81))), none⟩, ⟨(some 83), (.q (.build [(.int .i64 0), (.int .i64 0)] [(0, (1, (.tmp 77))), (1, (1, (.tmp 82)))])), none⟩, ⟨(some 84), (.s (.lit 93 2 [(.tmp 83)])), none⟩, ⟨(some 85), (.s (.app 93 2 16 (.tmp 72) (.tmp 84))), none⟩, ⟨(some 17), (.q (.move (.tmp 85))), none⟩])) 
    (.region [⟨(some 70), (.q (.move (.tmp 18))), none⟩, ⟨(some 71), (.q (.bin .add (.tmp 70) (.const (.int .i64 1)))), none⟩, ⟨(some 18), (.q (.move (.tmp 71))), none⟩])))))) 
    (.seq 
    (.region [⟨(some 86), (.q (.move (.tmp 17))), none⟩, ⟨(some 4), (.q (.move (.tmp 86))), none⟩, ⟨(some 5), (.q (.move (.const (.int .i64 0)))), none⟩]) .ret))))))))))))
theorem t35 : Told Tryz.prog 35 87 c35 [(.tmp 4), (.tmp 5)] := ⟨Tryz.f35, _, [], Tryz.func35, rfl, by kernel_rfl, rfl, by kernel_rfl, by kernel_rfl⟩
def c38 : ACode := 
    (.seq 
    (.region [⟨(some 3), (.s (.box 25 (.tmp 0))), none⟩, ⟨(some 6), (.q (.move (.const (.int .i64 0)))), none⟩, ⟨(some 7), (.q (.move (.const (.int .i64 0)))), none⟩]) 
    (.seq 
    (.region [⟨(some 25), (.q (.load true 3 (.tmp 3))), none⟩, ⟨(some 26), (.q (.move (.tmp 1))), none⟩, ⟨(some 27), (.s (.call 26 [(.tmp 25), (.tmp 26)])), none⟩, ⟨(some 24), (.q (.move (.tmp 27))), none⟩, ⟨(some 28), (.q (.extract 0 (.tmp 24))), none⟩, ⟨(some 29), (.q (.extract 1 (.tmp 24))), none⟩, ⟨(some 8), (.s (.alloc 25 [(.str (B [])), .nils, .nils])), none⟩, ⟨none, (.s (.store 3 (.tmp 8) (.tmp 28))), none⟩, ⟨(some 9), (.q (.move (.tmp 29))), none⟩]) 
    (.seq 
    (.seq 
    (.region [⟨(some 30), (.q (.move (.tmp 9))), none⟩, ⟨(some 31), (.q (.un .not (.tmp 30))), none⟩, ⟨(some 32), (.q (.move (.tmp 31))), none⟩, ⟨(some 33), (.q (.move (.tmp 1))), (some (32, false))⟩, ⟨(some 34), (.q (.bin .eql (.tmp 33) (.const (.str (B [47]))))), (some (32, false))⟩, ⟨(some 35), (.q (.pick (.tmp 32) (.const (.bool true)) (.tmp 34))), none⟩]) 
    (.cond (.tmp 35) 
    (.seq 
    (.region [⟨(some 6), (.q (.move (.const (.int .i64 0)))), none⟩, ⟨(some 7), (.q (.move (.const (.int .i64 8)))), none⟩]) .ret) .skip)) 
    (.seq 
    (.seq 
    (.region [⟨(some 36), (.q (.move (.tmp 2))), none⟩, ⟨(some 37), (.s (.call 81 [(.tmp 36)])), none⟩, ⟨(some 38), (.q (.un .not (.tmp 37))), none⟩]) 
    (.cond (.tmp 38) 
    (.seq 
    (.region [⟨(some 6), (.q (.move (.const (.int .i64 0)))), none⟩, ⟨(some 7), (.q (.move (.const (.int .i64 1)))), none⟩]) .ret) .skip)) 
    (.seq 
    (.region [⟨(some 40), (.q (.load true 3 (.tmp 8))), none⟩, ⟨(some 41), (.s (.call 27 [(.tmp 40), (.const (.str (B [114, 97, 110, 103, 101, 115])))])), none⟩, ⟨(some 39), (.q (.move (.tmp 41))), none⟩, ⟨(some 42), (.q (.extract 0 (.tmp 39))), none⟩, ⟨(some 43), (.q (.extract 1 (.tmp 39))), none⟩, ⟨(some 10), (.q (.move (.tmp 42))), none⟩, ⟨(some 11), (.q (.move (.tmp 43))), none⟩]) 
    (.seq 
    (.seq 
    (.region [⟨(some 44), (.q (.move (.tmp 11))), none⟩, ⟨(some 45), (.q (.un .not (.tmp 44))), none⟩]) 
    (.cond (.tmp 45) 
    (.seq 
    (.region [⟨(some 6), (.q (.move (.const (.int .i64 0)))), none⟩, ⟨(some 7), (.q (.move (.const (.int .i64 8)))), none⟩]) .ret) .skip)) 
    (.seq 
    (.seq 
    (.region [⟨(some 46), (.q (.move (.tmp 10))), none⟩, ⟨(some 47), (.q (.bin .eql (.tmp 46) (.const (.str (B []))))), none⟩]) 
    (.cond (.tmp 47) 
    (.seq 
    (.region [⟨(some 48), (.q (.move (.tmp 2))), none⟩, ⟨(some 6), (.q (.move (.tmp 48))), none⟩, ⟨(some 7), (.q (.move (.const (.int .i64 0)))), none⟩]) .ret) .skip)) 
    (.seq 
    (.regionN 13 [⟨(some 50), (.q (.load true 3 (.tmp 3))), none⟩, ⟨(some 51), (.q (.move (.tmp 1))), none⟩, ⟨(some 52), (.c (.fn 77) [(.tmp 51)]), none⟩, ⟨(some 12), (.q (.move (.const .top))), none⟩, ⟨(some 53), (.s (.call 26 [(.tmp 50), (.tmp 52)])), none⟩, ⟨(some 49), (.q (.move (.tmp 53))), none⟩, ⟨(some 54), (.q (.extract 0 (.tmp 49))), none⟩, ⟨(some 55), (.q (.extract 1 (.tmp 49))), none⟩, ⟨(some 12), (.s (.put 25 3 (.tmp 54))), none⟩, ⟨(some 13), (.q (.move (.tmp 55))), none⟩]) 
    (.seq 
    (.region [⟨(some 57), (.q (.load true 3 (.tmp 8))), none⟩, ⟨(some 58), (.s (.call 33 [(.tmp 57)])), none⟩, ⟨(some 56), (.q (.move (.tmp 58))), none⟩, ⟨(some 59), (.q (.extract 0 (.tmp 56))), none⟩, ⟨(some 60), (.q (.extract 1 (.tmp 56))), none⟩, ⟨(some 61), (.q (.extract 2 (.tmp 56))), none⟩, ⟨(some 14), (.q (.move (.tmp 59))), none⟩, ⟨(some 15), (.q (.move (.tmp 60))), none⟩, ⟨(some 16), (.q (.move (.tmp 61))), none⟩]) 
    (.seq 
    (.region [⟨(some 63), (.q (.load true 3 (.tmp 12))), none⟩, ⟨(some 64), (.s (.call 33 [(.tmp 63)])), none⟩, ⟨(some 62), (.q (.move (.tmp 64))), none⟩, ⟨(some 65), (.q (.extract 0 (.tmp 62))), none⟩, ⟨(some 66), (.q (.extract 1 (.tmp 62))), none⟩, ⟨(some 67), (.q (.extract 2 (.tmp 62))), none⟩, ⟨(some 17), (.q (.move (.tmp 65))), none⟩, ⟨(some 18), (.q (.move (.tmp 66))), none⟩, ⟨(some 19), (.q (.move (.tmp 67))), none⟩]) 
    (.seq 
    (.seq 
    (.region [⟨(some 68), (.q (.move (.tmp 16))), none⟩, ⟨(some 69), (.q (.un .not (.tmp 68))), none⟩, ⟨(some 70), (.q (.move (.tmp 69))), none⟩, ⟨(some 71), (.q (.move (.tmp 19))), (some (70, false))⟩, ⟨(some 72), (.q (.un .not (.tmp 71))), (some (70, false))⟩, ⟨(some 73), (.q (.pick (.tmp 70) (.const (.bool true)) (.tmp 72))), none⟩]) 
    (.cond (.tmp 73) 
    (.seq 
    (.region [⟨(some 6), (.q (.move (.const (.int .i64 0)))), none⟩, ⟨(some 7), (.q (.move (.const (.int .i64 6)))), none⟩]) .ret) .skip)) 
    (.seq 
    (.region [⟨(some 75), (.q (.move (.tmp 10))), none⟩, ⟨(some 76), (.q (.move (.tmp 14))), none⟩, ⟨(some 77), (.q (.move (.tmp 17))), none⟩, ⟨(some 78), (.q (.move (.tmp 15))), none⟩, ⟨(some 79), (.q (.build [(.int .i64 0), (.int .i64 0), (.int .i64 0)] [(0, (1, (.tmp 76))), (1, (1, (.tmp 77))), (2, (1, (.tmp 78)))])), none⟩, ⟨(some 80), (.s (.call 78 [(.tmp 75), (.tmp 79)])), none⟩, ⟨(some 74), (.q (.move (.tmp 80))), none⟩, ⟨(some 81), (.q (.extract 0 (.tmp 74))), none⟩, ⟨(some 82), (.q (.extract 1 (.tmp 74))), none⟩, ⟨(some 20), (.q (.move (.tmp 81))), none⟩, ⟨(some 21), (.q (.move (.tmp 82))), none⟩]) 
    (.seq 
    (.seq 
    (.region [⟨(some 83), (.q (.move (.tmp 21))), none⟩, ⟨(some 84), (.q (.bin .neq (.tmp 83) (.const (.int .i64 0)))), none⟩]) 
    (.cond (.tmp 84) 
    (.seq 
    (.region [⟨(some 85), (.q (.move (.tmp 21))), none⟩, ⟨(some 6), (.q (.move (.const (.int .i64 0)))), none⟩, ⟨(some 7), (.q (.move (.tmp 85))), none⟩]) .ret) .skip)) 
    (.seq 
    (.seq 
    (.region [⟨(some 22), (.q (.move (.const (.int .i64 0)))), none⟩]) 
    (.block 0 
    (.loop 
    (.seq 
    (.seq 
    (.region [⟨(some 86), (.q (.move (.tmp 22))), none⟩, ⟨(some 87), (.q (.move (.tmp 20))), none⟩, ⟨(some 88), (.q (.len false (.tmp 87))), none⟩, ⟨(some 89), (.q (.bin .lss (.tmp 86) (.tmp 88))), none⟩]) 
    (.cond (.tmp 89) .skip (.exit 0))) 
    (.seq 
    (.block 1 
    (.seq 
    (.region [⟨(some 92), (.q (.move (.tmp 2))), none⟩, ⟨(some 93), (.q (.move (.tmp 20))), none⟩, ⟨(some 94), (.q (.move (.tmp 22))), none⟩, ⟨(some 95), (.q (.idxSl 3 (.tmp 93) (.tmp 94))), none⟩, ⟨(some 96), (.q (.idxPt 1 3 (.tmp 95) (.const (.int .i64 0)))), none⟩, ⟨(some 97), (.q (.load false 1 (.tmp 96))), none⟩, ⟨(some 98), (.q (.bin .geq (.tmp 92) (.tmp 97))), none⟩, ⟨(some 99), (.q (.move (.tmp 98))), none⟩, ⟨(some 100), (.q (.move (.tmp 2))), (some (99, true))⟩, ⟨(some 101), (.q (.move (.tmp 20))), (some (99, true))⟩, ⟨(some 102), (.q (.move (.tmp 22))), (some (99, true))⟩, ⟨(some 103), (.q (.idxSl 3 (.tmp 101) (.tmp 102))), (some (99, true))⟩, ⟨(some 104), (.q (.idxPt 1 3 (.tmp 103) (.const (.int .i64 0)))), (some (99, true))⟩, ⟨(some 105), (.q (.load false 1 (.tmp 104))), (some (99, true))⟩, ⟨(some 106), (.q (.move (.tmp 20))), (some (99, true))⟩, ⟨(some 107), (.q (.move (.tmp 22))), (some (99, true))⟩, ⟨(some 108), (.q (.idxSl 3 (.tmp 106) (.tmp 107))), (some (99, true))⟩, ⟨(some 109), (.q (.idxPt 1 3 (.tmp 108) (.const (.int .i64 2)))), (some (99, true))⟩, ⟨(some 110), (.q (.load false 1 (.tmp 109))), (some (99, true))⟩, ⟨(some 111), (.q (.bin .add (.tmp 105) (.tmp 110))), (some (99, true))⟩, ⟨(some 112), (.q (.bin .lss (.tmp 100) (.tmp 111))), (some (99, true))⟩, ⟨(some 113), (.q (.pick (.tmp 99) (.tmp 112) (.const (.bool false)))), none⟩]) 
    (.cond (.tmp 113) 
    (.seq 
    (.region [⟨(some 114), (.q (.move (.tmp 20))), none⟩, ⟨(some 115), (.q (.move (.tmp 22))), none⟩, ⟨(some 116), (.q (.idxSl 3 (.tmp 114) (.tmp 115))), none⟩, ⟨(some 117), (.q (.idxPt 1 3 (.tmp 116) (.const (.int .i64 1)))), none⟩, ⟨(some 118), (.q (.load false 1 (.tmp 117))), none⟩, ⟨(some 119), (.q (.move (.tmp 2))), none⟩, ⟨(some 120), (.q (.bin .add (.tmp 118) (.tmp 119))), none⟩, ⟨(some 121), (.q (.move (.tmp 20))), none⟩, ⟨(some 122), (.q (.move (.tmp 22))), none⟩, ⟨(some 123), (.q (.idxSl 3 (.tmp 121) (.tmp 122))), none⟩, ⟨(some 124), (.q (.idxPt 1 3 (.tmp 123) (.const (.int .i64 0)))), none⟩, ⟨(some 125), (.q (.load false 1 (.tmp 124))), none⟩, ⟨(some 126), (.q (.bin .sub (.tmp 120) (.tmp 125))), none⟩, ⟨(some 23), (.q (.move (.tmp 126))), none⟩]) 
    (.seq 
    (.seq 
    (.region [⟨(some 127), (.q (.move (.tmp 23))), none⟩, ⟨(some 128), (.q (.bin .gtr (.tmp 127) (.const (.int .i64 4294967295)))), none⟩]) 
    (.cond (.tmp 128) 
    (.seq 
    (.region [⟨(some 6), (.q (.move (.const (.int .i64 0)))), none⟩, ⟨(some 7), (.q (.move (.const (.int .i64 2)))), none⟩]) .ret) .skip)) 
    (.seq 
    (.region [⟨(some 129), (.q (.move (.tmp 23))), none⟩, ⟨(some 6), (.q (.move (.tmp 129))), none⟩, ⟨(some 7), (.q (.move (.const (.int .i64 0)))), none⟩]) .ret))) .skip))) 
    (.region [⟨(some 90), (.q (.move (.tmp 22))), none⟩, ⟨(some 91), (.q (.bin .add (.tmp 90) (.const (.int .i64 1)))), none⟩, ⟨(some 22), (.q (.move (.tmp 91))), none⟩])))))) 
    (.seq 
    (.region [⟨(some 6), (.q (.move (.const (.int .i64 0)))), none⟩, ⟨(some 7), (.q (.move (.const (.int .i64 2)))), none⟩]) .ret)))))))))))))))
theorem t38 : Told Tryz.prog 38 130 c38 [(.tmp 6), (.tmp 7)] := ⟨Tryz.f38, _, [], Tryz.func38, rfl, by kernel_rfl, rfl, by kernel_rfl, by kernel_rfl⟩
def c40 : ACode := 
    (.seq 
    (.region [⟨(some 3), (.s (.box 25 (.tmp 0))), none⟩, ⟨(some 6), (.q (.move (.const (.int .i64 0)))), none⟩, ⟨(some 7), (.q (.move (.const (.int .i64 0)))), none⟩]) 
    (.seq 
    (.seq 
    (.region [⟨(some 13), (.q (.load true 3 (.tmp 3))), none⟩, ⟨(some 14), (.q (.move (.tmp 1))), none⟩, ⟨(some 15), (.s (.call 26 [(.tmp 13), (.tmp 14)])), none⟩, ⟨(some 12), (.q (.move (.tmp 15))), none⟩, ⟨(some 16), (.q (.extract 0 (.tmp 12))), none⟩, ⟨(some 17), (.q (.extract 1 (.tmp 12))), none⟩, ⟨(some 8), (.s (.alloc 25 [(.str (B [])), .nils, .nils])), none⟩, ⟨none, (.s (.store 3 (.tmp 8) (.tmp 16))), none⟩, ⟨(some 9), (.q (.move (.tmp 17))), none⟩]) 
    (.seq 
    (.region [⟨(some 18), (.q (.move (.tmp 9))), none⟩, ⟨(some 19), (.q (.un .not (.tmp 18))), none⟩]) 
    (.cond (.tmp 19) 
    (.seq 
    (.region [⟨(some 6), (.q (.move (.const (.int .i64 0)))), none⟩, ⟨(some 7), (.q (.move (.const (.int .i64 8)))), none⟩]) .ret) .skip))) 
    (.seq 
    (.seq 
    (.region [⟨(some 20), (.q (.move (.tmp 2))), none⟩, ⟨(some 21), (.s (.call 81 [(.tmp 20)])), none⟩, ⟨(some 22), (.q (.un .not (.tmp 21))), none⟩]) 
    (.cond (.tmp 22) 
    (.seq 
    (.region [⟨(some 6), (.q (.move (.const (.int .i64 0)))), none⟩, ⟨(some 7), (.q (.move (.const (.int .i64 1)))), none⟩]) .ret) .skip)) 
    (.seq 
    (.block 0 
    (.loop 
    (.seq 
    (.seq 
    (.region [⟨(some 23), (.q (.move (.tmp 1))), none⟩, ⟨(some 24), (.q (.bin .neq (.tmp 23) (.const (.str (B [47]))))), none⟩]) 
    (.cond (.tmp 24) .skip (.exit 0))) 
    (.block 1 
    (.seq 
    (.region [⟨(some 26), (.q (.load true 3 (.tmp 3))), none⟩, ⟨(some 27), (.q (.move (.tmp 1))), none⟩, ⟨(some 28), (.q (.move (.tmp 2))), none⟩, ⟨(some 29), (.s (.call 38 [(.tmp 26), (.tmp 27), (.tmp 28)])), none⟩, ⟨(some 25), (.q (.move (.tmp 29))), none⟩, ⟨(some 30), (.q (.extract 0 (.tmp 25))), none⟩, ⟨(some 31), (.q (.extract 1 (.tmp 25))), none⟩, ⟨(some 10), (.q (.move (.tmp 30))), none⟩, ⟨(some 11), (.q (.move (.tmp 31))), none⟩]) 
    (.seq 
    (.seq 
    (.region [⟨(some 32), (.q (.move (.tmp 11))), none⟩, ⟨(some 33), (.q (.bin .neq (.tmp 32) (.const (.int .i64 0)))), none⟩]) 
    (.cond (.tmp 33) 
    (.seq 
    (.region [⟨(some 34), (.q (.move (.tmp 11))), none⟩, ⟨(some 6), (.q (.move (.const (.int .i64 0)))), none⟩, ⟨(some 7), (.q (.move (.tmp 34))), none⟩]) .ret) .skip)) 
    (.seq 
    (.region [⟨(some 35), (.q (.move (.tmp 10))), none⟩, ⟨(some 2), (.q (.move (.tmp 35))), none⟩]) 
    (.region [⟨(some 36), (.q (.move (.tmp 1))), none⟩, ⟨(some 37), (.s (.call 77 [(.tmp 36)])), none⟩, ⟨(some 1), (.q (.move (.tmp 37))), none⟩])))))))) 
    (.seq 
    (.region [⟨(some 38), (.q (.move (.tmp 2))), none⟩, ⟨(some 6), (.q (.move (.tmp 38))), none⟩, ⟨(some 7), (.q (.move (.const (.int .i64 0)))), none⟩]) .ret)))))
theorem t40 : Told Tryz.prog 40 39 c40 [(.tmp 6), (.tmp 7)] := ⟨Tryz.f40, _, [], Tryz.func40, rfl, by kernel_rfl, rfl, by kernel_rfl, by kernel_rfl⟩
def c42 : ACode := 
    (.seq 
    (.region [⟨(some 1), (.s (.box 25 (.tmp 0))), none⟩, ⟨(some 2), (.q (.move (.const .nils))), none⟩]) 
    (.seq 
    (.region [⟨(some 3), (.q (.move (.const .nils))), none⟩]) 
    (.seq 
    (.seq 
    (.region [⟨(some 4), (.q (.move (.const (.int .i64 0)))), none⟩]) 
    (.block 0 
    (.loop 
    (.seq 
    (.seq 
    (.region [⟨(some 9), (.q (.move (.tmp 4))), none⟩, ⟨(some 10), (.q (.fieldAddr 2 (.tmp 1))), none⟩, ⟨(some 11), (.q (.load false 1 (.tmp 10))), none⟩, ⟨(some 12), (.q (.len false (.tmp 11))), none⟩, ⟨(some 13), (.q (.bin .lss (.tmp 9) (.tmp 12))), none⟩]) 
    (.cond (.tmp 13) .skip (.exit 0))) 
    (.seq 
    (.block 1 
    (.seq 
    (.region [⟨(some 17), (.q (.fieldAddr 2 (.tmp 1))), none⟩, ⟨(some 18), (.q (.load false 1 (.tmp 17))), none⟩, ⟨(some 19), (.q (.move (.tmp 4))), none⟩, ⟨(some 20), (.q (.idxSl 3 (.tmp 18) (.tmp 19))), none⟩, ⟨(some 21), (.q (.load true 3 (.tmp 20))), none⟩, ⟨(some 22), (.s (.call 58 [(.tmp 21), (.const (.str (B [47]))), (.const (.str (B [100, 101, 118, 105, 99, 101, 95, 116, 121, 112, 101])))])), none⟩, ⟨(some 16), (.q (.move (.tmp 22))), none⟩, ⟨(some 23), (.q (.extract 0 (.tmp 16))), none⟩, ⟨(some 24), (.q (.extract 1 (.tmp 16))), none⟩, ⟨(some 5), (.q (.move (.tmp 23))), none⟩, ⟨(some 6), (.q (.move (.tmp 24))), none⟩]) 
    (.seq 
    (.seq 
    (.region [⟨(some 25), (.q (.move (.tmp 6))), none⟩, ⟨(some 26), (.q (.un .not (.tmp 25))), none⟩, ⟨(some 27), (.q (.move (.tmp 26))), none⟩, ⟨(some 28), (.q (.move (.tmp 5))), (some (27, false))⟩, ⟨(some 29), (.q (.bin .neq (.tmp 28) (.const (.str (B [109, 101, 109, 111, 114, 121]))))), (some (27, false))⟩, ⟨(some 30), (.q (.pick (.tmp 27) (.const (.bool true)) (.tmp 29))), none⟩]) 
    (.cond (.tmp 30) (.exit 1) .skip)) 
    (.seq 
    (.region [⟨(some 32), (.q (.load true 3 (.tmp 1))), none⟩, ⟨(some 33), (.q (.fieldAddr 2 (.tmp 1))), none⟩, ⟨(some 34), (.q (.load false 1 (.tmp 33))), none⟩, ⟨(some 35), (.q (.move (.tmp 4))), none⟩, ⟨(some 36), (.q (.idxSl 3 (.tmp 34) (.tmp 35))), none⟩, ⟨(some 37), (.q (.fieldAddr 0 (.tmp 36))), none⟩, ⟨(some 38), (.q (.load false 1 (.tmp 37))), none⟩, ⟨(some 39), (.s (.lit 9 1 [(.tmp 38)])), none⟩, ⟨(some 40), (.c (.fn 48) [(.tmp 39)]), none⟩, ⟨(some 41), (.s (.call 35 [(.tmp 32), (.tmp 40)])), none⟩, ⟨(some 31), (.q (.move (.tmp 41))), none⟩, ⟨(some 42), (.q (.extract 0 (.tmp 31))), none⟩, ⟨(some 43), (.q (.extract 1 (.tmp 31))), none⟩, ⟨(some 7), (.q (.move (.tmp 42))), none⟩, ⟨(some 8), (.q (.move (.tmp 43))), none⟩]) 
    (.seq 
    (.region [⟨(some 44), (.q (.move (.tmp 8))), none⟩, ⟨(some 45), (.q (.bin .eql (.tmp 44) (.const (.int .i64 0)))), none⟩]) 
    (.cond (.tmp 45) 
    (.region [⟨(some 46), (.q (.move (.tmp 3))), none⟩, ⟨(some 47), (.q (.move (.tmp 7))), none⟩, ⟨(some 48), (.s (.app 93 2 16 (.tmp 46) (.tmp 47))), none⟩, ⟨(some 3), (.q (.move (.tmp 48))), none⟩]) .skip)))))) 
    (.region [⟨(some 14), (.q (.move (.tmp 4))), none⟩, ⟨(some 15), (.q (.bin .add (.tmp 14) (.const (.int .i64 1)))), none⟩, ⟨(some 4), (.q (.move (.tmp 15))), none⟩])))))) 
    (.seq 
    (.region [⟨(some 49), (.q (.move (.tmp 3))), none⟩, ⟨(some 50), (.s (.call 86 [(.tmp 49)])), none⟩, ⟨(some 2), (.q (.move (.tmp 50))), none⟩]) .ret))))
theorem t42 : Told Tryz.prog 42 51 c42 [(.tmp 2)] := ⟨Tryz.f42, _, [], Tryz.func42, rfl, by kernel_rfl, rfl, by kernel_rfl, by kernel_rfl⟩
def c31 : ACode := 
    (.seq 
    (.region [⟨(some 0), (.q (.move (.const (.bool false)))), none⟩]) 
    (.seq 
    (.region [⟨(some 16), (.q (.build [(.str (B [])), .nils, .nils] [])), none⟩, ⟨(some 17), (.s (.call 32 [(.tmp 16)])), none⟩, ⟨(some 15), (.q (.move (.tmp 17))), none⟩, ⟨(some 18), (.q (.extract 0 (.tmp 15))), none⟩, ⟨(some 19), (.q (.extract 1 (.tmp 15))), none⟩, ⟨(some 20), (.q (.extract 2 (.tmp 15))), none⟩, ⟨(some 1), (.q (.move (.tmp 18))), none⟩, ⟨(some 2), (.q (.move (.tmp 19))), none⟩, ⟨(some 3), (.q (.move (.tmp 20))), none⟩]) 
    (.seq 
    (.region [⟨(some 22), (.q (.build [(.int .i64 0), (.int .i64 0)] [(0, (1, (.const (.int .i64 2)))), (1, (1, (.const (.int .i64 3))))])), none⟩, ⟨(some 23), (.s (.lit 93 2 [(.tmp 22)])), none⟩, ⟨(some 24), (.s (.call 43 [(.const (.int .i64 1)), (.const (.int .i64 1)), (.tmp 23)])), none⟩, ⟨(some 21), (.q (.move (.tmp 24))), none⟩, ⟨(some 25), (.q (.extract 0 (.tmp 21))), none⟩, ⟨(some 26), (.q (.extract 1 (.tmp 21))), none⟩, ⟨(some 4), (.q (.move (.tmp 25))), none⟩, ⟨(some 5), (.q (.move (.tmp 26))), none⟩]) 
    (.seq 
    (.region [⟨(some 27), (.q (.build [(.int .i64 0), (.int .i64 0), (.int .i64 0)] [(0, (1, (.const (.int .i64 0)))), (1, (1, (.const (.int .i64 4096)))), (2, (1, (.const (.int .i64 16))))])), none⟩, ⟨(some 28), (.s (.call 46 [(.tmp 27)])), none⟩, ⟨(some 6), (.s (.alloc 25 [(.str (B [])), .nils, .nils])), none⟩, ⟨none, (.s (.store 3 (.tmp 6) (.tmp 28))), none⟩]) 
    (.seq 
    (.region [⟨(some 29), (.q (.fieldAddr 2 (.tmp 6))), none⟩, ⟨(some 30), (.q (.load false 1 (.tmp 29))), none⟩, ⟨(some 31), (.q (.move (.tmp 4))), none⟩, ⟨(some 32), (.q (.build [(.str (B [])), (.str (B []))] [(0, (1, (.const (.str (B [114, 101, 103]))))), (1, (1, (.tmp 31)))])), none⟩, ⟨(some 33), (.s (.lit 55 2 [(.tmp 32)])), none⟩, ⟨(some 34), (.q (.build [(.str (B [])), .nils, .nils] [(0, (1, (.const (.str (B [107]))))), (1, (1, (.tmp 33)))])), none⟩, ⟨(some 35), (.s (.lit 25 3 [(.tmp 34)])), none⟩, ⟨(some 36), (.q (.idxSl 3 (.tmp 30) (.const (.int .i64 0)))), none⟩, ⟨(some 37), (.q (.fieldAddr 2 (.tmp 36))), none⟩, ⟨none, (.s (.store 1 (.tmp 37) (.tmp 35))), none⟩]) 
    (.seq 
    (.seq (.fregion [300006] []) 
    (.region [⟨(some 39), (.q (.load true 3 (.tmp 6))), none⟩, ⟨(some 40), (.s (.call 34 [(.tmp 39), (.const (.str (B [47, 115, 111, 99, 47, 107])))])), none⟩, ⟨(some 38), (.q (.move (.tmp 40))), none⟩, ⟨(some 41), (.q (.extract 0 (.tmp 38))), none⟩, ⟨(some 42), (.q (.extract 1 (.tmp 38))), none⟩, ⟨(some 7), (.q (.move (.tmp 41))), none⟩, ⟨(some 8), (.q (.move (.tmp 42))), none⟩])) 
    (.seq 
    (.region [⟨(some 44), (.q (.load true 3 (.tmp 6))), none⟩, ⟨(some 45), (.s (.call 39 [(.tmp 44), (.const (.str (B [47, 115, 111, 99]))), (.const (.int .i64 2))])), none⟩, ⟨(some 43), (.q (.move (.tmp 45))), none⟩, ⟨(some 46), (.q (.extract 0 (.tmp 43))), none⟩, ⟨(some 47), (.q (.extract 1 (.tmp 43))), none⟩, ⟨(some 9), (.q (.move (.tmp 46))), none⟩, ⟨(some 10), (.q (.move (.tmp 47))), none⟩]) 
    (.seq 
    (.region [⟨(some 49), (.q (.load true 3 (.tmp 6))), none⟩, ⟨(some 50), (.s (.call 37 [(.tmp 49), (.const (.str (B [47, 115, 111, 99]))), (.const (.int .i64 16))])), none⟩, ⟨(some 48), (.q (.move (.tmp 50))), none⟩, ⟨(some 51), (.q (.extract 0 (.tmp 48))), none⟩, ⟨(some 52), (.q (.extract 1 (.tmp 48))), none⟩, ⟨(some 11), (.q (.move (.tmp 51))), none⟩, ⟨(some 12), (.q (.move (.tmp 52))), none⟩]) 
    (.seq 
    (.region [⟨(some 54), (.q (.load true 3 (.tmp 6))), none⟩, ⟨(some 55), (.s (.call 37 [(.tmp 54), (.const (.str (B [47]))), (.const (.int .i64 0))])), none⟩, ⟨(some 53), (.q (.move (.tmp 55))), none⟩, ⟨(some 56), (.q (.extract 0 (.tmp 53))), none⟩, ⟨(some 57), (.q (.extract 1 (.tmp 53))), none⟩, ⟨(some 13), (.q (.move (.tmp 56))), none⟩, ⟨(some 14), (.q (.move (.tmp 57))), none⟩]) 
    (.seq 
    (.region [⟨(some 58), (.q (.move (.tmp 1))), none⟩, ⟨(some 59), (.q (.bin .eql (.tmp 58) (.const (.int .i64 2)))), none⟩, ⟨(some 60), (.q (.move (.tmp 59))), none⟩, ⟨(some 61), (.q (.move (.tmp 2))), (some (60, true))⟩, ⟨(some 62), (.q (.bin .eql (.tmp 61) (.const (.int .i64 1)))), (some (60, true))⟩, ⟨(some 63), (.q (.pick (.tmp 60) (.tmp 62) (.const (.bool false)))), none⟩, ⟨(some 64), (.q (.move (.tmp 63))), none⟩, ⟨(some 65), (.q (.move (.tmp 3))), (some (64, true))⟩, ⟨(some 66), (.q (.pick (.tmp 64) (.tmp 65) (.const (.bool false)))), none⟩, ⟨(some 67), (.q (.move (.tmp 66))), none⟩, ⟨(some 68), (.q (.move (.tmp 5))), (some (67, true))⟩, ⟨(some 69), (.q (.bin .eql (.tmp 68) (.const (.int .i64 0)))), (some (67, true))⟩, ⟨(some 70), (.q (.pick (.tmp 67) (.tmp 69) (.const (.bool false)))), none⟩, ⟨(some 71), (.q (.move (.tmp 70))), none⟩, ⟨(some 72), (.q (.move (.tmp 8))), (some (71, true))⟩, ⟨(some 73), (.q (.bin .eql (.tmp 72) (.const (.int .i64 0)))), (some (71, true))⟩, ⟨(some 74), (.q (.pick (.tmp 71) (.tmp 73) (.const (.bool false)))), none⟩, ⟨(some 75), (.q (.move (.tmp 74))), none⟩, ⟨(some 76), (.q (.move (.tmp 7))), (some (75, true))⟩, ⟨(some 77), (.q (.build [(.int .i64 0), (.int .i64 0)] [(0, (1, (.const (.int .i64 2)))), (1, (1, (.const (.int .i64 3))))])), (some (75, true))⟩, ⟨(some 78), (.s (.lit 93 2 [(.tmp 77)])), (some (75, true))⟩, ⟨(some 79), (.s (.call 36 [(.tmp 76), (.tmp 78)])), (some (75, true))⟩, ⟨(some 80), (.q (.pick (.tmp 75) (.tmp 79) (.const (.bool false)))), none⟩, ⟨(some 81), (.q (.move (.tmp 80))), none⟩, ⟨(some 82), (.q (.move (.tmp 9))), (some (81, true))⟩, ⟨(some 83), (.q (.bin .eql (.tmp 82) (.const (.int .i64 4098)))), (some (81, true))⟩, ⟨(some 84), (.q (.pick (.tmp 81) (.tmp 83) (.const (.bool false)))), none⟩, ⟨(some 85), (.q (.move (.tmp 84))), none⟩, ⟨(some 86), (.q (.move (.tmp 10))), (some (85, true))⟩, ⟨(some 87), (.q (.bin .eql (.tmp 86) (.const (.int .i64 0)))), (some (85, true))⟩, ⟨(some 88), (.q (.pick (.tmp 85) (.tmp 87) (.const (.bool false)))), none⟩, ⟨(some 89), (.q (.move (.tmp 88))), none⟩, ⟨(some 90), (.q (.move (.tmp 12))), (some (89, true))⟩, ⟨(some 91), (.q (.bin .eql (.tmp 90) (.const (.int .i64 2)))), (some (89, true))⟩, ⟨(some 92), (.q (.pick (.tmp 89) (.tmp 91) (.const (.bool false)))), none⟩, ⟨(some 93), (.q (.move (.tmp 92))), none⟩, ⟨(some 94), (.q (.move (.tmp 14))), (some (93, true))⟩, ⟨(some 95), (.q (.bin .eql (.tmp 94) (.const (.int .i64 8)))), (some (93, true))⟩, ⟨(some 96), (.q (.pick (.tmp 93) (.tmp 95) (.const (.bool false)))), none⟩, ⟨(some 97), (.q (.move (.tmp 96))), none⟩, ⟨(some 98), (.q (.load true 3 (.tmp 6))), (some (97, true))⟩, ⟨(some 99), (.s (.call 41 [(.tmp 98)])), (some (97, true))⟩, ⟨(some 100), (.q (.len false (.tmp 99))), (some (97, true))⟩, ⟨(some 101), (.q (.bin .eql (.tmp 100) (.const (.int .i64 0)))), (some (97, true))⟩, ⟨(some 102), (.q (.pick (.tmp 97) (.tmp 101) (.const (.bool false)))), none⟩, ⟨(some 0), (.q (.move (.tmp 102))), none⟩]) .ret))))))))))
theorem t31 : Told Tryz.prog 31 103 c31 [(.tmp 0)] := ⟨Tryz.f31, _, [6300006], Tryz.func31, rfl, by kernel_rfl, rfl, by kernel_rfl, by kernel_rfl⟩
def c45 : ACode := 
    (.seq 
    (.region [⟨(some 4), (.s (.alloc 55 [(.str (B [])), (.str (B []))])), none⟩]) 
    (.seq 
    (.region [⟨(some 5), (.q (.move (.tmp 0))), none⟩, ⟨(some 6), (.q (.move (.tmp 1))), none⟩, ⟨(some 7), (.s (.call 90 [(.tmp 6)])), none⟩, ⟨(some 8), (.q (.build [(.str (B [])), (.str (B []))] [(0, (1, (.tmp 5))), (1, (1, (.tmp 7)))])), none⟩, ⟨none, (.s (.store 2 (.tmp 4) (.tmp 8))), none⟩]) .ret))
theorem t45 : Told Tryz.prog 45 9 c45 [(.cell 4 true 2)] := ⟨Tryz.f45, _, [], Tryz.func45, rfl, by kernel_rfl, rfl, by kernel_rfl, by kernel_rfl⟩
def c46 : ACode := 
    (.seq 
    (.region [⟨(some 1), (.s (.box 78 (.tmp 0))), none⟩, ⟨(some 2), (.s (.alloc 25 [(.str (B [])), .nils, .nils])), none⟩]) 
    (.seq 
    (.region [⟨(some 5), (.s (.call 45 [(.const (.str (B [35, 97, 100, 100, 114, 101, 115, 115, 45, 99, 101, 108, 108, 115]))), (.const (.int .i64 1))])), none⟩, ⟨(some 6), (.s (.call 45 [(.const (.str (B [35, 115, 105, 122, 101, 45, 99, 101, 108, 108, 115]))), (.const (.int .i64 1))])), none⟩, ⟨(some 7), (.s (.litc 55 2 [(.tmp 5), (.tmp 6)])), none⟩, ⟨(some 3), (.q (.move (.tmp 7))), none⟩]) 
    (.seq 
    (.region [⟨(some 8), (.q (.move (.tmp 3))), none⟩, ⟨(some 9), (.q (.idxPt 1 3 (.tmp 1) (.const (.int .i64 0)))), none⟩, ⟨(some 10), (.q (.load false 1 (.tmp 9))), none⟩, ⟨(some 11), (.q (.idxPt 1 3 (.tmp 1) (.const (.int .i64 1)))), none⟩, ⟨(some 12), (.q (.load false 1 (.tmp 11))), none⟩, ⟨(some 13), (.q (.idxPt 1 3 (.tmp 1) (.const (.int .i64 2)))), none⟩, ⟨(some 14), (.q (.load false 1 (.tmp 13))), none⟩, ⟨(some 15), (.s (.lit 3 1 [(.tmp 10), (.tmp 12), (.tmp 14)])), none⟩, ⟨(some 16), (.s (.call 91 [(.tmp 15)])), none⟩, ⟨(some 17), (.q (.build [(.str (B [])), (.str (B []))] [(0, (1, (.const (.str (B [114, 97, 110, 103, 101, 115]))))), (1, (1, (.tmp 16)))])), none⟩, ⟨(some 18), (.s (.lit 55 2 [(.tmp 17)])), none⟩, ⟨(some 19), (.s (.app 55 2 32 (.tmp 8) (.tmp 18))), none⟩, ⟨(some 20), (.q (.build [(.str (B [])), .nils, .nils] [(0, (1, (.const (.str (B [115, 111, 99]))))), (1, (1, (.tmp 19)))])), none⟩, ⟨(some 4), (.s (.alloc 25 [(.str (B [])), .nils, .nils])), none⟩, ⟨none, (.s (.store 3 (.tmp 4) (.tmp 20))), none⟩]) 
    (.seq 
    (.seq (.fregion [300004, 4] []) 
    (.seq 
    (.region [⟨(some 21), (.q (.move (.tmp 3))), none⟩, ⟨(some 23), (.q (.loadr true 3 (.tmp 4))), none⟩]) (.both 
    (.region [⟨(some 22), (.s (.slice3 2 (.tmp 21) (.const (.int .i64 2)) (.const (.int .i64 2)))), none⟩, ⟨(some 24), (.s (.litw 25 3 [(.tmp 23)])), none⟩, ⟨(some 25), (.q (.build [(.str (B [])), .nils, .nils] [(1, (1, (.tmp 22))), (2, (1, (.tmp 24)))])), none⟩, ⟨none, (.s (.store 3 (.tmp 2) (.tmp 25))), none⟩]) 
    (.region [⟨(some 24), (.s (.litw 25 3 [(.tmp 23)])), none⟩, ⟨(some 22), (.s (.slice3 2 (.tmp 21) (.const (.int .i64 2)) (.const (.int .i64 2)))), none⟩, ⟨(some 25), (.q (.build [(.str (B [])), .nils, .nils] [(1, (1, (.tmp 22))), (2, (1, (.tmp 24)))])), none⟩, ⟨none, (.s (.store 3 (.tmp 2) (.tmp 25))), none⟩])))) .ret))))
theorem t46 : Told Tryz.prog 46 26 c46 [(.cell 2 true 3)] := ⟨Tryz.f46, _, [500007, 24, 4300004, 4000004], Tryz.func46, rfl, by kernel_rfl, rfl, by kernel_rfl, by kernel_rfl⟩
def c8 : ACode := 
    (.seq 
    (.region [⟨(some 3), (.s (.box 25 (.tmp 0))), none⟩, ⟨(some 6), (.q (.move (.const (.bool false)))), none⟩]) 
    (.seq 
    (.seq 
    (.region [⟨(some 27), (.q (.load true 3 (.tmp 3))), none⟩, ⟨(some 28), (.s (.call 20 [(.tmp 27)])), none⟩, ⟨(some 29), (.q (.un .not (.tmp 28))), none⟩, ⟨(some 30), (.q (.move (.tmp 29))), none⟩, ⟨(some 31), (.q (.move (.tmp 1))), (some (30, false))⟩, ⟨(some 32), (.q (.len true (.tmp 31))), (some (30, false))⟩, ⟨(some 33), (.q (.bin .gtr (.tmp 32) (.const (.int .i64 200)))), (some (30, false))⟩, ⟨(some 34), (.q (.pick (.tmp 30) (.const (.bool true)) (.tmp 33))), none⟩]) 
    (.cond (.tmp 34) 
    (.seq 
    (.region [⟨(some 35), (.s (.call 31 [])), none⟩, ⟨(some 6), (.q (.move (.tmp 35))), none⟩]) .ret) .skip)) 
    (.seq 
    (.region [⟨(some 37), (.q (.load true 3 (.tmp 3))), none⟩, ⟨(some 38), (.q (.move (.tmp 1))), none⟩, ⟨(some 39), (.s (.call 26 [(.tmp 37), (.tmp 38)])), none⟩, ⟨(some 36), (.q (.move (.tmp 39))), none⟩, ⟨(some 40), (.q (.extract 0 (.tmp 36))), none⟩, ⟨(some 41), (.q (.extract 1 (.tmp 36))), none⟩, ⟨(some 7), (.s (.alloc 25 [(.str (B [])), .nils, .nils])), none⟩, ⟨none, (.s (.store 3 (.tmp 7) (.tmp 40))), none⟩, ⟨(some 8), (.q (.move (.tmp 41))), none⟩]) 
    (.seq 
    (.region [⟨(some 43), (.q (.load true 3 (.tmp 7))), none⟩, ⟨(some 44), (.s (.call 32 [(.tmp 43)])), none⟩, ⟨(some 42), (.q (.move (.tmp 44))), none⟩, ⟨(some 45), (.q (.extract 0 (.tmp 42))), none⟩, ⟨(some 46), (.q (.extract 1 (.tmp 42))), none⟩, ⟨(some 47), (.q (.extract 2 (.tmp 42))), none⟩, ⟨(some 9), (.q (.move (.tmp 45))), none⟩, ⟨(some 10), (.q (.move (.tmp 46))), none⟩, ⟨(some 11), (.q (.move (.tmp 47))), none⟩]) 
    (.seq 
    (.region [⟨(some 49), (.q (.load true 3 (.tmp 7))), none⟩, ⟨(some 50), (.s (.call 33 [(.tmp 49)])), none⟩, ⟨(some 48), (.q (.move (.tmp 50))), none⟩, ⟨(some 51), (.q (.extract 0 (.tmp 48))), none⟩, ⟨(some 52), (.q (.extract 1 (.tmp 48))), none⟩, ⟨(some 53), (.q (.extract 2 (.tmp 48))), none⟩, ⟨(some 12), (.q (.move (.tmp 51))), none⟩, ⟨(some 13), (.q (.move (.tmp 52))), none⟩, ⟨(some 14), (.q (.move (.tmp 53))), none⟩]) 
    (.seq 
    (.region [⟨(some 55), (.q (.load true 3 (.tmp 3))), none⟩, ⟨(some 56), (.q (.move (.tmp 1))), none⟩, ⟨(some 57), (.s (.call 34 [(.tmp 55), (.tmp 56)])), none⟩, ⟨(some 54), (.q (.move (.tmp 57))), none⟩, ⟨(some 58), (.q (.extract 0 (.tmp 54))), none⟩, ⟨(some 59), (.q (.extract 1 (.tmp 54))), none⟩, ⟨(some 15), (.q (.move (.tmp 58))), none⟩, ⟨(some 16), (.q (.move (.tmp 59))), none⟩]) 
    (.seq 
    (.region [⟨(some 61), (.q (.load true 3 (.tmp 3))), none⟩, ⟨(some 62), (.q (.move (.tmp 1))), none⟩, ⟨(some 63), (.s (.call 35 [(.tmp 61), (.tmp 62)])), none⟩, ⟨(some 60), (.q (.move (.tmp 63))), none⟩, ⟨(some 64), (.q (.extract 0 (.tmp 60))), none⟩, ⟨(some 65), (.q (.extract 1 (.tmp 60))), none⟩, ⟨(some 17), (.q (.move (.tmp 64))), none⟩, ⟨(some 18), (.q (.move (.tmp 65))), none⟩]) 
    (.seq 
    (.seq 
    (.region [⟨(some 66), (.q (.move (.tmp 9))), none⟩, ⟨(some 67), (.q (.move (.tmp 12))), none⟩, ⟨(some 68), (.q (.bin .neq (.tmp 66) (.tmp 67))), none⟩, ⟨(some 69), (.q (.move (.tmp 68))), none⟩, ⟨(some 70), (.q (.move (.tmp 10))), (some (69, false))⟩, ⟨(some 71), (.q (.move (.tmp 13))), (some (69, false))⟩, ⟨(some 72), (.q (.bin .neq (.tmp 70) (.tmp 71))), (some (69, false))⟩, ⟨(some 73), (.q (.pick (.tmp 69) (.const (.bool true)) (.tmp 72))), none⟩, ⟨(some 74), (.q (.move (.tmp 73))), none⟩, ⟨(some 75), (.q (.move (.tmp 11))), (some (74, false))⟩, ⟨(some 76), (.q (.move (.tmp 14))), (some (74, false))⟩, ⟨(some 77), (.q (.beq true (.tmp 75) (.tmp 76))), (some (74, false))⟩, ⟨(some 78), (.q (.pick (.tmp 74) (.const (.bool true)) (.tmp 77))), none⟩, ⟨(some 79), (.q (.move (.tmp 78))), none⟩, ⟨(some 80), (.q (.move (.tmp 15))), (some (79, false))⟩, ⟨(some 81), (.q (.move (.tmp 17))), (some (79, false))⟩, ⟨(some 82), (.s (.call 36 [(.tmp 80), (.tmp 81)])), (some (79, false))⟩, ⟨(some 83), (.q (.un .not (.tmp 82))), (some (79, false))⟩, ⟨(some 84), (.q (.pick (.tmp 79) (.const (.bool true)) (.tmp 83))), none⟩, ⟨(some 85), (.q (.move (.tmp 84))), none⟩, ⟨(some 86), (.q (.move (.tmp 16))), (some (85, false))⟩, ⟨(some 87), (.q (.move (.tmp 18))), (some (85, false))⟩, ⟨(some 88), (.q (.bin .neq (.tmp 86) (.tmp 87))), (some (85, false))⟩, ⟨(some 89), (.q (.pick (.tmp 85) (.const (.bool true)) (.tmp 88))), none⟩]) 
    (.cond (.tmp 89) 
    (.seq 
    (.region [⟨(some 6), (.q (.move (.const (.bool false)))), none⟩]) .ret) .skip)) 
    (.seq 
    (.region [⟨(some 91), (.q (.load true 3 (.tmp 3))), none⟩, ⟨(some 92), (.q (.move (.tmp 1))), none⟩, ⟨(some 93), (.q (.move (.tmp 2))), none⟩, ⟨(some 94), (.s (.call 37 [(.tmp 91), (.tmp 92), (.tmp 93)])), none⟩, ⟨(some 90), (.q (.move (.tmp 94))), none⟩, ⟨(some 95), (.q (.extract 0 (.tmp 90))), none⟩, ⟨(some 96), (.q (.extract 1 (.tmp 90))), none⟩, ⟨(some 19), (.q (.move (.tmp 95))), none⟩, ⟨(some 20), (.q (.move (.tmp 96))), none⟩]) 
    (.seq 
    (.region [⟨(some 98), (.q (.load true 3 (.tmp 3))), none⟩, ⟨(some 99), (.q (.move (.tmp 1))), none⟩, ⟨(some 100), (.q (.move (.tmp 2))), none⟩, ⟨(some 101), (.s (.call 38 [(.tmp 98), (.tmp 99), (.tmp 100)])), none⟩, ⟨(some 97), (.q (.move (.tmp 101))), none⟩, ⟨(some 102), (.q (.extract 0 (.tmp 97))), none⟩, ⟨(some 103), (.q (.extract 1 (.tmp 97))), none⟩, ⟨(some 21), (.q (.move (.tmp 102))), none⟩, ⟨(some 22), (.q (.move (.tmp 103))), none⟩]) 
    (.seq 
    (.region [⟨(some 105), (.q (.load true 3 (.tmp 3))), none⟩, ⟨(some 106), (.q (.move (.tmp 1))), none⟩, ⟨(some 107), (.q (.move (.tmp 2))), none⟩, ⟨(some 108), (.s (.call 39 [(.tmp 105), (.tmp 106), (.tmp 107)])), none⟩, ⟨(some 104), (.q (.move (.tmp 108))), none⟩, ⟨(some 109), (.q (.extract 0 (.tmp 104))), none⟩, ⟨(some 110), (.q (.extract 1 (.tmp 104))), none⟩, ⟨(some 23), (.q (.move (.tmp 109))), none⟩, ⟨(some 24), (.q (.move (.tmp 110))), none⟩]) 
    (.seq 
    (.region [⟨(some 112), (.q (.load true 3 (.tmp 3))), none⟩, ⟨(some 113), (.q (.move (.tmp 1))), none⟩, ⟨(some 114), (.q (.move (.tmp 2))), none⟩, ⟨(some 115), (.s (.call 40 [(.tmp 112), (.tmp 113), (.tmp 114)])), none⟩, ⟨(some 111), (.q (.move (.tmp 115))), none⟩, ⟨(some 116), (.q (.extract 0 (.tmp 111))), none⟩, ⟨(some 117), (.q (.extract 1 (.tmp 111))), none⟩, ⟨(some 25), (.q (.move (.tmp 116))), none⟩, ⟨(some 26), (.q (.move (.tmp 117))), none⟩]) 
    (.seq 
    (.seq (.fregion [3] []) 
    (.region [⟨(some 118), (.q (.move (.tmp 19))), none⟩, ⟨(some 119), (.q (.move (.tmp 21))), none⟩, ⟨(some 120), (.q (.bin .eql (.tmp 118) (.tmp 119))), none⟩, ⟨(some 121), (.q (.move (.tmp 120))), none⟩, ⟨(some 122), (.q (.move (.tmp 20))), (some (121, true))⟩, ⟨(some 123), (.q (.move (.tmp 22))), (some (121, true))⟩, ⟨(some 124), (.q (.bin .eql (.tmp 122) (.tmp 123))), (some (121, true))⟩, ⟨(some 125), (.q (.pick (.tmp 121) (.tmp 124) (.const (.bool false)))), none⟩, ⟨(some 126), (.q (.move (.tmp 125))), none⟩, ⟨(some 127), (.q (.move (.tmp 23))), (some (126, true))⟩, ⟨(some 128), (.q (.move (.tmp 25))), (some (126, true))⟩, ⟨(some 129), (.q (.bin .eql (.tmp 127) (.tmp 128))), (some (126, true))⟩, ⟨(some 130), (.q (.pick (.tmp 126) (.tmp 129) (.const (.bool false)))), none⟩, ⟨(some 131), (.q (.move (.tmp 130))), none⟩, ⟨(some 132), (.q (.move (.tmp 24))), (some (131, true))⟩, ⟨(some 133), (.q (.move (.tmp 26))), (some (131, true))⟩, ⟨(some 134), (.q (.bin .eql (.tmp 132) (.tmp 133))), (some (131, true))⟩, ⟨(some 135), (.q (.pick (.tmp 131) (.tmp 134) (.const (.bool false)))), none⟩, ⟨(some 136), (.q (.move (.tmp 135))), none⟩, ⟨(some 137), (.q (.load true 3 (.tmp 3))), (some (136, true))⟩, ⟨(some 139), (.q (.loadr true 3 (.tmp 3))), (some (136, true))⟩, ⟨(some 138), (.s (.call 41 [(.tmp 137)])), (some (136, true))⟩, ⟨(some 140), (.s (.call 42 [(.tmp 139)])), (some (136, true))⟩, ⟨(some 141), (.s (.call 36 [(.tmp 138), (.tmp 140)])), (some (136, true))⟩, ⟨(some 142), (.q (.pick (.tmp 136) (.tmp 141) (.const (.bool false)))), none⟩, ⟨(some 143), (.q (.move (.tmp 142))), none⟩, ⟨(some 144), (.s (.call 31 [])), (some (143, true))⟩, ⟨(some 145), (.q (.pick (.tmp 143) (.tmp 144) (.const (.bool false)))), none⟩, ⟨(some 6), (.q (.move (.tmp 145))), none⟩])) .ret)))))))))))))
theorem t8 : Told Tryz.prog 8 146 c8 [(.tmp 6)] := ⟨Tryz.f8, _, [15000003], Tryz.func8, rfl, by kernel_rfl, rfl, by kernel_rfl, by kernel_rfl⟩
set_option linter.unusedSimpArgs false
set_option linter.unusedVariables false
def spnV (p : Int × Int) : AV := .agg [.int .i64 p.1, .int .i64 p.2]
theorem spV_is (p : Int × Int) : spnV p = .agg [.int .i64 p.1, .int .i64 p.2] := rfl
theorem spnV_cells (p : Int × Int) : (spnV p).cells = [.int .i64 p.1, .int .i64 p.2] := rfl
theorem spn_at {ls : List (Int × Int)} {i : Nat} (h : i < ls.length) : (ls.map spnV)[i]? = some (spnV (ls.getD i (0, 0))) := by
  rw [List.getElem?_map, List.getD_eq_getElem?_getD, List.getElem?_eq_getElem h]
  rfl
theorem spn_len (l : List (Int × Int)) : ∀ x ∈ l.map spnV, x.cells.length = 2 := fun x hx => by
  obtain ⟨p, _, rfl⟩ := List.mem_map.1 hx
  rfl
theorem spn_one (l : List (Int × Int)) : ((l.map spnV).flatMap AV.cells).all AV.one = true := by
  rw [List.all_eq_true]
  intro x hx
  obtain ⟨y, hy, hx⟩ := List.mem_flatMap.1 hx
  obtain ⟨r, _, rfl⟩ := List.mem_map.1 hy
  rw [spnV_cells, List.mem_cons, List.mem_singleton] at hx
  rcases hx with rfl | rfl <;> rfl
theorem spn_u (n : Nat) (l : List (Int × Int)) : AllC n (l.map spnV) := uc_map n l (fun r => by rw [spnV_cells]; simp only [u_top, u_bool, u_int, u_str, u_nilp, u_nils, u_nilf, u_nilm, u_nili, u_emp, u_byteV, u_ptr, u_wr, u_wc, u_agg, u_tup, u_rd, u_imm, u_func, u_nil, u_cons, u_app, uc_nil, uc_cons, uc_app, u_bytes, uc_bytes, u_ints, uc_ints, cells_bool, cells_int, cells_str, cells_agg, cells_ptr, cells_nils, cells_imm, cells_wr, cells_wc, cells_nilp, cells_nilf, cells_nilm, cells_rd, cells_emp, cells_byteV, cells_func, and_self, and_true, true_and, u_slA, uc_strs, cells_slA, strV_is])
end Go.Proofs.YtmdgjfadbhenjaaGreatDoor.AL
