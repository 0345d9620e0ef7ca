/- The code of the cells of trees, told. -/
import Derived.Test.YtmdgjfadbhenjaaGreatDoorQCellsUpALA3
import Derived.Test.YtmdgjfadbhenjaaGreatDoorProg
import Derived.KernelRfl
import Derived.Test.YtmdgjfadbhenjaaGreatDoorQCellsUpALA4
import Derived.Test.YtmdgjfadbhenjaaGreatDoorQCellsUpALPat2
import Derived.Test.YtmdgjfadbhenjaaGreatDoorQCellsUpALVal1
set_option maxRecDepth 100000
namespace Go.Proofs.YtmdgjfadbhenjaaGreatDoor.AL
open Go Go.Proofs
def c79 : ACode := 
    (.seq 
    (.region [⟨(some 2), (.q (.move (.const (.bool false)))), none⟩]) 
    (.seq 
    (.region [⟨(some 3), (.q (.move (.tmp 0))), none⟩, ⟨(some 4), (.s (.call 128 [(.tmp 3), (.const (.func (.func 129) [] []))])), none⟩, ⟨(some 5), (.q (.un .not (.tmp 4))), none⟩, ⟨(some 2), (.q (.move (.tmp 5))), none⟩]) .ret))
theorem t79 : Told Tryz.prog 79 6 c79 [(.tmp 2)] := ⟨Tryz.f79, _, [], Tryz.func79, rfl, by kernel_rfl, rfl, by kernel_rfl, by kernel_rfl⟩
def c129 : ACode := 
    (.seq 
    (.region [⟨(some 2), (.q (.move (.const (.bool false)))), none⟩]) 
    (.seq 
    (.region [⟨(some 3), (.q (.move (.tmp 0))), none⟩, ⟨(some 4), (.q (.bin .lss (.tmp 3) (.const (.int .i64 0)))), none⟩, ⟨(some 5), (.q (.move (.tmp 4))), none⟩, ⟨(some 6), (.q (.move (.tmp 0))), (some (5, false))⟩, ⟨(some 7), (.q (.bin .gtr (.tmp 6) (.const (.int .i64 4294967295)))), (some (5, false))⟩, ⟨(some 8), (.q (.pick (.tmp 5) (.const (.bool true)) (.tmp 7))), none⟩, ⟨(some 2), (.q (.move (.tmp 8))), none⟩]) .ret))
theorem t129 : Told Tryz.prog 129 9 c129 [(.tmp 2)] := ⟨Tryz.f129, _, [], Tryz.func129, rfl, by kernel_rfl, rfl, by kernel_rfl, by kernel_rfl⟩
def c71 : ACode := 
    (.seq 
    (.region [⟨(some 3), (.s (.box 25 (.tmp 0))), none⟩, ⟨(some 6), (.q (.move (.const (.int .i64 0)))), none⟩, ⟨(some 7), (.q (.move (.const (.bool false)))), none⟩]) 
    (.seq 
    (.region [⟨(some 11), (.q (.load true 3 (.tmp 3))), none⟩, ⟨(some 12), (.q (.move (.tmp 1))), none⟩, ⟨(some 13), (.s (.call 75 [(.tmp 11), (.tmp 12)])), none⟩, ⟨(some 10), (.q (.move (.tmp 13))), none⟩, ⟨(some 14), (.q (.extract 0 (.tmp 10))), none⟩, ⟨(some 15), (.q (.extract 1 (.tmp 10))), none⟩, ⟨(some 8), (.q (.move (.tmp 14))), none⟩, ⟨(some 9), (.q (.move (.tmp 15))), none⟩]) 
    (.seq 
    (.seq 
    (.region [⟨(some 16), (.q (.move (.tmp 9))), none⟩, ⟨(some 17), (.q (.un .not (.tmp 16))), none⟩]) 
    (.cond (.tmp 17) 
    (.seq 
    (.region [⟨(some 18), (.q (.move (.tmp 2))), none⟩, ⟨(some 6), (.q (.move (.tmp 18))), none⟩, ⟨(some 7), (.q (.move (.const (.bool true)))), none⟩]) .ret) .skip)) 
    (.seq 
    (.region [⟨(some 19), (.q (.move (.tmp 8))), none⟩, ⟨(some 20), (.s (.call 122 [(.tmp 19)])), none⟩, ⟨(some 21), (.q (.extract 0 (.tmp 20))), none⟩, ⟨(some 22), (.q (.extract 1 (.tmp 20))), none⟩, ⟨(some 6), (.q (.move (.tmp 21))), none⟩, ⟨(some 7), (.q (.move (.tmp 22))), none⟩]) .ret))))
theorem t71 : Told Tryz.prog 71 23 c71 [(.tmp 6), (.tmp 7)] := ⟨Tryz.f71, _, [], Tryz.func71, rfl, by kernel_rfl, rfl, by kernel_rfl, by kernel_rfl⟩
def c72 : ACode := 
    (.seq 
    (.region [⟨(some 4), (.q (.move (.const (.bool false)))), none⟩]) 
    (.seq 
    (.region [⟨(some 5), (.q (.move (.tmp 0))), none⟩, ⟨(some 6), (.q (.bin .geq (.tmp 5) (.const (.int .i64 1)))), none⟩, ⟨(some 7), (.q (.move (.tmp 6))), none⟩, ⟨(some 8), (.q (.move (.tmp 0))), (some (7, true))⟩, ⟨(some 9), (.q (.bin .leq (.tmp 8) (.const (.int .i64 2)))), (some (7, true))⟩, ⟨(some 10), (.q (.pick (.tmp 7) (.tmp 9) (.const (.bool false)))), none⟩, ⟨(some 11), (.q (.move (.tmp 10))), none⟩, ⟨(some 12), (.q (.move (.tmp 1))), (some (11, true))⟩, ⟨(some 13), (.q (.bin .geq (.tmp 12) (.const (.int .i64 0)))), (some (11, true))⟩, ⟨(some 14), (.q (.pick (.tmp 11) (.tmp 13) (.const (.bool false)))), none⟩, ⟨(some 15), (.q (.move (.tmp 14))), none⟩, ⟨(some 16), (.q (.move (.tmp 1))), (some (15, true))⟩, ⟨(some 17), (.q (.bin .leq (.tmp 16) (.const (.int .i64 2)))), (some (15, true))⟩, ⟨(some 18), (.q (.pick (.tmp 15) (.tmp 17) (.const (.bool false)))), none⟩, ⟨(some 4), (.q (.move (.tmp 18))), none⟩]) .ret))
theorem t72 : Told Tryz.prog 72 19 c72 [(.tmp 4)] := ⟨Tryz.f72, _, [], Tryz.func72, rfl, by kernel_rfl, rfl, by kernel_rfl, by kernel_rfl⟩
def c32 : ACode := 
    (.seq 
    (.region [⟨(some 1), (.s (.box 25 (.tmp 0))), none⟩, ⟨(some 2), (.q (.move (.const (.int .i64 0)))), none⟩, ⟨(some 3), (.q (.move (.const (.int .i64 0)))), none⟩, ⟨(some 4), (.q (.move (.const (.bool false)))), none⟩]) 
    (.seq 
    (.region [⟨(some 10), (.q (.load true 3 (.tmp 1))), none⟩, ⟨(some 11), (.s (.call 71 [(.tmp 10), (.const (.str (B [35, 97, 100, 100, 114, 101, 115, 115, 45, 99, 101, 108, 108, 115]))), (.const (.int .i64 2))])), none⟩, ⟨(some 9), (.q (.move (.tmp 11))), none⟩, ⟨(some 12), (.q (.extract 0 (.tmp 9))), none⟩, ⟨(some 13), (.q (.extract 1 (.tmp 9))), none⟩, ⟨(some 5), (.q (.move (.tmp 12))), none⟩, ⟨(some 6), (.q (.move (.tmp 13))), none⟩]) 
    (.seq 
    (.region [⟨(some 15), (.q (.load true 3 (.tmp 1))), none⟩, ⟨(some 16), (.s (.call 71 [(.tmp 15), (.const (.str (B [35, 115, 105, 122, 101, 45, 99, 101, 108, 108, 115]))), (.const (.int .i64 1))])), none⟩, ⟨(some 14), (.q (.move (.tmp 16))), none⟩, ⟨(some 17), (.q (.extract 0 (.tmp 14))), none⟩, ⟨(some 18), (.q (.extract 1 (.tmp 14))), none⟩, ⟨(some 7), (.q (.move (.tmp 17))), none⟩, ⟨(some 8), (.q (.move (.tmp 18))), none⟩]) 
    (.seq 
    (.seq 
    (.region [⟨(some 19), (.q (.move (.tmp 6))), none⟩, ⟨(some 20), (.q (.un .not (.tmp 19))), none⟩, ⟨(some 21), (.q (.move (.tmp 20))), none⟩, ⟨(some 22), (.q (.move (.tmp 8))), (some (21, false))⟩, ⟨(some 23), (.q (.un .not (.tmp 22))), (some (21, false))⟩, ⟨(some 24), (.q (.pick (.tmp 21) (.const (.bool true)) (.tmp 23))), none⟩, ⟨(some 25), (.q (.move (.tmp 24))), none⟩, ⟨(some 26), (.q (.move (.tmp 5))), (some (25, false))⟩, ⟨(some 27), (.q (.move (.tmp 7))), (some (25, false))⟩, ⟨(some 28), (.s (.call 72 [(.tmp 26), (.tmp 27)])), (some (25, false))⟩, ⟨(some 29), (.q (.un .not (.tmp 28))), (some (25, false))⟩, ⟨(some 30), (.q (.pick (.tmp 25) (.const (.bool true)) (.tmp 29))), none⟩]) 
    (.cond (.tmp 30) 
    (.seq 
    (.region [⟨(some 2), (.q (.move (.const (.int .i64 0)))), none⟩, ⟨(some 3), (.q (.move (.const (.int .i64 0)))), none⟩, ⟨(some 4), (.q (.move (.const (.bool false)))), none⟩]) .ret) .skip)) 
    (.seq 
    (.region [⟨(some 31), (.q (.move (.tmp 5))), none⟩, ⟨(some 32), (.q (.move (.tmp 7))), none⟩, ⟨(some 2), (.q (.move (.tmp 31))), none⟩, ⟨(some 3), (.q (.move (.tmp 32))), none⟩, ⟨(some 4), (.q (.move (.const (.bool true)))), none⟩]) .ret)))))
theorem t32 : Told Tryz.prog 32 33 c32 [(.tmp 2), (.tmp 3), (.tmp 4)] := ⟨Tryz.f32, _, [], Tryz.func32, rfl, by kernel_rfl, rfl, by kernel_rfl, by kernel_rfl⟩
def c87 : ACode := 
    (.seq 
    (.region [⟨(some 4), (.q (.move (.const .nils))), none⟩]) 
    (.seq 
    (.region [⟨(some 6), (.q (.move (.tmp 1))), none⟩, ⟨(some 7), (.s (.mk 3 1 8 [(.int .i64 0)] (.tmp 6))), none⟩, ⟨(some 5), (.q (.move (.tmp 7))), none⟩]) 
    (.seq 
    (.seq 
    (.region [⟨(some 8), (.q (.move (.tmp 1))), none⟩, ⟨(some 9), (.q (.bin .gtr (.tmp 8) (.const (.int .i64 0)))), none⟩]) 
    (.cond (.tmp 9) 
    (.region [⟨(some 10), (.q (.move (.tmp 5))), none⟩, ⟨(some 11), (.q (.move (.tmp 1))), none⟩, ⟨(some 12), (.q (.bin .sub (.tmp 11) (.const (.int .i64 1)))), none⟩, ⟨(some 13), (.q (.move (.tmp 0))), none⟩, ⟨(some 14), (.q (.idxSl 1 (.tmp 10) (.tmp 12))), none⟩, ⟨none, (.s (.store 1 (.tmp 14) (.tmp 13))), none⟩]) .skip)) 
    (.seq 
    (.region [⟨(some 15), (.q (.move (.tmp 5))), none⟩, ⟨(some 4), (.q (.move (.tmp 15))), none⟩]) .ret))))
theorem t87 : Told Tryz.prog 87 16 c87 [(.tmp 4)] := ⟨Tryz.f87, _, [], Tryz.func87, rfl, by kernel_rfl, rfl, by kernel_rfl, by kernel_rfl⟩
def c43 : ACode := 
    (.seq 
    (.region [⟨(some 6), (.q (.move (.const (.str (B []))))), none⟩, ⟨(some 7), (.q (.move (.const (.int .i64 0)))), none⟩]) 
    (.seq 
    (.seq 
    (.region [⟨(some 11), (.q (.move (.tmp 0))), none⟩, ⟨(some 12), (.q (.move (.tmp 1))), none⟩, ⟨(some 13), (.s (.call 72 [(.tmp 11), (.tmp 12)])), none⟩, ⟨(some 14), (.q (.un .not (.tmp 13))), none⟩]) 
    (.cond (.tmp 14) 
    (.seq 
    (.region [⟨(some 6), (.q (.move (.const (.str (B []))))), none⟩, ⟨(some 7), (.q (.move (.const (.int .i64 1)))), none⟩]) .ret) .skip)) 
    (.seq 
    (.region [⟨(some 8), (.q (.move (.const .nils))), none⟩]) 
    (.seq 
    (.seq 
    (.region [⟨(some 15), (.q (.move (.tmp 2))), none⟩, ⟨(some 16), (.q (.len false (.tmp 15))), none⟩, ⟨(some 17), (.q (.move (.const (.int .i64 0)))), none⟩]) 
    (.block 0 
    (.loop 
    (.seq 
    (.region [⟨(some 18), (.q (.bin .lss (.tmp 17) (.tmp 16))), none⟩]) 
    (.seq 
    (.cond (.tmp 18) .skip (.exit 0)) 
    (.seq 
    (.block 1 
    (.seq 
    (.region [⟨(some 19), (.q (.idxSl 2 (.tmp 15) (.tmp 17))), none⟩, ⟨(some 20), (.q (.load true 2 (.tmp 19))), none⟩, ⟨(some 10), (.s (.alloc 93 [(.int .i64 0), (.int .i64 0)])), none⟩, ⟨none, (.s (.store 2 (.tmp 10) (.tmp 20))), none⟩]) 
    (.seq 
    (.seq 
    (.region [⟨(some 21), (.q (.fieldAddr 0 (.tmp 10))), none⟩, ⟨(some 22), (.q (.load false 1 (.tmp 21))), none⟩, ⟨(some 23), (.q (.fieldAddr 1 (.tmp 10))), none⟩, ⟨(some 24), (.q (.load false 1 (.tmp 23))), none⟩, ⟨(some 25), (.s (.lit 3 1 [(.tmp 22), (.tmp 24)])), none⟩, ⟨(some 26), (.s (.call 79 [(.tmp 25)])), none⟩, ⟨(some 27), (.q (.un .not (.tmp 26))), none⟩, ⟨(some 28), (.q (.move (.tmp 27))), none⟩, ⟨(some 29), (.q (.move (.tmp 1))), (some (28, false))⟩, ⟨(some 30), (.q (.bin .eql (.tmp 29) (.const (.int .i64 0)))), (some (28, false))⟩, ⟨(some 31), (.q (.move (.tmp 30))), (some (28, false))⟩, ⟨(some 32), (.q (.fieldAddr 1 (.tmp 10))), (some (31, true))⟩, ⟨(some 33), (.q (.load false 1 (.tmp 32))), (some (31, true))⟩, ⟨(some 34), (.q (.bin .neq (.tmp 33) (.const (.int .i64 0)))), (some (31, true))⟩, ⟨(some 35), (.q (.pick (.tmp 31) (.tmp 34) (.const (.bool false)))), (some (28, false))⟩, ⟨(some 36), (.q (.pick (.tmp 28) (.const (.bool true)) (.tmp 35))), none⟩]) 
    (.cond (.tmp 36) 
    (.seq 
    (.region [⟨(some 6), (.q (.move (.const (.str (B []))))), none⟩, ⟨(some 7), (.q (.move (.const (.int .i64 1)))), none⟩]) .ret) .skip)) 
    (.seq 
    (.region [⟨(some 37), (.q (.move (.tmp 8))), none⟩, ⟨(some 38), (.q (.fieldAddr 0 (.tmp 10))), none⟩, ⟨(some 39), (.q (.load false 1 (.tmp 38))), none⟩, ⟨(some 40), (.q (.move (.tmp 0))), none⟩, ⟨(some 41), (.s (.call 87 [(.tmp 39), (.tmp 40)])), none⟩, ⟨(some 42), (.s (.app 3 1 8 (.tmp 37) (.tmp 41))), none⟩, ⟨(some 8), (.q (.move (.tmp 42))), none⟩]) 
    (.region [⟨(some 43), (.q (.move (.tmp 8))), none⟩, ⟨(some 44), (.q (.fieldAddr 1 (.tmp 10))), none⟩, ⟨(some 45), (.q (.load false 1 (.tmp 44))), none⟩, ⟨(some 46), (.q (.move (.tmp 1))), none⟩, ⟨(some 47), (.s (.call 87 [(.tmp 45), (.tmp 46)])), none⟩, ⟨(some 48), (.s (.app 3 1 8 (.tmp 43) (.tmp 47))), none⟩, ⟨(some 8), (.q (.move (.tmp 48))), none⟩]))))) 
    (.region [⟨(some 49), (.q (.bin .add (.tmp 17) (.const (.int .i64 1)))), none⟩, ⟨(some 17), (.q (.move (.tmp 49))), none⟩]))))))) 
    (.seq 
    (.region [⟨(some 50), (.q (.move (.tmp 8))), none⟩, ⟨(some 51), (.s (.call 88 [(.tmp 50)])), none⟩, ⟨(some 6), (.q (.move (.tmp 51))), none⟩, ⟨(some 7), (.q (.move (.const (.int .i64 0)))), none⟩]) .ret)))))
theorem t43 : Told Tryz.prog 43 52 c43 [(.tmp 6), (.tmp 7)] := ⟨Tryz.f43, _, [], Tryz.func43, rfl, by kernel_rfl, rfl, by kernel_rfl, by kernel_rfl⟩
def c76 : ACode := 
    (.seq 
    (.region [⟨(some 4), (.q (.move (.const .nils))), none⟩, ⟨(some 5), (.q (.move (.const (.int .i64 0)))), none⟩]) 
    (.seq 
    (.region [⟨(some 18), (.q (.move (.tmp 0))), none⟩, ⟨(some 19), (.s (.call 126 [(.tmp 18)])), none⟩, ⟨(some 17), (.q (.move (.tmp 19))), none⟩, ⟨(some 20), (.q (.extract 0 (.tmp 17))), none⟩, ⟨(some 21), (.q (.extract 1 (.tmp 17))), none⟩, ⟨(some 6), (.q (.move (.tmp 20))), none⟩, ⟨(some 7), (.q (.move (.tmp 21))), none⟩]) 
    (.seq 
    (.region [⟨(some 8), (.q (.move (.const (.int .i64 0)))), none⟩]) 
    (.seq 
    (.seq 
    (.region [⟨(some 22), (.q (.move (.tmp 1))), none⟩, ⟨(some 23), (.q (.len false (.tmp 22))), none⟩, ⟨(some 24), (.q (.move (.const (.int .i64 0)))), none⟩]) 
    (.block 0 
    (.loop 
    (.seq 
    (.region [⟨(some 25), (.q (.bin .lss (.tmp 24) (.tmp 23))), none⟩]) 
    (.seq 
    (.cond (.tmp 25) .skip (.exit 0)) 
    (.seq 
    (.block 1 
    (.seq 
    (.region [⟨(some 26), (.q (.idxSl 1 (.tmp 22) (.tmp 24))), none⟩, ⟨(some 27), (.q (.load false 1 (.tmp 26))), none⟩, ⟨(some 10), (.q (.move (.tmp 27))), none⟩]) 
    (.region [⟨(some 28), (.q (.move (.tmp 8))), none⟩, ⟨(some 29), (.q (.move (.tmp 10))), none⟩, ⟨(some 30), (.q (.bin .add (.tmp 28) (.tmp 29))), none⟩, ⟨(some 8), (.q (.move (.tmp 30))), none⟩]))) 
    (.region [⟨(some 31), (.q (.bin .add (.tmp 24) (.const (.int .i64 1)))), none⟩, ⟨(some 24), (.q (.move (.tmp 31))), none⟩]))))))) 
    (.seq 
    (.seq 
    (.region [⟨(some 32), (.q (.move (.tmp 7))), none⟩, ⟨(some 33), (.q (.un .not (.tmp 32))), none⟩, ⟨(some 34), (.q (.move (.tmp 33))), none⟩, ⟨(some 35), (.q (.move (.tmp 8))), (some (34, false))⟩, ⟨(some 36), (.q (.bin .eql (.tmp 35) (.const (.int .i64 0)))), (some (34, false))⟩, ⟨(some 37), (.q (.pick (.tmp 34) (.const (.bool true)) (.tmp 36))), none⟩, ⟨(some 38), (.q (.move (.tmp 37))), none⟩, ⟨(some 39), (.q (.move (.tmp 6))), (some (38, false))⟩, ⟨(some 40), (.q (.len false (.tmp 39))), (some (38, false))⟩, ⟨(some 41), (.q (.move (.tmp 8))), (some (38, false))⟩, ⟨(some 42), (.q (.bin .rem (.tmp 40) (.tmp 41))), (some (38, false))⟩, ⟨(some 43), (.q (.bin .neq (.tmp 42) (.const (.int .i64 0)))), (some (38, false))⟩, ⟨(some 44), (.q (.pick (.tmp 38) (.const (.bool true)) (.tmp 43))), none⟩]) 
    (.cond (.tmp 44) 
    (.seq 
    (.region [⟨(some 4), (.q (.move (.const .nils))), none⟩, ⟨(some 5), (.q (.move (.const (.int .i64 6)))), none⟩]) .ret) .skip)) 
    (.seq 
    (.region [⟨(some 11), (.q (.move (.const .nils))), none⟩]) 
    (.seq 
    (.block 2 
    (.loop 
    (.seq 
    (.seq 
    (.region [⟨(some 45), (.q (.move (.tmp 6))), none⟩, ⟨(some 46), (.q (.len false (.tmp 45))), none⟩, ⟨(some 47), (.q (.bin .gtr (.tmp 46) (.const (.int .i64 0)))), none⟩]) 
    (.cond (.tmp 47) .skip (.exit 2))) 
    (.seq 
    (.block 3 
    (.seq 
    (.region [⟨(some 12), (.q (.move (.const .nils))), none⟩]) 
    (.seq 
    (.region [⟨(some 13), (.q (.move (.const (.int .i64 0)))), none⟩]) 
    (.seq 
    (.seq 
    (.region [⟨(some 51), (.q (.move (.tmp 1))), none⟩, ⟨(some 52), (.q (.len false (.tmp 51))), none⟩, ⟨(some 53), (.q (.move (.const (.int .i64 0)))), none⟩]) 
    (.block 4 
    (.loop 
    (.seq 
    (.region [⟨(some 54), (.q (.bin .lss (.tmp 53) (.tmp 52))), none⟩]) 
    (.seq 
    (.cond (.tmp 54) .skip (.exit 4)) 
    (.seq 
    (.block 5 
    (.seq 
    (.region [⟨(some 55), (.q (.idxSl 1 (.tmp 51) (.tmp 53))), none⟩, ⟨(some 56), (.q (.load false 1 (.tmp 55))), none⟩, ⟨(some 15), (.q (.move (.tmp 56))), none⟩]) 
    (.seq 
    (.seq 
    (.region [⟨(some 57), (.q (.move (.tmp 15))), none⟩, ⟨(some 58), (.q (.bin .eql (.tmp 57) (.const (.int .i64 2)))), none⟩, ⟨(some 59), (.q (.move (.tmp 58))), none⟩, ⟨(some 60), (.q (.move (.tmp 6))), (some (59, true))⟩, ⟨(some 61), (.q (.move (.tmp 13))), (some (59, true))⟩, ⟨(some 62), (.q (.idxSl 1 (.tmp 60) (.tmp 61))), (some (59, true))⟩, ⟨(some 63), (.q (.load false 1 (.tmp 62))), (some (59, true))⟩, ⟨(some 64), (.q (.bin .neq (.tmp 63) (.const (.int .i64 0)))), (some (59, true))⟩, ⟨(some 65), (.q (.pick (.tmp 59) (.tmp 64) (.const (.bool false)))), none⟩]) 
    (.cond (.tmp 65) 
    (.seq 
    (.region [⟨(some 4), (.q (.move (.const .nils))), none⟩, ⟨(some 5), (.q (.move (.const (.int .i64 7)))), none⟩]) .ret) .skip)) 
    (.seq 
    (.region [⟨(some 66), (.q (.move (.tmp 13))), none⟩, ⟨(some 67), (.q (.move (.tmp 15))), none⟩, ⟨(some 68), (.q (.bin .add (.tmp 66) (.tmp 67))), none⟩, ⟨(some 13), (.q (.move (.tmp 68))), none⟩]) 
    (.seq 
    (.region [⟨(some 16), (.q (.move (.const (.int .i64 0)))), none⟩]) 
    (.seq 
    (.seq 
    (.region [⟨(some 69), (.q (.move (.tmp 15))), none⟩, ⟨(some 70), (.q (.bin .gtr (.tmp 69) (.const (.int .i64 0)))), none⟩]) 
    (.cond (.tmp 70) 
    (.region [⟨(some 71), (.q (.move (.tmp 6))), none⟩, ⟨(some 72), (.q (.move (.tmp 13))), none⟩, ⟨(some 73), (.q (.bin .sub (.tmp 72) (.const (.int .i64 1)))), none⟩, ⟨(some 74), (.q (.idxSl 1 (.tmp 71) (.tmp 73))), none⟩, ⟨(some 75), (.q (.load false 1 (.tmp 74))), none⟩, ⟨(some 16), (.q (.move (.tmp 75))), none⟩]) .skip)) 
    (.region [⟨(some 76), (.q (.move (.tmp 12))), none⟩, ⟨(some 77), (.q (.move (.tmp 16))), none⟩, ⟨(some 78), (.s (.lit 3 1 [(.tmp 77)])), none⟩, ⟨(some 79), (.s (.app 3 1 8 (.tmp 76) (.tmp 78))), none⟩, ⟨(some 12), (.q (.move (.tmp 79))), none⟩]))))))) 
    (.region [⟨(some 80), (.q (.bin .add (.tmp 53) (.const (.int .i64 1)))), none⟩, ⟨(some 53), (.q (.move (.tmp 80))), none⟩]))))))) 
    (.seq (.fregion [12] []) 
    (.region [⟨(some 81), (.q (.move (.tmp 11))), none⟩, ⟨(some 82), (.q (.move (.tmp 12))), none⟩, ⟨(some 83), (.s (.lit 121 1 [(.tmp 82)])), none⟩, ⟨(some 84), (.s (.app 121 1 24 (.tmp 81) (.tmp 83))), none⟩, ⟨(some 11), (.q (.move (.tmp 84))), none⟩])))))) 
    (.region [⟨(some 48), (.q (.move (.tmp 6))), none⟩, ⟨(some 49), (.q (.move (.tmp 8))), none⟩, ⟨(some 50), (.q (.sliceSl 1 (.tmp 48) (some (.tmp 49)) none)), none⟩, ⟨(some 6), (.q (.move (.tmp 50))), none⟩]))))) 
    (.seq 
    (.region [⟨(some 85), (.q (.move (.tmp 11))), none⟩, ⟨(some 4), (.q (.move (.tmp 85))), none⟩, ⟨(some 5), (.q (.move (.const (.int .i64 0)))), none⟩]) .ret))))))))
theorem t76 : Told Tryz.prog 76 86 c76 [(.tmp 4), (.tmp 5)] := ⟨Tryz.f76, _, [27000012], Tryz.func76, rfl, by kernel_rfl, rfl, by kernel_rfl, by kernel_rfl⟩
def c74 : ACode := 
    (.seq 
    (.region [⟨(some 2), (.s (.box 25 (.tmp 0))), none⟩, ⟨(some 4), (.s (.alloc 25 [(.str (B [])), .nils, .nils])), none⟩, ⟨(some 5), (.s (.alloc 25 [(.str (B [])), .nils, .nils])), none⟩, ⟨(some 6), (.q (.move (.const (.bool false)))), none⟩]) 
    (.seq 
    (.region [⟨(some 14), (.q (.move (.tmp 1))), none⟩, ⟨(some 15), (.s (.call 82 [(.tmp 14)])), none⟩, ⟨(some 13), (.q (.move (.tmp 15))), none⟩, ⟨(some 16), (.q (.extract 0 (.tmp 13))), none⟩, ⟨(some 17), (.q (.extract 1 (.tmp 13))), none⟩, ⟨(some 7), (.q (.move (.tmp 16))), none⟩, ⟨(some 8), (.q (.move (.tmp 17))), none⟩]) 
    (.seq 
    (.region [⟨(some 19), (.q (.load true 3 (.tmp 2))), none⟩, ⟨(some 20), (.q (.move (.tmp 1))), none⟩, ⟨(some 21), (.s (.call 62 [(.tmp 19), (.tmp 20)])), none⟩, ⟨(some 18), (.q (.move (.tmp 21))), none⟩, ⟨(some 22), (.q (.extract 0 (.tmp 18))), none⟩, ⟨(some 23), (.q (.extract 1 (.tmp 18))), none⟩, ⟨(some 9), (.s (.alloc 25 [(.str (B [])), .nils, .nils])), none⟩, ⟨none, (.s (.store 3 (.tmp 9) (.tmp 22))), none⟩, ⟨(some 10), (.q (.move (.tmp 23))), none⟩]) 
    (.seq 
    (.seq 
    (.region [⟨(some 24), (.q (.move (.tmp 8))), none⟩, ⟨(some 25), (.q (.un .not (.tmp 24))), none⟩, ⟨(some 26), (.q (.move (.tmp 25))), none⟩, ⟨(some 27), (.q (.move (.tmp 10))), (some (26, false))⟩, ⟨(some 28), (.q (.un .not (.tmp 27))), (some (26, false))⟩, ⟨(some 29), (.q (.pick (.tmp 26) (.const (.bool true)) (.tmp 28))), none⟩, ⟨(some 30), (.q (.move (.tmp 29))), none⟩, ⟨(some 31), (.q (.move (.tmp 7))), (some (30, false))⟩, ⟨(some 32), (.q (.len false (.tmp 31))), (some (30, false))⟩, ⟨(some 33), (.q (.bin .eql (.tmp 32) (.const (.int .i64 0)))), (some (30, false))⟩, ⟨(some 34), (.q (.pick (.tmp 30) (.const (.bool true)) (.tmp 33))), none⟩]) 
    (.cond (.tmp 34) 
    (.seq 
    (.region [⟨(some 35), (.q (.build [(.str (B [])), .nils, .nils] [])), none⟩, ⟨(some 36), (.q (.build [(.str (B [])), .nils, .nils] [])), none⟩, ⟨none, (.s (.store 3 (.tmp 4) (.tmp 35))), none⟩, ⟨none, (.s (.store 3 (.tmp 5) (.tmp 36))), none⟩, ⟨(some 6), (.q (.move (.const (.bool false)))), none⟩]) .ret) .skip)) 
    (.seq 
    (.regionN 12 [⟨(some 38), (.q (.load true 3 (.tmp 2))), none⟩, ⟨(some 39), (.q (.move (.tmp 7))), none⟩, ⟨(some 40), (.q (.move (.tmp 7))), none⟩, ⟨(some 41), (.q (.len false (.tmp 40))), none⟩, ⟨(some 42), (.q (.bin .sub (.tmp 41) (.const (.int .i64 1)))), none⟩, ⟨(some 43), (.q (.sliceSl 1 (.tmp 39) none (some (.tmp 42)))), none⟩, ⟨(some 44), (.c (.fn 83) [(.tmp 43)]), none⟩, ⟨(some 11), (.q (.move (.const .top))), none⟩, ⟨(some 45), (.s (.call 62 [(.tmp 38), (.tmp 44)])), none⟩, ⟨(some 37), (.q (.move (.tmp 45))), none⟩, ⟨(some 46), (.q (.extract 0 (.tmp 37))), none⟩, ⟨(some 47), (.q (.extract 1 (.tmp 37))), none⟩, ⟨(some 11), (.s (.put 25 3 (.tmp 46))), none⟩, ⟨(some 12), (.q (.move (.tmp 47))), none⟩]) 
    (.seq 
    (.seq (.fregion [11] []) 
    (.region [⟨(some 48), (.q (.load true 3 (.tmp 9))), none⟩, ⟨(some 49), (.q (.loadr true 3 (.tmp 11))), none⟩, ⟨none, (.s (.store 3 (.tmp 4) (.tmp 48))), none⟩, ⟨none, (.s (.store 3 (.tmp 5) (.tmp 49))), none⟩, ⟨(some 6), (.q (.move (.const (.bool true)))), none⟩])) .ret))))))
theorem t74 : Told Tryz.prog 74 50 c74 [(.cell 4 true 3), (.cell 5 true 3), (.tmp 6)] := ⟨Tryz.f74, _, [7000011], Tryz.func74, rfl, by kernel_rfl, rfl, by kernel_rfl, by kernel_rfl⟩
def c34 : ACode := 
    (.seq 
    (.region [⟨(some 2), (.s (.box 25 (.tmp 0))), none⟩, ⟨(some 4), (.q (.move (.const .nils))), none⟩, ⟨(some 5), (.q (.move (.const (.int .i64 0)))), none⟩]) 
    (.seq 
    (.region [⟨(some 20), (.q (.load true 3 (.tmp 2))), none⟩, ⟨(some 21), (.q (.move (.tmp 1))), none⟩, ⟨(some 22), (.s (.call 74 [(.tmp 20), (.tmp 21)])), none⟩, ⟨(some 19), (.q (.move (.tmp 22))), none⟩, ⟨(some 23), (.q (.extract 0 (.tmp 19))), none⟩, ⟨(some 24), (.q (.extract 1 (.tmp 19))), none⟩, ⟨(some 25), (.q (.extract 2 (.tmp 19))), none⟩, ⟨(some 6), (.s (.alloc 25 [(.str (B [])), .nils, .nils])), none⟩, ⟨(some 7), (.s (.alloc 25 [(.str (B [])), .nils, .nils])), none⟩, ⟨none, (.s (.store 3 (.tmp 6) (.tmp 23))), none⟩, ⟨none, (.s (.store 3 (.tmp 7) (.tmp 24))), none⟩, ⟨(some 8), (.q (.move (.tmp 25))), none⟩]) 
    (.seq 
    (.region [⟨(some 27), (.q (.load true 3 (.tmp 6))), none⟩, ⟨(some 28), (.s (.call 75 [(.tmp 27), (.const (.str (B [114, 101, 103])))])), none⟩, ⟨(some 26), (.q (.move (.tmp 28))), none⟩, ⟨(some 29), (.q (.extract 0 (.tmp 26))), none⟩, ⟨(some 30), (.q (.extract 1 (.tmp 26))), none⟩, ⟨(some 9), (.q (.move (.tmp 29))), none⟩, ⟨(some 10), (.q (.move (.tmp 30))), none⟩]) 
    (.seq 
    (.seq 
    (.region [⟨(some 31), (.q (.move (.tmp 8))), none⟩, ⟨(some 32), (.q (.un .not (.tmp 31))), none⟩, ⟨(some 33), (.q (.move (.tmp 32))), none⟩, ⟨(some 34), (.q (.move (.tmp 10))), (some (33, false))⟩, ⟨(some 35), (.q (.un .not (.tmp 34))), (some (33, false))⟩, ⟨(some 36), (.q (.pick (.tmp 33) (.const (.bool true)) (.tmp 35))), none⟩]) 
    (.cond (.tmp 36) 
    (.seq 
    (.region [⟨(some 4), (.q (.move (.const .nils))), none⟩, ⟨(some 5), (.q (.move (.const (.int .i64 8)))), none⟩]) .ret) .skip)) 
    (.seq 
    (.region [⟨(some 38), (.q (.load true 3 (.tmp 7))), none⟩, ⟨(some 39), (.s (.call 32 [(.tmp 38)])), none⟩, ⟨(some 37), (.q (.move (.tmp 39))), none⟩, ⟨(some 40), (.q (.extract 0 (.tmp 37))), none⟩, ⟨(some 41), (.q (.extract 1 (.tmp 37))), none⟩, ⟨(some 42), (.q (.extract 2 (.tmp 37))), none⟩, ⟨(some 11), (.q (.move (.tmp 40))), none⟩, ⟨(some 12), (.q (.move (.tmp 41))), none⟩, ⟨(some 13), (.q (.move (.tmp 42))), none⟩]) 
    (.seq 
    (.seq 
    (.region [⟨(some 43), (.q (.move (.tmp 13))), none⟩, ⟨(some 44), (.q (.un .not (.tmp 43))), none⟩]) 
    (.cond (.tmp 44) 
    (.seq 
    (.region [⟨(some 4), (.q (.move (.const .nils))), none⟩, ⟨(some 5), (.q (.move (.const (.int .i64 6)))), none⟩]) .ret) .skip)) 
    (.seq 
    (.region [⟨(some 46), (.q (.move (.tmp 9))), none⟩, ⟨(some 47), (.q (.move (.tmp 11))), none⟩, ⟨(some 48), (.q (.move (.tmp 12))), none⟩, ⟨(some 49), (.s (.lit 3 1 [(.tmp 47), (.tmp 48)])), none⟩, ⟨(some 50), (.s (.call 76 [(.tmp 46), (.tmp 49)])), none⟩, ⟨(some 45), (.q (.move (.tmp 50))), none⟩, ⟨(some 51), (.q (.extract 0 (.tmp 45))), none⟩, ⟨(some 52), (.q (.extract 1 (.tmp 45))), none⟩, ⟨(some 14), (.q (.move (.tmp 51))), none⟩, ⟨(some 15), (.q (.move (.tmp 52))), none⟩]) 
    (.seq 
    (.seq 
    (.region [⟨(some 53), (.q (.move (.tmp 15))), none⟩, ⟨(some 54), (.q (.bin .neq (.tmp 53) (.const (.int .i64 0)))), none⟩]) 
    (.cond (.tmp 54) 
    (.seq 
    (.region [⟨(some 55), (.q (.move (.tmp 15))), none⟩, ⟨(some 4), (.q (.move (.const .nils))), none⟩, ⟨(some 5), (.q (.move (.tmp 55))), none⟩]) .ret) .skip)) 
    (.seq 
    (.region [⟨(some 16), (.q (.move (.const .nils))), none⟩]) 
    (.seq 
    (.seq 
    (.region [⟨(some 56), (.q (.move (.tmp 14))), none⟩, ⟨(some 57), (.q (.len false (.tmp 56))), none⟩, ⟨(some 58), (.q (.move (.const (.int .i64 0)))), none⟩]) 
    (.block 0 
    (.loop 
    (.seq 
    (.region [⟨(some 59), (.q (.bin .lss (.tmp 58) (.tmp 57))), none⟩]) 
    (.seq 
    (.cond (.tmp 59) .skip (.exit 0)) 
    (.seq 
    (.block 1 
    (.seq 
    (.region [⟨(some 60), (.q (.idxSl 1 (.tmp 56) (.tmp 58))), none⟩, ⟨(some 61), (.q (.load false 1 (.tmp 60))), none⟩, ⟨(some 18), (.q (.move (.tmp 61))), none⟩]) 
    (.region [⟨(some 62), (.q (.move (.tmp 16))), none⟩, ⟨(some 63), (.q (.move (.tmp 18))), none⟩, ⟨(some 64), (.q (.idxSl 1 (.tmp 63) (.const (.int .i64 0)))), none⟩, ⟨(some 65), (.q (.load false 1 (.tmp 64))), none⟩, ⟨(some 66), (.q (.move (.tmp 18))), none⟩, ⟨(some 67), (.q (.idxSl 1 (.tmp 66) (.const (.int .i64 1)))), none⟩, ⟨(some 68), (.q (.load false 1 (.tmp 67))), none⟩, ⟨(some 69), (.q (.build [(.int .i64 0), (.int .i64 0)] [(0, (1, (.tmp 65))), (1, (1, (.tmp 68)))])), none⟩, ⟨(some 70), (.s (.lit 93 2 [(.tmp 69)])), none⟩, ⟨(some 71), (.s (.app 93 2 16 (.tmp 62) (.tmp 70))), none⟩, ⟨(some 16), (.q (.move (.tmp 71))), none⟩]))) 
    (.region [⟨(some 72), (.q (.bin .add (.tmp 58) (.const (.int .i64 1)))), none⟩, ⟨(some 58), (.q (.move (.tmp 72))), none⟩]))))))) 
    (.seq 
    (.region [⟨(some 73), (.q (.move (.tmp 16))), none⟩, ⟨(some 4), (.q (.move (.tmp 73))), none⟩, ⟨(some 5), (.q (.move (.const (.int .i64 0)))), none⟩]) .ret)))))))))))
theorem t34 : Told Tryz.prog 34 74 c34 [(.tmp 4), (.tmp 5)] := ⟨Tryz.f34, _, [], Tryz.func34, rfl, by kernel_rfl, rfl, by kernel_rfl, by kernel_rfl⟩
def c80 : ACode := 
    (.seq 
    (.region [⟨(some 3), (.s (.box 3 (.tmp 1))), none⟩, ⟨(some 4), (.q (.move (.const (.int .i64 0)))), none⟩, ⟨(some 5), (.q (.move (.const (.int .i64 0)))), none⟩]) 
    (.seq 
    (.region [⟨(some 8), (.q (.move (.tmp 0))), none⟩, ⟨(some 9), (.q (.mkFunc (.func 131) [] [(.tmp 3)])), none⟩, ⟨(some 10), (.s (.call 130 [(.tmp 8), (.tmp 9)])), none⟩, ⟨(some 6), (.q (.move (.tmp 10))), none⟩]) 
    (.seq 
    (.seq 
    (.region [⟨(some 11), (.q (.move (.tmp 6))), none⟩, ⟨(some 12), (.q (.bin .lss (.tmp 11) (.const (.int .i64 0)))), none⟩]) 
    (.cond (.tmp 12) 
    (.seq 
    (.region [⟨(some 4), (.q (.move (.const (.int .i64 0)))), none⟩, ⟨(some 5), (.q (.move (.const (.int .i64 2)))), none⟩]) .ret) .skip)) 
    (.seq 
    (.region [⟨(some 13), (.q (.move (.tmp 0))), none⟩, ⟨(some 14), (.q (.move (.tmp 6))), none⟩, ⟨(some 15), (.q (.idxSl 1 (.tmp 13) (.tmp 14))), none⟩, ⟨(some 16), (.q (.load false 1 (.tmp 15))), none⟩, ⟨(some 17), (.q (.idxSl 1 (.tmp 16) (.const (.int .i64 1)))), none⟩, ⟨(some 18), (.q (.load false 1 (.tmp 17))), none⟩, ⟨(some 19), (.q (.load false 1 (.tmp 3))), none⟩, ⟨(some 20), (.q (.bin .add (.tmp 18) (.tmp 19))), none⟩, ⟨(some 21), (.q (.move (.tmp 0))), none⟩, ⟨(some 22), (.q (.move (.tmp 6))), none⟩, ⟨(some 23), (.q (.idxSl 1 (.tmp 21) (.tmp 22))), none⟩, ⟨(some 24), (.q (.load false 1 (.tmp 23))), none⟩, ⟨(some 25), (.q (.idxSl 1 (.tmp 24) (.const (.int .i64 0)))), none⟩, ⟨(some 26), (.q (.load false 1 (.tmp 25))), none⟩, ⟨(some 27), (.q (.bin .sub (.tmp 20) (.tmp 26))), none⟩, ⟨(some 7), (.q (.move (.tmp 27))), none⟩]) 
    (.seq 
    (.seq 
    (.region [⟨(some 28), (.q (.move (.tmp 7))), none⟩, ⟨(some 29), (.s (.lit 3 1 [(.tmp 28)])), none⟩, ⟨(some 30), (.s (.call 79 [(.tmp 29)])), none⟩, ⟨(some 31), (.q (.un .not (.tmp 30))), none⟩]) 
    (.cond (.tmp 31) 
    (.seq 
    (.region [⟨(some 4), (.q (.move (.const (.int .i64 0)))), none⟩, ⟨(some 5), (.q (.move (.const (.int .i64 2)))), none⟩]) .ret) .skip)) 
    (.seq 
    (.region [⟨(some 32), (.q (.move (.tmp 7))), none⟩, ⟨(some 4), (.q (.move (.tmp 32))), none⟩, ⟨(some 5), (.q (.move (.const (.int .i64 0)))), none⟩]) .ret))))))
theorem t80 : Told Tryz.prog 80 33 c80 [(.tmp 4), (.tmp 5)] := ⟨Tryz.f80, _, [], Tryz.func80, rfl, by kernel_rfl, rfl, by kernel_rfl, by kernel_rfl⟩
def c131 : ACode := 
    (.seq 
    (.region [⟨(some 3), (.q (.move (.const (.bool false)))), none⟩]) 
    (.seq 
    (.region [⟨(some 4), (.q (.load false 1 (.tmp 1))), none⟩, ⟨(some 5), (.q (.move (.tmp 0))), none⟩, ⟨(some 6), (.q (.idxSl 1 (.tmp 5) (.const (.int .i64 0)))), none⟩, ⟨(some 7), (.q (.load false 1 (.tmp 6))), none⟩, ⟨(some 8), (.q (.bin .geq (.tmp 4) (.tmp 7))), none⟩, ⟨(some 9), (.q (.move (.tmp 8))), none⟩, ⟨(some 10), (.q (.load false 1 (.tmp 1))), (some (9, true))⟩, ⟨(some 11), (.q (.move (.tmp 0))), (some (9, true))⟩, ⟨(some 12), (.q (.idxSl 1 (.tmp 11) (.const (.int .i64 0)))), (some (9, true))⟩, ⟨(some 13), (.q (.load false 1 (.tmp 12))), (some (9, true))⟩, ⟨(some 14), (.q (.bin .sub (.tmp 10) (.tmp 13))), (some (9, true))⟩, ⟨(some 15), (.q (.move (.tmp 0))), (some (9, true))⟩, ⟨(some 16), (.q (.idxSl 1 (.tmp 15) (.const (.int .i64 2)))), (some (9, true))⟩, ⟨(some 17), (.q (.load false 1 (.tmp 16))), (some (9, true))⟩, ⟨(some 18), (.q (.bin .lss (.tmp 14) (.tmp 17))), (some (9, true))⟩, ⟨(some 19), (.q (.pick (.tmp 9) (.tmp 18) (.const (.bool false)))), none⟩, ⟨(some 3), (.q (.move (.tmp 19))), none⟩]) .ret))
theorem t131 : Told Tryz.prog 131 20 c131 [(.tmp 3)] := ⟨Tryz.f131, _, [], Tryz.func131, rfl, by kernel_rfl, rfl, by kernel_rfl, by kernel_rfl⟩
def c37 : ACode := 
    (.seq 
    (.region [⟨(some 3), (.s (.box 25 (.tmp 0))), none⟩, ⟨(some 6), (.q (.move (.const (.int .i64 0)))), none⟩, ⟨(some 7), (.q (.move (.const (.int .i64 0)))), none⟩]) 
    (.seq 
    (.region [⟨(some 22), (.q (.load true 3 (.tmp 3))), none⟩, ⟨(some 23), (.q (.move (.tmp 1))), none⟩, ⟨(some 24), (.s (.call 74 [(.tmp 22), (.tmp 23)])), none⟩, ⟨(some 21), (.q (.move (.tmp 24))), none⟩, ⟨(some 25), (.q (.extract 0 (.tmp 21))), none⟩, ⟨(some 26), (.q (.extract 1 (.tmp 21))), none⟩, ⟨(some 27), (.q (.extract 2 (.tmp 21))), none⟩, ⟨(some 8), (.s (.alloc 25 [(.str (B [])), .nils, .nils])), none⟩, ⟨(some 9), (.s (.alloc 25 [(.str (B [])), .nils, .nils])), none⟩, ⟨none, (.s (.store 3 (.tmp 8) (.tmp 25))), none⟩, ⟨none, (.s (.store 3 (.tmp 9) (.tmp 26))), none⟩, ⟨(some 10), (.q (.move (.tmp 27))), none⟩]) 
    (.seq 
    (.region [⟨(some 29), (.q (.load true 3 (.tmp 8))), none⟩, ⟨(some 30), (.s (.call 75 [(.tmp 29), (.const (.str (B [114, 97, 110, 103, 101, 115])))])), none⟩, ⟨(some 28), (.q (.move (.tmp 30))), none⟩, ⟨(some 31), (.q (.extract 0 (.tmp 28))), none⟩, ⟨(some 32), (.q (.extract 1 (.tmp 28))), none⟩, ⟨(some 11), (.q (.move (.tmp 31))), none⟩, ⟨(some 12), (.q (.move (.tmp 32))), none⟩]) 
    (.seq 
    (.block 0 
    (.seq 
    (.region [⟨(some 34), (.q (.move (.tmp 10))), none⟩, ⟨(some 35), (.q (.un .not (.tmp 34))), none⟩, ⟨(some 33), (.q (.move (.tmp 35))), none⟩]) 
    (.cond (.tmp 33) 
    (.seq 
    (.region [⟨(some 6), (.q (.move (.const (.int .i64 0)))), none⟩, ⟨(some 7), (.q (.move (.const (.int .i64 8)))), none⟩]) .ret) 
    (.seq 
    (.region [⟨(some 37), (.q (.move (.tmp 2))), none⟩, ⟨(some 38), (.s (.lit 3 1 [(.tmp 37)])), none⟩, ⟨(some 39), (.s (.call 79 [(.tmp 38)])), none⟩, ⟨(some 40), (.q (.un .not (.tmp 39))), none⟩, ⟨(some 36), (.q (.move (.tmp 40))), none⟩]) 
    (.cond (.tmp 36) 
    (.seq 
    (.region [⟨(some 6), (.q (.move (.const (.int .i64 0)))), none⟩, ⟨(some 7), (.q (.move (.const (.int .i64 1)))), none⟩]) .ret) 
    (.seq 
    (.region [⟨(some 42), (.q (.move (.tmp 12))), none⟩, ⟨(some 43), (.q (.un .not (.tmp 42))), none⟩, ⟨(some 41), (.q (.move (.tmp 43))), none⟩]) 
    (.cond (.tmp 41) 
    (.seq 
    (.region [⟨(some 6), (.q (.move (.const (.int .i64 0)))), none⟩, ⟨(some 7), (.q (.move (.const (.int .i64 8)))), none⟩]) .ret) 
    (.seq 
    (.region [⟨(some 45), (.q (.move (.tmp 11))), none⟩, ⟨(some 46), (.q (.bin .eql (.tmp 45) (.const (.str (B []))))), none⟩, ⟨(some 44), (.q (.move (.tmp 46))), none⟩]) 
    (.cond (.tmp 44) 
    (.seq 
    (.region [⟨(some 47), (.q (.move (.tmp 2))), none⟩, ⟨(some 6), (.q (.move (.tmp 47))), none⟩, ⟨(some 7), (.q (.move (.const (.int .i64 0)))), none⟩]) .ret) .skip))))))))) 
    (.seq 
    (.region [⟨(some 49), (.q (.load true 3 (.tmp 8))), none⟩, ⟨(some 50), (.s (.call 32 [(.tmp 49)])), none⟩, ⟨(some 48), (.q (.move (.tmp 50))), none⟩, ⟨(some 51), (.q (.extract 0 (.tmp 48))), none⟩, ⟨(some 52), (.q (.extract 1 (.tmp 48))), none⟩, ⟨(some 53), (.q (.extract 2 (.tmp 48))), none⟩, ⟨(some 13), (.q (.move (.tmp 51))), none⟩, ⟨(some 14), (.q (.move (.tmp 52))), none⟩, ⟨(some 15), (.q (.move (.tmp 53))), none⟩]) 
    (.seq 
    (.region [⟨(some 55), (.q (.load true 3 (.tmp 9))), none⟩, ⟨(some 56), (.s (.call 32 [(.tmp 55)])), none⟩, ⟨(some 54), (.q (.move (.tmp 56))), none⟩, ⟨(some 57), (.q (.extract 0 (.tmp 54))), none⟩, ⟨(some 58), (.q (.extract 1 (.tmp 54))), none⟩, ⟨(some 59), (.q (.extract 2 (.tmp 54))), none⟩, ⟨(some 16), (.q (.move (.tmp 57))), none⟩, ⟨(some 17), (.q (.move (.tmp 58))), none⟩, ⟨(some 18), (.q (.move (.tmp 59))), none⟩]) 
    (.seq 
    (.seq 
    (.region [⟨(some 60), (.q (.move (.tmp 15))), none⟩, ⟨(some 61), (.q (.un .not (.tmp 60))), none⟩, ⟨(some 62), (.q (.move (.tmp 61))), none⟩, ⟨(some 63), (.q (.move (.tmp 18))), (some (62, false))⟩, ⟨(some 64), (.q (.un .not (.tmp 63))), (some (62, false))⟩, ⟨(some 65), (.q (.pick (.tmp 62) (.const (.bool true)) (.tmp 64))), none⟩]) 
    (.cond (.tmp 65) 
    (.seq 
    (.region [⟨(some 6), (.q (.move (.const (.int .i64 0)))), none⟩, ⟨(some 7), (.q (.move (.const (.int .i64 6)))), none⟩]) .ret) .skip)) 
    (.seq 
    (.region [⟨(some 67), (.q (.move (.tmp 11))), none⟩, ⟨(some 68), (.q (.move (.tmp 13))), none⟩, ⟨(some 69), (.q (.move (.tmp 16))), none⟩, ⟨(some 70), (.q (.move (.tmp 14))), none⟩, ⟨(some 71), (.s (.lit 3 1 [(.tmp 68), (.tmp 69), (.tmp 70)])), none⟩, ⟨(some 72), (.s (.call 76 [(.tmp 67), (.tmp 71)])), none⟩, ⟨(some 66), (.q (.move (.tmp 72))), none⟩, ⟨(some 73), (.q (.extract 0 (.tmp 66))), none⟩, ⟨(some 74), (.q (.extract 1 (.tmp 66))), none⟩, ⟨(some 19), (.q (.move (.tmp 73))), none⟩, ⟨(some 20), (.q (.move (.tmp 74))), none⟩]) 
    (.seq 
    (.seq 
    (.region [⟨(some 75), (.q (.move (.tmp 20))), none⟩, ⟨(some 76), (.q (.bin .neq (.tmp 75) (.const (.int .i64 0)))), none⟩]) 
    (.cond (.tmp 76) 
    (.seq 
    (.region [⟨(some 77), (.q (.move (.tmp 20))), none⟩, ⟨(some 6), (.q (.move (.const (.int .i64 0)))), none⟩, ⟨(some 7), (.q (.move (.tmp 77))), none⟩]) .ret) .skip)) 
    (.seq 
    (.region [⟨(some 78), (.q (.move (.tmp 19))), none⟩, ⟨(some 79), (.q (.move (.tmp 2))), none⟩, ⟨(some 80), (.s (.call 80 [(.tmp 78), (.tmp 79)])), none⟩, ⟨(some 81), (.q (.extract 0 (.tmp 80))), none⟩, ⟨(some 82), (.q (.extract 1 (.tmp 80))), none⟩, ⟨(some 6), (.q (.move (.tmp 81))), none⟩, ⟨(some 7), (.q (.move (.tmp 82))), none⟩]) .ret))))))))))
theorem t37 : Told Tryz.prog 37 83 c37 [(.tmp 6), (.tmp 7)] := ⟨Tryz.f37, _, [], Tryz.func37, rfl, by kernel_rfl, rfl, by kernel_rfl, by kernel_rfl⟩
def c39 : ACode := 
    (.seq 
    (.region [⟨(some 3), (.s (.box 25 (.tmp 0))), none⟩, ⟨(some 6), (.q (.move (.const (.int .i64 0)))), none⟩, ⟨(some 7), (.q (.move (.const (.int .i64 0)))), none⟩]) 
    (.seq 
    (.region [⟨(some 16), (.q (.move (.tmp 1))), none⟩, ⟨(some 17), (.s (.call 82 [(.tmp 16)])), none⟩, ⟨(some 15), (.q (.move (.tmp 17))), none⟩, ⟨(some 18), (.q (.extract 0 (.tmp 15))), none⟩, ⟨(some 19), (.q (.extract 1 (.tmp 15))), none⟩, ⟨(some 8), (.q (.move (.tmp 18))), none⟩, ⟨(some 9), (.q (.move (.tmp 19))), none⟩]) 
    (.seq 
    (.region [⟨(some 21), (.q (.load true 3 (.tmp 3))), none⟩, ⟨(some 22), (.q (.move (.tmp 1))), none⟩, ⟨(some 23), (.s (.call 62 [(.tmp 21), (.tmp 22)])), none⟩, ⟨(some 20), (.q (.move (.tmp 23))), none⟩, ⟨(some 24), (.q (.extract 0 (.tmp 20))), none⟩, ⟨(some 25), (.q (.extract 1 (.tmp 20))), none⟩, ⟨(some 10), (.s (.alloc 25 [(.str (B [])), .nils, .nils])), none⟩, ⟨none, (.s (.store 3 (.tmp 10) (.tmp 24))), none⟩, ⟨(some 11), (.q (.move (.tmp 25))), none⟩]) 
    (.seq 
    (.block 0 
    (.seq 
    (.region [⟨(some 27), (.q (.move (.tmp 9))), none⟩, ⟨(some 28), (.q (.un .not (.tmp 27))), none⟩, ⟨(some 29), (.q (.move (.tmp 28))), none⟩, ⟨(some 30), (.q (.move (.tmp 11))), (some (29, false))⟩, ⟨(some 31), (.q (.un .not (.tmp 30))), (some (29, false))⟩, ⟨(some 32), (.q (.pick (.tmp 29) (.const (.bool true)) (.tmp 31))), none⟩, ⟨(some 26), (.q (.move (.tmp 32))), none⟩]) 
    (.cond (.tmp 26) 
    (.seq 
    (.region [⟨(some 6), (.q (.move (.const (.int .i64 0)))), none⟩, ⟨(some 7), (.q (.move (.const (.int .i64 8)))), none⟩]) .ret) 
    (.seq 
    (.region [⟨(some 34), (.q (.move (.tmp 2))), none⟩, ⟨(some 35), (.s (.lit 3 1 [(.tmp 34)])), none⟩, ⟨(some 36), (.s (.call 79 [(.tmp 35)])), none⟩, ⟨(some 37), (.q (.un .not (.tmp 36))), none⟩, ⟨(some 33), (.q (.move (.tmp 37))), none⟩]) 
    (.cond (.tmp 33) 
    (.seq 
    (.region [⟨(some 6), (.q (.move (.const (.int .i64 0)))), none⟩, ⟨(some 7), (.q (.move (.const (.int .i64 1)))), none⟩]) .ret) .skip))))) 
    (.seq 
    (.seq 
    (.region [⟨(some 38), (.q (.move (.tmp 8))), none⟩, ⟨(some 39), (.q (.len false (.tmp 38))), none⟩, ⟨(some 12), (.q (.move (.tmp 39))), none⟩]) 
    (.block 1 
    (.loop 
    (.seq 
    (.seq 
    (.region [⟨(some 40), (.q (.move (.tmp 12))), none⟩, ⟨(some 41), (.q (.bin .gtr (.tmp 40) (.const (.int .i64 0)))), none⟩]) 
    (.cond (.tmp 41) .skip (.exit 1))) 
    (.seq 
    (.block 2 
    (.seq 
    (.region [⟨(some 45), (.q (.load true 3 (.tmp 3))), none⟩, ⟨(some 46), (.q (.move (.tmp 8))), none⟩, ⟨(some 47), (.q (.move (.tmp 12))), none⟩, ⟨(some 48), (.q (.sliceSl 1 (.tmp 46) none (some (.tmp 47)))), none⟩, ⟨(some 49), (.c (.fn 83) [(.tmp 48)]), none⟩, ⟨(some 50), (.q (.move (.tmp 2))), none⟩, ⟨(some 51), (.s (.call 37 [(.tmp 45), (.tmp 49), (.tmp 50)])), none⟩, ⟨(some 44), (.q (.move (.tmp 51))), none⟩, ⟨(some 52), (.q (.extract 0 (.tmp 44))), none⟩, ⟨(some 53), (.q (.extract 1 (.tmp 44))), none⟩, ⟨(some 13), (.q (.move (.tmp 52))), none⟩, ⟨(some 14), (.q (.move (.tmp 53))), none⟩]) 
    (.seq 
    (.seq 
    (.region [⟨(some 54), (.q (.move (.tmp 14))), none⟩, ⟨(some 55), (.q (.bin .neq (.tmp 54) (.const (.int .i64 0)))), none⟩]) 
    (.cond (.tmp 55) 
    (.seq 
    (.region [⟨(some 56), (.q (.move (.tmp 14))), none⟩, ⟨(some 6), (.q (.move (.const (.int .i64 0)))), none⟩, ⟨(some 7), (.q (.move (.tmp 56))), none⟩]) .ret) .skip)) 
    (.region [⟨(some 57), (.q (.move (.tmp 13))), none⟩, ⟨(some 2), (.q (.move (.tmp 57))), none⟩])))) 
    (.region [⟨(some 42), (.q (.move (.tmp 12))), none⟩, ⟨(some 43), (.q (.bin .sub (.tmp 42) (.const (.int .i64 1)))), none⟩, ⟨(some 12), (.q (.move (.tmp 43))), none⟩])))))) 
    (.seq 
    (.region [⟨(some 58), (.q (.move (.tmp 2))), none⟩, ⟨(some 6), (.q (.move (.tmp 58))), none⟩, ⟨(some 7), (.q (.move (.const (.int .i64 0)))), none⟩]) .ret))))))
theorem t39 : Told Tryz.prog 39 59 c39 [(.tmp 6), (.tmp 7)] := ⟨Tryz.f39, _, [], Tryz.func39, rfl, by kernel_rfl, rfl, by kernel_rfl, by kernel_rfl⟩
def c41 : ACode := 
    (.seq 
    (.region [⟨(some 1), (.s (.box 25 (.tmp 0))), none⟩, ⟨(some 2), (.q (.move (.const .nils))), none⟩]) 
    (.seq 
    (.region [⟨(some 3), (.q (.move (.const .nils))), none⟩]) 
    (.seq 
    (.seq 
    (.region [⟨(some 10), (.q (.fieldAddr 2 (.tmp 1))), none⟩, ⟨(some 11), (.q (.load false 1 (.tmp 10))), none⟩, ⟨(some 12), (.q (.len false (.tmp 11))), none⟩, ⟨(some 13), (.q (.move (.const (.int .i64 0)))), none⟩]) 
    (.block 0 
    (.loop 
    (.seq 
    (.region [⟨(some 14), (.q (.bin .lss (.tmp 13) (.tmp 12))), none⟩]) 
    (.seq 
    (.cond (.tmp 14) .skip (.exit 0)) 
    (.seq 
    (.block 1 
    (.seq 
    (.region [⟨(some 15), (.q (.idxSl 3 (.tmp 11) (.tmp 13))), none⟩, ⟨(some 16), (.q (.load true 3 (.tmp 15))), none⟩, ⟨(some 5), (.s (.alloc 25 [(.str (B [])), .nils, .nils])), none⟩, ⟨none, (.s (.store 3 (.tmp 5) (.tmp 16))), none⟩]) 
    (.seq 
    (.region [⟨(some 18), (.q (.load true 3 (.tmp 5))), none⟩, ⟨(some 19), (.s (.call 84 [(.tmp 18), (.const (.str (B [47]))), (.const (.str (B [100, 101, 118, 105, 99, 101, 95, 116, 121, 112, 101])))])), none⟩, ⟨(some 17), (.q (.move (.tmp 19))), none⟩, ⟨(some 20), (.q (.extract 0 (.tmp 17))), none⟩, ⟨(some 21), (.q (.extract 1 (.tmp 17))), none⟩, ⟨(some 6), (.q (.move (.tmp 20))), none⟩, ⟨(some 7), (.q (.move (.tmp 21))), none⟩]) 
    (.seq 
    (.seq 
    (.region [⟨(some 22), (.q (.move (.tmp 6))), none⟩, ⟨(some 23), (.q (.bin .neq (.tmp 22) (.const (.str (B [109, 101, 109, 111, 114, 121]))))), none⟩]) 
    (.cond (.tmp 23) (.exit 1) .skip)) 
    (.seq 
    (.region [⟨(some 25), (.q (.load true 3 (.tmp 1))), none⟩, ⟨(some 26), (.q (.fieldAddr 0 (.tmp 5))), none⟩, ⟨(some 27), (.q (.load false 1 (.tmp 26))), none⟩, ⟨(some 28), (.s (.lit 9 1 [(.tmp 27)])), none⟩, ⟨(some 29), (.c (.fn 83) [(.tmp 28)]), none⟩, ⟨(some 30), (.s (.call 34 [(.tmp 25), (.tmp 29)])), none⟩, ⟨(some 24), (.q (.move (.tmp 30))), none⟩, ⟨(some 31), (.q (.extract 0 (.tmp 24))), none⟩, ⟨(some 32), (.q (.extract 1 (.tmp 24))), none⟩, ⟨(some 8), (.q (.move (.tmp 31))), none⟩, ⟨(some 9), (.q (.move (.tmp 32))), none⟩]) 
    (.seq 
    (.region [⟨(some 33), (.q (.move (.tmp 9))), none⟩, ⟨(some 34), (.q (.bin .eql (.tmp 33) (.const (.int .i64 0)))), none⟩]) 
    (.cond (.tmp 34) 
    (.region [⟨(some 35), (.q (.move (.tmp 3))), none⟩, ⟨(some 36), (.q (.move (.tmp 8))), none⟩, ⟨(some 37), (.s (.app 93 2 16 (.tmp 35) (.tmp 36))), none⟩, ⟨(some 3), (.q (.move (.tmp 37))), none⟩]) .skip))))))) 
    (.region [⟨(some 38), (.q (.bin .add (.tmp 13) (.const (.int .i64 1)))), none⟩, ⟨(some 13), (.q (.move (.tmp 38))), none⟩]))))))) 
    (.seq 
    (.region [⟨(some 39), (.q (.move (.tmp 3))), none⟩, ⟨(some 40), (.s (.call 85 [(.tmp 39)])), none⟩, ⟨(some 2), (.q (.move (.tmp 40))), none⟩]) .ret))))
theorem t41 : Told Tryz.prog 41 41 c41 [(.tmp 2)] := ⟨Tryz.f41, _, [], Tryz.func41, rfl, by kernel_rfl, rfl, by kernel_rfl, by kernel_rfl⟩
def c128 : ACode := 
    (.seq 
    (.region [⟨(some 4), (.q (.move (.const (.bool false)))), none⟩]) 
    (.seq 
    (.region [⟨(some 5), (.q (.move (.tmp 0))), none⟩, ⟨(some 6), (.q (.move (.tmp 1))), none⟩, ⟨(some 7), (.s (.call 172 [(.tmp 5), (.tmp 6)])), none⟩, ⟨(some 8), (.q (.bin .geq (.tmp 7) (.const (.int .i64 0)))), none⟩, ⟨(some 4), (.q (.move (.tmp 8))), none⟩]) .ret))
theorem t128 : Told Tryz.prog 128 9 c128 [(.tmp 4)] := ⟨Tryz.f128, _, [], Tryz.func128, rfl, by kernel_rfl, rfl, by kernel_rfl, by kernel_rfl⟩
def c172 : ACode := 
    (.seq 
    (.region [⟨(some 4), (.q (.move (.const (.int .i64 0)))), none⟩]) 
    (.seq 
    (.seq 
    (.region [⟨(some 6), (.q (.move (.tmp 0))), none⟩, ⟨(some 7), (.q (.len false (.tmp 6))), none⟩, ⟨(some 8), (.q (.move (.const (.int .i64 0)))), none⟩]) 
    (.block 0 
    (.loop 
    (.seq 
    (.region [⟨(some 9), (.q (.bin .lss (.tmp 8) (.tmp 7))), none⟩]) 
    (.seq 
    (.cond (.tmp 9) .skip (.exit 0)) 
    (.seq 
    (.block 1 
    (.seq 
    (.region [⟨(some 10), (.q (.move (.tmp 8))), none⟩, ⟨(some 5), (.q (.move (.tmp 10))), none⟩]) 
    (.seq 
    (.region [⟨(some 11), (.q (.move (.tmp 1))), none⟩, ⟨(some 12), (.q (.move (.tmp 0))), none⟩, ⟨(some 13), (.q (.move (.tmp 5))), none⟩, ⟨(some 14), (.q (.idxSl 1 (.tmp 12) (.tmp 13))), none⟩, ⟨(some 15), (.q (.load false 1 (.tmp 14))), none⟩, ⟨(some 16), (.s (.callv (.tmp 11) [(.tmp 15)])), none⟩]) 
    (.cond (.tmp 16) 
    (.seq 
    (.region [⟨(some 17), (.q (.move (.tmp 5))), none⟩, ⟨(some 4), (.q (.move (.tmp 17))), none⟩]) .ret) .skip)))) 
    (.region [⟨(some 18), (.q (.bin .add (.tmp 8) (.const (.int .i64 1)))), none⟩, ⟨(some 8), (.q (.move (.tmp 18))), none⟩]))))))) 
    (.seq 
    (.region [⟨(some 4), (.q (.move (.const (.int .i64 (-1))))), none⟩]) .ret)))
theorem t172 : Told Tryz.prog 172 19 c172 [(.tmp 4)] := ⟨Tryz.f172, _, [], Tryz.func172, rfl, by kernel_rfl, rfl, by kernel_rfl, by kernel_rfl⟩
def c130 : ACode := 
    (.seq 
    (.region [⟨(some 4), (.q (.move (.const (.int .i64 0)))), none⟩]) 
    (.seq 
    (.seq 
    (.region [⟨(some 6), (.q (.move (.tmp 0))), none⟩, ⟨(some 7), (.q (.len false (.tmp 6))), none⟩, ⟨(some 8), (.q (.move (.const (.int .i64 0)))), none⟩]) 
    (.block 0 
    (.loop 
    (.seq 
    (.region [⟨(some 9), (.q (.bin .lss (.tmp 8) (.tmp 7))), none⟩]) 
    (.seq 
    (.cond (.tmp 9) .skip (.exit 0)) 
    (.seq 
    (.block 1 
    (.seq 
    (.region [⟨(some 10), (.q (.move (.tmp 8))), none⟩, ⟨(some 5), (.q (.move (.tmp 10))), none⟩]) 
    (.seq 
    (.region [⟨(some 11), (.q (.move (.tmp 1))), none⟩, ⟨(some 12), (.q (.move (.tmp 0))), none⟩, ⟨(some 13), (.q (.move (.tmp 5))), none⟩, ⟨(some 14), (.q (.idxSl 1 (.tmp 12) (.tmp 13))), none⟩, ⟨(some 15), (.q (.load false 1 (.tmp 14))), none⟩, ⟨(some 16), (.s (.callv (.tmp 11) [(.tmp 15)])), none⟩]) 
    (.cond (.tmp 16) 
    (.seq 
    (.region [⟨(some 17), (.q (.move (.tmp 5))), none⟩, ⟨(some 4), (.q (.move (.tmp 17))), none⟩]) .ret) .skip)))) 
    (.region [⟨(some 18), (.q (.bin .add (.tmp 8) (.const (.int .i64 1)))), none⟩, ⟨(some 8), (.q (.move (.tmp 18))), none⟩]))))))) 
    (.seq 
    (.region [⟨(some 4), (.q (.move (.const (.int .i64 (-1))))), none⟩]) .ret)))
theorem t130 : Told Tryz.prog 130 19 c130 [(.tmp 4)] := ⟨Tryz.f130, _, [], Tryz.func130, rfl, by kernel_rfl, rfl, by kernel_rfl, by kernel_rfl⟩
def c31 : ACode := 
    (.seq 
    (.region [⟨(some 0), (.q (.move (.const (.bool false)))), none⟩]) 
    (.seq 
    (.region [⟨(some 16), (.q (.build [(.str (B [])), .nils, .nils] [])), none⟩, ⟨(some 17), (.s (.call 32 [(.tmp 16)])), none⟩, ⟨(some 15), (.q (.move (.tmp 17))), none⟩, ⟨(some 18), (.q (.extract 0 (.tmp 15))), none⟩, ⟨(some 19), (.q (.extract 1 (.tmp 15))), none⟩, ⟨(some 20), (.q (.extract 2 (.tmp 15))), none⟩, ⟨(some 1), (.q (.move (.tmp 18))), none⟩, ⟨(some 2), (.q (.move (.tmp 19))), none⟩, ⟨(some 3), (.q (.move (.tmp 20))), none⟩]) 
    (.seq 
    (.region [⟨(some 22), (.q (.build [(.int .i64 0), (.int .i64 0)] [(0, (1, (.const (.int .i64 2)))), (1, (1, (.const (.int .i64 3))))])), none⟩, ⟨(some 23), (.s (.lit 93 2 [(.tmp 22)])), none⟩, ⟨(some 24), (.s (.call 43 [(.const (.int .i64 1)), (.const (.int .i64 1)), (.tmp 23)])), none⟩, ⟨(some 21), (.q (.move (.tmp 24))), none⟩, ⟨(some 25), (.q (.extract 0 (.tmp 21))), none⟩, ⟨(some 26), (.q (.extract 1 (.tmp 21))), none⟩, ⟨(some 4), (.q (.move (.tmp 25))), none⟩, ⟨(some 5), (.q (.move (.tmp 26))), none⟩]) 
    (.seq 
    (.region [⟨(some 27), (.q (.build [(.int .i64 0), (.int .i64 0), (.int .i64 0)] [(0, (1, (.const (.int .i64 0)))), (1, (1, (.const (.int .i64 4096)))), (2, (1, (.const (.int .i64 16))))])), none⟩, ⟨(some 28), (.s (.call 46 [(.tmp 27)])), none⟩, ⟨(some 6), (.s (.alloc 25 [(.str (B [])), .nils, .nils])), none⟩, ⟨none, (.s (.store 3 (.tmp 6) (.tmp 28))), none⟩]) 
    (.seq 
    (.region [⟨(some 29), (.q (.fieldAddr 2 (.tmp 6))), none⟩, ⟨(some 30), (.q (.load false 1 (.tmp 29))), none⟩, ⟨(some 31), (.q (.move (.tmp 4))), none⟩, ⟨(some 32), (.q (.build [(.str (B [])), (.str (B []))] [(0, (1, (.const (.str (B [114, 101, 103]))))), (1, (1, (.tmp 31)))])), none⟩, ⟨(some 33), (.s (.lit 55 2 [(.tmp 32)])), none⟩, ⟨(some 34), (.q (.build [(.str (B [])), .nils, .nils] [(0, (1, (.const (.str (B [107]))))), (1, (1, (.tmp 33)))])), none⟩, ⟨(some 35), (.s (.lit 25 3 [(.tmp 34)])), none⟩, ⟨(some 36), (.q (.idxSl 3 (.tmp 30) (.const (.int .i64 0)))), none⟩, ⟨(some 37), (.q (.fieldAddr 2 (.tmp 36))), none⟩, ⟨none, (.s (.store 1 (.tmp 37) (.tmp 35))), none⟩]) 
    (.seq 
    (.seq (.fregion [300006] []) 
    (.region [⟨(some 39), (.q (.load true 3 (.tmp 6))), none⟩, ⟨(some 40), (.s (.call 34 [(.tmp 39), (.const (.str (B [47, 115, 111, 99, 47, 107])))])), none⟩, ⟨(some 38), (.q (.move (.tmp 40))), none⟩, ⟨(some 41), (.q (.extract 0 (.tmp 38))), none⟩, ⟨(some 42), (.q (.extract 1 (.tmp 38))), none⟩, ⟨(some 7), (.q (.move (.tmp 41))), none⟩, ⟨(some 8), (.q (.move (.tmp 42))), none⟩])) 
    (.seq 
    (.region [⟨(some 44), (.q (.load true 3 (.tmp 6))), none⟩, ⟨(some 45), (.s (.call 39 [(.tmp 44), (.const (.str (B [47, 115, 111, 99]))), (.const (.int .i64 2))])), none⟩, ⟨(some 43), (.q (.move (.tmp 45))), none⟩, ⟨(some 46), (.q (.extract 0 (.tmp 43))), none⟩, ⟨(some 47), (.q (.extract 1 (.tmp 43))), none⟩, ⟨(some 9), (.q (.move (.tmp 46))), none⟩, ⟨(some 10), (.q (.move (.tmp 47))), none⟩]) 
    (.seq 
    (.region [⟨(some 49), (.q (.load true 3 (.tmp 6))), none⟩, ⟨(some 50), (.s (.call 37 [(.tmp 49), (.const (.str (B [47, 115, 111, 99]))), (.const (.int .i64 16))])), none⟩, ⟨(some 48), (.q (.move (.tmp 50))), none⟩, ⟨(some 51), (.q (.extract 0 (.tmp 48))), none⟩, ⟨(some 52), (.q (.extract 1 (.tmp 48))), none⟩, ⟨(some 11), (.q (.move (.tmp 51))), none⟩, ⟨(some 12), (.q (.move (.tmp 52))), none⟩]) 
    (.seq 
    (.region [⟨(some 54), (.q (.load true 3 (.tmp 6))), none⟩, ⟨(some 55), (.s (.call 37 [(.tmp 54), (.const (.str (B [47]))), (.const (.int .i64 0))])), none⟩, ⟨(some 53), (.q (.move (.tmp 55))), none⟩, ⟨(some 56), (.q (.extract 0 (.tmp 53))), none⟩, ⟨(some 57), (.q (.extract 1 (.tmp 53))), none⟩, ⟨(some 13), (.q (.move (.tmp 56))), none⟩, ⟨(some 14), (.q (.move (.tmp 57))), none⟩]) 
    (.seq 
    (.region [⟨(some 58), (.q (.move (.tmp 1))), none⟩, ⟨(some 59), (.q (.bin .eql (.tmp 58) (.const (.int .i64 2)))), none⟩, ⟨(some 60), (.q (.move (.tmp 59))), none⟩, ⟨(some 61), (.q (.move (.tmp 2))), (some (60, true))⟩, ⟨(some 62), (.q (.bin .eql (.tmp 61) (.const (.int .i64 1)))), (some (60, true))⟩, ⟨(some 63), (.q (.pick (.tmp 60) (.tmp 62) (.const (.bool false)))), none⟩, ⟨(some 64), (.q (.move (.tmp 63))), none⟩, ⟨(some 65), (.q (.move (.tmp 3))), (some (64, true))⟩, ⟨(some 66), (.q (.pick (.tmp 64) (.tmp 65) (.const (.bool false)))), none⟩, ⟨(some 67), (.q (.move (.tmp 66))), none⟩, ⟨(some 68), (.q (.move (.tmp 5))), (some (67, true))⟩, ⟨(some 69), (.q (.bin .eql (.tmp 68) (.const (.int .i64 0)))), (some (67, true))⟩, ⟨(some 70), (.q (.pick (.tmp 67) (.tmp 69) (.const (.bool false)))), none⟩, ⟨(some 71), (.q (.move (.tmp 70))), none⟩, ⟨(some 72), (.q (.move (.tmp 8))), (some (71, true))⟩, ⟨(some 73), (.q (.bin .eql (.tmp 72) (.const (.int .i64 0)))), (some (71, true))⟩, ⟨(some 74), (.q (.pick (.tmp 71) (.tmp 73) (.const (.bool false)))), none⟩, ⟨(some 75), (.q (.move (.tmp 74))), none⟩, ⟨(some 76), (.q (.move (.tmp 7))), (some (75, true))⟩, ⟨(some 77), (.q (.build [(.int .i64 0), (.int .i64 0)] [(0, (1, (.const (.int .i64 2)))), (1, (1, (.const (.int .i64 3))))])), (some (75, true))⟩, ⟨(some 78), (.s (.lit 93 2 [(.tmp 77)])), (some (75, true))⟩, ⟨(some 79), (.s (.call 36 [(.tmp 76), (.tmp 78)])), (some (75, true))⟩, ⟨(some 80), (.q (.pick (.tmp 75) (.tmp 79) (.const (.bool false)))), none⟩, ⟨(some 81), (.q (.move (.tmp 80))), none⟩, ⟨(some 82), (.q (.move (.tmp 9))), (some (81, true))⟩, ⟨(some 83), (.q (.bin .eql (.tmp 82) (.const (.int .i64 4098)))), (some (81, true))⟩, ⟨(some 84), (.q (.pick (.tmp 81) (.tmp 83) (.const (.bool false)))), none⟩, ⟨(some 85), (.q (.move (.tmp 84))), none⟩, ⟨(some 86), (.q (.move (.tmp 10))), (some (85, true))⟩, ⟨(some 87), (.q (.bin .eql (.tmp 86) (.const (.int .i64 0)))), (some (85, true))⟩, ⟨(some 88), (.q (.pick (.tmp 85) (.tmp 87) (.const (.bool false)))), none⟩, ⟨(some 89), (.q (.move (.tmp 88))), none⟩, ⟨(some 90), (.q (.move (.tmp 12))), (some (89, true))⟩, ⟨(some 91), (.q (.bin .eql (.tmp 90) (.const (.int .i64 2)))), (some (89, true))⟩, ⟨(some 92), (.q (.pick (.tmp 89) (.tmp 91) (.const (.bool false)))), none⟩, ⟨(some 93), (.q (.move (.tmp 92))), none⟩, ⟨(some 94), (.q (.move (.tmp 14))), (some (93, true))⟩, ⟨(some 95), (.q (.bin .eql (.tmp 94) (.const (.int .i64 8)))), (some (93, true))⟩, ⟨(some 96), (.q (.pick (.tmp 93) (.tmp 95) (.const (.bool false)))), none⟩, ⟨(some 97), (.q (.move (.tmp 96))), none⟩, ⟨(some 98), (.q (.load true 3 (.tmp 6))), (some (97, true))⟩, ⟨(some 99), (.s (.call 41 [(.tmp 98)])), (some (97, true))⟩, ⟨(some 100), (.q (.len false (.tmp 99))), (some (97, true))⟩, ⟨(some 101), (.q (.bin .eql (.tmp 100) (.const (.int .i64 0)))), (some (97, true))⟩, ⟨(some 102), (.q (.pick (.tmp 97) (.tmp 101) (.const (.bool false)))), none⟩, ⟨(some 0), (.q (.move (.tmp 102))), none⟩]) .ret))))))))))
theorem t31 : Told Tryz.prog 31 103 c31 [(.tmp 0)] := ⟨Tryz.f31, _, [6300006], Tryz.func31, rfl, by kernel_rfl, rfl, by kernel_rfl, by kernel_rfl⟩
def c45 : ACode := 
    (.seq 
    (.region [⟨(some 4), (.s (.alloc 55 [(.str (B [])), (.str (B []))])), none⟩]) 
    (.seq 
    (.region [⟨(some 5), (.q (.move (.tmp 0))), none⟩, ⟨(some 6), (.q (.move (.tmp 1))), none⟩, ⟨(some 7), (.s (.call 90 [(.tmp 6)])), none⟩, ⟨(some 8), (.q (.build [(.str (B [])), (.str (B []))] [(0, (1, (.tmp 5))), (1, (1, (.tmp 7)))])), none⟩, ⟨none, (.s (.store 2 (.tmp 4) (.tmp 8))), none⟩]) .ret))
theorem t45 : Told Tryz.prog 45 9 c45 [(.cell 4 true 2)] := ⟨Tryz.f45, _, [], Tryz.func45, rfl, by kernel_rfl, rfl, by kernel_rfl, by kernel_rfl⟩
def c46 : ACode := 
    (.seq 
    (.region [⟨(some 1), (.s (.box 78 (.tmp 0))), none⟩, ⟨(some 2), (.s (.alloc 25 [(.str (B [])), .nils, .nils])), none⟩]) 
    (.seq 
    (.region [⟨(some 5), (.s (.call 45 [(.const (.str (B [35, 97, 100, 100, 114, 101, 115, 115, 45, 99, 101, 108, 108, 115]))), (.const (.int .i64 1))])), none⟩, ⟨(some 6), (.s (.call 45 [(.const (.str (B [35, 115, 105, 122, 101, 45, 99, 101, 108, 108, 115]))), (.const (.int .i64 1))])), none⟩, ⟨(some 7), (.s (.litc 55 2 [(.tmp 5), (.tmp 6)])), none⟩, ⟨(some 3), (.q (.move (.tmp 7))), none⟩]) 
    (.seq 
    (.region [⟨(some 8), (.q (.move (.tmp 3))), none⟩, ⟨(some 9), (.q (.idxPt 1 3 (.tmp 1) (.const (.int .i64 0)))), none⟩, ⟨(some 10), (.q (.load false 1 (.tmp 9))), none⟩, ⟨(some 11), (.q (.idxPt 1 3 (.tmp 1) (.const (.int .i64 1)))), none⟩, ⟨(some 12), (.q (.load false 1 (.tmp 11))), none⟩, ⟨(some 13), (.q (.idxPt 1 3 (.tmp 1) (.const (.int .i64 2)))), none⟩, ⟨(some 14), (.q (.load false 1 (.tmp 13))), none⟩, ⟨(some 15), (.s (.lit 3 1 [(.tmp 10), (.tmp 12), (.tmp 14)])), none⟩, ⟨(some 16), (.s (.call 91 [(.tmp 15)])), none⟩, ⟨(some 17), (.q (.build [(.str (B [])), (.str (B []))] [(0, (1, (.const (.str (B [114, 97, 110, 103, 101, 115]))))), (1, (1, (.tmp 16)))])), none⟩, ⟨(some 18), (.s (.lit 55 2 [(.tmp 17)])), none⟩, ⟨(some 19), (.s (.app 55 2 32 (.tmp 8) (.tmp 18))), none⟩, ⟨(some 20), (.q (.build [(.str (B [])), .nils, .nils] [(0, (1, (.const (.str (B [115, 111, 99]))))), (1, (1, (.tmp 19)))])), none⟩, ⟨(some 4), (.s (.alloc 25 [(.str (B [])), .nils, .nils])), none⟩, ⟨none, (.s (.store 3 (.tmp 4) (.tmp 20))), none⟩]) 
    (.seq 
    (.seq (.fregion [300004, 4] []) 
    (.seq 
    (.region [⟨(some 21), (.q (.move (.tmp 3))), none⟩, ⟨(some 23), (.q (.loadr true 3 (.tmp 4))), none⟩]) (.both 
    (.region [⟨(some 22), (.s (.slice3 2 (.tmp 21) (.const (.int .i64 2)) (.const (.int .i64 2)))), none⟩, ⟨(some 24), (.s (.litw 25 3 [(.tmp 23)])), none⟩, ⟨(some 25), (.q (.build [(.str (B [])), .nils, .nils] [(1, (1, (.tmp 22))), (2, (1, (.tmp 24)))])), none⟩, ⟨none, (.s (.store 3 (.tmp 2) (.tmp 25))), none⟩]) 
    (.region [⟨(some 24), (.s (.litw 25 3 [(.tmp 23)])), none⟩, ⟨(some 22), (.s (.slice3 2 (.tmp 21) (.const (.int .i64 2)) (.const (.int .i64 2)))), none⟩, ⟨(some 25), (.q (.build [(.str (B [])), .nils, .nils] [(1, (1, (.tmp 22))), (2, (1, (.tmp 24)))])), none⟩, ⟨none, (.s (.store 3 (.tmp 2) (.tmp 25))), none⟩])))) .ret))))
theorem t46 : Told Tryz.prog 46 26 c46 [(.cell 2 true 3)] := ⟨Tryz.f46, _, [500007, 24, 4300004, 4000004], Tryz.func46, rfl, by kernel_rfl, rfl, by kernel_rfl, by kernel_rfl⟩
def c11 : ACode := 
    (.seq 
    (.region [⟨(some 3), (.s (.box 25 (.tmp 0))), none⟩, ⟨(some 6), (.q (.move (.const (.bool false)))), none⟩]) 
    (.seq 
    (.region [⟨(some 22), (.q (.move (.tmp 1))), none⟩, ⟨(some 23), (.s (.call 47 [(.tmp 22)])), none⟩, ⟨(some 21), (.q (.move (.tmp 23))), none⟩, ⟨(some 24), (.q (.extract 0 (.tmp 21))), none⟩, ⟨(some 25), (.q (.extract 1 (.tmp 21))), none⟩, ⟨(some 7), (.q (.move (.tmp 24))), none⟩, ⟨(some 8), (.q (.move (.tmp 25))), none⟩]) 
    (.seq 
    (.seq 
    (.region [⟨(some 26), (.q (.load true 3 (.tmp 3))), none⟩, ⟨(some 27), (.s (.call 20 [(.tmp 26)])), none⟩, ⟨(some 28), (.q (.un .not (.tmp 27))), none⟩, ⟨(some 29), (.q (.move (.tmp 28))), none⟩, ⟨(some 30), (.q (.move (.tmp 1))), (some (29, false))⟩, ⟨(some 31), (.q (.len true (.tmp 30))), (some (29, false))⟩, ⟨(some 32), (.q (.bin .gtr (.tmp 31) (.const (.int .i64 200)))), (some (29, false))⟩, ⟨(some 33), (.q (.pick (.tmp 29) (.const (.bool true)) (.tmp 32))), none⟩, ⟨(some 34), (.q (.move (.tmp 33))), none⟩, ⟨(some 35), (.q (.move (.tmp 8))), (some (34, false))⟩, ⟨(some 36), (.q (.un .not (.tmp 35))), (some (34, false))⟩, ⟨(some 37), (.q (.pick (.tmp 34) (.const (.bool true)) (.tmp 36))), none⟩]) 
    (.cond (.tmp 37) 
    (.seq 
    (.region [⟨(some 38), (.s (.call 31 [])), none⟩, ⟨(some 6), (.q (.move (.tmp 38))), none⟩]) .ret) .skip)) 
    (.seq 
    (.region [⟨(some 40), (.q (.load true 3 (.tmp 3))), none⟩, ⟨(some 41), (.q (.move (.tmp 1))), none⟩, ⟨(some 42), (.q (.move (.tmp 2))), none⟩, ⟨(some 43), (.s (.call 39 [(.tmp 40), (.tmp 41), (.tmp 42)])), none⟩, ⟨(some 39), (.q (.move (.tmp 43))), none⟩, ⟨(some 44), (.q (.extract 0 (.tmp 39))), none⟩, ⟨(some 45), (.q (.extract 1 (.tmp 39))), none⟩, ⟨(some 9), (.q (.move (.tmp 44))), none⟩, ⟨(some 10), (.q (.move (.tmp 45))), none⟩]) 
    (.seq 
    (.seq 
    (.region [⟨(some 46), (.q (.move (.tmp 10))), none⟩, ⟨(some 47), (.q (.bin .neq (.tmp 46) (.const (.int .i64 0)))), none⟩, ⟨(some 48), (.q (.move (.tmp 47))), none⟩, ⟨(some 49), (.q (.move (.tmp 9))), (some (48, true))⟩, ⟨(some 50), (.q (.bin .neq (.tmp 49) (.const (.int .i64 0)))), (some (48, true))⟩, ⟨(some 51), (.q (.pick (.tmp 48) (.tmp 50) (.const (.bool false)))), none⟩]) 
    (.cond (.tmp 51) 
    (.seq 
    (.region [⟨(some 6), (.q (.move (.const (.bool false)))), none⟩]) .ret) .skip)) 
    (.seq 
    (.seq 
    (.region [⟨(some 52), (.q (.move (.tmp 7))), none⟩, ⟨(some 53), (.q (.len false (.tmp 52))), none⟩, ⟨(some 54), (.q (.bin .eql (.tmp 53) (.const (.int .i64 0)))), none⟩]) 
    (.cond (.tmp 54) 
    (.seq 
    (.region [⟨(some 55), (.q (.move (.tmp 10))), none⟩, ⟨(some 56), (.q (.bin .eql (.tmp 55) (.const (.int .i64 0)))), none⟩, ⟨(some 57), (.q (.move (.tmp 2))), none⟩, ⟨(some 58), (.q (.bin .geq (.tmp 57) (.const (.int .i64 0)))), none⟩, ⟨(some 59), (.q (.move (.tmp 58))), none⟩, ⟨(some 60), (.q (.move (.tmp 2))), (some (59, true))⟩, ⟨(some 61), (.q (.bin .leq (.tmp 60) (.const (.int .i64 4294967295)))), (some (59, true))⟩, ⟨(some 62), (.q (.pick (.tmp 59) (.tmp 61) (.const (.bool false)))), none⟩, ⟨(some 63), (.q (.beq false (.tmp 56) (.tmp 62))), none⟩, ⟨(some 64), (.q (.move (.tmp 63))), none⟩, ⟨(some 65), (.q (.move (.tmp 10))), (some (64, true))⟩, ⟨(some 66), (.q (.bin .neq (.tmp 65) (.const (.int .i64 0)))), (some (64, true))⟩, ⟨(some 67), (.q (.move (.tmp 66))), (some (64, true))⟩, ⟨(some 68), (.q (.move (.tmp 9))), (some (67, false))⟩, ⟨(some 69), (.q (.move (.tmp 2))), (some (67, false))⟩, ⟨(some 70), (.q (.bin .eql (.tmp 68) (.tmp 69))), (some (67, false))⟩, ⟨(some 71), (.q (.pick (.tmp 67) (.const (.bool true)) (.tmp 70))), (some (64, true))⟩, ⟨(some 72), (.q (.pick (.tmp 64) (.tmp 71) (.const (.bool false)))), none⟩, ⟨(some 73), (.q (.move (.tmp 72))), none⟩, ⟨(some 74), (.s (.call 31 [])), (some (73, true))⟩, ⟨(some 75), (.q (.pick (.tmp 73) (.tmp 74) (.const (.bool false)))), none⟩, ⟨(some 6), (.q (.move (.tmp 75))), none⟩]) .ret) .skip)) 
    (.seq 
    (.region [⟨(some 76), (.q (.move (.tmp 2))), none⟩, ⟨(some 77), (.q (.bin .geq (.tmp 76) (.const (.int .i64 0)))), none⟩, ⟨(some 78), (.q (.move (.tmp 77))), none⟩, ⟨(some 79), (.q (.move (.tmp 2))), (some (78, true))⟩, ⟨(some 80), (.q (.bin .leq (.tmp 79) (.const (.int .i64 4294967295)))), (some (78, true))⟩, ⟨(some 81), (.q (.pick (.tmp 78) (.tmp 80) (.const (.bool false)))), none⟩, ⟨(some 11), (.q (.move (.tmp 81))), none⟩]) 
    (.seq 
    (.seq 
    (.region [⟨(some 12), (.q (.move (.const (.int .i64 0)))), none⟩]) 
    (.block 0 
    (.loop 
    (.seq 
    (.seq 
    (.region [⟨(some 82), (.q (.move (.tmp 12))), none⟩, ⟨(some 83), (.q (.move (.tmp 7))), none⟩, ⟨(some 84), (.q (.len false (.tmp 83))), none⟩, ⟨(some 85), (.q (.bin .lss (.tmp 82) (.tmp 84))), none⟩]) 
    (.cond (.tmp 85) .skip (.exit 0))) 
    (.seq 
    (.block 1 
    (.seq 
    (.regionN 14 [⟨(some 89), (.q (.load true 3 (.tmp 3))), none⟩, ⟨(some 90), (.q (.move (.tmp 7))), none⟩, ⟨(some 91), (.q (.move (.tmp 12))), none⟩, ⟨(some 92), (.q (.bin .add (.tmp 91) (.const (.int .i64 1)))), none⟩, ⟨(some 93), (.q (.sliceSl 1 (.tmp 90) none (some (.tmp 92)))), none⟩, ⟨(some 94), (.c (.fn 48) [(.tmp 93)]), none⟩, ⟨(some 13), (.q (.move (.const .top))), none⟩, ⟨(some 95), (.s (.call 26 [(.tmp 89), (.tmp 94)])), none⟩, ⟨(some 88), (.q (.move (.tmp 95))), none⟩, ⟨(some 96), (.q (.extract 0 (.tmp 88))), none⟩, ⟨(some 97), (.q (.extract 1 (.tmp 88))), none⟩, ⟨(some 13), (.s (.put 25 3 (.tmp 96))), none⟩, ⟨(some 14), (.q (.move (.tmp 97))), none⟩]) 
    (.seq 
    (.region [⟨(some 99), (.q (.load true 3 (.tmp 13))), none⟩, ⟨(some 100), (.s (.call 27 [(.tmp 99), (.const (.str (B [114, 97, 110, 103, 101, 115])))])), none⟩, ⟨(some 98), (.q (.move (.tmp 100))), none⟩, ⟨(some 101), (.q (.extract 0 (.tmp 98))), none⟩, ⟨(some 102), (.q (.extract 1 (.tmp 98))), none⟩, ⟨(some 15), (.q (.move (.tmp 101))), none⟩, ⟨(some 16), (.q (.move (.tmp 102))), none⟩]) 
    (.region [⟨(some 103), (.q (.move (.tmp 11))), none⟩, ⟨(some 104), (.q (.move (.tmp 103))), none⟩, ⟨(some 105), (.q (.move (.tmp 14))), (some (104, true))⟩, ⟨(some 106), (.q (.pick (.tmp 104) (.tmp 105) (.const (.bool false)))), none⟩, ⟨(some 107), (.q (.move (.tmp 106))), none⟩, ⟨(some 108), (.q (.move (.tmp 16))), (some (107, true))⟩, ⟨(some 109), (.q (.pick (.tmp 107) (.tmp 108) (.const (.bool false)))), none⟩, ⟨(some 110), (.q (.move (.tmp 109))), none⟩, ⟨(some 111), (.q (.move (.tmp 15))), (some (110, true))⟩, ⟨(some 112), (.q (.bin .eql (.tmp 111) (.const (.str (B []))))), (some (110, true))⟩, ⟨(some 113), (.q (.pick (.tmp 110) (.tmp 112) (.const (.bool false)))), none⟩, ⟨(some 11), (.q (.move (.tmp 113))), none⟩])))) 
    (.region [⟨(some 86), (.q (.move (.tmp 12))), none⟩, ⟨(some 87), (.q (.bin .add (.tmp 86) (.const (.int .i64 1)))), none⟩, ⟨(some 12), (.q (.move (.tmp 87))), none⟩])))))) 
    (.seq 
    (.seq 
    (.region [⟨(some 114), (.q (.move (.tmp 11))), none⟩, ⟨(some 115), (.q (.move (.tmp 114))), none⟩, ⟨(some 116), (.q (.move (.tmp 10))), (some (115, true))⟩, ⟨(some 117), (.q (.bin .neq (.tmp 116) (.const (.int .i64 0)))), (some (115, true))⟩, ⟨(some 118), (.q (.move (.tmp 117))), (some (115, true))⟩, ⟨(some 119), (.q (.move (.tmp 9))), (some (118, false))⟩, ⟨(some 120), (.q (.move (.tmp 2))), (some (118, false))⟩, ⟨(some 121), (.q (.bin .neq (.tmp 119) (.tmp 120))), (some (118, false))⟩, ⟨(some 122), (.q (.pick (.tmp 118) (.const (.bool true)) (.tmp 121))), (some (115, true))⟩, ⟨(some 123), (.q (.pick (.tmp 115) (.tmp 122) (.const (.bool false)))), none⟩]) 
    (.cond (.tmp 123) 
    (.seq 
    (.region [⟨(some 6), (.q (.move (.const (.bool false)))), none⟩]) .ret) .skip)) 
    (.seq 
    (.region [⟨(some 125), (.q (.load true 3 (.tmp 3))), none⟩, ⟨(some 126), (.q (.move (.tmp 1))), none⟩, ⟨(some 127), (.q (.move (.tmp 2))), none⟩, ⟨(some 128), (.s (.call 37 [(.tmp 125), (.tmp 126), (.tmp 127)])), none⟩, ⟨(some 124), (.q (.move (.tmp 128))), none⟩, ⟨(some 129), (.q (.extract 0 (.tmp 124))), none⟩, ⟨(some 130), (.q (.extract 1 (.tmp 124))), none⟩, ⟨(some 17), (.q (.move (.tmp 129))), none⟩, ⟨(some 18), (.q (.move (.tmp 130))), none⟩]) 
    (.seq 
    (.seq 
    (.region [⟨(some 131), (.q (.move (.tmp 18))), none⟩, ⟨(some 132), (.q (.bin .neq (.tmp 131) (.const (.int .i64 0)))), none⟩]) 
    (.cond (.tmp 132) 
    (.seq 
    (.region [⟨(some 133), (.q (.move (.tmp 10))), none⟩, ⟨(some 134), (.q (.bin .neq (.tmp 133) (.const (.int .i64 0)))), none⟩, ⟨(some 135), (.q (.move (.tmp 134))), none⟩, ⟨(some 136), (.s (.call 31 [])), (some (135, true))⟩, ⟨(some 137), (.q (.pick (.tmp 135) (.tmp 136) (.const (.bool false)))), none⟩, ⟨(some 6), (.q (.move (.tmp 137))), none⟩]) .ret) .skip)) 
    (.seq 
    (.region [⟨(some 139), (.q (.load true 3 (.tmp 3))), none⟩, ⟨(some 140), (.q (.move (.tmp 7))), none⟩, ⟨(some 141), (.q (.move (.tmp 7))), none⟩, ⟨(some 142), (.q (.len false (.tmp 141))), none⟩, ⟨(some 143), (.q (.bin .sub (.tmp 142) (.const (.int .i64 1)))), none⟩, ⟨(some 144), (.q (.sliceSl 1 (.tmp 140) none (some (.tmp 143)))), none⟩, ⟨(some 145), (.c (.fn 48) [(.tmp 144)]), none⟩, ⟨(some 146), (.q (.move (.tmp 17))), none⟩, ⟨(some 147), (.s (.call 39 [(.tmp 139), (.tmp 145), (.tmp 146)])), none⟩, ⟨(some 138), (.q (.move (.tmp 147))), none⟩, ⟨(some 148), (.q (.extract 0 (.tmp 138))), none⟩, ⟨(some 149), (.q (.extract 1 (.tmp 138))), none⟩, ⟨(some 19), (.q (.move (.tmp 148))), none⟩, ⟨(some 20), (.q (.move (.tmp 149))), none⟩]) 
    (.seq 
    (.region [⟨(some 150), (.q (.move (.tmp 10))), none⟩, ⟨(some 151), (.q (.move (.tmp 20))), none⟩, ⟨(some 152), (.q (.bin .eql (.tmp 150) (.tmp 151))), none⟩, ⟨(some 153), (.q (.move (.tmp 152))), none⟩, ⟨(some 154), (.q (.move (.tmp 9))), (some (153, true))⟩, ⟨(some 155), (.q (.move (.tmp 19))), (some (153, true))⟩, ⟨(some 156), (.q (.bin .eql (.tmp 154) (.tmp 155))), (some (153, true))⟩, ⟨(some 157), (.q (.pick (.tmp 153) (.tmp 156) (.const (.bool false)))), none⟩, ⟨(some 158), (.q (.move (.tmp 157))), none⟩, ⟨(some 159), (.s (.call 31 [])), (some (158, true))⟩, ⟨(some 160), (.q (.pick (.tmp 158) (.tmp 159) (.const (.bool false)))), none⟩, ⟨(some 6), (.q (.move (.tmp 160))), none⟩]) .ret)))))))))))))
theorem t11 : Told Tryz.prog 11 161 c11 [(.tmp 6)] := ⟨Tryz.f11, _, [], Tryz.func11, rfl, by kernel_rfl, rfl, by kernel_rfl, by kernel_rfl⟩
set_option linter.unusedSimpArgs false
set_option linter.unusedVariables false
def spnV (p : Int × Int) : AV := .agg [.int .i64 p.1, .int .i64 p.2]
theorem spV_is (p : Int × Int) : spnV p = .agg [.int .i64 p.1, .int .i64 p.2] := rfl
theorem spnV_cells (p : Int × Int) : (spnV p).cells = [.int .i64 p.1, .int .i64 p.2] := rfl
theorem spn_at {ls : List (Int × Int)} {i : Nat} (h : i < ls.length) : (ls.map spnV)[i]? = some (spnV (ls.getD i (0, 0))) := by
  rw [List.getElem?_map, List.getD_eq_getElem?_getD, List.getElem?_eq_getElem h]
  rfl
theorem spn_len (l : List (Int × Int)) : ∀ x ∈ l.map spnV, x.cells.length = 2 := fun x hx => by
  obtain ⟨p, _, rfl⟩ := List.mem_map.1 hx
  rfl
theorem spn_one (l : List (Int × Int)) : ((l.map spnV).flatMap AV.cells).all AV.one = true := by
  rw [List.all_eq_true]
  intro x hx
  obtain ⟨y, hy, hx⟩ := List.mem_flatMap.1 hx
  obtain ⟨r, _, rfl⟩ := List.mem_map.1 hy
  rw [spnV_cells, List.mem_cons, List.mem_singleton] at hx
  rcases hx with rfl | rfl <;> rfl
theorem spn_u (n : Nat) (l : List (Int × Int)) : AllC n (l.map spnV) := uc_map n l (fun r => by rw [spnV_cells]; simp only [u_top, u_bool, u_int, u_str, u_nilp, u_nils, u_nilf, u_nilm, u_nili, u_emp, u_byteV, u_ptr, u_wr, u_wc, u_agg, u_tup, u_rd, u_imm, u_func, u_nil, u_cons, u_app, uc_nil, uc_cons, uc_app, u_bytes, uc_bytes, u_ints, uc_ints, cells_bool, cells_int, cells_str, cells_agg, cells_ptr, cells_nils, cells_imm, cells_wr, cells_wc, cells_nilp, cells_nilf, cells_nilm, cells_rd, cells_emp, cells_byteV, cells_func, and_self, and_true, true_and, u_slA, uc_strs, cells_slA, strV_is])
set_option maxHeartbeats 16000000
attribute [local go_sem] go_seq go_skip go_region go_regionN go_fregion rgF_some go_cond go_block go_exit go_ret nxt_nil nxt_code nxt_blk nxt_cut leave_nil leave_code leave_cut leave_blk rtn_nil rtn_code rtn_blk rtn_cut cnd_t cnd_f rgn_nil rgY_some rgY_none rgH_some rgP_some retTo_is rgV_func grd_und grd_tt grd_ff grd_tf grd_ft rgn_q rgn_alloc rgn_box rgn_store rgn_lit rgn_litw rgn_litc litCells_nil litCells_cons rgn_app rgn_copy rgn_mk rgn_s2b rgn_call rgn_callv rgn_stop rgn_slice3 aslice3 rgn_slice3l aslice3l rgn_appz rgn_clear rgn_range rgn_next arange acap rgn_put rgn_mkmap rgn_lookup rgn_mapup alookup_nilm alookup_map amapup_map afound_ok afound_no rgn_c rgn_cv qclV_func aloadr rgn_guard post_ret post_normal retY_some ares aresL ares1 AX.ev aput List.getD_cons_zero List.getD_cons_succ List.set_cons_zero List.set_cons_succ List.map_cons List.map_nil aq abin aint astr abeq aconv asame aextract alenS alenL_nils alenL_emp alenL_imm alenL_wr alenL_wc aun apart aload afieldAddr afield aidxSl_wr aidxSl_wc aidxSl_imm aidxPt aidxStr aidxArr abound asliceStr asliceSl asliceArr abest anonil afill astore acells_nils acells_emp acells_imm acells_wr acells_wc acells_str acopy litAll amk as2b anil nilOf aseq aeqs aeqv fits fit1 hp_next hp_push hp_get hp_set List.length_cons List.length_nil List.getElem?_cons_zero List.getElem?_cons_succ List.cons_append List.nil_append List.append_nil List.take_succ_cons List.take_zero List.drop_succ_cons List.drop_zero List.all_cons List.all_nil Option.map_some Option.some.injEq Bool.and_true Bool.true_and Bool.false_eq_true if_true if_false ite_true ite_false Bool.and_self true_and and_true and_self Nat.zero_add Nat.le_refl Int.toNat_natCast beq_self_eq_true eq_self tops_zero tops_succ Int.natCast_nonneg List.take_nil List.drop_nil Option.map_none flat_bool one_bool cells_bool flat_int one_int cells_int flat_str one_str cells_str flat_nilp one_nilp cells_nilp flat_ptr one_ptr cells_ptr flat_nils one_nils cells_nils flat_imm one_imm cells_imm flat_wr one_wr cells_wr flat_wc one_wc cells_wc flat_func one_func cells_func flat_nilf one_nilf cells_nilf flat_map one_map cells_map flat_nilm one_nilm cells_nilm flat_iface one_iface cells_iface flat_nili one_nili cells_nili flat_rd one_rd cells_rd flat_emp one_emp cells_emp flat_byteV one_byteV cells_byteV flat_agg cells_agg one_agg B_size B_list B_ext B_toList B_app List.take_length Int.le_refl
/-- The first place of which something holds. -/
def ixA {α : Type} (p : α → Bool) : List α → Nat → Int
  | [], _ => -1
  | x :: xs, i => if p x = true then (i : Int) else ixA p xs (i + 1)
theorem ixA_drop {α : Type} (p : α → Bool) (xs : List α) (i : Nat) (d : α) (h : i < xs.length) : ixA p (xs.drop i) i = if p (xs.getD i d) = true then (i : Int) else ixA p (xs.drop (i + 1)) (i + 1) := by
  rw [List.drop_eq_getElem_cons h, ixA, List.getD_eq_getElem?_getD, List.getElem?_eq_getElem h]
  rfl
theorem ixA_any {α : Type} (p : α → Bool) : ∀ (xs : List α) (i : Nat), decide (0 ≤ ixA p xs i) = xs.any p
  | [], i => rfl
  | x :: xs, i => by
    rw [ixA, List.any_cons]
    cases h : p x with
    | true => rw [if_pos rfl, Bool.true_or]; exact decide_eq_true (by omega)
    | false => rw [if_neg Bool.false_ne_true, ixA_any p xs (i + 1), Bool.false_or]
theorem ixA_find {α : Type} (p : α → Bool) (d : α) : ∀ (xs : List α) (i : Nat), (ixA p xs i = -1 ∧ xs.find? p = none) ∨ ∃ j, ixA p xs i = ((i + j : Nat) : Int) ∧ j < xs.length ∧ xs.find? p = some (xs.getD j d)
  | [], i => .inl ⟨rfl, rfl⟩
  | x :: xs, i => by
    rw [ixA]
    cases h : p x with
    | true => exact .inr ⟨0, by rw [if_pos rfl]; rfl, by simp, by rw [List.find?_cons_of_pos h]; rfl⟩
    | false =>
      rw [if_neg Bool.false_ne_true, List.find?_cons_of_neg (by rw [h]; exact Bool.false_ne_true)]
      rcases ixA_find p d xs (i + 1) with ⟨h1, h2⟩ | ⟨j, h1, h2, h3⟩
      · exact .inl ⟨h1, h2⟩
      · exact .inr ⟨j + 1, by rw [h1]; omega, by simpa using h2, by rw [h3]; rfl⟩
theorem intsC_len (ls : List Int) : ∀ x ∈ ls.map (AV.int .i64), x.cells.length = 1 := fun x hx => by obtain ⟨n, _, rfl⟩ := List.mem_map.1 hx; rfl
theorem intsC_one (ls : List Int) : ((ls.map (AV.int .i64)).flatMap AV.cells).all AV.one = true := by
  rw [map_one (AV.int .i64) (fun _ => rfl), List.all_eq_true]
  intro x hx
  obtain ⟨y, _, rfl⟩ := List.mem_map.1 hx
  rfl
def rowV (r : List Int) : AV := .imm 1 (r.map (AV.int .i64))
theorem rowV_is (r : List Int) : rowV r = .imm 1 (r.map (AV.int .i64)) := rfl
theorem rowV_cells (r : List Int) : (rowV r).cells = [.imm 1 (r.map (AV.int .i64))] := rfl
theorem row_at {l : List (List Int)} {i : Nat} (h : i < l.length) : (l.map rowV)[i]? = some (rowV (l.getD i [])) := by
  rw [List.getElem?_map, List.getElem?_eq_getElem h, List.getD_eq_getElem?_getD, List.getElem?_eq_getElem h]
  rfl
theorem memD {α : Type} {l : List α} {i : Nat} {d : α} (h : i < l.length) : l.getD i d ∈ l := by
  rw [List.getD_eq_getElem?_getD, List.getElem?_eq_getElem h]
  exact List.getElem_mem _
theorem row_len (L : List (List Int)) : ∀ x ∈ L.map rowV, x.cells.length = 1 := fun x hx => by
  obtain ⟨r, _, rfl⟩ := List.mem_map.1 hx
  rfl
theorem row_one (L : List (List Int)) : ((L.map rowV).flatMap AV.cells).all AV.one = true := by
  rw [List.all_eq_true]
  intro x hx
  obtain ⟨y, hy, hx⟩ := List.mem_flatMap.1 hx
  obtain ⟨r, _, rfl⟩ := List.mem_map.1 hy
  rw [rowV_cells, List.mem_singleton] at hx
  subst hx
  rfl
theorem row_u (n : Nat) (L : List (List Int)) : AllC n (L.map rowV) := uc_map n L (fun r => by rw [rowV_cells]; simp only [u_top, u_bool, u_int, u_str, u_nilp, u_nils, u_nilf, u_nilm, u_nili, u_emp, u_byteV, u_ptr, u_wr, u_wc, u_agg, u_tup, u_rd, u_imm, u_func, u_nil, u_cons, u_app, uc_nil, uc_cons, uc_app, u_bytes, uc_bytes, u_ints, uc_ints, cells_bool, cells_int, cells_str, cells_agg, cells_ptr, cells_nils, cells_imm, cells_wr, cells_wc, cells_nilp, cells_nilf, cells_nilm, cells_rd, cells_emp, cells_byteV, cells_func, and_self, and_true, true_and, u_slA, uc_strs, cells_slA, strV_is])
section
variable {H : AHeap} {K : AV → AHeap → Prop}
theorem indexI_a {k : Nat} {l : List Int} {p : Int → Bool} {f : Nat} {fs cs : List AV} (hn : l.length ≤ 9223372036854775807)
    (hpp : ∀ x ∈ l, ∀ K : AV → AHeap → Prop, K (.bool (p x)) H → (ACalls Tryz.prog) f (fs ++ [.int .i64 x] ++ cs) H K) (h : K (.int .i64 (ixA p l 0)) H) :
    (ACalls Tryz.prog) 172 [slA k 1 (l.map (AV.int .i64)), .func (.func f) fs cs] H K := by
  refine acalls_go mo t172 (fun hs hu => ?_)
  simp only [c172, go_sem, Nat.reduceLeDiff, Nat.reduceAdd, Nat.reduceSub, Nat.reduceMul, Nat.reduceLT, Int.reduceLT, Int.reduceLE, Int.reduceAdd, Int.reduceSub, Int.reduceMul, Int.reduceToNat, Int.reduceNeg, Int.reduceEq, Nat.reducePow, Int.reducePow, Nat.reduceEqDiff, decide_true, decide_false, reduceIte, reduceCtorEq, Int.reduceBEq, Int.reduceBNe, bne_self_eq_false, Int.cast_ofNat_Int, Bool.not_true, Bool.not_false, IntKind.bits]
  refine stp0 ?_
  refine go_loopS mono (σ := Nat) (fun i => [(8, .int .i64 (i : Int))]) (fun i => hp H []) (fun i => i ≤ l.length ∧ ixA p (l.drop i) i = ixA p l 0) (fun i => l.length - i) 0 ?_ rfl ⟨by omega, rfl⟩ (fun i hi J hJ => ?_)
  · exact fgt
  obtain ⟨hil, hid⟩ := hi
  simp only [blurR_nil, blurR_some, blurR_none, blurC_region, blurC_regionN, blurC_fregion, blurT_nil, blurT_cons, blurC_seq, blurC_both, blurC_cond, blurC_block, blurC_loop, blurC_skip, blurC_exit, blurC_ret, tellS_nil, tellS_cons, List.set_cons_zero, List.set_cons_succ, tops_zero, tops_succ]
  by_cases h1 : i < l.length
  · have ha := int_at h1
    have hm := memD (d := 0) h1
    rw [ixA_drop p l i 0 h1] at hid
    generalize l.getD i 0 = x at *
    refine stp ha ?_
    rw [hp_nil]
    refine hpp _ hm _ ?_
    rw [← hp_nil (H := H)]
    cases h2 : p x with
    | true =>
      rw [if_pos h2] at hid
      rw [← hid] at h
      refine stp0 ?_
      exact aret_u hs (h)
    | false =>
      rw [if_neg (by rw [h2]; exact Bool.false_ne_true)] at hid
      refine stp0 ?_
      exact hJ (i + 1) _ ⟨h1, hid⟩ (by omega) fgt
  · rw [List.drop_of_length_le (by omega)] at hid
    rw [← hid] at h
    refine stp0 ?_
    exact aret_u hs (h)
theorem indexR_a {k : Nat} {l : List (List Int)} {p : List Int → Bool} {f : Nat} {fs cs : List AV} (hn : l.length ≤ 9223372036854775807)
    (hpp : ∀ x ∈ l, ∀ K : AV → AHeap → Prop, K (.bool (p x)) H → (ACalls Tryz.prog) f (fs ++ [rowV x] ++ cs) H K) (h : K (.int .i64 (ixA p l 0)) H) :
    (ACalls Tryz.prog) 130 [slA k 1 (l.map rowV), .func (.func f) fs cs] H K := by
  refine acalls_go mo t130 (fun hs hu => ?_)
  simp only [c130, go_sem, Nat.reduceLeDiff, Nat.reduceAdd, Nat.reduceSub, Nat.reduceMul, Nat.reduceLT, Int.reduceLT, Int.reduceLE, Int.reduceAdd, Int.reduceSub, Int.reduceMul, Int.reduceToNat, Int.reduceNeg, Int.reduceEq, Nat.reducePow, Int.reducePow, Nat.reduceEqDiff, decide_true, decide_false, reduceIte, reduceCtorEq, Int.reduceBEq, Int.reduceBNe, bne_self_eq_false, Int.cast_ofNat_Int, Bool.not_true, Bool.not_false, IntKind.bits]
  refine stp0 ?_
  refine go_loopS mono (σ := Nat) (fun i => [(8, .int .i64 (i : Int))]) (fun i => hp H []) (fun i => i ≤ l.length ∧ ixA p (l.drop i) i = ixA p l 0) (fun i => l.length - i) 0 ?_ rfl ⟨by omega, rfl⟩ (fun i hi J hJ => ?_)
  · exact fgt
  obtain ⟨hil, hid⟩ := hi
  simp only [blurR_nil, blurR_some, blurR_none, blurC_region, blurC_regionN, blurC_fregion, blurT_nil, blurT_cons, blurC_seq, blurC_both, blurC_cond, blurC_block, blurC_loop, blurC_skip, blurC_exit, blurC_ret, tellS_nil, tellS_cons, List.set_cons_zero, List.set_cons_succ, tops_zero, tops_succ]
  by_cases h1 : i < l.length
  · have ha := row_at h1
    have hm := memD (d := []) h1
    rw [ixA_drop p l i [] h1] at hid
    generalize l.getD i [] = x at *
    refine stp (And.intro ha @rowV_cells) ?_
    rw [← rowV_is, hp_nil]
    refine hpp _ hm _ ?_
    rw [← hp_nil (H := H)]
    cases h2 : p x with
    | true =>
      rw [if_pos h2] at hid
      rw [← hid] at h
      refine stp0 ?_
      exact aret_u hs (h)
    | false =>
      rw [if_neg (by rw [h2]; exact Bool.false_ne_true)] at hid
      refine stp0 ?_
      exact hJ (i + 1) _ ⟨h1, hid⟩ (by omega) fgt
  · rw [List.drop_of_length_le (by omega)] at hid
    rw [← hid] at h
    refine stp0 ?_
    exact aret_u hs (h)
theorem containsI_a {k : Nat} {l : List Int} {p : Int → Bool} {f : Nat} {fs cs : List AV} (hn : l.length ≤ 9223372036854775807)
    (hpp : ∀ x ∈ l, ∀ K : AV → AHeap → Prop, K (.bool (p x)) H → (ACalls Tryz.prog) f (fs ++ [.int .i64 x] ++ cs) H K) (h : K (.bool (l.any p)) H) :
    (ACalls Tryz.prog) 128 [slA k 1 (l.map (AV.int .i64)), .func (.func f) fs cs] H K := by
  refine acalls_go mo t128 (fun hs hu => ?_)
  simp only [c128, go_sem, Nat.reduceLeDiff, Nat.reduceAdd, Nat.reduceSub, Nat.reduceMul, Nat.reduceLT, Int.reduceLT, Int.reduceLE, Int.reduceAdd, Int.reduceSub, Int.reduceMul, Int.reduceToNat, Int.reduceNeg, Int.reduceEq, Nat.reducePow, Int.reducePow, Nat.reduceEqDiff, decide_true, decide_false, reduceIte, reduceCtorEq, Int.reduceBEq, Int.reduceBNe, bne_self_eq_false, Int.cast_ofNat_Int, Bool.not_true, Bool.not_false, IntKind.bits]
  rw [hp_nil]
  refine indexI_a hn hpp ?_
  rw [← hp_nil (H := H)]
  rw [← ixA_any p l 0] at h
  refine stp0 ?_
  exact aret_u hs (h)
theorem within1_a {n : Int} (h : K (.bool (!in32 n)) H) : (ACalls Tryz.prog) 129 [.int .i64 n] H K := by
  refine acalls_go mo t129 (fun hs hu => ?_)
  unfold in32 at h
  simp only [c129, go_sem, Nat.reduceLeDiff, Nat.reduceAdd, Nat.reduceSub, Nat.reduceMul, Nat.reduceLT, Int.reduceLT, Int.reduceLE, Int.reduceAdd, Int.reduceSub, Int.reduceMul, Int.reduceToNat, Int.reduceNeg, Int.reduceEq, Nat.reducePow, Int.reducePow, Nat.reduceEqDiff, decide_true, decide_false, reduceIte, reduceCtorEq, Int.reduceBEq, Int.reduceBNe, bne_self_eq_false, Int.cast_ofNat_Int, Bool.not_true, Bool.not_false, IntKind.bits]
  by_cases h1 : n < 0
  · rw [decide_eq_false (Int.not_le.2 h1)] at h
    refine stp h1 ?_
    exact aret_u hs (h)
  · rw [decide_eq_true (Int.not_lt.1 h1), Bool.true_and] at h
    by_cases h2 : n ≤ 4294967295
    · rw [decide_eq_true h2] at h
      have h3 : ¬ 4294967295 < n := by omega
      refine stp (And.intro h1 h3) ?_
      exact aret_u hs (h)
    · rw [decide_eq_false h2] at h
      have h3 : 4294967295 < n := by omega
      refine stp (And.intro h1 h3) ?_
      exact aret_u hs (h)
theorem within_a {k : Nat} {l : List Int} (hn : l.length ≤ 9223372036854775807) (h : K (.bool (l.all in32)) H) : (ACalls Tryz.prog) 79 [slA k 1 (l.map (AV.int .i64))] H K := by
  refine acalls_go mo t79 (fun hs hu => ?_)
  simp only [c79, go_sem, Nat.reduceLeDiff, Nat.reduceAdd, Nat.reduceSub, Nat.reduceMul, Nat.reduceLT, Int.reduceLT, Int.reduceLE, Int.reduceAdd, Int.reduceSub, Int.reduceMul, Int.reduceToNat, Int.reduceNeg, Int.reduceEq, Nat.reducePow, Int.reducePow, Nat.reduceEqDiff, decide_true, decide_false, reduceIte, reduceCtorEq, Int.reduceBEq, Int.reduceBNe, bne_self_eq_false, Int.cast_ofNat_Int, Bool.not_true, Bool.not_false, IntKind.bits]
  refine containsI_a (p := fun n => !in32 n) hn (fun x _ K hk => within1_a hk) ?_
  rw [List.all_eq_not_any_not] at h
  refine stp0 ?_
  exact aret_u hs (h)
theorem number_a {t : Tr} {nm : List UInt8} {u : Nat} (ho : TrOk t) (hl : ∀ v, valT t nm = some v → v.length ≤ 100000) (h : K (.tup [.int .i64 ((cntO t nm u).getD 0 : Nat), .bool (cntO t nm u).isSome]) H) : (ACalls Tryz.prog) 71 [t.V, .str (B nm), .int .i64 (u : Int)] H K := by
  refine acalls_go mo t71 (fun hs hu => ?_)
  have hVi := Tr.V_is t
  unfold cntO at h
  simp only [c71, Tr.V_is, go_sem, Nat.reduceLeDiff, Nat.reduceAdd, Nat.reduceSub, Nat.reduceMul, Nat.reduceLT, Int.reduceLT, Int.reduceLE, Int.reduceAdd, Int.reduceSub, Int.reduceMul, Int.reduceToNat, Int.reduceNeg, Int.reduceEq, Nat.reducePow, Int.reducePow, Nat.reduceEqDiff, decide_true, decide_false, reduceIte, reduceCtorEq, Int.reduceBEq, Int.reduceBNe, bne_self_eq_false, Int.cast_ofNat_Int, Bool.not_true, Bool.not_false, IntKind.bits]
  rw [← hVi]
  refine Value_a ho ?_
  rw [valV_is]
  cases hv : valT t nm with
  | none =>
    rw [hv] at h
    have h : K (.tup [.int .i64 (u : Int), .bool true]) H := h
    simp (maxSteps := 4000000) (disch := (first | omega | (simp only [set_next, List.length_append, List.length_cons, List.length_nil, List.length_take, List.length_drop, List.length_map, List.length_set, List.length_replicate]; omega) | (simp only [set_next, ne_eq, reduceCtorEq, not_false_eq_true]))) only [Option.isSome_none, Option.getD_none, go_sem, Nat.reduceLeDiff, Nat.reduceAdd, Nat.reduceSub, Nat.reduceMul, Nat.reduceLT, Int.reduceLT, Int.reduceLE, Int.reduceAdd, Int.reduceSub, Int.reduceMul, Int.reduceToNat, Int.reduceNeg, Int.reduceEq, Nat.reducePow, Int.reducePow, Nat.reduceEqDiff, decide_true, decide_false, reduceIte, reduceCtorEq, Int.reduceBEq, Int.reduceBNe, bne_self_eq_false, Int.cast_ofNat_Int, Bool.not_true, Bool.not_false, IntKind.bits, w_nat, w_lit, w_add, w_addl, w_ladd, w_sub, w_subl, w_lsub, w_mul, w_mull, w_lmul, t_div, t_divl, t_mod, t_modl, i_lt, i_ltl, i_llt, i_le, i_lel, i_lle, i_eq, i_eql, i_leq, Nat.zero_le, d_beq, d_bne, d_bytes, byte_at, Int.toNat_natCast, toNat_lit, decide_eq_true, decide_eq_false, if_pos, if_neg, slA_len, slA_idx, slA_cells, flat_slA, one_slA, cells_slA, map_mid, strV_is, hp_get1, hp_get2, hp_get3, hp_set1, hp_set2, hp_set3, hp_old, hp_sold, set_got, set_set, set_next, set_other, bytesL, bytes_all, List.length_map, aapp_nils, aapp_wr, List.flatMap_cons, List.flatMap_nil, Nat.mul_one]
    exact aret_u hs (h)
  | some v =>
    rw [hv] at h
    simp (maxSteps := 4000000) (disch := (first | omega | (simp only [set_next, List.length_append, List.length_cons, List.length_nil, List.length_take, List.length_drop, List.length_map, List.length_set, List.length_replicate]; omega) | (simp only [set_next, ne_eq, reduceCtorEq, not_false_eq_true]))) only [Option.isSome_some, Option.getD_some, go_sem, Nat.reduceLeDiff, Nat.reduceAdd, Nat.reduceSub, Nat.reduceMul, Nat.reduceLT, Int.reduceLT, Int.reduceLE, Int.reduceAdd, Int.reduceSub, Int.reduceMul, Int.reduceToNat, Int.reduceNeg, Int.reduceEq, Nat.reducePow, Int.reducePow, Nat.reduceEqDiff, decide_true, decide_false, reduceIte, reduceCtorEq, Int.reduceBEq, Int.reduceBNe, bne_self_eq_false, Int.cast_ofNat_Int, Bool.not_true, Bool.not_false, IntKind.bits, w_nat, w_lit, w_add, w_addl, w_ladd, w_sub, w_subl, w_lsub, w_mul, w_mull, w_lmul, t_div, t_divl, t_mod, t_modl, i_lt, i_ltl, i_llt, i_le, i_lel, i_lle, i_eq, i_eql, i_leq, Nat.zero_le, d_beq, d_bne, d_bytes, byte_at, Int.toNat_natCast, toNat_lit, decide_eq_true, decide_eq_false, if_pos, if_neg, slA_len, slA_idx, slA_cells, flat_slA, one_slA, cells_slA, map_mid, strV_is, hp_get1, hp_get2, hp_get3, hp_set1, hp_set2, hp_set3, hp_old, hp_sold, set_got, set_set, set_next, set_other, bytesL, bytes_all, List.length_map, aapp_nils, aapp_wr, List.flatMap_cons, List.flatMap_nil, Nat.mul_one]
    refine asNum_a (hl v hv) ?_
    unfold asNum
    by_cases h4 : v.length = 4
    · simp only [h4, if_true] at h ⊢
      have h : K (.tup [.int .i64 (big v : Int), .bool true]) H := h
      refine stp0 ?_
      exact aret_u hs (h)
    · simp only [h4, if_false] at h ⊢
      have h : K (.tup [.int .i64 0, .bool false]) H := h
      refine stp0 ?_
      exact aret_u hs (h)
def mayC (a s : Int) : Bool := decide (1 ≤ a) && decide (a ≤ 2) && decide (0 ≤ s) && decide (s ≤ 2)
theorem mayC_a {a s : Int} (h : K (.bool (mayC a s)) H) : (ACalls Tryz.prog) 72 [.int .i64 a, .int .i64 s] H K := by
  refine acalls_go mo t72 (fun hs hu => ?_)
  unfold mayC at h
  simp only [c72, go_sem, Nat.reduceLeDiff, Nat.reduceAdd, Nat.reduceSub, Nat.reduceMul, Nat.reduceLT, Int.reduceLT, Int.reduceLE, Int.reduceAdd, Int.reduceSub, Int.reduceMul, Int.reduceToNat, Int.reduceNeg, Int.reduceEq, Nat.reducePow, Int.reducePow, Nat.reduceEqDiff, decide_true, decide_false, reduceIte, reduceCtorEq, Int.reduceBEq, Int.reduceBNe, bne_self_eq_false, Int.cast_ofNat_Int, Bool.not_true, Bool.not_false, IntKind.bits]
  by_cases h1 : 1 ≤ a
  · by_cases h2 : a ≤ 2
    · by_cases h3 : 0 ≤ s
      · by_cases h4 : s ≤ 2
        · simp only [h1, h2, h3, h4, decide_true, decide_false, Bool.and_true, Bool.and_false] at h
          refine stp (And.intro h1 (And.intro h2 (And.intro h3 h4))) ?_
          exact aret_u hs (h)
        · simp only [h1, h2, h3, h4, decide_true, decide_false, Bool.and_true, Bool.and_false] at h
          refine stp (And.intro h1 (And.intro h2 (And.intro h3 h4))) ?_
          exact aret_u hs (h)
      · simp only [h1, h2, h3, decide_true, decide_false, Bool.and_true, Bool.and_false, Bool.false_and] at h
        refine stp (And.intro h1 (And.intro h2 h3)) ?_
        exact aret_u hs (h)
    · simp only [h1, h2, decide_true, decide_false, Bool.and_true, Bool.and_false, Bool.false_and] at h
      refine stp (And.intro h1 h2) ?_
      exact aret_u hs (h)
  · simp only [h1, decide_true, decide_false, Bool.and_true, Bool.and_false, Bool.false_and] at h
    refine stp h1 ?_
    exact aret_u hs (h)
/-- What is answered of cells. -/
def cellsV : Option (Nat × Nat) → AV
  | some (a, s) => .tup [.int .i64 (a : Int), .int .i64 (s : Int), .bool true]
  | none => .tup [.int .i64 0, .int .i64 0, .bool false]
theorem cellsV_is (x : Option (Nat × Nat)) : cellsV x = .tup [.int .i64 ((x.getD (0, 0)).1 : Int), .int .i64 ((x.getD (0, 0)).2 : Int), .bool x.isSome] := by
  cases x <;> rfl
theorem cells_a {t : Tr} (ho : TrOk t) (hl : ∀ nm v, valT t nm = some v → v.length ≤ 100000) (h : K (cellsV (cellsO t)) H) : (ACalls Tryz.prog) 32 [t.V] H K := by
  refine acalls_go mo t32 (fun hs hu => ?_)
  have hVi := Tr.V_is t
  unfold cellsO kAdr kSiz at h
  simp only [c32, Tr.V_is, go_sem, Nat.reduceLeDiff, Nat.reduceAdd, Nat.reduceSub, Nat.reduceMul, Nat.reduceLT, Int.reduceLT, Int.reduceLE, Int.reduceAdd, Int.reduceSub, Int.reduceMul, Int.reduceToNat, Int.reduceNeg, Int.reduceEq, Nat.reducePow, Int.reducePow, Nat.reduceEqDiff, decide_true, decide_false, reduceIte, reduceCtorEq, Int.reduceBEq, Int.reduceBNe, bne_self_eq_false, Int.cast_ofNat_Int, Bool.not_true, Bool.not_false, IntKind.bits]
  rw [← hVi]
  refine number_a (u := 2) ho (hl _) ?_
  cases h1 : cntO t [35, 97, 100, 100, 114, 101, 115, 115, 45, 99, 101, 108, 108, 115] 2 with
  | none =>
    rw [h1] at h
    have h : K (.tup [.int .i64 0, .int .i64 0, .bool false]) H := h
    simp (maxSteps := 4000000) (disch := (first | omega | (simp only [set_next, List.length_append, List.length_cons, List.length_nil, List.length_take, List.length_drop, List.length_map, List.length_set, List.length_replicate]; omega) | (simp only [set_next, ne_eq, reduceCtorEq, not_false_eq_true]))) only [Option.isSome_none, Option.getD_none, go_sem, Nat.reduceLeDiff, Nat.reduceAdd, Nat.reduceSub, Nat.reduceMul, Nat.reduceLT, Int.reduceLT, Int.reduceLE, Int.reduceAdd, Int.reduceSub, Int.reduceMul, Int.reduceToNat, Int.reduceNeg, Int.reduceEq, Nat.reducePow, Int.reducePow, Nat.reduceEqDiff, decide_true, decide_false, reduceIte, reduceCtorEq, Int.reduceBEq, Int.reduceBNe, bne_self_eq_false, Int.cast_ofNat_Int, Bool.not_true, Bool.not_false, IntKind.bits, w_nat, w_lit, w_add, w_addl, w_ladd, w_sub, w_subl, w_lsub, w_mul, w_mull, w_lmul, t_div, t_divl, t_mod, t_modl, i_lt, i_ltl, i_llt, i_le, i_lel, i_lle, i_eq, i_eql, i_leq, Nat.zero_le, d_beq, d_bne, d_bytes, byte_at, Int.toNat_natCast, toNat_lit, decide_eq_true, decide_eq_false, if_pos, if_neg, slA_len, slA_idx, slA_cells, flat_slA, one_slA, cells_slA, map_mid, strV_is, hp_get1, hp_get2, hp_get3, hp_set1, hp_set2, hp_set3, hp_old, hp_sold, set_got, set_set, set_next, set_other, bytesL, bytes_all, List.length_map, aapp_nils, aapp_wr, List.flatMap_cons, List.flatMap_nil, Nat.mul_one]
    rw [← hVi]
    refine number_a (u := 1) ho (hl _) ?_
    generalize cntO t _ 1 = z
    refine stp0 ?_
    exact aret_u hs (h)
  | some a =>
    rw [h1] at h
    simp (maxSteps := 4000000) (disch := (first | omega | (simp only [set_next, List.length_append, List.length_cons, List.length_nil, List.length_take, List.length_drop, List.length_map, List.length_set, List.length_replicate]; omega) | (simp only [set_next, ne_eq, reduceCtorEq, not_false_eq_true]))) only [Option.isSome_some, Option.getD_some, go_sem, Nat.reduceLeDiff, Nat.reduceAdd, Nat.reduceSub, Nat.reduceMul, Nat.reduceLT, Int.reduceLT, Int.reduceLE, Int.reduceAdd, Int.reduceSub, Int.reduceMul, Int.reduceToNat, Int.reduceNeg, Int.reduceEq, Nat.reducePow, Int.reducePow, Nat.reduceEqDiff, decide_true, decide_false, reduceIte, reduceCtorEq, Int.reduceBEq, Int.reduceBNe, bne_self_eq_false, Int.cast_ofNat_Int, Bool.not_true, Bool.not_false, IntKind.bits, w_nat, w_lit, w_add, w_addl, w_ladd, w_sub, w_subl, w_lsub, w_mul, w_mull, w_lmul, t_div, t_divl, t_mod, t_modl, i_lt, i_ltl, i_llt, i_le, i_lel, i_lle, i_eq, i_eql, i_leq, Nat.zero_le, d_beq, d_bne, d_bytes, byte_at, Int.toNat_natCast, toNat_lit, decide_eq_true, decide_eq_false, if_pos, if_neg, slA_len, slA_idx, slA_cells, flat_slA, one_slA, cells_slA, map_mid, strV_is, hp_get1, hp_get2, hp_get3, hp_set1, hp_set2, hp_set3, hp_old, hp_sold, set_got, set_set, set_next, set_other, bytesL, bytes_all, List.length_map, aapp_nils, aapp_wr, List.flatMap_cons, List.flatMap_nil, Nat.mul_one]
    rw [← hVi]
    refine number_a (u := 1) ho (hl _) ?_
    cases h2 : cntO t [35, 115, 105, 122, 101, 45, 99, 101, 108, 108, 115] 1 with
    | none =>
      rw [h2] at h
      have h : K (.tup [.int .i64 0, .int .i64 0, .bool false]) H := h
      simp (maxSteps := 4000000) (disch := (first | omega | (simp only [set_next, List.length_append, List.length_cons, List.length_nil, List.length_take, List.length_drop, List.length_map, List.length_set, List.length_replicate]; omega) | (simp only [set_next, ne_eq, reduceCtorEq, not_false_eq_true]))) only [Option.isSome_none, Option.getD_none, go_sem, Nat.reduceLeDiff, Nat.reduceAdd, Nat.reduceSub, Nat.reduceMul, Nat.reduceLT, Int.reduceLT, Int.reduceLE, Int.reduceAdd, Int.reduceSub, Int.reduceMul, Int.reduceToNat, Int.reduceNeg, Int.reduceEq, Nat.reducePow, Int.reducePow, Nat.reduceEqDiff, decide_true, decide_false, reduceIte, reduceCtorEq, Int.reduceBEq, Int.reduceBNe, bne_self_eq_false, Int.cast_ofNat_Int, Bool.not_true, Bool.not_false, IntKind.bits, w_nat, w_lit, w_add, w_addl, w_ladd, w_sub, w_subl, w_lsub, w_mul, w_mull, w_lmul, t_div, t_divl, t_mod, t_modl, i_lt, i_ltl, i_llt, i_le, i_lel, i_lle, i_eq, i_eql, i_leq, Nat.zero_le, d_beq, d_bne, d_bytes, byte_at, Int.toNat_natCast, toNat_lit, decide_eq_true, decide_eq_false, if_pos, if_neg, slA_len, slA_idx, slA_cells, flat_slA, one_slA, cells_slA, map_mid, strV_is, hp_get1, hp_get2, hp_get3, hp_set1, hp_set2, hp_set3, hp_old, hp_sold, set_got, set_set, set_next, set_other, bytesL, bytes_all, List.length_map, aapp_nils, aapp_wr, List.flatMap_cons, List.flatMap_nil, Nat.mul_one]
      exact aret_u hs (h)
    | some s =>
      rw [h2] at h
      have h : K (cellsV (if 1 ≤ a ∧ a ≤ 2 ∧ s ≤ 2 then some (a, s) else none)) H := h
      simp (maxSteps := 4000000) (disch := (first | omega | (simp only [set_next, List.length_append, List.length_cons, List.length_nil, List.length_take, List.length_drop, List.length_map, List.length_set, List.length_replicate]; omega) | (simp only [set_next, ne_eq, reduceCtorEq, not_false_eq_true]))) only [Option.isSome_some, Option.getD_some, go_sem, Nat.reduceLeDiff, Nat.reduceAdd, Nat.reduceSub, Nat.reduceMul, Nat.reduceLT, Int.reduceLT, Int.reduceLE, Int.reduceAdd, Int.reduceSub, Int.reduceMul, Int.reduceToNat, Int.reduceNeg, Int.reduceEq, Nat.reducePow, Int.reducePow, Nat.reduceEqDiff, decide_true, decide_false, reduceIte, reduceCtorEq, Int.reduceBEq, Int.reduceBNe, bne_self_eq_false, Int.cast_ofNat_Int, Bool.not_true, Bool.not_false, IntKind.bits, w_nat, w_lit, w_add, w_addl, w_ladd, w_sub, w_subl, w_lsub, w_mul, w_mull, w_lmul, t_div, t_divl, t_mod, t_modl, i_lt, i_ltl, i_llt, i_le, i_lel, i_lle, i_eq, i_eql, i_leq, Nat.zero_le, d_beq, d_bne, d_bytes, byte_at, Int.toNat_natCast, toNat_lit, decide_eq_true, decide_eq_false, if_pos, if_neg, slA_len, slA_idx, slA_cells, flat_slA, one_slA, cells_slA, map_mid, strV_is, hp_get1, hp_get2, hp_get3, hp_set1, hp_set2, hp_set3, hp_old, hp_sold, set_got, set_set, set_next, set_other, bytesL, bytes_all, List.length_map, aapp_nils, aapp_wr, List.flatMap_cons, List.flatMap_nil, Nat.mul_one]
      refine mayC_a ?_
      have e : mayC (a : Int) (s : Int) = decide (1 ≤ a ∧ a ≤ 2 ∧ s ≤ 2) := by
        unfold mayC
        rw [Bool.eq_iff_iff]
        simp only [Bool.and_eq_true, decide_eq_true_eq]
        omega
      rw [e]
      by_cases hc : 1 ≤ a ∧ a ≤ 2 ∧ s ≤ 2
      · rw [if_pos hc] at h
        have h : K (.tup [.int .i64 (a : Int), .int .i64 (s : Int), .bool true]) H := h
        rw [decide_eq_true hc]
        refine stp0 ?_
        exact aret_u hs (h)
      · rw [if_neg hc] at h
        have h : K (.tup [.int .i64 0, .int .i64 0, .bool false]) H := h
        rw [decide_eq_false hc]
        refine stp0 ?_
        exact aret_u hs (h)
end
end Go.Proofs.YtmdgjfadbhenjaaGreatDoor.AL
