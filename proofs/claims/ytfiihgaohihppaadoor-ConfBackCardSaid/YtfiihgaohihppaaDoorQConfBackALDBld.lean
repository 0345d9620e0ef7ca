/- The code of builders, told. -/
import Derived.Test.YtfiihgaohihppaaDoorQConfBackALA3
import Derived.Test.YtfiihgaohihppaaDoorProg
import Derived.KernelRfl
set_option maxRecDepth 100000
namespace Go.Proofs.YtfiihgaohihppaaDoor.AL
open Go Go.Proofs
def c123 : ACode := 
    (.seq 
    (.region [⟨(some 2), (.q (.move (.tmp 0))), none⟩, ⟨(some 3), (.q (.nonil (.tmp 2))), none⟩, ⟨(some 4), (.q (.fieldAddr 0 (.tmp 3))), none⟩, ⟨(some 5), (.q (.load false 1 (.tmp 4))), none⟩, ⟨(some 6), (.q (.nil .ptr false (.tmp 5) (.const .nilp))), none⟩]) 
    (.cond (.tmp 6) 
    (.region [⟨(some 7), (.q (.move (.tmp 0))), none⟩, ⟨(some 8), (.q (.move (.tmp 0))), none⟩, ⟨(some 9), (.s .stop), none⟩, ⟨(some 10), (.s (.call 138 [(.tmp 9)])), none⟩, ⟨(some 11), (.s .stop), none⟩, ⟨(some 12), (.q (.nonil (.tmp 7))), none⟩, ⟨(some 13), (.q (.fieldAddr 0 (.tmp 12))), none⟩, ⟨none, (.s (.store 1 (.tmp 13) (.tmp 11))), none⟩]) 
    (.seq 
    (.region [⟨(some 14), (.q (.move (.tmp 0))), none⟩, ⟨(some 15), (.q (.nonil (.tmp 14))), none⟩, ⟨(some 16), (.q (.fieldAddr 0 (.tmp 15))), none⟩, ⟨(some 17), (.q (.load false 1 (.tmp 16))), none⟩, ⟨(some 18), (.q (.move (.tmp 0))), none⟩, ⟨(some 19), (.s .stop), none⟩]) 
    (.cond (.tmp 19) 
    (.region [⟨none, (.s .stop), none⟩]) .skip))))
theorem t123 : Told Tryd.prog 123 20 c123 [] := ⟨Tryd.f123, _, [], Tryd.func123, rfl, by kernel_rfl, rfl, by kernel_rfl, by kernel_rfl⟩
def c102 : ACode := 
    (.seq 
    (.region [⟨(some 4), (.q (.move (.const (.int .i64 0)))), none⟩, ⟨(some 5), (.q (.move (.const .nili))), none⟩]) 
    (.seq 
    (.region [⟨(some 6), (.q (.move (.tmp 0))), none⟩, ⟨(some 7), (.s (.call 123 [(.tmp 6)])), none⟩]) 
    (.seq 
    (.region [⟨(some 8), (.q (.move (.tmp 0))), none⟩, ⟨(some 9), (.q (.move (.tmp 0))), none⟩, ⟨(some 10), (.q (.nonil (.tmp 9))), none⟩, ⟨(some 11), (.q (.fieldAddr 1 (.tmp 10))), none⟩, ⟨(some 12), (.q (.load false 1 (.tmp 11))), none⟩, ⟨(some 13), (.q (.move (.tmp 1))), none⟩, ⟨(some 14), (.s (.app 5 1 1 (.tmp 12) (.tmp 13))), none⟩, ⟨(some 15), (.q (.nonil (.tmp 8))), none⟩, ⟨(some 16), (.q (.fieldAddr 1 (.tmp 15))), none⟩, ⟨none, (.s (.store 1 (.tmp 16) (.tmp 14))), none⟩]) 
    (.seq 
    (.region [⟨(some 17), (.q (.move (.tmp 1))), none⟩, ⟨(some 18), (.q (.len true (.tmp 17))), none⟩, ⟨(some 4), (.q (.move (.tmp 18))), none⟩, ⟨(some 5), (.q (.move (.const .nili))), none⟩]) .ret))))
theorem t102 : Told Tryd.prog 102 19 c102 [(.tmp 4), (.tmp 5)] := ⟨Tryd.f102, _, [], Tryd.func102, rfl, by kernel_rfl, rfl, by kernel_rfl, by kernel_rfl⟩
def c103 : ACode := 
    (.seq 
    (.region [⟨(some 2), (.q (.move (.const (.str (B []))))), none⟩]) 
    (.seq 
    (.region [⟨(some 3), (.q (.move (.tmp 0))), none⟩, ⟨(some 4), (.q (.nonil (.tmp 3))), none⟩, ⟨(some 5), (.q (.fieldAddr 1 (.tmp 4))), none⟩, ⟨(some 6), (.q (.load false 1 (.tmp 5))), none⟩, ⟨(some 8), (.q (.move (.tmp 0))), none⟩, ⟨(some 9), (.q (.nonil (.tmp 8))), none⟩, ⟨(some 10), (.q (.fieldAddr 1 (.tmp 9))), none⟩, ⟨(some 11), (.q (.loadr false 1 (.tmp 10))), none⟩, ⟨(some 12), (.q (.len false (.tmp 11))), none⟩, ⟨(some 7), (.s .stop), none⟩, ⟨(some 13), (.s .stop), none⟩, ⟨(some 2), (.q (.move (.tmp 13))), none⟩]) .ret))
theorem t103 : Told Tryd.prog 103 14 c103 [(.tmp 2)] := ⟨Tryd.f103, _, [], Tryd.func103, rfl, by kernel_rfl, rfl, by kernel_rfl, by kernel_rfl⟩
end Go.Proofs.YtfiihgaohihppaaDoor.AL

