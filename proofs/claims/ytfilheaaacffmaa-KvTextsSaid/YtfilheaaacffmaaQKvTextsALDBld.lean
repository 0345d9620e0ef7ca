/- The code of builders, told. -/
import Derived.Test.YtfilheaaacffmaaQKvTextsALA3
import Derived.Test.YtfilheaaacffmaaProg
import Derived.KernelRfl
set_option maxRecDepth 100000
namespace Go.Proofs.Ytfilheaaacffmaa.AL
open Go Go.Proofs
def c150 : ACode := 
    (.seq 
    (.region [⟨(some 2), (.q (.move (.tmp 0))), none⟩, ⟨(some 3), (.q (.nonil (.tmp 2))), none⟩, ⟨(some 4), (.q (.fieldAddr 0 (.tmp 3))), none⟩, ⟨(some 5), (.q (.load false 1 (.tmp 4))), none⟩, ⟨(some 6), (.q (.nil .ptr false (.tmp 5) (.const .nilp))), none⟩]) 
    (.cond (.tmp 6) 
    (.region [⟨(some 7), (.q (.move (.tmp 0))), none⟩, ⟨(some 8), (.q (.move (.tmp 0))), none⟩, ⟨(some 9), (.s .stop), none⟩, ⟨(some 10), (.s (.call 177 [(.tmp 9)])), none⟩, ⟨(some 11), (.s .stop), none⟩, ⟨(some 12), (.q (.nonil (.tmp 7))), none⟩, ⟨(some 13), (.q (.fieldAddr 0 (.tmp 12))), none⟩, ⟨none, (.s (.store 1 (.tmp 13) (.tmp 11))), none⟩]) 
    (.seq 
    (.region [⟨(some 14), (.q (.move (.tmp 0))), none⟩, ⟨(some 15), (.q (.nonil (.tmp 14))), none⟩, ⟨(some 16), (.q (.fieldAddr 0 (.tmp 15))), none⟩, ⟨(some 17), (.q (.load false 1 (.tmp 16))), none⟩, ⟨(some 18), (.q (.move (.tmp 0))), none⟩, ⟨(some 19), (.s .stop), none⟩]) 
    (.cond (.tmp 19) 
    (.region [⟨none, (.s .stop), none⟩]) .skip))))
theorem t150 : Told Try.prog 150 20 c150 [] := ⟨Try.f150, _, [], Try.func150, rfl, by kernel_rfl, rfl, by kernel_rfl, by kernel_rfl⟩
def c107 : ACode := 
    (.seq 
    (.region [⟨(some 4), (.q (.move (.const (.int .i64 0)))), none⟩, ⟨(some 5), (.q (.move (.const .nili))), none⟩]) 
    (.seq 
    (.region [⟨(some 6), (.q (.move (.tmp 0))), none⟩, ⟨(some 7), (.s (.call 150 [(.tmp 6)])), none⟩]) 
    (.seq 
    (.region [⟨(some 8), (.q (.move (.tmp 0))), none⟩, ⟨(some 9), (.q (.move (.tmp 0))), none⟩, ⟨(some 10), (.q (.nonil (.tmp 9))), none⟩, ⟨(some 11), (.q (.fieldAddr 1 (.tmp 10))), none⟩, ⟨(some 12), (.q (.load false 1 (.tmp 11))), none⟩, ⟨(some 13), (.q (.move (.tmp 1))), none⟩, ⟨(some 14), (.s (.app 5 1 1 (.tmp 12) (.tmp 13))), none⟩, ⟨(some 15), (.q (.nonil (.tmp 8))), none⟩, ⟨(some 16), (.q (.fieldAddr 1 (.tmp 15))), none⟩, ⟨none, (.s (.store 1 (.tmp 16) (.tmp 14))), none⟩]) 
    (.seq 
    (.region [⟨(some 17), (.q (.move (.tmp 1))), none⟩, ⟨(some 18), (.q (.len true (.tmp 17))), none⟩, ⟨(some 4), (.q (.move (.tmp 18))), none⟩, ⟨(some 5), (.q (.move (.const .nili))), none⟩]) .ret))))
theorem t107 : Told Try.prog 107 19 c107 [(.tmp 4), (.tmp 5)] := ⟨Try.f107, _, [], Try.func107, rfl, by kernel_rfl, rfl, by kernel_rfl, by kernel_rfl⟩
def c109 : ACode := 
    (.seq 
    (.region [⟨(some 2), (.q (.move (.const (.str (B []))))), none⟩]) 
    (.seq 
    (.region [⟨(some 3), (.q (.move (.tmp 0))), none⟩, ⟨(some 4), (.q (.nonil (.tmp 3))), none⟩, ⟨(some 5), (.q (.fieldAddr 1 (.tmp 4))), none⟩, ⟨(some 6), (.q (.load false 1 (.tmp 5))), none⟩, ⟨(some 8), (.q (.move (.tmp 0))), none⟩, ⟨(some 9), (.q (.nonil (.tmp 8))), none⟩, ⟨(some 10), (.q (.fieldAddr 1 (.tmp 9))), none⟩, ⟨(some 11), (.q (.loadr false 1 (.tmp 10))), none⟩, ⟨(some 12), (.q (.len false (.tmp 11))), none⟩, ⟨(some 7), (.s .stop), none⟩, ⟨(some 13), (.s .stop), none⟩, ⟨(some 2), (.q (.move (.tmp 13))), none⟩]) .ret))
theorem t109 : Told Try.prog 109 14 c109 [(.tmp 2)] := ⟨Try.f109, _, [], Try.func109, rfl, by kernel_rfl, rfl, by kernel_rfl, by kernel_rfl⟩
def c108 : ACode := 
    (.seq 
    (.region [⟨(some 2), (.q (.move (.const (.int .i64 0)))), none⟩]) 
    (.seq 
    (.region [⟨(some 3), (.q (.move (.tmp 0))), none⟩, ⟨(some 4), (.q (.nonil (.tmp 3))), none⟩, ⟨(some 5), (.q (.fieldAddr 1 (.tmp 4))), none⟩, ⟨(some 6), (.q (.load false 1 (.tmp 5))), none⟩, ⟨(some 7), (.q (.len false (.tmp 6))), none⟩, ⟨(some 2), (.q (.move (.tmp 7))), none⟩]) .ret))
theorem t108 : Told Try.prog 108 8 c108 [(.tmp 2)] := ⟨Try.f108, _, [], Try.func108, rfl, by kernel_rfl, rfl, by kernel_rfl, by kernel_rfl⟩
end Go.Proofs.Ytfilheaaacffmaa.AL

