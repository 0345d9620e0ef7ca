/- The kit's Index, laid at this program, as a told call. -/
import Derived.Test.YtfilheaaacffmaaQLexJoinsALCalls
import Derived.Test.YtfilheaaacffmaaQLexJoinsALA4
import Derived.Test.YtfilheaaacffmaaProg
import Derived.Shelf.Lay
import Derived.Shelf.Strings.Search3
set_option linter.unusedVariables false
set_option maxRecDepth 100000
namespace Go.Proofs
open Go.Shelf
shelf_lay Lays.n143 Nm 143 at Try as Try.lays143
namespace Ytfilheaaacffmaa.AL
open Go Go.RowKit
theorem strIndex_k (s sub : ByteArray) (m : Int) (w : World) (hs : s.size < 4294967281) (hm : w.cell? ⟨0, 0, none⟩ = some (.int .i64 m)) :
    Calls Try.prog 141 #[.string s, .string sub] w fun e w' => e = .returned (.int .i64 (Lib.index s.data.toList sub.data.toList)) ∧ w' = w := Any.strings_Index Try.lays143 s sub m w hs hm
theorem indexS_a {n : Nat} {ac : ACode} {rs : List RV} (hT : Told Try.prog 141 n ac rs) {l sub : List UInt8} {H : AHeap} {K : AV → AHeap → Prop} (hl : l.length < 4294967281) (h : K (.int .i64 (Lib.index l sub)) H) : (ACalls Try.prog) 141 [.str (B l), .str (B sub)] H K :=
  acalls_calls hT fun g w vs hS hR => by
    obtain ⟨u, v, rfl, h1, h2⟩ := reps_two hR
    have e1 := str_inv h1
    have e2 := str_inv h2
    subst e1
    subst e2
    obtain ⟨_, m, hm⟩ := hS.var 0 (List.mem_singleton.2 rfl)
    refine (strIndex_k (B l) (B sub) m w hl hm).mono (fun e w' he => ?_)
    obtain ⟨rfl, rfl⟩ := he
    exact ⟨_, _, H, g, rfl, h, Ext.refl _ _, hS, .int _ _⟩
end Ytfilheaaacffmaa.AL
end Go.Proofs

