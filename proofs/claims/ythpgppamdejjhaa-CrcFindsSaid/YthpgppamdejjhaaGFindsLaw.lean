/- The law CrcFinds as a Lean function, with its contract: with its arguments in their kinds it answers what awake answers. -/
import Derived.Test.YthpgppamdejjhaaGFindsMath
namespace Go.Proofs.Ythpgppamdejjhaa.G
open Go.RowKit Go.Proofs.YthpgppamdejjhaaW.PrintWords Go.Proofs.YthpgppamdejjhaaW.PrintLast Go.Proofs.Ythpgppamdejjhaa.X
def CrcFinds.f (k : Nat) (_a0 : ByteArray) (a1 a2 : Int) : Option Bool :=
  if 0 ≤ a1 ∧ a1 < 65536 ∧ 0 ≤ a2 ∧ a2 < 4294967296 ∧ postilionlaw02_awake.f k = some true then some true else none
theorem CrcFinds.calls (k : Nat) (a0 : ByteArray) (a1 a2 : Int) (r : Bool) (w : World) (h : CrcFinds.f k a0 a1 a2 = some r) :
    Calls Try.prog 5 #[.string a0, .int .u16 a1, .int .u32 a2] w fun e w' => e = .returned (.bool r) ∧ Below w.heap.size w w' := by
  unfold CrcFinds.f at h
  split at h
  · obtain ⟨h1, h2, h3, h4, ha⟩ := ‹_ ∧ _›
    obtain rfl := Option.some.inj h
    obtain ⟨n, rfl⟩ := Int.eq_ofNat_of_zero_le h1
    obtain ⟨m, rfl⟩ := Int.eq_ofNat_of_zero_le h3
    by_cases hl : 1024 < (a0.size : Int)
    · exact finds_long k a0 _ _ w (decide_eq_true hl) ha
    by_cases hs : (a0.size : Int) < 4
    · exact finds_short k a0 _ _ w (decide_eq_false hl) (decide_eq_true hs) ha
    by_cases hm : m = 0
    · subst hm
      exact finds_none k a0 _ w (decide_eq_false hl) (decide_eq_false hs) ha
    · have hj : n % (a0.size - 3) + 4 ≤ a0.size := by
        have := Nat.mod_lt n (show 0 < a0.size - 3 by omega)
        omega
      exact finds_main k a0 n m _ w (decide_eq_false hl) (decide_eq_false hs) (by omega) (by omega) (by omega) rfl (finds_ne a0 _ m hj (by omega) (by omega)) ha
  · cases h
end Go.Proofs.Ythpgppamdejjhaa.G
