/- The kit's Join, laid at this program. -/
import Derived.Test.YtfiihgaohihppaaDoorQPathFindALCalls
import Derived.Test.YtfiihgaohihppaaDoorQPathFindALA4
import Derived.Test.YtfiihgaohihppaaDoorProg
import Derived.Shelf.Lay
import Derived.Shelf.Strings.OnBuilder
import Derived.KernelRfl
set_option linter.unusedVariables false
set_option maxRecDepth 100000
namespace Go.Proofs
open Go.Shelf
shelf_lay Lays.n156 Nm 156 at Tryd as Tryd.lays156
theorem Tryd.Builder_Extra_156 : Builder.Extra Tryd.prog Tryd.lays156_ren where
  sizeBuilder := by kernel_rfl
  liesBuilder := by kernel_rfl
  t5 := Tryd.underlying5
  a5 := Tryd.isAgg5
  z5 := Tryd.sizeOf5
  v5 := Tryd.zeroValue5
  infoByte := by kernel_rfl
  cellsByte := by kernel_rfl
  sizeByte := by kernel_rfl
  neB5 := by decide
namespace YtfiihgaohihppaaDoor.AL
open Go Go.RowKit
theorem join_a {n : Nat} {ac : ACode} {rs : List RV} (hT : Told Tryd.prog 54 n ac rs) {ls : List (List UInt8)} {sep : List UInt8} {H : AHeap} {K : AV → AHeap → Prop} (hne : ls ≠ []) (hN : ls.length ≤ 140737488355328) (hl : (Lib.join ls sep).length ≤ 140737488355328) (h : K (.str (B (Lib.join ls sep))) H) : (ACalls Tryd.prog) 54 [.imm 1 (ls.map fun s => .str (B s)), .str (B sep)] H K :=
  acalls_calls hT fun g w vs hS hR => by
    obtain ⟨u, v, rfl, h1, h2⟩ := reps_two hR
    have e2 := str_inv h2
    subst e2
    obtain ⟨b, o, c, cu, rfl, hc, _, hz, _, hcell, hrep⟩ := h1.imm_inv
    have hmap : ((ls.map B).map (·.data.toList)) = ls := by
      rw [List.map_map]
      exact (List.map_congr_left (fun x _ => by simp [B])).trans (List.map_id _)
    have := Any.strings_Join Tryd.lays156 Tryd.Builder_Extra_156 b o c (ls.map B) (B sep) w (fun j x hx => by
      rw [List.getElem?_map] at hx
      obtain ⟨s, hs, rfl⟩ := Option.map_eq_some_iff.1 hx
      have hj : j < ls.length := (List.getElem?_eq_some_iff.1 hs).1
      rw [hcell j (by rw [List.length_map]; omega)]
      have := hrep j (.str (B s)) 0 (.str (B s)) (by rw [List.getElem?_map, hs]; rfl) rfl
      rw [Nat.mul_one, Nat.add_zero] at this
      rw [str_inv this]) (hS.zlt _ hz) (by rw [List.length_map]; exact hN) (by rw [List.length_map] at hc ⊢; exact hc) (by rw [hmap]; simpa [B] using hl)
    rw [List.length_map] at this ⊢
    refine this.mono (fun e w' he => ?_)
    obtain ⟨rfl, hb⟩ := he
    obtain ⟨hE, hS'⟩ := sim_below hS hb
    refine ⟨_, _, H, g, rfl, h, hE, hS', ?_⟩
    rw [hmap]
    have : (B sep).data.toList = sep := by simp [B]
    rw [this]
    exact .str _
end YtfiihgaohihppaaDoor.AL
end Go.Proofs

