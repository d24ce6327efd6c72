/-
  A packet is peeled by the program.
  Conditions: the packet's slices read as lists of whole numbers.
-/
import Derived.Test.YtoocjalhcliebaaPeelW
namespace Go.Proofs.Ytoocjalhcliebaa
open Go Go.RowKit

theorem only_set6 (w : World) (rb : Nat) (x0 x1 x2 x3 x4 x5 : Value) : Only rb (rb + 1) w ((((((w.setCell ⟨rb, 0, none⟩ x0).setCell ⟨rb, 1, none⟩ x1).setCell ⟨rb, 2, none⟩ x2).setCell ⟨rb, 3, none⟩ x3).setCell ⟨rb, 4, none⟩ x4).setCell ⟨rb, 5, none⟩ x5).drew := by
  have e : ∀ (u : World) (i : Nat) (x : Value), Only rb (rb + 1) u (u.setCell ⟨rb, i, none⟩ x) := fun u i x => Only.of_grown (only_set x) (fun g hg => by injection hg with hg; omega)
  have d : ∀ u : World, Only rb (rb + 1) u u.drew := fun u => Only.of_below (Below.refl _ _).drew
  exact ((((((e _ _ _).trans (e _ _ _)).trans (e _ _ _)).trans (e _ _ _)).trans (e _ _ _)).trans (e _ _ _)).trans (d _)
theorem share8 {P N : World → Nat → Option Addr → Nat → Nat → Option Addr → Nat → Nat → Prop} {G : Prop} (h1 : (∀ a b c d e f g h, N a b c d e f g h → P a b c d e f g h) → G) (h2 : ∀ a b c d e f g h, N a b c d e f g h → P a b c d e f g h) : G := h1 h2
theorem only_d (w : World) (lo hi : Nat) : Only lo hi w w.drew := Only.of_below (Below.refl _ _).drew
theorem only_cell {w w' : World} {lo hi : Nat} {p : Addr} {v : Value} (h : Only lo hi w w') (hlt : p.block < w.heap.size) (hne : p.block < lo ∨ hi ≤ p.block) (hv : w.cell? p = some v) : w'.cell? p = some v := (World.cell?_of_block (h.block _ hlt hne)).trans hv

end Go.Proofs.Ytoocjalhcliebaa
