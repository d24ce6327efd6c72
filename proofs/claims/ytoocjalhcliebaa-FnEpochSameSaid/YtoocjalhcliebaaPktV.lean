/-
  Contracts of the functions that copy and measure packets that came in.
  Conditions: the packet's slices read as lists of whole numbers.
-/
import Derived.Test.YtoocjalhcliebaaBox
namespace Go.Proofs.Ytoocjalhcliebaa
open Go Go.RowKit

theorem BoxAt.set {w : World} {g : Nat} {cs : Array Value} {T : TypeId} (hu : BoxAt w g cs T) (i : Nat) (x : Value) : BoxAt (w.setCell ⟨g, i, none⟩ x) g (cs.setIfInBounds i x) T := by
  unfold BoxAt at hu ⊢
  simp [World.setCell, Array.getElem?_modify, hu]
theorem BoxAt.other {w : World} {g : Nat} {cs : Array Value} {T : TypeId} (hu : BoxAt w g cs T) {p : Addr} (hp : p.block ≠ g) (x : Value) : BoxAt (w.setCell p x) g cs T := by
  unfold BoxAt at hu ⊢
  simp [World.setCell, Array.getElem?_modify, hu, hp]
/-- A call that returns a packet in new memory. -/
def NewPk (e t : Int) (h b : List Int) (w : World) (en : Ending) (w' : World) : Prop :=
  ∃ A n c A2 n2 c2, en = .returned (.agg #[.int .i64 e, .slice A n c, .int .i64 t, .slice A2 n2 c2]) ∧ TwoO w' w.heap.size w'.heap.size h b A n c A2 n2 c2 ∧ Below w.heap.size w w'
end Go.Proofs.Ytoocjalhcliebaa
