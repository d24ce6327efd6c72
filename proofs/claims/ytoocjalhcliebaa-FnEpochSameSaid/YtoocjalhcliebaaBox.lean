/-
  A block that holds a struct, and drawn secrets with their public keys.
  No condition.
-/
import Derived.Test.YtoocjalhcliebaaPkt
import Derived.Test.YtoocjalhcliebaaBaseH
import Derived.Test.YtoocjalhcliebaaDrawQ
namespace Go.Proofs.Ytoocjalhcliebaa
open Go Go.RowKit

/-- Block g holds the cells cs. -/
def BoxAt (w : World) (g : Nat) (cs : Array Value) (T : TypeId) : Prop := w.heap[g]? = some (.cells cs T)
section
variable {w w' : World} {g lo hi : Nat} {cs : Array Value} {T : TypeId}
theorem BoxAt.hi_le (h : BoxAt w g cs T) : g < w.heap.size := rd_lt h
theorem BoxAt.below {B : Nat} (h : BoxAt w g cs T) (hb : Below B w w') (hB : g < B) : BoxAt w' g cs T := (hb.block g hB).trans h
theorem BoxAt.grown {row : Option Nat} (h : BoxAt w g cs T) (hg : w.grownBy w' row) (hr : ∀ k, row = some k → g < k ∨ k < g) : BoxAt w' g cs T :=
  (hg.block g h.hi_le (fun e => by have := hr g e.symm; omega)).trans h
theorem BoxAt.only (h : BoxAt w g cs T) (ho : Only lo hi w w') (hd : g < lo ∨ hi ≤ g) : BoxAt w' g cs T := (ho.block g h.hi_le hd).trans h
theorem BoxAt.alloc (h : BoxAt w g cs T) (o : Obj) : BoxAt (w.alloc o) g cs T := (heap_alloc_old w o h.hi_le).trans h
theorem BoxAt.drew (h : BoxAt w g cs T) : BoxAt w.drew g cs T := h
theorem BoxAt.drewN (h : BoxAt w g cs T) (n : Nat) : BoxAt (w.drewN n) g cs T := h
theorem BoxAt.new (w : World) (cs : Array Value) (T : TypeId) : BoxAt (w.alloc (.cells cs T)) w.heap.size cs T := heap_alloc_new w _
theorem BoxAt.cell (h : BoxAt w g cs T) (i : Nat) : w.cell? ⟨g, i, none⟩ = cs[i]? := cell_of_row w g i _ T (0, 0) h
theorem BoxAt.frozen (h : BoxAt w g cs T) (i : Nat) : w.frozen? ⟨g, i, none⟩ = false := rd_frozen h i
theorem BoxAt.three {a b c : Value} (h : BoxAt w g #[a, b, c] T) : w.cell? ⟨g, 0, none⟩ = some a ∧ w.cell? ⟨g, 1, none⟩ = some b ∧ w.cell? ⟨g, 2, none⟩ = some c := ⟨h.cell 0, h.cell 1, h.cell 2⟩
theorem BoxAt.four {a b c d : Value} (h : BoxAt w g #[a, b, c, d] T) : w.cell? ⟨g, 0, none⟩ = some a ∧ w.cell? ⟨g, 1, none⟩ = some b ∧ w.cell? ⟨g, 2, none⟩ = some c ∧ w.cell? ⟨g, 3, none⟩ = some d :=
  ⟨h.cell 0, h.cell 1, h.cell 2, h.cell 3⟩
theorem BoxAt.six {a b c d e f : Value} (h : BoxAt w g #[a, b, c, d, e, f] T) : w.cell? ⟨g, 0, none⟩ = some a ∧ w.cell? ⟨g, 1, none⟩ = some b ∧ w.cell? ⟨g, 2, none⟩ = some c ∧ w.cell? ⟨g, 3, none⟩ = some d ∧ w.cell? ⟨g, 4, none⟩ = some e ∧ w.cell? ⟨g, 5, none⟩ = some f :=
  ⟨h.cell 0, h.cell 1, h.cell 2, h.cell 3, h.cell 4, h.cell 5⟩
theorem alloc_size (w : World) (o : Obj) : (w.alloc o).heap.size ≤ w.heap.size + 1 ∧ w.heap.size + 1 ≤ (w.alloc o).heap.size := by simp
end

/-- Drawn secrets and their public keys. -/
def SecPost (n : Nat) (w : World) (e : Ending) (w' : World) : Prop :=
  ∃ A c A2 c2 ss, e = .returned (.tuple #[.slice A n c, .slice A2 n c2]) ∧ (∀ a ∈ ss, elB a = true) ∧ TwoO w' w.heap.size w'.heap.size ss (ss.map (mulP · 5)) A n c A2 n c2 ∧ Below w.heap.size w w'
def SecTo (N : Nat) (w : World) (v1 v2 i : Value) (wr : World) : Prop :=
  ∃ (k : Nat) (ss : List Int), k ≤ N ∧ i = .int .i64 (k : Int) ∧ (∀ a ∈ ss, elB a = true) ∧ wr.ownsRow w.heap.size 3 1 v1 k (ints ss) ∧ wr.ownsRow w.heap.size 3 1 v2 k (ints (ss.map (mulP · 5))) ∧ (∀ b, v1.ownBlock = some b → v2.ownBlock ≠ some b) ∧ Below w.heap.size w wr
end Go.Proofs.Ytoocjalhcliebaa
