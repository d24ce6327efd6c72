/-
  Words and contracts, joined: DrawB, DrawC.
  No condition.
-/
import Derived.Test.YtoocjalhcliebaaBaseB
import Derived.Test.YtoocjalhcliebaaBaseE
namespace Go.Proofs.Ytoocjalhcliebaa
section
open Go Go.RowKit

/-- A reader stays good while a slice of the call's own grows. -/
theorem RdOk.after_append {w w1 : World} {g m B : Nat} {v : Value} {o : Obj} {T : TypeId} {n : Nat} {xs : List Value} (h : RdOk w g m) (hg : (w.alloc o).grownBy w1 v.ownBlock) (hown : w.ownsRow B T 1 v n xs) (hB : g < B) : RdOk w1 g m :=
  (h.below ((Below.refl w.heap.size w).alloc (Nat.le_refl _) o) h.lt).grown hg fun k hk => by have := (hown.lt k hk).1; omega

theorem grown_append {w wa w1 : World} {g : Nat} {v : Value} {o : Obj} {T : TypeId} {n : Nat} {xs : List Value} (h : w.grownBy wa (some g)) (hg : (wa.alloc o).grownBy w1 v.ownBlock) (hown : wa.ownsRow w.heap.size T 1 v n xs) : w.grownBy w1 (some g) := by
  have hs := h.size
  exact ⟨hg.os.trans h.os, hg.tape.trans h.tape, hg.output.trans h.output, Nat.le_trans h.size (Nat.le_trans (by simp) hg.size), fun j hj hne =>
    (hg.block j (by simp; omega) (fun e => by have := (hown.lt j e.symm).1; omega)).trans ((Below.heap_alloc _ _ _ (by omega)).trans (h.block j hj hne))⟩

/-- What a drawn list leaves: a new slice, the reader further on, nothing else touched. -/
def ListPost (g m : Nat) (w : World) (e : Ending) (w' : World) : Prop :=
  ∃ A n c xs, e = .returned (.slice A n c) ∧ OwnR 3 w' w.heap.size w'.heap.size A n c xs ∧ n ≤ 26 ∧ RdOk w' g m ∧ w.grownBy w' (some g)
/-- The list drawn so far. -/
def DrawnTo (g m N : Nat) (w : World) (v i : Value) (wr : World) : Prop :=
  ∃ (k : Nat) (xs : List Int), k ≤ N ∧ i = .int .i64 (k : Int) ∧ wr.ownsRow w.heap.size 3 1 v k (ints xs) ∧ RdOk wr g (m + 3 * k) ∧ w.grownBy wr (some g)

end
section
open Go Go.RowKit

/-- A drawn list and a drawn number. -/
def ListInt (w : World) (e : Ending) (w' : World) : Prop := ∃ A n c xs key, e = .returned (.tuple #[.slice A n c, .int .i64 key]) ∧ OwnR 3 w' w.heap.size w'.heap.size A n c xs ∧ n ≤ 26 ∧ Below w.heap.size w w'
def IntList (w : World) (e : Ending) (w' : World) : Prop := ∃ A n c xs key, e = .returned (.tuple #[.int .i64 key, .slice A n c]) ∧ OwnR 3 w' w.heap.size w'.heap.size A n c xs ∧ n ≤ 26 ∧ Below w.heap.size w w'
def IntListInt (w : World) (e : Ending) (w' : World) : Prop := ∃ A n c xs key t, e = .returned (.tuple #[.int .i64 key, .slice A n c, .int .i64 t]) ∧ OwnR 3 w' w.heap.size w'.heap.size A n c xs ∧ n ≤ 26 ∧ Below w.heap.size w w'
def OneList (w : World) (e : Ending) (w' : World) : Prop := ∃ A n c xs, e = .returned (.slice A n c) ∧ OwnR 3 w' w.heap.size w'.heap.size A n c xs ∧ n ≤ 26 ∧ Below w.heap.size w w'
def TwoInts (w : World) (e : Ending) (w' : World) : Prop := ∃ a b, e = .returned (.tuple #[.int .i64 a, .int .i64 b]) ∧ Below w.heap.size w w'

end
end Go.Proofs.Ytoocjalhcliebaa
