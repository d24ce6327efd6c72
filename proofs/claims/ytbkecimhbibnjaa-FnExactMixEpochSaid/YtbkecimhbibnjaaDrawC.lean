/-
  The draws of the statements on masks, tags and letters: each returns some values and touches nothing old.
  Conditions: the code reads as a list of bytes.
-/
import Derived.Test.YtbkecimhbibnjaaDrawB
namespace Go.Proofs.Ytbkecimhbibnjaa
open Go Go.RowKit

/-- A drawn list and a drawn number. -/
def ListInt (w : World) (e : Ending) (w' : World) : Prop := ∃ A n c xs key, e = .returned (.tuple #[.slice A n c, .int .i64 key]) ∧ OwnR 3 w' w.heap.size w'.heap.size A n c xs ∧ n ≤ 26 ∧ Below w.heap.size w w'
def IntList (w : World) (e : Ending) (w' : World) : Prop := ∃ A n c xs key, e = .returned (.tuple #[.int .i64 key, .slice A n c]) ∧ OwnR 3 w' w.heap.size w'.heap.size A n c xs ∧ n ≤ 26 ∧ Below w.heap.size w w'
def IntListInt (w : World) (e : Ending) (w' : World) : Prop := ∃ A n c xs key t, e = .returned (.tuple #[.int .i64 key, .slice A n c, .int .i64 t]) ∧ OwnR 3 w' w.heap.size w'.heap.size A n c xs ∧ n ≤ 26 ∧ Below w.heap.size w w'
def OneList (w : World) (e : Ending) (w' : World) : Prop := ∃ A n c xs, e = .returned (.slice A n c) ∧ OwnR 3 w' w.heap.size w'.heap.size A n c xs ∧ n ≤ 26 ∧ Below w.heap.size w w'
def TwoInts (w : World) (e : Ending) (w' : World) : Prop := ∃ a b, e = .returned (.tuple #[.int .i64 a, .int .i64 b]) ∧ Below w.heap.size w w'

end Go.Proofs.Ytbkecimhbibnjaa
