/-
  The draws of the statements on paths and packets.
  Conditions: the code reads as a list of bytes.
-/
import Derived.Test.YtoocjalhcliebaaBaseI
import Derived.Test.YtoocjalhcliebaaDrawP
namespace Go.Proofs.Ytoocjalhcliebaa
open Go Go.RowKit

/-- A drawn secret, path, names, receiver and letter. -/
def MakePost (w : World) (e : Ending) (w' : World) : Prop :=
  ∃ s A n c ps A2 n2 c2 ns to A3 n3 c3 ls, e = .returned (.tuple #[.int .i64 s, .slice A n c, .slice A2 n2 c2, .int .i64 to, .slice A3 n3 c3]) ∧ OwnR 3 w' w.heap.size w'.heap.size A n c ps ∧ OwnR 3 w' w.heap.size w'.heap.size A2 n2 c2 ns ∧ OwnR 3 w' w.heap.size w'.heap.size A3 n3 c3 ls ∧ n ≤ 4 ∧ n2 ≤ 3 ∧ n3 ≤ 26 ∧ Below w.heap.size w w'

end Go.Proofs.Ytoocjalhcliebaa
