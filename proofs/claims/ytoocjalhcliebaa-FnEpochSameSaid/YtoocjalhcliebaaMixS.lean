/-
  Contracts of the functions that measure and copy the mixes that came in.
  Conditions: the slices read as lists.
-/
import Derived.Test.YtoocjalhcliebaaPool
namespace Go.Proofs.Ytoocjalhcliebaa
open Go Go.RowKit

/-- What measuring leaves: a number; where it is not negative, all lists are short. -/
def SzPost (l n : Nat) (pl : List Peel) (w : World) (e : Ending) (w' : World) : Prop :=
  ∃ r : Int, e = .returned (.int .i64 r) ∧ -1 ≤ r ∧ r ≤ l ∧ (0 ≤ r → n ≤ l ∧ PlB l pl) ∧ Below w.heap.size w w'
/-- The lists of the first k peeled packets are no longer than N. -/
def SzTo (N k : Nat) (pl : List Peel) : Prop := ∀ j, j < k → (pl.getD j zeroPeel).p.h.length ≤ N ∧ (pl.getD j zeroPeel).p.b.length ≤ N
theorem SzTo.next {N k : Nat} {pl : List Peel} (h : SzTo N k pl) (hk : (pl.getD k zeroPeel).p.h.length ≤ N ∧ (pl.getD k zeroPeel).p.b.length ≤ N) : SzTo N (k + 1) pl := fun j hj => by
  by_cases e : j = k
  · subst e; exact hk
  · exact h j (by omega)
/-- What measuring a mix leaves. -/
def SzMix (l n n2 : Nat) (pl : List Peel) (w : World) (e : Ending) (w' : World) : Prop :=
  ∃ r : Int, e = .returned (.int .i64 r) ∧ (0 ≤ r → n ≤ l ∧ n2 ≤ l ∧ PlB l pl) ∧ Below w.heap.size w w'
end Go.Proofs.Ytoocjalhcliebaa
