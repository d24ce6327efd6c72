/-
  Contracts of the functions that open letters.
  Conditions: the body's slice reads as a list of whole numbers.
-/
import Derived.Test.YtbkecimhbibnjaaLetterS
namespace Go.Proofs.Ytbkecimhbibnjaa
open Go Go.RowKit

theorem openP_no {xs : List Int} (h : openB xs = false) : openP xs = [] := by simp [openP, h]
theorem openP_yes {xs : List Int} (h : openB xs = true) : openP xs = letterL xs := by simp [openP, h]
theorem NewPair.after {xs : List Int} {b : Bool} {w w1 w' : World} {e : Ending} (hb : Below w.heap.size w w1) (h : NewPair xs b w1 e w') : NewPair xs b w e w' := by
  obtain ⟨A, n, c, he, h1, h2⟩ := h
  exact ⟨A, n, c, he, h1.wider hb.size (Nat.le_refl _) (Nat.le_refl _), hb.trans (h2.mono hb.size)⟩

theorem q_left {P : Program} {f : FuncId} {args : Array Value} {w : World} {n : Nat} {v : Value} (h : Calls P f args (w.drewN n) fun e w' => e = .returned v ∧ w.drewN n = w') : Calls P f args (w.drewN n) fun e w'' => e = .returned v ∧ ∃ m, w'' = w.drewN m :=
  h.mono fun _ _ ⟨he, hm⟩ => ⟨he, n, hm.symm⟩
def ZeroTo (xs : List Int) (m k : Nat) : Prop := ∀ j, m < j → j < k → xs.getD j 0 = 0
theorem ZeroTo.next {xs : List Int} {m k : Nat} {v : Int} (h : ZeroTo xs m k) (hv : v = xs.getD k 0) (h0 : v = 0) : ZeroTo xs m (k + 1) := fun j h1 h2 => by
  by_cases e : j = k
  · subst e; rw [← hv, h0]
  · exact h j h1 (by omega)
theorem openB_all {xs : List Int} (h1 : listB xs = true) (h2 : xs.length = 6) (h3 : xs.getD 0 0 ≤ 4) (h4 : tagL 1 (xs.take 5) = xs.getD 5 0) (h5 : ZeroTo xs (xs.getD 0 0).toNat 5) : openB xs = true :=
  openB_iff.2 ⟨h1, h2, h3, (openB_zeros h2 h1 h3).2 ⟨h4, fun i hi hj => h5 i hi hj⟩⟩
theorem openB_tag {xs : List Int} (h4 : tagL 1 (xs.take 5) ≠ xs.getD 5 0) : openB xs = false := by
  cases g : openB xs with
  | false => rfl
  | true => obtain ⟨g1, g2, g3, g4⟩ := openB_iff.1 g; exact absurd ((openB_zeros g2 g1 g3).1 g4).1 h4
theorem openB_big {xs : List Int} (h4 : 4 < xs.getD 0 0) : openB xs = false := by
  cases g : openB xs with
  | false => rfl
  | true => have := (openB_iff.1 g).2.2.1; omega
theorem openB_bad {xs : List Int} {k : Nat} (h1 : (xs.getD 0 0).toNat < k) (h2 : k < 5) (h3 : xs.getD k 0 ≠ 0) : openB xs = false := by
  cases g : openB xs with
  | false => rfl
  | true => obtain ⟨g1, g2, g3, g4⟩ := openB_iff.1 g; exact absurd (((openB_zeros g2 g1 g3).1 g4).2 k h1 h2) h3

end Go.Proofs.Ytbkecimhbibnjaa
