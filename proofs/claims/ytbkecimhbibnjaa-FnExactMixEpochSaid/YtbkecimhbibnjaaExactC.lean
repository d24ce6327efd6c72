/-
  The walks of the statements that the program's letters are the reference's.
  Conditions: a slice among the arguments reads as a list of whole numbers.
-/
import Derived.Test.YtbkecimhbibnjaaExactB
import Derived.Test.YtbkecimhbibnjaaLetterO
namespace Go.Proofs.Ytbkecimhbibnjaa
open Go Go.RowKit

theorem packP_len (xs : List Int) : (packP xs).length ≤ 6 := by
  unfold packP
  split
  · rename_i h; rw [packL_len (packB_iff.1 h).2]; exact Nat.le_refl _
  · simp
theorem openP_len (xs : List Int) : (openP xs).length ≤ 4 := by
  unfold openP
  split
  · rename_i h
    obtain ⟨h1, h2, h3, _⟩ := openB_iff.1 h
    exact (packB_iff.1 (letterL_packB h1 h2 h3)).2
  · simp

end Go.Proofs.Ytbkecimhbibnjaa
