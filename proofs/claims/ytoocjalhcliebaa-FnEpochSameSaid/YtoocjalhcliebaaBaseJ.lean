/-
  Words and contracts, joined: ExactB, ExactC.
  No condition.
-/
import Derived.Test.YtoocjalhcliebaaBaseD
import Derived.Test.YtoocjalhcliebaaBaseE
namespace Go.Proofs.Ytoocjalhcliebaa
section
open Go Go.RowKit

theorem OwnR.block {T : TypeId} {w : World} {lo hi n c : Nat} {A : Option Addr} {xs : List Int} (h : OwnR T w lo hi A n c xs) {g : Nat} (hg : Value.ownBlock (.slice A n c) = some g) : lo ≤ g ∧ g < hi := by
  refine ⟨(h.1.lt g hg).1, ?_⟩
  cases A with
  | none => simp [Value.ownBlock] at hg
  | some a =>
    simp [Value.ownBlock] at hg
    subst hg
    exact h.2.2 a rfl
theorem onP_len (xs : List Int) (k : Int) : (onP xs k).length ≤ 24 := by
  unfold onP
  split
  · rename_i h; rw [onL_len]; exact (listB_iff.1 h.1).1
  · simp
theorem offP_len (xs : List Int) (k : Int) : (offP xs k).length ≤ 24 := by
  unfold offP
  split
  · rename_i h; rw [offL_len]; exact (listB_iff.1 h.1).1
  · simp
theorem strP_len (k n : Int) : (strP k n).length ≤ 24 := by
  unfold strP
  split
  · rename_i h; rw [strL_len]; omega
  · simp
end
section
open Go Go.RowKit

theorem packP_len (xs : List Int) : (packP xs).length ≤ 6 := by
  unfold packP
  split
  · rename_i h; rw [packL_len (packB_iff.1 h).2]; exact Nat.le_refl _
  · simp
theorem openP_len (xs : List Int) : (openP xs).length ≤ 4 := by
  unfold openP
  split
  · rename_i h
    obtain ⟨h1, h2, h3, _⟩ := openB_iff.1 h
    exact (packB_iff.1 (letterL_packB h1 h2 h3)).2
  · simp

end
end Go.Proofs.Ytoocjalhcliebaa
