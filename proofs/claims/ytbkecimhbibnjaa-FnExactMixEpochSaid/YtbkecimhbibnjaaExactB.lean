/-
  The walks of the statements that the program's masks, streams and tags are the reference's.
  Conditions: a slice among the arguments reads as a list of whole numbers.
-/
import Derived.Test.YtbkecimhbibnjaaCopy
namespace Go.Proofs.Ytbkecimhbibnjaa
open Go Go.RowKit

theorem OwnR.block {T : TypeId} {w : World} {lo hi n c : Nat} {A : Option Addr} {xs : List Int} (h : OwnR T w lo hi A n c xs) {g : Nat} (hg : Value.ownBlock (.slice A n c) = some g) : lo ≤ g ∧ g < hi := by
  refine ⟨(h.1.lt g hg).1, ?_⟩
  cases A with
  | none => simp [Value.ownBlock] at hg
  | some a =>
    simp [Value.ownBlock] at hg
    subst hg
    exact h.2.2 a rfl
theorem onP_len (xs : List Int) (k : Int) : (onP xs k).length ≤ 24 := by
  unfold onP
  split
  · rename_i h; rw [onL_len]; exact (listB_iff.1 h.1).1
  · simp
theorem offP_len (xs : List Int) (k : Int) : (offP xs k).length ≤ 24 := by
  unfold offP
  split
  · rename_i h; rw [offL_len]; exact (listB_iff.1 h.1).1
  · simp
theorem strP_len (k n : Int) : (strP k n).length ≤ 24 := by
  unfold strP
  split
  · rename_i h; rw [strL_len]; omega
  · simp
theorem eqIntS_t (A : Option Addr) (n c lo hi : Nat) (xs : List Int) (A2 : Option Addr) (n2 c2 lo2 hi2 : Nat) (w : World) (hs : SlR .i64 w lo hi A n xs) (ht : SlR .i64 w lo2 hi2 A2 n2 xs) (hn : n ≤ 4194304) :
    Calls Try.prog 60 #[.slice A n c, .slice A2 n2 c2] w (Tells true w) := by
  have h := eqIntS_c A n c lo hi xs A2 n2 c2 lo2 hi2 xs w hs ht (by omega)
  rw [sameB_self] at h
  exact h

end Go.Proofs.Ytbkecimhbibnjaa
