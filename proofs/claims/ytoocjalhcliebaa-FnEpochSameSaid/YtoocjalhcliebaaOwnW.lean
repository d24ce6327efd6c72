/-
  Words for rows of the call's own.
  No condition.
-/
import Derived.Test.YtoocjalhcliebaaMixC
namespace Go.Proofs.Ytoocjalhcliebaa
open Go Go.RowKit

section
variable {w w' : World} {B n : Nat} {v : Value}
theorem owns_kept {T : TypeId} {k : Nat} {xs : List Value} (h : w.ownsRow B T k v n xs) (hk : ∀ g, v.ownBlock = some g → w'.heap[g]? = w.heap[g]?) : w'.ownsRow B T k v n xs := by
  refine ⟨h.1, ?_⟩
  rcases h.2 with h | ⟨g, cap, cur, e, hb, hg, rest⟩
  · exact .inl h
  · exact .inr ⟨g, cap, cur, e, hb, (hk g (by rw [e]; rfl)).trans hg, rest⟩
theorem owns_base {T : TypeId} {k B' : Nat} {xs : List Value} (h : w.ownsRow B T k v n xs) (hB : B' ≤ B) : w.ownsRow B' T k v n xs := by
  refine ⟨h.1, ?_⟩
  rcases h.2 with h | ⟨g, cap, cur, e, hb, rest⟩
  · exact .inl h
  · exact .inr ⟨g, cap, cur, e, Nat.le_trans hB hb, rest⟩
end
theorem own_shapeK {w : World} {base k : Nat} {T : TypeId} {v : Value} {n : Nat} {xs : List Value} (h : w.ownsRow base T k v n xs) : ∃ A c, v = .slice A n c := by
  rcases h.2 with ⟨rfl, rfl⟩ | ⟨g, cap, cur, rfl, _⟩
  · exact ⟨none, 0, rfl⟩
  · exact ⟨_, _, rfl⟩
end Go.Proofs.Ytoocjalhcliebaa
