/-
  Mixes as plain functions, and what the statements on packets and mixes say of them.
  No condition.
-/
import Derived.Test.YtbkecimhbibnjaaPureF
namespace Go.Proofs.Ytbkecimhbibnjaa

def okPeelB (x : Peel) : Bool := kindB x.kind && nameB x.next && validB x.p
def hasB (xs : List Int) (n : Int) : Bool := xs.any fun x => decide (x = n)
def seenAt (xs : List Int) (j : Nat) : Bool := elB (xs.getD j 0) && !(hasB (xs.take j) (xs.getD j 0))
def seenB (xs : List Int) : Bool := (List.range xs.length).all (seenAt xs)
def mixB (m : MixD) : Bool := elB m.secret && decide (m.seen.length ≤ 12) && decide (m.pool.length ≤ 5) && seenB m.seen && m.pool.all okPeelB
def epochB (m : MixD) (s : Int) : Bool := mixB m && elB s && decide (s ≠ m.secret)
def epochP (m : MixD) (s : Int) : MixD := if mixB m = true ∧ elB s = true then (if s = m.secret then m else ⟨s, [], m.pool⟩) else zeroMix

theorem hasB_iff {xs : List Int} {n : Int} : hasB xs n = true ↔ n ∈ xs := by
  simp only [hasB, List.any_eq_true, decide_eq_true_eq]
  exact ⟨fun ⟨x, h, e⟩ => e ▸ h, fun h => ⟨n, h, rfl⟩⟩
/-- The first k numbers are keys, each seen once. -/
def SeenTo (xs : List Int) (k : Nat) : Prop := ∀ j, j < k → seenAt xs j = true
theorem SeenTo.zero (xs : List Int) : SeenTo xs 0 := fun j hj => by omega
theorem SeenTo.next {xs : List Int} {k : Nat} (h : SeenTo xs k) (hk : seenAt xs k = true) : SeenTo xs (k + 1) := fun j hj => by
  by_cases e : j = k
  · subst e; exact hk
  · exact h j (by omega)
theorem SeenTo.all {xs : List Int} {n : Nat} (h : SeenTo xs n) (hn : xs.length = n) : seenB xs = true := by
  simp only [seenB, List.all_eq_true, List.mem_range]
  intro j hj
  exact h j (by omega)
theorem seenB_no {xs : List Int} {k : Nat} (hk : k < xs.length) (h : seenAt xs k = false) : seenB xs = false := by
  cases g : seenB xs with
  | false => rfl
  | true =>
    simp only [seenB, List.all_eq_true, List.mem_range] at g
    have := g k hk
    rw [h] at this; cases this
theorem mixB_iff {m : MixD} : mixB m = true ↔ elB m.secret = true ∧ m.seen.length ≤ 12 ∧ m.pool.length ≤ 5 ∧ seenB m.seen = true ∧ ∀ x ∈ m.pool, okPeelB x = true := by
  simp [mixB, List.all_eq_true, and_assoc]
theorem epoch_valid {m : MixD} {s : Int} (h : mixB m = true) (hs : elB s = true) : mixB ⟨s, [], m.pool⟩ = true := by
  obtain ⟨h1, h2, h3, h4, h5⟩ := mixB_iff.1 h
  exact mixB_iff.2 ⟨hs, by simp, h3, by rfl, h5⟩
theorem peel_ok {s : Int} {p : Pkt} (h : peelB s p = true) : okPeelB (peelL s p) = true := by
  have hv := peelL_valid h
  obtain ⟨_, _, _, h4, h5⟩ := peelB_iff.1 h
  simp only [okPeelB, Bool.and_eq_true]
  exact ⟨⟨h4, h5⟩, hv⟩
end Go.Proofs.Ytbkecimhbibnjaa
