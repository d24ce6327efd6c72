/-
  Letters, paths, headers and packets as plain functions on lists.
  No condition.
-/
import Derived.Test.YtbkecimhbibnjaaPureB
namespace Go.Proofs.Ytbkecimhbibnjaa

theorem numB_all {xs : List Int} : xs.all numB = true ↔ ∀ x ∈ xs, 0 ≤ x ∧ x ≤ 990 := by simp [List.all_eq_true, numB]
theorem bodyL_len {xs : List Int} (h : xs.length ≤ 4) : (bodyL xs).length = 5 := by simp [bodyL]; omega
theorem packL_len {xs : List Int} (h : xs.length ≤ 4) : (packL xs).length = 6 := by simp [packL, bodyL_len h]
theorem packB_iff {xs : List Int} : packB xs = true ↔ listB xs = true ∧ xs.length ≤ 4 := by simp [packB]
theorem mem_bodyL {xs : List Int} (h : packB xs = true) : ∀ x ∈ bodyL xs, 0 ≤ x ∧ x ≤ 990 := by
  obtain ⟨h1, h2⟩ := packB_iff.1 h
  intro x hx
  simp only [bodyL, List.cons_append, List.mem_cons, List.mem_append, List.mem_replicate] at hx
  rcases hx with rfl | hx | ⟨_, rfl⟩
  · omega
  · exact (listB_iff.1 h1).2 x hx
  · omega
theorem packL_listB {xs : List Int} (h : packB xs = true) : listB (packL xs) = true := by
  rw [listB_iff]
  refine ⟨by rw [packL_len (packB_iff.1 h).2]; omega, fun x hx => ?_⟩
  simp only [packL, List.mem_append, List.mem_singleton] at hx
  rcases hx with hx | rfl
  · exact mem_bodyL h x hx
  · exact tagL_bd _ _
theorem letterL_packL (xs : List Int) : letterL (packL xs) = xs := by
  simp [letterL, packL, bodyL]
theorem openB_packL {xs : List Int} (h : packB xs = true) : openB (packL xs) = true := by
  obtain ⟨h1, h2⟩ := packB_iff.1 h
  have h0 : (packL xs).getD 0 0 = xs.length := by simp [packL, bodyL]
  simp only [openB, letterL_packL, packL_listB h, packL_len h2, h0]
  simp; omega
theorem openP_packL {xs : List Int} (h : packB xs = true) : openP (packL xs) = xs := by
  rw [openP, if_pos (openB_packL h), letterL_packL]
theorem openB_iff {b : List Int} : openB b = true ↔ listB b = true ∧ b.length = 6 ∧ b.getD 0 0 ≤ 4 ∧ packL (letterL b) = b := by simp [openB, and_assoc]
theorem letterL_packB {b : List Int} (h : listB b = true) (hl : b.length = 6) (h4 : b.getD 0 0 ≤ 4) : packB (letterL b) = true := by
  rw [packB_iff, listB_iff]
  have h0 := (listB_at h (i := 0) (by omega)).1
  have hl' : (letterL b).length ≤ 4 := by simp only [letterL, List.length_take]; omega
  refine ⟨⟨Nat.le_trans hl' (by omega), fun x hx => ?_⟩, hl'⟩
  exact (listB_iff.1 h).2 x (List.mem_of_mem_drop (List.mem_of_mem_take hx))
/-- The reference's test of a body: the tag is right, and zeros fill it. -/
theorem openB_zeros {b : List Int} (hl : b.length = 6) (h : listB b = true) (h4 : b.getD 0 0 ≤ 4) :
    packL (letterL b) = b ↔ tagL 1 (b.take 5) = b.getD 5 0 ∧ ∀ i, (b.getD 0 0).toNat < i → i < 5 → b.getD i 0 = 0 := by
  have h0 := (listB_at h (i := 0) (by omega)).1
  match b, hl with
  | [n, a1, a2, a3, a4, t], _ =>
    simp only [List.getD_cons_zero] at h0 h4
    have hn : n = 0 ∨ n = 1 ∨ n = 2 ∨ n = 3 ∨ n = 4 := by omega
    have key : ∀ (P : Nat → Prop), (∀ i, n.toNat < i → i < 5 → P i) ↔ ((n.toNat < 1 → P 1) ∧ (n.toNat < 2 → P 2) ∧ (n.toNat < 3 → P 3) ∧ (n.toNat < 4 → P 4)) := by
      intro P
      constructor
      · intro hp; exact ⟨fun g => hp 1 g (by omega), fun g => hp 2 g (by omega), fun g => hp 3 g (by omega), fun g => hp 4 g (by omega)⟩
      · rintro ⟨p1, p2, p3, p4⟩ i hi h5
        have : i = 1 ∨ i = 2 ∨ i = 3 ∨ i = 4 := by omega
        rcases this with rfl | rfl | rfl | rfl
        · exact p1 hi
        · exact p2 hi
        · exact p3 hi
        · exact p4 hi
    simp only [List.getD_cons_zero]
    rw [key]
    clear h key
    rcases hn with rfl | rfl | rfl | rfl | rfl <;> simp [letterL, packL, bodyL, List.replicate] <;> constructor
    · rintro ⟨rfl, rfl, rfl, rfl, h⟩; exact ⟨h, rfl, rfl, rfl, rfl⟩
    · rintro ⟨h, rfl, rfl, rfl, rfl⟩; exact ⟨rfl, rfl, rfl, rfl, h⟩
    · rintro ⟨rfl, rfl, rfl, h⟩; exact ⟨h, rfl, rfl, rfl⟩
    · rintro ⟨h, rfl, rfl, rfl⟩; exact ⟨rfl, rfl, rfl, h⟩
    · rintro ⟨rfl, rfl, h⟩; exact ⟨h, rfl, rfl⟩
    · rintro ⟨h, rfl, rfl⟩; exact ⟨rfl, rfl, h⟩
    · rintro ⟨rfl, h⟩; exact ⟨h, rfl⟩
    · rintro ⟨h, rfl⟩; exact ⟨rfl, h⟩
end Go.Proofs.Ytbkecimhbibnjaa
