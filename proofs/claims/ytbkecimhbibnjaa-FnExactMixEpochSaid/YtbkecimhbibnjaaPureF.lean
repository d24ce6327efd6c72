/-
  What the statements on masks, tags, letters and peeled packets say, of the plain functions alone.
  No condition.
-/
import Derived.Test.YtbkecimhbibnjaaPureE
namespace Go.Proofs.Ytbkecimhbibnjaa

theorem anoP_ne {n k : Int} (_hn : 0 ≤ n ∧ n ≤ 990) (_hk : 0 ≤ k) : 0 ≤ anoP n k ∧ anoP n k ≤ 990 ∧ anoP n k ≠ n := by unfold anoP; omega
theorem set_at {xs : List Int} {j i : Nat} {y : Int} (hi : i < xs.length) : (xs.set j y).getD i 0 = if i = j then y else xs.getD i 0 := by
  simp only [List.getD_eq_getElem?_getD, List.getElem?_set]
  by_cases h : j = i
  · subst h; simp [hi]
  · rw [if_neg h, if_neg (fun e => h e.symm)]
theorem set_listB {xs : List Int} (h : listB xs = true) {j : Nat} {y : Int} (hy : 0 ≤ y ∧ y ≤ 990) : listB (xs.set j y) = true := by
  rw [listB_iff] at h ⊢
  refine ⟨by simpa using h.1, fun x hx => ?_⟩
  rcases List.mem_or_eq_of_mem_set hx with hx | rfl
  · exact h.2 x hx
  · exact hy
/-- A changed number changes its own place of the masked list, and no other. -/
theorem onL_set {xs : List Int} (h : listB xs = true) (k : Int) {j i : Nat} {y : Int} (hy : 0 ≤ y ∧ y ≤ 990) (hj : j < xs.length) (hne : y ≠ xs.getD j 0) (hi : i < xs.length) :
    (onL (xs.set j y) k).getD i 0 ≠ (onL xs k).getD i 0 ↔ i = j := by
  have a := listB_at h hi
  have b := listB_at h hj
  have s := strm_bd k i
  rw [onL_at _ _ _ (by simpa using hi), onL_at _ _ _ hi, set_at hi]
  by_cases e : i = j
  · subst e
    simp only [if_true, iff_true, ne_eq]
    omega
  · simp [e]
theorem offL_set {xs : List Int} (h : listB xs = true) (k : Int) {j i : Nat} {y : Int} (hy : 0 ≤ y ∧ y ≤ 990) (hj : j < xs.length) (hne : y ≠ xs.getD j 0) (hi : i < xs.length) :
    (offL (xs.set j y) k).getD i 0 ≠ (offL xs k).getD i 0 ↔ i = j := by
  have a := listB_at h hi
  have b := listB_at h hj
  have s := strm_bd k i
  rw [offL_at _ _ _ (by simpa using hi), offL_at _ _ _ hi, set_at hi]
  by_cases e : i = j
  · subst e
    simp only [if_true, iff_true, ne_eq]
    omega
  · simp [e]
theorem strm_other {k j : Int} (h : k % 991 ≠ j % 991) : strm k 0 ≠ strm j 0 ∧ strm k 1 ≠ strm j 1 := by unfold strm; omega
theorem checkP_iff {k t : Int} {xs : List Int} : checkP k xs t = true ↔ 0 ≤ t ∧ t = tagP k xs := by simp [checkP]
theorem tagP_eq {k : Int} {xs : List Int} (hk : elB k = true) (hx : listB xs = true) : tagP k xs = tagL k xs := by simp [tagP, hk, hx]
theorem tagP_good {k : Int} {xs : List Int} (h : 0 ≤ tagP k xs) : elB k = true ∧ listB xs = true := by
  unfold tagP at h
  by_cases g : elB k = true ∧ listB xs = true
  · exact g
  · rw [if_neg g] at h; omega
theorem tagP_bd (k : Int) (xs : List Int) : -1 ≤ tagP k xs ∧ tagP k xs ≤ 990 := by
  unfold tagP
  have := tagL_bd k xs
  split <;> omega
theorem tagL_nil (k : Int) : tagL k [] = (3 * k + 1) % 991 := by simp [tagL, tag0, tagF]
/-- A body with one number changed is no letter's. -/
theorem openB_set {xs : List Int} (h : packB xs = true) {j : Nat} {y : Int} (hj : j < 6) (hy : 0 ≤ y ∧ y ≤ 990) (hne : y ≠ (packL xs).getD j 0) : openB ((packL xs).set j y) = false := by
  cases hb : openB ((packL xs).set j y) with
  | false => rfl
  | true =>
    exfalso
    obtain ⟨h1, h2, h3, h4⟩ := openB_iff.1 hb
    have hl := packL_len (packB_iff.1 h).2
    have hlb := bodyL_len (packB_iff.1 h).2
    have t1 := ((openB_zeros h2 h1 h3).1 h4).1
    by_cases e : j = 5
    · subst e
      rw [set_at (by omega), if_pos rfl] at t1
      have : ((packL xs).set 5 y).take 5 = bodyL xs := by
        rw [List.take_set_of_le (Nat.le_refl _)]
        simp [packL, hlb]
      rw [this] at t1
      have e5 : (packL xs).getD 5 0 = tagL 1 (bodyL xs) := by
        have : (packL xs)[5]? = some (tagL 1 (bodyL xs)) := by
          rw [packL, List.getElem?_append_right (by omega), hlb]; rfl
        rw [List.getD_eq_getElem?_getD, this]; rfl
      omega
    · rw [set_at (by omega), if_neg (by omega)] at t1
      have e5 : (packL xs).getD 5 0 = tagL 1 (bodyL xs) := by
        have : (packL xs)[5]? = some (tagL 1 (bodyL xs)) := by
          rw [packL, List.getElem?_append_right (by omega), hlb]; rfl
        rw [List.getD_eq_getElem?_getD, this]; rfl
      have et : ((packL xs).set j y).take 5 = (bodyL xs).set j y := by
        rw [packL, List.set_append_left _ _ (by omega), List.take_append_of_le_length (by simp; omega), List.take_of_length_le (by simp; omega)]
      have eb : (packL xs).getD j 0 = (bodyL xs).getD j 0 := by
        rw [packL, List.getD_eq_getElem?_getD, List.getElem?_append_left (by omega), ← List.getD_eq_getElem?_getD]
      rw [et, e5] at t1
      exact tagL_set 1 (by omega) (mem_bodyL h _ (getD_mem (by omega))) hy (by rw [← eb]; exact hne) t1
theorem offL_app (xs ys : List Int) (k : Int) : (offL (xs ++ ys) k).take xs.length = offL xs k := by
  apply ext_getD (by simp [offL_len])
  intro i hi
  simp only [List.length_take, offL_len, List.length_append] at hi
  have h1 : i < xs.length := by omega
  have : ((offL (xs ++ ys) k).take xs.length).getD i 0 = (offL (xs ++ ys) k).getD i 0 := by
    simp [List.getD_eq_getElem?_getD, h1]
  rw [this, offL_at _ _ _ (by simp; omega), offL_at _ _ _ h1]
  congr 3
  simp [List.getD_eq_getElem?_getD, List.getElem?_append_left h1]
theorem plainL_len (k : Int) (h : List Int) : (plainL k h).length = h.length + 3 := by simp [plainL, offL_len]
theorem plainL_listB {h : List Int} (hl : h.length = 9) (k : Int) : listB (plainL k h) = true := offL_listB (by simp; omega) k
theorem drop_listB {xs : List Int} (h : listB xs = true) (n : Nat) : listB (xs.drop n) = true := by
  rw [listB_iff] at h ⊢
  exact ⟨by simp; omega, fun x hx => h.2 x (List.mem_of_mem_drop hx)⟩
theorem peelB_iff {s : Int} {p : Pkt} : peelB s p = true ↔ elB s = true ∧ validB p = true ∧ tagL (mulP s p.e) p.h = p.t ∧ kindB ((plainL (mulP s p.e) p.h).getD 0 0) = true ∧ nameB ((plainL (mulP s p.e) p.h).getD 1 0) = true := by
  simp [peelB, peelIn, and_assoc]
theorem peelL_valid {s : Int} {p : Pkt} (h : peelB s p = true) : validB (peelL s p).p = true := by
  obtain ⟨h1, h2, h3, h4, h5⟩ := peelB_iff.1 h
  obtain ⟨v1, v2, v3, v4, v5, v6⟩ := validB_iff.1 h2
  rw [validB_iff]
  have hk := mulP_el h1 v1
  have hp := plainL_listB v3 (mulP s p.e)
  have hl := plainL_len (mulP s p.e) p.h
  refine ⟨mulP_el v1 (facP_el hk), drop_listB hp 3, ?_, offL_listB (by omega) _, ?_, listB_at hp (by omega)⟩
  · show (List.drop 3 _).length = 9
    simp; omega
  · show (offL _ _).length = 6
    rw [offL_len, v5]
/-- A changed header, and a changed tag, are not passed on. -/
theorem peel_header {s : Int} {p : Pkt} (h : peelB s p = true) {j : Nat} {y : Int} (hj : j < 9) (hy : 0 ≤ y ∧ y ≤ 990) (hne : y ≠ p.h.getD j 0) : peelB s ⟨p.e, p.h.set j y, p.t, p.b⟩ = false := by
  cases hb : peelB s ⟨p.e, p.h.set j y, p.t, p.b⟩ with
  | false => rfl
  | true =>
    exfalso
    obtain ⟨h1, h2, h3, h4, h5⟩ := peelB_iff.1 h
    obtain ⟨g1, g2, g3, g4, g5⟩ := peelB_iff.1 hb
    obtain ⟨v1, v2, v3, v4, v5, v6⟩ := validB_iff.1 h2
    exact tagL_set (mulP s p.e) (j := j) (by omega) (listB_at v2 (by omega)) hy hne (g3.trans h3.symm)
theorem peel_tag {s : Int} {p : Pkt} (h : peelB s p = true) {y : Int} (hne : y ≠ p.t) : peelB s ⟨p.e, p.h, y, p.b⟩ = false := by
  cases hb : peelB s ⟨p.e, p.h, y, p.b⟩ with
  | false => rfl
  | true =>
    exfalso
    obtain ⟨h1, h2, h3, h4, h5⟩ := peelB_iff.1 h
    obtain ⟨g1, g2, g3, g4, g5⟩ := peelB_iff.1 hb
    exact hne (g3.symm.trans h3)
theorem peel_body {s : Int} {p : Pkt} (h : peelB s p = true) {j : Nat} {y : Int} (hy : 0 ≤ y ∧ y ≤ 990) : peelB s ⟨p.e, p.h, p.t, p.b.set j y⟩ = true := by
  obtain ⟨h1, h2, h3, h4, h5⟩ := peelB_iff.1 h
  obtain ⟨v1, v2, v3, v4, v5, v6⟩ := validB_iff.1 h2
  exact peelB_iff.2 ⟨h1, validB_iff.2 ⟨v1, v2, v3, set_listB v4 hy, by simpa using v5, v6⟩, h3, h4, h5⟩
end Go.Proofs.Ytbkecimhbibnjaa
