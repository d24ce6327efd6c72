/-
  Masks, tags and letters as plain functions on lists, and what the statements say of them.
  No condition.
-/
import Derived.Test.YtbkecimhbibnjaaPure
namespace Go.Proofs.Ytbkecimhbibnjaa

def listB (xs : List Int) : Bool := decide (xs.length ≤ 24) && xs.all numB
def strm (k : Int) (i : Nat) : Int := (k * ((i : Int) + 2) + 11 * (i : Int) * (i : Int) + 5) % 991
def onL (xs : List Int) (k : Int) : List Int := xs.mapIdx fun i x => (x + strm k i) % 991
def offL (xs : List Int) (k : Int) : List Int := xs.mapIdx fun i x => (x + 991 - strm k i) % 991
def onP (xs : List Int) (k : Int) : List Int := if listB xs = true ∧ elB k = true then onL xs k else []
def offP (xs : List Int) (k : Int) : List Int := if listB xs = true ∧ elB k = true then offL xs k else []
def strL (k : Int) (n : Nat) : List Int := (List.range n).map (strm k)
def strP (k n : Int) : List Int := if elB k = true ∧ 0 ≤ n ∧ n ≤ 24 then strL k n.toNat else []
def tagF (t : Int) (xs : List Int) : Int := xs.foldl (fun t x => (613 * t + x + 1) % 991) t
def tag0 (k : Int) (n : Nat) : Int := (3 * k + 41 * (n : Int) + 1) % 991
def tagL (k : Int) (xs : List Int) : Int := tagF (tag0 k xs.length) xs
def tagP (k : Int) (xs : List Int) : Int := if elB k = true ∧ listB xs = true then tagL k xs else -1
def checkP (k : Int) (xs : List Int) (t : Int) : Bool := decide (0 ≤ t) && decide (t = tagP k xs)
def bodyL (xs : List Int) : List Int := ((xs.length : Int) :: xs) ++ List.replicate (4 - xs.length) 0
def packL (xs : List Int) : List Int := bodyL xs ++ [tagL 1 (bodyL xs)]
def packB (xs : List Int) : Bool := listB xs && decide (xs.length ≤ 4)
def packP (xs : List Int) : List Int := if packB xs = true then packL xs else []
def letterL (b : List Int) : List Int := (b.drop 1).take (b.getD 0 0).toNat
def openB (b : List Int) : Bool := listB b && decide (b.length = 6) && decide (b.getD 0 0 ≤ 4) && decide (packL (letterL b) = b)
def openP (b : List Int) : List Int := if openB b = true then letterL b else []

theorem listB_iff {xs : List Int} : listB xs = true ↔ xs.length ≤ 24 ∧ ∀ x ∈ xs, 0 ≤ x ∧ x ≤ 990 := by
  simp [listB, List.all_eq_true, numB]
theorem strm_bd (k : Int) (i : Nat) : 0 ≤ strm k i ∧ strm k i ≤ 990 := by unfold strm; omega
theorem getD_mem {xs : List Int} {i : Nat} (h : i < xs.length) : xs.getD i 0 ∈ xs := by
  rw [List.getD_eq_getElem?_getD, List.getElem?_eq_getElem h]; exact List.getElem_mem h
theorem listB_at {xs : List Int} (h : listB xs = true) {i : Nat} (hi : i < xs.length) : 0 ≤ xs.getD i 0 ∧ xs.getD i 0 ≤ 990 := (listB_iff.1 h).2 _ (getD_mem hi)

theorem onL_len (xs : List Int) (k : Int) : (onL xs k).length = xs.length := by simp [onL]
theorem offL_len (xs : List Int) (k : Int) : (offL xs k).length = xs.length := by simp [offL]
theorem onL_at (xs : List Int) (k : Int) (i : Nat) (h : i < xs.length) : (onL xs k).getD i 0 = (xs.getD i 0 + strm k i) % 991 := by simp [onL, h]
theorem offL_at (xs : List Int) (k : Int) (i : Nat) (h : i < xs.length) : (offL xs k).getD i 0 = (xs.getD i 0 + 991 - strm k i) % 991 := by simp [offL, h]
theorem ext_getD {a b : List Int} (hl : a.length = b.length) (h : ∀ i, i < a.length → a.getD i 0 = b.getD i 0) : a = b := by
  apply List.ext_getElem hl
  intro i h1 h2
  have := h i h1
  simpa [List.getD_eq_getElem?_getD, h1, h2] using this
theorem take_at {a : List Int} {i : Nat} (h : i < a.length) : a.take (i + 1) = a.take i ++ [a.getD i 0] := by
  rw [List.take_succ_eq_append_getElem h]; simp [List.getD_eq_getElem?_getD, h]
theorem onL_listB {xs : List Int} (h : xs.length ≤ 24) (k : Int) : listB (onL xs k) = true := by
  rw [listB_iff]
  refine ⟨by rw [onL_len]; exact h, fun x hx => ?_⟩
  simp only [onL, List.mem_mapIdx] at hx
  obtain ⟨i, hi, rfl⟩ := hx
  omega
theorem offL_listB {xs : List Int} (h : xs.length ≤ 24) (k : Int) : listB (offL xs k) = true := by
  rw [listB_iff]
  refine ⟨by rw [offL_len]; exact h, fun x hx => ?_⟩
  simp only [offL, List.mem_mapIdx] at hx
  obtain ⟨i, hi, rfl⟩ := hx
  omega
theorem off_on {xs : List Int} (h : listB xs = true) (k : Int) : offL (onL xs k) k = xs := by
  apply ext_getD (by simp [offL_len, onL_len])
  intro i hi
  simp only [offL_len, onL_len] at hi
  rw [offL_at _ _ _ (by simpa [onL_len] using hi), onL_at _ _ _ hi]
  have := listB_at h hi
  have := strm_bd k i
  omega
theorem on_off {xs : List Int} (h : listB xs = true) (k : Int) : onL (offL xs k) k = xs := by
  apply ext_getD (by simp [offL_len, onL_len])
  intro i hi
  simp only [offL_len, onL_len] at hi
  rw [onL_at _ _ _ (by simpa [offL_len] using hi), offL_at _ _ _ hi]
  have := listB_at h hi
  have := strm_bd k i
  omega
theorem on_on (xs : List Int) (k j : Int) : onL (onL xs k) j = onL (onL xs j) k := by
  apply ext_getD (by simp [onL_len])
  intro i hi
  simp only [onL_len] at hi
  rw [onL_at _ _ _ (by simpa [onL_len] using hi), onL_at _ _ _ hi, onL_at _ _ _ (by simpa [onL_len] using hi), onL_at _ _ _ hi]
  omega
theorem off_off (xs : List Int) (k j : Int) : offL (offL xs k) j = offL (offL xs j) k := by
  apply ext_getD (by simp [offL_len])
  intro i hi
  simp only [offL_len] at hi
  rw [offL_at _ _ _ (by simpa [offL_len] using hi), offL_at _ _ _ hi, offL_at _ _ _ (by simpa [offL_len] using hi), offL_at _ _ _ hi]
  omega
theorem strL_len (k : Int) (n : Nat) : (strL k n).length = n := by simp [strL]
theorem strL_at (k : Int) {n i : Nat} (h : i < n) : (strL k n).getD i 0 = strm k i := by simp [strL, h]
theorem strL_zero (k : Int) (n : Nat) : onL (List.replicate n 0) k = strL k n := by
  apply ext_getD (by simp [onL_len, strL_len])
  intro i hi
  simp only [onL_len, List.length_replicate] at hi
  rw [onL_at _ _ _ (by simpa using hi), strL_at _ hi]
  have := strm_bd k i
  simp [List.getD_eq_getElem?_getD, hi]
  omega
theorem strL_take (k : Int) (n j : Nat) (h : j ≤ n) : strL k j = (strL k n).take j := by
  simp [strL, ← List.map_take, List.take_range, Nat.min_eq_left h]
theorem strL_listB (k : Int) {n : Nat} (h : n ≤ 24) : listB (strL k n) = true := by
  rw [← strL_zero]; exact onL_listB (by simpa using h) k
theorem zeros_listB {n : Nat} (h : n ≤ 24) : listB (List.replicate n 0) = true := by
  rw [listB_iff]; refine ⟨by simpa using h, fun x hx => ?_⟩
  rw [List.mem_replicate] at hx; omega

theorem tagF_bd {t : Int} (h : 0 ≤ t ∧ t ≤ 990) (xs : List Int) : 0 ≤ tagF t xs ∧ tagF t xs ≤ 990 := by
  induction xs generalizing t with
  | nil => exact h
  | cons x r ih => simp only [tagF, List.foldl_cons]; exact ih (by omega)
theorem tag0_bd (k : Int) (n : Nat) : 0 ≤ tag0 k n ∧ tag0 k n ≤ 990 := by unfold tag0; omega
theorem tagL_bd (k : Int) (xs : List Int) : 0 ≤ tagL k xs ∧ tagL k xs ≤ 990 := tagF_bd (tag0_bd _ _) _
theorem tagF_append (t : Int) (xs ys : List Int) : tagF t (xs ++ ys) = tagF (tagF t xs) ys := by simp [tagF]
theorem tagF_snoc (t : Int) (xs : List Int) (x : Int) : tagF t (xs ++ [x]) = (613 * tagF t xs + x + 1) % 991 := by simp [tagF]
/-- 613 can be divided out: 991 is a prime. -/
theorem tagF_inj {s t : Int} (hs : 0 ≤ s ∧ s ≤ 990) (ht : 0 ≤ t ∧ t ≤ 990) (hne : s ≠ t) (xs : List Int) : tagF s xs ≠ tagF t xs := by
  induction xs generalizing s t with
  | nil => exact hne
  | cons x r ih => simp only [tagF, List.foldl_cons]; exact ih (by omega) (by omega) (by omega)
theorem tagL_set {xs : List Int} (k : Int) {j : Nat} (hj : j < xs.length) {y : Int} (hx : 0 ≤ xs.getD j 0 ∧ xs.getD j 0 ≤ 990) (hy : 0 ≤ y ∧ y ≤ 990) (hne : y ≠ xs.getD j 0) : tagL k (xs.set j y) ≠ tagL k xs := by
  have e1 : xs = xs.take j ++ xs.getD j 0 :: xs.drop (j + 1) := by
    rw [List.getD_eq_getElem?_getD, List.getElem?_eq_getElem hj]
    simp
  have e2 : xs.set j y = xs.take j ++ y :: xs.drop (j + 1) := List.set_eq_take_append_cons_drop .. |>.trans (by simp [hj])
  unfold tagL
  rw [List.length_set]
  generalize tag0 k xs.length = t0 at *
  have b := fun t => (tagF_bd (t := (613 * tagF t0 (xs.take j) + t + 1) % 991) (by omega) [])
  rw [e2]
  conv => rhs; rw [e1]
  rw [tagF_append, tagF_append]
  simp only [tagF, List.foldl_cons]
  exact tagF_inj (by omega) (by omega) (by omega) _
end Go.Proofs.Ytbkecimhbibnjaa
