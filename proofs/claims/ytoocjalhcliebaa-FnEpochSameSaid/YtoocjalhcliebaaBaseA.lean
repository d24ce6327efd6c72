/-
  Words and contracts, joined: Mem, Pure, PureB, PureC, PureD, PureE, PureF, PureG.
  No condition.
-/
import Derived.WalkKit
import Derived.Below
import Derived.Laws.OwnMore
import Derived.OwnWalk
import Derived.Deep.Draws
namespace Go.Proofs.Ytoocjalhcliebaa
section
open Go Go.RowKit

/-- The slice '.slice A n _' reads as xs; its block lies in [lo, hi). -/
def SlR (k : IntKind) (w : World) (lo hi : Nat) (A : Option Addr) (n : Nat) (xs : List Int) : Prop :=
  xs.length = n ∧ hi ≤ w.heap.size ∧ (0 < n → ∃ b o, A = some ⟨b, o, none⟩ ∧ lo ≤ b ∧ b < hi ∧ ∀ j, j < n → w.cell? ⟨b, o + j, none⟩ = some (.int k (xs.getD j 0)))

section
variable {k : IntKind} {w w' : World} {lo hi n : Nat} {A : Option Addr} {xs : List Int}
theorem SlR.len (h : SlR k w lo hi A n xs) : xs.length = n := h.1
theorem SlR.hi_le (h : SlR k w lo hi A n xs) : hi ≤ w.heap.size := h.2.1
theorem SlR.nil (hh : hi ≤ w.heap.size) (A : Option Addr) : SlR k w lo hi A 0 [] := ⟨rfl, hh, fun h => absurd h (by omega)⟩
theorem SlR.keep (h : SlR k w lo hi A n xs) (hs : hi ≤ w'.heap.size) (hk : ∀ b, lo ≤ b → b < hi → w'.heap[b]? = w.heap[b]?) : SlR k w' lo hi A n xs :=
  ⟨h.1, hs, fun hn => by
    obtain ⟨b, o, e, hl, hb, hc⟩ := h.2.2 hn
    exact ⟨b, o, e, hl, hb, fun j hj => (World.cell?_of_block (a := ⟨b, o + j, none⟩) (hk b hl hb)).trans (hc j hj)⟩⟩
theorem SlR.below {B : Nat} (h : SlR k w lo hi A n xs) (hb : Below B w w') (hB : hi ≤ B) : SlR k w' lo hi A n xs :=
  h.keep (Nat.le_trans h.2.1 hb.size) fun b _ hlt => hb.block b (by omega)
theorem SlR.drew (h : SlR k w lo hi A n xs) : SlR k w.drew lo hi A n xs := h
theorem SlR.drewN (h : SlR k w lo hi A n xs) (m : Nat) : SlR k (w.drewN m) lo hi A n xs := h
theorem SlR.alloc (h : SlR k w lo hi A n xs) (o : Obj) : SlR k (w.alloc o) lo hi A n xs :=
  h.keep (by simp; have := h.2.1; omega) fun b _ hlt => Below.heap_alloc w o b (Nat.lt_of_lt_of_le hlt h.2.1)
theorem SlR.setCell (h : SlR k w lo hi A n xs) {p : Addr} (hp : p.block < lo ∨ hi ≤ p.block) (u : Value) : SlR k (w.setCell p u) lo hi A n xs :=
  h.keep (by simpa [World.setCell] using h.2.1) fun b hl hlt => Below.heap_setCell w p u b (by omega)
theorem SlR.grown {row : Option Nat} (h : SlR k w lo hi A n xs) (hg : w.grownBy w' row) (hr : ∀ g, row = some g → g < lo ∨ hi ≤ g) : SlR k w' lo hi A n xs :=
  h.keep (Nat.le_trans h.2.1 hg.size) fun b hl hlt => hg.block b (Nat.lt_of_lt_of_le hlt h.2.1) (fun e => by have := hr b e.symm; omega)
theorem SlR.wider {lo' hi' : Nat} (h : SlR k w lo hi A n xs) (hl : lo' ≤ lo) (hh : hi ≤ hi') (hs : hi' ≤ w.heap.size) : SlR k w lo' hi' A n xs :=
  ⟨h.1, hs, fun hn => by
    obtain ⟨b, o, e, h1, h2, hc⟩ := h.2.2 hn
    exact ⟨b, o, e, by omega, by omega, hc⟩⟩
theorem SlR.at_ (h : SlR k w lo hi A n xs) (hn : 0 < n) : ∃ b o, A = some ⟨b, o, none⟩ ∧ lo ≤ b ∧ b < hi ∧ ∀ j, j < n → w.cell? ⟨b, o + j, none⟩ = some (.int k (xs.getD j 0)) := h.2.2 hn
theorem SlR.take_ (h : SlR k w lo hi A n xs) {j : Nat} (hj : j ≤ n) : SlR k w lo hi A j (xs.take j) :=
  ⟨by rw [List.length_take, h.1]; omega, h.2.1, fun hn => by
    obtain ⟨b, o, e, h1, h2, hc⟩ := h.2.2 (by omega)
    refine ⟨b, o, e, h1, h2, fun i hi => ?_⟩
    rw [hc i (by omega)]
    simp [List.getD_eq_getElem?_getD, hi]⟩
theorem SlR.drop_ (h : SlR k w lo hi A n xs) {j : Nat} (hj : j ≤ n) {A' : Option Addr} (hA : ∀ b o, A = some ⟨b, o, none⟩ → j < n → A' = some ⟨b, o + j, none⟩) : SlR k w lo hi A' (n - j) (xs.drop j) :=
  ⟨by rw [List.length_drop, h.1], h.2.1, fun hn => by
    obtain ⟨b, o, e, h1, h2, hc⟩ := h.2.2 (by omega)
    refine ⟨b, o + j, hA b o e (by omega), h1, h2, fun i hi => ?_⟩
    rw [Nat.add_assoc, hc (j + i) (by omega)]
    simp [List.getD_eq_getElem?_getD, List.getElem?_drop]⟩
theorem SlR.of_cells {x : Addr} {zs : List Int} (hl : n ≤ zs.length) (hc : ∀ i, i < zs.length → w.cell? (x.add i) = some (.int k (zs.getD i 0))) : SlR k w 0 w.heap.size (some x) n (zs.take n) := by
  refine ⟨by rw [List.length_take]; omega, Nat.le_refl _, fun hn => ?_⟩
  have h0 := hc 0 (by omega)
  have hx : x.add 0 = x := by simp [Addr.add]
  rw [hx] at h0
  have hs := World.cell?_spot h0
  have hb := World.block_lt_of_cell? w x h0
  obtain ⟨b, o, sp⟩ := x
  simp only at hs hb
  subst hs
  refine ⟨b, o, rfl, Nat.zero_le _, hb, fun j hj => ?_⟩
  have h1 := hc j (by omega)
  have h2 : Addr.add ⟨b, o, none⟩ j = ⟨b, o + j, none⟩ := by
    unfold Addr.add
    split
    · subst_vars; simp
    · rfl
  rw [h2] at h1
  rw [h1]
  simp [List.getD_eq_getElem?_getD, hj]
end

/-- The slice '.slice A n c' (elements of type T, int) is the call's own: its block lies in [lo, hi), and it holds xs. -/
def OwnR (T : TypeId) (w : World) (lo hi : Nat) (A : Option Addr) (n c : Nat) (xs : List Int) : Prop :=
  w.ownsRow lo T 1 (.slice A n c) n (xs.map (Value.int .i64)) ∧ hi ≤ w.heap.size ∧ (∀ a, A = some a → a.block < hi)

section
variable {T : TypeId} {w w' : World} {lo hi n c : Nat} {A : Option Addr} {xs : List Int}
theorem OwnR.len (h : OwnR T w lo hi A n c xs) : xs.length = n := by simpa using h.1.1
theorem OwnR.of_owns (h : w.ownsRow lo T 1 (.slice A n c) n (xs.map (Value.int .i64))) : OwnR T w lo w.heap.size A n c xs :=
  ⟨h, Nat.le_refl _, fun a ha => by subst ha; exact (h.lt a.block rfl).2⟩
theorem OwnR.keep (h : OwnR T w lo hi A n c xs) (hs : hi ≤ w'.heap.size) (hk : ∀ b, lo ≤ b → b < hi → w'.heap[b]? = w.heap[b]?) : OwnR T w' lo hi A n c xs := by
  obtain ⟨⟨h1, h2⟩, h3, h4⟩ := h
  refine ⟨⟨h1, ?_⟩, hs, h4⟩
  rcases h2 with h2 | ⟨g, cap, cur, e, hb, hg, rest⟩
  · exact .inl h2
  · refine .inr ⟨g, cap, cur, e, hb, ?_, rest⟩
    injection e with e _ _
    rw [hk g hb (h4 _ e)]; exact hg
theorem OwnR.below {B : Nat} (h : OwnR T w lo hi A n c xs) (hb : Below B w w') (hB : hi ≤ B) : OwnR T w' lo hi A n c xs :=
  h.keep (Nat.le_trans h.2.1 hb.size) fun b _ hlt => hb.block b (by omega)
theorem OwnR.drew (h : OwnR T w lo hi A n c xs) : OwnR T w.drew lo hi A n c xs := h
theorem OwnR.drewN (h : OwnR T w lo hi A n c xs) (m : Nat) : OwnR T (w.drewN m) lo hi A n c xs := h
theorem OwnR.alloc (h : OwnR T w lo hi A n c xs) (o : Obj) : OwnR T (w.alloc o) lo hi A n c xs :=
  h.keep (by simp; have := h.2.1; omega) fun b _ hlt => Below.heap_alloc w o b (Nat.lt_of_lt_of_le hlt h.2.1)
theorem OwnR.setCell (h : OwnR T w lo hi A n c xs) {p : Addr} (hp : p.block < lo ∨ hi ≤ p.block) (u : Value) : OwnR T (w.setCell p u) lo hi A n c xs :=
  h.keep (by simpa [World.setCell] using h.2.1) fun b hl hlt => Below.heap_setCell w p u b (by omega)
theorem OwnR.grown {row : Option Nat} (h : OwnR T w lo hi A n c xs) (hg : w.grownBy w' row) (hr : ∀ g, row = some g → g < lo ∨ hi ≤ g) : OwnR T w' lo hi A n c xs :=
  h.keep (Nat.le_trans h.2.1 hg.size) fun b hl hlt => hg.block b (Nat.lt_of_lt_of_le hlt h.2.1) (fun e => by have := hr b e.symm; omega)
theorem OwnR.wider {lo' hi' : Nat} (h : OwnR T w lo hi A n c xs) (hl : lo' ≤ lo) (hh : hi ≤ hi') (hs : hi' ≤ w.heap.size) : OwnR T w lo' hi' A n c xs := by
  obtain ⟨⟨h1, h2⟩, h3, h4⟩ := h
  refine ⟨⟨h1, ?_⟩, hs, fun a ha => Nat.lt_of_lt_of_le (h4 a ha) hh⟩
  rcases h2 with h2 | ⟨g, cap, cur, e, hb, rest⟩
  · exact .inl h2
  · exact .inr ⟨g, cap, cur, e, Nat.le_trans hl hb, rest⟩
theorem OwnR.read (h : OwnR T w lo hi A n c xs) : SlR .i64 w lo hi A n xs := by
  have hl := h.len
  obtain ⟨h1, h3, h4⟩ := h
  refine ⟨hl, h3, fun hn => ?_⟩
  rcases h1.2 with ⟨_, rfl⟩ | ⟨g, cap, cur, e, hb, rest⟩
  · omega
  · injection e with e1 e2 e3
    subst e1 e3
    refine ⟨g, 0, rfl, hb, h4 _ rfl, fun j hj => ?_⟩
    rw [Nat.zero_add, h1.cellAt j (by omega)]
    simp [List.getD_eq_getElem?_getD, hl, hj]
theorem OwnR.at_ (h : OwnR T w lo hi A n c xs) (hn : 0 < n) : ∃ g, A = some ⟨g, 0, none⟩ ∧ lo ≤ g ∧ g < hi ∧ (∀ j, j < n → w.cell? ⟨g, j, none⟩ = some (.int .i64 (xs.getD j 0))) ∧ ∀ j, w.frozen? ⟨g, j, none⟩ = false := by
  have hl := h.len
  obtain ⟨h1, h3, h4⟩ := h
  rcases h1.2 with ⟨_, rfl⟩ | ⟨g, cap, cur, e, hb, rest⟩
  · omega
  · injection e with e1 e2 e3
    subst e1 e3
    refine ⟨g, rfl, hb, h4 _ rfl, fun j hj => ?_, fun j => h1.frozenAt j⟩
    rw [h1.cellAt j (by omega)]
    simp [List.getD_eq_getElem?_getD, hl, hj]
theorem OwnR.nil (hh : hi ≤ w.heap.size) : OwnR T w lo hi none 0 0 [] := ⟨World.ownsRow_nil _ _ _ _, hh, fun a ha => by cases ha⟩
end
end
section
/-- An element, a secret, a factor or a key: 1 to 996. -/
def elB (n : Int) : Bool := decide (1 ≤ n) && decide (n ≤ 996)
def numB (n : Int) : Bool := decide (0 ≤ n) && decide (n ≤ 990)
def nameB (n : Int) : Bool := decide (0 ≤ n) && decide (n ≤ 7)
def mulP (a b : Int) : Int := if elB a = true ∧ elB b = true then a * b % 997 else 0
def facP (s : Int) : Int := if elB s = true then 1 + (7 * s + 3) % 996 else 0

theorem elB_iff {n : Int} : elB n = true ↔ 1 ≤ n ∧ n ≤ 996 := by simp [elB]
theorem elB_not {n : Int} : elB n = false ↔ n < 1 ∨ 996 < n := by simp [elB]; omega
theorem numB_iff {n : Int} : numB n = true ↔ 0 ≤ n ∧ n ≤ 990 := by simp [numB]
theorem nameB_iff {n : Int} : nameB n = true ↔ 0 ≤ n ∧ n ≤ 7 := by simp [nameB]

theorem mul_pos_prime {a b : Int} (ha : 1 ≤ a ∧ a ≤ 996) (hb : 1 ≤ b ∧ b ≤ 996) : 1 ≤ a * b % 997 := by
  have h0 : 0 ≤ a * b % 997 := Int.emod_nonneg _ (by omega)
  rcases Int.lt_or_eq_of_le h0 with h | h
  · omega
  · exfalso
    have hd : (997 : Int) ∣ a * b := Int.dvd_of_emod_eq_zero h.symm
    have hn : (997 : Nat) ∣ a.toNat * b.toNat := by
      have h2 : ((997 : Nat) : Int) ∣ ((a.toNat * b.toNat : Nat) : Int) := by
        rw [Int.natCast_mul, Int.toNat_of_nonneg (by omega), Int.toNat_of_nonneg (by omega)]
        exact hd
      exact Int.natCast_dvd_natCast.1 h2
    have ha' : a.toNat < 997 := by omega
    have ha1 : 1 ≤ a.toNat := by omega
    have hb' : b.toNat < 997 := by omega
    have hb1 : 1 ≤ b.toNat := by omega
    have hc : Nat.Coprime 997 a.toNat := by
      have hall : ∀ x : Fin 997, x.val = 0 ∨ Nat.gcd 997 x.val = 1 := by decide +kernel
      rcases hall ⟨a.toNat, ha'⟩ with h | h
      · simp at h; omega
      · exact h
    have := Nat.le_of_dvd (by omega) (hc.dvd_of_dvd_mul_left hn)
    omega

theorem mod997_lt (a : Int) : a % 997 ≤ 996 := by omega

theorem mulP_eq {a b : Int} (ha : elB a = true) (hb : elB b = true) : mulP a b = a * b % 997 := by simp [mulP, ha, hb]
theorem mulP_el {a b : Int} (ha : elB a = true) (hb : elB b = true) : elB (mulP a b) = true := by
  rw [mulP_eq ha hb, elB_iff]
  exact ⟨mul_pos_prime (elB_iff.1 ha) (elB_iff.1 hb), by omega⟩
theorem facP_eq {s : Int} (h : elB s = true) : facP s = 1 + (7 * s + 3) % 996 := by simp [facP, h]
theorem facP_el {s : Int} (h : elB s = true) : elB (facP s) = true := by
  rw [facP_eq h, elB_iff]; omega
theorem mulP_bd (a b : Int) : 0 ≤ mulP a b ∧ mulP a b ≤ 996 := by
  unfold mulP; split <;> omega
theorem facP_bd (a : Int) : 0 ≤ facP a ∧ facP a ≤ 996 := by
  unfold facP; split <;> omega
theorem mulP_zero {a b : Int} (h : mulP a b = 0) : elB a = false ∨ elB b = false := by
  cases ha : elB a with
  | false => exact .inl rfl
  | true => cases hb : elB b with
    | false => exact .inr rfl
    | true => have := elB_iff.1 (mulP_el ha hb); omega

/-- One factor can be divided out: 997 is a prime. -/
theorem mul_cancel {a x y : Int} (ha : 1 ≤ a ∧ a ≤ 996) (hx : 1 ≤ x ∧ x ≤ 996) (hy : 1 ≤ y ∧ y ≤ 996) (h : a * x % 997 = a * y % 997) : x = y := by
  rcases Int.lt_trichotomy x y with hlt | heq | hgt
  · have h1 := mul_pos_prime ha (b := y - x) (by omega)
    have h2 : a * (y - x) % 997 = 0 := by rw [Int.mul_sub]; omega
    omega
  · exact heq
  · have h1 := mul_pos_prime ha (b := x - y) (by omega)
    have h2 : a * (x - y) % 997 = 0 := by rw [Int.mul_sub]; omega
    omega

theorem mod_mul_mod (a b c : Int) : a * b % 997 * c % 997 = a * (b * c % 997) % 997 := by
  rw [Int.mul_emod, Int.emod_emod_of_dvd _ (Int.dvd_refl _), ← Int.mul_emod, Int.mul_assoc, Int.mul_emod a (b * c % 997), Int.emod_emod_of_dvd _ (Int.dvd_refl _), ← Int.mul_emod]

theorem mulP_comm (a b : Int) : mulP a b = mulP b a := by
  unfold mulP
  rw [Int.mul_comm b a]
  by_cases h : elB a = true ∧ elB b = true
  · rw [if_pos h, if_pos ⟨h.2, h.1⟩]
  · rw [if_neg h, if_neg fun g => h ⟨g.2, g.1⟩]
theorem mulP_assoc {a b c : Int} (ha : elB a = true) (hb : elB b = true) (hc : elB c = true) : mulP (mulP a b) c = mulP a (mulP b c) := by
  rw [mulP_eq (mulP_el ha hb) hc, mulP_eq ha (mulP_el hb hc), mulP_eq ha hb, mulP_eq hb hc, mod_mul_mod]
theorem mulP_inj {a x y : Int} (ha : elB a = true) (hx : elB x = true) (hy : elB y = true) : mulP a x = mulP a y ↔ x = y := by
  constructor
  · intro h
    rw [mulP_eq ha hx, mulP_eq ha hy] at h
    exact mul_cancel (elB_iff.1 ha) (elB_iff.1 hx) (elB_iff.1 hy) h
  · rintro rfl; rfl
theorem facP_inj {x y : Int} (hx : elB x = true) (hy : elB y = true) (h : facP x = facP y) : x = y := by
  rw [facP_eq hx, facP_eq hy] at h
  have h1 := elB_iff.1 hx
  have h2 := elB_iff.1 hy
  omega

/-- laws.element -/
def elemP (n : Int) : Int := 1 + n % 996
theorem elemP_el (n : Int) : elB (elemP n) = true := by rw [elB_iff, elemP]; omega
/-- laws.another -/
def anoP (n k : Int) : Int := (n + 1 + k % 990) % 991
end
section
def listB (xs : List Int) : Bool := decide (xs.length ≤ 24) && xs.all numB
def strm (k : Int) (i : Nat) : Int := (k * ((i : Int) + 2) + 11 * (i : Int) * (i : Int) + 5) % 991
def onL (xs : List Int) (k : Int) : List Int := xs.mapIdx fun i x => (x + strm k i) % 991
def offL (xs : List Int) (k : Int) : List Int := xs.mapIdx fun i x => (x + 991 - strm k i) % 991
def onP (xs : List Int) (k : Int) : List Int := if listB xs = true ∧ elB k = true then onL xs k else []
def offP (xs : List Int) (k : Int) : List Int := if listB xs = true ∧ elB k = true then offL xs k else []
def strL (k : Int) (n : Nat) : List Int := (List.range n).map (strm k)
def strP (k n : Int) : List Int := if elB k = true ∧ 0 ≤ n ∧ n ≤ 24 then strL k n.toNat else []
def tagF (t : Int) (xs : List Int) : Int := xs.foldl (fun t x => (613 * t + x + 1) % 991) t
def tag0 (k : Int) (n : Nat) : Int := (3 * k + 41 * (n : Int) + 1) % 991
def tagL (k : Int) (xs : List Int) : Int := tagF (tag0 k xs.length) xs
def tagP (k : Int) (xs : List Int) : Int := if elB k = true ∧ listB xs = true then tagL k xs else -1
def checkP (k : Int) (xs : List Int) (t : Int) : Bool := decide (0 ≤ t) && decide (t = tagP k xs)
def bodyL (xs : List Int) : List Int := ((xs.length : Int) :: xs) ++ List.replicate (4 - xs.length) 0
def packL (xs : List Int) : List Int := bodyL xs ++ [tagL 1 (bodyL xs)]
def packB (xs : List Int) : Bool := listB xs && decide (xs.length ≤ 4)
def packP (xs : List Int) : List Int := if packB xs = true then packL xs else []
def letterL (b : List Int) : List Int := (b.drop 1).take (b.getD 0 0).toNat
def openB (b : List Int) : Bool := listB b && decide (b.length = 6) && decide (b.getD 0 0 ≤ 4) && decide (packL (letterL b) = b)
def openP (b : List Int) : List Int := if openB b = true then letterL b else []

theorem listB_iff {xs : List Int} : listB xs = true ↔ xs.length ≤ 24 ∧ ∀ x ∈ xs, 0 ≤ x ∧ x ≤ 990 := by
  simp [listB, List.all_eq_true, numB]
theorem strm_bd (k : Int) (i : Nat) : 0 ≤ strm k i ∧ strm k i ≤ 990 := by unfold strm; omega
theorem getD_mem {xs : List Int} {i : Nat} (h : i < xs.length) : xs.getD i 0 ∈ xs := by
  rw [List.getD_eq_getElem?_getD, List.getElem?_eq_getElem h]; exact List.getElem_mem h
theorem listB_at {xs : List Int} (h : listB xs = true) {i : Nat} (hi : i < xs.length) : 0 ≤ xs.getD i 0 ∧ xs.getD i 0 ≤ 990 := (listB_iff.1 h).2 _ (getD_mem hi)

theorem onL_len (xs : List Int) (k : Int) : (onL xs k).length = xs.length := by simp [onL]
theorem offL_len (xs : List Int) (k : Int) : (offL xs k).length = xs.length := by simp [offL]
theorem onL_at (xs : List Int) (k : Int) (i : Nat) (h : i < xs.length) : (onL xs k).getD i 0 = (xs.getD i 0 + strm k i) % 991 := by simp [onL, h]
theorem offL_at (xs : List Int) (k : Int) (i : Nat) (h : i < xs.length) : (offL xs k).getD i 0 = (xs.getD i 0 + 991 - strm k i) % 991 := by simp [offL, h]
theorem ext_getD {a b : List Int} (hl : a.length = b.length) (h : ∀ i, i < a.length → a.getD i 0 = b.getD i 0) : a = b := by
  apply List.ext_getElem hl
  intro i h1 h2
  have := h i h1
  simpa [List.getD_eq_getElem?_getD, h1, h2] using this
theorem take_at {a : List Int} {i : Nat} (h : i < a.length) : a.take (i + 1) = a.take i ++ [a.getD i 0] := by
  rw [List.take_succ_eq_append_getElem h]; simp [List.getD_eq_getElem?_getD, h]
theorem onL_listB {xs : List Int} (h : xs.length ≤ 24) (k : Int) : listB (onL xs k) = true := by
  rw [listB_iff]
  refine ⟨by rw [onL_len]; exact h, fun x hx => ?_⟩
  simp only [onL, List.mem_mapIdx] at hx
  obtain ⟨i, hi, rfl⟩ := hx
  omega
theorem offL_listB {xs : List Int} (h : xs.length ≤ 24) (k : Int) : listB (offL xs k) = true := by
  rw [listB_iff]
  refine ⟨by rw [offL_len]; exact h, fun x hx => ?_⟩
  simp only [offL, List.mem_mapIdx] at hx
  obtain ⟨i, hi, rfl⟩ := hx
  omega
theorem off_on {xs : List Int} (h : listB xs = true) (k : Int) : offL (onL xs k) k = xs := by
  apply ext_getD (by simp [offL_len, onL_len])
  intro i hi
  simp only [offL_len, onL_len] at hi
  rw [offL_at _ _ _ (by simpa [onL_len] using hi), onL_at _ _ _ hi]
  have := listB_at h hi
  have := strm_bd k i
  omega
theorem on_off {xs : List Int} (h : listB xs = true) (k : Int) : onL (offL xs k) k = xs := by
  apply ext_getD (by simp [offL_len, onL_len])
  intro i hi
  simp only [offL_len, onL_len] at hi
  rw [onL_at _ _ _ (by simpa [offL_len] using hi), offL_at _ _ _ hi]
  have := listB_at h hi
  have := strm_bd k i
  omega
theorem on_on (xs : List Int) (k j : Int) : onL (onL xs k) j = onL (onL xs j) k := by
  apply ext_getD (by simp [onL_len])
  intro i hi
  simp only [onL_len] at hi
  rw [onL_at _ _ _ (by simpa [onL_len] using hi), onL_at _ _ _ hi, onL_at _ _ _ (by simpa [onL_len] using hi), onL_at _ _ _ hi]
  omega
theorem off_off (xs : List Int) (k j : Int) : offL (offL xs k) j = offL (offL xs j) k := by
  apply ext_getD (by simp [offL_len])
  intro i hi
  simp only [offL_len] at hi
  rw [offL_at _ _ _ (by simpa [offL_len] using hi), offL_at _ _ _ hi, offL_at _ _ _ (by simpa [offL_len] using hi), offL_at _ _ _ hi]
  omega
theorem strL_len (k : Int) (n : Nat) : (strL k n).length = n := by simp [strL]
theorem strL_at (k : Int) {n i : Nat} (h : i < n) : (strL k n).getD i 0 = strm k i := by simp [strL, h]
theorem strL_zero (k : Int) (n : Nat) : onL (List.replicate n 0) k = strL k n := by
  apply ext_getD (by simp [onL_len, strL_len])
  intro i hi
  simp only [onL_len, List.length_replicate] at hi
  rw [onL_at _ _ _ (by simpa using hi), strL_at _ hi]
  have := strm_bd k i
  simp [List.getD_eq_getElem?_getD, hi]
  omega
theorem strL_take (k : Int) (n j : Nat) (h : j ≤ n) : strL k j = (strL k n).take j := by
  simp [strL, ← List.map_take, List.take_range, Nat.min_eq_left h]
theorem strL_listB (k : Int) {n : Nat} (h : n ≤ 24) : listB (strL k n) = true := by
  rw [← strL_zero]; exact onL_listB (by simpa using h) k
theorem zeros_listB {n : Nat} (h : n ≤ 24) : listB (List.replicate n 0) = true := by
  rw [listB_iff]; refine ⟨by simpa using h, fun x hx => ?_⟩
  rw [List.mem_replicate] at hx; omega

theorem tagF_bd {t : Int} (h : 0 ≤ t ∧ t ≤ 990) (xs : List Int) : 0 ≤ tagF t xs ∧ tagF t xs ≤ 990 := by
  induction xs generalizing t with
  | nil => exact h
  | cons x r ih => simp only [tagF, List.foldl_cons]; exact ih (by omega)
theorem tag0_bd (k : Int) (n : Nat) : 0 ≤ tag0 k n ∧ tag0 k n ≤ 990 := by unfold tag0; omega
theorem tagL_bd (k : Int) (xs : List Int) : 0 ≤ tagL k xs ∧ tagL k xs ≤ 990 := tagF_bd (tag0_bd _ _) _
theorem tagF_append (t : Int) (xs ys : List Int) : tagF t (xs ++ ys) = tagF (tagF t xs) ys := by simp [tagF]
theorem tagF_snoc (t : Int) (xs : List Int) (x : Int) : tagF t (xs ++ [x]) = (613 * tagF t xs + x + 1) % 991 := by simp [tagF]
/-- 613 can be divided out: 991 is a prime. -/
theorem tagF_inj {s t : Int} (hs : 0 ≤ s ∧ s ≤ 990) (ht : 0 ≤ t ∧ t ≤ 990) (hne : s ≠ t) (xs : List Int) : tagF s xs ≠ tagF t xs := by
  induction xs generalizing s t with
  | nil => exact hne
  | cons x r ih => simp only [tagF, List.foldl_cons]; exact ih (by omega) (by omega) (by omega)
theorem tagL_set {xs : List Int} (k : Int) {j : Nat} (hj : j < xs.length) {y : Int} (hx : 0 ≤ xs.getD j 0 ∧ xs.getD j 0 ≤ 990) (hy : 0 ≤ y ∧ y ≤ 990) (hne : y ≠ xs.getD j 0) : tagL k (xs.set j y) ≠ tagL k xs := by
  have e1 : xs = xs.take j ++ xs.getD j 0 :: xs.drop (j + 1) := by
    rw [List.getD_eq_getElem?_getD, List.getElem?_eq_getElem hj]
    simp
  have e2 : xs.set j y = xs.take j ++ y :: xs.drop (j + 1) := List.set_eq_take_append_cons_drop .. |>.trans (by simp [hj])
  unfold tagL
  rw [List.length_set]
  generalize tag0 k xs.length = t0 at *
  have b := fun t => (tagF_bd (t := (613 * tagF t0 (xs.take j) + t + 1) % 991) (by omega) [])
  rw [e2]
  conv => rhs; rw [e1]
  rw [tagF_append, tagF_append]
  simp only [tagF, List.foldl_cons]
  exact tagF_inj (by omega) (by omega) (by omega) _
end
section
theorem numB_all {xs : List Int} : xs.all numB = true ↔ ∀ x ∈ xs, 0 ≤ x ∧ x ≤ 990 := by simp [List.all_eq_true, numB]
theorem bodyL_len {xs : List Int} (h : xs.length ≤ 4) : (bodyL xs).length = 5 := by simp [bodyL]; omega
theorem packL_len {xs : List Int} (h : xs.length ≤ 4) : (packL xs).length = 6 := by simp [packL, bodyL_len h]
theorem packB_iff {xs : List Int} : packB xs = true ↔ listB xs = true ∧ xs.length ≤ 4 := by simp [packB]
theorem mem_bodyL {xs : List Int} (h : packB xs = true) : ∀ x ∈ bodyL xs, 0 ≤ x ∧ x ≤ 990 := by
  obtain ⟨h1, h2⟩ := packB_iff.1 h
  intro x hx
  simp only [bodyL, List.cons_append, List.mem_cons, List.mem_append, List.mem_replicate] at hx
  rcases hx with rfl | hx | ⟨_, rfl⟩
  · omega
  · exact (listB_iff.1 h1).2 x hx
  · omega
theorem packL_listB {xs : List Int} (h : packB xs = true) : listB (packL xs) = true := by
  rw [listB_iff]
  refine ⟨by rw [packL_len (packB_iff.1 h).2]; omega, fun x hx => ?_⟩
  simp only [packL, List.mem_append, List.mem_singleton] at hx
  rcases hx with hx | rfl
  · exact mem_bodyL h x hx
  · exact tagL_bd _ _
theorem letterL_packL (xs : List Int) : letterL (packL xs) = xs := by
  simp [letterL, packL, bodyL]
theorem openB_packL {xs : List Int} (h : packB xs = true) : openB (packL xs) = true := by
  obtain ⟨h1, h2⟩ := packB_iff.1 h
  have h0 : (packL xs).getD 0 0 = xs.length := by simp [packL, bodyL]
  simp only [openB, letterL_packL, packL_listB h, packL_len h2, h0]
  simp; omega
theorem openP_packL {xs : List Int} (h : packB xs = true) : openP (packL xs) = xs := by
  rw [openP, if_pos (openB_packL h), letterL_packL]
theorem openB_iff {b : List Int} : openB b = true ↔ listB b = true ∧ b.length = 6 ∧ b.getD 0 0 ≤ 4 ∧ packL (letterL b) = b := by simp [openB, and_assoc]
theorem letterL_packB {b : List Int} (h : listB b = true) (hl : b.length = 6) (h4 : b.getD 0 0 ≤ 4) : packB (letterL b) = true := by
  rw [packB_iff, listB_iff]
  have h0 := (listB_at h (i := 0) (by omega)).1
  have hl' : (letterL b).length ≤ 4 := by simp only [letterL, List.length_take]; omega
  refine ⟨⟨Nat.le_trans hl' (by omega), fun x hx => ?_⟩, hl'⟩
  exact (listB_iff.1 h).2 x (List.mem_of_mem_drop (List.mem_of_mem_take hx))
/-- The reference's test of a body: the tag is right, and zeros fill it. -/
theorem openB_zeros {b : List Int} (hl : b.length = 6) (h : listB b = true) (h4 : b.getD 0 0 ≤ 4) :
    packL (letterL b) = b ↔ tagL 1 (b.take 5) = b.getD 5 0 ∧ ∀ i, (b.getD 0 0).toNat < i → i < 5 → b.getD i 0 = 0 := by
  have h0 := (listB_at h (i := 0) (by omega)).1
  match b, hl with
  | [n, a1, a2, a3, a4, t], _ =>
    simp only [List.getD_cons_zero] at h0 h4
    have hn : n = 0 ∨ n = 1 ∨ n = 2 ∨ n = 3 ∨ n = 4 := by omega
    have key : ∀ (P : Nat → Prop), (∀ i, n.toNat < i → i < 5 → P i) ↔ ((n.toNat < 1 → P 1) ∧ (n.toNat < 2 → P 2) ∧ (n.toNat < 3 → P 3) ∧ (n.toNat < 4 → P 4)) := by
      intro P
      constructor
      · intro hp; exact ⟨fun g => hp 1 g (by omega), fun g => hp 2 g (by omega), fun g => hp 3 g (by omega), fun g => hp 4 g (by omega)⟩
      · rintro ⟨p1, p2, p3, p4⟩ i hi h5
        have : i = 1 ∨ i = 2 ∨ i = 3 ∨ i = 4 := by omega
        rcases this with rfl | rfl | rfl | rfl
        · exact p1 hi
        · exact p2 hi
        · exact p3 hi
        · exact p4 hi
    simp only [List.getD_cons_zero]
    rw [key]
    clear h key
    rcases hn with rfl | rfl | rfl | rfl | rfl <;> simp [letterL, packL, bodyL, List.replicate] <;> constructor
    · rintro ⟨rfl, rfl, rfl, rfl, h⟩; exact ⟨h, rfl, rfl, rfl, rfl⟩
    · rintro ⟨h, rfl, rfl, rfl, rfl⟩; exact ⟨rfl, rfl, rfl, rfl, h⟩
    · rintro ⟨rfl, rfl, rfl, h⟩; exact ⟨h, rfl, rfl, rfl⟩
    · rintro ⟨h, rfl, rfl, rfl⟩; exact ⟨rfl, rfl, rfl, h⟩
    · rintro ⟨rfl, rfl, h⟩; exact ⟨h, rfl, rfl⟩
    · rintro ⟨h, rfl, rfl⟩; exact ⟨rfl, rfl, h⟩
    · rintro ⟨rfl, h⟩; exact ⟨h, rfl⟩
    · rintro ⟨h, rfl⟩; exact ⟨rfl, h⟩
end
section
def pathB (ps : List Int) : Bool := ps.all elB && decide (1 ≤ ps.length) && decide (ps.length ≤ 3)
def keysL (x : Int) : List Int → List Int
  | [] => []
  | p :: r => mulP x p :: keysL (mulP x (facP (mulP x p))) r
def pathOk (s : Int) (ps : List Int) : Bool := elB s && pathB ps
def keysP (s : Int) (ps : List Int) : List Int := if pathOk s ps = true then keysL s ps else []
def fillS (acc : List Int) (k : Int) : List Int := (acc ++ [0, 0, 0]).mapIdx fun i x => (x + 991 - strm k (9 - acc.length + i)) % 991
def fillL (keys : List Int) : List Int := keys.dropLast.foldl fillS []
def hdrL (fill : List Int) (to : Int) : List Int → List Int → List Int
  | k :: k2 :: ks, _ :: n2 :: ns => onL ([0, n2, tagL k2 (hdrL fill to (k2 :: ks) (n2 :: ns))] ++ (hdrL fill to (k2 :: ks) (n2 :: ns)).take 6) k
  | k :: _, _ => onL ([1, to] ++ List.replicate (7 - fill.length) 0) k ++ fill
  | [], _ => []
structure Pkt where
  e : Int
  h : List Int
  t : Int
  b : List Int
structure Peel where
  kind : Int
  next : Int
  p : Pkt
structure MixD where
  secret : Int
  seen : List Int
  pool : List Peel
def zeroPkt : Pkt := ⟨0, [], 0, []⟩
def zeroPeel : Peel := ⟨0, 0, zeroPkt⟩
def zeroMix : MixD := ⟨0, [], []⟩
def masksL (b : List Int) (keys : List Int) : List Int := keys.foldl onL b
def makeB (s : Int) (ps ns : List Int) (to : Int) (letter : List Int) : Bool := pathOk s ps && packB letter && decide (ns.length = ps.length) && ns.all nameB && nameB to
def makeL (s : Int) (ps ns : List Int) (to : Int) (letter : List Int) : Pkt :=
  ⟨mulP s 5, hdrL (fillL (keysL s ps)) to (keysL s ps) ns, tagL ((keysL s ps).getD 0 0) (hdrL (fillL (keysL s ps)) to (keysL s ps) ns), masksL (packL letter) (keysL s ps)⟩
def makeP (s : Int) (ps ns : List Int) (to : Int) (letter : List Int) : Pkt := if makeB s ps ns to letter = true then makeL s ps ns to letter else zeroPkt
def validB (p : Pkt) : Bool := elB p.e && listB p.h && decide (p.h.length = 9) && listB p.b && decide (p.b.length = 6) && numB p.t
def plainL (k : Int) (h : List Int) : List Int := offL (h ++ [0, 0, 0]) k
def kindB (n : Int) : Bool := decide (0 ≤ n) && decide (n ≤ 1)
/-- What a mix makes of a packet whose tag is right. -/
def peelL (s : Int) (p : Pkt) : Peel :=
  ⟨(plainL (mulP s p.e) p.h).getD 0 0, (plainL (mulP s p.e) p.h).getD 1 0, mulP p.e (facP (mulP s p.e)), (plainL (mulP s p.e) p.h).drop 3, (plainL (mulP s p.e) p.h).getD 2 0, offL p.b (mulP s p.e)⟩
def peelIn (s : Int) (p : Pkt) : Bool := decide (tagL (mulP s p.e) p.h = p.t) && kindB ((plainL (mulP s p.e) p.h).getD 0 0) && nameB ((plainL (mulP s p.e) p.h).getD 1 0)
def peelB (s : Int) (p : Pkt) : Bool := elB s && validB p && peelIn s p
def peelP (s : Int) (p : Pkt) : Peel := if peelB s p = true then peelL s p else zeroPeel

theorem pathB_iff {ps : List Int} : pathB ps = true ↔ (∀ p ∈ ps, elB p = true) ∧ 1 ≤ ps.length ∧ ps.length ≤ 3 := by simp [pathB, List.all_eq_true, and_assoc]
theorem keysL_len (x : Int) (ps : List Int) : (keysL x ps).length = ps.length := by
  induction ps generalizing x with
  | nil => rfl
  | cons p r ih => simp [keysL, ih]
theorem keysL_el {x : Int} {ps : List Int} (hx : elB x = true) (h : ∀ p ∈ ps, elB p = true) : ∀ k ∈ keysL x ps, elB k = true := by
  induction ps generalizing x with
  | nil => intro k hk; simp [keysL] at hk
  | cons p r ih =>
    intro k hk
    have hp := h p (by simp)
    have hm := mulP_el hx hp
    simp only [keysL, List.mem_cons] at hk
    rcases hk with rfl | hk
    · exact hm
    · exact ih (mulP_el hx (facP_el hm)) (fun q hq => h q (by simp [hq])) k hk
theorem keysL_take (x : Int) (ps : List Int) (j : Nat) : keysL x (ps.take j) = (keysL x ps).take j := by
  induction ps generalizing x j with
  | nil => simp [keysL]
  | cons p r ih => cases j with
    | zero => simp [keysL]
    | succ j => simp [keysL, ih]
theorem fillS_len (acc : List Int) (k : Int) : (fillS acc k).length = acc.length + 3 := by simp [fillS]
theorem fillS_num (acc : List Int) (k : Int) : ∀ x ∈ fillS acc k, 0 ≤ x ∧ x ≤ 990 := by
  intro x hx
  simp only [fillS, List.mem_mapIdx] at hx
  obtain ⟨i, hi, rfl⟩ := hx
  omega
theorem fold_len (ks : List Int) (acc : List Int) : (ks.foldl fillS acc).length = acc.length + 3 * ks.length := by
  induction ks generalizing acc with
  | nil => simp
  | cons k r ih => simp [ih, fillS_len]; omega
theorem fillL_len (ks : List Int) : (fillL ks).length = 3 * (ks.length - 1) := by simp [fillL, fold_len]
theorem fold_num (ks : List Int) {acc : List Int} (h : ∀ x ∈ acc, 0 ≤ x ∧ x ≤ 990) : ∀ x ∈ ks.foldl fillS acc, 0 ≤ x ∧ x ≤ 990 := by
  induction ks generalizing acc with
  | nil => simpa using h
  | cons k r ih => exact ih (fillS_num acc k)
theorem fillL_num (ks : List Int) : ∀ x ∈ fillL ks, 0 ≤ x ∧ x ≤ 990 := fold_num _ (by simp)
theorem onL_num (xs : List Int) (k : Int) : ∀ x ∈ onL xs k, 0 ≤ x ∧ x ≤ 990 := by
  intro x hx
  simp only [onL, List.mem_mapIdx] at hx
  obtain ⟨i, hi, rfl⟩ := hx
  omega
theorem hdrL_one (fill : List Int) (to k : Int) (ns : List Int) : hdrL fill to [k] ns = onL ([1, to] ++ List.replicate (7 - fill.length) 0) k ++ fill := by
  unfold hdrL; rfl
theorem hdrL_more (fill : List Int) (to k k2 : Int) (ks : List Int) (n n2 : Int) (ns : List Int) :
    hdrL fill to (k :: k2 :: ks) (n :: n2 :: ns) = onL ([0, n2, tagL k2 (hdrL fill to (k2 :: ks) (n2 :: ns))] ++ (hdrL fill to (k2 :: ks) (n2 :: ns)).take 6) k := by
  rw [hdrL]
theorem hdrL_good (fill : List Int) (to : Int) (hf : fill.length ≤ 6) (hn : ∀ x ∈ fill, 0 ≤ x ∧ x ≤ 990) :
    ∀ (ks ns : List Int), ks.length = ns.length → 1 ≤ ks.length → (hdrL fill to ks ns).length = 9 ∧ ∀ x ∈ hdrL fill to ks ns, 0 ≤ x ∧ x ≤ 990
  | [], _, _, h => by simp at h
  | [k], ns, _, _ => by
    rw [hdrL_one]
    refine ⟨by simp [onL_len]; omega, fun x hx => ?_⟩
    rcases List.mem_append.1 hx with h | h
    · exact onL_num _ _ x h
    · exact hn x h
  | k :: k2 :: ks, [], h, _ => by simp at h
  | k :: k2 :: ks, [_], h, _ => by simp at h
  | k :: k2 :: ks, n :: n2 :: ns, h, _ => by
    have ih := hdrL_good fill to hf hn (k2 :: ks) (n2 :: ns) (by simpa using h) (by simp)
    rw [hdrL_more]
    exact ⟨by simp [onL_len, ih.1], fun x hx => onL_num _ _ x hx⟩
theorem masksL_good {b : List Int} (hb : listB b = true) (ks : List Int) : listB (masksL b ks) = true ∧ (masksL b ks).length = b.length := by
  unfold masksL
  induction ks generalizing b with
  | nil => exact ⟨hb, rfl⟩
  | cons k r ih =>
    have := ih (onL_listB (listB_iff.1 hb).1 k)
    simp only [List.foldl_cons]
    exact ⟨this.1, by rw [this.2, onL_len]⟩
theorem validB_iff {p : Pkt} : validB p = true ↔ elB p.e = true ∧ listB p.h = true ∧ p.h.length = 9 ∧ listB p.b = true ∧ p.b.length = 6 ∧ 0 ≤ p.t ∧ p.t ≤ 990 := by simp [validB, numB, and_assoc]
theorem makeB_iff {s : Int} {ps ns : List Int} {to : Int} {letter : List Int} : makeB s ps ns to letter = true ↔ elB s = true ∧ pathB ps = true ∧ packB letter = true ∧ ns.length = ps.length ∧ (∀ n ∈ ns, nameB n = true) ∧ nameB to = true := by
  simp [makeB, pathOk, List.all_eq_true, and_assoc]
theorem el5 : elB 5 = true := by decide
theorem makeL_valid {s : Int} {ps ns : List Int} {to : Int} {letter : List Int} (h : makeB s ps ns to letter = true) : validB (makeL s ps ns to letter) = true := by
  obtain ⟨h1, h2, h3, h4, h5, h6⟩ := makeB_iff.1 h
  obtain ⟨p1, p2, p3⟩ := pathB_iff.1 h2
  have hh := hdrL_good (fillL (keysL s ps)) to (by rw [fillL_len, keysL_len]; omega) (fillL_num _) (keysL s ps) ns (by rw [keysL_len, h4]) (by rw [keysL_len]; omega)
  have hm := masksL_good (packL_listB h3) (keysL s ps)
  rw [validB_iff]
  refine ⟨mulP_el h1 el5, listB_iff.2 ⟨by rw [makeL, hh.1]; omega, hh.2⟩, hh.1, hm.1, ?_, tagL_bd _ _⟩
  show (masksL _ _).length = 6
  rw [hm.2, packL_len (packB_iff.1 h3).2]
end
section
theorem list9 {l : List Int} (h : l.length = 9) : ∃ a0 a1 a2 a3 a4 a5 a6 a7 a8, l = [a0, a1, a2, a3, a4, a5, a6, a7, a8] := by
  match l, h with
  | [a0, a1, a2, a3, a4, a5, a6, a7, a8], _ => exact ⟨_, _, _, _, _, _, _, _, _, rfl⟩
theorem mask_back (x s : Int) (h : 0 ≤ x ∧ x ≤ 990) : ((x + s % 991) % 991 + 991 - s % 991) % 991 = x := by omega
/-- One layer comes off: the plain numbers, and the header for the next mix, if its last three numbers are the ends of the stream. -/
theorem plain_hdr {k a n t : Int} {h : List Int} (hl : h.length = 9) (hn : ∀ x ∈ h, 0 ≤ x ∧ x ≤ 990) (ha : 0 ≤ a ∧ a ≤ 990) (hn' : 0 ≤ n ∧ n ≤ 990) (ht : 0 ≤ t ∧ t ≤ 990)
    (hd : h.drop 6 = [(991 - strm k 9) % 991, (991 - strm k 10) % 991, (991 - strm k 11) % 991]) :
    plainL k (onL ([a, n, t] ++ h.take 6) k) = [a, n, t] ++ h := by
  obtain ⟨a0, a1, a2, a3, a4, a5, a6, a7, a8, rfl⟩ := list9 hl
  simp only [List.mem_cons, forall_eq_or_imp, List.not_mem_nil, false_imp_iff, implies_true, and_true] at hn
  have b := strm_bd k
  have b0 := b 0; have b1 := b 1; have b2 := b 2; have b3 := b 3; have b4 := b 4; have b5 := b 5; have b6 := b 6; have b7 := b 7; have b8 := b 8; have b9 := b 9; have b10 := b 10; have b11 := b 11
  clear b
  simp only [List.drop, List.cons.injEq, and_true] at hd
  simp [plainL, onL, offL, List.mapIdx_cons]
  omega
theorem drop6_one {k0 k1 to : Int} : (hdrL (fillL [k0, k1]) to [k1] []).drop 6 = [(991 - strm k0 9) % 991, (991 - strm k0 10) % 991, (991 - strm k0 11) % 991] := by
  rw [hdrL_one]
  simp [fillL, fillS, onL]
theorem hdrL_one_any (fill : List Int) (to k : Int) (ns ms : List Int) : hdrL fill to [k] ns = hdrL fill to [k] ms := by rw [hdrL_one, hdrL_one]
theorem drop6_two {k0 k1 k2 to : Int} : (hdrL (fillL [k0, k1, k2]) to [k2] []).drop 6 = [(991 - strm k1 9) % 991, (991 - strm k1 10) % 991, (991 - strm k1 11) % 991] := by
  rw [hdrL_one]
  simp [fillL, fillS, onL]
theorem drop6_mid {k0 k1 k2 to n1 n2 : Int} : (hdrL (fillL [k0, k1, k2]) to [k1, k2] [n1, n2]).drop 6 = [(991 - strm k0 9) % 991, (991 - strm k0 10) % 991, (991 - strm k0 11) % 991] := by
  rw [hdrL_more, hdrL_one]
  have b := strm_bd k1
  have b6 := b 6; have b7 := b 7; have b8 := b 8
  have c := strm_bd k0
  have c9 := c 9; have c10 := c 10; have c11 := c 11
  clear b c
  simp [fillL, fillS, onL, List.mapIdx_cons]
theorem plain_last {k to : Int} {fill : List Int} (hto : 0 ≤ to ∧ to ≤ 990) :
    (plainL k (onL ([1, to] ++ List.replicate (7 - fill.length) 0) k ++ fill)).getD 0 0 = 1 ∧ (plainL k (onL ([1, to] ++ List.replicate (7 - fill.length) 0) k ++ fill)).getD 1 0 = to := by
  have b := strm_bd k
  have b0 := b 0; have b1 := b 1
  clear b
  simp [plainL, onL, offL, List.mapIdx_cons]
  omega

theorem masksL_cons (b : List Int) (k : Int) (ks : List Int) : masksL b (k :: ks) = onL (masksL b ks) k := by
  unfold masksL
  induction ks generalizing b with
  | nil => rfl
  | cons j r ih =>
    simp only [List.foldl_cons] at ih ⊢
    rw [on_on, ih]
theorem shared_comm {s a : Int} (hs : elB s = true) (ha : elB a = true) : mulP a (mulP s 5) = mulP s (mulP a 5) := by
  rw [← mulP_assoc ha hs el5, mulP_comm a s, mulP_assoc hs ha el5]
theorem peel_step {s a n t k : Int} {h b : List Int} (hs : elB s = true) (ha : elB a = true) (hk : k = mulP s (mulP a 5)) (hl : h.length = 9) (hn : ∀ x ∈ h, 0 ≤ x ∧ x ≤ 990) (hname : nameB n = true) (ht : 0 ≤ t ∧ t ≤ 990)
    (hb : listB b = true) (hb6 : b.length = 6) (hd : h.drop 6 = [(991 - strm k 9) % 991, (991 - strm k 10) % 991, (991 - strm k 11) % 991]) :
    peelB a ⟨mulP s 5, onL ([0, n, t] ++ h.take 6) k, tagL k (onL ([0, n, t] ++ h.take 6) k), onL b k⟩ = true ∧
    peelL a ⟨mulP s 5, onL ([0, n, t] ++ h.take 6) k, tagL k (onL ([0, n, t] ++ h.take 6) k), onL b k⟩ = ⟨0, n, mulP (mulP s (facP k)) 5, h, t, b⟩ := by
  have hel : elB k = true := by rw [hk]; exact mulP_el hs (mulP_el ha el5)
  have e1 : mulP a (mulP s 5) = k := by rw [hk, shared_comm hs ha]
  have hnm := nameB_iff.1 hname
  have e2 := plain_hdr (k := k) (a := 0) (n := n) (t := t) hl hn (by omega) (by omega) ht hd
  have e3 : mulP (mulP s 5) (facP k) = mulP (mulP s (facP k)) 5 := by
    rw [mulP_assoc hs el5 (facP_el hel), mulP_comm 5, ← mulP_assoc hs (facP_el hel) el5]
  have hlen : (onL ([0, n, t] ++ h.take 6) k).length = 9 := by simp [onL_len, hl]
  constructor
  · simp only [peelB, peelIn, Bool.and_eq_true]
    refine ⟨⟨ha, validB_iff.2 ⟨mulP_el hs el5, listB_iff.2 ⟨Nat.le_trans (Nat.le_of_eq hlen) (by omega), onL_num _ _⟩, hlen, onL_listB (by omega) _, by rw [onL_len]; exact hb6, tagL_bd _ _⟩⟩, ⟨by simp [e1], ?_⟩, ?_⟩
    · rw [e1, e2]; rfl
    · rw [e1, e2]; exact hname
  · simp only [peelL, e1, e2, e3, off_on hb]
    rfl
theorem peel_last {s a to k : Int} {fill b : List Int} (hs : elB s = true) (ha : elB a = true) (hk : k = mulP s (mulP a 5)) (hto : nameB to = true) (hf : fill.length ≤ 6) (hn : ∀ x ∈ fill, 0 ≤ x ∧ x ≤ 990)
    (hb : listB b = true) (hb6 : b.length = 6) :
    peelB a ⟨mulP s 5, onL ([1, to] ++ List.replicate (7 - fill.length) 0) k ++ fill, tagL k (onL ([1, to] ++ List.replicate (7 - fill.length) 0) k ++ fill), onL b k⟩ = true ∧
    (peelL a ⟨mulP s 5, onL ([1, to] ++ List.replicate (7 - fill.length) 0) k ++ fill, tagL k (onL ([1, to] ++ List.replicate (7 - fill.length) 0) k ++ fill), onL b k⟩).kind = 1 ∧
    (peelL a ⟨mulP s 5, onL ([1, to] ++ List.replicate (7 - fill.length) 0) k ++ fill, tagL k (onL ([1, to] ++ List.replicate (7 - fill.length) 0) k ++ fill), onL b k⟩).next = to ∧
    (peelL a ⟨mulP s 5, onL ([1, to] ++ List.replicate (7 - fill.length) 0) k ++ fill, tagL k (onL ([1, to] ++ List.replicate (7 - fill.length) 0) k ++ fill), onL b k⟩).p.b = b := by
  have e1 : mulP a (mulP s 5) = k := by rw [hk, shared_comm hs ha]
  have hnm := nameB_iff.1 hto
  obtain ⟨e2, e3⟩ := plain_last (k := k) (to := to) (fill := fill) (by omega)
  have hlen : (onL ([1, to] ++ List.replicate (7 - fill.length) 0) k ++ fill).length = 9 := by simp [onL_len]; omega
  have hnum : ∀ x ∈ onL ([1, to] ++ List.replicate (7 - fill.length) 0) k ++ fill, 0 ≤ x ∧ x ≤ 990 := fun x hx => by
    rcases List.mem_append.1 hx with h | h
    · exact onL_num _ _ x h
    · exact hn x h
  refine ⟨?_, ?_, ?_, ?_⟩
  · simp only [peelB, peelIn, Bool.and_eq_true]
    refine ⟨⟨ha, validB_iff.2 ⟨mulP_el hs el5, listB_iff.2 ⟨Nat.le_trans (Nat.le_of_eq hlen) (by omega), hnum⟩, hlen, onL_listB (by omega) _, by rw [onL_len]; exact hb6, tagL_bd _ _⟩⟩, ⟨by simp [e1], ?_⟩, ?_⟩
    · rw [e1, e2]; rfl
    · rw [e1, e3]; exact hto
  · simp only [peelL, e1, e2]
  · simp only [peelL, e1, e3]
  · simp only [peelL, e1, off_on hb]

/-- Peeled by the owners of the secrets in order, the packet goes to each name and comes to the receiver with the letter's body. -/
def Goes (to : Int) (letter : List Int) : List Int → List Int → Pkt → Prop
  | [], _, p => p.b = packL letter
  | a :: as, ns, p => peelB a p = true ∧ (as ≠ [] → (peelL a p).kind = 0 ∧ (peelL a p).next = (ns.drop 1).getD 0 0) ∧ (as = [] → (peelL a p).kind = 1 ∧ (peelL a p).next = to) ∧ Goes to letter as (ns.drop 1) (peelL a p).p

theorem goes_make {s to : Int} {as ns letter : List Int} (hs : elB s = true) (ha : ∀ a ∈ as, elB a = true) (h1 : 1 ≤ as.length) (h3 : as.length ≤ 3) (hl : packB letter = true) (hn : ns.length = as.length) (hns : ∀ n ∈ ns, nameB n = true) (hto : nameB to = true) :
    Goes to letter as ns (makeL s (as.map (mulP · 5)) ns to letter) := by
  have hb := packL_listB hl
  have hb6 := packL_len (packB_iff.1 hl).2
  match as, ns, hn, h1, h3 with
  | [a], [n], _, _, _ =>
    have a0 := ha a (by simp)
    have P := peel_last (fill := []) hs a0 rfl hto (by simp) (by simp) hb hb6
    exact ⟨P.1, fun h => absurd rfl h, fun _ => ⟨P.2.1, P.2.2.1⟩, P.2.2.2⟩
  | [a, c], [n, m], _, _, _ =>
    have a0 := ha a (by simp)
    have c0 := ha c (by simp)
    have m0 := hns m (by simp)
    let k0 := mulP s (mulP a 5)
    let s1 := mulP s (facP k0)
    let k1 := mulP s1 (mulP c 5)
    have hk0 : elB k0 = true := mulP_el hs (mulP_el a0 el5)
    have hs1 : elB s1 = true := mulP_el hs (facP_el hk0)
    have F : (fillL [k0, k1]).length ≤ 6 := by rw [fillL_len]; simp
    have G := hdrL_good (fillL [k0, k1]) to F (fillL_num _) [k1] [m] rfl (by simp)
    have B1 : listB (onL (packL letter) k1) = true := onL_listB (by omega) _
    have P := peel_step (h := hdrL (fillL [k0, k1]) to [k1] [m]) (b := onL (packL letter) k1) (t := tagL k1 (hdrL (fillL [k0, k1]) to [k1] [m])) (n := m) hs a0 (k := k0) rfl G.1 G.2 m0 (tagL_bd _ _) B1 (by rw [onL_len]; exact hb6)
      (by rw [hdrL_one_any _ _ _ [m] []]; exact drop6_one)
    have E : makeL s ([a, c].map (mulP · 5)) [n, m] to letter = ⟨mulP s 5, onL ([0, m, tagL k1 (hdrL (fillL [k0, k1]) to [k1] [m])] ++ (hdrL (fillL [k0, k1]) to [k1] [m]).take 6) k0, tagL k0 (onL ([0, m, tagL k1 (hdrL (fillL [k0, k1]) to [k1] [m])] ++ (hdrL (fillL [k0, k1]) to [k1] [m]).take 6) k0), onL (onL (packL letter) k1) k0⟩ := by
      rw [on_on]
      show (⟨_, hdrL (fillL [k0, k1]) to [k0, k1] [n, m], tagL k0 (hdrL (fillL [k0, k1]) to [k0, k1] [n, m]), _⟩ : Pkt) = _
      rw [hdrL_more]
      rfl
    have L := peel_last (fill := fillL [k0, k1]) hs1 c0 (k := k1) rfl hto F (fillL_num _) hb hb6
    rw [E]
    refine ⟨P.1, fun _ => ?_, fun h => by simp at h, ?_⟩
    · rw [P.2]; exact ⟨rfl, rfl⟩
    · rw [P.2, hdrL_one]
      exact ⟨L.1, fun h => absurd rfl h, fun _ => ⟨L.2.1, L.2.2.1⟩, L.2.2.2⟩
  | [a, c, d], [n, m, q], _, _, _ =>
    have a0 := ha a (by simp)
    have c0 := ha c (by simp)
    have d0 := ha d (by simp)
    have m0 := hns m (by simp)
    have q0 := hns q (by simp)
    let k0 := mulP s (mulP a 5)
    let s1 := mulP s (facP k0)
    let k1 := mulP s1 (mulP c 5)
    let s2 := mulP s1 (facP k1)
    let k2 := mulP s2 (mulP d 5)
    have hk0 : elB k0 = true := mulP_el hs (mulP_el a0 el5)
    have hs1 : elB s1 = true := mulP_el hs (facP_el hk0)
    have hk1 : elB k1 = true := mulP_el hs1 (mulP_el c0 el5)
    have hs2 : elB s2 = true := mulP_el hs1 (facP_el hk1)
    have F : (fillL [k0, k1, k2]).length ≤ 6 := by rw [fillL_len]; simp
    have G2 := hdrL_good (fillL [k0, k1, k2]) to F (fillL_num _) [k2] [q] rfl (by simp)
    have G1 := hdrL_good (fillL [k0, k1, k2]) to F (fillL_num _) [k1, k2] [m, q] rfl (by simp)
    have B2 : listB (onL (packL letter) k2) = true := onL_listB (by omega) _
    have B1 : listB (onL (onL (packL letter) k2) k1) = true := onL_listB (by rw [onL_len]; omega) _
    have P1 := peel_step (h := hdrL (fillL [k0, k1, k2]) to [k2] [q]) (b := onL (packL letter) k2) (t := tagL k2 (hdrL (fillL [k0, k1, k2]) to [k2] [q])) (n := q) hs1 c0 (k := k1) rfl G2.1 G2.2 q0 (tagL_bd _ _) B2 (by rw [onL_len]; exact hb6)
      (by rw [hdrL_one_any _ _ _ [q] []]; exact drop6_two)
    have P0 := peel_step (h := hdrL (fillL [k0, k1, k2]) to [k1, k2] [m, q]) (b := onL (onL (packL letter) k2) k1) (t := tagL k1 (hdrL (fillL [k0, k1, k2]) to [k1, k2] [m, q])) (n := m) hs a0 (k := k0) rfl G1.1 G1.2 m0 (tagL_bd _ _) B1 (by rw [onL_len, onL_len]; exact hb6) drop6_mid
    have E : makeL s ([a, c, d].map (mulP · 5)) [n, m, q] to letter = ⟨mulP s 5, onL ([0, m, tagL k1 (hdrL (fillL [k0, k1, k2]) to [k1, k2] [m, q])] ++ (hdrL (fillL [k0, k1, k2]) to [k1, k2] [m, q]).take 6) k0, tagL k0 (onL ([0, m, tagL k1 (hdrL (fillL [k0, k1, k2]) to [k1, k2] [m, q])] ++ (hdrL (fillL [k0, k1, k2]) to [k1, k2] [m, q]).take 6) k0), onL (onL (onL (packL letter) k2) k1) k0⟩ := by
      have hm : onL (onL (onL (packL letter) k2) k1) k0 = masksL (packL letter) [k0, k1, k2] := by rw [masksL_cons, masksL_cons]; rfl
      rw [hm]
      show (⟨_, hdrL (fillL [k0, k1, k2]) to [k0, k1, k2] [n, m, q], tagL k0 (hdrL (fillL [k0, k1, k2]) to [k0, k1, k2] [n, m, q]), _⟩ : Pkt) = _
      rw [hdrL_more]
      rfl
    have L := peel_last (fill := fillL [k0, k1, k2]) hs2 d0 (k := k2) rfl hto F (fillL_num _) hb hb6
    rw [E]
    refine ⟨P0.1, fun _ => ?_, fun h => by simp at h, ?_⟩
    · rw [P0.2]; exact ⟨rfl, rfl⟩
    · rw [P0.2, hdrL_more]
      refine ⟨P1.1, fun _ => ?_, fun h => by simp at h, ?_⟩
      · rw [P1.2]; exact ⟨rfl, rfl⟩
      · rw [P1.2, hdrL_one]
        exact ⟨L.1, fun h => absurd rfl h, fun _ => ⟨L.2.1, L.2.2.1⟩, L.2.2.2⟩
end
section
theorem anoP_ne {n k : Int} (_hn : 0 ≤ n ∧ n ≤ 990) (_hk : 0 ≤ k) : 0 ≤ anoP n k ∧ anoP n k ≤ 990 ∧ anoP n k ≠ n := by unfold anoP; omega
theorem set_at {xs : List Int} {j i : Nat} {y : Int} (hi : i < xs.length) : (xs.set j y).getD i 0 = if i = j then y else xs.getD i 0 := by
  simp only [List.getD_eq_getElem?_getD, List.getElem?_set]
  by_cases h : j = i
  · subst h; simp [hi]
  · rw [if_neg h, if_neg (fun e => h e.symm)]
theorem set_listB {xs : List Int} (h : listB xs = true) {j : Nat} {y : Int} (hy : 0 ≤ y ∧ y ≤ 990) : listB (xs.set j y) = true := by
  rw [listB_iff] at h ⊢
  refine ⟨by simpa using h.1, fun x hx => ?_⟩
  rcases List.mem_or_eq_of_mem_set hx with hx | rfl
  · exact h.2 x hx
  · exact hy
/-- A changed number changes its own place of the masked list, and no other. -/
theorem onL_set {xs : List Int} (h : listB xs = true) (k : Int) {j i : Nat} {y : Int} (hy : 0 ≤ y ∧ y ≤ 990) (hj : j < xs.length) (hne : y ≠ xs.getD j 0) (hi : i < xs.length) :
    (onL (xs.set j y) k).getD i 0 ≠ (onL xs k).getD i 0 ↔ i = j := by
  have a := listB_at h hi
  have b := listB_at h hj
  have s := strm_bd k i
  rw [onL_at _ _ _ (by simpa using hi), onL_at _ _ _ hi, set_at hi]
  by_cases e : i = j
  · subst e
    simp only [if_true, iff_true, ne_eq]
    omega
  · simp [e]
theorem offL_set {xs : List Int} (h : listB xs = true) (k : Int) {j i : Nat} {y : Int} (hy : 0 ≤ y ∧ y ≤ 990) (hj : j < xs.length) (hne : y ≠ xs.getD j 0) (hi : i < xs.length) :
    (offL (xs.set j y) k).getD i 0 ≠ (offL xs k).getD i 0 ↔ i = j := by
  have a := listB_at h hi
  have b := listB_at h hj
  have s := strm_bd k i
  rw [offL_at _ _ _ (by simpa using hi), offL_at _ _ _ hi, set_at hi]
  by_cases e : i = j
  · subst e
    simp only [if_true, iff_true, ne_eq]
    omega
  · simp [e]
theorem strm_other {k j : Int} (h : k % 991 ≠ j % 991) : strm k 0 ≠ strm j 0 ∧ strm k 1 ≠ strm j 1 := by unfold strm; omega
theorem checkP_iff {k t : Int} {xs : List Int} : checkP k xs t = true ↔ 0 ≤ t ∧ t = tagP k xs := by simp [checkP]
theorem tagP_eq {k : Int} {xs : List Int} (hk : elB k = true) (hx : listB xs = true) : tagP k xs = tagL k xs := by simp [tagP, hk, hx]
theorem tagP_good {k : Int} {xs : List Int} (h : 0 ≤ tagP k xs) : elB k = true ∧ listB xs = true := by
  unfold tagP at h
  by_cases g : elB k = true ∧ listB xs = true
  · exact g
  · rw [if_neg g] at h; omega
theorem tagP_bd (k : Int) (xs : List Int) : -1 ≤ tagP k xs ∧ tagP k xs ≤ 990 := by
  unfold tagP
  have := tagL_bd k xs
  split <;> omega
theorem tagL_nil (k : Int) : tagL k [] = (3 * k + 1) % 991 := by simp [tagL, tag0, tagF]
/-- A body with one number changed is no letter's. -/
theorem openB_set {xs : List Int} (h : packB xs = true) {j : Nat} {y : Int} (hj : j < 6) (hy : 0 ≤ y ∧ y ≤ 990) (hne : y ≠ (packL xs).getD j 0) : openB ((packL xs).set j y) = false := by
  cases hb : openB ((packL xs).set j y) with
  | false => rfl
  | true =>
    exfalso
    obtain ⟨h1, h2, h3, h4⟩ := openB_iff.1 hb
    have hl := packL_len (packB_iff.1 h).2
    have hlb := bodyL_len (packB_iff.1 h).2
    have t1 := ((openB_zeros h2 h1 h3).1 h4).1
    by_cases e : j = 5
    · subst e
      rw [set_at (by omega), if_pos rfl] at t1
      have : ((packL xs).set 5 y).take 5 = bodyL xs := by
        rw [List.take_set_of_le (Nat.le_refl _)]
        simp [packL, hlb]
      rw [this] at t1
      have e5 : (packL xs).getD 5 0 = tagL 1 (bodyL xs) := by
        have : (packL xs)[5]? = some (tagL 1 (bodyL xs)) := by
          rw [packL, List.getElem?_append_right (by omega), hlb]; rfl
        rw [List.getD_eq_getElem?_getD, this]; rfl
      omega
    · rw [set_at (by omega), if_neg (by omega)] at t1
      have e5 : (packL xs).getD 5 0 = tagL 1 (bodyL xs) := by
        have : (packL xs)[5]? = some (tagL 1 (bodyL xs)) := by
          rw [packL, List.getElem?_append_right (by omega), hlb]; rfl
        rw [List.getD_eq_getElem?_getD, this]; rfl
      have et : ((packL xs).set j y).take 5 = (bodyL xs).set j y := by
        rw [packL, List.set_append_left _ _ (by omega), List.take_append_of_le_length (by simp; omega), List.take_of_length_le (by simp; omega)]
      have eb : (packL xs).getD j 0 = (bodyL xs).getD j 0 := by
        rw [packL, List.getD_eq_getElem?_getD, List.getElem?_append_left (by omega), ← List.getD_eq_getElem?_getD]
      rw [et, e5] at t1
      exact tagL_set 1 (by omega) (mem_bodyL h _ (getD_mem (by omega))) hy (by rw [← eb]; exact hne) t1
theorem offL_app (xs ys : List Int) (k : Int) : (offL (xs ++ ys) k).take xs.length = offL xs k := by
  apply ext_getD (by simp [offL_len])
  intro i hi
  simp only [List.length_take, offL_len, List.length_append] at hi
  have h1 : i < xs.length := by omega
  have : ((offL (xs ++ ys) k).take xs.length).getD i 0 = (offL (xs ++ ys) k).getD i 0 := by
    simp [List.getD_eq_getElem?_getD, h1]
  rw [this, offL_at _ _ _ (by simp; omega), offL_at _ _ _ h1]
  congr 3
  simp [List.getD_eq_getElem?_getD, List.getElem?_append_left h1]
theorem plainL_len (k : Int) (h : List Int) : (plainL k h).length = h.length + 3 := by simp [plainL, offL_len]
theorem plainL_listB {h : List Int} (hl : h.length = 9) (k : Int) : listB (plainL k h) = true := offL_listB (by simp; omega) k
theorem drop_listB {xs : List Int} (h : listB xs = true) (n : Nat) : listB (xs.drop n) = true := by
  rw [listB_iff] at h ⊢
  exact ⟨by simp; omega, fun x hx => h.2 x (List.mem_of_mem_drop hx)⟩
theorem peelB_iff {s : Int} {p : Pkt} : peelB s p = true ↔ elB s = true ∧ validB p = true ∧ tagL (mulP s p.e) p.h = p.t ∧ kindB ((plainL (mulP s p.e) p.h).getD 0 0) = true ∧ nameB ((plainL (mulP s p.e) p.h).getD 1 0) = true := by
  simp [peelB, peelIn, and_assoc]
theorem peelL_valid {s : Int} {p : Pkt} (h : peelB s p = true) : validB (peelL s p).p = true := by
  obtain ⟨h1, h2, h3, h4, h5⟩ := peelB_iff.1 h
  obtain ⟨v1, v2, v3, v4, v5, v6⟩ := validB_iff.1 h2
  rw [validB_iff]
  have hk := mulP_el h1 v1
  have hp := plainL_listB v3 (mulP s p.e)
  have hl := plainL_len (mulP s p.e) p.h
  refine ⟨mulP_el v1 (facP_el hk), drop_listB hp 3, ?_, offL_listB (by omega) _, ?_, listB_at hp (by omega)⟩
  · show (List.drop 3 _).length = 9
    simp; omega
  · show (offL _ _).length = 6
    rw [offL_len, v5]
/-- A changed header, and a changed tag, are not passed on. -/
theorem peel_header {s : Int} {p : Pkt} (h : peelB s p = true) {j : Nat} {y : Int} (hj : j < 9) (hy : 0 ≤ y ∧ y ≤ 990) (hne : y ≠ p.h.getD j 0) : peelB s ⟨p.e, p.h.set j y, p.t, p.b⟩ = false := by
  cases hb : peelB s ⟨p.e, p.h.set j y, p.t, p.b⟩ with
  | false => rfl
  | true =>
    exfalso
    obtain ⟨h1, h2, h3, h4, h5⟩ := peelB_iff.1 h
    obtain ⟨g1, g2, g3, g4, g5⟩ := peelB_iff.1 hb
    obtain ⟨v1, v2, v3, v4, v5, v6⟩ := validB_iff.1 h2
    exact tagL_set (mulP s p.e) (j := j) (by omega) (listB_at v2 (by omega)) hy hne (g3.trans h3.symm)
theorem peel_tag {s : Int} {p : Pkt} (h : peelB s p = true) {y : Int} (hne : y ≠ p.t) : peelB s ⟨p.e, p.h, y, p.b⟩ = false := by
  cases hb : peelB s ⟨p.e, p.h, y, p.b⟩ with
  | false => rfl
  | true =>
    exfalso
    obtain ⟨h1, h2, h3, h4, h5⟩ := peelB_iff.1 h
    obtain ⟨g1, g2, g3, g4, g5⟩ := peelB_iff.1 hb
    exact hne (g3.symm.trans h3)
theorem peel_body {s : Int} {p : Pkt} (h : peelB s p = true) {j : Nat} {y : Int} (hy : 0 ≤ y ∧ y ≤ 990) : peelB s ⟨p.e, p.h, p.t, p.b.set j y⟩ = true := by
  obtain ⟨h1, h2, h3, h4, h5⟩ := peelB_iff.1 h
  obtain ⟨v1, v2, v3, v4, v5, v6⟩ := validB_iff.1 h2
  exact peelB_iff.2 ⟨h1, validB_iff.2 ⟨v1, v2, v3, set_listB v4 hy, by simpa using v5, v6⟩, h3, h4, h5⟩
end
section
def okPeelB (x : Peel) : Bool := kindB x.kind && nameB x.next && validB x.p
def hasB (xs : List Int) (n : Int) : Bool := xs.any fun x => decide (x = n)
def seenAt (xs : List Int) (j : Nat) : Bool := elB (xs.getD j 0) && !(hasB (xs.take j) (xs.getD j 0))
def seenB (xs : List Int) : Bool := (List.range xs.length).all (seenAt xs)
def mixB (m : MixD) : Bool := elB m.secret && decide (m.seen.length ≤ 12) && decide (m.pool.length ≤ 5) && seenB m.seen && m.pool.all okPeelB
def epochB (m : MixD) (s : Int) : Bool := mixB m && elB s && decide (s ≠ m.secret)
def epochP (m : MixD) (s : Int) : MixD := if mixB m = true ∧ elB s = true then (if s = m.secret then m else ⟨s, [], m.pool⟩) else zeroMix

theorem hasB_iff {xs : List Int} {n : Int} : hasB xs n = true ↔ n ∈ xs := by
  simp only [hasB, List.any_eq_true, decide_eq_true_eq]
  exact ⟨fun ⟨x, h, e⟩ => e ▸ h, fun h => ⟨n, h, rfl⟩⟩
/-- The first k numbers are keys, each seen once. -/
def SeenTo (xs : List Int) (k : Nat) : Prop := ∀ j, j < k → seenAt xs j = true
theorem SeenTo.zero (xs : List Int) : SeenTo xs 0 := fun j hj => by omega
theorem SeenTo.next {xs : List Int} {k : Nat} (h : SeenTo xs k) (hk : seenAt xs k = true) : SeenTo xs (k + 1) := fun j hj => by
  by_cases e : j = k
  · subst e; exact hk
  · exact h j (by omega)
theorem SeenTo.all {xs : List Int} {n : Nat} (h : SeenTo xs n) (hn : xs.length = n) : seenB xs = true := by
  simp only [seenB, List.all_eq_true, List.mem_range]
  intro j hj
  exact h j (by omega)
theorem seenB_no {xs : List Int} {k : Nat} (hk : k < xs.length) (h : seenAt xs k = false) : seenB xs = false := by
  cases g : seenB xs with
  | false => rfl
  | true =>
    simp only [seenB, List.all_eq_true, List.mem_range] at g
    have := g k hk
    rw [h] at this; cases this
theorem mixB_iff {m : MixD} : mixB m = true ↔ elB m.secret = true ∧ m.seen.length ≤ 12 ∧ m.pool.length ≤ 5 ∧ seenB m.seen = true ∧ ∀ x ∈ m.pool, okPeelB x = true := by
  simp [mixB, List.all_eq_true, and_assoc]
theorem epoch_valid {m : MixD} {s : Int} (h : mixB m = true) (hs : elB s = true) : mixB ⟨s, [], m.pool⟩ = true := by
  obtain ⟨h1, h2, h3, h4, h5⟩ := mixB_iff.1 h
  exact mixB_iff.2 ⟨hs, by simp, h3, by rfl, h5⟩
theorem peel_ok {s : Int} {p : Pkt} (h : peelB s p = true) : okPeelB (peelL s p) = true := by
  have hv := peelL_valid h
  obtain ⟨_, _, _, h4, h5⟩ := peelB_iff.1 h
  simp only [okPeelB, Bool.and_eq_true]
  exact ⟨⟨h4, h5⟩, hv⟩
end
end Go.Proofs.Ytoocjalhcliebaa
