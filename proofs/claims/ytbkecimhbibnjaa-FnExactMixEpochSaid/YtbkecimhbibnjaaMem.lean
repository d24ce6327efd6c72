/-
  Words for slices of integers in memory: a slice that reads as a list, a slice that the call made.
  No condition.
-/
import Derived.WalkKit
import Derived.Below
import Derived.Laws.OwnMore
import Derived.OwnWalk
import Derived.Deep.Draws
namespace Go.Proofs.Ytbkecimhbibnjaa
open Go Go.RowKit

/-- The slice '.slice A n _' reads as xs; its block lies in [lo, hi). -/
def SlR (k : IntKind) (w : World) (lo hi : Nat) (A : Option Addr) (n : Nat) (xs : List Int) : Prop :=
  xs.length = n ∧ hi ≤ w.heap.size ∧ (0 < n → ∃ b o, A = some ⟨b, o, none⟩ ∧ lo ≤ b ∧ b < hi ∧ ∀ j, j < n → w.cell? ⟨b, o + j, none⟩ = some (.int k (xs.getD j 0)))

section
variable {k : IntKind} {w w' : World} {lo hi n : Nat} {A : Option Addr} {xs : List Int}
theorem SlR.len (h : SlR k w lo hi A n xs) : xs.length = n := h.1
theorem SlR.hi_le (h : SlR k w lo hi A n xs) : hi ≤ w.heap.size := h.2.1
theorem SlR.nil (hh : hi ≤ w.heap.size) (A : Option Addr) : SlR k w lo hi A 0 [] := ⟨rfl, hh, fun h => absurd h (by omega)⟩
theorem SlR.keep (h : SlR k w lo hi A n xs) (hs : hi ≤ w'.heap.size) (hk : ∀ b, lo ≤ b → b < hi → w'.heap[b]? = w.heap[b]?) : SlR k w' lo hi A n xs :=
  ⟨h.1, hs, fun hn => by
    obtain ⟨b, o, e, hl, hb, hc⟩ := h.2.2 hn
    exact ⟨b, o, e, hl, hb, fun j hj => (World.cell?_of_block (a := ⟨b, o + j, none⟩) (hk b hl hb)).trans (hc j hj)⟩⟩
theorem SlR.below {B : Nat} (h : SlR k w lo hi A n xs) (hb : Below B w w') (hB : hi ≤ B) : SlR k w' lo hi A n xs :=
  h.keep (Nat.le_trans h.2.1 hb.size) fun b _ hlt => hb.block b (by omega)
theorem SlR.drew (h : SlR k w lo hi A n xs) : SlR k w.drew lo hi A n xs := h
theorem SlR.drewN (h : SlR k w lo hi A n xs) (m : Nat) : SlR k (w.drewN m) lo hi A n xs := h
theorem SlR.alloc (h : SlR k w lo hi A n xs) (o : Obj) : SlR k (w.alloc o) lo hi A n xs :=
  h.keep (by simp; have := h.2.1; omega) fun b _ hlt => Below.heap_alloc w o b (Nat.lt_of_lt_of_le hlt h.2.1)
theorem SlR.setCell (h : SlR k w lo hi A n xs) {p : Addr} (hp : p.block < lo ∨ hi ≤ p.block) (u : Value) : SlR k (w.setCell p u) lo hi A n xs :=
  h.keep (by simpa [World.setCell] using h.2.1) fun b hl hlt => Below.heap_setCell w p u b (by omega)
theorem SlR.grown {row : Option Nat} (h : SlR k w lo hi A n xs) (hg : w.grownBy w' row) (hr : ∀ g, row = some g → g < lo ∨ hi ≤ g) : SlR k w' lo hi A n xs :=
  h.keep (Nat.le_trans h.2.1 hg.size) fun b hl hlt => hg.block b (Nat.lt_of_lt_of_le hlt h.2.1) (fun e => by have := hr b e.symm; omega)
theorem SlR.wider {lo' hi' : Nat} (h : SlR k w lo hi A n xs) (hl : lo' ≤ lo) (hh : hi ≤ hi') (hs : hi' ≤ w.heap.size) : SlR k w lo' hi' A n xs :=
  ⟨h.1, hs, fun hn => by
    obtain ⟨b, o, e, h1, h2, hc⟩ := h.2.2 hn
    exact ⟨b, o, e, by omega, by omega, hc⟩⟩
theorem SlR.at_ (h : SlR k w lo hi A n xs) (hn : 0 < n) : ∃ b o, A = some ⟨b, o, none⟩ ∧ lo ≤ b ∧ b < hi ∧ ∀ j, j < n → w.cell? ⟨b, o + j, none⟩ = some (.int k (xs.getD j 0)) := h.2.2 hn
theorem SlR.take_ (h : SlR k w lo hi A n xs) {j : Nat} (hj : j ≤ n) : SlR k w lo hi A j (xs.take j) :=
  ⟨by rw [List.length_take, h.1]; omega, h.2.1, fun hn => by
    obtain ⟨b, o, e, h1, h2, hc⟩ := h.2.2 (by omega)
    refine ⟨b, o, e, h1, h2, fun i hi => ?_⟩
    rw [hc i (by omega)]
    simp [List.getD_eq_getElem?_getD, hi]⟩
theorem SlR.drop_ (h : SlR k w lo hi A n xs) {j : Nat} (hj : j ≤ n) {A' : Option Addr} (hA : ∀ b o, A = some ⟨b, o, none⟩ → j < n → A' = some ⟨b, o + j, none⟩) : SlR k w lo hi A' (n - j) (xs.drop j) :=
  ⟨by rw [List.length_drop, h.1], h.2.1, fun hn => by
    obtain ⟨b, o, e, h1, h2, hc⟩ := h.2.2 (by omega)
    refine ⟨b, o + j, hA b o e (by omega), h1, h2, fun i hi => ?_⟩
    rw [Nat.add_assoc, hc (j + i) (by omega)]
    simp [List.getD_eq_getElem?_getD, List.getElem?_drop]⟩
theorem SlR.of_cells {x : Addr} {zs : List Int} (hl : n ≤ zs.length) (hc : ∀ i, i < zs.length → w.cell? (x.add i) = some (.int k (zs.getD i 0))) : SlR k w 0 w.heap.size (some x) n (zs.take n) := by
  refine ⟨by rw [List.length_take]; omega, Nat.le_refl _, fun hn => ?_⟩
  have h0 := hc 0 (by omega)
  have hx : x.add 0 = x := by simp [Addr.add]
  rw [hx] at h0
  have hs := World.cell?_spot h0
  have hb := World.block_lt_of_cell? w x h0
  obtain ⟨b, o, sp⟩ := x
  simp only at hs hb
  subst hs
  refine ⟨b, o, rfl, Nat.zero_le _, hb, fun j hj => ?_⟩
  have h1 := hc j (by omega)
  have h2 : Addr.add ⟨b, o, none⟩ j = ⟨b, o + j, none⟩ := by
    unfold Addr.add
    split
    · subst_vars; simp
    · rfl
  rw [h2] at h1
  rw [h1]
  simp [List.getD_eq_getElem?_getD, hj]
end

/-- The slice '.slice A n c' (elements of type T, int) is the call's own: its block lies in [lo, hi), and it holds xs. -/
def OwnR (T : TypeId) (w : World) (lo hi : Nat) (A : Option Addr) (n c : Nat) (xs : List Int) : Prop :=
  w.ownsRow lo T 1 (.slice A n c) n (xs.map (Value.int .i64)) ∧ hi ≤ w.heap.size ∧ (∀ a, A = some a → a.block < hi)

section
variable {T : TypeId} {w w' : World} {lo hi n c : Nat} {A : Option Addr} {xs : List Int}
theorem OwnR.len (h : OwnR T w lo hi A n c xs) : xs.length = n := by simpa using h.1.1
theorem OwnR.of_owns (h : w.ownsRow lo T 1 (.slice A n c) n (xs.map (Value.int .i64))) : OwnR T w lo w.heap.size A n c xs :=
  ⟨h, Nat.le_refl _, fun a ha => by subst ha; exact (h.lt a.block rfl).2⟩
theorem OwnR.keep (h : OwnR T w lo hi A n c xs) (hs : hi ≤ w'.heap.size) (hk : ∀ b, lo ≤ b → b < hi → w'.heap[b]? = w.heap[b]?) : OwnR T w' lo hi A n c xs := by
  obtain ⟨⟨h1, h2⟩, h3, h4⟩ := h
  refine ⟨⟨h1, ?_⟩, hs, h4⟩
  rcases h2 with h2 | ⟨g, cap, cur, e, hb, hg, rest⟩
  · exact .inl h2
  · refine .inr ⟨g, cap, cur, e, hb, ?_, rest⟩
    injection e with e _ _
    rw [hk g hb (h4 _ e)]; exact hg
theorem OwnR.below {B : Nat} (h : OwnR T w lo hi A n c xs) (hb : Below B w w') (hB : hi ≤ B) : OwnR T w' lo hi A n c xs :=
  h.keep (Nat.le_trans h.2.1 hb.size) fun b _ hlt => hb.block b (by omega)
theorem OwnR.drew (h : OwnR T w lo hi A n c xs) : OwnR T w.drew lo hi A n c xs := h
theorem OwnR.drewN (h : OwnR T w lo hi A n c xs) (m : Nat) : OwnR T (w.drewN m) lo hi A n c xs := h
theorem OwnR.alloc (h : OwnR T w lo hi A n c xs) (o : Obj) : OwnR T (w.alloc o) lo hi A n c xs :=
  h.keep (by simp; have := h.2.1; omega) fun b _ hlt => Below.heap_alloc w o b (Nat.lt_of_lt_of_le hlt h.2.1)
theorem OwnR.setCell (h : OwnR T w lo hi A n c xs) {p : Addr} (hp : p.block < lo ∨ hi ≤ p.block) (u : Value) : OwnR T (w.setCell p u) lo hi A n c xs :=
  h.keep (by simpa [World.setCell] using h.2.1) fun b hl hlt => Below.heap_setCell w p u b (by omega)
theorem OwnR.grown {row : Option Nat} (h : OwnR T w lo hi A n c xs) (hg : w.grownBy w' row) (hr : ∀ g, row = some g → g < lo ∨ hi ≤ g) : OwnR T w' lo hi A n c xs :=
  h.keep (Nat.le_trans h.2.1 hg.size) fun b hl hlt => hg.block b (Nat.lt_of_lt_of_le hlt h.2.1) (fun e => by have := hr b e.symm; omega)
theorem OwnR.wider {lo' hi' : Nat} (h : OwnR T w lo hi A n c xs) (hl : lo' ≤ lo) (hh : hi ≤ hi') (hs : hi' ≤ w.heap.size) : OwnR T w lo' hi' A n c xs := by
  obtain ⟨⟨h1, h2⟩, h3, h4⟩ := h
  refine ⟨⟨h1, ?_⟩, hs, fun a ha => Nat.lt_of_lt_of_le (h4 a ha) hh⟩
  rcases h2 with h2 | ⟨g, cap, cur, e, hb, rest⟩
  · exact .inl h2
  · exact .inr ⟨g, cap, cur, e, Nat.le_trans hl hb, rest⟩
theorem OwnR.read (h : OwnR T w lo hi A n c xs) : SlR .i64 w lo hi A n xs := by
  have hl := h.len
  obtain ⟨h1, h3, h4⟩ := h
  refine ⟨hl, h3, fun hn => ?_⟩
  rcases h1.2 with ⟨_, rfl⟩ | ⟨g, cap, cur, e, hb, rest⟩
  · omega
  · injection e with e1 e2 e3
    subst e1 e3
    refine ⟨g, 0, rfl, hb, h4 _ rfl, fun j hj => ?_⟩
    rw [Nat.zero_add, h1.cellAt j (by omega)]
    simp [List.getD_eq_getElem?_getD, hl, hj]
theorem OwnR.at_ (h : OwnR T w lo hi A n c xs) (hn : 0 < n) : ∃ g, A = some ⟨g, 0, none⟩ ∧ lo ≤ g ∧ g < hi ∧ (∀ j, j < n → w.cell? ⟨g, j, none⟩ = some (.int .i64 (xs.getD j 0))) ∧ ∀ j, w.frozen? ⟨g, j, none⟩ = false := by
  have hl := h.len
  obtain ⟨h1, h3, h4⟩ := h
  rcases h1.2 with ⟨_, rfl⟩ | ⟨g, cap, cur, e, hb, rest⟩
  · omega
  · injection e with e1 e2 e3
    subst e1 e3
    refine ⟨g, rfl, hb, h4 _ rfl, fun j hj => ?_, fun j => h1.frozenAt j⟩
    rw [h1.cellAt j (by omega)]
    simp [List.getD_eq_getElem?_getD, hl, hj]
theorem OwnR.nil (hh : hi ≤ w.heap.size) : OwnR T w lo hi none 0 0 [] := ⟨World.ownsRow_nil _ _ _ _, hh, fun a ha => by cases ha⟩
end
end Go.Proofs.Ytbkecimhbibnjaa
