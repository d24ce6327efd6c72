/-
  Words for lists of peeled packets in memory.
  No condition.
-/
import Derived.Test.YtoocjalhcliebaaPktV
import Derived.Test.YtoocjalhcliebaaPeelW
namespace Go.Proofs.Ytoocjalhcliebaa
open Go Go.RowKit

/-- Six cells from place o of block b on read as a peeled packet; its lists lie in [lo, hi). -/
def PeelAt (w : World) (lo hi b o : Nat) (x : Peel) : Prop :=
  ∃ A n c A2 n2 c2, (w.cell? ⟨b, o, none⟩ = some (.int .i64 x.kind) ∧ w.cell? ⟨b, o + 1, none⟩ = some (.int .i64 x.next) ∧ w.cell? ⟨b, o + 2, none⟩ = some (.int .i64 x.p.e) ∧ w.cell? ⟨b, o + 3, none⟩ = some (.slice A n c) ∧ w.cell? ⟨b, o + 4, none⟩ = some (.int .i64 x.p.t) ∧ w.cell? ⟨b, o + 5, none⟩ = some (.slice A2 n2 c2)) ∧
    TwoR w lo hi x.p.h x.p.b A n c A2 n2 c2
/-- The slice '.slice A n _' of peeled packets reads as pl; its block and the lists lie in [lo, hi). -/
def PoolR (w : World) (lo hi : Nat) (A : Option Addr) (n : Nat) (pl : List Peel) : Prop :=
  pl.length = n ∧ hi ≤ w.heap.size ∧ (0 < n → ∃ b o, A = some ⟨b, o, none⟩ ∧ lo ≤ b ∧ b < hi ∧ ∀ j, j < n → PeelAt w lo hi b (o + j * 6) (pl.getD j zeroPeel))
section
variable {w w' : World} {lo hi lo2 hi2 b o n : Nat} {A : Option Addr} {x : Peel} {pl : List Peel}
theorem PeelAt.keep (h : PeelAt w lo hi b o x) (hs : hi ≤ w'.heap.size) (hb : lo ≤ b ∧ b < hi) (hk : ∀ b, lo ≤ b → b < hi → w'.heap[b]? = w.heap[b]?) : PeelAt w' lo hi b o x := by
  obtain ⟨A, n, c, A2, n2, c2, ⟨h0, h1, h2, h3, h4, h5⟩, t⟩ := h
  have e : ∀ i, w'.cell? ⟨b, i, none⟩ = w.cell? ⟨b, i, none⟩ := fun i => World.cell?_of_block (a := ⟨b, i, none⟩) (hk b hb.1 hb.2)
  exact ⟨A, n, c, A2, n2, c2, ⟨(e _).trans h0, (e _).trans h1, (e _).trans h2, (e _).trans h3, (e _).trans h4, (e _).trans h5⟩, t.keep hs hk⟩
theorem PoolR.keep (h : PoolR w lo hi A n pl) (hs : hi ≤ w'.heap.size) (hk : ∀ b, lo ≤ b → b < hi → w'.heap[b]? = w.heap[b]?) : PoolR w' lo hi A n pl :=
  ⟨h.1, hs, fun hn => by
    obtain ⟨b, o, e, hl, hb, hc⟩ := h.2.2 hn
    exact ⟨b, o, e, hl, hb, fun j hj => (hc j hj).keep hs ⟨hl, hb⟩ hk⟩⟩
theorem PoolR.len (h : PoolR w lo hi A n pl) : pl.length = n := h.1
theorem PoolR.hi_le (h : PoolR w lo hi A n pl) : hi ≤ w.heap.size := h.2.1
theorem PoolR.nil (hh : hi ≤ w.heap.size) (A : Option Addr) : PoolR w lo hi A 0 [] := ⟨rfl, hh, fun h => absurd h (by omega)⟩
theorem PoolR.below {B : Nat} (h : PoolR w lo hi A n pl) (hb : Below B w w') (hB : hi ≤ B) : PoolR w' lo hi A n pl := h.keep (Nat.le_trans h.2.1 hb.size) fun b _ hlt => hb.block b (by omega)
theorem PoolR.grown {row : Option Nat} (h : PoolR w lo hi A n pl) (hg : w.grownBy w' row) (hr : ∀ g, row = some g → g < lo ∨ hi ≤ g) : PoolR w' lo hi A n pl :=
  h.keep (Nat.le_trans h.2.1 hg.size) fun b hl hlt => hg.block b (Nat.lt_of_lt_of_le hlt h.2.1) (fun e => by have := hr b e.symm; omega)
theorem PoolR.only (h : PoolR w lo hi A n pl) (ho : Only lo2 hi2 w w') (hd : hi ≤ lo2 ∨ hi2 ≤ lo) : PoolR w' lo hi A n pl :=
  h.keep (Nat.le_trans h.2.1 ho.size) fun b hl hlt => ho.block b (Nat.lt_of_lt_of_le hlt h.2.1) (by omega)
theorem PoolR.alloc (h : PoolR w lo hi A n pl) (o : Obj) : PoolR (w.alloc o) lo hi A n pl :=
  h.keep (by simp; have := h.2.1; omega) fun b _ hlt => Below.heap_alloc w o b (Nat.lt_of_lt_of_le hlt h.2.1)
theorem PoolR.drew (h : PoolR w lo hi A n pl) : PoolR w.drew lo hi A n pl := h
theorem PoolR.drewN (h : PoolR w lo hi A n pl) (m : Nat) : PoolR (w.drewN m) lo hi A n pl := h
theorem PoolR.wider {lo' hi' : Nat} (h : PoolR w lo hi A n pl) (hl : lo' ≤ lo) (hh : hi ≤ hi') (hs : hi' ≤ w.heap.size) : PoolR w lo' hi' A n pl :=
  ⟨h.1, hs, fun hn => by
    obtain ⟨b, o, e, h1, h2, hc⟩ := h.2.2 hn
    refine ⟨b, o, e, by omega, by omega, fun j hj => ?_⟩
    obtain ⟨A, n, c, A2, n2, c2, hq, t⟩ := hc j hj
    exact ⟨A, n, c, A2, n2, c2, hq, t.wider hl hh hs⟩⟩
theorem PoolR.at_ (h : PoolR w lo hi A n pl) (hn : 0 < n) : ∃ b o, A = some ⟨b, o, none⟩ ∧ lo ≤ b ∧ b < hi ∧ ∀ j, j < n → PeelAt w lo hi b (o + j * 6) (pl.getD j zeroPeel) := h.2.2 hn
end
/-- The lists of the peeled packets are no longer than N. -/
def PlB (N : Nat) (pl : List Peel) : Prop := ∀ x ∈ pl, x.p.h.length ≤ N ∧ x.p.b.length ≤ N
theorem plGet {pl : List Peel} {j : Nat} (h : j < pl.length) : pl.getD j zeroPeel ∈ pl := by
  rw [List.getD_eq_getElem?_getD, List.getElem?_eq_getElem h]; exact List.getElem_mem h
theorem PlB.at_ {N : Nat} {pl : List Peel} (h : PlB N pl) {j : Nat} (hj : j < pl.length) : (pl.getD j zeroPeel).p.h.length ≤ N ∧ (pl.getD j zeroPeel).p.b.length ≤ N := h _ (plGet hj)
theorem PlB.of_at {N : Nat} {pl : List Peel} {n : Nat} (hn : pl.length = n) (h : ∀ j, j < n → (pl.getD j zeroPeel).p.h.length ≤ N ∧ (pl.getD j zeroPeel).p.b.length ≤ N) : PlB N pl := by
  intro x hx
  obtain ⟨j, hj, rfl⟩ := List.getElem_of_mem hx
  have := h j (by omega)
  simpa [List.getD_eq_getElem?_getD, hj] using this
end Go.Proofs.Ytoocjalhcliebaa
