/-
  Contracts of the functions that copy the peeled packets and mixes that came in.
  Conditions: the slices read as lists.
-/
import Derived.Test.YtoocjalhcliebaaPoolO
import Derived.Test.YtoocjalhcliebaaMixS
namespace Go.Proofs.Ytoocjalhcliebaa
open Go Go.RowKit

/-- A call that returns a peeled packet in new memory. -/
def NewPl (k x e t : Int) (h b : List Int) (w : World) (en : Ending) (w' : World) : Prop :=
  ∃ A n c A2 n2 c2, en = .returned (.agg #[.int .i64 k, .int .i64 x, .int .i64 e, .slice A n c, .int .i64 t, .slice A2 n2 c2]) ∧ TwoO w' w.heap.size w'.heap.size h b A n c A2 n2 c2 ∧ Below w.heap.size w w'
theorem infoPeel : (Try.prog.info? 47).map (fun i => (i.zero, i.size, i.bytes)) = some (some (.agg #[.int .i64 0, .int .i64 0, .int .i64 0, .slice none 0 0, .int .i64 0, .slice none 0 0]), 6, 80) := by kernel_rfl
theorem info_peel : ∃ i, Try.prog.info? 47 = some i ∧ i.zero = some (.agg #[.int .i64 0, .int .i64 0, .int .i64 0, .slice none 0 0, .int .i64 0, .slice none 0 0]) ∧ i.size = 6 ∧ i.bytes = 80 := by
  obtain ⟨i, hi, hz⟩ := Option.map_eq_some_iff.1 infoPeel
  simp only [Prod.mk.injEq] at hz
  exact ⟨i, hi, hz⟩
theorem make_peels (n m : Nat) (hnm : n ≤ m) (hn : m ≤ 1048577) (W : World) : (Instr.makeSlice 24 (.int .i64 (n : Int)) (.int .i64 (m : Int))).run Try.prog W = .ok (.slice (some ⟨W.heap.size, 0, none⟩) n m) (W.alloc (.cells (madeCells #[.int .i64 0, .int .i64 0, .int .i64 0, .slice none 0 0, .int .i64 0, .slice none 0 0] (m * 6)) 47)) := by
  obtain ⟨i, hi, hz, hs, hb⟩ := info_peel
  have hr := run_make (P := Try.prog) W 24 47 i (.agg #[.int .i64 0, .int .i64 0, .int .i64 0, .slice none 0 0, .int .i64 0, .slice none 0 0]) Try.underlying24 hi hz .i64 .i64 n m (by omega) (by omega) (by rw [hb]; omega) (by omega)
  simpa [hs, Value.cells] using hr
/-- What a call that returns a new list of peeled packets leaves. -/
def NewPool (pl : List Peel) (w : World) (e : Ending) (w' : World) : Prop :=
  ∃ A n c, e = .returned (.slice A n c) ∧ PoolO w' w.heap.size w'.heap.size A n c pl ∧ Below w.heap.size w w'
theorem PoolK.cell {w : World} {lo hi g n c k : Nat} {pl : List Peel} (h : PoolK w lo hi (.slice (some ⟨g, 0, none⟩) n c) n k pl) (j : Nat) (hj : j < n * 6) : ∃ v, w.cell? ⟨g, j, none⟩ = some v := by
  obtain ⟨_, _, vals, a, b, hown, _⟩ := h
  have hl : vals.length = n * 6 := hown.1
  exact ⟨_, (hown.cellAt j hj).trans (List.getElem?_eq_getElem (by omega))⟩
theorem PoolK.frozen {w : World} {lo hi g n c k : Nat} {pl : List Peel} (h : PoolK w lo hi (.slice (some ⟨g, 0, none⟩) n c) n k pl) (j : Nat) : w.frozen? ⟨g, j, none⟩ = false := by
  obtain ⟨_, _, vals, a, b, hown, _⟩ := h
  exact hown.frozenAt j
end Go.Proofs.Ytoocjalhcliebaa
