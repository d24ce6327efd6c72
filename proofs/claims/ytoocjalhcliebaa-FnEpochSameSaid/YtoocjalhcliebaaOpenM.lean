/-
  Mixes that came in, opened to their lists.
  No condition.
-/
import Derived.Test.YtoocjalhcliebaaMixW
import Derived.Deep.Slices
import Derived.Deep.Fields
import Derived.ChangeSame
import Derived.Lib.SmallJoins
import Derived.OpenShut
import Derived.ChangeOld
namespace Go.Proofs.Ytoocjalhcliebaa
open Go Go.RowKit Go.ChangeShapes Go.WideShapes Go.Deep

theorem list_of_all {P : Nat → Peel → Prop} : ∀ (n : Nat), (∀ j, j < n → ∃ x, P j x) → ∃ pl : List Peel, pl.length = n ∧ ∀ j, j < n → P j (pl.getD j zeroPeel)
  | 0, _ => ⟨[], rfl, fun j hj => absurd hj (by omega)⟩
  | n + 1, h => by
    obtain ⟨pl, hl, hp⟩ := list_of_all n (fun j hj => h j (by omega))
    obtain ⟨x, hx⟩ := h n (by omega)
    refine ⟨pl ++ [x], by simp [hl], fun j hj => ?_⟩
    by_cases e : j = n
    · subst e
      have : (pl ++ [x]).getD j zeroPeel = x := by simp [List.getD_eq_getElem?_getD, ← hl]
      rw [this]; exact hx
    · have : (pl ++ [x]).getD j zeroPeel = pl.getD j zeroPeel := by simp [List.getD_eq_getElem?_getD, List.getElem?_append_left (show j < pl.length by omega)]
      rw [this]; exact hp j (by omega)
section
variable {H : Type} {enc : TypeId × Value → H} {w : World} {spare : Nat → Bool} {held : Bool}
theorem open_list {n : Nat} {u : Value} {x : DataW H × List MemPlace} (h : DataW.trod enc Try.prog w 0 spare held n 23 [u] = some x) :
    ∃ A n c xs, u = .slice A n c ∧ SlR .i64 w 0 w.heap.size A n xs ∧ n ≤ c ∧ c ≤ 9223372036854775807 := by
  rcases open_ints Try.underlying23 Try.underlying3 (by kernel_rfl) h with ⟨hcs, _⟩ | ⟨x, l, c, zs, hcs, _, hl, hm, hz, _, hcell, hwz⟩
  · exact ⟨none, 0, 0, [], by simpa using hcs, SlR.nil (Nat.le_refl _) _, Nat.le_refl _, Nat.zero_le _⟩
  · refine ⟨some x, l, c, zs.take l, by simpa using hcs, SlR.of_cells ?_ hcell, hl, hm⟩
    rw [hz]; split <;> omega
theorem open_int1 {n : Nat} {u : Value} {x : DataW H × List MemPlace} (h : DataW.trod enc Try.prog w 0 spare held n 3 [u] = some x) : ∃ i : Int, u = .int .i64 i := by
  obtain ⟨i, hi, _⟩ := DataW.trod_int Try.underlying3 h
  exact ⟨i, by simpa using hi⟩
theorem cellsInt : Try.prog.cellsOf 3 = 1 := by kernel_rfl
theorem cellsInts : Try.prog.cellsOf 23 = 1 := by kernel_rfl
end
end Go.Proofs.Ytoocjalhcliebaa
