/-
  Mixes that came in, opened to their lists.
  No condition.
-/
import Derived.Test.YtbkecimhbibnjaaMixW
import Derived.Deep.Slices
import Derived.Deep.Fields
import Derived.ChangeSame
import Derived.Lib.SmallJoins
import Derived.OpenShut
import Derived.ChangeOld
namespace Go.Proofs.Ytbkecimhbibnjaa
open Go Go.RowKit Go.ChangeShapes Go.WideShapes Go.Deep

theorem list_of_all {P : Nat → Peel → Prop} : ∀ (n : Nat), (∀ j, j < n → ∃ x, P j x) → ∃ pl : List Peel, pl.length = n ∧ ∀ j, j < n → P j (pl.getD j zeroPeel)
  | 0, _ => ⟨[], rfl, fun j hj => absurd hj (by omega)⟩
  | n + 1, h => by
    obtain ⟨pl, hl, hp⟩ := list_of_all n (fun j hj => h j (by omega))
    obtain ⟨x, hx⟩ := h n (by omega)
    refine ⟨pl ++ [x], by simp [hl], fun j hj => ?_⟩
    by_cases e : j = n
    · subst e
      have : (pl ++ [x]).getD j zeroPeel = x := by simp [List.getD_eq_getElem?_getD, ← hl]
      rw [this]; exact hx
    · have : (pl ++ [x]).getD j zeroPeel = pl.getD j zeroPeel := by simp [List.getD_eq_getElem?_getD, List.getElem?_append_left (show j < pl.length by omega)]
      rw [this]; exact hp j (by omega)
section
variable {H : Type} {enc : TypeId × Value → H} {w : World} {spare : Nat → Bool} {held : Bool}
theorem open_list {n : Nat} {u : Value} {x : DataW H × List MemPlace} (h : DataW.trod enc Try.prog w 0 spare held n 23 [u] = some x) :
    ∃ A n c xs, u = .slice A n c ∧ SlR .i64 w 0 w.heap.size A n xs ∧ n ≤ c ∧ c ≤ 9223372036854775807 := by
  rcases open_ints Try.underlying23 Try.underlying3 (by kernel_rfl) h with ⟨hcs, _⟩ | ⟨x, l, c, zs, hcs, _, hl, hm, hz, _, hcell, hwz⟩
  · exact ⟨none, 0, 0, [], by simpa using hcs, SlR.nil (Nat.le_refl _) _, Nat.le_refl _, Nat.zero_le _⟩
  · refine ⟨some x, l, c, zs.take l, by simpa using hcs, SlR.of_cells ?_ hcell, hl, hm⟩
    rw [hz]; split <;> omega
theorem open_int1 {n : Nat} {u : Value} {x : DataW H × List MemPlace} (h : DataW.trod enc Try.prog w 0 spare held n 3 [u] = some x) : ∃ i : Int, u = .int .i64 i := by
  obtain ⟨i, hi, _⟩ := DataW.trod_int Try.underlying3 h
  exact ⟨i, by simpa using hi⟩
theorem cellsPacket : Try.prog.cellsOf 102 = 4 := by kernel_rfl
theorem cellsPeeled : Try.prog.cellsOf 104 = 6 := by kernel_rfl
theorem cellsInt : Try.prog.cellsOf 3 = 1 := by kernel_rfl
theorem cellsInts : Try.prog.cellsOf 23 = 1 := by kernel_rfl
set_option maxRecDepth 100000 in
theorem open_pkt {n : Nat} {cs : List Value} {x : DataW H × List MemPlace} (h : DataW.trod enc Try.prog w 0 spare held n 102 cs = some x) :
    ∃ e A n c t A2 n2 c2 hh b, cs = [.int .i64 e, .slice A n c, .int .i64 t, .slice A2 n2 c2] ∧ TwoR w 0 w.heap.size hh b A n c A2 n2 c2 ∧ c ≤ 9223372036854775807 ∧ c2 ≤ 9223372036854775807 := by
  obtain ⟨xs, m, _, _, hlen, hxl, hf⟩ := DataW.trod_struct Try.underlying102 h
  rw [cellsPacket] at hlen
  match cs, hlen with
  | [c0, c1, c2, c3], _ =>
    match xs, hxl with
    | [y0, y1, y2, y3], _ =>
      have f0 : DataW.trod enc Try.prog w 0 spare held m 3 ((List.drop 0 [c0, c1, c2, c3]).take (Try.prog.cellsOf 3)) = some y0 := hf 0 _ rfl
      have f1 : DataW.trod enc Try.prog w 0 spare held m 23 ((List.drop 1 [c0, c1, c2, c3]).take (Try.prog.cellsOf 23)) = some y1 := hf 1 _ rfl
      have f2 : DataW.trod enc Try.prog w 0 spare held m 3 ((List.drop 2 [c0, c1, c2, c3]).take (Try.prog.cellsOf 3)) = some y2 := hf 2 _ rfl
      have f3 : DataW.trod enc Try.prog w 0 spare held m 23 ((List.drop 3 [c0, c1, c2, c3]).take (Try.prog.cellsOf 23)) = some y3 := hf 3 _ rfl
      rw [cellsInt] at f0 f2
      rw [cellsInts] at f1 f3
      obtain ⟨i0, rfl⟩ := open_int1 (show DataW.trod enc Try.prog w 0 spare held m 3 [c0] = some y0 from f0)
      obtain ⟨A, n, c, hh, rfl, s1, l1, m1⟩ := open_list (show DataW.trod enc Try.prog w 0 spare held m 23 [c1] = some y1 from f1)
      obtain ⟨i2, rfl⟩ := open_int1 (show DataW.trod enc Try.prog w 0 spare held m 3 [c2] = some y2 from f2)
      obtain ⟨A2, n2, c2', b, rfl, s2, l2, m2⟩ := open_list (show DataW.trod enc Try.prog w 0 spare held m 23 [c3] = some y3 from f3)
      exact ⟨i0, A, n, c, i2, A2, n2, c2', hh, b, rfl, ⟨s1, s2, l1, l2⟩, m1, m2⟩
set_option maxRecDepth 100000 in
theorem open_peel {n : Nat} {cs : List Value} {x : DataW H × List MemPlace} (h : DataW.trod enc Try.prog w 0 spare held n 104 cs = some x) :
    ∃ k nx e A n c t A2 n2 c2 hh b, cs = [.int .i64 k, .int .i64 nx, .int .i64 e, .slice A n c, .int .i64 t, .slice A2 n2 c2] ∧ TwoR w 0 w.heap.size hh b A n c A2 n2 c2 ∧ c ≤ 9223372036854775807 ∧ c2 ≤ 9223372036854775807 := by
  obtain ⟨xs, m, _, _, hlen, hxl, hf⟩ := DataW.trod_struct Try.underlying104 h
  rw [cellsPeeled] at hlen
  match cs, hlen with
  | [c0, c1, c2, c3, c4, c5], _ =>
    match xs, hxl with
    | [y0, y1, y2], _ =>
      have f0 : DataW.trod enc Try.prog w 0 spare held m 3 ((List.drop 0 [c0, c1, c2, c3, c4, c5]).take (Try.prog.cellsOf 3)) = some y0 := hf 0 _ rfl
      have f1 : DataW.trod enc Try.prog w 0 spare held m 3 ((List.drop 1 [c0, c1, c2, c3, c4, c5]).take (Try.prog.cellsOf 3)) = some y1 := hf 1 _ rfl
      have f2 : DataW.trod enc Try.prog w 0 spare held m 102 ((List.drop 2 [c0, c1, c2, c3, c4, c5]).take (Try.prog.cellsOf 102)) = some y2 := hf 2 _ rfl
      rw [cellsInt] at f0 f1
      rw [cellsPacket] at f2
      obtain ⟨i0, rfl⟩ := open_int1 (show DataW.trod enc Try.prog w 0 spare held m 3 [c0] = some y0 from f0)
      obtain ⟨i1, rfl⟩ := open_int1 (show DataW.trod enc Try.prog w 0 spare held m 3 [c1] = some y1 from f1)
      obtain ⟨e, A, n, c, t, A2, n2, c2', hh, b, hq, tw, m1, m2⟩ := open_pkt (show DataW.trod enc Try.prog w 0 spare held m 102 [c2, c3, c4, c5] = some y2 from f2)
      injection hq with q2 hq
      injection hq with q3 hq
      injection hq with q4 hq
      injection hq with q5 hq
      subst q2 q3 q4 q5
      exact ⟨i0, i1, e, A, n, c, t, A2, n2, c2', hh, b, rfl, tw, m1, m2⟩
theorem open_peels {n : Nat} {u : Value} {x : DataW H × List MemPlace} (h : DataW.trod enc Try.prog w 0 spare held n 35 [u] = some x) :
    ∃ A n c pl, u = .slice A n c ∧ PoolR w 0 w.heap.size A n pl ∧ n ≤ c ∧ c ≤ 9223372036854775807 ∧ ∀ x ∈ pl, x.p.h.length ≤ 9223372036854775807 ∧ x.p.b.length ≤ 9223372036854775807 := by
  rcases open_slice Try.underlying35 h with ⟨hcs, _⟩ | ⟨a, len, cap, m, n', D, Pl, hcs, _, hl, hm, hmm, _, hi⟩
  · exact ⟨none, 0, 0, [], by simpa using hcs, PoolR.nil (Nat.le_refl _) _, Nat.le_refl _, Nat.zero_le _, by simp⟩
  · have hlm : len ≤ m := by rw [hmm]; split <;> omega
    have hx : ∀ j, j < len → ∃ X : Peel, (∃ A n c A2 n2 c2, (w.cell? ((a.add (j * 6)).add 0) = some (.int .i64 X.kind) ∧ w.cell? ((a.add (j * 6)).add 1) = some (.int .i64 X.next) ∧ w.cell? ((a.add (j * 6)).add 2) = some (.int .i64 X.p.e) ∧ w.cell? ((a.add (j * 6)).add 3) = some (.slice A n c) ∧ w.cell? ((a.add (j * 6)).add 4) = some (.int .i64 X.p.t) ∧ w.cell? ((a.add (j * 6)).add 5) = some (.slice A2 n2 c2)) ∧
        TwoR w 0 w.heap.size X.p.h X.p.b A n c A2 n2 c2) ∧ X.p.h.length ≤ 9223372036854775807 ∧ X.p.b.length ≤ 9223372036854775807 := by
      intro j hj
      obtain ⟨cs', hc, ht⟩ := hi j (by omega)
      rw [cellsPeeled] at hc
      obtain ⟨k, nx, e, A, n, c, t, A2, n2, c2, hh, b, rfl, tw, m1, m2⟩ := open_peel ht
      obtain ⟨_, hcl, hat⟩ := World.cells?_some hc
      have hlen := tw.len
      have hcp := tw.2.2
      exact ⟨⟨k, nx, ⟨e, hh, t, b⟩⟩, ⟨A, n, c, A2, n2, c2, ⟨hat 0 (by omega), hat 1 (by omega), hat 2 (by omega), hat 3 (by omega), hat 4 (by omega), hat 5 (by omega)⟩, tw⟩, by show hh.length ≤ _; omega, by show b.length ≤ _; omega⟩
    obtain ⟨pl, hpl, hp⟩ := list_of_all len hx
    refine ⟨some a, len, cap, pl, by simpa using hcs, ⟨hpl, Nat.le_refl _, fun hn => ?_⟩, hl, hm, ?_⟩
    · obtain ⟨⟨A, n, c, A2, n2, c2, ⟨h0, _⟩, _⟩, _⟩ := hp 0 hn
      have hs := World.cell?_spot h0
      have hb := World.block_lt_of_cell? w _ h0
      obtain ⟨b, o, sp⟩ := a
      have hsp : sp = none := by
        cases sp with
        | none => rfl
        | some s => simp [Addr.add] at hs
      subst hsp
      have ea : ∀ i j, (Addr.add (Addr.add ⟨b, o, none⟩ i) j) = ⟨b, o + i + j, none⟩ := fun i j => by rw [add_off, add_off]
      rw [ea] at hb
      refine ⟨b, o, rfl, Nat.zero_le _, hb, fun j hj => ?_⟩
      obtain ⟨⟨A, n, c, A2, n2, c2, ⟨h0, h1, h2, h3, h4, h5⟩, t⟩, _⟩ := hp j hj
      rw [ea] at h0 h1 h2 h3 h4 h5
      exact ⟨A, n, c, A2, n2, c2, ⟨h0, h1, h2, h3, h4, h5⟩, t⟩
    · intro x hx
      obtain ⟨j, hj, rfl⟩ := List.getElem_of_mem hx
      have := (hp j (by omega)).2
      simpa [List.getD_eq_getElem?_getD, hj] using this
end
end Go.Proofs.Ytbkecimhbibnjaa
