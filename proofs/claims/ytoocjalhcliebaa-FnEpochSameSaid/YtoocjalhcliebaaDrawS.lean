/-
  A drawn packet that is changed, seldom to an invalid one.
  Conditions: the reader is good; the packet's slices read as lists of whole numbers.
-/
import Derived.Test.YtoocjalhcliebaaPktV
import Derived.Test.YtoocjalhcliebaaLawsC
import Derived.IntWalk
import Derived.Deep.RegionHeld3
namespace Go.Proofs.Ytoocjalhcliebaa
open Go Go.RowKit

theorem wpList_append_new2 {P : Program} (w : World) (G : Nat) (hG : w.heap.size = G) {ops : Array Oper} {rest : List Oper} {o : Oper} {a : Act} {Q : Exit → Act → World → Prop} (hgd : o.guard = none) (s x : Operand) (t : TypeId)
    (ho : o.op = .call { callee := .builtin .append, args := #[s, x], argTypes := #[t, t] })
    (e : TypeId) (i : TypeInfo) (ht : P.underlying t = some (.slice e)) (hi : P.info? e = some i) (hz : i.zero = some (.int .i64 0)) (hsize : i.size = 1) (hby : i.bytes = 8)
    (hs : a.eval s = .slice (some ⟨G, 0, none⟩) 0 0)
    (lo hi' m c : Nat) (A : Option Addr) (ys : List Int) (hx : a.eval x = .slice A m c) (hr : SlR .i64 w lo hi' A m ys) (hn : m ≤ 1000000)
    (h : ∀ A' c' w', OwnR e w' w.heap.size w'.heap.size A' m c' ys → Below w.heap.size w w' → wpList P ops Q rest (a.put o.dst (.slice A' m c')) w') : wpList P ops Q (o :: rest) a (w.alloc (.cells #[] e)) := by
  subst hG
  exact wpList_append_new w hgd s x t ho e i ht hi hz hsize hby hs lo hi' m c A ys hx hr hn h
theorem wpList_append_one {P : Program} (w : World) {ops : Array Oper} {rest : List Oper} {o : Oper} {a : Act} {Q : Exit → Act → World → Prop} (hgd : o.guard = none) (s x : Operand) (t : TypeId)
    (ho : o.op = .call { callee := .builtin .append, args := #[s, x], argTypes := #[t, t] })
    (e : TypeId) (i : TypeInfo) (ht : P.underlying t = some (.slice e)) (hi : P.info? e = some i) (hz : i.zero = some (.int .i64 0)) (hsize : i.size = 1) (hby : i.bytes = 8)
    (lo hi' n c : Nat) (A : Option Addr) (ys : List Int) (v : Int) (hs : a.eval s = .slice A n c) (hx : a.eval x = .slice (some ⟨w.heap.size, 0, none⟩) 1 1) (hr : OwnR e w lo hi' A n c ys) (hn : n ≤ 1000000) (hlo : lo ≤ w.heap.size)
    (h : ∀ A' c' w', OwnR e w' lo w'.heap.size A' (n + 1) c' (ys ++ [v]) → (w.alloc (.cells #[.int .i64 v] e)).grownBy w' (Value.ownBlock (.slice A n c)) → wpList P ops Q rest (a.put o.dst (.slice A' (n + 1) c')) w') : wpList P ops Q (o :: rest) a (w.alloc (.cells #[.int .i64 v] e)) := by
  refine wpList_append_own _ hgd s x t ho lo e i (.int .i64 0) 1 8 ht hi hz hsize hby rfl (by omega) _ n _ hs (hr.1.alloc _) ⟨w.heap.size, 0, none⟩ 1 1 [.int .i64 v] hx rfl one_new one_cell (by unfold maxLen; omega) (by omega) (by simp; omega) fun v' w' hown hg _ => ?_
  obtain ⟨A', c', rfl⟩ := owns_shape hown
  exact h A' c' w' (OwnR.of_owns (by simpa using hown)) hg

/-- What a changed packet leaves. -/
def SPkt (g m : Nat) (w : World) (e : Ending) (w' : World) : Prop :=
  ∃ (P : Pkt) (A : Option Addr) (n c : Nat) (A2 : Option Addr) (n2 c2 : Nat), e = .returned (.agg #[.int .i64 P.e, .slice A n c, .int .i64 P.t, .slice A2 n2 c2]) ∧ TwoR w' w.heap.size w'.heap.size P.h P.b A n c A2 n2 c2 ∧ n ≤ 10 ∧ n2 ≤ 6 ∧ RdOk w' g m ∧ w.grownBy w' (some g)
set_option maxRecDepth 100000 in
set_option maxHeartbeats 3200000 in
theorem l11Packet_c (e t : Int) (A : Option Addr) (n c : Nat) (A2 : Option Addr) (n2 c2 : Nat) (lo hi : Nat) (h b : List Int) (w : World) (hs : TwoR w lo hi h b A n c A2 n2 c2) (hn : n ≤ 1000000) (hn2 : n2 ≤ 1000000) :
    Calls Try.prog 48 #[.agg #[.int .i64 e, .slice A n c, .int .i64 t, .slice A2 n2 c2]] w (NewPk e t h b w) := by
  obtain ⟨i0, hi0, hz0, hz1, hz2⟩ := info_parts Try.infoInt
  have hhi := hs.hi_le
  have hs0 := (hs.alloc (.cells #[.int .i64 e, .slice A n c, .int .i64 t, .slice A2 n2 c2] 45)).alloc (.cells #[.int .i64 0, .slice none 0 0, .int .i64 0, .slice none 0 0] 45)
  have bx : BoxAt ((w.alloc (.cells #[.int .i64 e, .slice A n c, .int .i64 t, .slice A2 n2 c2] 45)).alloc (.cells #[.int .i64 0, .slice none 0 0, .int .i64 0, .slice none 0 0] 45)) w.heap.size #[.int .i64 e, .slice A n c, .int .i64 t, .slice A2 n2 c2] 45 := (BoxAt.new w #[.int .i64 e, .slice A n c, .int .i64 t, .slice A2 n2 c2] 45).alloc _
  have bz : BoxAt ((w.alloc (.cells #[.int .i64 e, .slice A n c, .int .i64 t, .slice A2 n2 c2] 45)).alloc (.cells #[.int .i64 0, .slice none 0 0, .int .i64 0, .slice none 0 0] 45)) (w.heap.size + 1) #[.int .i64 0, .slice none 0 0, .int .i64 0, .slice none 0 0] 45 := by
    have := BoxAt.new (w.alloc (.cells #[.int .i64 e, .slice A n c, .int .i64 t, .slice A2 n2 c2] 45)) #[.int .i64 0, .slice none 0 0, .int .i64 0, .slice none 0 0] 45
    simpa using this
  have hbw : Below w.heap.size w ((w.alloc (.cells #[.int .i64 e, .slice A n c, .int .i64 t, .slice A2 n2 c2] 45)).alloc (.cells #[.int .i64 0, .slice none 0 0, .int .i64 0, .slice none 0 0] 45)) := ((Below.refl w.heap.size w).alloc (Nat.le_refl _) _).alloc (by simp) _
  have hsz0 : w.heap.size + 2 ≤ ((w.alloc (.cells #[.int .i64 e, .slice A n c, .int .i64 t, .slice A2 n2 c2] 45)).alloc (.cells #[.int .i64 0, .slice none 0 0, .int .i64 0, .slice none 0 0] 45)).heap.size := by simp
  have hs1 := hs0.1
  have hs2 := hs0.2.1
  clear hs0 hs
  go_enter Try.func48, Try.ntmps48
  go_wp2_with (at_builtin; go_must (refine wpList_append_new2 ((w.alloc (.cells #[.int .i64 e, .slice A n c, .int .i64 t, .slice A2 n2 c2] 45)).alloc (.cells #[.int .i64 0, .slice none 0 0, .int .i64 0, .slice none 0 0] 45)) (w.heap.size + 1 + 1) (by simp) rfl _ _ 23 rfl 3 i0 Try.underlying23 hi0 hz0 hz1 hz2 rfl _ _ _ _ _ h rfl hs1 (by omega) ?_))
  intro A3 c3 w2 o3 hb2
  have hsz2 := hb2.size
  have hs3 := (hs2.below hb2 (by omega)).setCell (p := ⟨w.heap.size, 1, none⟩) (.inr (by simp only []; omega)) (.slice A3 n c3)
  have o3' := o3.setCell (p := ⟨w.heap.size, 1, none⟩) (.inl (by simp only []; omega)) (.slice A3 n c3)
  have bx2 := bx.below hb2 (by omega)
  have bz2 := bz.below hb2 (by omega)
  have bx3 := bx2.set 1 (.slice A3 n c3)
  have bz3 := bz2.other (p := ⟨w.heap.size, 1, none⟩) (by simp only []; omega) (.slice A3 n c3)
  have hbw2 : Below w.heap.size w w2 := hbw.trans (hb2.mono (by omega))
  have hbw3 := hbw2.setCell (p := ⟨w.heap.size, 1, none⟩) (by simp only []; omega) (.slice A3 n c3)
  have hsz3 : (w2.setCell ⟨w.heap.size, 1, none⟩ (.slice A3 n c3)).heap.size = w2.heap.size := by simp [World.setCell]
  have HSZ3 := Lib.hid hsz3
  have hsz3' : w2.heap.size ≤ (w2.setCell ⟨w.heap.size, 1, none⟩ (.slice A3 n c3)).heap.size := by omega
  obtain ⟨qx0, qx1, qx2, qx3⟩ := bx2.four
  have qf := bx2.frozen
  have O3 := Lib.hid o3'
  have hxw : w.heap.size < w2.heap.size := by omega
  clear bx bz hbw hs1 hs2 hb2 o3 bx2 bz2 hbw2 o3' hsz3
  go_wp2_with (at_builtin; go_must (refine wpList_append_new2 (w2.setCell ⟨w.heap.size, 1, none⟩ (.slice A3 n c3)) _ HSZ3.out rfl _ _ 23 rfl 3 i0 Try.underlying23 hi0 hz0 hz1 hz2 rfl _ _ _ _ _ b rfl hs3 (by omega) ?_))
  intro A4 c4 w4 o4 hb4
  clear qx0 qx1 qx2 qx3 qf
  have hsz4 := hb4.size
  have bx4 := bx3.below hb4 (by omega)
  have bz4 := bz3.below hb4 (by omega)
  have o3w := O3.out.below hb4 (by omega)
  have hbw4 := hbw3.trans (hb4.mono (by omega))
  have o3w' := o3w.setCell (p := ⟨w.heap.size, 3, none⟩) (.inl (by simp only []; omega)) (.slice A4 n2 c4)
  have o4w' := o4.setCell (p := ⟨w.heap.size, 3, none⟩) (.inl (by simp only []; omega)) (.slice A4 n2 c4)
  have hbw5 := hbw4.setCell (p := ⟨w.heap.size, 3, none⟩) (by simp only []; omega) (.slice A4 n2 c4)
  have hfin : NewPk e t h b w (.returned (.agg #[.int .i64 e, .slice A3 n c3, .int .i64 t, .slice A4 n2 c4])) (((((w4.setCell ⟨w.heap.size, 3, none⟩ (.slice A4 n2 c4)).setCell ⟨w.heap.size + 1, 0, none⟩ (.int .i64 e)).setCell ⟨w.heap.size + 1, 1, none⟩ (.slice A3 n c3)).setCell ⟨w.heap.size + 1, 2, none⟩ (.int .i64 t)).setCell ⟨w.heap.size + 1, 3, none⟩ (.slice A4 n2 c4)) := by
    refine ⟨A3, n, c3, A4, n2, c4, rfl, set4_two o3w' o4w' (.inl (by omega)) (by omega) (by omega) (by omega) (by omega) _ _ _ _, ?_⟩
    have hl : w.heap.size ≤ w.heap.size + 1 := by omega
    exact (((hbw5.setCell hl _).setCell hl _).setCell hl _).setCell hl _
  have HFIN := Lib.hid hfin
  obtain ⟨qo0, qo1, qo2, qo3⟩ := bx4.four
  have qf := bx4.frozen
  obtain ⟨qz0, qz1, qz2, qz3⟩ := bz4.four
  have qg := bz4.frozen
  clear hfin bz3 bx3 bz4 bx4 o3w hbw4 o3w' o4w' hbw5 hb4 hs3 o4 hbw3
  go_wp2_with fail
  refine bodyPost_ret (v := .agg #[.int .i64 e, .slice A3 n c3, .int .i64 t, .slice A4 n2 c4]) (by simp [results, Try.results48, go_sem, qz0, qz1, qz2, qz3]) rfl ?_
  exact HFIN.out
end Go.Proofs.Ytoocjalhcliebaa
