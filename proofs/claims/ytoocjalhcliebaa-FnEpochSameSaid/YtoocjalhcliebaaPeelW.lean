/-
  Words for the peeling of a packet.
  No condition.
-/
import Derived.Test.YtoocjalhcliebaaBox
namespace Go.Proofs.Ytoocjalhcliebaa
open Go Go.RowKit

theorem set6_size (w : World) (rb : Nat) (x0 x1 x2 x3 x4 x5 : Value) : ((((((w.setCell ⟨rb, 0, none⟩ x0).setCell ⟨rb, 1, none⟩ x1).setCell ⟨rb, 2, none⟩ x2).setCell ⟨rb, 3, none⟩ x3).setCell ⟨rb, 4, none⟩ x4).setCell ⟨rb, 5, none⟩ x5).heap.size = w.heap.size := by simp [World.setCell]
theorem set6_below {B : Nat} {a w : World} {rb : Nat} (h : Below B a w) (hb : B ≤ rb) (x0 x1 x2 x3 x4 x5 : Value) : Below B a ((((((w.setCell ⟨rb, 0, none⟩ x0).setCell ⟨rb, 1, none⟩ x1).setCell ⟨rb, 2, none⟩ x2).setCell ⟨rb, 3, none⟩ x3).setCell ⟨rb, 4, none⟩ x4).setCell ⟨rb, 5, none⟩ x5) :=
  (((((h.setCell hb x0).setCell hb x1).setCell hb x2).setCell hb x3).setCell hb x4).setCell hb x5
theorem set6_own {w : World} {rb lo hi n c : Nat} {A : Option Addr} {h : List Int} (o : OwnR 3 w lo hi A n c h) (hr : rb < lo ∨ hi ≤ rb) (x0 x1 x2 x3 x4 x5 : Value) : OwnR 3 ((((((w.setCell ⟨rb, 0, none⟩ x0).setCell ⟨rb, 1, none⟩ x1).setCell ⟨rb, 2, none⟩ x2).setCell ⟨rb, 3, none⟩ x3).setCell ⟨rb, 4, none⟩ x4).setCell ⟨rb, 5, none⟩ x5) lo hi A n c h :=
  (((((o.setCell hr x0).setCell hr x1).setCell hr x2).setCell hr x3).setCell hr x4).setCell hr x5
theorem set6_two {w : World} {rb lo lo1 hi1 lo2 hi2 n c n2 c2 : Nat} {A A2 : Option Addr} {h b : List Int} (oh : OwnR 3 w lo1 hi1 A n c h) (ob : OwnR 3 w lo2 hi2 A2 n2 c2 b) (hd : hi1 ≤ lo2 ∨ hi2 ≤ lo1) (h1 : rb < lo1) (h2 : rb < lo2) (hl1 : lo ≤ lo1) (hl2 : lo ≤ lo2) (x0 x1 x2 x3 x4 x5 : Value) :
    TwoO ((((((w.setCell ⟨rb, 0, none⟩ x0).setCell ⟨rb, 1, none⟩ x1).setCell ⟨rb, 2, none⟩ x2).setCell ⟨rb, 3, none⟩ x3).setCell ⟨rb, 4, none⟩ x4).setCell ⟨rb, 5, none⟩ x5) lo ((((((w.setCell ⟨rb, 0, none⟩ x0).setCell ⟨rb, 1, none⟩ x1).setCell ⟨rb, 2, none⟩ x2).setCell ⟨rb, 3, none⟩ x3).setCell ⟨rb, 4, none⟩ x4).setCell ⟨rb, 5, none⟩ x5).heap.size h b A n c A2 n2 c2 :=
  TwoO.of_two (set6_own oh (.inl h1) _ _ _ _ _ _) (set6_own ob (.inl h2) _ _ _ _ _ _) hd hl1 hl2 (by rw [set6_size]; exact oh.2.1) (by rw [set6_size]; exact ob.2.1) (Nat.le_refl _)
theorem set6_twoO {w : World} {rb lo hi n c n2 c2 : Nat} {A A2 : Option Addr} {h b : List Int} (o : TwoO w lo hi h b A n c A2 n2 c2) (hr : rb < lo) (x0 x1 x2 x3 x4 x5 : Value) : TwoO ((((((w.setCell ⟨rb, 0, none⟩ x0).setCell ⟨rb, 1, none⟩ x1).setCell ⟨rb, 2, none⟩ x2).setCell ⟨rb, 3, none⟩ x3).setCell ⟨rb, 4, none⟩ x4).setCell ⟨rb, 5, none⟩ x5) lo hi h b A n c A2 n2 c2 :=
  ⟨set6_own o.1 (.inl hr) _ _ _ _ _ _, set6_own o.2.1 (.inl hr) _ _ _ _ _ _, o.2.2⟩
theorem set6_cell {w : World} {rb : Nat} {p : Addr} (hne : p.block ≠ rb) (x0 x1 x2 x3 x4 x5 : Value) : ((((((w.setCell ⟨rb, 0, none⟩ x0).setCell ⟨rb, 1, none⟩ x1).setCell ⟨rb, 2, none⟩ x2).setCell ⟨rb, 3, none⟩ x3).setCell ⟨rb, 4, none⟩ x4).setCell ⟨rb, 5, none⟩ x5).cell? p = w.cell? p := by
  have e : ∀ (u : World) (i : Nat) (x : Value), (u.setCell ⟨rb, i, none⟩ x).cell? p = u.cell? p := by
    intro u i x
    refine World.cell?_of_block ?_
    simp [World.setCell, Array.getElem?_modify, Ne.symm hne]
  rw [e, e, e, e, e, e]
theorem cell_d {w : World} {p : Addr} {v : Value} (h : w.cell? p = some v) : w.drew.cell? p = some v := (World.cell?_of_block (w := w) (w' := w.drew) rfl).trans h
theorem set6_cell_d {w : World} {rb : Nat} {p : Addr} {v : Value} (hne : p.block ≠ rb) (h : w.cell? p = some v) (x0 x1 x2 x3 x4 x5 : Value) : ((((((w.setCell ⟨rb, 0, none⟩ x0).setCell ⟨rb, 1, none⟩ x1).setCell ⟨rb, 2, none⟩ x2).setCell ⟨rb, 3, none⟩ x3).setCell ⟨rb, 4, none⟩ x4).setCell ⟨rb, 5, none⟩ x5).drew.cell? p = some v :=
  cell_d ((set6_cell hne x0 x1 x2 x3 x4 x5).trans h)
/-- What the making of the next packet leaves: its block and its two lists, all new. -/
def NextOk (w WF : World) (gb : Nat) (vals : Array Value) (T : TypeId) (h b : List Int) (A : Option Addr) (n c : Nat) (A2 : Option Addr) (n2 c2 : Nat) : Prop :=
  BoxAt WF gb vals T ∧ w.heap.size ≤ gb ∧ TwoO WF w.heap.size WF.heap.size h b A n c A2 n2 c2 ∧ Below w.heap.size w WF
theorem set4_box {w : World} {gb : Nat} {y0 y1 y2 y3 : Value} {T : TypeId} (hb : BoxAt w gb #[y0, y1, y2, y3] T) (x0 x1 x2 x3 : Value) : BoxAt ((((w.setCell ⟨gb, 0, none⟩ x0).setCell ⟨gb, 1, none⟩ x1).setCell ⟨gb, 2, none⟩ x2).setCell ⟨gb, 3, none⟩ x3) gb #[x0, x1, x2, x3] T := by
  have e : ∀ (u : World) (cs : Array Value) (i : Nat) (x : Value), BoxAt u gb cs T → i < cs.size → BoxAt (u.setCell ⟨gb, i, none⟩ x) gb (cs.setIfInBounds i x) T := by
    intro u cs i x hu _
    unfold BoxAt at hu ⊢
    simp [World.setCell, Array.getElem?_modify, hu]
  exact e _ _ 3 x3 (e _ _ 2 x2 (e _ _ 1 x1 (e _ _ 0 x0 hb (by simp)) (by simp)) (by simp)) (by simp)
theorem next_last {w wa w6 w7 : World} {T : TypeId} {h b : List Int} {A : Option Addr} {n c : Nat} {A2 : Option Addr} {n2 c2 : Nat} (vals : Array Value) (hW : Below w.heap.size w wa) (hb6 : Below wa.heap.size wa w6) (hb7 : Below w6.heap.size w6 w7)
    (o6 : OwnR 3 w6 wa.heap.size w6.heap.size A n c h) (o7 : OwnR 3 w7 w6.heap.size w7.heap.size A2 n2 c2 b) : NextOk w (w7.alloc (.cells vals T)) w7.heap.size vals T h b A n c A2 n2 c2 := by
  have z := hW.size; have z6 := hb6.size; have z7 := hb7.size
  refine ⟨BoxAt.new _ _ _, by omega, ?_, ((hW.trans (hb6.mono z)).trans (hb7.mono (by omega))).alloc (by omega) _⟩
  exact TwoO.of_two ((o6.below hb7 (Nat.le_refl _)).alloc _) (o7.alloc _) (.inl (Nat.le_refl _)) z (by omega) (by simp; omega) (by simp) (Nat.le_refl _)
theorem next_mid {w wa w6 w7 : World} {T : TypeId} {h b : List Int} {A : Option Addr} {n c : Nat} {A2 : Option Addr} {n2 c2 : Nat} {y0 y1 y2 y3 : Value} (x0 x1 x2 x3 : Value) (hW : Below w.heap.size w wa) (hb6 : Below wa.heap.size wa w6) (hb7 : Below (w6.alloc (.cells #[y0, y1, y2, y3] T)).heap.size (w6.alloc (.cells #[y0, y1, y2, y3] T)) w7)
    (o6 : OwnR 3 w6 wa.heap.size w6.heap.size A n c h) (o7 : OwnR 3 w7 (w6.alloc (.cells #[y0, y1, y2, y3] T)).heap.size w7.heap.size A2 n2 c2 b) :
    NextOk w (((((w7.setCell ⟨w6.heap.size, 0, none⟩ x0).setCell ⟨w6.heap.size, 1, none⟩ x1).setCell ⟨w6.heap.size, 2, none⟩ x2).setCell ⟨w6.heap.size, 3, none⟩ x3)) w6.heap.size #[x0, x1, x2, x3] T h b A n c A2 n2 c2 := by
  have z := hW.size; have z6 := hb6.size; have z7 := hb7.size
  have zz : (w6.alloc (.cells #[y0, y1, y2, y3] T)).heap.size = w6.heap.size + 1 := by simp
  rw [zz] at z7
  have bx := (BoxAt.new w6 #[y0, y1, y2, y3] T).below hb7 (by simp)
  have b7 : Below w.heap.size w w7 := ((hW.trans (hb6.mono z)).alloc (by omega) _).trans (hb7.mono (by simp; omega))
  have zl : w.heap.size ≤ w6.heap.size := by omega
  refine ⟨set4_box bx _ _ _ _, zl, ?_, ((((b7.setCell zl _).setCell zl _).setCell zl _).setCell zl _)⟩
  have oh := (o6.alloc (.cells #[y0, y1, y2, y3] T)).below hb7 (by simp)
  have ob := o7
  exact TwoO.of_two ((((oh.setCell (.inr (Nat.le_refl _)) _).setCell (.inr (Nat.le_refl _)) _).setCell (.inr (Nat.le_refl _)) _).setCell (.inr (Nat.le_refl _)) _)
    ((((ob.setCell (.inl (by simp)) _).setCell (.inl (by simp)) _).setCell (.inl (by simp)) _).setCell (.inl (by simp)) _) (.inl (by simp)) z (by simp; omega) (by rw [set4_size]; omega) (by rw [set4_size]; exact Nat.le_refl _) (Nat.le_refl _)
theorem next_first {w wa w6 w7 : World} {T : TypeId} {h b : List Int} {A : Option Addr} {n c : Nat} {A2 : Option Addr} {n2 c2 : Nat} {y0 y1 y2 y3 : Value} (x0 x1 x2 x3 : Value) (hW : Below w.heap.size w wa) (hb6 : Below (wa.alloc (.cells #[y0, y1, y2, y3] T)).heap.size (wa.alloc (.cells #[y0, y1, y2, y3] T)) w6) (hb7 : Below w6.heap.size w6 w7)
    (o6 : OwnR 3 w6 (wa.alloc (.cells #[y0, y1, y2, y3] T)).heap.size w6.heap.size A n c h) (o7 : OwnR 3 w7 w6.heap.size w7.heap.size A2 n2 c2 b) :
    NextOk w (((((w7.setCell ⟨wa.heap.size, 0, none⟩ x0).setCell ⟨wa.heap.size, 1, none⟩ x1).setCell ⟨wa.heap.size, 2, none⟩ x2).setCell ⟨wa.heap.size, 3, none⟩ x3)) wa.heap.size #[x0, x1, x2, x3] T h b A n c A2 n2 c2 := by
  have z := hW.size; have z6 := hb6.size; have z7 := hb7.size
  have zz : (wa.alloc (.cells #[y0, y1, y2, y3] T)).heap.size = wa.heap.size + 1 := by simp
  rw [zz] at z6
  have bx := ((BoxAt.new wa #[y0, y1, y2, y3] T).below hb6 (by simp)).below hb7 (by omega)
  have b7 : Below w.heap.size w w7 := ((hW.alloc z _).trans (hb6.mono (by simp; omega))).trans (hb7.mono (by omega))
  refine ⟨set4_box bx _ _ _ _, z, ?_, ((((b7.setCell z _).setCell z _).setCell z _).setCell z _)⟩
  have oh := o6.below hb7 (Nat.le_refl _)
  have zl : wa.heap.size < w6.heap.size := by omega
  exact TwoO.of_two ((((oh.setCell (.inl (by simp)) _).setCell (.inl (by simp)) _).setCell (.inl (by simp)) _).setCell (.inl (by simp)) _)
    ((((o7.setCell (.inl zl) _).setCell (.inl zl) _).setCell (.inl zl) _).setCell (.inl zl) _) (.inl (Nat.le_refl _)) (by simp; omega) (by omega) (by rw [set4_size]; exact z7) (by rw [set4_size]; exact Nat.le_refl _) (Nat.le_refl _)
theorem NewPeel.zero {w w' : World} (hb : Below w.heap.size w w') : NewPeel zeroPeel false w (.returned (.tuple #[.agg #[.int .i64 0, .int .i64 0, .int .i64 0, .slice none 0 0, .int .i64 0, .slice none 0 0], .bool false])) w' :=
  ⟨_, _, _, _, _, _, rfl, TwoO.none_ (Nat.le_refl _), hb⟩
theorem peelP_no {s : Int} {p : Pkt} (h : peelB s p = false) : peelP s p = zeroPeel := by simp [peelP, h]
theorem peelP_yes {s : Int} {p : Pkt} (h : peelB s p = true) : peelP s p = peelL s p := by simp [peelP, h]
theorem plain_offP {k : Int} {h : List Int} (hk : elB k = true) (hl : listB h = true) (h9 : h.length = 9) : offP (h ++ [0, 0, 0]) k = plainL k h := by
  refine if_pos ⟨?_, hk⟩
  rw [listB_iff] at hl ⊢
  refine ⟨by simp [h9], fun x hx => ?_⟩
  rcases List.mem_append.1 hx with g | g
  · exact hl.2 x g
  · simp at g; omega
end Go.Proofs.Ytoocjalhcliebaa
