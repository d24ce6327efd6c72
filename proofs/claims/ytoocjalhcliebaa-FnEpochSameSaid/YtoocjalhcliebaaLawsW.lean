/-
  The walk of the statement that a packet goes its way and arrives.
  Conditions: the arguments read as lists of bytes.
-/
import Derived.Test.YtoocjalhcliebaaLawsQ
import Derived.Test.YtoocjalhcliebaaPeel
import Derived.Test.YtoocjalhcliebaaPktV
import Derived.IntWalk
namespace Go.Proofs.Ytoocjalhcliebaa
open Go Go.RowKit

/-- A peeled packet kept in a block of the call's own. -/
def PeelOk (w WF : World) (gb : Nat) (X : Peel) (A3 : Option Addr) (n3 c3 : Nat) (A4 : Option Addr) (n4 c4 : Nat) : Prop :=
  BoxAt WF gb #[.int .i64 X.kind, .int .i64 X.next, .int .i64 X.p.e, .slice A3 n3 c3, .int .i64 X.p.t, .slice A4 n4 c4] 47 ∧ w.heap.size ≤ gb ∧ TwoO WF w.heap.size WF.heap.size X.p.h X.p.b A3 n3 c3 A4 n4 c4 ∧ Below w.heap.size w WF
theorem peelBox_last {w w2 : World} {X : Peel} {A3 : Option Addr} {n3 c3 : Nat} {A4 : Option Addr} {n4 c4 : Nat} (hb : Below w.drew.heap.size w.drew w2) (o : TwoO w2 w.drew.heap.size w2.heap.size X.p.h X.p.b A3 n3 c3 A4 n4 c4) :
    PeelOk w (w2.alloc (.cells #[.int .i64 X.kind, .int .i64 X.next, .int .i64 X.p.e, .slice A3 n3 c3, .int .i64 X.p.t, .slice A4 n4 c4] 47)) w2.heap.size X A3 n3 c3 A4 n4 c4 := by
  have z : w.heap.size ≤ w2.heap.size := hb.size
  exact ⟨BoxAt.new _ _ _, z, (o.alloc _).wider (Nat.le_refl _) (by simp) (Nat.le_refl _), (((Below.refl w.heap.size w).drew).trans hb).alloc z _⟩
theorem set6_box {w : World} {gb : Nat} {y0 y1 y2 y3 y4 y5 : Value} {T : TypeId} (hb : BoxAt w gb #[y0, y1, y2, y3, y4, y5] T) (x0 x1 x2 x3 x4 x5 : Value) : BoxAt ((((((w.setCell ⟨gb, 0, none⟩ x0).setCell ⟨gb, 1, none⟩ x1).setCell ⟨gb, 2, none⟩ x2).setCell ⟨gb, 3, none⟩ x3).setCell ⟨gb, 4, none⟩ x4).setCell ⟨gb, 5, none⟩ x5) gb #[x0, x1, x2, x3, x4, x5] T :=
  (((((hb.set 0 x0).set 1 x1).set 2 x2).set 3 x3).set 4 x4).set 5 x5
theorem peelBox_first {w w2 : World} {X : Peel} {A3 : Option Addr} {n3 c3 : Nat} {A4 : Option Addr} {n4 c4 : Nat} (hb : Below (w.alloc (.cells #[.int .i64 0, .int .i64 0, .int .i64 0, .slice none 0 0, .int .i64 0, .slice none 0 0] 47)).drew.heap.size (w.alloc (.cells #[.int .i64 0, .int .i64 0, .int .i64 0, .slice none 0 0, .int .i64 0, .slice none 0 0] 47)).drew w2) (o : TwoO w2 (w.alloc (.cells #[.int .i64 0, .int .i64 0, .int .i64 0, .slice none 0 0, .int .i64 0, .slice none 0 0] 47)).drew.heap.size w2.heap.size X.p.h X.p.b A3 n3 c3 A4 n4 c4) :
    PeelOk w ((((((w2.setCell ⟨w.heap.size, 0, none⟩ (.int .i64 X.kind)).setCell ⟨w.heap.size, 1, none⟩ (.int .i64 X.next)).setCell ⟨w.heap.size, 2, none⟩ (.int .i64 X.p.e)).setCell ⟨w.heap.size, 3, none⟩ (.slice A3 n3 c3)).setCell ⟨w.heap.size, 4, none⟩ (.int .i64 X.p.t)).setCell ⟨w.heap.size, 5, none⟩ (.slice A4 n4 c4)) w.heap.size X A3 n3 c3 A4 n4 c4 := by
  have zz : (w.alloc (.cells #[.int .i64 0, .int .i64 0, .int .i64 0, .slice none 0 0, .int .i64 0, .slice none 0 0] 47)).drew.heap.size = w.heap.size + 1 := by show (w.alloc (.cells #[.int .i64 0, .int .i64 0, .int .i64 0, .slice none 0 0, .int .i64 0, .slice none 0 0] 47)).heap.size = _; simp
  have z := hb.size
  rw [zz] at z
  have hbw : Below w.heap.size w w2 := (((Below.refl w.heap.size w).alloc (Nat.le_refl _) (.cells #[.int .i64 0, .int .i64 0, .int .i64 0, .slice none 0 0, .int .i64 0, .slice none 0 0] 47)).drew).trans (hb.mono (by rw [zz]; omega))
  have bx : BoxAt w2 w.heap.size #[.int .i64 0, .int .i64 0, .int .i64 0, .slice none 0 0, .int .i64 0, .slice none 0 0] 47 := (BoxAt.new w #[.int .i64 0, .int .i64 0, .int .i64 0, .slice none 0 0, .int .i64 0, .slice none 0 0] 47).drew.below hb (by rw [zz]; omega)
  refine ⟨set6_box bx _ _ _ _ _ _, Nat.le_refl _, ?_, set6_below hbw (Nat.le_refl _) _ _ _ _ _ _⟩
  exact (set6_twoO o (by rw [zz]; omega) _ _ _ _ _ _).wider (by rw [zz]; omega) (by rw [set6_size]; exact Nat.le_refl _) (Nat.le_refl _)
/-- The packet on its way, ahead of mix k. -/
def WayRel (to : Int) (ls ss ns : List Int) (N g : Nat) (w : World) (i : Value) (wr : World) : Prop :=
  ∃ (k : Nat) (P : Pkt) (lo hi : Nat) (A : Option Addr) (n c : Nat) (A2 : Option Addr) (n2 c2 : Nat), k ≤ N ∧ i = .int .i64 (k : Int) ∧ Goes to ls (ss.drop k) (ns.drop k) P ∧
    BoxAt wr g #[.int .i64 P.e, .slice A n c, .int .i64 P.t, .slice A2 n2 c2] 45 ∧ TwoR wr lo hi P.h P.b A n c A2 n2 c2 ∧ (g < lo ∨ hi ≤ g) ∧ Only g (g + 1) w wr
theorem WayRel.drewN {to : Int} {ls ss ns : List Int} {N g : Nat} {w wr : World} {i : Value} (h : WayRel to ls ss ns N g w i wr) (n : Nat) : WayRel to ls ss ns N g w i (wr.drewN n) := by
  obtain ⟨k, P, lo, hi, A, m, c, A2, n2, c2, h1, h2, h3, h4, h5, h6, h7⟩ := h
  exact ⟨k, P, lo, hi, A, m, c, A2, n2, c2, h1, h2, h3, h4, h5, h6, ⟨h7.os, h7.tape, h7.output, h7.size, h7.block⟩⟩
/-- What becomes of a packet at one mix. -/
theorem goes_step {to : Int} {ls ss ns : List Int} {k : Nat} {P : Pkt} (h : Goes to ls (ss.drop k) (ns.drop k) P) (hk : k < ss.length) :
    peelB (ss.getD k 0) P = true ∧ (k + 1 < ss.length → (peelL (ss.getD k 0) P).kind = 0 ∧ (peelL (ss.getD k 0) P).next = ns.getD (k + 1) 0) ∧ (k + 1 = ss.length → (peelL (ss.getD k 0) P).kind = 1 ∧ (peelL (ss.getD k 0) P).next = to) ∧ Goes to ls (ss.drop (k + 1)) (ns.drop (k + 1)) (peelL (ss.getD k 0) P).p := by
  rw [drop_at hk] at h
  obtain ⟨h1, h2, h3, h4⟩ := h
  have hd : (ns.drop k).drop 1 = ns.drop (k + 1) := by rw [List.drop_drop]
  rw [hd] at h2 h4
  have hg : (ns.drop (k + 1)).getD 0 0 = ns.getD (k + 1) 0 := by simp [List.getD_eq_getElem?_getD]
  rw [hg] at h2
  refine ⟨h1, fun g => h2 ?_, fun g => h3 ?_, h4⟩
  · intro e
    have := congrArg List.length e
    simp at this
    omega
  · exact List.drop_of_length_le (by omega)
end Go.Proofs.Ytoocjalhcliebaa
