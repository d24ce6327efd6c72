/-
  Marks on lists of peeled packets and on mixes.
  Conditions: the lists are the call's own.
-/
import Derived.Test.YtoocjalhcliebaaMixW
import Derived.IntWalk
import Derived.Test.YtoocjalhcliebaaBox
namespace Go.Proofs.Ytoocjalhcliebaa
open Go Go.RowKit

/-- The number behind the marks of a list of peeled packets. -/
def endPl (a : Int) (pl : List Peel) : Int := pl.foldl (fun a x => a + 4 + (x.p.h.length : Int) + (x.p.b.length : Int)) a
def mkPeel (a : Int) (x : Peel) : Peel := ⟨a, a + 1, ⟨a + 2, marks (a + 3) x.p.h.length, a + 3 + (x.p.h.length : Int), marks (a + 4 + (x.p.h.length : Int)) x.p.b.length⟩⟩
def markAt (a : Int) (pl : List Peel) (k j : Nat) : Peel := if j < k then mkPeel (endPl a (pl.take j)) (pl.getD j zeroPeel) else pl.getD j zeroPeel
/-- The first k peeled packets marked. -/
def markL (a : Int) (pl : List Peel) (k : Nat) : List Peel := (List.range pl.length).map (markAt a pl k)
theorem markL_len (a : Int) (pl : List Peel) (k : Nat) : (markL a pl k).length = pl.length := by simp [markL]
theorem markL_at {a : Int} {pl : List Peel} {k j : Nat} (h : j < pl.length) : (markL a pl k).getD j zeroPeel = markAt a pl k j := by simp [markL, List.getD_eq_getElem?_getD, h]
theorem markL_zero (a : Int) (pl : List Peel) : markL a pl 0 = pl := by
  apply List.ext_getElem (by simp [markL])
  intro i h1 h2
  simp [markL, markAt, List.getD_eq_getElem?_getD, h2]
theorem markL_step {a : Int} {pl : List Peel} {k j : Nat} (hj : j < pl.length) (hjk : j ≠ k) : (markL a pl (k + 1)).getD j zeroPeel = (markL a pl k).getD j zeroPeel := by
  rw [markL_at hj, markL_at hj]
  simp only [markAt]
  by_cases h : j < k
  · rw [if_pos h, if_pos (by omega)]
  · rw [if_neg h, if_neg (by omega)]
theorem endPl_next {a : Int} {pl : List Peel} {k : Nat} (h : k < pl.length) : endPl a (pl.take (k + 1)) = endPl a (pl.take k) + 4 + ((pl.getD k zeroPeel).p.h.length : Int) + ((pl.getD k zeroPeel).p.b.length : Int) := by
  have e : pl.getD k zeroPeel = pl[k] := by simp [List.getD_eq_getElem?_getD, h]
  rw [e, List.take_succ_eq_append_getElem h]
  simp only [endPl, List.foldl_append, List.foldl_cons, List.foldl_nil]
theorem endPl_bd {a : Int} {pl : List Peel} (hb : PlB 1048576 pl) : ∀ k, k ≤ pl.length → a ≤ endPl a (pl.take k) ∧ endPl a (pl.take k) ≤ a + (k : Int) * 2097156
  | 0, _ => by simp [endPl]
  | k + 1, h => by
    have h1 := endPl_bd (a := a) hb k (by omega)
    have h2 := hb.at_ (j := k) (by omega)
    rw [endPl_next (by omega)]
    omega
/-- All of an own list of peeled packets but the values of the k-th. -/
def RestK (w : World) (lo hi g n c k : Nat) (F : Nat → Peel) (vals : List Value) (a b : Nat → Nat) : Prop :=
  hi ≤ w.heap.size ∧ g < hi ∧ w.ownsRow lo 47 6 (.slice (some ⟨g, 0, none⟩) n c) n vals ∧ (∀ i j, i < j → j < n → b i ≤ a j) ∧
    ∀ j, j < n → lo ≤ a j ∧ b j ≤ hi ∧ (g < a j ∨ b j ≤ g) ∧ (j ≠ k → ∃ A m d A2 m2 d2, ElAt vals (j * 6) (F j) A m d A2 m2 d2 ∧ TwoO w (a j) (b j) (F j).p.h (F j).p.b A m d A2 m2 d2)
theorem RestK.set {w : World} {lo hi g n c k : Nat} {F : Nat → Peel} {vals : List Value} {a b : Nat → Nat} (h : RestK w lo hi g n c k F vals a b) (o : Nat) (ho : k * 6 ≤ o ∧ o < k * 6 + 6) (u : Value) : RestK (w.setCell ⟨g, o, none⟩ u) lo hi g n c k F (vals.set o u) a b := by
  obtain ⟨h1, h2, hown, hab, hel⟩ := h
  refine ⟨by simpa [World.setCell] using h1, h2, (hown.stored o u).1, hab, fun j hj => ?_⟩
  obtain ⟨q1, q2, q3, q4⟩ := hel j hj
  refine ⟨q1, q2, q3, fun hjk => ?_⟩
  obtain ⟨A, m, d, A2, m2, d2, ⟨f0, f1, f2, f3, f4, f5⟩, t⟩ := q4 hjk
  have ne : ∀ i, i < 6 → (vals.set o u)[j * 6 + i]? = vals[j * 6 + i]? := fun i hi => List.getElem?_set_ne (by omega)
  exact ⟨A, m, d, A2, m2, d2, ⟨(ne 0 (by omega)).trans f0, (ne 1 (by omega)).trans f1, (ne 2 (by omega)).trans f2, (ne 3 (by omega)).trans f3, (ne 4 (by omega)).trans f4, (ne 5 (by omega)).trans f5⟩, t.only (set1_only w g o u) (by omega)⟩
theorem RestK.grown {w w' : World} {lo hi g n c k : Nat} {F : Nat → Peel} {vals : List Value} {a b : Nat → Nat} {row : Option Nat} (h : RestK w lo hi g n c k F vals a b) (hk : k < n) (hg : w.grownBy w' row) (hr : ∀ x, row = some x → a k ≤ x ∧ x < b k) : RestK w' lo hi g n c k F vals a b := by
  obtain ⟨h1, h2, hown, hab, hel⟩ := h
  have hkk := hel k hk
  refine ⟨Nat.le_trans h1 hg.size, h2, hown.kept hg (.inr fun e => ?_), hab, fun j hj => ?_⟩
  · have := hr g (by rw [← e]; rfl); omega
  obtain ⟨q1, q2, q3, q4⟩ := hel j hj
  refine ⟨q1, q2, q3, fun hjk => ?_⟩
  obtain ⟨A, m, d, A2, m2, d2, E, t⟩ := q4 hjk
  refine ⟨A, m, d, A2, m2, d2, E, t.grown hg (fun x e => ?_)⟩
  have := hr x e
  rcases Nat.lt_or_gt_of_ne hjk with h | h
  · have := hab j k h hk; omega
  · have := hab k j h hj; omega
theorem PoolO.opened {w : World} {lo hi n c k : Nat} {A : Option Addr} {pl : List Peel} (h : PoolO w lo hi A n c pl) (hk : k < n) : ∃ g vals a b A1 m d A2 m2 d2, A = some ⟨g, 0, none⟩ ∧ RestK w lo hi g n c k (fun j => pl.getD j zeroPeel) vals a b ∧ ElAt vals (k * 6) (pl.getD k zeroPeel) A1 m d A2 m2 d2 ∧ TwoO w (a k) (b k) (pl.getD k zeroPeel).p.h (pl.getD k zeroPeel).p.b A1 m d A2 m2 d2 := by
  obtain ⟨hl, h1, h2, vals, a, b, hown, hab, hel⟩ := h
  rcases hown.2 with ⟨_, h0⟩ | ⟨g, cap, cur, e, rest⟩
  · omega
  · injection e with e1 e2 e3
    subst e1 e3
    obtain ⟨q1, q2, q3, A1, m, d, A2, m2, d2, E, t⟩ := hel k hk
    refine ⟨g, vals, a, b, A1, m, d, A2, m2, d2, rfl, ⟨h1, h2 g rfl, hown, hab, fun j hj => ?_⟩, E, t⟩
    obtain ⟨r1, r2, r3, r4⟩ := hel j hj
    exact ⟨r1, r2, r3 g rfl, fun _ => r4⟩
theorem RestK.close {w : World} {lo hi g n c k : Nat} {F : Nat → Peel} {vals : List Value} {a b : Nat → Nat} {x : Peel} {A : Option Addr} {m d : Nat} {A2 : Option Addr} {m2 d2 : Nat} {pl : List Peel} (h : RestK w lo hi g n c k F vals a b) (hE : ElAt vals (k * 6) x A m d A2 m2 d2) (t : TwoO w (a k) (b k) x.p.h x.p.b A m d A2 m2 d2)
    (hpl : pl.length = n) (hk : pl.getD k zeroPeel = x) (hj : ∀ j, j < n → j ≠ k → pl.getD j zeroPeel = F j) : PoolO w lo hi (some ⟨g, 0, none⟩) n c pl := by
  obtain ⟨h1, h2, hown, hab, hel⟩ := h
  refine ⟨hpl, h1, fun x e => by have e2 : g = x := Option.some.inj e; omega, vals, a, b, hown, hab, fun j hjn => ?_⟩
  obtain ⟨r1, r2, r3, r4⟩ := hel j hjn
  refine ⟨r1, r2, fun x e => by have e2 : g = x := Option.some.inj e; omega, ?_⟩
  by_cases hjk : j = k
  · subst hjk; rw [hk]; exact ⟨A, m, d, A2, m2, d2, hE, t⟩
  · rw [hj j hjn hjk]; exact r4 hjk
theorem RestK.cell {w : World} {lo hi g n c k : Nat} {F : Nat → Peel} {vals : List Value} {a b : Nat → Nat} (h : RestK w lo hi g n c k F vals a b) (hk : k < n) (i : Nat) (hi : i < 6) : w.cell? ⟨g, k * 6 + i, none⟩ = vals[k * 6 + i]? := h.2.2.1.cellAt (k * 6 + i) (by omega)
theorem RestK.frozen {w : World} {lo hi g n c k : Nat} {F : Nat → Peel} {vals : List Value} {a b : Nat → Nat} (h : RestK w lo hi g n c k F vals a b) (i : Nat) : w.frozen? ⟨g, i, none⟩ = false := h.2.2.1.frozenAt i
/-- What marking a list of peeled packets leaves. -/
def MarkPl (a : Int) (lo hi : Nat) (A : Option Addr) (n c : Nat) (pl : List Peel) (w : World) (e : Ending) (w' : World) : Prop :=
  e = .returned (.int .i64 (endPl a pl)) ∧ PoolO w' lo hi A n c (markL a pl n) ∧ Only lo hi w w'
/-- The cells of a marked peeled packet. -/
theorem PeelAt.marked {w : World} {lo hi b o : Nat} {s : Int} {X : Peel} (h : PeelAt w lo hi b o (mkPeel s X)) : ∃ A n c A2 n2 c2, (w.cell? ⟨b, o, none⟩ = some (.int .i64 s) ∧ w.cell? ⟨b, o + 1, none⟩ = some (.int .i64 (s + 1)) ∧ w.cell? ⟨b, o + 2, none⟩ = some (.int .i64 (s + 1 + 1)) ∧ w.cell? ⟨b, o + 3, none⟩ = some (.slice A n c) ∧ w.cell? ⟨b, o + 4, none⟩ = some (.int .i64 (s + 1 + 1 + 1 + (n : Int))) ∧ w.cell? ⟨b, o + 5, none⟩ = some (.slice A2 n2 c2)) ∧
    SlR .i64 w lo hi A n (marks (s + 1 + 1 + 1) n) ∧ SlR .i64 w lo hi A2 n2 (marks (s + 1 + 1 + 1 + (n : Int) + 1) n2) ∧ X.p.h.length = n ∧ X.p.b.length = n2 := by
  obtain ⟨A, n, c, A2, n2, c2, ⟨f0, f1, f2, f3, f4, f5⟩, t1, t2, _⟩ := h
  simp only [mkPeel] at f0 f1 f2 f4 t1 t2
  have l1 : X.p.h.length = n := by have := t1.1; rwa [marks_len] at this
  have l2 : X.p.b.length = n2 := by have := t2.1; rwa [marks_len] at this
  rw [l1] at f4 t1 t2
  rw [l2] at t2
  rw [show s + 2 = s + 1 + 1 by omega] at f2
  rw [show s + 3 = s + 1 + 1 + 1 by omega] at f4 t1
  rw [show s + 4 + (n : Int) = s + 1 + 1 + 1 + (n : Int) + 1 by omega] at t2
  exact ⟨A, n, c, A2, n2, c2, ⟨f0, f1, f2, f3, f4, f5⟩, t1, t2, l1, l2⟩
/-- What marking a mix leaves. -/
def MarkMx (a : Int) (lo hi : Nat) (A : Option Addr) (n c : Nat) (A2 : Option Addr) (n2 c2 : Nat) (pl : List Peel) (w : World) (e : Ending) (w' : World) : Prop :=
  e = .returned (.int .i64 (endPl (a + (n : Int)) pl)) ∧ MixO w' lo hi (marks a n) (markL (a + (n : Int)) pl n2) A n c A2 n2 c2 ∧ Only lo hi w w'
theorem endPl_le {a : Int} {pl : List Peel} (hb : PlB 1048576 pl) : a ≤ endPl a pl ∧ endPl a pl ≤ a + (pl.length : Int) * 2097156 := by
  have := endPl_bd (a := a) hb pl.length (Nat.le_refl _)
  rwa [List.take_length] at this
end Go.Proofs.Ytoocjalhcliebaa
