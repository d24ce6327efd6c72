/-
  Words for lists of peeled packets that the call made.
  No condition.
-/
import Derived.Test.YtoocjalhcliebaaPool
namespace Go.Proofs.Ytoocjalhcliebaa
open Go Go.RowKit

/-- Six values from place o on are those of a peeled packet. -/
def ElAt (vals : List Value) (o : Nat) (x : Peel) (A : Option Addr) (n c : Nat) (A2 : Option Addr) (n2 c2 : Nat) : Prop :=
  vals[o]? = some (.int .i64 x.kind) ∧ vals[o + 1]? = some (.int .i64 x.next) ∧ vals[o + 2]? = some (.int .i64 x.p.e) ∧ vals[o + 3]? = some (.slice A n c) ∧ vals[o + 4]? = some (.int .i64 x.p.t) ∧ vals[o + 5]? = some (.slice A2 n2 c2)
/-- The row v of n peeled packets is the call's own; the first k are those of pl, each with two lists of the call's own; all blocks are apart. -/
def PoolK (w : World) (lo hi : Nat) (v : Value) (n k : Nat) (pl : List Peel) : Prop :=
  hi ≤ w.heap.size ∧ (∀ g, v.ownBlock = some g → g < hi) ∧ ∃ (vals : List Value) (a b : Nat → Nat), w.ownsRow lo 47 6 v n vals ∧ (∀ i j, i < j → j < k → b i ≤ a j) ∧
    ∀ j, j < k → lo ≤ a j ∧ b j ≤ hi ∧ (∀ g, v.ownBlock = some g → g < a j ∨ b j ≤ g) ∧ ∃ A m c A2 m2 c2, ElAt vals (j * 6) (pl.getD j zeroPeel) A m c A2 m2 c2 ∧ TwoO w (a j) (b j) (pl.getD j zeroPeel).p.h (pl.getD j zeroPeel).p.b A m c A2 m2 c2
def PoolO (w : World) (lo hi : Nat) (A : Option Addr) (n c : Nat) (pl : List Peel) : Prop := pl.length = n ∧ PoolK w lo hi (.slice A n c) n n pl
section
variable {w w' : World} {lo hi lo2 hi2 n k c : Nat} {v : Value} {A : Option Addr} {pl : List Peel}
theorem PoolK.keep (h : PoolK w lo hi v n k pl) (hs : hi ≤ w'.heap.size) (hk : ∀ b, lo ≤ b → b < hi → w'.heap[b]? = w.heap[b]?) : PoolK w' lo hi v n k pl := by
  obtain ⟨h1, h2, vals, a, b, hown, hab, hel⟩ := h
  refine ⟨hs, h2, vals, a, b, ?_, hab, fun j hj => ?_⟩
  · refine ⟨hown.1, ?_⟩
    rcases hown.2 with h | ⟨g, cap, cur, e, hb, hg, rest⟩
    · exact .inl h
    · exact .inr ⟨g, cap, cur, e, hb, (hk g hb (h2 g (by rw [e]; rfl))).trans hg, rest⟩
  · obtain ⟨q1, q2, q3, B, m, c, B2, m2, c2, he, t⟩ := hel j hj
    have kp : ∀ {T : TypeId} {B : Option Addr} {m c : Nat} {xs : List Int}, OwnR T w (a j) (b j) B m c xs → OwnR T w' (a j) (b j) B m c xs := fun o => o.keep (by omega) (fun i hi hj => hk i (by omega) (by omega))
    exact ⟨q1, q2, q3, B, m, c, B2, m2, c2, he, kp t.1, kp t.2.1, t.2.2⟩
theorem PoolK.hi_le (h : PoolK w lo hi v n k pl) : hi ≤ w.heap.size := h.1
theorem PoolK.below {B : Nat} (h : PoolK w lo hi v n k pl) (hb : Below B w w') (hB : hi ≤ B) : PoolK w' lo hi v n k pl := h.keep (Nat.le_trans h.1 hb.size) fun b _ hlt => hb.block b (by omega)
theorem PoolK.grown {row : Option Nat} (h : PoolK w lo hi v n k pl) (hg : w.grownBy w' row) (hr : ∀ g, row = some g → g < lo ∨ hi ≤ g) : PoolK w' lo hi v n k pl :=
  h.keep (Nat.le_trans h.1 hg.size) fun b hl hlt => hg.block b (Nat.lt_of_lt_of_le hlt h.1) (fun e => by have := hr b e.symm; omega)
theorem PoolK.only (h : PoolK w lo hi v n k pl) (ho : Only lo2 hi2 w w') (hd : hi ≤ lo2 ∨ hi2 ≤ lo) : PoolK w' lo hi v n k pl :=
  h.keep (Nat.le_trans h.1 ho.size) fun b hl hlt => ho.block b (Nat.lt_of_lt_of_le hlt h.1) (by omega)
theorem PoolK.alloc (h : PoolK w lo hi v n k pl) (o : Obj) : PoolK (w.alloc o) lo hi v n k pl := h.keep (by simp; have := h.1; omega) fun b _ hlt => Below.heap_alloc w o b (Nat.lt_of_lt_of_le hlt h.1)
theorem PoolK.drew (h : PoolK w lo hi v n k pl) : PoolK w.drew lo hi v n k pl := h
theorem PoolK.wider {lo' hi' : Nat} (h : PoolK w lo hi v n k pl) (hl : lo' ≤ lo) (hh : hi ≤ hi') (hs : hi' ≤ w.heap.size) : PoolK w lo' hi' v n k pl := by
  obtain ⟨h1, h2, vals, a, b, hown, hab, hel⟩ := h
  refine ⟨hs, fun g e => Nat.lt_of_lt_of_le (h2 g e) hh, vals, a, b, ?_, hab, fun j hj => ?_⟩
  · refine ⟨hown.1, ?_⟩
    rcases hown.2 with h | ⟨g, cap, cur, e, hb, rest⟩
    · exact .inl h
    · exact .inr ⟨g, cap, cur, e, Nat.le_trans hl hb, rest⟩
  · obtain ⟨q1, q2, q3⟩ := hel j hj
    exact ⟨by omega, by omega, q3⟩
theorem PoolO.len (h : PoolO w lo hi A n c pl) : pl.length = n := h.1
theorem PoolO.hi_le (h : PoolO w lo hi A n c pl) : hi ≤ w.heap.size := h.2.1
theorem PoolO.below {B : Nat} (h : PoolO w lo hi A n c pl) (hb : Below B w w') (hB : hi ≤ B) : PoolO w' lo hi A n c pl := ⟨h.1, h.2.below hb hB⟩
theorem PoolO.grown {row : Option Nat} (h : PoolO w lo hi A n c pl) (hg : w.grownBy w' row) (hr : ∀ g, row = some g → g < lo ∨ hi ≤ g) : PoolO w' lo hi A n c pl := ⟨h.1, h.2.grown hg hr⟩
theorem PoolO.only (h : PoolO w lo hi A n c pl) (ho : Only lo2 hi2 w w') (hd : hi ≤ lo2 ∨ hi2 ≤ lo) : PoolO w' lo hi A n c pl := ⟨h.1, h.2.only ho hd⟩
theorem PoolO.alloc (h : PoolO w lo hi A n c pl) (o : Obj) : PoolO (w.alloc o) lo hi A n c pl := ⟨h.1, h.2.alloc o⟩
theorem PoolO.drew (h : PoolO w lo hi A n c pl) : PoolO w.drew lo hi A n c pl := h
theorem PoolO.wider {lo' hi' : Nat} (h : PoolO w lo hi A n c pl) (hl : lo' ≤ lo) (hh : hi ≤ hi') (hs : hi' ≤ w.heap.size) : PoolO w lo' hi' A n c pl := ⟨h.1, h.2.wider hl hh hs⟩
theorem PoolO.cap (h : PoolO w lo hi A n c pl) : n ≤ c := by
  obtain ⟨_, _, _, vals, a, b, hown, _⟩ := h
  rcases hown.2 with ⟨e, h0⟩ | ⟨g, cap, cur, e, _, _, hn, _⟩
  · injection e with _ _ e; omega
  · injection e with _ _ e; omega
theorem PoolO.read (h : PoolO w lo hi A n c pl) : PoolR w lo hi A n pl := by
  obtain ⟨hl, h1, h2, vals, a, b, hown, hab, hel⟩ := h
  refine ⟨hl, h1, fun hn => ?_⟩
  rcases hown.2 with ⟨_, h0⟩ | ⟨g, cap, cur, e, hb, hg, rest⟩
  · omega
  · injection e with e1 e2 e3
    subst e1 e3
    have hc := fun i (hi : i < n * 6) => hown.cellAt i hi
    refine ⟨g, 0, rfl, hb, h2 g rfl, fun j hj => ?_⟩
    obtain ⟨q1, q2, q3, B, m, c, B2, m2, c2, ⟨f0, f1, f2, f3, f4, f5⟩, t⟩ := hel j hj
    rw [Nat.zero_add]
    have hb2 : b j ≤ hi := q2
    have c0 := (hc (j * 6) (by omega)).trans f0
    have c1 := (hc (j * 6 + 1) (by omega)).trans f1
    have c2' := (hc (j * 6 + 2) (by omega)).trans f2
    have c3 := (hc (j * 6 + 3) (by omega)).trans f3
    have c4 := (hc (j * 6 + 4) (by omega)).trans f4
    have c5 := (hc (j * 6 + 5) (by omega)).trans f5
    exact ⟨B, m, c, B2, m2, c2, ⟨c0, c1, c2', c3, c4, c5⟩, t.read.wider q1 hb2 h1⟩
end
theorem get6_ne {vals : List Value} {o i : Nat} (h : i < o ∨ o + 6 ≤ i) (x0 x1 x2 x3 x4 x5 : Value) : ((((((vals.set o x0).set (o + 1) x1).set (o + 2) x2).set (o + 3) x3).set (o + 4) x4).set (o + 5) x5)[i]? = vals[i]? := by
  rw [List.getElem?_set_ne (by omega), List.getElem?_set_ne (by omega), List.getElem?_set_ne (by omega), List.getElem?_set_ne (by omega), List.getElem?_set_ne (by omega), List.getElem?_set_ne (by omega)]
theorem get6_eq {vals : List Value} {o : Nat} (h : o + 6 ≤ vals.length) (x0 x1 x2 x3 x4 x5 : Value) : ∃ V, V = ((((((vals.set o x0).set (o + 1) x1).set (o + 2) x2).set (o + 3) x3).set (o + 4) x4).set (o + 5) x5) ∧ V[o]? = some x0 ∧ V[o + 1]? = some x1 ∧ V[o + 2]? = some x2 ∧ V[o + 3]? = some x3 ∧ V[o + 4]? = some x4 ∧ V[o + 5]? = some x5 := by
  refine ⟨_, rfl, ?_, ?_, ?_, ?_, ?_, ?_⟩
  · rw [List.getElem?_set_ne (by omega), List.getElem?_set_ne (by omega), List.getElem?_set_ne (by omega), List.getElem?_set_ne (by omega), List.getElem?_set_ne (by omega), List.getElem?_set_self (by omega)]
  · rw [List.getElem?_set_ne (by omega), List.getElem?_set_ne (by omega), List.getElem?_set_ne (by omega), List.getElem?_set_ne (by omega), List.getElem?_set_self (by simp; omega)]
  · rw [List.getElem?_set_ne (by omega), List.getElem?_set_ne (by omega), List.getElem?_set_ne (by omega), List.getElem?_set_self (by simp; omega)]
  · rw [List.getElem?_set_ne (by omega), List.getElem?_set_ne (by omega), List.getElem?_set_self (by simp; omega)]
  · rw [List.getElem?_set_ne (by omega), List.getElem?_set_self (by simp; omega)]
  · rw [List.getElem?_set_self (by simp; omega)]
/-- An element is stored into a row of the call's own. -/
theorem PoolK.store {w : World} {lo hi g n c k lo1 hi1 : Nat} {pl : List Peel} {A : Option Addr} {m d : Nat} {A2 : Option Addr} {m2 d2 : Nat} (h : PoolK w lo hi (.slice (some ⟨g, 0, none⟩) n c) n k pl) (hk : k < n) (t : TwoO w lo1 hi1 (pl.getD k zeroPeel).p.h (pl.getD k zeroPeel).p.b A m d A2 m2 d2) (hl : hi ≤ lo1) (x0 x1 x2 x3 x4 x5 : Value)
    (e0 : x0 = .int .i64 (pl.getD k zeroPeel).kind) (e1 : x1 = .int .i64 (pl.getD k zeroPeel).next) (e2 : x2 = .int .i64 (pl.getD k zeroPeel).p.e) (e3 : x3 = .slice A m d) (e4 : x4 = .int .i64 (pl.getD k zeroPeel).p.t) (e5 : x5 = .slice A2 m2 d2) (o : Nat) (ho : o = k * 6) (hh : lo1 ≤ hi1) :
    PoolK ((((((w.setCell ⟨g, o, none⟩ x0).setCell ⟨g, o + 1, none⟩ x1).setCell ⟨g, o + 2, none⟩ x2).setCell ⟨g, o + 3, none⟩ x3).setCell ⟨g, o + 4, none⟩ x4).setCell ⟨g, o + 5, none⟩ x5) lo hi1 (.slice (some ⟨g, 0, none⟩) n c) n (k + 1) pl := by
  subst ho
  obtain ⟨h1, h2, vals, a, b, hown, hab, hel⟩ := h
  have hlen : vals.length = n * 6 := hown.1
  have hgh := h2 g rfl
  have hon : Only g (g + 1) w ((((((w.setCell ⟨g, k * 6, none⟩ x0).setCell ⟨g, k * 6 + 1, none⟩ x1).setCell ⟨g, k * 6 + 2, none⟩ x2).setCell ⟨g, k * 6 + 3, none⟩ x3).setCell ⟨g, k * 6 + 4, none⟩ x4).setCell ⟨g, k * 6 + 5, none⟩ x5) := by
    have ho : ∀ (u : World) (i : Nat) (x : Value), Only g (g + 1) u (u.setCell ⟨g, i, none⟩ x) := fun u i x => Only.of_grown (only_set x) (fun g hg => by injection hg with hg; omega)
    exact (((((ho _ _ _).trans (ho _ _ _)).trans (ho _ _ _)).trans (ho _ _ _)).trans (ho _ _ _)).trans (ho _ _ _)
  have hsz : (((((((w.setCell ⟨g, k * 6, none⟩ x0).setCell ⟨g, k * 6 + 1, none⟩ x1).setCell ⟨g, k * 6 + 2, none⟩ x2).setCell ⟨g, k * 6 + 3, none⟩ x3).setCell ⟨g, k * 6 + 4, none⟩ x4).setCell ⟨g, k * 6 + 5, none⟩ x5)).heap.size = w.heap.size := by simp [World.setCell]
  have hown2 := ((((((hown.stored (k * 6) x0).1.stored (k * 6 + 1) x1).1.stored (k * 6 + 2) x2).1.stored (k * 6 + 3) x3).1.stored (k * 6 + 4) x4).1.stored (k * 6 + 5) x5).1
  have hti := t.hi_le
  refine ⟨by rw [hsz]; exact hti, fun g' e => by have := h2 g' e; omega, _, fun i => if i < k then a i else lo1, fun i => if i < k then b i else hi1, hown2, fun i j hij hj => ?_, fun j hj => ?_⟩
  · have hik : i < k := by omega
    simp only [hik, if_true]
    by_cases hjk : j < k
    · simp only [hjk, if_true]; exact hab i j hij hjk
    · simp only [hjk, if_false]; have := (hel i hik).2.1; omega
  · by_cases hjk : j < k
    · simp only [hjk, if_true]
      obtain ⟨q1, q2, q3, B, m', c', B2, m2', c2', ⟨f0, f1, f2, f3, f4, f5⟩, t'⟩ := hel j hjk
      refine ⟨q1, by omega, q3, B, m', c', B2, m2', c2', ?_, t'.only hon (by have := q3 g rfl; omega)⟩
      exact ⟨(get6_ne (by omega) _ _ _ _ _ _).trans f0, (get6_ne (by omega) _ _ _ _ _ _).trans f1, (get6_ne (by omega) _ _ _ _ _ _).trans f2, (get6_ne (by omega) _ _ _ _ _ _).trans f3, (get6_ne (by omega) _ _ _ _ _ _).trans f4, (get6_ne (by omega) _ _ _ _ _ _).trans f5⟩
    · have hjk' : j = k := by omega
      subst hjk'
      simp only [hjk, if_false]
      refine ⟨by have := hown.lt g rfl; omega, Nat.le_refl _, fun g' e => by have e2 : g = g' := Option.some.inj e; omega, A, m, d, A2, m2, d2, ?_, t.only hon (.inr (by omega))⟩
      subst e0 e1 e2 e3 e4 e5
      obtain ⟨V, hV, f0, f1, f2, f3, f4, f5⟩ := get6_eq (vals := vals) (o := j * 6) (by omega) (.int .i64 (pl.getD j zeroPeel).kind) (.int .i64 (pl.getD j zeroPeel).next) (.int .i64 (pl.getD j zeroPeel).p.e) (.slice A m d) (.int .i64 (pl.getD j zeroPeel).p.t) (.slice A2 m2 d2)
      rw [← hV]
      exact ⟨f0, f1, f2, f3, f4, f5⟩
theorem PoolK.zero {w : World} {lo hi n : Nat} {v : Value} {vals : List Value} (h : w.ownsRow lo 47 6 v n vals) (hh : hi ≤ w.heap.size) (hg : ∀ g, v.ownBlock = some g → g < hi) (pl : List Peel) : PoolK w lo hi v n 0 pl :=
  ⟨hh, hg, vals, fun _ => 0, fun _ => 0, h, fun i j _ hj => absurd hj (by omega), fun j hj => absurd hj (by omega)⟩
end Go.Proofs.Ytoocjalhcliebaa
