/-
  Words for mixes in memory.
  No condition.
-/
import Derived.Test.YtoocjalhcliebaaPoolO
namespace Go.Proofs.Ytoocjalhcliebaa
open Go Go.RowKit

/-- The two slices of a mix read as its two lists. -/
def MixR (w : World) (lo hi : Nat) (seen : List Int) (pl : List Peel) (A : Option Addr) (n c : Nat) (A2 : Option Addr) (n2 c2 : Nat) : Prop :=
  SlR .i64 w lo hi A n seen ∧ PoolR w lo hi A2 n2 pl ∧ n ≤ c ∧ n2 ≤ c2
/-- The two slices of a mix are the call's own, apart. -/
def MixO (w : World) (lo hi : Nat) (seen : List Int) (pl : List Peel) (A : Option Addr) (n c : Nat) (A2 : Option Addr) (n2 c2 : Nat) : Prop :=
  hi ≤ w.heap.size ∧ ∃ a b a2 b2, OwnR 3 w a b A n c seen ∧ PoolO w a2 b2 A2 n2 c2 pl ∧ (b ≤ a2 ∨ b2 ≤ a) ∧ lo ≤ a ∧ lo ≤ a2 ∧ b ≤ hi ∧ b2 ≤ hi
section
variable {w w' : World} {lo hi lo2 hi2 n c n2 c2 : Nat} {A A2 : Option Addr} {seen : List Int} {pl : List Peel}
theorem MixR.hi_le (t : MixR w lo hi seen pl A n c A2 n2 c2) : hi ≤ w.heap.size := t.1.2.1
theorem MixR.len (t : MixR w lo hi seen pl A n c A2 n2 c2) : seen.length = n ∧ pl.length = n2 := ⟨t.1.1, t.2.1.1⟩
theorem MixR.below {B : Nat} (t : MixR w lo hi seen pl A n c A2 n2 c2) (hb : Below B w w') (hB : hi ≤ B) : MixR w' lo hi seen pl A n c A2 n2 c2 := ⟨t.1.below hb hB, t.2.1.below hb hB, t.2.2⟩
theorem MixR.grown {row : Option Nat} (t : MixR w lo hi seen pl A n c A2 n2 c2) (hg : w.grownBy w' row) (hr : ∀ g, row = some g → g < lo ∨ hi ≤ g) : MixR w' lo hi seen pl A n c A2 n2 c2 := ⟨t.1.grown hg hr, t.2.1.grown hg hr, t.2.2⟩
theorem MixR.only (t : MixR w lo hi seen pl A n c A2 n2 c2) (ho : Only lo2 hi2 w w') (hd : hi ≤ lo2 ∨ hi2 ≤ lo) : MixR w' lo hi seen pl A n c A2 n2 c2 := ⟨t.1.only ho hd, t.2.1.only ho hd, t.2.2⟩
theorem MixR.alloc (t : MixR w lo hi seen pl A n c A2 n2 c2) (o : Obj) : MixR (w.alloc o) lo hi seen pl A n c A2 n2 c2 := ⟨t.1.alloc o, t.2.1.alloc o, t.2.2⟩
theorem MixR.drew (t : MixR w lo hi seen pl A n c A2 n2 c2) : MixR w.drew lo hi seen pl A n c A2 n2 c2 := t
theorem MixR.drewN (t : MixR w lo hi seen pl A n c A2 n2 c2) (m : Nat) : MixR (w.drewN m) lo hi seen pl A n c A2 n2 c2 := t
theorem MixR.wider {lo' hi' : Nat} (t : MixR w lo hi seen pl A n c A2 n2 c2) (hl : lo' ≤ lo) (hh : hi ≤ hi') (hs : hi' ≤ w.heap.size) : MixR w lo' hi' seen pl A n c A2 n2 c2 := ⟨t.1.wider hl hh hs, t.2.1.wider hl hh hs, t.2.2⟩
theorem MixO.hi_le (t : MixO w lo hi seen pl A n c A2 n2 c2) : hi ≤ w.heap.size := t.1
theorem MixO.len (t : MixO w lo hi seen pl A n c A2 n2 c2) : seen.length = n ∧ pl.length = n2 := by
  obtain ⟨_, a, b, a2, b2, o, p, _⟩ := t; exact ⟨o.len, p.len⟩
theorem MixO.read (t : MixO w lo hi seen pl A n c A2 n2 c2) : MixR w lo hi seen pl A n c A2 n2 c2 := by
  obtain ⟨h, a, b, a2, b2, o, p, _, h1, h2, h3, h4⟩ := t
  exact ⟨o.read.wider h1 h3 h, p.read.wider h2 h4 h, o.cap, p.cap⟩
theorem MixO.below {B : Nat} (t : MixO w lo hi seen pl A n c A2 n2 c2) (hb : Below B w w') (hB : hi ≤ B) : MixO w' lo hi seen pl A n c A2 n2 c2 := by
  obtain ⟨h, a, b, a2, b2, o, p, r, h1, h2, h3, h4⟩ := t
  exact ⟨Nat.le_trans h hb.size, a, b, a2, b2, o.below hb (by omega), p.below hb (by omega), r, h1, h2, h3, h4⟩
theorem MixO.grown {row : Option Nat} (t : MixO w lo hi seen pl A n c A2 n2 c2) (hg : w.grownBy w' row) (hr : ∀ g, row = some g → g < lo ∨ hi ≤ g) : MixO w' lo hi seen pl A n c A2 n2 c2 := by
  obtain ⟨h, a, b, a2, b2, o, p, r, h1, h2, h3, h4⟩ := t
  exact ⟨Nat.le_trans h hg.size, a, b, a2, b2, o.grown hg (fun g e => by have := hr g e; omega), p.grown hg (fun g e => by have := hr g e; omega), r, h1, h2, h3, h4⟩
theorem MixO.only (t : MixO w lo hi seen pl A n c A2 n2 c2) (ho : Only lo2 hi2 w w') (hd : hi ≤ lo2 ∨ hi2 ≤ lo) : MixO w' lo hi seen pl A n c A2 n2 c2 := by
  obtain ⟨h, a, b, a2, b2, o, p, r, h1, h2, h3, h4⟩ := t
  exact ⟨Nat.le_trans h ho.size, a, b, a2, b2, o.only ho (by omega), p.only ho (by omega), r, h1, h2, h3, h4⟩
theorem MixO.alloc (t : MixO w lo hi seen pl A n c A2 n2 c2) (x : Obj) : MixO (w.alloc x) lo hi seen pl A n c A2 n2 c2 := by
  obtain ⟨h, a, b, a2, b2, o, p, r, h1, h2, h3, h4⟩ := t
  exact ⟨by simp; omega, a, b, a2, b2, o.alloc x, p.alloc x, r, h1, h2, h3, h4⟩
theorem MixO.drew (t : MixO w lo hi seen pl A n c A2 n2 c2) : MixO w.drew lo hi seen pl A n c A2 n2 c2 := t
theorem MixO.wider {lo' hi' : Nat} (t : MixO w lo hi seen pl A n c A2 n2 c2) (hl : lo' ≤ lo) (hh : hi ≤ hi') (hs : hi' ≤ w.heap.size) : MixO w lo' hi' seen pl A n c A2 n2 c2 := by
  obtain ⟨h, a, b, a2, b2, o, p, r, h1, h2, h3, h4⟩ := t
  exact ⟨hs, a, b, a2, b2, o, p, r, by omega, by omega, by omega, by omega⟩
theorem MixO.none_ (hh : hi ≤ w.heap.size) : MixO w lo hi [] [] none 0 0 none 0 0 :=
  ⟨hh, lo + hi, hi, lo + hi, hi, OwnR.nil hh, ⟨rfl, PoolK.zero (World.ownsRow_nil _ _ _ _) hh (fun g e => by cases e) []⟩, .inl (by omega), by omega, by omega, Nat.le_refl _, Nat.le_refl _⟩
end
/-- A call that returns a new mix. -/
def NewMix (s : Int) (seen : List Int) (pl : List Peel) (w : World) (e : Ending) (w' : World) : Prop :=
  ∃ A n c A2 n2 c2, e = .returned (.agg #[.int .i64 s, .slice A n c, .slice A2 n2 c2]) ∧ MixO w' w.heap.size w'.heap.size seen pl A n c A2 n2 c2 ∧ Below w.heap.size w w'
/-- A call that returns a new mix and a truth value. -/
def NewMixB (s : Int) (seen : List Int) (pl : List Peel) (ok : Bool) (w : World) (e : Ending) (w' : World) : Prop :=
  ∃ A n c A2 n2 c2, e = .returned (.tuple #[.agg #[.int .i64 s, .slice A n c, .slice A2 n2 c2], .bool ok]) ∧ MixO w' w.heap.size w'.heap.size seen pl A n c A2 n2 c2 ∧ Below w.heap.size w w'
theorem set3_only (w : World) (g : Nat) (x0 x1 x2 : Value) : Only g (g + 1) w (((w.setCell ⟨g, 0, none⟩ x0).setCell ⟨g, 1, none⟩ x1).setCell ⟨g, 2, none⟩ x2) := by
  have ho : ∀ (u : World) (i : Nat) (x : Value), Only g (g + 1) u (u.setCell ⟨g, i, none⟩ x) := fun u i x => Only.of_grown (only_set x) (fun g hg => by injection hg with hg; omega)
  exact ((ho _ _ _).trans (ho _ _ _)).trans (ho _ _ _)
theorem set3_size (w : World) (g : Nat) (x0 x1 x2 : Value) : (((w.setCell ⟨g, 0, none⟩ x0).setCell ⟨g, 1, none⟩ x1).setCell ⟨g, 2, none⟩ x2).heap.size = w.heap.size := by simp [World.setCell]
theorem set1_only (w : World) (g i : Nat) (x : Value) : Only g (g + 1) w (w.setCell ⟨g, i, none⟩ x) := Only.of_grown (only_set x) (fun g hg => by injection hg with hg; omega)
end Go.Proofs.Ytoocjalhcliebaa
