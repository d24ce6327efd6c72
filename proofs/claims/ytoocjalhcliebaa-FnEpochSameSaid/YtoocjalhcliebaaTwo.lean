/-
  Words for the two lists of a packet in memory, and for a call that writes only into blocks of a range.
  No condition.
-/
import Derived.Test.YtoocjalhcliebaaBaseJ
import Derived.Test.YtoocjalhcliebaaPath
import Derived.Test.YtoocjalhcliebaaDrawP
import Derived.Test.YtoocjalhcliebaaBaseA
namespace Go.Proofs.Ytoocjalhcliebaa
open Go Go.RowKit

/-- w' is w but for blocks in [lo, hi) and for new blocks. -/
structure Only (lo hi : Nat) (w w' : World) : Prop where
  os : w'.os = w.os
  tape : w'.tape = w.tape
  output : w'.output = w.output
  size : w.heap.size ≤ w'.heap.size
  block : ∀ b, b < w.heap.size → (b < lo ∨ hi ≤ b) → w'.heap[b]? = w.heap[b]?
theorem Only.refl (lo hi : Nat) (w : World) : Only lo hi w w := ⟨rfl, rfl, rfl, Nat.le_refl _, fun _ _ _ => rfl⟩
theorem Only.trans {lo hi : Nat} {a b c : World} (h : Only lo hi a b) (k : Only lo hi b c) : Only lo hi a c :=
  ⟨k.os.trans h.os, k.tape.trans h.tape, k.output.trans h.output, Nat.le_trans h.size k.size, fun i hi hne => (k.block i (Nat.lt_of_lt_of_le hi h.size) hne).trans (h.block i hi hne)⟩
theorem Only.of_grown {lo hi : Nat} {a b : World} {row : Option Nat} (h : a.grownBy b row) (hr : ∀ g, row = some g → lo ≤ g ∧ g < hi) : Only lo hi a b :=
  ⟨h.os, h.tape, h.output, h.size, fun i hi hne => h.block i hi (fun e => by have := hr i e.symm; omega)⟩
theorem Only.of_below {lo hi : Nat} {a b : World} (h : Below a.heap.size a b) : Only lo hi a b :=
  ⟨h.os, h.tape, h.output, h.size, fun i hi _ => h.block i hi⟩
theorem Only.wider {lo hi lo' hi' : Nat} {a b : World} (h : Only lo hi a b) (h1 : lo' ≤ lo) (h2 : hi ≤ hi') : Only lo' hi' a b :=
  ⟨h.os, h.tape, h.output, h.size, fun i hi hne => h.block i hi (by omega)⟩
theorem Below.only {B lo hi : Nat} {a b c : World} (h : Below B a b) (k : Only lo hi b c) (hB : B ≤ b.heap.size) (hlo : B ≤ lo) : Below B a c :=
  ⟨k.os.trans h.os, k.tape.trans h.tape, k.output.trans h.output, Nat.le_trans h.size k.size, fun i hi => (k.block i (by omega) (by omega)).trans (h.block i hi)⟩
section
variable {k : IntKind} {T : TypeId} {w w' : World} {lo hi lo2 hi2 n c : Nat} {A : Option Addr} {xs : List Int}
theorem SlR.only (h : SlR k w lo hi A n xs) (ho : Only lo2 hi2 w w') (hd : hi ≤ lo2 ∨ hi2 ≤ lo) : SlR k w' lo hi A n xs :=
  h.keep (Nat.le_trans h.2.1 ho.size) fun b hl hlt => ho.block b (Nat.lt_of_lt_of_le hlt h.2.1) (by omega)
theorem OwnR.only (h : OwnR T w lo hi A n c xs) (ho : Only lo2 hi2 w w') (hd : hi ≤ lo2 ∨ hi2 ≤ lo) : OwnR T w' lo hi A n c xs :=
  h.keep (Nat.le_trans h.2.1 ho.size) fun b hl hlt => ho.block b (Nat.lt_of_lt_of_le hlt h.2.1) (by omega)
theorem OwnR.hi_le (h : OwnR T w lo hi A n c xs) : hi ≤ w.heap.size := h.2.1
theorem SlR.end_ (h : SlR k w lo hi A n xs) (hlt : 0 < n) : lo < hi := by
  obtain ⟨b, o, e, h1, h2, _⟩ := h.2.2 hlt; omega
end

/-- Two slices that read as two lists. -/
def TwoR (w : World) (lo hi : Nat) (h b : List Int) (A : Option Addr) (n c : Nat) (A2 : Option Addr) (n2 c2 : Nat) : Prop :=
  SlR .i64 w lo hi A n h ∧ SlR .i64 w lo hi A2 n2 b ∧ n ≤ c ∧ n2 ≤ c2
/-- Two slices of the call's own, apart. -/
def TwoO (w : World) (lo hi : Nat) (h b : List Int) (A : Option Addr) (n c : Nat) (A2 : Option Addr) (n2 c2 : Nat) : Prop :=
  OwnR 3 w lo hi A n c h ∧ OwnR 3 w lo hi A2 n2 c2 b ∧ ∀ g, Value.ownBlock (.slice A n c) = some g → Value.ownBlock (.slice A2 n2 c2) ≠ some g
section
variable {w w' : World} {lo hi lo2 hi2 n c n2 c2 : Nat} {A A2 : Option Addr} {h b : List Int}
theorem TwoR.hi_le (t : TwoR w lo hi h b A n c A2 n2 c2) : hi ≤ w.heap.size := t.1.2.1
theorem TwoR.len (t : TwoR w lo hi h b A n c A2 n2 c2) : h.length = n ∧ b.length = n2 := ⟨t.1.1, t.2.1.1⟩
theorem TwoR.keep (t : TwoR w lo hi h b A n c A2 n2 c2) (hs : hi ≤ w'.heap.size) (hk : ∀ b, lo ≤ b → b < hi → w'.heap[b]? = w.heap[b]?) : TwoR w' lo hi h b A n c A2 n2 c2 :=
  ⟨t.1.keep hs hk, t.2.1.keep hs hk, t.2.2⟩
theorem TwoR.below {B : Nat} (t : TwoR w lo hi h b A n c A2 n2 c2) (hb : Below B w w') (hB : hi ≤ B) : TwoR w' lo hi h b A n c A2 n2 c2 :=
  ⟨t.1.below hb hB, t.2.1.below hb hB, t.2.2⟩
theorem TwoR.grown {row : Option Nat} (t : TwoR w lo hi h b A n c A2 n2 c2) (hg : w.grownBy w' row) (hr : ∀ g, row = some g → g < lo ∨ hi ≤ g) : TwoR w' lo hi h b A n c A2 n2 c2 :=
  ⟨t.1.grown hg hr, t.2.1.grown hg hr, t.2.2⟩
theorem TwoR.only (t : TwoR w lo hi h b A n c A2 n2 c2) (ho : Only lo2 hi2 w w') (hd : hi ≤ lo2 ∨ hi2 ≤ lo) : TwoR w' lo hi h b A n c A2 n2 c2 :=
  ⟨t.1.only ho hd, t.2.1.only ho hd, t.2.2⟩
theorem TwoR.alloc (t : TwoR w lo hi h b A n c A2 n2 c2) (o : Obj) : TwoR (w.alloc o) lo hi h b A n c A2 n2 c2 := ⟨t.1.alloc o, t.2.1.alloc o, t.2.2⟩
theorem TwoR.drew (t : TwoR w lo hi h b A n c A2 n2 c2) : TwoR w.drew lo hi h b A n c A2 n2 c2 := t
theorem TwoR.drewN (t : TwoR w lo hi h b A n c A2 n2 c2) (m : Nat) : TwoR (w.drewN m) lo hi h b A n c A2 n2 c2 := t
theorem TwoR.wider {lo' hi' : Nat} (t : TwoR w lo hi h b A n c A2 n2 c2) (hl : lo' ≤ lo) (hh : hi ≤ hi') (hs : hi' ≤ w.heap.size) : TwoR w lo' hi' h b A n c A2 n2 c2 :=
  ⟨t.1.wider hl hh hs, t.2.1.wider hl hh hs, t.2.2⟩
theorem TwoO.hi_le (t : TwoO w lo hi h b A n c A2 n2 c2) : hi ≤ w.heap.size := t.1.2.1
theorem TwoO.len (t : TwoO w lo hi h b A n c A2 n2 c2) : h.length = n ∧ b.length = n2 := ⟨t.1.len, t.2.1.len⟩
theorem TwoO.read (t : TwoO w lo hi h b A n c A2 n2 c2) : TwoR w lo hi h b A n c A2 n2 c2 := ⟨t.1.read, t.2.1.read, t.1.cap, t.2.1.cap⟩
theorem TwoO.below {B : Nat} (t : TwoO w lo hi h b A n c A2 n2 c2) (hb : Below B w w') (hB : hi ≤ B) : TwoO w' lo hi h b A n c A2 n2 c2 :=
  ⟨t.1.below hb hB, t.2.1.below hb hB, t.2.2⟩
theorem TwoO.grown {row : Option Nat} (t : TwoO w lo hi h b A n c A2 n2 c2) (hg : w.grownBy w' row) (hr : ∀ g, row = some g → g < lo ∨ hi ≤ g) : TwoO w' lo hi h b A n c A2 n2 c2 :=
  ⟨t.1.grown hg hr, t.2.1.grown hg hr, t.2.2⟩
theorem TwoO.only (t : TwoO w lo hi h b A n c A2 n2 c2) (ho : Only lo2 hi2 w w') (hd : hi ≤ lo2 ∨ hi2 ≤ lo) : TwoO w' lo hi h b A n c A2 n2 c2 :=
  ⟨t.1.only ho hd, t.2.1.only ho hd, t.2.2⟩
theorem TwoO.alloc (t : TwoO w lo hi h b A n c A2 n2 c2) (o : Obj) : TwoO (w.alloc o) lo hi h b A n c A2 n2 c2 := ⟨t.1.alloc o, t.2.1.alloc o, t.2.2⟩
theorem TwoO.drew (t : TwoO w lo hi h b A n c A2 n2 c2) : TwoO w.drew lo hi h b A n c A2 n2 c2 := t
theorem TwoO.wider {lo' hi' : Nat} (t : TwoO w lo hi h b A n c A2 n2 c2) (hl : lo' ≤ lo) (hh : hi ≤ hi') (hs : hi' ≤ w.heap.size) : TwoO w lo' hi' h b A n c A2 n2 c2 :=
  ⟨t.1.wider hl hh hs, t.2.1.wider hl hh hs, t.2.2⟩
/-- Two slices made one after the other are apart. -/
theorem TwoO.of_two {lo1 hi1 lo2 hi2 : Nat} (h1 : OwnR 3 w lo1 hi1 A n c h) (h2 : OwnR 3 w lo2 hi2 A2 n2 c2 b) (hd : hi1 ≤ lo2 ∨ hi2 ≤ lo1) (hl1 : lo ≤ lo1) (hl2 : lo ≤ lo2) (hh1 : hi1 ≤ hi) (hh2 : hi2 ≤ hi) (hs : hi ≤ w.heap.size) : TwoO w lo hi h b A n c A2 n2 c2 := by
  refine ⟨h1.wider hl1 hh1 hs, h2.wider hl2 hh2 hs, fun g e1 e2 => ?_⟩
  have := h1.block e1
  have := h2.block e2
  omega
theorem TwoO.none_ (hh : hi ≤ w.heap.size) : TwoO w lo hi [] [] none 0 0 none 0 0 := ⟨OwnR.nil hh, OwnR.nil hh, fun g e => by simp [Value.ownBlock] at e⟩
end

/-- A call that returns a new packet. -/
def NewPkt (p : Pkt) (ok : Bool) (w : World) (e : Ending) (w' : World) : Prop :=
  ∃ A n c A2 n2 c2, e = .returned (.tuple #[.agg #[.int .i64 p.e, .slice A n c, .int .i64 p.t, .slice A2 n2 c2], .bool ok]) ∧ TwoO w' w.heap.size w'.heap.size p.h p.b A n c A2 n2 c2 ∧ Below w.heap.size w w'
/-- A call that returns a new peeled packet. -/
def NewPeel (x : Peel) (ok : Bool) (w : World) (e : Ending) (w' : World) : Prop :=
  ∃ A n c A2 n2 c2, e = .returned (.tuple #[.agg #[.int .i64 x.kind, .int .i64 x.next, .int .i64 x.p.e, .slice A n c, .int .i64 x.p.t, .slice A2 n2 c2], .bool ok]) ∧ TwoO w' w.heap.size w'.heap.size x.p.h x.p.b A n c A2 n2 c2 ∧ Below w.heap.size w w'
end Go.Proofs.Ytoocjalhcliebaa
