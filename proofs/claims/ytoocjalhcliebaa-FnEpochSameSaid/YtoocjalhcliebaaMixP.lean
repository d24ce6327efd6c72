/-
  Words for mixes whose lists the call made, and a packet taken in.
  Conditions: the mix and the packet are valid.
-/
import Derived.Test.YtoocjalhcliebaaOwnW
import Derived.Test.YtoocjalhcliebaaPeelS
namespace Go.Proofs.Ytoocjalhcliebaa
open Go Go.RowKit

/-- The own row v of n peeled packets; their lists lie in [lo, hi), the row's block anywhere outside them. -/
def PoolX (w : World) (B lo hi : Nat) (v u : Value) (n : Nat) (pl : List Peel) : Prop :=
  hi ≤ w.heap.size ∧ pl.length = n ∧ ∃ (vals : List Value) (a b : Nat → Nat), w.ownsRow B 47 6 v n vals ∧ (∀ i j, i < j → j < n → b i ≤ a j) ∧
    ∀ j, j < n → lo ≤ a j ∧ b j ≤ hi ∧ (∀ g, v.ownBlock = some g ∨ u.ownBlock = some g → g < a j ∨ b j ≤ g) ∧ ∃ A m c A2 m2 c2, ElAt vals (j * 6) (pl.getD j zeroPeel) A m c A2 m2 c2 ∧ TwoO w (a j) (b j) (pl.getD j zeroPeel).p.h (pl.getD j zeroPeel).p.b A m c A2 m2 c2
/-- The two slices of a mix are the call's own and all blocks are apart. -/
def MixP (w : World) (L H : Nat) (seen : List Int) (pl : List Peel) (A : Option Addr) (n c : Nat) (A2 : Option Addr) (n2 c2 : Nat) : Prop :=
  OwnR 3 w L H A n c seen ∧ ∃ lo hi, L ≤ lo ∧ hi ≤ H ∧ PoolX w L lo hi (.slice A2 n2 c2) (.slice A n c) n2 pl ∧ (∀ g, Value.ownBlock (.slice A2 n2 c2) = some g → g < H) ∧
    ∀ g, Value.ownBlock (.slice A n c) = some g → Value.ownBlock (.slice A2 n2 c2) ≠ some g
section
variable {w w' : World} {B lo hi lo2 hi2 L H n c n2 c2 : Nat} {v u : Value} {A A2 : Option Addr} {seen : List Int} {pl : List Peel}
theorem TwoO.keep' {a b : Nat} {h k : List Int} {m d m2 d2 : Nat} (t : TwoO w a b h k A m d A2 m2 d2) (hs : b ≤ w'.heap.size) (hk : ∀ i, a ≤ i → i < b → w'.heap[i]? = w.heap[i]?) : TwoO w' a b h k A m d A2 m2 d2 :=
  ⟨t.1.keep hs hk, t.2.1.keep hs hk, t.2.2⟩
theorem PoolX.keep (h : PoolX w B lo hi v u n pl) (hs : hi ≤ w'.heap.size) (hk : ∀ b, lo ≤ b → b < hi → w'.heap[b]? = w.heap[b]?) (hg : ∀ g, v.ownBlock = some g → w'.heap[g]? = w.heap[g]?) : PoolX w' B lo hi v u n pl := by
  obtain ⟨_, hl, vals, a, b, hown, hab, hel⟩ := h
  refine ⟨hs, hl, vals, a, b, owns_kept hown hg, hab, fun j hj => ?_⟩
  obtain ⟨q1, q2, q3, A, m, c, A2, m2, c2, E, t⟩ := hel j hj
  exact ⟨q1, q2, q3, A, m, c, A2, m2, c2, E, t.keep' (by omega) (fun i h1 h2 => hk i (by omega) (by omega))⟩
theorem PoolO.toX (h : PoolO w lo hi A n c pl) (hu : ∀ g, u.ownBlock = some g → g < lo ∨ hi ≤ g) : PoolX w lo lo hi (.slice A n c) u n pl := by
  obtain ⟨hl, h1, h2, vals, a, b, hown, hab, hel⟩ := h
  refine ⟨h1, hl, vals, a, b, hown, hab, fun j hj => ?_⟩
  obtain ⟨q1, q2, q3, q4⟩ := hel j hj
  exact ⟨q1, q2, fun g e => e.elim (q3 g) (fun e => by have := hu g e; omega), q4⟩
theorem PoolX.base {B' : Nat} (h : PoolX w B lo hi v u n pl) (hB : B' ≤ B) : PoolX w B' lo hi v u n pl := by
  obtain ⟨h1, hl, vals, a, b, hown, hab, hel⟩ := h
  exact ⟨h1, hl, vals, a, b, owns_base hown hB, hab, hel⟩
theorem MixO.toP (h : MixO w lo hi seen pl A n c A2 n2 c2) : MixP w lo hi seen pl A n c A2 n2 c2 := by
  obtain ⟨h0, a, b, a2, b2, o, p, hd, h1, h2, h3, h4⟩ := h
  refine ⟨o.wider h1 h3 h0, a2, b2, h2, h4, (p.toX (fun g e => by have := o.block e; omega)).base h2, fun g e => Nat.lt_of_lt_of_le (p.2.2.1 g e) h4, fun g e => ?_⟩
  have hg := o.block e
  refine fun e2 => ?_
  have hg2 := p.2.2.1 g e2
  obtain ⟨_, _, _, vals, _, _, hown, _⟩ := p
  have := (hown.lt g e2).1
  omega
theorem MixP.pool (h : MixP w L H seen pl A n c A2 n2 c2) : PoolO w L H A2 n2 c2 pl := by
  obtain ⟨o, lo, hi, h1, h2, ⟨h3, hl, vals, a, b, hown, hab, hel⟩, h4, _⟩ := h
  refine ⟨hl, o.2.1, h4, vals, a, b, hown, hab, fun j hj => ?_⟩
  obtain ⟨q1, q2, q3, q4⟩ := hel j hj
  exact ⟨by omega, by omega, fun g e => q3 g (.inl e), q4⟩
theorem MixP.read (h : MixP w L H seen pl A n c A2 n2 c2) : MixR w L H seen pl A n c A2 n2 c2 := ⟨h.1.read, h.pool.read, h.1.cap, h.pool.cap⟩
theorem MixP.hi_le (h : MixP w L H seen pl A n c A2 n2 c2) : H ≤ w.heap.size := h.1.2.1
theorem MixP.len (h : MixP w L H seen pl A n c A2 n2 c2) : seen.length = n ∧ pl.length = n2 := ⟨h.1.len, h.pool.len⟩
theorem MixP.keep (h : MixP w L H seen pl A n c A2 n2 c2) (hs : H ≤ w'.heap.size) (hk : ∀ b, L ≤ b → b < H → w'.heap[b]? = w.heap[b]?) : MixP w' L H seen pl A n c A2 n2 c2 := by
  obtain ⟨o, lo, hi, h1, h2, p, h4, h5⟩ := h
  refine ⟨o.keep hs hk, lo, hi, h1, h2, p.keep (by omega) (fun b hb hb' => hk b (by omega) (by omega)) (fun g e => hk g ?_ (h4 g e)), h4, h5⟩
  obtain ⟨_, _, _, _, _, hown, _⟩ := p
  exact (hown.lt g e).1
theorem MixP.below {M : Nat} (h : MixP w L H seen pl A n c A2 n2 c2) (hb : Below M w w') (hB : H ≤ M) : MixP w' L H seen pl A n c A2 n2 c2 := h.keep (Nat.le_trans h.hi_le hb.size) fun b _ hlt => hb.block b (by omega)
theorem MixP.only (h : MixP w L H seen pl A n c A2 n2 c2) (ho : Only lo2 hi2 w w') (hd : H ≤ lo2 ∨ hi2 ≤ L) : MixP w' L H seen pl A n c A2 n2 c2 :=
  h.keep (Nat.le_trans h.hi_le ho.size) fun b hl hlt => ho.block b (Nat.lt_of_lt_of_le hlt h.hi_le) (by omega)
theorem MixP.grown {row : Option Nat} (h : MixP w L H seen pl A n c A2 n2 c2) (hg : w.grownBy w' row) (hr : ∀ g, row = some g → g < L ∨ H ≤ g) : MixP w' L H seen pl A n c A2 n2 c2 :=
  h.keep (Nat.le_trans h.hi_le hg.size) fun b hl hlt => hg.block b (Nat.lt_of_lt_of_le hlt h.hi_le) (fun e => by have := hr b e.symm; omega)
theorem MixP.alloc (h : MixP w L H seen pl A n c A2 n2 c2) (o : Obj) : MixP (w.alloc o) L H seen pl A n c A2 n2 c2 := h.keep (by simp; have := h.hi_le; omega) fun b _ hlt => Below.heap_alloc w o b (Nat.lt_of_lt_of_le hlt h.hi_le)
theorem MixP.drew (h : MixP w L H seen pl A n c A2 n2 c2) : MixP w.drew L H seen pl A n c A2 n2 c2 := h
theorem MixP.wider {L' H' : Nat} (h : MixP w L H seen pl A n c A2 n2 c2) (hl : L' ≤ L) (hh : H ≤ H') (hs : H' ≤ w.heap.size) : MixP w L' H' seen pl A n c A2 n2 c2 := by
  obtain ⟨o, lo, hi, h1, h2, p, h4, h5⟩ := h
  exact ⟨o.wider hl hh hs, lo, hi, by omega, by omega, p.base hl, fun g e => Nat.lt_of_lt_of_le (h4 g e) hh, h5⟩
end
theorem MixO.toP' {w : World} {lo hi n c n2 c2 : Nat} {A A2 : Option Addr} {seen : List Int} {pl : List Peel} (h : MixO w lo hi seen pl A n c A2 n2 c2) : MixP w lo hi seen pl A n c A2 n2 c2 := h.toP
/-- A peeled packet is appended to a row of the call's own, and a block between is written. -/
theorem pool_append {w W w1 w2 : World} {B lo0 lo hi n lo1 hi1 lo3 hi3 : Nat} {v v' u : Value} {pl : List Peel} {vals : List Value} {a b : Nat → Nat} {X : Peel} {A : Option Addr} {m d : Nat} {A2 : Option Addr} {m2 d2 : Nat} (hl0 : pl.length = n) (hgv : ∀ g, v.ownBlock = some g → g < hi) (hlen : vals.length = n * 6) (hab : ∀ i j, i < j → j < n → b i ≤ a j)
    (hel : ∀ j, j < n → lo ≤ a j ∧ b j ≤ hi ∧ (∀ g, v.ownBlock = some g → g < a j ∨ b j ≤ g) ∧ ∃ A m c A2 m2 c2, ElAt vals (j * 6) (pl.getD j zeroPeel) A m c A2 m2 c2 ∧ TwoO w (a j) (b j) (pl.getD j zeroPeel).p.h (pl.getD j zeroPeel).p.b A m c A2 m2 c2)
    (t : TwoO w lo1 hi1 X.p.h X.p.b A m d A2 m2 d2) (h0 : lo0 ≤ lo) (h01 : lo0 ≤ lo1) (hl : hi ≤ lo3) (h3 : hi3 ≤ lo1) (h31 : lo3 ≤ hi3) (hh : lo1 ≤ hi1)
    (hown : w1.ownsRow B 47 6 v' (n + 1) (vals ++ [Value.int .i64 X.kind, .int .i64 X.next, .int .i64 X.p.e, .slice A m d, .int .i64 X.p.t, .slice A2 m2 d2])) (hg : W.grownBy w1 v.ownBlock) (hW : Below w.heap.size w W) (hat : v'.ownBlock = v.ownBlock ∨ v'.ownBlock = some W.heap.size) (ho : Only lo3 hi3 w1 w2) (hu : ∀ g, u.ownBlock = some g → (g < lo ∨ hi ≤ g) ∧ (g < lo1 ∨ hi1 ≤ g)) :
    PoolX w2 B lo0 hi1 v' u (n + 1) (pl ++ [X]) ∧ (∀ g, v'.ownBlock = some g → g < hi ∨ g = W.heap.size) := by
  have hzW := hW.size
  have hz1 := hg.size
  have hz2 := ho.size
  have hti := t.hi_le
  have hblk : ∀ g, v'.ownBlock = some g → g < hi ∨ g = W.heap.size := fun g e => by
    rcases hat with h | h
    · exact .inl (hgv g (by rw [← h]; exact e))
    · rw [h] at e; injection e with e; exact .inr e.symm
  have hmv : ∀ {lo2 hi2 : Nat} {h b : List Int} {A : Option Addr} {m c : Nat} {A2 : Option Addr} {m2 c2 : Nat}, TwoO w lo2 hi2 h b A m c A2 m2 c2 → (∀ g, v.ownBlock = some g → g < lo2 ∨ hi2 ≤ g) → (hi2 ≤ lo3 ∨ hi3 ≤ lo2) → TwoO w2 lo2 hi2 h b A m c A2 m2 c2 := fun t hr hd => ((t.below hW t.hi_le).grown hg hr).only ho hd
  have hob : ∀ g, v'.ownBlock = some g → w2.heap[g]? = w1.heap[g]? := fun g e => ho.block g (hown.lt g e).2 (by have := hblk g e; omega)
  have ap : ∀ i u, vals[i]? = some u → (vals ++ [Value.int .i64 X.kind, .int .i64 X.next, .int .i64 X.p.e, .slice A m d, .int .i64 X.p.t, .slice A2 m2 d2])[i]? = some u := fun i u h => by
    have hi : i < vals.length := (List.getElem?_eq_some_iff.1 h).1
    rw [List.getElem?_append_left hi]; exact h
  refine ⟨⟨by omega, by simp [hl0], _, fun i => if i < n then a i else lo1, fun i => if i < n then b i else hi1, owns_kept hown hob, fun i j hij hj => ?_, fun j hj => ?_⟩, hblk⟩
  · have hik : i < n := by omega
    simp only [hik, if_true]
    by_cases hjk : j < n
    · simp only [hjk, if_true]; exact hab i j hij hjk
    · simp only [hjk, if_false]; have := (hel i hik).2.1; omega
  · by_cases hjk : j < n
    · simp only [hjk, if_true]
      obtain ⟨q1, q2, q3, B', m', c', B2, m2', c2', ⟨f0, f1, f2, f3, f4, f5⟩, t'⟩ := hel j hjk
      have hgj : (pl ++ [X]).getD j zeroPeel = pl.getD j zeroPeel := by simp [List.getD_eq_getElem?_getD, List.getElem?_append_left (show j < pl.length by omega)]
      rw [hgj]
      refine ⟨by omega, by omega, fun g e => ?_, B', m', c', B2, m2', c2', ⟨ap _ _ f0, ap _ _ f1, ap _ _ f2, ap _ _ f3, ap _ _ f4, ap _ _ f5⟩, hmv t' q3 (.inl (by omega))⟩
      rcases e with e | e
      · rcases hat with h | h
        · exact q3 g (by rw [← h]; exact e)
        · rw [h] at e; injection e with e; exact .inr (by omega)
      · have := hu g e; omega
    · have hjk' : j = n := by omega
      subst hjk'
      simp only [hjk, if_false]
      have hgj : (pl ++ [X]).getD j zeroPeel = X := by simp [List.getD_eq_getElem?_getD, ← hl0]
      rw [hgj]
      refine ⟨by omega, Nat.le_refl _, fun g e => ?_, A, m, d, A2, m2, d2, ?_, hmv t (fun g e => by have := hgv g e; exact .inl (by omega)) (.inr h3)⟩
      · rcases e with e | e
        · rcases hblk g e with h | h
          · exact .inl (by omega)
          · exact .inr (by omega)
        · exact (hu g e).2
      · have ap : ∀ i, i < 6 → (vals ++ [Value.int .i64 X.kind, .int .i64 X.next, .int .i64 X.p.e, .slice A m d, .int .i64 X.p.t, .slice A2 m2 d2])[j * 6 + i]? = [Value.int .i64 X.kind, .int .i64 X.next, .int .i64 X.p.e, .slice A m d, .int .i64 X.p.t, .slice A2 m2 d2][i]? := fun i hi => by
          rw [List.getElem?_append_right (by omega)]
          congr 1; omega
        exact ⟨ap 0 (by omega), ap 1 (by omega), ap 2 (by omega), ap 3 (by omega), ap 4 (by omega), ap 5 (by omega)⟩
/-- A call that takes a packet into a mix. -/
def TakeP (s : Int) (w : World) (e : Ending) (w' : World) : Prop :=
  ∃ code seen pl A n c A2 n2 c2, e = .returned (.tuple #[.agg #[.int .i64 s, .slice A n c, .slice A2 n2 c2], .int .i64 code]) ∧ MixP w' w.heap.size w'.heap.size seen pl A n c A2 n2 c2 ∧ mixB ⟨s, seen, pl⟩ = true ∧ Below w.heap.size w w'
theorem set3_with {w wx : World} {q lo3 hi3 n c n2 c2 : Nat} {A A2 : Option Addr} {seen : List Int} {pl : List Peel} (o : MixP wx lo3 hi3 seen pl A n c A2 n2 c2) (hq : q < lo3) (hw : w.heap.size ≤ q) (hb : Below w.heap.size w wx) (x0 x1 x2 : Value) :
    MixP (((wx.setCell ⟨q, 0, none⟩ x0).setCell ⟨q, 1, none⟩ x1).setCell ⟨q, 2, none⟩ x2) w.heap.size (((wx.setCell ⟨q, 0, none⟩ x0).setCell ⟨q, 1, none⟩ x1).setCell ⟨q, 2, none⟩ x2).heap.size seen pl A n c A2 n2 c2 ∧ Below w.heap.size w (((wx.setCell ⟨q, 0, none⟩ x0).setCell ⟨q, 1, none⟩ x1).setCell ⟨q, 2, none⟩ x2) := by
  have hon := set3_only wx q x0 x1 x2
  have h1 := o.only hon (.inr (by omega))
  exact ⟨h1.wider (by omega) h1.hi_le (Nat.le_refl _), Below.only hb hon hb.size (by omega)⟩
theorem seen_snoc {xs : List Int} {x : Int} (h : seenB xs = true) (hx : elB x = true) (hn : hasB xs x = false) : seenB (xs ++ [x]) = true := by
  have h' : ∀ j, j < xs.length → seenAt xs j = true := by simpa [seenB] using h
  simp only [seenB, List.all_eq_true, List.mem_range]
  intro j hj
  rw [List.length_append, List.length_singleton] at hj
  by_cases e : j = xs.length
  · subst e
    simp [seenAt, hx, hn]
  · have hj' : j < xs.length := by omega
    have g1 : (xs ++ [x]).getD j 0 = xs.getD j 0 := by simp [List.getD_eq_getElem?_getD, List.getElem?_append_left hj']
    have g2 : (xs ++ [x]).take j = xs.take j := by rw [List.take_append_of_le_length (by omega)]
    have := h' j hj'
    simpa only [seenAt, g1, g2] using this
theorem take_valid {s x : Int} {seen : List Int} {pl : List Peel} {X : Peel} (h : mixB ⟨s, seen, pl⟩ = true) (hn : seen.length < 12) (hn2 : pl.length < 5) (hx : elB x = true) (hh : hasB seen x = false) (hX : okPeelB X = true) : mixB ⟨s, seen ++ [x], pl ++ [X]⟩ = true := by
  obtain ⟨h1, h2, h3, h4, h5⟩ := mixB_iff.1 h
  refine mixB_iff.2 ⟨h1, by simp; omega, by simp; omega, seen_snoc h4 hx hh, fun y hy => ?_⟩
  rcases List.mem_append.1 hy with hy | hy
  · exact h5 y hy
  · rw [List.mem_singleton.1 hy]; exact hX
theorem mix_bounds {s : Int} {seen : List Int} {pl : List Peel} (h : mixB ⟨s, seen, pl⟩ = true) : elB s = true ∧ seen.length ≤ 12 ∧ pl.length ≤ 5 ∧ PlB 1000000 pl := by
  obtain ⟨h1, h2, h3, _, hm5⟩ := mixB_iff.1 h
  refine ⟨h1, h2, h3, fun x hx => ?_⟩
  have h1 := hm5 x hx
  simp only [okPeelB, Bool.and_eq_true] at h1
  obtain ⟨_, _, h9, _, h6, _⟩ := validB_iff.1 h1.2
  omega
theorem kept_after {w4 w5 : World} {q g : Nat} {row : Option Nat} {o1 : Obj} {x y : Value} (hq : g ≠ q) (hlt : g < w4.heap.size) (hg : ((w4.setCell ⟨q, 1, none⟩ x).alloc o1).grownBy w5 row) (hr : row ≠ some g) : (w5.setCell ⟨q, 2, none⟩ y).heap[g]? = w4.heap[g]? := by
  have e1 : (w4.setCell ⟨q, 1, none⟩ x).heap.size = w4.heap.size := by simp [World.setCell]
  have e2 : ((w4.setCell ⟨q, 1, none⟩ x).alloc o1).heap.size = w4.heap.size + 1 := by simp [World.setCell]
  have h1 := (set1_only w4 q 1 x).block g hlt (by omega)
  have h2 := heap_alloc_old (w4.setCell ⟨q, 1, none⟩ x) o1 (r := g) (by omega)
  have h3 := hg.block g (by omega) (fun e => hr e.symm)
  have h4 := (set1_only w5 q 2 y).block g (by have := hg.size; omega) (by omega)
  exact h4.trans (h3.trans (h2.trans h1))
theorem take_in {x : Int} {seen : List Int} {pl : List Peel} {X : Peel} {W3 w4 w5 : World} {L q sa sb pa pb lo1 hi1 : Nat} {A3 : Option Addr} {n3 c3 : Nat} {A4 : Option Addr} {n4 c4 : Nat} {A7 : Option Addr} {c7 : Nat} {A8 : Option Addr} {c8 : Nat} {vals : List Value} {a b : Nat → Nat} {A : Option Addr} {m d : Nat} {A2 : Option Addr} {m2 d2 : Nat} {o1 o2 : Obj}
    (oq : OwnR 3 W3 sa sb A3 n3 c3 seen) (hd : sb ≤ pa ∨ pb ≤ sa) (_hL1 : L ≤ sa) (hL2 : L ≤ pa) (hsb : sb ≤ q) (hpb : pb ≤ q) (hq1 : q + 1 ≤ lo1) (h11 : lo1 ≤ hi1) (hLq : L ≤ lo1) (h1W : hi1 ≤ W3.heap.size)
    (hap : w4.ownsRow L 3 1 (.slice A7 (n3 + 1) c7) (n3 + 1) (ints seen ++ ints [x])) (hg : (W3.alloc o1).grownBy w4 (Value.ownBlock (.slice A3 n3 c3))) (hat : Value.ownBlock (.slice A7 (n3 + 1) c7) = Value.ownBlock (.slice A3 n3 c3) ∨ Value.ownBlock (.slice A7 (n3 + 1) c7) = some (W3.alloc o1).heap.size)
    (hown : (w4.setCell ⟨q, 1, none⟩ (.slice A7 (n3 + 1) c7)).ownsRow pa 47 6 (.slice A4 n4 c4) n4 vals) (hpl : pl.length = n4) (hgv : ∀ g, Value.ownBlock (.slice A4 n4 c4) = some g → g < pb) (hab : ∀ i j, i < j → j < n4 → b i ≤ a j)
    (hel : ∀ j, j < n4 → pa ≤ a j ∧ b j ≤ pb ∧ (∀ g, Value.ownBlock (.slice A4 n4 c4) = some g → g < a j ∨ b j ≤ g) ∧ ∃ A m c A2 m2 c2, ElAt vals (j * 6) (pl.getD j zeroPeel) A m c A2 m2 c2 ∧ TwoO (w4.setCell ⟨q, 1, none⟩ (.slice A7 (n3 + 1) c7)) (a j) (b j) (pl.getD j zeroPeel).p.h (pl.getD j zeroPeel).p.b A m c A2 m2 c2)
    (t : TwoO (w4.setCell ⟨q, 1, none⟩ (.slice A7 (n3 + 1) c7)) lo1 hi1 X.p.h X.p.b A m d A2 m2 d2)
    (hown' : w5.ownsRow L 47 6 (.slice A8 (n4 + 1) c8) (n4 + 1) (vals ++ [Value.int .i64 X.kind, .int .i64 X.next, .int .i64 X.p.e, .slice A m d, .int .i64 X.p.t, .slice A2 m2 d2])) (hg' : ((w4.setCell ⟨q, 1, none⟩ (.slice A7 (n3 + 1) c7)).alloc o2).grownBy w5 (Value.ownBlock (.slice A4 n4 c4))) (hat' : Value.ownBlock (.slice A8 (n4 + 1) c8) = Value.ownBlock (.slice A4 n4 c4) ∨ Value.ownBlock (.slice A8 (n4 + 1) c8) = some ((w4.setCell ⟨q, 1, none⟩ (.slice A7 (n3 + 1) c7)).alloc o2).heap.size) :
    MixP (w5.setCell ⟨q, 2, none⟩ (.slice A8 (n4 + 1) c8)) L (w5.setCell ⟨q, 2, none⟩ (.slice A8 (n4 + 1) c8)).heap.size (seen ++ [x]) (pl ++ [X]) A7 (n3 + 1) c7 A8 (n4 + 1) c8 := by
  have s1 : (W3.alloc o1).heap.size = W3.heap.size + 1 := by simp
  have s2 : ((w4.setCell ⟨q, 1, none⟩ (.slice A7 (n3 + 1) c7)).alloc o2).heap.size = w4.heap.size + 1 := by simp [World.setCell]
  have s3 : (w5.setCell ⟨q, 2, none⟩ (.slice A8 (n4 + 1) c8)).heap.size = w5.heap.size := by simp [World.setCell]
  have hz4 := hg.size
  have hz5 := hg'.size
  have hu0 : ∀ g, Value.ownBlock (.slice A7 (n3 + 1) c7) = some g → (sa ≤ g ∧ g < sb) ∨ g = W3.heap.size + 1 := fun g e => by
    rcases hat with h | h
    · exact .inl (oq.block (by rw [← h]; exact e))
    · rw [h] at e; injection e with e; exact .inr (by omega)
  have hu : ∀ g, Value.ownBlock (.slice A7 (n3 + 1) c7) = some g → (g < pa ∨ pb ≤ g) ∧ (g < lo1 ∨ hi1 ≤ g) := fun g e => by have := hu0 g e; omega
  have hW : Below (w4.setCell ⟨q, 1, none⟩ (.slice A7 (n3 + 1) c7)).heap.size (w4.setCell ⟨q, 1, none⟩ (.slice A7 (n3 + 1) c7)) ((w4.setCell ⟨q, 1, none⟩ (.slice A7 (n3 + 1) c7)).alloc o2) := (Below.refl _ _).alloc (Nat.le_refl _) _
  obtain ⟨px, _⟩ := pool_append (lo0 := L) (lo3 := q) (hi3 := q + 1) hpl hgv hown.1 hab hel t hL2 hLq hpb hq1 (by omega) h11 hown' hg' hW hat' (set1_only w5 q 2 (.slice A8 (n4 + 1) c8)) hu
  have hk : ∀ g, Value.ownBlock (.slice A7 (n3 + 1) c7) = some g → (w5.setCell ⟨q, 2, none⟩ (.slice A8 (n4 + 1) c8)).heap[g]? = w4.heap[g]? := fun g e => by
    refine kept_after (by have := hu0 g e; omega) (hap.lt g e).2 hg' (fun e2 => ?_)
    have h1 := hu g e
    have h2 := (hown.lt g e2).1
    have h3 := hgv g e2
    omega
  have hmap : ints seen ++ ints [x] = (seen ++ [x]).map (Value.int .i64) := by simp [ints]
  rw [hmap] at hap
  refine ⟨OwnR.of_owns (owns_kept hap hk), L, hi1, Nat.le_refl _, by omega, px, fun g e => ?_, fun g e e2 => ?_⟩
  · rw [s3]; exact (hown'.lt g e).2
  · rcases hat' with h | h
    · have h1 := hu g e
      rw [h] at e2
      have h2 := (hown.lt g e2).1
      have h3 := hgv g e2
      omega
    · rw [h] at e2
      have e3 := Option.some.inj e2
      have := (hap.lt g e).2
      omega
theorem box_two {w4 w5 : World} {q : Nat} {T : TypeId} {x0 x1 x2 v : Value} {o2 : Obj} {row : Option Nat} (b : BoxAt w4 q #[x0, x1, x2] T) (hg : ((w4.setCell ⟨q, 1, none⟩ v).alloc o2).grownBy w5 row) (hr : row ≠ some q) :
    w5.cell? ⟨q, 0, none⟩ = some x0 ∧ w5.cell? ⟨q, 1, none⟩ = some v ∧ w5.cell? ⟨q, 2, none⟩ = some x2 ∧ ∀ i, w5.frozen? ⟨q, i, none⟩ = false := by
  have hq := b.hi_le
  have e1 : (w4.setCell ⟨q, 1, none⟩ v).heap.size = w4.heap.size := by simp [World.setCell]
  have e2 : ((w4.setCell ⟨q, 1, none⟩ v).alloc o2).heap.size = w4.heap.size + 1 := by simp [World.setCell]
  have hk : w5.heap[q]? = (w4.setCell ⟨q, 1, none⟩ v).heap[q]? := (hg.block q (by omega) (fun e => hr e.symm)).trans (heap_alloc_old (w4.setCell ⟨q, 1, none⟩ v) o2 (r := q) (by omega))
  have hc : ∀ i, w5.cell? ⟨q, i, none⟩ = (w4.setCell ⟨q, 1, none⟩ v).cell? ⟨q, i, none⟩ := fun i => World.cell?_of_block (a := ⟨q, i, none⟩) hk
  obtain ⟨r0, r1, r2⟩ := b.three
  refine ⟨(hc 0).trans (by rw [World.cell?_setCell_other (h := by simp)]; exact r0), (hc 1).trans (by rw [World.cell?_setCell_same (h := r1)]), (hc 2).trans (by rw [World.cell?_setCell_other (h := by simp)]; exact r2), fun i => ?_⟩
  have hf : w5.frozen? ⟨q, i, none⟩ = (w4.setCell ⟨q, 1, none⟩ v).frozen? ⟨q, i, none⟩ := by simp [World.frozen?, hk]
  exact hf.trans ((World.frozen?_setCell _ _ _ _).trans (b.frozen i))
set_option maxRecDepth 100000 in
set_option maxHeartbeats 6400000 in
theorem l11Take_c (s : Int) (A : Option Addr) (n c : Nat) (A2 : Option Addr) (n2 c2 lo hi : Nat) (seen : List Int) (pl : List Peel) (e t : Int) (B : Option Addr) (m d : Nat) (B2 : Option Addr) (m2 d2 lo2 hi2 : Nat) (h b : List Int) (w : World) (hs : MixR w lo hi seen pl A n c A2 n2 c2) (hp : TwoR w lo2 hi2 h b B m d B2 m2 d2) (hm : mixB ⟨s, seen, pl⟩ = true) (hv : validB ⟨e, h, t, b⟩ = true) :
    Calls Try.prog 28 #[.agg #[.int .i64 s, .slice A n c, .slice A2 n2 c2], .agg #[.int .i64 e, .slice B m d, .int .i64 t, .slice B2 m2 d2]] w (TakeP s w) := by
  obtain ⟨i0, hi0, hz0, hz1, hz2⟩ := info_parts Try.infoInt
  obtain ⟨i6, hi6, hz60, hz61, hz62⟩ := info_peel
  obtain ⟨hse, hnn, hnn2, hpb⟩ := mix_bounds hm
  rw [hs.len.1] at hnn
  rw [hs.len.2] at hnn2
  have hee : elB e = true := (validB_iff.1 hv).1
  have hs0 := ((hs.alloc (.cells #[.int .i64 s, .slice A n c, .slice A2 n2 c2] 26)).alloc (.cells #[.int .i64 e, .slice B m d, .int .i64 t, .slice B2 m2 d2] 45)).alloc (.cells #[.int .i64 0, .slice none 0 0, .slice none 0 0] 26)
  have hp0 := ((hp.alloc (.cells #[.int .i64 s, .slice A n c, .slice A2 n2 c2] 26)).alloc (.cells #[.int .i64 e, .slice B m d, .int .i64 t, .slice B2 m2 d2] 45)).alloc (.cells #[.int .i64 0, .slice none 0 0, .slice none 0 0] 26)
  have bx : BoxAt (((w.alloc (.cells #[.int .i64 s, .slice A n c, .slice A2 n2 c2] 26)).alloc (.cells #[.int .i64 e, .slice B m d, .int .i64 t, .slice B2 m2 d2] 45)).alloc (.cells #[.int .i64 0, .slice none 0 0, .slice none 0 0] 26)) w.heap.size #[.int .i64 s, .slice A n c, .slice A2 n2 c2] 26 := ((BoxAt.new w #[.int .i64 s, .slice A n c, .slice A2 n2 c2] 26).alloc _).alloc _
  have bp : BoxAt (((w.alloc (.cells #[.int .i64 s, .slice A n c, .slice A2 n2 c2] 26)).alloc (.cells #[.int .i64 e, .slice B m d, .int .i64 t, .slice B2 m2 d2] 45)).alloc (.cells #[.int .i64 0, .slice none 0 0, .slice none 0 0] 26)) (w.heap.size + 1) #[.int .i64 e, .slice B m d, .int .i64 t, .slice B2 m2 d2] 45 := by
    have := (BoxAt.new (w.alloc (.cells #[.int .i64 s, .slice A n c, .slice A2 n2 c2] 26)) #[.int .i64 e, .slice B m d, .int .i64 t, .slice B2 m2 d2] 45).alloc (.cells #[.int .i64 0, .slice none 0 0, .slice none 0 0] 26)
    simpa using this
  have bz : BoxAt (((w.alloc (.cells #[.int .i64 s, .slice A n c, .slice A2 n2 c2] 26)).alloc (.cells #[.int .i64 e, .slice B m d, .int .i64 t, .slice B2 m2 d2] 45)).alloc (.cells #[.int .i64 0, .slice none 0 0, .slice none 0 0] 26)) (w.heap.size + 1 + 1) #[.int .i64 0, .slice none 0 0, .slice none 0 0] 26 := by
    have := BoxAt.new ((w.alloc (.cells #[.int .i64 s, .slice A n c, .slice A2 n2 c2] 26)).alloc (.cells #[.int .i64 e, .slice B m d, .int .i64 t, .slice B2 m2 d2] 45)) #[.int .i64 0, .slice none 0 0, .slice none 0 0] 26
    simpa using this
  have hbw : Below w.heap.size w (((w.alloc (.cells #[.int .i64 s, .slice A n c, .slice A2 n2 c2] 26)).alloc (.cells #[.int .i64 e, .slice B m d, .int .i64 t, .slice B2 m2 d2] 45)).alloc (.cells #[.int .i64 0, .slice none 0 0, .slice none 0 0] 26)) := (((Below.refl w.heap.size w).alloc (Nat.le_refl _) _).alloc (by simp) _).alloc (by simp; omega) _
  have hsz0 : w.heap.size + 3 ≤ (((w.alloc (.cells #[.int .i64 s, .slice A n c, .slice A2 n2 c2] 26)).alloc (.cells #[.int .i64 e, .slice B m d, .int .i64 t, .slice B2 m2 d2] 45)).alloc (.cells #[.int .i64 0, .slice none 0 0, .slice none 0 0] 26)).heap.size := by simp
  have hhs := hs0.hi_le
  have hhp := hp0.1.2.1
  obtain ⟨X, hX⟩ : ∃ X, X = peelP s ⟨e, h, t, b⟩ := ⟨_, rfl⟩
  obtain ⟨ok, hok⟩ : ∃ x, x = peelB s ⟨e, h, t, b⟩ := ⟨_, rfl⟩
  have HX := Lib.hid hX
  have HOK := Lib.hid hok
  have HM := Lib.hid hm
  have HV := Lib.hid hv
  have HPB := Lib.hid hpb
  have HSE := Lib.hid hse
  have HEE := Lib.hid hee
  clear hs hp hX hok hm hv hpb hse hee
  go_enter Try.func28, Try.ntmps28
  go_wp2_with fail
  refine (l11Copy_c _ _ _ _ _ _ _ _ _ _ _ _ hs0 (by omega) (by omega) HPB.out).mono ?_
  rintro e' w2 ⟨A3, n3, c3, A4, n4, c4, rfl, o2, hb2⟩
  have hz2' := hb2.size
  have o2 := o2.alloc (.cells #[.int .i64 s, .slice A3 n3 c3, .slice A4 n4 c4] 26)
  have hs2 := (hs0.below hb2 hhs).alloc (.cells #[.int .i64 s, .slice A3 n3 c3, .slice A4 n4 c4] 26)
  have hp2 := (hp0.below hb2 hhp).alloc (.cells #[.int .i64 s, .slice A3 n3 c3, .slice A4 n4 c4] 26)
  obtain ⟨x0, x1, x2⟩ := (bx.below hb2 (by omega)).three
  obtain ⟨y0, y1, y2, y3⟩ := (bp.below hb2 (by omega)).four
  have hne1 : ¬ w2.heap.size = w.heap.size := by omega
  have hne2 : ¬ w.heap.size = w2.heap.size := by omega
  have hne3 : ¬ w2.heap.size = w.heap.size + 1 := by omega
  have hne4 : ¬ w.heap.size + 1 = w2.heap.size := by omega
  have bx2 := (bx.below hb2 (by omega)).alloc (.cells #[.int .i64 s, .slice A3 n3 c3, .slice A4 n4 c4] 26)
  have bp2 := (bp.below hb2 (by omega)).alloc (.cells #[.int .i64 s, .slice A3 n3 c3, .slice A4 n4 c4] 26)
  have bz2 := (bz.below hb2 (by omega)).alloc (.cells #[.int .i64 s, .slice A3 n3 c3, .slice A4 n4 c4] 26)
  have bo2 := BoxAt.new w2 #[.int .i64 s, .slice A3 n3 c3, .slice A4 n4 c4] 26
  have hbw2 := (hbw.trans (hb2.mono (by omega))).alloc (by omega) (.cells #[.int .i64 s, .slice A3 n3 c3, .slice A4 n4 c4] 26)
  have hl3 : n3 = n ∧ n4 = n2 := by have h1 := o2.len; have h2 := hs2.len; omega
  obtain ⟨rfl, rfl⟩ := hl3
  have hsz2 : (w2.alloc (.cells #[.int .i64 s, .slice A3 n3 c3, .slice A4 n4 c4] 26)).heap.size = w2.heap.size + 1 := by simp
  obtain ⟨p0, p1, p2⟩ := bx2.three
  obtain ⟨r0, r1, r2, r3⟩ := bp2.four
  clear hs0 hp0 bx bp bz hbw hb2 hhs hhp
  go_wp2_with fail
  refine (l1Times_c s e _ HSE.out HEE.out).mono ?_
  rintro e' w' ⟨rfl, rfl⟩
  go_wp2_with fail
  refine ((l5Peel_c _ _ _ _ _ _ _ _ _ _ _ _ _ _ hp2 HSE.out HV.out).mono fun _ _ h => (show NewPeel X ok _ _ _ by rw [HX.out, HOK.out]; exact h)).mono ?_
  rintro e' w3 ⟨A5, n5, c5, A6, n6, c6, rfl, o5, hb5⟩
  have hz3 := hb5.size
  have hsz3 : w2.heap.size + 1 ≤ w3.heap.size := by omega
  have o3 := (o2.below hb5 (by omega)).alloc (.cells #[.int .i64 X.kind, .int .i64 X.next, .int .i64 X.p.e, .slice A5 n5 c5, .int .i64 X.p.t, .slice A6 n6 c6] 47)
  have hs3 := (hs2.below hb5 hs2.hi_le).alloc (.cells #[.int .i64 X.kind, .int .i64 X.next, .int .i64 X.p.e, .slice A5 n5 c5, .int .i64 X.p.t, .slice A6 n6 c6] 47)
  have bx3 := (bx2.below hb5 (by omega)).alloc (.cells #[.int .i64 X.kind, .int .i64 X.next, .int .i64 X.p.e, .slice A5 n5 c5, .int .i64 X.p.t, .slice A6 n6 c6] 47)
  have bz3 := (bz2.below hb5 (by omega)).alloc (.cells #[.int .i64 X.kind, .int .i64 X.next, .int .i64 X.p.e, .slice A5 n5 c5, .int .i64 X.p.t, .slice A6 n6 c6] 47)
  have bo3 := (bo2.below hb5 (by omega)).alloc (.cells #[.int .i64 X.kind, .int .i64 X.next, .int .i64 X.p.e, .slice A5 n5 c5, .int .i64 X.p.t, .slice A6 n6 c6] 47)
  have bX3 := BoxAt.new w3 #[.int .i64 X.kind, .int .i64 X.next, .int .i64 X.p.e, .slice A5 n5 c5, .int .i64 X.p.t, .slice A6 n6 c6] 47
  have t5 := o5.alloc (.cells #[.int .i64 X.kind, .int .i64 X.next, .int .i64 X.p.e, .slice A5 n5 c5, .int .i64 X.p.t, .slice A6 n6 c6] 47)
  have hb3 := (hbw2.trans (hb5.mono (by omega))).alloc (by omega) (.cells #[.int .i64 X.kind, .int .i64 X.next, .int .i64 X.p.e, .slice A5 n5 c5, .int .i64 X.p.t, .slice A6 n6 c6] 47)
  have hsW : (w3.alloc (.cells #[.int .i64 X.kind, .int .i64 X.next, .int .i64 X.p.e, .slice A5 n5 c5, .int .i64 X.p.t, .slice A6 n6 c6] 47)).heap.size = w3.heap.size + 1 := by simp
  rw [hsz2] at t5
  clear p0 p1 p2 r0 r1 r2 r3 x0 x1 x2 y0 y1 y2 y3 o2 hs2 hp2 bx2 bp2 bz2 bo2 hbw2 o5 hb5 hz3
  obtain ⟨p0, p1, p2⟩ := bx3.three
  obtain ⟨r0, r1, r2⟩ := bo3.three
  obtain ⟨z0, z1, z2⟩ := bz3.three
  have zf := bz3.frozen
  have hne5 : ¬ w3.heap.size = w2.heap.size := by omega
  have hne6 : ¬ w2.heap.size = w3.heap.size := by omega
  have hne7 : ¬ w2.heap.size = w.heap.size + 1 + 1 := by omega
  have hne8 : ¬ w.heap.size + 1 + 1 = w2.heap.size := by omega
  have HOUT := Lib.hid (fun code : Int => (⟨code, seen, pl, A3, n3, c3, A4, n4, c4, rfl, (set3_with o3.toP (by omega) (by omega) hb3 (.int .i64 s) (.slice A3 n3 c3) (.slice A4 n4 c4)).1, HM.out, (set3_with o3.toP (by omega) (by omega) hb3 (.int .i64 s) (.slice A3 n3 c3) (.slice A4 n4 c4)).2⟩ : TakeP s w (.returned (.tuple #[.agg #[.int .i64 s, .slice A3 n3 c3, .slice A4 n4 c4], .int .i64 code])) ((((w3.alloc (.cells #[.int .i64 X.kind, .int .i64 X.next, .int .i64 X.p.e, .slice A5 n5 c5, .int .i64 X.p.t, .slice A6 n6 c6] 47)).setCell ⟨w.heap.size + 1 + 1, 0, none⟩ (.int .i64 s)).setCell ⟨w.heap.size + 1 + 1, 1, none⟩ (.slice A3 n3 c3)).setCell ⟨w.heap.size + 1 + 1, 2, none⟩ (.slice A4 n4 c4))))
  have HS3 := Lib.hid hs3
  have F := Lib.hid (And.intro o3 (And.intro bo3 (And.intro bz3 (And.intro t5 (And.intro bX3 hb3)))))
  have SZ := Lib.hid (And.intro hz2' (And.intro hsz0 (And.intro hsz3 hsW)))
  clear o3 hs3 bx3 bz3 bo3 bX3 t5 hb3 hsW hz2' hsz0 hsz3 hsz2
  cases ok with
  | false =>
    go_wp2_with fail
    refine bodyPost_ret (v := .tuple #[.agg #[.int .i64 s, .slice A3 n3 c3, .slice A4 n4 c4], .int .i64 2]) (by simp [results, Try.results28, go_sem, z0, z1, z2]) rfl ?_
    exact HOUT.out 2
  | true =>
    go_wp2_with fail
    refine (l1Has_c _ _ _ _ _ seen (mulP s e) _ HS3.out.1 (by omega)).mono ?_
    rintro e' w' ⟨rfl, rfl⟩
    cases hh : hasB seen (mulP s e) with
    | true =>
      go_wp2_with fail
      refine bodyPost_ret (v := .tuple #[.agg #[.int .i64 s, .slice A3 n3 c3, .slice A4 n4 c4], .int .i64 1]) (by simp [results, Try.results28, go_sem, z0, z1, z2]) rfl ?_
      exact HOUT.out 1
    | false =>
      by_cases h12 : 12 ≤ n3
      · go_wp2_with fail
        refine bodyPost_ret (v := .tuple #[.agg #[.int .i64 s, .slice A3 n3 c3, .slice A4 n4 c4], .int .i64 3]) (by simp [results, Try.results28, go_sem, z0, z1, z2]) rfl ?_
        exact HOUT.out 3
      · by_cases h5 : 5 ≤ n4
        · go_wp2_with fail
          refine bodyPost_ret (v := .tuple #[.agg #[.int .i64 s, .slice A3 n3 c3, .slice A4 n4 c4], .int .i64 3]) (by simp [results, Try.results28, go_sem, z0, z1, z2]) rfl ?_
          exact HOUT.out 3
        · obtain ⟨o3, bo3, bz3, t5, bX3, hb3⟩ := F.out
          obtain ⟨hz2', hsz0, hsz3, hsW⟩ := SZ.out
          obtain ⟨_, sa, sb, pa, pb, oq, pF, hd, hL1, hL2, hH1, hH2⟩ := o3
          have hownS := owns_base (oq.1.alloc (.cells #[.int .i64 (mulP s e)] 3)) hL1
          go_wp2_with (first | (at_builtin; (refine wpList_append_sl _ rfl _ _ 23 rfl (((w.alloc (.cells #[.int .i64 s, .slice A n3 c, .slice A2 n4 c2] 26)).alloc (.cells #[.int .i64 e, .slice B m d, .int .i64 t, .slice B2 m2 d2] 45)).alloc (.cells #[.int .i64 0, .slice none 0 0, .slice none 0 0] 26)).heap.size 3 i0 Try.underlying23 hi0 hz0 hz1 hz2 _ n3 (ints seen) rfl hownS _ _ 1 1 _ [mulP s e] rfl (by have := one_read (w3.alloc (.cells #[.int .i64 X.kind, .int .i64 X.next, .int .i64 X.p.e, .slice A5 n5 c5, .int .i64 X.p.t, .slice A6 n6 c6] 47)) (mulP s e); rw [hsW] at this; exact this) (by omega) (by simp; omega) ?_; intro v' w4 hap hg hat; obtain ⟨A7, c7, hv7⟩ := own_shapeK hap; subst hv7; have hz4 := hg.size; have hz4' : w3.heap.size + 2 ≤ w4.heap.size := (by simp at hz4; omega); have hrow : ∀ g, Value.ownBlock (.slice A3 n3 c3) = some g → sa ≤ g ∧ g < sb := fun g hg => oq.block hg; have bo4 := (bo3.alloc (.cells #[.int .i64 (mulP s e)] 3)).grown hg (fun g e => by have := hrow g e; omega); have bz4 := (bz3.alloc (.cells #[.int .i64 (mulP s e)] 3)).grown hg (fun g e => by have := hrow g e; omega); have bX4 := (bX3.alloc (.cells #[.int .i64 (mulP s e)] 3)).grown hg (fun g e => by have := hrow g e; omega); have p4 := ((pF.alloc (.cells #[.int .i64 (mulP s e)] 3)).grown hg (fun g e => by have := hrow g e; omega)).only (set1_only w4 w2.heap.size 1 (.slice A7 (n3 + 1) c7)) (by omega); have t4 := ((t5.alloc (.cells #[.int .i64 (mulP s e)] 3)).grown hg (fun g e => by have := hrow g e; omega)).only (set1_only w4 w2.heap.size 1 (.slice A7 (n3 + 1) c7)) (by omega); have hb4 := Below.only ((hb3.alloc hb3.size (.cells #[.int .i64 (mulP s e)] 3)).grown hg (Nat.le_trans hb3.size (by simp)) (fun g e => by have := hrow g e; omega)) (set1_only w4 w2.heap.size 1 (.slice A7 (n3 + 1) c7)) (by omega) (by omega); have hsz4 : (w4.setCell ⟨w2.heap.size, 1, none⟩ (.slice A7 (n3 + 1) c7)).heap.size = w4.heap.size := (by simp [World.setCell]); have HSZ4 := Lib.hid hsz4; have bz4s := bz4.only (set1_only w4 w2.heap.size 1 (.slice A7 (n3 + 1) c7)) (by omega); have bX4s := bX4.only (set1_only w4 w2.heap.size 1 (.slice A7 (n3 + 1) c7)) (by omega); clear p0 p1 p2 r0 r1 r2 z0 z1 z2 zf; obtain ⟨r0, r1, r2⟩ := bo4.three; have rf := bo4.frozen; obtain ⟨y0, y1, y2, y3, y4, y5⟩ := bX4s.six; obtain ⟨hpl, hpz, hgv, vals, al, bl, hown, hab, hel⟩ := p4; have hownP := owns_base (hown.alloc (.cells #[.int .i64 X.kind, .int .i64 X.next, .int .i64 X.p.e, .slice A5 n5 c5, .int .i64 X.p.t, .slice A6 n6 c6] 47)) hL2; have G := Lib.hid (And.intro oq (And.intro hd (And.intro hL1 (And.intro hL2 (And.intro hH1 (And.intro hH2 (And.intro hap (And.intro hg (And.intro hat (And.intro hown (And.intro hpl (And.intro hgv (And.intro hab (And.intro hel (And.intro t4 (And.intro hb4 (And.intro bz4s bo4))))))))))))))))); clear oq hd hL1 hL2 hH1 hH2 hap hg hat hown hpl hgv hab hel t4 hb4 bz4 bz4s bX4 bX4s bo4 t5 bX3 bo3 bz3 hb3 pF hownS hz4 hrow)) | (at_builtin; (refine wpList_append6 _ rfl _ _ 24 rfl (((w.alloc (.cells #[.int .i64 s, .slice A n3 c, .slice A2 n4 c2] 26)).alloc (.cells #[.int .i64 e, .slice B m d, .int .i64 t, .slice B2 m2 d2] 45)).alloc (.cells #[.int .i64 0, .slice none 0 0, .slice none 0 0] 26)).heap.size 47 i6 _ Try.underlying24 hi6 hz60 hz61 hz62 rfl _ n4 vals rfl hownP ⟨w4.heap.size, 0, none⟩ 1 1 [.int .i64 X.kind, .int .i64 X.next, .int .i64 X.p.e, .slice A5 n5 c5, .int .i64 X.p.t, .slice A6 n6 c6] rfl rfl (by have := news_of (w4.setCell ⟨w2.heap.size, 1, none⟩ (.slice A7 (n3 + 1) c7)) 47 [.int .i64 X.kind, .int .i64 X.next, .int .i64 X.p.e, .slice A5 n5 c5, .int .i64 X.p.t, .slice A6 n6 c6]; rw [HSZ4.out] at this; exact this) (six_one _ _ _ _ _ _ _ _ _ _) (by omega) (by simp [World.setCell]; omega) ?_; intro v'' w5 hown' hg' hat'; obtain ⟨A8, c8, hv8⟩ := own_shapeK hown'; subst hv8; obtain ⟨oq, hd, hL1, hL2, hH1, hH2, hap, hg, hat, hown, hpl, hgv, hab, hel, t4, hb4, bz4s, bo4⟩ := G.out; have hrow' : ∀ g, Value.ownBlock (.slice A4 n4 c4) = some g → pa ≤ g ∧ g < pb := (fun g e => ⟨(hown.lt g e).1, hgv g e⟩); obtain ⟨u0, u1, u2, uf⟩ := box_two bo4 hg' (fun e => by have := hrow' _ e; omega); have bz5 := ((bz4s.alloc (.cells #[.int .i64 X.kind, .int .i64 X.next, .int .i64 X.p.e, .slice A5 n5 c5, .int .i64 X.p.t, .slice A6 n6 c6] 47)).grown hg' (fun g e => by have := hrow' g e; omega)).only (set1_only w5 w2.heap.size 2 (.slice A8 (n4 + 1) c8)) (by omega); obtain ⟨z0, z1, z2⟩ := bz5.three; have zf := bz5.frozen; have mp := take_in (q := w2.heap.size) oq hd hL1 hL2 (by omega) (by omega) (Nat.le_refl _) (by omega) (by omega) (by omega) hap hg hat hown hpl hgv hab hel t4 hown' hg' hat'; have hb5 := Below.only ((hb4.alloc hb4.size (.cells #[.int .i64 X.kind, .int .i64 X.next, .int .i64 X.p.e, .slice A5 n5 c5, .int .i64 X.p.t, .slice A6 n6 c6] 47)).grown hg' (Nat.le_trans hb4.size (by simp)) (fun g e => by have := hrow' g e; omega)) (set1_only w5 w2.heap.size 2 (.slice A8 (n4 + 1) c8)) (by have := hg'.size; have := hb4.size; simp [World.setCell] at *; omega) (by omega); have HF := Lib.hid (And.intro mp hb5); clear oq hd hL1 hL2 hH1 hH2 hap hg hat hown hpl hgv hab hel t4 hb4 bz4s bo4 hrow' bz5 mp hb5 hown' hg' hat' G r0 r1 r2 rf y0 y1 y2 y3 y4 y5 hownP)))
          have hln := HS3.out.len
          have hmv := take_valid (x := mulP s e) (X := X) HM.out (by omega) (by omega) (mulP_el HSE.out HEE.out) hh (by rw [HX.out, peelP, if_pos HOK.out.symm]; exact peel_ok HOK.out.symm)
          have hfin := set3_with (w := w) HF.out.1 (q := w.heap.size + 1 + 1) (by omega) (by omega) HF.out.2 (.int .i64 s) (.slice A7 (n3 + 1) c7) (.slice A8 (n4 + 1) c8)
          have HFIN := Lib.hid (show TakeP s w (.returned (.tuple #[.agg #[.int .i64 s, .slice A7 (n3 + 1) c7, .slice A8 (n4 + 1) c8], .int .i64 0])) _ from ⟨0, _, _, _, _, _, _, _, _, rfl, hfin.1, hmv, hfin.2⟩)
          clear hfin hmv
          refine bodyPost_ret (v := .tuple #[.agg #[.int .i64 s, .slice A7 (n3 + 1) c7, .slice A8 (n4 + 1) c8], .int .i64 0]) (by simp [results, Try.results28, go_sem, z0, z1, z2]) rfl ?_
          exact HFIN.out
end Go.Proofs.Ytoocjalhcliebaa
