/-
  Words for the ends of a drawn mix.
  No condition.
-/
import Derived.Test.YtoocjalhcliebaaDMixW
namespace Go.Proofs.Ytoocjalhcliebaa
open Go Go.RowKit

theorem MixIn.rd {s : Int} {g m gm : Nat} {w wr : World} (h : MixIn s g m gm w wr) : RdOk wr g m := by
  obtain ⟨_, _, _, _, _, _, _, _, _, _, _, _, _, _, _, hr, _⟩ := h
  exact hr
theorem MixIn.mono {s : Int} {g m m2 gm : Nat} {w wr : World} (h : MixIn s g m gm w wr) (hm : m ≤ m2) : MixIn s g m2 gm w wr := by
  obtain ⟨seen, pl, A, n, c, A2, n2, c2, L, H, bx, o, hd, hL, hx, hr, hw⟩ := h
  exact ⟨seen, pl, A, n, c, A2, n2, c2, L, H, bx, o, hd, hL, hx, hr.mono hm, hw⟩
/-- The result's cells are written. -/
theorem dmix_end {s : Int} {g m L H n c n2 c2 : Nat} {w W0 wx : World} {seen : List Int} {pl : List Peel} {A A2 : Option Addr} (t : MixR wx L H seen pl A n c A2 n2 c2) (hL : W0.heap.size ≤ L) (hn : n ≤ 13) (hn2 : n2 ≤ 5) (hpl : PlB 1000000 pl) (hr : RdOk wx g m) (hg : g < w.heap.size) (hgw : w.grownBy W0 (some g)) (hW : W0.grownBy wx (some g)) (hs : W0.heap.size = w.heap.size + 1) :
    DMix g m w (.returned (.agg #[.int .i64 s, .slice A n c, .slice A2 n2 c2])) (((wx.setCell ⟨w.heap.size, 0, none⟩ (.int .i64 s)).setCell ⟨w.heap.size, 1, none⟩ (.slice A n c)).setCell ⟨w.heap.size, 2, none⟩ (.slice A2 n2 c2)) := by
  have ho := set3_only wx w.heap.size (.int .i64 s) (.slice A n c) (.slice A2 n2 c2)
  have hz := set3_size wx w.heap.size (.int .i64 s) (.slice A n c) (.slice A2 n2 c2)
  have hh := t.hi_le
  exact ⟨s, seen, pl, A, n, c, A2, n2, c2, rfl, (t.only ho (.inr (by omega))).wider (by omega) (by omega) (Nat.le_refl _), hn, hn2, hpl, hr.only ho hg, grown_only (only_trans hgw hW) ho (Nat.le_refl _)⟩
theorem PoolX.grownU {w w' : World} {B lo hi n : Nat} {v u : Value} {pl : List Peel} (h : PoolX w B lo hi v u n pl) (hg : w.grownBy w' u.ownBlock) (huv : ∀ g, u.ownBlock = some g → v.ownBlock ≠ some g) : PoolX w' B lo hi v u n pl := by
  obtain ⟨h1, hl, vals, a, b, hown, hab, hel⟩ := h
  refine ⟨Nat.le_trans h1 hg.size, hl, vals, a, b, owns_kept hown (fun x e => hg.block x (hown.lt x e).2 (fun e2 => huv x e2.symm e)), hab, fun j hj => ?_⟩
  obtain ⟨q1, q2, q3, A, m, c, A2, m2, c2, E, t⟩ := hel j hj
  exact ⟨q1, q2, q3, A, m, c, A2, m2, c2, E, t.grown hg (fun x e => q3 x (.inr e))⟩
/-- A key is appended to what was seen, and a block between is written. -/
theorem MixP.seen_app {w w' wx : World} {B L H n c n2 c2 c7 gm : Nat} {seen : List Int} {pl : List Peel} {A A2 A7 : Option Addr} {x : Int} {o1 : Obj} (h : MixP w L H seen pl A n c A2 n2 c2) (hB : B ≤ L) (hg : (w.alloc o1).grownBy w' (Value.ownBlock (.slice A n c))) (hown : w'.ownsRow B 3 1 (.slice A7 (n + 1) c7) (n + 1) (ints seen ++ ints [x]))
    (hat : Value.ownBlock (.slice A7 (n + 1) c7) = Value.ownBlock (.slice A n c) ∨ Value.ownBlock (.slice A7 (n + 1) c7) = some (w.alloc o1).heap.size) (hx : Only gm (gm + 1) w' wx) (hgm : gm < L ∨ H ≤ gm) (hgw : gm < w.heap.size) :
    MixR wx B wx.heap.size (seen ++ [x]) pl A7 (n + 1) c7 A2 n2 c2 := by
  have h2 := h.alloc o1
  have hs1 : (w.alloc o1).heap.size = w.heap.size + 1 := by simp
  obtain ⟨oo, lo, hi, hl1, hl2, p, h4, h5⟩ := h2
  have hmap : ints seen ++ ints [x] = (seen ++ [x]).map (Value.int .i64) := by simp [ints]
  rw [hmap] at hown
  have own := OwnR.of_owns (owns_kept hown (w' := wx) (fun y e => hx.block y (hown.lt y e).2 (by
    rcases hat with k | k
    · have := oo.block (by rw [← k]; exact e)
      omega
    · rw [k] at e
      have e2 := Option.some.inj e
      omega)))
  obtain ⟨h1, hl, vals, a, b, ho2, hab, hel⟩ := p.grownU hg h5
  have po : PoolO wx B wx.heap.size A2 n2 c2 pl := ⟨hl, Nat.le_refl _, fun y e => Nat.lt_of_lt_of_le (ho2.lt y e).2 hx.size, vals, a, b, owns_base (owns_kept ho2 (fun y e => hx.block y (ho2.lt y e).2 (by have := (ho2.lt y e).1; have := h4 y e; omega))) hB, hab, fun j hj => by
    obtain ⟨q1, q2, q3, A1, m, d, A22, m2, d2, E, t⟩ := hel j hj
    have hz := hx.size
    exact ⟨by omega, by omega, fun y e => q3 y (.inl e), A1, m, d, A22, m2, d2, E, t.only hx (by omega)⟩⟩
  exact ⟨own.read, po.read, own.cap, po.cap⟩
/-- What was grown stays grown. -/
theorem grown_row {w a b : World} {g : Nat} {row : Option Nat} (h : w.grownBy a (some g)) (k : a.grownBy b row) (hr : ∀ x, row = some x → w.heap.size ≤ x) : w.grownBy b (some g) :=
  ⟨k.os.trans h.os, k.tape.trans h.tape, k.output.trans h.output, Nat.le_trans h.size k.size, fun i hi hne => (k.block i (Nat.lt_of_lt_of_le hi h.size) (fun e => by have := hr i e.symm; omega)).trans (h.block i hi hne)⟩
/-- A cell of the k-th waiting packet may be written. -/
theorem MixP.next_set {w : World} {L H n c n2 c2 gp k : Nat} {seen : List Int} {pl : List Peel} {A : Option Addr} (h : MixP w L H seen pl A n c (some ⟨gp, 0, none⟩) n2 c2) (hk : k < n2) (z : Int) (hb : PlB 1000000 pl) :
    (∃ y, w.cell? ⟨gp, k * 6 + 1, none⟩ = some (.int .i64 y)) ∧ w.frozen? ⟨gp, k * 6 + 1, none⟩ = false ∧ (L ≤ gp ∧ gp < H) ∧ ∃ pl2, PlB 1000000 pl2 ∧ MixR (w.setCell ⟨gp, k * 6 + 1, none⟩ (.int .i64 z)) L H seen pl2 A n c (some ⟨gp, 0, none⟩) n2 c2 := by
  have hp := h.pool
  have hlen := hp.len
  obtain ⟨g2, vals, a, b, A1, m, d, A22, m2, d2, e, R, E, t⟩ := hp.opened hk
  have e2 : gp = g2 := by injection e with e; injection e
  subst e2
  obtain ⟨f0, f1, f2, f3, f4, f5⟩ := E
  have hab := R.2.2.2.2 k hk
  have hlv : vals.length = n2 * 6 := R.2.2.1.1
  refine ⟨⟨_, (R.cell hk 1 (by omega)).trans f1⟩, R.frozen _, ⟨(R.2.2.1.lt gp rfl).1, R.2.1⟩, pl.set k { pl.getD k zeroPeel with next := z }, ?_, ?_⟩
  · intro x hx
    rcases List.mem_or_eq_of_mem_set hx with hx | hx
    · exact hb x hx
    · rw [hx]; exact hb.at_ (by omega)
  · have hgk : (pl.set k { pl.getD k zeroPeel with next := z }).getD k zeroPeel = { pl.getD k zeroPeel with next := z } := by
      rw [List.getD_eq_getElem?_getD, List.getElem?_set_self (by omega)]; rfl
    have ne : ∀ i, i < 6 → i ≠ 1 → (vals.set (k * 6 + 1) (.int .i64 z))[k * 6 + i]? = vals[k * 6 + i]? := fun i hi h1 => List.getElem?_set_ne (by omega)
    have E2 : ElAt (vals.set (k * 6 + 1) (.int .i64 z)) (k * 6) { pl.getD k zeroPeel with next := z } A1 m d A22 m2 d2 :=
      ⟨(ne 0 (by omega) (by omega)).trans f0, by rw [List.getElem?_set_self (by omega)], (ne 2 (by omega) (by omega)).trans f2, (ne 3 (by omega) (by omega)).trans f3, (ne 4 (by omega) (by omega)).trans f4, (ne 5 (by omega) (by omega)).trans f5⟩
    have po := (R.set (k * 6 + 1) (by omega) (.int .i64 z)).close E2 (t.only (set1_only w gp (k * 6 + 1) (.int .i64 z)) (by have := hab.2.2.1; omega)) (by simp [hlen]) hgk (fun j hj hjk => by rw [List.getD_eq_getElem?_getD, List.getElem?_set_ne (by omega), ← List.getD_eq_getElem?_getD])
    obtain ⟨o, lo, hi, _, _, _, _, h5⟩ := h
    have os : OwnR 3 (w.setCell ⟨gp, k * 6 + 1, none⟩ (.int .i64 z)) L H A n c seen :=
      ⟨owns_kept o.1 (fun x e => Below.heap_setCell w _ _ x (fun e3 => h5 x e (by first | exact congrArg some e3 | exact (congrArg some e3).symm))), by simpa [World.setCell] using o.2.1, o.2.2⟩
    exact ⟨os.read, po.read, os.cap, po.cap⟩
end Go.Proofs.Ytoocjalhcliebaa
