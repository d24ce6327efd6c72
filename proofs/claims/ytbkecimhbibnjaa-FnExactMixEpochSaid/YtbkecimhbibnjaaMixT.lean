/-
  Contracts of the functions that copy the peeled packets and mixes that came in.
  Conditions: the slices read as lists.
-/
import Derived.Test.YtbkecimhbibnjaaPoolO
import Derived.Test.YtbkecimhbibnjaaMixS
namespace Go.Proofs.Ytbkecimhbibnjaa
open Go Go.RowKit

/-- A call that returns a peeled packet in new memory. -/
def NewPl (k x e t : Int) (h b : List Int) (w : World) (en : Ending) (w' : World) : Prop :=
  ∃ A n c A2 n2 c2, en = .returned (.agg #[.int .i64 k, .int .i64 x, .int .i64 e, .slice A n c, .int .i64 t, .slice A2 n2 c2]) ∧ TwoO w' w.heap.size w'.heap.size h b A n c A2 n2 c2 ∧ Below w.heap.size w w'
set_option maxRecDepth 100000 in
set_option maxHeartbeats 3200000 in
theorem toPeeled_c (k x e t : Int) (A : Option Addr) (n c : Nat) (A2 : Option Addr) (n2 c2 : Nat) (lo hi : Nat) (h b : List Int) (w : World) (hs : TwoR w lo hi h b A n c A2 n2 c2) (hn : n ≤ 4194304) (hn2 : n2 ≤ 4194304) :
    Calls Try.prog 103 #[.agg #[.int .i64 k, .int .i64 x, .int .i64 e, .slice A n c, .int .i64 t, .slice A2 n2 c2]] w (NewPl k x e t h b w) := by
  have hhi := hs.hi_le
  have hs0 := ((hs.alloc (.cells #[.int .i64 k, .int .i64 x, .int .i64 e, .slice A n c, .int .i64 t, .slice A2 n2 c2] 104)).alloc (.cells #[.int .i64 0, .int .i64 0, .int .i64 0, .slice none 0 0, .int .i64 0, .slice none 0 0] 46)).alloc (.cells #[.int .i64 k, .int .i64 x, .int .i64 0, .slice none 0 0, .int .i64 0, .slice none 0 0] 46)
  have hb0 : Below w.heap.size w (((w.alloc (.cells #[.int .i64 k, .int .i64 x, .int .i64 e, .slice A n c, .int .i64 t, .slice A2 n2 c2] 104)).alloc (.cells #[.int .i64 0, .int .i64 0, .int .i64 0, .slice none 0 0, .int .i64 0, .slice none 0 0] 46)).alloc (.cells #[.int .i64 k, .int .i64 x, .int .i64 0, .slice none 0 0, .int .i64 0, .slice none 0 0] 46)) := (((Below.refl w.heap.size w).alloc (Nat.le_refl _) _).alloc (by simp) _).alloc (by simp; omega) _
  have bz : BoxAt (((w.alloc (.cells #[.int .i64 k, .int .i64 x, .int .i64 e, .slice A n c, .int .i64 t, .slice A2 n2 c2] 104)).alloc (.cells #[.int .i64 0, .int .i64 0, .int .i64 0, .slice none 0 0, .int .i64 0, .slice none 0 0] 46)).alloc (.cells #[.int .i64 k, .int .i64 x, .int .i64 0, .slice none 0 0, .int .i64 0, .slice none 0 0] 46)) (w.heap.size + 1) #[.int .i64 0, .int .i64 0, .int .i64 0, .slice none 0 0, .int .i64 0, .slice none 0 0] 46 := by
    have := (BoxAt.new (w.alloc (.cells #[.int .i64 k, .int .i64 x, .int .i64 e, .slice A n c, .int .i64 t, .slice A2 n2 c2] 104)) #[.int .i64 0, .int .i64 0, .int .i64 0, .slice none 0 0, .int .i64 0, .slice none 0 0] 46).alloc (.cells #[.int .i64 k, .int .i64 x, .int .i64 0, .slice none 0 0, .int .i64 0, .slice none 0 0] 46)
    simpa using this
  have bo : BoxAt (((w.alloc (.cells #[.int .i64 k, .int .i64 x, .int .i64 e, .slice A n c, .int .i64 t, .slice A2 n2 c2] 104)).alloc (.cells #[.int .i64 0, .int .i64 0, .int .i64 0, .slice none 0 0, .int .i64 0, .slice none 0 0] 46)).alloc (.cells #[.int .i64 k, .int .i64 x, .int .i64 0, .slice none 0 0, .int .i64 0, .slice none 0 0] 46)) (w.heap.size + 2) #[.int .i64 k, .int .i64 x, .int .i64 0, .slice none 0 0, .int .i64 0, .slice none 0 0] 46 := by
    have := BoxAt.new ((w.alloc (.cells #[.int .i64 k, .int .i64 x, .int .i64 e, .slice A n c, .int .i64 t, .slice A2 n2 c2] 104)).alloc (.cells #[.int .i64 0, .int .i64 0, .int .i64 0, .slice none 0 0, .int .i64 0, .slice none 0 0] 46)) #[.int .i64 k, .int .i64 x, .int .i64 0, .slice none 0 0, .int .i64 0, .slice none 0 0] 46
    simpa using this
  have hsz0 : w.heap.size + 3 ≤ (((w.alloc (.cells #[.int .i64 k, .int .i64 x, .int .i64 e, .slice A n c, .int .i64 t, .slice A2 n2 c2] 104)).alloc (.cells #[.int .i64 0, .int .i64 0, .int .i64 0, .slice none 0 0, .int .i64 0, .slice none 0 0] 46)).alloc (.cells #[.int .i64 k, .int .i64 x, .int .i64 0, .slice none 0 0, .int .i64 0, .slice none 0 0] 46)).heap.size := by simp
  clear hs
  go_enter Try.func103, Try.ntmps103
  go_wp2_with fail
  refine (toPacket_c _ _ _ _ _ _ _ _ _ _ _ _ _ hs0 hn hn2).mono ?_
  rintro e' w2 ⟨A3, n3, c3, A4, n4, c4, rfl, o3, hb3⟩
  have hz2 := hb3.size
  have bz2 := bz.below hb3 (by omega)
  have bo2 := bo.below hb3 (by omega)
  have hon : Only (w.heap.size + 2) (w.heap.size + 2 + 1) w2 ((((w2.setCell ⟨w.heap.size + 2, 2, none⟩ (.int .i64 e)).setCell ⟨w.heap.size + 2, 3, none⟩ (.slice A3 n3 c3)).setCell ⟨w.heap.size + 2, 4, none⟩ (.int .i64 t)).setCell ⟨w.heap.size + 2, 5, none⟩ (.slice A4 n4 c4)) := by
    have ho : ∀ (u : World) (i : Nat) (x : Value), Only (w.heap.size + 2) (w.heap.size + 2 + 1) u (u.setCell ⟨w.heap.size + 2, i, none⟩ x) := fun u i x => Only.of_grown (only_set x) (fun g hg => by injection hg with hg; omega)
    exact (((ho _ _ _).trans (ho _ _ _)).trans (ho _ _ _)).trans (ho _ _ _)
  have o4 := o3.only hon (.inr (by omega))
  have bz3 := bz2.only hon (.inl (by omega))
  have hb4 := Below.only (hb0.trans (hb3.mono (by omega))) hon (by omega) (by omega)
  have hfin : NewPl k x e t h b w (.returned (.agg #[.int .i64 k, .int .i64 x, .int .i64 e, .slice A3 n3 c3, .int .i64 t, .slice A4 n4 c4])) ((((((((((w2.setCell ⟨w.heap.size + 2, 2, none⟩ (.int .i64 e)).setCell ⟨w.heap.size + 2, 3, none⟩ (.slice A3 n3 c3)).setCell ⟨w.heap.size + 2, 4, none⟩ (.int .i64 t)).setCell ⟨w.heap.size + 2, 5, none⟩ (.slice A4 n4 c4)).setCell ⟨w.heap.size + 1, 0, none⟩ (.int .i64 k)).setCell ⟨w.heap.size + 1, 1, none⟩ (.int .i64 x)).setCell ⟨w.heap.size + 1, 2, none⟩ (.int .i64 e)).setCell ⟨w.heap.size + 1, 3, none⟩ (.slice A3 n3 c3)).setCell ⟨w.heap.size + 1, 4, none⟩ (.int .i64 t)).setCell ⟨w.heap.size + 1, 5, none⟩ (.slice A4 n4 c4)) :=
    ⟨A3, n3, c3, A4, n4, c4, rfl, (set6_twoO o4 (by omega) _ _ _ _ _ _).wider (by omega) (by rw [set6_size]; exact o4.hi_le) (Nat.le_refl _), set6_below hb4 (by omega) _ _ _ _ _ _⟩
  have HFIN := Lib.hid hfin
  obtain ⟨qo0, qo1, qo2, qo3, qo4, qo5⟩ := bo2.six
  have qf := bo2.frozen
  obtain ⟨qz0, qz1, qz2, qz3, qz4, qz5⟩ := bz2.six
  have qg := bz2.frozen
  clear hfin bz bo bz2 bo2 bz3 o3 o4 hon hb4 hb3 hb0 hs0
  go_wp2_with fail
  refine bodyPost_ret (v := .agg #[.int .i64 k, .int .i64 x, .int .i64 e, .slice A3 n3 c3, .int .i64 t, .slice A4 n4 c4]) (by simp [results, Try.results103, go_sem, qz0, qz1, qz2, qz3, qz4, qz5]) rfl ?_
  exact HFIN.out
theorem infoPeel : (Try.prog.info? 46).map (fun i => (i.zero, i.size, i.bytes)) = some (some (.agg #[.int .i64 0, .int .i64 0, .int .i64 0, .slice none 0 0, .int .i64 0, .slice none 0 0]), 6, 80) := by kernel_rfl
theorem info_peel : ∃ i, Try.prog.info? 46 = some i ∧ i.zero = some (.agg #[.int .i64 0, .int .i64 0, .int .i64 0, .slice none 0 0, .int .i64 0, .slice none 0 0]) ∧ i.size = 6 ∧ i.bytes = 80 := by
  obtain ⟨i, hi, hz⟩ := Option.map_eq_some_iff.1 infoPeel
  simp only [Prod.mk.injEq] at hz
  exact ⟨i, hi, hz⟩
theorem make_peels (n m : Nat) (hnm : n ≤ m) (hn : m ≤ 1048577) (W : World) : (Instr.makeSlice 24 (.int .i64 (n : Int)) (.int .i64 (m : Int))).run Try.prog W = .ok (.slice (some ⟨W.heap.size, 0, none⟩) n m) (W.alloc (.cells (madeCells #[.int .i64 0, .int .i64 0, .int .i64 0, .slice none 0 0, .int .i64 0, .slice none 0 0] (m * 6)) 46)) := by
  obtain ⟨i, hi, hz, hs, hb⟩ := info_peel
  have hr := run_make (P := Try.prog) W 24 46 i (.agg #[.int .i64 0, .int .i64 0, .int .i64 0, .slice none 0 0, .int .i64 0, .slice none 0 0]) Try.underlying24 hi hz .i64 .i64 n m (by omega) (by omega) (by rw [hb]; omega) (by omega)
  simpa [hs, Value.cells] using hr
/-- What a call that returns a new list of peeled packets leaves. -/
def NewPool (pl : List Peel) (w : World) (e : Ending) (w' : World) : Prop :=
  ∃ A n c, e = .returned (.slice A n c) ∧ PoolO w' w.heap.size w'.heap.size A n c pl ∧ Below w.heap.size w w'
theorem PoolK.cell {w : World} {lo hi g n c k : Nat} {pl : List Peel} (h : PoolK w lo hi (.slice (some ⟨g, 0, none⟩) n c) n k pl) (j : Nat) (hj : j < n * 6) : ∃ v, w.cell? ⟨g, j, none⟩ = some v := by
  obtain ⟨_, _, vals, a, b, hown, _⟩ := h
  have hl : vals.length = n * 6 := hown.1
  exact ⟨_, (hown.cellAt j hj).trans (List.getElem?_eq_getElem (by omega))⟩
theorem PoolK.frozen {w : World} {lo hi g n c k : Nat} {pl : List Peel} (h : PoolK w lo hi (.slice (some ⟨g, 0, none⟩) n c) n k pl) (j : Nat) : w.frozen? ⟨g, j, none⟩ = false := by
  obtain ⟨_, _, vals, a, b, hown, _⟩ := h
  exact hown.frozenAt j
set_option maxRecDepth 100000 in
set_option maxHeartbeats 3200000 in
theorem toPeeledS_c (A : Option Addr) (n c lo hi : Nat) (pl : List Peel) (w : World) (hs : PoolR w lo hi A n pl) (hn : n ≤ 1048576) (hpl : PlB 4194304 pl) : Calls Try.prog 59 #[.slice A n c] w (NewPool pl w) := by
  have hhi := hs.hi_le
  have HL := Lib.hid hs.len
  have HPL := Lib.hid hpl
  have hmk := fun W => make_peels n n (Nat.le_refl _) (by omega) W
  have hown0 : (w.alloc (.cells (madeCells #[.int .i64 0, .int .i64 0, .int .i64 0, .slice none 0 0, .int .i64 0, .slice none 0 0] (n * 6)) 46)).ownsRow w.heap.size 46 6 (.slice (some ⟨w.heap.size, 0, none⟩) n n) n (madeCells #[.int .i64 0, .int .i64 0, .int .i64 0, .slice none 0 0, .int .i64 0, .slice none 0 0] (n * 6)).toList := World.ownsRow_lit w _ n (Nat.le_refl _) (by unfold maxLen; omega) (size_madeCells _ _)
  have hb0 : Below w.heap.size w (w.alloc (.cells (madeCells #[.int .i64 0, .int .i64 0, .int .i64 0, .slice none 0 0, .int .i64 0, .slice none 0 0] (n * 6)) 46)) := (Below.refl w.heap.size w).alloc (Nat.le_refl _) _
  have hk0 := PoolK.zero hown0 (Nat.le_refl _) (fun g e => by have e2 : w.heap.size = g := Option.some.inj e; rw [← e2]; simp) pl
  clear hpl hown0
  go_enter Try.func59, Try.ntmps59
  go_wp2_with fail
  go_loopw [4] (fun i wr => ∃ k : Nat, k ≤ n ∧ i = .int .i64 (k : Int) ∧ PoolK wr w.heap.size wr.heap.size (.slice (some ⟨w.heap.size, 0, none⟩) n n) n k pl ∧ w.heap.size < wr.heap.size ∧ Below w.heap.size w wr) (fun i _ => n - (intOf i).toNat)
  case atStart => exact ⟨0, Nat.zero_le _, rfl, hk0, by simp, hb0⟩
  case round =>
    obtain ⟨k, hk, rfl, hpk, hsz, hnx⟩ := hrel
    by_cases hlt : k < n
    · obtain ⟨b, o, rfl, hb1, hb2, hc⟩ := hs.at_ (by omega)
      have hxl := HPL.out.at_ (j := k) (by rw [HL.out]; exact hlt)
      obtain ⟨A1, n1, c1, A2, n2, c2, ⟨h0, h1, h2, h3, h4, h5⟩, t⟩ := (hc k hlt).keep (w' := wr) (Nat.le_trans hs.hi_le hnx.size) ⟨hb1, hb2⟩ (fun b' _ hb' => hnx.block b' (Nat.lt_of_lt_of_le hb' hs.hi_le))
      obtain ⟨X, hX⟩ : ∃ X, X = pl.getD k zeroPeel := ⟨_, rfl⟩
      have hlx := t.len
      rw [← hX] at h0 h1 h2 h4 hlx hxl t
      have HX := Lib.hid hX
      have hc1 : n1 ≤ 4194304 ∧ n2 ≤ 4194304 := by omega
      have hbo : ¬ b = w.heap.size := by omega
      clear hc hX hlx hxl hs
      go_wp2_with fail
      refine (toPeeled_c _ _ _ _ _ _ _ _ _ _ _ _ _ _ _ t hc1.1 hc1.2).mono ?_
      rintro e' w2 ⟨A3, n3, c3, A4, n4, c4, rfl, o3, hb⟩
      have hz2 := hb.size
      have hpk2 := hpk.below hb (Nat.le_refl _)
      have hnx2 := hnx.trans (hb.mono hnx.size)
      obtain ⟨v0, q0⟩ := hpk2.cell (k * 6) (by omega)
      obtain ⟨v1, q1⟩ := hpk2.cell (k * 6 + 1) (by omega)
      obtain ⟨v2, q2⟩ := hpk2.cell (k * 6 + 2) (by omega)
      obtain ⟨v3, q3⟩ := hpk2.cell (k * 6 + 3) (by omega)
      obtain ⟨v4, q4⟩ := hpk2.cell (k * 6 + 4) (by omega)
      obtain ⟨v5, q5⟩ := hpk2.cell (k * 6 + 5) (by omega)
      have qf := hpk2.frozen
      have hst := hpk2.store hlt (by rw [← HX.out]; exact o3) (Nat.le_refl _) (.int .i64 X.kind) (.int .i64 X.next) (.int .i64 X.p.e) (.slice A3 n3 c3) (.int .i64 X.p.t) (.slice A4 n4 c4) (by rw [HX.out]) (by rw [HX.out]) (by rw [HX.out]) rfl (by rw [HX.out]) rfl (k * 6) rfl hz2
      have hle : w.heap.size ≤ w.heap.size := Nat.le_refl _
      have hnx3 := (((((hnx2.setCell (p := ⟨w.heap.size, k * 6, none⟩) hle (.int .i64 X.kind)).setCell (p := ⟨w.heap.size, k * 6 + 1, none⟩) hle (.int .i64 X.next)).setCell (p := ⟨w.heap.size, k * 6 + 2, none⟩) hle (.int .i64 X.p.e)).setCell (p := ⟨w.heap.size, k * 6 + 3, none⟩) hle (.slice A3 n3 c3)).setCell (p := ⟨w.heap.size, k * 6 + 4, none⟩) hle (.int .i64 X.p.t)).setCell (p := ⟨w.heap.size, k * 6 + 5, none⟩) hle (.slice A4 n4 c4)
      have hlt3 : w.heap.size < w2.heap.size := by omega
      have F := Lib.hid (And.intro (hst.wider (Nat.le_refl _) hst.hi_le (Nat.le_refl _)) (And.intro (Nat.lt_of_lt_of_le hlt3 hst.hi_le) hnx3))
      clear h0 h1 h2 h3 h4 h5 hb hpk hpk2 hnx hnx2 hst hnx3 o3 t hk0
      go_wp2_with fail
      go_roundw
      case rel => exact ⟨k + 1, by omega, by go_num, F.out.1, F.out.2.1, F.out.2.2⟩
      case measure => simp [intOf]; omega
    · have hkn : k = n := by omega
      subst hkn
      have HK := Lib.hid hpk
      clear hpk hs hk0
      go_wp2_with fail
      go_ret
      exact ⟨_, _, _, rfl, ⟨HL.out, HK.out⟩, hnx⟩
end Go.Proofs.Ytbkecimhbibnjaa
