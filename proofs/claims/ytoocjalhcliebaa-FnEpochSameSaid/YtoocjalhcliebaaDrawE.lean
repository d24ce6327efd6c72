/-
  The draw of the statements on epochs.
  Conditions: the code reads as bytes.
-/
import Derived.Test.YtoocjalhcliebaaDMix
namespace Go.Proofs.Ytoocjalhcliebaa
open Go Go.RowKit

/-- What the draw leaves: a mix and a secret. -/
def EpDraw (w : World) (e : Ending) (w' : World) : Prop :=
  ∃ s seen pl A n c A2 n2 c2 sec, e = .returned (.tuple #[.agg #[.int .i64 s, .slice A n c, .slice A2 n2 c2], .int .i64 sec]) ∧ MixR w' w.heap.size w'.heap.size seen pl A n c A2 n2 c2 ∧ n ≤ 13 ∧ n2 ≤ 5 ∧ PlB 1000000 pl ∧ Below w.heap.size w w'
theorem EpDraw.drew {w w' : World} {e : Ending} (h : EpDraw w e w') : EpDraw w e w'.drew := by
  obtain ⟨s, seen, pl, A, n, c, A2, n2, c2, sec, he, t, h1, h2, h3, hb⟩ := h
  exact ⟨s, seen, pl, A, n, c, A2, n2, c2, sec, he, t.drew, h1, h2, h3, hb.drew⟩
theorem only_dE (w : World) (lo hi : Nat) : Only lo hi w w.drew := Only.of_below (Below.refl _ _).drew
theorem ep_end {s sec : Int} {L H n c n2 c2 : Nat} {w wx : World} {seen : List Int} {pl : List Peel} {A A2 : Option Addr} (t : MixR wx L H seen pl A n c A2 n2 c2) (hL : w.heap.size + 1 ≤ L) (hn : n ≤ 13) (hn2 : n2 ≤ 5) (hpl : PlB 1000000 pl) (hb : Below w.heap.size w wx) :
    EpDraw w (.returned (.tuple #[.agg #[.int .i64 s, .slice A n c, .slice A2 n2 c2], .int .i64 sec])) (((wx.setCell ⟨w.heap.size, 0, none⟩ (.int .i64 s)).setCell ⟨w.heap.size, 1, none⟩ (.slice A n c)).setCell ⟨w.heap.size, 2, none⟩ (.slice A2 n2 c2)) := by
  have ho := set3_only wx w.heap.size (.int .i64 s) (.slice A n c) (.slice A2 n2 c2)
  have hz := set3_size wx w.heap.size (.int .i64 s) (.slice A n c) (.slice A2 n2 c2)
  have hh := t.hi_le
  exact ⟨s, seen, pl, A, n, c, A2, n2, c2, sec, rfl, (t.only ho (.inr (by omega))).wider (by omega) (by omega) (Nat.le_refl _), hn, hn2, hpl, Below.only hb ho hb.size (Nat.le_refl _)⟩
set_option maxRecDepth 100000 in
set_option maxHeartbeats 3200000 in
theorem drawMixEpoch_c (A : Option Addr) (n c : Nat) (xs : List Int) (w : World) (h : SlR .u8 w 0 w.heap.size A n xs) (hb : ∀ x ∈ xs, 0 ≤ x ∧ x ≤ 255) (hc : n ≤ c) (hc2 : c ≤ 9223372036854775807) : Calls Try.prog 5 #[.slice A n c] w (EpDraw w) := by
  have h0 := (h.alloc (.cells #[.int .i64 0, .slice none 0 0, .slice none 0 0] 26)).wider (Nat.le_refl _) (hi' := (w.alloc (.cells #[.int .i64 0, .slice none 0 0, .slice none 0 0] 26)).heap.size) (by simp) (Nat.le_refl _)
  have bz := BoxAt.new w #[.int .i64 0, .slice none 0 0, .slice none 0 0] 26
  have hB0 : Below w.heap.size w (w.alloc (.cells #[.int .i64 0, .slice none 0 0, .slice none 0 0] 26)) := (Below.refl w.heap.size w).alloc (Nat.le_refl _) _
  have hz0 : w.heap.size + 1 ≤ (w.alloc (.cells #[.int .i64 0, .slice none 0 0, .slice none 0 0] 26)).heap.size := by simp
  clear h
  go_enter Try.func5, Try.ntmps5
  go_wp2_with fail
  refine (l6Open_c A n c xs _ h0 hb hc hc2).mono ?_
  rintro e w_1 ⟨rfl, hr, hB⟩
  replace bz := bz.below hB (by omega)
  replace hB := hB0.trans (hB.mono hB0.size)
  obtain ⟨g, hg⟩ : ∃ g, g = (w.alloc (.cells #[.int .i64 0, .slice none 0 0, .slice none 0 0] 26)).heap.size := ⟨_, rfl⟩
  rw [← hg] at hr hz0 ⊢
  have hlt := hr.lt
  clear h0 hB0 hg
  go_wp2_with fail
  refine (l91Mix_c g 0 _ hr (by omega)).mono ?_
  rintro e w_2 ⟨s, seen, pl, A3, n3, c3, A4, n4, c4, rfl, t2, hn3, hn4, hpl, hr2, hg2⟩
  have z2 := hg2.size
  replace hB := (hB.grown hg2 hB.size (fun k hk => by injection hk with hk; omega)).alloc (by have := hB.size; omega) (.cells #[.int .i64 s, .slice A3 n3 c3, .slice A4 n4 c4] 26)
  replace bz := (bz.grown hg2 (fun k hk => by injection hk with hk; omega)).alloc (.cells #[.int .i64 s, .slice A3 n3 c3, .slice A4 n4 c4] 26)
  replace t2 := t2.alloc (.cells #[.int .i64 s, .slice A3 n3 c3, .slice A4 n4 c4] 26)
  have box := BoxAt.new w_2 #[.int .i64 s, .slice A3 n3 c3, .slice A4 n4 c4] 26
  have hr3 := hr2.below ((Below.refl w_2.heap.size w_2).alloc (Nat.le_refl _) (.cells #[.int .i64 s, .slice A3 n3 c3, .slice A4 n4 c4] 26)) hr2.lt
  have HPL := Lib.hid hpl
  clear hr hr2 hg2 hpl
  go_wp2_with fail
  refine (pick_c g _ 6 _ hr3 (by omega)).mono ?_
  rintro e w_3 ⟨y, rfl, hy0, hy1, hr4, hg4⟩
  replace hB := hB.grown hg4 hB.size (fun k hk => by injection hk with hk; omega)
  replace bz := bz.grown hg4 (fun k hk => by injection hk with hk; omega)
  replace t2 := t2.grown hg4 (fun k hk => by injection hk with hk; omega)
  replace box := box.grown hg4 (fun k hk => by injection hk with hk; omega)
  obtain ⟨q, hq⟩ : ∃ q, q = w_2.heap.size := ⟨_, rfl⟩
  have hqw : w.heap.size < q := by omega
  have hqg : g < q := by omega
  have hne1 : ¬ q = w.heap.size := by omega
  have hne2 : ¬ w.heap.size = q := by omega
  have hl1 : w.heap.size + 1 ≤ w_1.heap.size := by omega
  rw [← hq] at box t2 ⊢
  clear hr3 hg4 hq hy1 hy0
  by_cases e0 : y = 0
  · subst e0
    obtain ⟨q0, q1, q2⟩ := box.three
    obtain ⟨z0, z1, z2'⟩ := bz.three
    have zf := bz.frozen
    have HFIN := Lib.hid (ep_end (s := s) (sec := s) t2 hl1 hn3 hn4 HPL.out hB).drew
    have HK := Lib.hid (fun w' (h : Only w.heap.size (w.heap.size + 1) w_3 w') => (box.only h (.inr (by omega))).three)
    have HO0 := Lib.hid (only_dE w_3 w.heap.size (w.heap.size + 1))
    have HO3 := Lib.hid ((set3_only w_3 w.heap.size (.int .i64 s) (.slice A3 n3 c3) (.slice A4 n4 c4)).trans (only_dE _ _ _))
    clear box bz t2 hB
    go_wp2_with fail
    go_region_held3 (fun w' => w'.cell? ⟨q, 0, none⟩ = some (.int .i64 s) ∧ w'.cell? ⟨q, 1, none⟩ = some (.slice A3 n3 c3) ∧ w'.cell? ⟨q, 2, none⟩ = some (.slice A4 n4 c4))
      (exact HK.out _ (by first | with_reducible exact HO0.out | with_reducible exact HO3.out | with_reducible exact set3_only _ _ _ _ _))
      (fail)
    go_wp2_with fail
    refine bodyPost_ret (v := .tuple #[.agg #[.int .i64 s, .slice A3 n3 c3, .slice A4 n4 c4], .int .i64 s]) (by simp [results, Try.results5, go_sem, z0, z1, z2']) rfl ?_
    exact HFIN.out
  · have hy : (y == 0) = false := by simpa using e0
    clear e0
    obtain ⟨q0, q1, q2⟩ := box.three
    have HK := Lib.hid (fun w' w'' (hg : w_3.grownBy w' (some g)) (h : Only w.heap.size (w.heap.size + 1) w' w'') => ((box.grown hg (fun k hk => by injection hk with hk; omega)).only h (.inr (by omega))).three)
    have HG0 := Lib.hid (show w_3.grownBy w_3.drew (some g) from ⟨rfl, rfl, rfl, Nat.le_refl _, fun _ _ _ => rfl⟩)
    have HR := Lib.hid (hr4.below (Below.refl w_3.heap.size w_3).drew hr4.lt)
    have HB := Lib.hid hB
    have HZ := Lib.hid bz
    have HT := Lib.hid t2
    clear box bz t2 hB hr4
    go_wp2_with fail
    go_region_held3 (fun w' => w'.cell? ⟨q, 0, none⟩ = some (.int .i64 s) ∧ w'.cell? ⟨q, 1, none⟩ = some (.slice A3 n3 c3) ∧ w'.cell? ⟨q, 2, none⟩ = some (.slice A4 n4 c4))
      (first | exact HK.out _ _ HG0.out (Only.refl _ _ _) | exact HK.out _ _ hg6' (Only.refl _ _ _) | exact HK.out _ _ hg6' (set3_only _ _ _ _ _))
      ((go_at_call 15; refine (l91Is_c g _ _ HR.out (by omega)).mono ?_; rintro e' w_6 ⟨x, rfl, hr6, hg6⟩; have hg6' := only_trans HG0.out hg6; have bz6 := HZ.out.grown hg6' (fun k hk => by injection hk with hk; omega); obtain ⟨z0, z1, z2'⟩ := bz6.three; have zf := bz6.frozen))
    have HFIN := Lib.hid (ep_end (s := s) (sec := x) (HT.out.grown hg6' (fun k hk => by injection hk with hk; omega)) hl1 hn3 hn4 HPL.out (HB.out.grown hg6' HB.out.size (fun k hk => by injection hk with hk; omega)))
    clear bz6 hg6 hg6' hr6
    go_wp2_with fail
    refine bodyPost_ret (v := .tuple #[.agg #[.int .i64 s, .slice A3 n3 c3, .slice A4 n4 c4], .int .i64 x]) (by simp [results, Try.results5, go_sem, z0, z1, z2']) rfl ?_
    exact HFIN.out
end Go.Proofs.Ytoocjalhcliebaa
