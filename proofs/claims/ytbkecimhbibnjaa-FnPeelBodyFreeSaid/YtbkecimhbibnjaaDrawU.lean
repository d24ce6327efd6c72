/-
  A drawn packet that is changed, seldom to an invalid one, and the draw of the statements on peeling.
  Conditions: the reader is good; the packet's slices read as lists of whole numbers.
-/
import Derived.Test.YtbkecimhbibnjaaDrawR
import Derived.Test.YtbkecimhbibnjaaDrawS
import Derived.IntWalk
import Derived.Deep.RegionHeld3
namespace Go.Proofs.Ytbkecimhbibnjaa
open Go Go.RowKit

theorem spoilt_end {g m : Nat} {w wF : World} {P : Pkt} {A : Option Addr} {n c : Nat} {A2 : Option Addr} {n2 c2 lo hi : Nat} (t : TwoR wF lo hi P.h P.b A n c A2 n2 c2) (hlo : w.heap.size + 2 ≤ lo) (hn : n ≤ 10) (hn2 : n2 ≤ 6) (hr : RdOk wF g m) (hg : g < w.heap.size) (hgr : w.grownBy wF (some g)) :
    SPkt g m w (.returned (.agg #[.int .i64 P.e, .slice A n c, .int .i64 P.t, .slice A2 n2 c2])) ((((wF.setCell ⟨w.heap.size + 1, 0, none⟩ (.int .i64 P.e)).setCell ⟨w.heap.size + 1, 1, none⟩ (.slice A n c)).setCell ⟨w.heap.size + 1, 2, none⟩ (.int .i64 P.t)).setCell ⟨w.heap.size + 1, 3, none⟩ (.slice A2 n2 c2)) := by
  refine ⟨P, A, n, c, A2, n2, c2, rfl, (set4_twoR t (by omega) _ _ _ _).wider (by omega) ?_ (Nat.le_refl _), hn, hn2, hr.only (set4_only _ _ _ _ _ _) (by omega), grown_only hgr (set4_only _ _ _ _ _ _) (by omega)⟩
  rw [set4_sz]; exact t.hi_le
theorem RdOk.drew {w : World} {g m : Nat} (h : RdOk w g m) : RdOk w.drew g m := h
theorem one_only (w : World) (rb i : Nat) (x : Value) : Only rb (rb + 1) w (w.setCell ⟨rb, i, none⟩ x) := Only.of_grown (only_set x) (fun g hg => by injection hg with hg; omega)
set_option maxRecDepth 100000 in
set_option maxHeartbeats 6400000 in
theorem l91Spoilt_c (g m : Nat) (e t : Int) (A : Option Addr) (c : Nat) (A2 : Option Addr) (c2 : Nat) (lo hi : Nat) (h b : List Int) (w : World) (hr : RdOk w g m) (hm : m ≤ 500000) (hs : TwoR w lo hi h b A 9 c A2 6 c2) : Calls Try.prog 63 #[.pointer (some ⟨g, 0, none⟩), .agg #[.int .i64 e, .slice A 9 c, .int .i64 t, .slice A2 6 c2]] w (SPkt g (m + 8) w) := by
  obtain ⟨i0, hi0, hz0, hz1, hz2⟩ := info_parts Try.infoInt
  have hglt := hr.lt
  have hhi := hs.hi_le
  have hs0 := (hs.alloc (.cells #[.int .i64 e, .slice A 9 c, .int .i64 t, .slice A2 6 c2] 42)).alloc (.cells #[.int .i64 0, .slice none 0 0, .int .i64 0, .slice none 0 0] 42)
  have bx : BoxAt ((w.alloc (.cells #[.int .i64 e, .slice A 9 c, .int .i64 t, .slice A2 6 c2] 42)).alloc (.cells #[.int .i64 0, .slice none 0 0, .int .i64 0, .slice none 0 0] 42)) w.heap.size #[.int .i64 e, .slice A 9 c, .int .i64 t, .slice A2 6 c2] 42 := (BoxAt.new w #[.int .i64 e, .slice A 9 c, .int .i64 t, .slice A2 6 c2] 42).alloc _
  have bz : BoxAt ((w.alloc (.cells #[.int .i64 e, .slice A 9 c, .int .i64 t, .slice A2 6 c2] 42)).alloc (.cells #[.int .i64 0, .slice none 0 0, .int .i64 0, .slice none 0 0] 42)) (w.heap.size + 1) #[.int .i64 0, .slice none 0 0, .int .i64 0, .slice none 0 0] 42 := by
    have := BoxAt.new (w.alloc (.cells #[.int .i64 e, .slice A 9 c, .int .i64 t, .slice A2 6 c2] 42)) #[.int .i64 0, .slice none 0 0, .int .i64 0, .slice none 0 0] 42
    simpa using this
  have hbw : Below w.heap.size w ((w.alloc (.cells #[.int .i64 e, .slice A 9 c, .int .i64 t, .slice A2 6 c2] 42)).alloc (.cells #[.int .i64 0, .slice none 0 0, .int .i64 0, .slice none 0 0] 42)) := ((Below.refl w.heap.size w).alloc (Nat.le_refl _) _).alloc (by simp) _
  have hsz0 : w.heap.size + 2 ≤ ((w.alloc (.cells #[.int .i64 e, .slice A 9 c, .int .i64 t, .slice A2 6 c2] 42)).alloc (.cells #[.int .i64 0, .slice none 0 0, .int .i64 0, .slice none 0 0] 42)).heap.size := by simp
  have hr0 := hr.below hbw hglt
  clear hs hr
  go_enter Try.func63, Try.ntmps63
  go_wp2_with fail
  refine (l11Packet_c _ _ _ _ _ _ _ _ _ _ _ _ _ hs0 (by omega) (by omega)).mono ?_
  rintro e' w1 ⟨A3, n3, c3, A4, n4, c4, rfl, o1, hb1⟩
  have hsz1 := hb1.size
  have hn3 : n3 = 9 := by rw [← o1.len.1, hs0.len.1]
  have hn4 : n4 = 6 := by rw [← o1.len.2, hs0.len.2]
  subst hn3 hn4
  have bx1 := set4_box (bx.below hb1 (by omega)) (.int .i64 e) (.slice A3 9 c3) (.int .i64 t) (.slice A4 6 c4)
  have bz1 := (bz.below hb1 (by omega)).only (set4_only w1 w.heap.size (.int .i64 e) (.slice A3 9 c3) (.int .i64 t) (.slice A4 6 c4)) (.inr (by omega))
  have o2 := o1.only (set4_only w1 w.heap.size (.int .i64 e) (.slice A3 9 c3) (.int .i64 t) (.slice A4 6 c4)) (.inr (by omega))
  have hr1 := (hr0.below hb1 (by omega)).only (set4_only w1 w.heap.size (.int .i64 e) (.slice A3 9 c3) (.int .i64 t) (.slice A4 6 c4)) (by omega)
  have hg1 : w.grownBy ((((w1.setCell ⟨w.heap.size, 0, none⟩ (.int .i64 e)).setCell ⟨w.heap.size, 1, none⟩ (.slice A3 9 c3)).setCell ⟨w.heap.size, 2, none⟩ (.int .i64 t)).setCell ⟨w.heap.size, 3, none⟩ (.slice A4 6 c4)) (some g) := grown_only (only_below (row := some g) ⟨hbw.os, hbw.tape, hbw.output, hbw.size, fun i hi _ => hbw.block i hi⟩ hb1) (set4_only w1 w.heap.size (.int .i64 e) (.slice A3 9 c3) (.int .i64 t) (.slice A4 6 c4)) (Nat.le_refl _)
  obtain ⟨qx0, qx1, qx2, qx3⟩ := (bx.below hb1 (by omega)).four
  have qxf := (bx.below hb1 (by omega)).frozen
  have HX := Lib.hid (And.intro bx1 (And.intro bz1 (And.intro o2 (And.intro hr1 hg1))))
  have hlo0 : w.heap.size + 2 ≤ ((w.alloc (.cells #[.int .i64 e, .slice A 9 c, .int .i64 t, .slice A2 6 c2] 42)).alloc (.cells #[.int .i64 0, .slice none 0 0, .int .i64 0, .slice none 0 0] 42)).heap.size := hsz0
  obtain ⟨B0, hB0⟩ : ∃ B, B = ((w.alloc (.cells #[.int .i64 e, .slice A 9 c, .int .i64 t, .slice A2 6 c2] 42)).alloc (.cells #[.int .i64 0, .slice none 0 0, .int .i64 0, .slice none 0 0] 42)).heap.size := ⟨_, rfl⟩
  clear bx1 bz1 o2 hr1 hg1 bx bz hs0 hr0 o1 hb1 hbw
  go_wp2_with fail
  refine (pick_c g m _ _ HX.out.2.2.2.1 (by omega)).mono ?_
  rintro e' w2 ⟨x, rfl, x0, x1, hr2, hg2⟩
  obtain ⟨bx, bz, o, _, hg1⟩ := HX.out
  clear HX qx0 qx1 qx2 qx3 qxf
  rw [← hB0] at o
  replace bx := bx.grown hg2 (fun k hk => by injection hk with hk; omega)
  replace bz := bz.grown hg2 (fun k hk => by injection hk with hk; omega)
  replace o := o.grown hg2 (fun k hk => by injection hk with hk; omega)
  have hg := only_trans hg1 hg2
  have hsz2 := hg.size
  have hsz3 := o.hi_le
  have x2 := x1 (by omega)
  have hB1 : w.heap.size + 2 ≤ B0 := by omega
  have hB2 : B0 ≤ w1.heap.size := by omega
  clear hg1 hg2 x1 hB0 hsz0 hlo0
  by_cases e0 : x = 0
  · subst e0
    obtain ⟨gh, rfl, hgh1, hgh2, hcc, hff⟩ := o.1.at_ (by omega)
    have HBX := Lib.hid bx.drew
    have HBZ := Lib.hid bz.drew
    have HO := Lib.hid o.drew
    have HG := Lib.hid (only_drewN hg 1)
    have HR := Lib.hid hr2.drew
    obtain ⟨kb0, kb1, kb2, kb3⟩ := bx.four
    have kbf := bx.frozen
    obtain ⟨kz0, kz1, kz2, kz3⟩ := bz.four
    have kzf := bz.frozen
    clear o bx bz hg hr2 hcc
    go_wp2_with fail
    go_region_held3 (fun w' => w'.cell? ⟨w.heap.size, 1, none⟩ = some (.slice (some ⟨gh, 0, none⟩) 9 c3))
      (first | exact (bx4.other (p := ⟨gh, J, none⟩) (by simp only []; omega) _).four.2.1 | exact bx4.four.2.1 | exact bx3.four.2.1 | exact HBX.out.four.2.1)
      ((first
        | (go_at_call 46; refine (pick_c g (m + 1) _ _ (by first | exact HR.out) (by omega)).mono ?_; rintro e' w3 ⟨j, rfl, j0, j1, hr3, hg3⟩; have bx3 := BoxAt.grown HBX.out hg3 (fun k hk => by injection hk with hk; omega); have j2 := j1 (by omega); obtain ⟨J, rfl⟩ := Int.eq_ofNat_of_zero_le j0; have hJ : J < 9 := (by omega); have hJ0 : (0 : Int) ≤ (J : Int) := Int.natCast_nonneg _; have hJ1 : (J : Int) < 9 := (by omega); clear j1)
        | (go_at_call 106; refine (l91Number_c g (m + 2) _ hr3 (by omega)).mono ?_; rintro e' w4 ⟨v, rfl, hr4, hg4⟩; have bx4 := bx3.grown hg4 (fun k hk => by injection hk with hk; omega); have o4 := (TwoO.grown HO.out hg3 (fun k hk => by injection hk with hk; omega)).grown hg4 (fun k hk => by injection hk with hk; omega); obtain ⟨_, hq, -, -, hcc4, hff4⟩ := o4.1.at_ (by omega); injection hq with hq; injection hq with hq; subst hq; have hc4 := hcc4 J hJ; clear hcc4)))
    have bz4 := (HBZ.out.grown hg3 (fun k hk => by injection hk with hk; omega)).grown hg4 (fun k hk => by injection hk with hk; omega)
    have st := o4.1.stored J v
    have hr5 := hr4.grown st.2 (fun k hk => by injection hk with hk; omega)
    have hg7 : w.grownBy (w4.setCell ⟨gh, J, none⟩ (.int .i64 v)) (some g) := grown_only (only_trans (only_trans HG.out hg3) hg4) (one_only w4 gh J (.int .i64 v)) (by omega)
    have hne1 : ¬ gh = w.heap.size := by omega
    have hne2 : ¬ w.heap.size = gh := by omega
    have hne3 : ¬ gh = w.heap.size + 1 := by omega
    have hne4 : ¬ w.heap.size + 1 = gh := by omega
    have two : TwoR (w4.setCell ⟨gh, J, none⟩ (.int .i64 v)) B0 w1.heap.size (h.set J v) b (some ⟨gh, 0, none⟩) 9 c3 A4 6 c4 := ⟨st.1.read, (o4.2.1.other st.2 (fun b hb => o4.2.2 b hb)).read, o4.1.cap, o4.2.1.cap⟩
    clear kb0 kb1 kb2 kb3 kbf kz0 kz1 kz2 kz3 kzf
    obtain ⟨kb0, kb1, kb2, kb3⟩ := bx4.four
    have kbf := bx4.frozen
    obtain ⟨kz0, kz1, kz2, kz3⟩ := bz4.four
    have kzf := bz4.frozen
    clear st hg3 hg4 hr3 hr4
    have hfin : SPkt g (m + 8) w (.returned (.agg #[.int .i64 e, .slice (some ⟨gh, 0, none⟩) 9 c3, .int .i64 t, .slice A4 6 c4])) (((((w4.setCell ⟨gh, J, none⟩ (.int .i64 v)).setCell ⟨w.heap.size + 1, 0, none⟩ (.int .i64 e)).setCell ⟨w.heap.size + 1, 1, none⟩ (.slice (some ⟨gh, 0, none⟩) 9 c3)).setCell ⟨w.heap.size + 1, 2, none⟩ (.int .i64 t)).setCell ⟨w.heap.size + 1, 3, none⟩ (.slice A4 6 c4)) := spoilt_end (P := ⟨e, h.set J v, t, b⟩) two (by omega) (by omega) (by omega) (hr5.mono (by omega)) hglt (hg7)
    have HFIN := Lib.hid hfin
    clear hfin
    clear o4 bx4 bx3 bz4 hg7 hr5 two
    go_wp2_with fail
    refine bodyPost_ret (v := .agg #[.int .i64 e, .slice (some ⟨gh, 0, none⟩) 9 c3, .int .i64 t, .slice A4 6 c4]) (by simp [results, Try.results63, go_sem, kz0, kz1, kz2, kz3]) rfl ?_
    exact HFIN.out
  have f0 : (x == 0) = false := by simpa using e0
  by_cases e1 : x = 1
  · subst e1
    clear e0
    obtain ⟨gh, rfl, hgh1, hgh2, hcc, hff⟩ := o.2.1.at_ (by omega)
    have HBX := Lib.hid bx.drew
    have HBZ := Lib.hid bz.drew
    have HO := Lib.hid o.drew
    have HG := Lib.hid (only_drewN hg 1)
    have HR := Lib.hid hr2.drew
    obtain ⟨kb0, kb1, kb2, kb3⟩ := bx.four
    have kbf := bx.frozen
    obtain ⟨kz0, kz1, kz2, kz3⟩ := bz.four
    have kzf := bz.frozen
    clear o bx bz hg hr2 hcc
    go_wp2_with fail
    go_region_held3 (fun w' => w'.cell? ⟨w.heap.size, 3, none⟩ = some (.slice (some ⟨gh, 0, none⟩) 6 c4))
      (first | exact (bx4.other (p := ⟨gh, J, none⟩) (by simp only []; omega) _).four.2.2.2 | exact bx4.four.2.2.2 | exact bx3.four.2.2.2 | exact HBX.out.four.2.2.2)
      ((first
        | (go_at_call 46; refine (pick_c g (m + 1) _ _ (by first | exact HR.out) (by omega)).mono ?_; rintro e' w3 ⟨j, rfl, j0, j1, hr3, hg3⟩; have bx3 := BoxAt.grown HBX.out hg3 (fun k hk => by injection hk with hk; omega); have j2 := j1 (by omega); obtain ⟨J, rfl⟩ := Int.eq_ofNat_of_zero_le j0; have hJ : J < 6 := (by omega); have hJ0 : (0 : Int) ≤ (J : Int) := Int.natCast_nonneg _; have hJ1 : (J : Int) < 6 := (by omega); clear j1)
        | (go_at_call 106; refine (l91Number_c g (m + 2) _ hr3 (by omega)).mono ?_; rintro e' w4 ⟨v, rfl, hr4, hg4⟩; have bx4 := bx3.grown hg4 (fun k hk => by injection hk with hk; omega); have o4 := (TwoO.grown HO.out hg3 (fun k hk => by injection hk with hk; omega)).grown hg4 (fun k hk => by injection hk with hk; omega); obtain ⟨_, hq, -, -, hcc4, hff4⟩ := o4.2.1.at_ (by omega); injection hq with hq; injection hq with hq; subst hq; have hc4 := hcc4 J hJ; clear hcc4)))
    have bz4 := (HBZ.out.grown hg3 (fun k hk => by injection hk with hk; omega)).grown hg4 (fun k hk => by injection hk with hk; omega)
    have st := o4.2.1.stored J v
    have hr5 := hr4.grown st.2 (fun k hk => by injection hk with hk; omega)
    have hg7 : w.grownBy (w4.setCell ⟨gh, J, none⟩ (.int .i64 v)) (some g) := grown_only (only_trans (only_trans HG.out hg3) hg4) (one_only w4 gh J (.int .i64 v)) (by omega)
    have hne1 : ¬ gh = w.heap.size := by omega
    have hne2 : ¬ w.heap.size = gh := by omega
    have hne3 : ¬ gh = w.heap.size + 1 := by omega
    have hne4 : ¬ w.heap.size + 1 = gh := by omega
    have two : TwoR (w4.setCell ⟨gh, J, none⟩ (.int .i64 v)) B0 w1.heap.size h (b.set J v) A3 9 c3 (some ⟨gh, 0, none⟩) 6 c4 := ⟨(o4.1.other st.2 (fun b hb he => o4.2.2 b he hb)).read, st.1.read, o4.1.cap, o4.2.1.cap⟩
    clear kb0 kb1 kb2 kb3 kbf kz0 kz1 kz2 kz3 kzf
    obtain ⟨kb0, kb1, kb2, kb3⟩ := bx4.four
    have kbf := bx4.frozen
    obtain ⟨kz0, kz1, kz2, kz3⟩ := bz4.four
    have kzf := bz4.frozen
    clear st hg3 hg4 hr3 hr4
    have hfin : SPkt g (m + 8) w (.returned (.agg #[.int .i64 e, .slice A3 9 c3, .int .i64 t, .slice (some ⟨gh, 0, none⟩) 6 c4])) (((((w4.setCell ⟨gh, J, none⟩ (.int .i64 v)).setCell ⟨w.heap.size + 1, 0, none⟩ (.int .i64 e)).setCell ⟨w.heap.size + 1, 1, none⟩ (.slice A3 9 c3)).setCell ⟨w.heap.size + 1, 2, none⟩ (.int .i64 t)).setCell ⟨w.heap.size + 1, 3, none⟩ (.slice (some ⟨gh, 0, none⟩) 6 c4)) := spoilt_end (P := ⟨e, h, t, b.set J v⟩) two (by omega) (by omega) (by omega) (hr5.mono (by omega)) hglt (hg7)
    have HFIN := Lib.hid hfin
    clear hfin
    clear o4 bx4 bx3 bz4 hg7 hr5 two
    go_wp2_with fail
    refine bodyPost_ret (v := .agg #[.int .i64 e, .slice A3 9 c3, .int .i64 t, .slice (some ⟨gh, 0, none⟩) 6 c4]) (by simp [results, Try.results63, go_sem, kz0, kz1, kz2, kz3]) rfl ?_
    exact HFIN.out
  have f1 : (x == 1) = false := by simpa using e1
  by_cases e2 : x = 2
  · subst e2
    clear e0 e1
    go_wp2_with fail
    refine (l91Number_c g (m + 1) _ hr2 (by omega)).mono ?_
    rintro e' w3 ⟨v, rfl, hr3, hg3⟩
    replace bx := bx.grown hg3 (fun k hk => by injection hk with hk; omega)
    replace bz := bz.grown hg3 (fun k hk => by injection hk with hk; omega)
    replace o := o.grown hg3 (fun k hk => by injection hk with hk; omega)
    replace hg := only_trans hg hg3
    obtain ⟨kb0, kb1, kb2, kb3⟩ := bx.four
    have kbf := bx.frozen
    obtain ⟨kz0, kz1, kz2, kz3⟩ := bz.four
    have kzf := bz.frozen
    clear hg3 hr2
    have hfin : SPkt g (m + 8) w (.returned (.agg #[.int .i64 e, .slice A3 9 c3, .int .i64 v, .slice A4 6 c4])) (((((w3.setCell ⟨w.heap.size, 2, none⟩ (.int .i64 v)).setCell ⟨w.heap.size + 1, 0, none⟩ (.int .i64 e)).setCell ⟨w.heap.size + 1, 1, none⟩ (.slice A3 9 c3)).setCell ⟨w.heap.size + 1, 2, none⟩ (.int .i64 v)).setCell ⟨w.heap.size + 1, 3, none⟩ (.slice A4 6 c4)) := spoilt_end (P := ⟨e, h, v, b⟩) (o.read.only (one_only w3 w.heap.size 2 (.int .i64 v)) (.inr (by omega))) (by omega) (by omega) (by omega) ((hr3.only (one_only w3 w.heap.size 2 (.int .i64 v)) (by omega)).mono (by omega)) hglt (grown_only hg (one_only w3 w.heap.size 2 (.int .i64 v)) (Nat.le_refl _))
    have HFIN := Lib.hid hfin
    clear hfin
    clear o bx bz hg hr3
    go_wp2_with fail
    refine bodyPost_ret (v := .agg #[.int .i64 e, .slice A3 9 c3, .int .i64 v, .slice A4 6 c4]) (by simp [results, Try.results63, go_sem, kz0, kz1, kz2, kz3]) rfl ?_
    exact HFIN.out
  have f2 : (x == 2) = false := by simpa using e2
  by_cases e3 : x = 3
  · subst e3
    clear e0 e1 e2
    go_wp2_with fail
    refine (l91Is_c g (m + 1) _ hr2 (by omega)).mono ?_
    rintro e' w3 ⟨v, rfl, hr3, hg3⟩
    replace bx := bx.grown hg3 (fun k hk => by injection hk with hk; omega)
    replace bz := bz.grown hg3 (fun k hk => by injection hk with hk; omega)
    replace o := o.grown hg3 (fun k hk => by injection hk with hk; omega)
    replace hg := only_trans hg hg3
    obtain ⟨kb0, kb1, kb2, kb3⟩ := bx.four
    have kbf := bx.frozen
    obtain ⟨kz0, kz1, kz2, kz3⟩ := bz.four
    have kzf := bz.frozen
    clear hg3 hr2
    have hfin : SPkt g (m + 8) w (.returned (.agg #[.int .i64 v, .slice A3 9 c3, .int .i64 t, .slice A4 6 c4])) (((((w3.setCell ⟨w.heap.size, 0, none⟩ (.int .i64 v)).setCell ⟨w.heap.size + 1, 0, none⟩ (.int .i64 v)).setCell ⟨w.heap.size + 1, 1, none⟩ (.slice A3 9 c3)).setCell ⟨w.heap.size + 1, 2, none⟩ (.int .i64 t)).setCell ⟨w.heap.size + 1, 3, none⟩ (.slice A4 6 c4)) := spoilt_end (P := ⟨v, h, t, b⟩) (o.read.only (one_only w3 w.heap.size 0 (.int .i64 v)) (.inr (by omega))) (by omega) (by omega) (by omega) ((hr3.only (one_only w3 w.heap.size 0 (.int .i64 v)) (by omega)).mono (by omega)) hglt (grown_only hg (one_only w3 w.heap.size 0 (.int .i64 v)) (Nat.le_refl _))
    have HFIN := Lib.hid hfin
    clear hfin
    clear o bx bz hg hr3
    go_wp2_with fail
    refine bodyPost_ret (v := .agg #[.int .i64 v, .slice A3 9 c3, .int .i64 t, .slice A4 6 c4]) (by simp [results, Try.results63, go_sem, kz0, kz1, kz2, kz3]) rfl ?_
    exact HFIN.out
  have f3 : (x == 3) = false := by simpa using e3
  by_cases e4 : x = 4
  · subst e4
    clear e0 e1 e2 e3
    have hrow := fun k (hk : Value.ownBlock (.slice A3 9 c3) = some k) => o.1.block hk
    obtain ⟨kb0, kb1, kb2, kb3⟩ := bx.four
    have kbf := bx.frozen
    obtain ⟨kz0, kz1, kz2, kz3⟩ := bz.four
    have kzf := bz.frozen
    go_wp2_with (at_builtin; go_must (refine wpList_append_one w2 rfl _ _ 23 rfl 3 i0 Try.underlying23 hi0 hz0 hz1 hz2 _ _ 9 c3 A3 h 1 rfl rfl o.1 (by omega) (by omega) ?_))
    intro A5 c5 w3 o5 hg5
    have hsa : (w2.alloc (.cells #[.int .i64 1] 3)).heap.size = w2.heap.size + 1 := by simp
    have ob5 := (o.2.1.alloc (.cells #[.int .i64 1] 3)).other hg5 (fun b hb => o.2.2 b hb)
    have bx5 := (bx.alloc (.cells #[.int .i64 1] 3)).grown hg5 (fun k hk => by have := hrow k hk; omega)
    have bz5 := (bz.alloc (.cells #[.int .i64 1] 3)).grown hg5 (fun k hk => by have := hrow k hk; omega)
    have hr5 := (hr2.below ((Below.refl w2.heap.size w2).alloc (Nat.le_refl _) (.cells #[.int .i64 1] 3)) hr2.lt).grown hg5 (fun k hk => by have := hrow k hk; omega)
    have hg7 : w.grownBy w3 (some g) := grown_only (only_below hg ((Below.refl w2.heap.size w2).alloc (Nat.le_refl _) (.cells #[.int .i64 1] 3))) (Only.of_grown hg5 (fun k hk => by have := hrow k hk; exact ⟨this.1, this.2⟩)) (by omega)
    have hz5 := hg5.size
    clear kb0 kb1 kb2 kb3 kbf kz0 kz1 kz2 kz3 kzf
    obtain ⟨kb0, kb1, kb2, kb3⟩ := bx5.four
    have kbf := bx5.frozen
    obtain ⟨kz0, kz1, kz2, kz3⟩ := bz5.four
    have kzf := bz5.frozen
    clear hg5 hr2 hrow
    have hfin : SPkt g (m + 8) w (.returned (.agg #[.int .i64 e, .slice A5 10 c5, .int .i64 t, .slice A4 6 c4])) (((((w3.setCell ⟨w.heap.size, 1, none⟩ (.slice A5 10 c5)).setCell ⟨w.heap.size + 1, 0, none⟩ (.int .i64 e)).setCell ⟨w.heap.size + 1, 1, none⟩ (.slice A5 10 c5)).setCell ⟨w.heap.size + 1, 2, none⟩ (.int .i64 t)).setCell ⟨w.heap.size + 1, 3, none⟩ (.slice A4 6 c4)) := spoilt_end (P := ⟨e, h ++ [1], t, b⟩) ((show TwoR w3 B0 w3.heap.size (h ++ [1]) b A5 10 c5 A4 6 c4 from ⟨o5.read, ob5.read.wider (Nat.le_refl _) (by omega) (Nat.le_refl _), o5.cap, ob5.cap⟩).only (one_only w3 w.heap.size 1 (.slice A5 10 c5)) (.inr (by omega))) (by omega) (by omega) (by omega) ((hr5.only (one_only w3 w.heap.size 1 (.slice A5 10 c5)) (by omega)).mono (by omega)) hglt (grown_only hg7 (one_only w3 w.heap.size 1 (.slice A5 10 c5)) (Nat.le_refl _))
    have HFIN := Lib.hid hfin
    clear hfin
    clear o bx bz hg bx5 bz5 o5 ob5 hr5 hg7
    go_wp2_with fail
    refine bodyPost_ret (v := .agg #[.int .i64 e, .slice A5 10 c5, .int .i64 t, .slice A4 6 c4]) (by simp [results, Try.results63, go_sem, kz0, kz1, kz2, kz3]) rfl ?_
    exact HFIN.out
  have f4 : (x == 4) = false := by simpa using e4
  by_cases e5 : x = 5
  · subst e5
    clear e0 e1 e2 e3 e4
    obtain ⟨gh, rfl, hgh1, hgh2, -, -⟩ := o.2.1.at_ (by omega)
    have HBX := Lib.hid bx.drew
    have HBZ := Lib.hid bz.drew
    have HO := Lib.hid o.drew
    have HG := Lib.hid (only_drewN hg 1)
    have HR := Lib.hid hr2.drew
    have hcap := o.2.1.cap
    obtain ⟨kb0, kb1, kb2, kb3⟩ := bx.four
    have kbf := bx.frozen
    obtain ⟨kz0, kz1, kz2, kz3⟩ := bz.four
    have kzf := bz.frozen
    clear o bx bz hg hr2
    go_wp2_with fail
    have ew : IntKind.i64.wrap (6 + 1) = 7 := by rfl
    go_region_with
      ((first
        | (go_at_call 46; refine (pick_c g (m + 1) 7 _ (by first | exact HR.out) (by omega)).mono ?_; rintro e' w3 ⟨j, rfl, j0, j1, hr3, hg3⟩; have bx3 := BoxAt.grown HBX.out hg3 (fun k hk => by injection hk with hk; omega); have j2 := j1 (by omega); obtain ⟨J, rfl⟩ := Int.eq_ofNat_of_zero_le j0; have hJ : J ≤ 6 := (by omega); have hJ0 : (0 : Int) ≤ (J : Int) := Int.natCast_nonneg _; have hJ1 : (J : Int) ≤ (c4 : Int) := (by omega); have fr3 := bx3.frozen; have cb3 := bx3.four.2.2.2; clear j1)))
    all_goals (
      have o3 := HO.out.grown hg3 (fun k hk => by injection hk with hk; omega)
      have bz3 := HBZ.out.grown hg3 (fun k hk => by injection hk with hk; omega)
      have hg7 := only_trans HG.out hg3
      have two : TwoR w3 B0 w1.heap.size h (b.take J) A3 9 c3 (some ⟨gh, 0, none⟩) J c4 := ⟨o3.1.read, o3.2.1.read.take_ hJ, o3.1.cap, by omega⟩
      clear kb0 kb1 kb2 kb3 kbf kz0 kz1 kz2 kz3 kzf cb3 fr3
      obtain ⟨kb0, kb1, kb2, kb3⟩ := bx3.four
      have kbf := bx3.frozen
      obtain ⟨kz0, kz1, kz2, kz3⟩ := bz3.four
      have kzf := bz3.frozen
      clear hg3
      have hfin : SPkt g (m + 8) w (.returned (.agg #[.int .i64 e, .slice A3 9 c3, .int .i64 t, .slice (some ⟨gh, 0, none⟩) J c4])) (((((w3.setCell ⟨w.heap.size, 3, none⟩ (.slice (some ⟨gh, 0, none⟩) J c4)).setCell ⟨w.heap.size + 1, 0, none⟩ (.int .i64 e)).setCell ⟨w.heap.size + 1, 1, none⟩ (.slice A3 9 c3)).setCell ⟨w.heap.size + 1, 2, none⟩ (.int .i64 t)).setCell ⟨w.heap.size + 1, 3, none⟩ (.slice (some ⟨gh, 0, none⟩) J c4)) := spoilt_end (P := ⟨e, h, t, b.take J⟩) (two.only (one_only w3 w.heap.size 3 (.slice (some ⟨gh, 0, none⟩) J c4)) (.inr (by omega))) (by omega) (by omega) (by omega) ((hr3.only (one_only w3 w.heap.size 3 (.slice (some ⟨gh, 0, none⟩) J c4)) (by omega)).mono (by omega)) hglt (grown_only hg7 (one_only w3 w.heap.size 3 (.slice (some ⟨gh, 0, none⟩) J c4)) (Nat.le_refl _))
      have HFIN := Lib.hid hfin
      clear hfin
      clear o3 bx3 bz3 hg7 two hr3
      go_wp2_with fail
      refine bodyPost_ret (v := .agg #[.int .i64 e, .slice A3 9 c3, .int .i64 t, .slice (some ⟨gh, 0, none⟩) J c4]) (by simp [results, Try.results63, go_sem, kz0, kz1, kz2, kz3]) rfl ?_
      exact HFIN.out)
  have f5 : (x == 5) = false := by simpa using e5
  clear e0 e1 e2 e3 e4 e5
  obtain ⟨kb0, kb1, kb2, kb3⟩ := bx.four
  have kbf := bx.frozen
  obtain ⟨kz0, kz1, kz2, kz3⟩ := bz.four
  have kzf := bz.frozen
  have hfin : SPkt g (m + 8) w (.returned (.agg #[.int .i64 e, .slice A3 9 c3, .int .i64 t, .slice A4 6 c4])) ((((w2.setCell ⟨w.heap.size + 1, 0, none⟩ (.int .i64 e)).setCell ⟨w.heap.size + 1, 1, none⟩ (.slice A3 9 c3)).setCell ⟨w.heap.size + 1, 2, none⟩ (.int .i64 t)).setCell ⟨w.heap.size + 1, 3, none⟩ (.slice A4 6 c4)) := spoilt_end (P := ⟨e, h, t, b⟩) o.read (by omega) (by omega) (by omega) (hr2.mono (by omega)) hglt (hg)
  have HFIN := Lib.hid hfin
  clear hfin
  clear o bx bz hg hr2
  go_wp2_with fail
  refine bodyPost_ret (v := .agg #[.int .i64 e, .slice A3 9 c3, .int .i64 t, .slice A4 6 c4]) (by simp [results, Try.results63, go_sem, kz0, kz1, kz2, kz3]) rfl ?_
  exact HFIN.out
/-- A drawn secret and a drawn packet. -/
def PeelDraw (w : World) (e : Ending) (w' : World) : Prop :=
  ∃ (s : Int) (P : Pkt) (A : Option Addr) (n c : Nat) (A2 : Option Addr) (n2 c2 : Nat), e = .returned (.tuple #[.int .i64 s, .agg #[.int .i64 P.e, .slice A n c, .int .i64 P.t, .slice A2 n2 c2]]) ∧ TwoR w' w.heap.size w'.heap.size P.h P.b A n c A2 n2 c2 ∧ n ≤ 10 ∧ n2 ≤ 6 ∧ Below w.heap.size w w'
set_option maxRecDepth 100000 in
set_option maxHeartbeats 3200000 in
theorem drawPacketPeel_c (A : Option Addr) (n c : Nat) (xs : List Int) (w : World) (h : SlR .u8 w 0 w.heap.size A n xs) (hb : ∀ x ∈ xs, 0 ≤ x ∧ x ≤ 255) (hc : n ≤ c) (hc2 : c ≤ 9223372036854775807) : Calls Try.prog 25 #[.slice A n c] w (PeelDraw w) := by
  have h0 := (h.alloc (.cells #[.int .i64 0, .slice none 0 0, .int .i64 0, .slice none 0 0] 42)).wider (Nat.le_refl _) (hi' := (w.alloc (.cells #[.int .i64 0, .slice none 0 0, .int .i64 0, .slice none 0 0] 42)).heap.size) (by simp) (Nat.le_refl _)
  have bz := BoxAt.new w #[.int .i64 0, .slice none 0 0, .int .i64 0, .slice none 0 0] 42
  have hB0 : Below w.heap.size w (w.alloc (.cells #[.int .i64 0, .slice none 0 0, .int .i64 0, .slice none 0 0] 42)) := (Below.refl w.heap.size w).alloc (Nat.le_refl _) _
  have hz0 : w.heap.size + 1 ≤ (w.alloc (.cells #[.int .i64 0, .slice none 0 0, .int .i64 0, .slice none 0 0] 42)).heap.size := by simp
  clear h
  go_enter Try.func25, Try.ntmps25
  go_wp2_with fail
  refine (l6Open_c A n c xs _ h0 hb hc hc2).mono ?_
  rintro e w_1 ⟨rfl, hr, hB⟩
  replace bz := bz.below hB (by omega)
  replace hB := hB0.trans (hB.mono hB0.size)
  obtain ⟨g, hg⟩ : ∃ g, g = (w.alloc (.cells #[.int .i64 0, .slice none 0 0, .int .i64 0, .slice none 0 0] 42)).heap.size := ⟨_, rfl⟩
  rw [← hg] at hr hz0 ⊢
  have hlt := hr.lt
  clear h0 hB0 hg
  go_wp2_with fail
  refine (l91Good_c g 0 _ hr (by omega)).mono ?_
  rintro e w_2 ⟨s, rfl, hs, hr2, hg2⟩
  replace hB := hB.grown hg2 hB.size (fun k hk => by injection hk with hk; omega)
  replace bz := bz.grown hg2 (fun k hk => by injection hk with hk; omega)
  have HS := Lib.hid hs
  have z2 := hg2.size
  clear hr hg2 hs
  go_wp2_with fail
  refine (l91Packet_c g 2 s _ hr2 (by omega) HS.out).mono ?_
  rintro e w_3 ⟨P0, A1, n1, c1, A2, n2, c2, rfl, hv, two0, hr3, hg3⟩
  replace hB := hB.grown hg3 hB.size (fun k hk => by injection hk with hk; omega)
  replace bz := bz.grown hg3 (fun k hk => by injection hk with hk; omega)
  have z3 := hg3.size
  obtain ⟨_, _, hq9, _, hq6, _⟩ := validB_iff.1 hv
  have hnp : n1 = 9 ∧ n2 = 6 := by have := two0.len; omega
  obtain ⟨rfl, rfl⟩ := hnp
  clear hr2 hg3 hv hq9 hq6
  go_wp2_with fail
  refine (l91Spoilt_c g 32 _ _ _ _ _ _ _ _ _ _ _ hr3 (by omega) two0).mono ?_
  rintro e w_4 ⟨P, A3, n3, c3, A4, n4, c4, rfl, two1, bn3, bn4, hr4, hg4⟩
  have z4 := hg4.size
  have hB4 := hB.grown hg4 hB.size (fun k hk => by injection hk with hk; omega)
  have bz4 := bz.grown hg4 (fun k hk => by injection hk with hk; omega)
  have two4 := two1.alloc (.cells #[.int .i64 P.e, .slice A3 n3 c3, .int .i64 P.t, .slice A4 n4 c4] 42)
  have hB5 := hB4.alloc hB4.size (.cells #[.int .i64 P.e, .slice A3 n3 c3, .int .i64 P.t, .slice A4 n4 c4] 42)
  have bz5 := bz4.alloc (.cells #[.int .i64 P.e, .slice A3 n3 c3, .int .i64 P.t, .slice A4 n4 c4] 42)
  have hr5 := hr4.below ((Below.refl w_4.heap.size w_4).alloc (Nat.le_refl _) (.cells #[.int .i64 P.e, .slice A3 n3 c3, .int .i64 P.t, .slice A4 n4 c4] 42)) hr4.lt
  have box4 := BoxAt.new w_4 #[.int .i64 P.e, .slice A3 n3 c3, .int .i64 P.t, .slice A4 n4 c4] 42
  have hzz : w_4.heap.size + 1 ≤ (w_4.alloc (.cells #[.int .i64 P.e, .slice A3 n3 c3, .int .i64 P.t, .slice A4 n4 c4] 42)).heap.size := by simp
  have hlo : w.heap.size + 1 ≤ w_3.heap.size := by omega
  clear hB bz hr3 hg4 two0 two1 hr4 hB4 bz4
  go_wp2_with fail
  refine (pick_c g 40 _ _ hr5 (by omega)).mono ?_
  rintro e w_5 ⟨x, rfl, x0, x1, hr6, hg6⟩
  have hB := hB5.grown hg6 hB5.size (fun k hk => by injection hk with hk; omega)
  have bz := bz5.grown hg6 (fun k hk => by injection hk with hk; omega)
  have two := two4.grown hg6 (fun k hk => by injection hk with hk; omega)
  have box_q := box4.grown hg6 (fun k hk => by injection hk with hk; omega)
  have hr := hr6
  obtain ⟨q, hq⟩ : ∃ q, q = w_4.heap.size := ⟨_, rfl⟩
  have hqw : w.heap.size < q := by omega
  have hqg : g < q := by omega
  have z6 := hg6.size
  rw [← hq] at box_q two ⊢
  clear hB5 bz5 two4 box4 hr5 hr6 hg6 hq x1
  by_cases e0 : x = 0
  · subst e0
    go_wp2_with fail
    refine (l91Is_c g 41 _ hr (by omega)).mono ?_
    rintro e w_6 ⟨s', rfl, hr', hg6⟩
    replace hB := hB.grown hg6 hB.size (fun k hk => by injection hk with hk; omega)
    replace bz := bz.grown hg6 (fun k hk => by injection hk with hk; omega)
    replace two := two.grown hg6 (fun k hk => by injection hk with hk; omega)
    replace box_q := box_q.grown hg6 (fun k hk => by injection hk with hk; omega)
    have z7 := hg6.size
    clear hr hg6
    have hr := hr'
    have bxx := box_q.drew
    have HBXX := Lib.hid bxx.four
    have HO0 := Lib.hid (only_d w_6 w.heap.size (w.heap.size + 1))
    have HO4 := Lib.hid ((set4_only w_6 w.heap.size (.int .i64 P.e) (.slice A3 n3 c3) (.int .i64 P.t) (.slice A4 n4 c4)).trans (only_d _ _ _))
    obtain ⟨kb0, kb1, kb2, kb3⟩ := box_q.four
    obtain ⟨kz0, kz1, kz2, kz3⟩ := bz.four
    have kzf := bz.frozen
    have hfin : PeelDraw w (.returned (.tuple #[.int .i64 s', .agg #[.int .i64 P.e, .slice A3 n3 c3, .int .i64 P.t, .slice A4 n4 c4]])) ((((w_6.setCell ⟨w.heap.size, 0, none⟩ (.int .i64 P.e)).setCell ⟨w.heap.size, 1, none⟩ (.slice A3 n3 c3)).setCell ⟨w.heap.size, 2, none⟩ (.int .i64 P.t)).setCell ⟨w.heap.size, 3, none⟩ (.slice A4 n4 c4)).drew := by
      refine ⟨s', P, A3, n3, c3, A4, n4, c4, rfl, ((set4_twoR two (by omega) _ _ _ _).drew).wider (by omega) ?_ (Nat.le_refl _), bn3, bn4, (Below.only hB (set4_only _ _ _ _ _ _) hB.size (Nat.le_refl _)).drew⟩
      show _ ≤ (((((w_6.setCell ⟨w.heap.size, 0, none⟩ (.int .i64 P.e)).setCell ⟨w.heap.size, 1, none⟩ (.slice A3 n3 c3)).setCell ⟨w.heap.size, 2, none⟩ (.int .i64 P.t)).setCell ⟨w.heap.size, 3, none⟩ (.slice A4 n4 c4))).heap.size
      rw [set4_sz]; exact two.hi_le
    have HFIN := Lib.hid hfin
    have hqn : ¬ q = w.heap.size := by omega
    have hqn2 : ¬ w.heap.size = q := by omega
    have k6 : ∀ w', Only w.heap.size (w.heap.size + 1) w_6 w' → w'.cell? ⟨q, 0, none⟩ = some (.int .i64 P.e) ∧ w'.cell? ⟨q, 1, none⟩ = some (.slice A3 n3 c3) ∧ w'.cell? ⟨q, 2, none⟩ = some (.int .i64 P.t) ∧ w'.cell? ⟨q, 3, none⟩ = some (.slice A4 n4 c4) := fun w' ho => (box_q.only ho (.inr (by omega))).four
    have HK6 := Lib.hid k6
    clear hfin bxx two hB bz box_q hr k6
    go_wp2_with fail
    go_region_held3 (fun w' => w'.cell? ⟨q, 0, none⟩ = some (.int .i64 P.e) ∧ w'.cell? ⟨q, 1, none⟩ = some (.slice A3 n3 c3) ∧ w'.cell? ⟨q, 2, none⟩ = some (.int .i64 P.t) ∧ w'.cell? ⟨q, 3, none⟩ = some (.slice A4 n4 c4))
      (exact HK6.out _ (by first | with_reducible exact HO0.out | with_reducible exact HO4.out | with_reducible exact set4_only _ _ _ _ _ _))
      (fail)
    go_wp2_with fail
    refine bodyPost_ret (v := .tuple #[.int .i64 s', .agg #[.int .i64 P.e, .slice A3 n3 c3, .int .i64 P.t, .slice A4 n4 c4]]) (by simp [results, Try.results25, go_sem, kz0, kz1, kz2, kz3]) rfl ?_
    exact HFIN.out
  · have hb0 : (x == 0) = false := by simpa using e0
    clear e0
    have bxx := box_q.drew
    have HBXX := Lib.hid bxx.four
    have HO0 := Lib.hid (only_d w_5 w.heap.size (w.heap.size + 1))
    have HO4 := Lib.hid ((set4_only w_5 w.heap.size (.int .i64 P.e) (.slice A3 n3 c3) (.int .i64 P.t) (.slice A4 n4 c4)).trans (only_d _ _ _))
    obtain ⟨kb0, kb1, kb2, kb3⟩ := box_q.four
    obtain ⟨kz0, kz1, kz2, kz3⟩ := bz.four
    have kzf := bz.frozen
    have hfin : PeelDraw w (.returned (.tuple #[.int .i64 s, .agg #[.int .i64 P.e, .slice A3 n3 c3, .int .i64 P.t, .slice A4 n4 c4]])) ((((w_5.setCell ⟨w.heap.size, 0, none⟩ (.int .i64 P.e)).setCell ⟨w.heap.size, 1, none⟩ (.slice A3 n3 c3)).setCell ⟨w.heap.size, 2, none⟩ (.int .i64 P.t)).setCell ⟨w.heap.size, 3, none⟩ (.slice A4 n4 c4)).drew := by
      refine ⟨s, P, A3, n3, c3, A4, n4, c4, rfl, ((set4_twoR two (by omega) _ _ _ _).drew).wider (by omega) ?_ (Nat.le_refl _), bn3, bn4, (Below.only hB (set4_only _ _ _ _ _ _) hB.size (Nat.le_refl _)).drew⟩
      show _ ≤ (((((w_5.setCell ⟨w.heap.size, 0, none⟩ (.int .i64 P.e)).setCell ⟨w.heap.size, 1, none⟩ (.slice A3 n3 c3)).setCell ⟨w.heap.size, 2, none⟩ (.int .i64 P.t)).setCell ⟨w.heap.size, 3, none⟩ (.slice A4 n4 c4))).heap.size
      rw [set4_sz]; exact two.hi_le
    have HFIN := Lib.hid hfin
    have hqn : ¬ q = w.heap.size := by omega
    have hqn2 : ¬ w.heap.size = q := by omega
    have k6 : ∀ w', Only w.heap.size (w.heap.size + 1) w_5 w' → w'.cell? ⟨q, 0, none⟩ = some (.int .i64 P.e) ∧ w'.cell? ⟨q, 1, none⟩ = some (.slice A3 n3 c3) ∧ w'.cell? ⟨q, 2, none⟩ = some (.int .i64 P.t) ∧ w'.cell? ⟨q, 3, none⟩ = some (.slice A4 n4 c4) := fun w' ho => (box_q.only ho (.inr (by omega))).four
    have HK6 := Lib.hid k6
    clear hfin bxx two hB bz box_q hr k6
    go_wp2_with fail
    go_region_held3 (fun w' => w'.cell? ⟨q, 0, none⟩ = some (.int .i64 P.e) ∧ w'.cell? ⟨q, 1, none⟩ = some (.slice A3 n3 c3) ∧ w'.cell? ⟨q, 2, none⟩ = some (.int .i64 P.t) ∧ w'.cell? ⟨q, 3, none⟩ = some (.slice A4 n4 c4))
      (exact HK6.out _ (by first | with_reducible exact HO0.out | with_reducible exact HO4.out | with_reducible exact set4_only _ _ _ _ _ _))
      (fail)
    go_wp2_with fail
    refine bodyPost_ret (v := .tuple #[.int .i64 s, .agg #[.int .i64 P.e, .slice A3 n3 c3, .int .i64 P.t, .slice A4 n4 c4]]) (by simp [results, Try.results25, go_sem, kz0, kz1, kz2, kz3]) rfl ?_
    exact HFIN.out
end Go.Proofs.Ytbkecimhbibnjaa
