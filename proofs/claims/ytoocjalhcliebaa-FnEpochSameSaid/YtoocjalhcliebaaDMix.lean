/-
  A drawn mix.
  Conditions: the reader is good.
-/
import Derived.Test.YtoocjalhcliebaaDMixV
import Derived.Deep.RegionLaw
namespace Go.Proofs.Ytoocjalhcliebaa
open Go Go.RowKit

set_option maxRecDepth 100000 in
set_option maxHeartbeats 6400000 in
theorem l91Mix_c (g m : Nat) (w : World) (h : RdOk w g m) (hm : m ≤ 1000) : Calls Try.prog 13 #[.pointer (some ⟨g, 0, none⟩)] w (DMix g (m + 700) w) := by
  obtain ⟨i0, hi0, hz0, hz1, hz2⟩ := info_parts Try.infoInt
  have hglt := h.lt
  obtain ⟨W0, hW0⟩ : ∃ W, W = w.alloc (.cells #[.int .i64 0, .slice none 0 0, .slice none 0 0] 26) := ⟨_, rfl⟩
  have hr0 : RdOk W0 g m := by rw [hW0]; exact h.below ((Below.refl w.heap.size w).alloc (Nat.le_refl _) _) hglt
  have hgw : w.grownBy W0 (some g) := by rw [hW0]; exact World.grownBy_alloc _ _ _
  have bz0 : BoxAt W0 w.heap.size #[.int .i64 0, .slice none 0 0, .slice none 0 0] 26 := by rw [hW0]; exact BoxAt.new w _ _
  have hsz0 : W0.heap.size = w.heap.size + 1 := by rw [hW0]; simp
  have HGW := Lib.hid hgw
  have HBZ := Lib.hid bz0
  have HSZ := Lib.hid hsz0
  clear h hgw bz0
  go_enter Try.func13, Try.ntmps13
  go_wp2_with fail
  rw [← hW0]
  clear hW0
  refine (l91Good_c g m _ hr0 (by omega)).mono ?_
  rintro e1 w1 ⟨s, rfl, hse, hr1, hg1⟩
  have hz1' := hg1.size
  have HSE := Lib.hid hse
  clear hse hr0
  go_wp2_with fail
  refine (sMixNew_p s _ HSE.out).mono ?_
  rintro e2 w2 ⟨A0, n0, c0, A20, n20, c20, rfl, o2, hb2⟩
  have hz2' := hb2.size
  have hmi : MixIn s g (m + 2) w2.heap.size W0 (w2.alloc (.cells #[.int .i64 s, .slice A0 n0 c0, .slice A20 n20 c20] 26)) :=
    ⟨[], [], A0, n0, c0, A20, n20, c20, w1.heap.size, w2.heap.size, BoxAt.new w2 _ _, (o2.alloc _).toP, .inr (Nat.le_refl _), hz1', mixB_iff.2 ⟨HSE.out, by simp, by simp, rfl, fun x hx => by cases hx⟩, (hr1.below hb2 hr1.lt).below ((Below.refl w2.heap.size w2).alloc (Nat.le_refl _) _) (Nat.lt_of_lt_of_le hr1.lt hz2'), only_below (only_below hg1 hb2) ((Below.refl w2.heap.size w2).alloc (Nat.le_refl _) _)⟩
  have hgm : W0.heap.size ≤ w2.heap.size := by omega
  have hg0 : g < W0.heap.size := by omega
  obtain ⟨gm, hgm'⟩ : ∃ gm, gm = w2.heap.size := ⟨_, rfl⟩
  obtain ⟨W3, hW3⟩ : ∃ W, W = (w2.alloc (.cells #[.int .i64 s, .slice A0 n0 c0, .slice A20 n20 c20] 26)) := ⟨_, rfl⟩
  rw [← hgm', ← hW3] at hmi
  rw [← hgm'] at hgm
  have HMI := Lib.hid hmi
  clear hmi o2 hr1 hg1 hb2 hz1' hz2' hsz0
  go_wp2_with fail
  rw [← hgm', ← hW3]
  clear hgm' hW3
  have hrd3 : RdOk W3 g (m + 2) := by obtain ⟨_, _, _, _, _, _, _, _, _, _, _, _, _, _, _, hr, _⟩ := HMI.out; exact hr
  refine (pick_c g (m + 2) 5 _ hrd3 (by omega)).mono ?_
  rintro e3 w3 ⟨y, rfl, hy0, hy1, hrd, hg⟩
  have hmi := HMI.out.grown hg hrd hg0 hgm
  have hy5 := hy1 (by omega)
  clear hrd3 hg HMI hy1
  have HMI := Lib.hid hmi
  clear hmi
  go_wp2_with fail
  refine (pick_c g (m + 2 + 1) 6 _ hrd (by omega)).mono ?_
  rintro e4 w4 ⟨z, rfl, hz0', hz1', hrd4, hg4⟩
  have hmi := HMI.out.grown hg4 hrd4 hg0 hgm
  clear hrd hrd4 hg4 HMI hz1' hz0'
  have HMI := Lib.hid hmi
  clear hmi
  go_upto_if 19 with (fail)
  go_cut [6] from 8 (fun v w' => ∃ N : Nat, N ≤ 14 ∧ v = .int .i64 (N : Int) ∧ MixIn s g (m + 4) gm W0 w')
  case first =>
    have hyN : ((y.toNat : Nat) : Int) = y := Int.toNat_of_nonneg hy0
    by_cases hz : z = 0
    · subst hz
      go_wp2_with fail
      go_meet
      case rel => exact ⟨14, Nat.le_refl _, rfl, HMI.out⟩
    · have hz' : (z == 0) = false := by simpa using hz
      go_wp2_with fail
      go_meet
      case rel => exact ⟨y.toNat, by omega, by rw [hyN], HMI.out⟩
  case rest =>
    obtain ⟨N, hN, rfl, hmi⟩ := hcut
    clear HMI hy0 hy5
    go_wp2_with fail
    go_loopw [7] (fun i wr => ∃ k : Nat, k ≤ N ∧ i = .int .i64 (k : Int) ∧ MixIn s g (m + 4 + 40 * k) gm W0 wr) (fun i _ => N - (intOf i).toNat)
    case atStart => exact ⟨0, Nat.zero_le _, rfl, hmi⟩
    case round =>
      obtain ⟨k, hk, rfl, hmk⟩ := hrel
      obtain ⟨wo, hwo⟩ : ∃ wo, wo = wr := ⟨wr, rfl⟩
      subst hwo
      have HMK := Lib.hid hmk
      clear hmk hmi
      by_cases hlt : k < N
      · go_upto_region 9 with (fail)
        go_cut [] from 20 to 40 (fun w' => MixIn s g (m + 4 + 40 * k + 30) gm W0 w')
        case first =>
          obtain ⟨seen, pl, A, n, c, A2, n2, c2, L, H, bx, o, hd, hL, hmx, hr, hw⟩ := HMK.out.drew
          obtain ⟨q0, q1, q2⟩ := bx.three
          have HO := Lib.hid o
          have HMX := Lib.hid hmx
          have HR := Lib.hid hr
          have HW := Lib.hid hw
          have HX := Lib.hid bx
          clear o hmx hr hw bx
          go_region_with ((first
            | (go_at_call 29; refine (l91Packet_c g _ s _ HR.out (by omega) HSE.out).mono ?_; rintro e' w5 ⟨P, B, mB, dB, B2, mB2, dB2, rfl, hvP, tP, hr2, hg2⟩; have bx2 := HX.out.grown hg2 (fun x e => by have e2 := Option.some.inj e; omega); have o2 := HO.out.grown hg2 (fun x e => by have e2 := Option.some.inj e; omega); have hw2 := only_trans HW.out hg2; have hz5 := hw2.size; obtain ⟨t0, t1, t2⟩ := bx2.three)
            | (go_at_call 28; refine (l11Take_c _ _ _ _ _ _ _ _ _ _ _ _ _ _ _ _ _ _ _ _ _ _ _ _ o2.read tP HMX.out hvP).mono ?_; rintro e' w6 ⟨code, seen3, pl3, A3, n3, c3, A4, n4, c4, rfl, o3, hm3, hb3⟩; have bx3 := bx2.below hb3 bx2.hi_le; obtain ⟨z0, z1, z2⟩ := bx3.three; have zf := bx3.frozen; have HPUT := Lib.hid (MixIn.put bx3 o3 bx2.hi_le hm3 (hr2.below hb3 hr2.lt) (only_below hw2 hb3) hg0 hgm))))
          all_goals (
            go_wp2_with fail
            go_meet
            case rel => exact HPUT.out)
        case rest =>
          go_wp2_with fail
          refine (pick_c g (m + 4 + 40 * k + 30) 6 _ hcut.rd (by omega)).mono ?_
          rintro e3 w7 ⟨y2, rfl, hy0, hy1, hrd, hg⟩
          have hmi := hcut.grown hg hrd hg0 hgm
          clear hcut hg hrd hy0 hy1 HMK
          by_cases hz : y2 = 0
          · subst hz
            obtain ⟨seen, pl, A, n, c, A2, n2, c2, L, H, bx, o, hd, hL, hmx, hr, hw⟩ := hmi
            obtain ⟨q0, q1, q2⟩ := bx.three
            have HO := Lib.hid o
            have HMX := Lib.hid hmx
            have HR := Lib.hid hr
            have HW := Lib.hid hw
            have HX := Lib.hid bx
            clear o hmx hr hw bx
            go_wp2_with fail
            refine (sMixFlush_c _ _ _ _ _ _ _ _ _ _ _ _ HO.out.read HMX.out).mono ?_
            rintro e' w8 ⟨A3, n3, c3, A4, c4, A5, n5, c5, rfl, o3, hb3⟩
            have bx3 := HX.out.below hb3 HX.out.hi_le
            obtain ⟨z0, z1, z2⟩ := bx3.three
            have zf := bx3.frozen
            have HPUT := Lib.hid (MixIn.put bx3 o3.toP HX.out.hi_le (mix_empty HMX.out) (HR.out.below hb3 HR.out.lt) (only_below HW.out hb3) hg0 hgm)
            clear bx3 o3 hb3
            go_wp2_with fail
            go_roundw
            case rel => exact ⟨k + 1, by omega, by go_num, HPUT.out.mono (by omega)⟩
            case measure => simp [intOf]; omega
          · have hz' : (y2 == 0) = false := by simpa using hz
            have HMI := Lib.hid hmi
            clear hmi
            go_wp2_with fail
            go_roundw
            case rel => exact ⟨k + 1, by omega, by go_num, HMI.out.mono (by omega)⟩
            case measure => simp [intOf]; omega
      · have hkN : k = N := by omega
        subst hkN
        have hmi := HMK.out.mono (show m + 4 + 40 * k ≤ m + 600 by omega)
        clear HMK
        go_wp2_with fail
        refine (pick_c g (m + 600) 24 _ hmi.rd (by omega)).mono ?_
        rintro e3 w7 ⟨y2, rfl, hy0, hy1, hrd, hg⟩
        have hmi2 := hmi.grown hg hrd hg0 hgm
        clear hmi hg hrd hy0 hy1
        obtain ⟨seen, pl, A, n, c, A2, n2, c2, L, H, bx, o, hd, hL, hmx, hr, hw⟩ := hmi2
        obtain ⟨_, hn12, hn5, hpb⟩ := mix_bounds hmx
        have hlen := o.len
        rw [hlen.1] at hn12
        rw [hlen.2] at hn5
        have hsz0 := HSZ.out
        have hne1 : ¬ w.heap.size = gm := by omega
        have hne2 : ¬ gm = w.heap.size := by omega
        have HX := Lib.hid bx
        have HO := Lib.hid o
        have HR := Lib.hid hr
        have HW := Lib.hid hw
        have HPB := Lib.hid hpb
        clear bx o hmx hr hw hlen hpb
        by_cases h0 : y2 = 0
        · subst h0
          go_wp2_with fail
          refine (l91Is_c g (m + 601) _ HR.out (by omega)).mono ?_
          rintro e' w8 ⟨x, rfl, hr8, hg8⟩
          have bx8 := HX.out.grown hg8 (fun x e => by have e2 := Option.some.inj e; omega)
          have o8 := HO.out.grown hg8 (fun x e => by have e2 := Option.some.inj e; omega)
          have hw8 := only_trans HW.out hg8
          have bz8 := HBZ.out.grown hw8 (fun x e => by have e2 := Option.some.inj e; omega)
          obtain ⟨q0, q1, q2⟩ := bx8.three
          have qf := bx8.frozen
          obtain ⟨z0, z1, z2⟩ := bz8.three
          have zf := bz8.frozen
          have hon := set1_only w8 gm 0 (.int .i64 x)
          have HFIN := Lib.hid (dmix_end (s := x) (m := m + 700) (o8.read.only hon (by omega)) hL (by omega) (by omega) HPB.out ((hr8.only hon (by omega)).mono (by omega)) hglt HGW.out (grown_only hw8 hon hgm) HSZ.out)
          clear bx8 o8 hw8 bz8 hon hr8 hg8
          go_wp2_with fail
          refine bodyPost_ret (v := .agg #[.int .i64 x, .slice A n c, .slice A2 n2 c2]) (by simp [results, Try.results13, go_sem, z0, z1, z2]) rfl ?_
          exact HFIN.out
        · have h0' : (y2 == 0) = false := by simpa using h0
          by_cases h1 : y2 = 1
          · subst h1
            go_wp2_with fail
            obtain ⟨q0, q1, q2⟩ := HX.out.three
            replace HX := Lib.hid HX.out.drew
            replace HO := Lib.hid HO.out.drew
            replace HR := Lib.hid (HR.out.below (Below.refl w7.heap.size w7).drew HR.out.lt)
            replace HW := Lib.hid (only_below HW.out (Below.refl w7.heap.size w7).drew)
            go_region_law (first
              | (refine step_append_sl (by rfl) _ _ 23 (by rfl) W0.heap.size 3 i0 Try.underlying23 hi0 hz0 hz1 hz2 _ n (ints seen) (by rfl) own8 _ _ 1 1 _ [x] (by rfl) rd8 (by omega) hbs8 ?_; intro v' w9 hap hg9 hat; obtain ⟨A7, c7, hv7⟩ := own_shapeK hap; subst hv7; have b9 := b8.grown hg9 (fun y e => by have := o8.1.block e; omega); obtain ⟨u0, u1, u2⟩ := b9.three; have uf := b9.frozen)
              | (go_simp; go_at_call 15; refine (l91Is_c g (m + 601) _ HR.out (by omega)).mono ?_; rintro e' w8 ⟨x, rfl, hr8, hg8⟩; have bx8 := HX.out.grown hg8 (fun x e => by have e2 := Option.some.inj e; omega); have o8 := HO.out.grown hg8 (fun x e => by have e2 := Option.some.inj e; omega); have hw8 := only_trans HW.out hg8; have b8 := bx8.alloc (.cells #[.int .i64 x] 3); obtain ⟨t0, t1, t2⟩ := bx8.three; obtain ⟨v0, v1, v2⟩ := b8.three; have own8 := owns_base (o8.1.1.alloc (.cells #[.int .i64 x] 3)) hL; have rd8 := one_read w8 x; have hbs8 : W0.heap.size ≤ (w8.alloc (.cells #[.int .i64 x] 3)).heap.size := (by have := hw8.size; simp; omega))
              | fail "no arm fits")
            all_goals (
              have hgr := fun (y : Nat) (e : Value.ownBlock (.slice A n c) = some y) => o8.1.block e
              have hon := set1_only w9 gm 1 (.slice A7 (n + 1) c7)
              have hz8 := hw8.size
              have hw8a := only_below hw8 ((Below.refl w8.heap.size w8).alloc (Nat.le_refl _) (.cells #[.int .i64 x] 3))
              have hw9 := grown_row hw8a hg9 (fun y e => by have := hgr y e; omega)
              have bz9 := HBZ.out.grown hw9 (fun x e => by have e2 := Option.some.inj e; omega)
              obtain ⟨z0, z1, z2⟩ := bz9.three
              have zf := bz9.frozen
              have hr9 := (hr8.below ((Below.refl w8.heap.size w8).alloc (Nat.le_refl _) (.cells #[.int .i64 x] 3)) hr8.lt).grown hg9 (fun y e => by have := hgr y e; omega)
              have tx := o8.seen_app hL hg9 hap hat hon hd bx8.hi_le
              have HFIN := Lib.hid (dmix_end (s := s) (m := m + 700) tx (Nat.le_refl _) (by omega) (by omega) HPB.out ((hr9.only hon (by omega)).mono (by omega)) hglt HGW.out (grown_only hw9 hon hgm) HSZ.out)
              clear hgr hon hw8a hw9 bz9 hr9 tx own8 rd8 hap hg9 hat b9 b8 bx8 o8 hr8 hg8
              go_wp2_with fail
              refine bodyPost_ret (v := .agg #[.int .i64 s, .slice A7 (n + 1) c7, .slice A2 n2 c2]) (by simp [results, Try.results13, go_sem, z0, z1, z2]) rfl ?_
              exact HFIN.out)
          · have h1' : (y2 == 1) = false := by simpa using h1
            by_cases h2 : y2 = 2
            · subst h2
              by_cases hn0 : n2 = 0
              · subst hn0
                have bz8 := HBZ.out.grown HW.out (fun x e => by have e2 := Option.some.inj e; omega)
                obtain ⟨q0, q1, q2⟩ := HX.out.three
                obtain ⟨z0, z1, z2⟩ := bz8.three
                have zf := bz8.frozen
                have HFIN := Lib.hid (dmix_end (s := s) (m := m + 700) HO.out.read hL (by omega) (by omega) HPB.out (HR.out.mono (by omega)) hglt HGW.out HW.out HSZ.out)
                clear bz8
                go_wp2_with fail
                refine bodyPost_ret (v := .agg #[.int .i64 s, .slice A n c, .slice A2 0 c2]) (by simp [results, Try.results13, go_sem, z0, z1, z2]) rfl ?_
                exact HFIN.out
              · have hpos : 0 < n2 := by omega
                obtain ⟨gp, _, _, _, _, _, _, _, _, _, rfl, _⟩ := HO.out.pool.opened hpos
                have hpI : (0 : Int) < (n2 : Int) := by omega
                obtain ⟨q0, q1, q2⟩ := HX.out.three
                go_wp2_with fail
                replace HX := Lib.hid HX.out.drew
                replace HO := Lib.hid HO.out.drew
                replace HR := Lib.hid (HR.out.below (Below.refl w7.heap.size w7).drew HR.out.lt)
                replace HW := Lib.hid (only_below HW.out (Below.refl w7.heap.size w7).drew)
                go_region_held3 (fun w' => w'.cell? ⟨gm, 2, none⟩ = some (.slice (some ⟨gp, 0, none⟩) n2 c2))
                  (first | exact HX.out.three.2.2 | exact bx9.three.2.2 | exact bx8.three.2.2 | exact (bx9.other (p := ⟨gp, _, none⟩) hgg _).three.2.2)
                  ((first
                    | (go_at_call 14; refine (pick_c g (m + 602) 10 _ hr8 (by omega)).mono ?_; rintro e' w9 ⟨y, rfl, hy0, hy1, hr9, hg9⟩; have bx9 := bx8.grown hg9 (fun x e => by have e2 := Option.some.inj e; omega); have o9 := o8.grown hg9 (fun x e => by have e2 := Option.some.inj e; omega); have hw9 := only_trans hw8 hg9; have hy10 := hy1 (by omega); obtain ⟨⟨yy, hc9⟩, hf9, hgp9, pl3, hpl3, t9⟩ := o9.next_set hk8 (y - 1) HPB.out; have hgg : gp ≠ gm := by omega)
                    | (go_at_call 14; refine (pick_c g (m + 601) (n2 : Int) _ HR.out (by omega)).mono ?_; rintro e' w8 ⟨i, rfl, hi0', hi1', hr8, hg8⟩; obtain ⟨k8, rfl⟩ := Int.eq_ofNat_of_zero_le hi0'; have hkn8 := hi1' (by omega); have hk8 : k8 < n2 := (by omega); have bx8 := HX.out.grown hg8 (fun x e => by have e2 := Option.some.inj e; omega); have o8 := HO.out.grown hg8 (fun x e => by have e2 := Option.some.inj e; omega); have hw8 := only_trans HW.out hg8)
                    | fail "no arm fits"))
                all_goals (
                  have hon := set1_only w9 gp (k8 * 6 + 1) (.int .i64 (y - 1))
                  have bz9 := HBZ.out.grown hw9 (fun x e => by have e2 := Option.some.inj e; omega)
                  have hne3 : ¬ w.heap.size = gp := by omega
                  have hne4 : ¬ gp = w.heap.size := by omega
                  have hne5 : ¬ gm = gp := by omega
                  have hne6 : ¬ gp = gm := by omega
                  obtain ⟨z0, z1, z2⟩ := bz9.three
                  have zf := bz9.frozen
                  obtain ⟨u0, u1, u2⟩ := bx9.three
                  have HFIN := Lib.hid (dmix_end (s := s) (m := m + 700) t9 hL (by omega) (by omega) hpl3 ((hr9.only hon (by omega)).mono (by omega)) hglt HGW.out (grown_only hw9 hon (by omega)) HSZ.out)
                  clear hon bz9 t9 hr9 hg9 hw9 o9 o8 bx8 bx9 hr8 hg8 hw8
                  go_wp2_with fail
                  refine bodyPost_ret (v := .agg #[.int .i64 s, .slice A n c, .slice (some ⟨gp, 0, none⟩) n2 c2]) (by simp [results, Try.results13, go_sem, z0, z1, z2]) rfl ?_
                  exact HFIN.out)
            · have h2' : (y2 == 2) = false := by simpa using h2
              have bz8 := HBZ.out.grown HW.out (fun x e => by have e2 := Option.some.inj e; omega)
              obtain ⟨q0, q1, q2⟩ := HX.out.three
              obtain ⟨z0, z1, z2⟩ := bz8.three
              have zf := bz8.frozen
              have HFIN := Lib.hid (dmix_end (s := s) (m := m + 700) HO.out.read hL (by omega) (by omega) HPB.out (HR.out.mono (by omega)) hglt HGW.out HW.out HSZ.out)
              clear bz8
              go_wp2_with fail
              refine bodyPost_ret (v := .agg #[.int .i64 s, .slice A n c, .slice A2 n2 c2]) (by simp [results, Try.results13, go_sem, z0, z1, z2]) rfl ?_
              exact HFIN.out
end Go.Proofs.Ytoocjalhcliebaa
