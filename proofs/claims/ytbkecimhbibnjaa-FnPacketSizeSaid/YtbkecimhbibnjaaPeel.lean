/-
  A packet is peeled by the program.
  Conditions: the packet's slices read as lists of whole numbers.
-/
import Derived.Test.YtbkecimhbibnjaaPeelW
namespace Go.Proofs.Ytbkecimhbibnjaa
open Go Go.RowKit

theorem only_set6 (w : World) (rb : Nat) (x0 x1 x2 x3 x4 x5 : Value) : Only rb (rb + 1) w ((((((w.setCell ⟨rb, 0, none⟩ x0).setCell ⟨rb, 1, none⟩ x1).setCell ⟨rb, 2, none⟩ x2).setCell ⟨rb, 3, none⟩ x3).setCell ⟨rb, 4, none⟩ x4).setCell ⟨rb, 5, none⟩ x5).drew := by
  have e : ∀ (u : World) (i : Nat) (x : Value), Only rb (rb + 1) u (u.setCell ⟨rb, i, none⟩ x) := fun u i x => Only.of_grown (only_set x) (fun g hg => by injection hg with hg; omega)
  have d : ∀ u : World, Only rb (rb + 1) u u.drew := fun u => Only.of_below (Below.refl _ _).drew
  exact ((((((e _ _ _).trans (e _ _ _)).trans (e _ _ _)).trans (e _ _ _)).trans (e _ _ _)).trans (e _ _ _)).trans (d _)
theorem share8 {P N : World → Nat → Option Addr → Nat → Nat → Option Addr → Nat → Nat → Prop} {G : Prop} (h1 : (∀ a b c d e f g h, N a b c d e f g h → P a b c d e f g h) → G) (h2 : ∀ a b c d e f g h, N a b c d e f g h → P a b c d e f g h) : G := h1 h2
theorem only_d (w : World) (lo hi : Nat) : Only lo hi w w.drew := Only.of_below (Below.refl _ _).drew
theorem only_cell {w w' : World} {lo hi : Nat} {p : Addr} {v : Value} (h : Only lo hi w w') (hlt : p.block < w.heap.size) (hne : p.block < lo ∨ hi ≤ p.block) (hv : w.cell? p = some v) : w'.cell? p = some v := (World.cell?_of_block (h.block _ hlt hne)).trans hv

set_option maxRecDepth 100000 in
set_option maxHeartbeats 3200000 in
theorem packetPeel_bad (s e t : Int) (A : Option Addr) (n c : Nat) (A2 : Option Addr) (n2 c2 : Nat) (lo hi : Nat) (h b : List Int) (w : World) (hs : TwoR w lo hi h b A n c A2 n2 c2) (hbad : elB s = false ∨ validB ⟨e, h, t, b⟩ = false) :
    Calls Try.prog 26 #[.int .i64 s, .agg #[.int .i64 e, .slice A n c, .int .i64 t, .slice A2 n2 c2]] w (NewPeel zeroPeel false w) := by
  have hab := (hs.alloc (.cells #[.int .i64 e, .slice A n c, .int .i64 t, .slice A2 n2 c2] 42)).alloc (.cells #[.int .i64 0, .int .i64 0, .int .i64 0, .slice none 0 0, .int .i64 0, .slice none 0 0] 46)
  have hbp0 : BoxAt ((w.alloc (.cells #[.int .i64 e, .slice A n c, .int .i64 t, .slice A2 n2 c2] 42)).alloc (.cells #[.int .i64 0, .int .i64 0, .int .i64 0, .slice none 0 0, .int .i64 0, .slice none 0 0] 46)) w.heap.size #[.int .i64 e, .slice A n c, .int .i64 t, .slice A2 n2 c2] 42 := (BoxAt.new w #[.int .i64 e, .slice A n c, .int .i64 t, .slice A2 n2 c2] 42).alloc (.cells #[.int .i64 0, .int .i64 0, .int .i64 0, .slice none 0 0, .int .i64 0, .slice none 0 0] 46)
  have hbz0 : BoxAt ((w.alloc (.cells #[.int .i64 e, .slice A n c, .int .i64 t, .slice A2 n2 c2] 42)).alloc (.cells #[.int .i64 0, .int .i64 0, .int .i64 0, .slice none 0 0, .int .i64 0, .slice none 0 0] 46)) (w.heap.size + 1) #[.int .i64 0, .int .i64 0, .int .i64 0, .slice none 0 0, .int .i64 0, .slice none 0 0] 46 := by
    have := BoxAt.new (w.alloc (.cells #[.int .i64 e, .slice A n c, .int .i64 t, .slice A2 n2 c2] 42)) #[.int .i64 0, .int .i64 0, .int .i64 0, .slice none 0 0, .int .i64 0, .slice none 0 0] 46
    simpa using this
  have hbw0 : Below w.heap.size w ((w.alloc (.cells #[.int .i64 e, .slice A n c, .int .i64 t, .slice A2 n2 c2] 42)).alloc (.cells #[.int .i64 0, .int .i64 0, .int .i64 0, .slice none 0 0, .int .i64 0, .slice none 0 0] 46)) := ((Below.refl w.heap.size w).alloc (Nat.le_refl _) (.cells #[.int .i64 e, .slice A n c, .int .i64 t, .slice A2 n2 c2] 42)).alloc (by simp) (.cells #[.int .i64 0, .int .i64 0, .int .i64 0, .slice none 0 0, .int .i64 0, .slice none 0 0] 46)
  have hsz0 : w.heap.size + 2 ≤ ((w.alloc (.cells #[.int .i64 e, .slice A n c, .int .i64 t, .slice A2 n2 c2] 42)).alloc (.cells #[.int .i64 0, .int .i64 0, .int .i64 0, .slice none 0 0, .int .i64 0, .slice none 0 0] 46)).heap.size := by simp
  have hhi := hs.hi_le

  cases he : elB s with
  | false =>
    clear hbad
    go_enter Try.func26, Try.ntmps26
    go_wp2_with (first | (go_at_call 48; refine (isElement_c _ _).mono ?_; rintro e w' ⟨rfl, rfl⟩))
    refine bodyPost_ret (v := .tuple #[.agg #[.int .i64 0, .int .i64 0, .int .i64 0, .slice none 0 0, .int .i64 0, .slice none 0 0], .bool false]) (by simp [results, Try.results26, go_sem]) rfl ?_
    exact NewPeel.zero hbw0
  | true =>
    have hv : validB ⟨e, h, t, b⟩ = false := by rcases hbad with g | g; rw [he] at g; cases g; exact g
    clear hbad
    have hpv := packetValid_c e t A n c A2 n2 c2 _ _ h b _ hab
    rw [hv] at hpv
    have HPV := Lib.hid hpv
    clear hpv hv
    go_enter Try.func26, Try.ntmps26
    go_wp2_with (first | (go_at_call 48; refine (isElement_c _ _).mono ?_; rintro e w' ⟨rfl, rfl⟩))
    refine HPV.out.mono ?_
    rintro e' w2 ⟨rfl, hb2⟩
    have hab2 := hab.below hb2 hab.hi_le
    have hbp2 := hbp0.below hb2 hbp0.hi_le
    have hbz2 := hbz0.below hb2 hbz0.hi_le
    have hbw2 := hbw0.trans (hb2.mono hbw0.size)
    have hsz2 := hb2.size
    clear hab hbp0 hbz0 hbw0 hb2
    obtain ⟨kr0, kr1, kr2, kr3, kr4, kr5⟩ := hbz2.six
    have kf := hbz2.frozen
    clear hab2 hbp2 hbz2
    go_wp2_with fail
    refine bodyPost_ret (v := .tuple #[.agg #[.int .i64 0, .int .i64 0, .int .i64 0, .slice none 0 0, .int .i64 0, .slice none 0 0], .bool false]) (by simp [results, Try.results26, go_sem, kr0, kr1, kr2, kr3, kr4, kr5]) rfl ?_
    exact NewPeel.zero (set6_below hbw2 (by omega) _ _ _ _ _ _)

set_option maxRecDepth 100000 in
set_option maxHeartbeats 6400000 in
theorem packetPeel_ok (s e t : Int) (A : Option Addr) (n c : Nat) (A2 : Option Addr) (n2 c2 : Nat) (lo hi : Nat) (h b : List Int) (w : World) (hs : TwoR w lo hi h b A n c A2 n2 c2) (he : elB s = true) (hv : validB ⟨e, h, t, b⟩ = true) :
    Calls Try.prog 26 #[.int .i64 s, .agg #[.int .i64 e, .slice A n c, .int .i64 t, .slice A2 n2 c2]] w (NewPeel (peelP s ⟨e, h, t, b⟩) (peelB s ⟨e, h, t, b⟩) w) := by
  have hab := (hs.alloc (.cells #[.int .i64 e, .slice A n c, .int .i64 t, .slice A2 n2 c2] 42)).alloc (.cells #[.int .i64 0, .int .i64 0, .int .i64 0, .slice none 0 0, .int .i64 0, .slice none 0 0] 46)
  have hbp0 : BoxAt ((w.alloc (.cells #[.int .i64 e, .slice A n c, .int .i64 t, .slice A2 n2 c2] 42)).alloc (.cells #[.int .i64 0, .int .i64 0, .int .i64 0, .slice none 0 0, .int .i64 0, .slice none 0 0] 46)) w.heap.size #[.int .i64 e, .slice A n c, .int .i64 t, .slice A2 n2 c2] 42 := (BoxAt.new w #[.int .i64 e, .slice A n c, .int .i64 t, .slice A2 n2 c2] 42).alloc (.cells #[.int .i64 0, .int .i64 0, .int .i64 0, .slice none 0 0, .int .i64 0, .slice none 0 0] 46)
  have hbz0 : BoxAt ((w.alloc (.cells #[.int .i64 e, .slice A n c, .int .i64 t, .slice A2 n2 c2] 42)).alloc (.cells #[.int .i64 0, .int .i64 0, .int .i64 0, .slice none 0 0, .int .i64 0, .slice none 0 0] 46)) (w.heap.size + 1) #[.int .i64 0, .int .i64 0, .int .i64 0, .slice none 0 0, .int .i64 0, .slice none 0 0] 46 := by
    have := BoxAt.new (w.alloc (.cells #[.int .i64 e, .slice A n c, .int .i64 t, .slice A2 n2 c2] 42)) #[.int .i64 0, .int .i64 0, .int .i64 0, .slice none 0 0, .int .i64 0, .slice none 0 0] 46
    simpa using this
  have hbw0 : Below w.heap.size w ((w.alloc (.cells #[.int .i64 e, .slice A n c, .int .i64 t, .slice A2 n2 c2] 42)).alloc (.cells #[.int .i64 0, .int .i64 0, .int .i64 0, .slice none 0 0, .int .i64 0, .slice none 0 0] 46)) := ((Below.refl w.heap.size w).alloc (Nat.le_refl _) (.cells #[.int .i64 e, .slice A n c, .int .i64 t, .slice A2 n2 c2] 42)).alloc (by simp) (.cells #[.int .i64 0, .int .i64 0, .int .i64 0, .slice none 0 0, .int .i64 0, .slice none 0 0] 46)
  have hsz0 : w.heap.size + 2 ≤ ((w.alloc (.cells #[.int .i64 e, .slice A n c, .int .i64 t, .slice A2 n2 c2] 42)).alloc (.cells #[.int .i64 0, .int .i64 0, .int .i64 0, .slice none 0 0, .int .i64 0, .slice none 0 0] 46)).heap.size := by simp
  have hhi := hs.hi_le
  obtain ⟨ve, vh, vh9, vb, vb6, vt⟩ := validB_iff.1 hv
  have hpv := packetValid_c e t A n c A2 n2 c2 _ _ h b _ hab
  rw [hv] at hpv
  have HPV := Lib.hid hpv
  obtain ⟨key, hkey⟩ : ∃ k, k = mulP s e := ⟨_, rfl⟩
  have hke : elB key = true := by rw [hkey]; exact mulP_el he ve
  have hn9 : n = 9 := by rw [← hs.1.len]; exact vh9
  have hn6 : n2 = 6 := by rw [← hs.2.1.len]; exact vb6
  subst hn9 hn6
  have HK := Lib.hid hkey
  have HKE := Lib.hid hke
  have HVE := Lib.hid ve
  have HVV := Lib.hid hv
  obtain ⟨X, hX⟩ : ∃ x, x = peelP s ⟨e, h, t, b⟩ := ⟨_, rfl⟩
  obtain ⟨ok, hok⟩ : ∃ x, x = peelB s ⟨e, h, t, b⟩ := ⟨_, rfl⟩
  rw [← hX, ← hok]
  have HX := Lib.hid hX
  have HO := Lib.hid hok
  have HVH := Lib.hid vh
  have HVB := Lib.hid vb
  have HH9 := Lib.hid vh9
  have HB6 := Lib.hid vb6
  have hof : offP (h ++ [0, 0, 0]) key = plainL key h := plain_offP hke vh vh9
  have hob : offP b key = offL b key := if_pos ⟨vb, hke⟩
  have htc : checkP key h t = decide (tagL key h = t) := by
    rw [Bool.eq_iff_iff, checkP_iff, tagP_eq hke vh]; simp
    exact ⟨fun g => g.2.symm, fun g => ⟨vt.1, g.symm⟩⟩
  have hpl := plainL_len key h
  rw [vh9] at hpl
  have HOF := Lib.hid hof
  have HOB := Lib.hid hob
  have HTC := Lib.hid htc
  have HPL := Lib.hid hpl
  obtain ⟨i0, hi0, hz0, hz1, hz2⟩ := info_parts Try.infoInt
  clear hX hok hpv hv hkey hke ve vh vh9 vb vb6 hof hob htc hpl hs
  go_enter Try.func26, Try.ntmps26
  go_wp2_with (first | (go_at_call 48; refine (isElement_c _ _).mono ?_; rintro e w' ⟨rfl, rfl⟩))
  refine HPV.out.mono ?_
  rintro e' w2 ⟨rfl, hb2⟩
  have hab2 := hab.below hb2 hab.hi_le
  have hbp2 := hbp0.below hb2 hbp0.hi_le
  have hbz2 := hbz0.below hb2 hbz0.hi_le
  have hbw2 := hbw0.trans (hb2.mono hbw0.size)
  have hsz2 := hb2.size
  clear hab hbp0 hbz0 hbw0 hb2
  obtain ⟨q0, q1, q2, q3⟩ := hbp2.four
  go_wp2_with (first | (go_at_call 31; refine (shared_c _ _ _).mono ?_; rintro e w' ⟨rfl, rfl⟩))
  rw [← HK.out]
  go_wp2_with fail
  refine (clone_c _ _ _ _ _ _ _ hab2.1 (by omega)).mono ?_
  rintro e' w3 ⟨A3, n3, c3, rfl, o3, hb3⟩
  have hn3 : n3 = 9 := by have := o3.len; rw [HH9.out] at this; exact this.symm
  subst hn3
  have hab3 := hab2.below hb3 hab2.hi_le
  have hbp3 := hbp2.below hb3 hbp2.hi_le
  have hbz3 := hbz2.below hb3 hbz2.hi_le
  have hbw3 := hbw2.trans (hb3.mono hbw2.size)
  have hsz3 := hb3.size
  clear hab2 hbp2 hbz2 hbw2 hb3 q0 q1 q2 q3
  go_wp2_with (at_builtin; go_must (refine wpList_append_zeros _ rfl _ _ 23 3 rfl w2.heap.size 3 i0 .i64 .i64 Try.underlying23 Try.underlying3 hi0 hz0 hz1 hz2 _ _ _ rfl o3.1 3 rfl (by omega) (by omega) (by omega) ?_); intro v4 w4 hown4 hg4 _)
  obtain ⟨A4, c4, rfl⟩ := owns_shape hown4
  have hB4 : Below w2.heap.size w3 w4 := ⟨hg4.os, hg4.tape, hg4.output, hg4.size, fun i hi => hg4.block i (by omega) (fun e => by have := (o3.1.lt i e.symm).1; omega)⟩
  have o4 : OwnR 3 w4 w2.heap.size w4.heap.size A4 12 c4 (h ++ [0, 0, 0]) := OwnR.of_owns (by simpa [ints, List.replicate] using hown4)
  have hab4 := hab3.below hB4 (by have := hab3.hi_le; omega)
  have hbp4 := hbp3.below hB4 (by omega)
  have hbz4 := hbz3.below hB4 (by omega)
  have hbw4 := hbw3.trans (hB4.mono (by omega))
  have hsz4 := hB4.size
  clear hown4 hg4 hB4 hab3 hbp3 hbz3 hbw3 o3
  refine (maskOff_c _ _ _ _ _ _ key _ o4.read).mono ?_
  rintro e' w5 ⟨A5, n5, c5, rfl, o5, hb5⟩
  rw [HOF.out] at o5
  have hn5 : n5 = 12 := by have := o5.len; rw [HPL.out] at this; exact this.symm
  subst hn5
  have hab5 := hab4.below hb5 hab4.hi_le
  have hbp5 := hbp4.below hb5 hbp4.hi_le
  have hbz5 := hbz4.below hb5 hbz4.hi_le
  have hbw5 := hbw4.trans (hb5.mono hbw4.size)
  have hsz5 := hb5.size
  clear hab4 hbp4 hbz4 hbw4 o4 hb5
  obtain ⟨q0, q1, q2, q3⟩ := hbp5.four
  obtain ⟨L, hL⟩ : ∃ L, L = plainL key h := ⟨_, rfl⟩
  rw [← hL] at o5
  obtain ⟨gp, rfl, hgp1, hgp2, hcp, -⟩ := o5.at_ (by omega)
  obtain ⟨v0, hv0⟩ : ∃ v, v = L.getD 0 0 := ⟨_, rfl⟩
  obtain ⟨v1, hv1⟩ : ∃ v, v = L.getD 1 0 := ⟨_, rfl⟩
  obtain ⟨v2, hv2⟩ : ∃ v, v = L.getD 2 0 := ⟨_, rfl⟩
  have p0 := hcp 0 (by omega)
  have p1 := hcp 1 (by omega)
  have p2 := hcp 2 (by omega)
  rw [← hv0] at p0
  rw [← hv1] at p1
  rw [← hv2] at p2
  have hpi : peelB s ⟨e, h, t, b⟩ = (decide (tagL key h = t) && kindB v0 && nameB v1) := by
    rw [hv0, hv1, hL, HK.out]
    simp only [peelB, he, HVV.out, Bool.true_and, peelIn]
  have HPI := Lib.hid hpi
  have HL := Lib.hid hL
  have HV0 := Lib.hid hv0
  have HV1 := Lib.hid hv1
  have HV2 := Lib.hid hv2
  clear hL hv0 hv1 hv2 hcp hpi
  have hkb : (decide (0 ≤ v0) && decide (v0 ≤ 1)) = kindB v0 := rfl
  have HKB := Lib.hid hkb
  clear hkb
  obtain ⟨kr0, kr1, kr2, kr3, kr4, kr5⟩ := hbz5.six
  have kf := hbz5.frozen
  go_wp2_with fail
  refine (tagCheck_c _ _ _ _ _ _ _ _ _ hab5.1).mono ?_
  rintro e' w' ⟨rfl, rfl⟩
  rw [HTC.out]
  cases htg : decide (tagL key h = t) with
  | false =>
    have hp : peelB s ⟨e, h, t, b⟩ = false := by rw [HPI.out, htg]; rfl
    have e1 : X = zeroPeel := by rw [HX.out, peelP_no hp]
    have e2 : ok = false := by rw [HO.out, hp]
    have E1 := Lib.hid e1
    have E2 := Lib.hid e2
    clear e1 e2 hp htg
    go_wp2_with (first | (go_at_call 66; refine (within_c _ _ _ _).mono ?_; rintro e' w' ⟨rfl, rfl⟩; rw [HKB.out]) | (go_at_call 67; refine (isName_c _ _).mono ?_; rintro e w' ⟨rfl, rfl⟩))
    refine bodyPost_ret (v := .tuple #[.agg #[.int .i64 0, .int .i64 0, .int .i64 0, .slice none 0 0, .int .i64 0, .slice none 0 0], .bool false]) (by simp [results, Try.results26, go_sem, kr0, kr1, kr2, kr3, kr4, kr5]) rfl ?_; rw [E1.out, E2.out]; exact NewPeel.zero (set6_below hbw5 (by omega) _ _ _ _ _ _)
  | true => cases hkd : kindB v0 with
    | false =>
      have hp : peelB s ⟨e, h, t, b⟩ = false := by rw [HPI.out, hkd]; simp
      have e1 : X = zeroPeel := by rw [HX.out, peelP_no hp]
      have e2 : ok = false := by rw [HO.out, hp]
      have E1 := Lib.hid e1
      have E2 := Lib.hid e2
      clear e1 e2 hp htg
      go_wp2_with (first | (go_at_call 66; refine (within_c _ _ _ _).mono ?_; rintro e' w' ⟨rfl, rfl⟩; rw [HKB.out]) | (go_at_call 67; refine (isName_c _ _).mono ?_; rintro e w' ⟨rfl, rfl⟩))
      refine bodyPost_ret (v := .tuple #[.agg #[.int .i64 0, .int .i64 0, .int .i64 0, .slice none 0 0, .int .i64 0, .slice none 0 0], .bool false]) (by simp [results, Try.results26, go_sem, kr0, kr1, kr2, kr3, kr4, kr5]) rfl ?_; rw [E1.out, E2.out]; exact NewPeel.zero (set6_below hbw5 (by omega) _ _ _ _ _ _)
    | true => cases hnm : nameB v1 with
      | false =>
        have hp : peelB s ⟨e, h, t, b⟩ = false := by rw [HPI.out, hnm]; simp
        have e1 : X = zeroPeel := by rw [HX.out, peelP_no hp]
        have e2 : ok = false := by rw [HO.out, hp]
        have E1 := Lib.hid e1
        have E2 := Lib.hid e2
        clear e1 e2 hp htg
        go_wp2_with (first | (go_at_call 66; refine (within_c _ _ _ _).mono ?_; rintro e' w' ⟨rfl, rfl⟩; rw [HKB.out]) | (go_at_call 67; refine (isName_c _ _).mono ?_; rintro e w' ⟨rfl, rfl⟩))
        refine bodyPost_ret (v := .tuple #[.agg #[.int .i64 0, .int .i64 0, .int .i64 0, .slice none 0 0, .int .i64 0, .slice none 0 0], .bool false]) (by simp [results, Try.results26, go_sem, kr0, kr1, kr2, kr3, kr4, kr5]) rfl ?_; rw [E1.out, E2.out]; exact NewPeel.zero (set6_below hbw5 (by omega) _ _ _ _ _ _)
      | true =>
        have hp : peelB s ⟨e, h, t, b⟩ = true := by rw [HPI.out, htg, hkd, hnm]; rfl
        have e1 : X = peelL s ⟨e, h, t, b⟩ := by rw [HX.out, peelP_yes hp]
        have e2 : ok = true := by rw [HO.out, hp]
        have E1 := Lib.hid e1
        have E2 := Lib.hid e2
        have hdr : SlR .i64 w5 w4.heap.size w5.heap.size (some ⟨gp, 3, none⟩) 9 (L.drop 3) := (o5.read.drop_ (j := 3) (by omega) (fun b o e _ => by injection e with e; injection e with e1 e2; subst e1 e2; rfl))
        have HDR := Lib.hid hdr
        have hcap5 := o5.cap
        have hcap5i : (12 : Int) ≤ (c5 : Int) := by omega
        have hcap3 : 3 < c5 := by omega
        have hcap3n : ¬ c5 = 3 := by omega
        have hcap3z : ¬ c5 - 3 = 0 := by omega
        clear e1 e2 hp htg hdr
        have hlw5 : w.heap.size < w5.heap.size := by omega
        have HBD := Lib.hid hab5.2.1
        have k3 : ∀ w', Below w5.heap.size w5 w' → w'.cell? ⟨w.heap.size, 0, none⟩ = some (.int .i64 e) ∧ w'.cell? ⟨w.heap.size, 3, none⟩ = some (.slice A2 6 c2) ∧ w'.cell? ⟨gp, 2, none⟩ = some (.int .i64 v2) := fun w' hB =>
          ⟨(hbp5.below hB hlw5).cell 0, (hbp5.below hB hlw5).cell 3, (hB.cell (p := ⟨gp, 2, none⟩) hgp2).trans p2⟩
        have HK3 := Lib.hid k3
        clear k3
        go_wp2_with (first | (go_at_call 66; refine (within_c _ _ _ _).mono ?_; rintro e' w' ⟨rfl, rfl⟩; rw [HKB.out]) | (go_at_call 67; refine (isName_c _ _).mono ?_; rintro e w' ⟨rfl, rfl⟩))
        apply share8 (N := fun WF gb A6 n6 c6 A7 n7 c7 => NextOk w5 WF gb #[.int .i64 (mulP e (facP key)), .slice A6 n6 c6, .int .i64 v2, .slice A7 n7 c7] 42 (L.drop 3) (offP b key) A6 n6 c6 A7 n7 c7)
        case h1 =>
          intro main
          go_region_held3 (fun w' => w'.cell? ⟨w.heap.size, 0, none⟩ = some (.int .i64 e) ∧ w'.cell? ⟨w.heap.size, 3, none⟩ = some (.slice A2 6 c2) ∧ w'.cell? ⟨gp, 2, none⟩ = some (.int .i64 v2))
            (first
              | go_keep
              | exact HK3.out _ (by first | exact hB7.alloc hB7.size _ | exact hB7 | exact hB6.alloc hB6.size _ | exact hB6 | exact ((Below.refl _ _).drew).alloc (Nat.le_refl _) _ | exact ((((hB7.setCell hB6.size _).setCell hB6.size _).setCell hB6.size _).setCell hB6.size _) | exact ((((hB7.setCell (Nat.le_refl _) _).setCell (Nat.le_refl _) _).setCell (Nat.le_refl _) _).setCell (Nat.le_refl _) _)))
            ((first
              | (go_at_call 32; refine (factor_c _ _).mono ?_; rintro e' w' ⟨rfl, rfl⟩)
              | (go_at_call 33; refine (blind_c _ _ _).mono ?_; rintro e' w' ⟨rfl, rfl⟩)
              | (go_at_call 65; refine (clone_c (some ⟨gp, 3, none⟩) 9 (c5 - 3) _ _ (L.drop 3) _ (by first | exact HDR.out.drew | exact HDR.out.drew.alloc _) (by omega)).mono ?_; rintro e' w6 ⟨A6, n6, c6, rfl, o6, hb6⟩; have hB6 : Below w5.heap.size w5 w6 := (by first | exact ((Below.refl _ _).drew).trans hb6 | exact (((Below.refl w5.heap.size w5).drew).alloc (Nat.le_refl _) _).trans (hb6.mono (by simp))); have hbd6 := HBD.out.below hB6 HBD.out.hi_le; try (have bz6 : BoxAt w6 w5.heap.size #[.int .i64 0, .slice none 0 0, .int .i64 0, .slice none 0 0] 42 := (BoxAt.new w5.drew _ _).below hb6 (by simp); obtain ⟨z0, z1, z2, z3⟩ := bz6.four; have zf := bz6.frozen))
              | (go_at_call 30; refine (maskOff_c _ _ _ _ _ _ key _ (by first | exact hbd6 | exact hbd6.alloc _)).mono ?_; rintro e' w7 ⟨A7, n7, c7, rfl, o7, hb7⟩; have hB7 : Below w5.heap.size w5 w7 := (by first | exact hB6.trans (hb7.mono hB6.size) | exact (hB6.alloc hB6.size _).trans (hb7.mono (by simp; have := hB6.size; omega))); (try (clear z0 z1 z2 z3 zf)); (first | (have bz7 : BoxAt w7 w5.heap.size #[.int .i64 0, .slice none 0 0, .int .i64 0, .slice none 0 0] 42 := bz6.below hb7 bz6.hi_le; obtain ⟨z0, z1, z2, z3⟩ := bz7.four; have zf := bz7.frozen) | (have bz7 : BoxAt w7 w6.heap.size #[.int .i64 0, .slice none 0 0, .int .i64 0, .slice none 0 0] 42 := (BoxAt.new w6 _ _).below hb7 (by simp); obtain ⟨z0, z1, z2, z3⟩ := bz7.four; have zf := bz7.frozen) | skip))))
          all_goals (
            first
            | (have nx : NextOk w5 (w7.alloc (.cells #[.int .i64 (mulP e (facP key)), .slice A6 n6 c6, .int .i64 v2, .slice A7 n7 c7] 42)) w7.heap.size #[.int .i64 (mulP e (facP key)), .slice A6 n6 c6, .int .i64 v2, .slice A7 n7 c7] 42 (L.drop 3) (offP b key) A6 n6 c6 A7 n7 c7 := next_last #[.int .i64 (mulP e (facP key)), .slice A6 n6 c6, .int .i64 v2, .slice A7 n7 c7] ((Below.refl _ w5).drew) hb6 hb7 o6 o7
               generalize hgb : w7.heap.size = gb at nx ⊢
               generalize hWF : w7.alloc (.cells #[.int .i64 (mulP e (facP key)), .slice A6 n6 c6, .int .i64 v2, .slice A7 n7 c7] 42) = WF at nx ⊢
               exact main WF gb A6 n6 c6 A7 n7 c7 nx)
            | (have nx : NextOk w5 ((((w7.setCell ⟨w6.heap.size, 0, none⟩ (.int .i64 (mulP e (facP key)))).setCell ⟨w6.heap.size, 1, none⟩ (.slice A6 n6 c6)).setCell ⟨w6.heap.size, 2, none⟩ (.int .i64 v2)).setCell ⟨w6.heap.size, 3, none⟩ (.slice A7 n7 c7)) w6.heap.size #[.int .i64 (mulP e (facP key)), .slice A6 n6 c6, .int .i64 v2, .slice A7 n7 c7] 42 (L.drop 3) (offP b key) A6 n6 c6 A7 n7 c7 := next_mid _ _ _ _ ((Below.refl _ w5).drew) hb6 hb7 o6 o7
               exact main _ w6.heap.size A6 n6 c6 A7 n7 c7 nx)
            | (have nx : NextOk w5 ((((w7.setCell ⟨w5.heap.size, 0, none⟩ (.int .i64 (mulP e (facP key)))).setCell ⟨w5.heap.size, 1, none⟩ (.slice A6 n6 c6)).setCell ⟨w5.heap.size, 2, none⟩ (.int .i64 v2)).setCell ⟨w5.heap.size, 3, none⟩ (.slice A7 n7 c7)) w5.heap.size #[.int .i64 (mulP e (facP key)), .slice A6 n6 c6, .int .i64 v2, .slice A7 n7 c7] 42 (L.drop 3) (offP b key) A6 n6 c6 A7 n7 c7 := next_first _ _ _ _ (Below.refl _ w5) (((Below.refl _ (w5.alloc (.cells #[.int .i64 0, .slice none 0 0, .int .i64 0, .slice none 0 0] 42))).drew).trans hb6) hb7 o6 o7
               exact main _ w5.heap.size A6 n6 c6 A7 n7 c7 nx))
        case h2 =>
          intro WF gb A6 n6 c6 A7 n7 c7 nx
          obtain ⟨bx, hgb5, tw, hbF⟩ := nx
          rw [HOB.out] at tw
          have hszF := hbF.size
          have hrb5 : w.heap.size + 1 < w5.heap.size := by omega
          have bzF := hbz5.below hbF hrb5
          have g0 := (hbF.cell (p := ⟨gp, 0, none⟩) hgp2).trans p0
          have g1 := (hbF.cell (p := ⟨gp, 1, none⟩) hgp2).trans p1
          have hfin : NewPeel X ok w (.returned (.tuple #[.agg #[.int .i64 v0, .int .i64 v1, .int .i64 (mulP e (facP key)), .slice A6 n6 c6, .int .i64 v2, .slice A7 n7 c7], .bool true])) ((((((WF.setCell ⟨w.heap.size + 1, 0, none⟩ (.int .i64 v0)).setCell ⟨w.heap.size + 1, 1, none⟩ (.int .i64 v1)).setCell ⟨w.heap.size + 1, 2, none⟩ (.int .i64 (mulP e (facP key)))).setCell ⟨w.heap.size + 1, 3, none⟩ (.slice A6 n6 c6)).setCell ⟨w.heap.size + 1, 4, none⟩ (.int .i64 v2)).setCell ⟨w.heap.size + 1, 5, none⟩ (.slice A7 n7 c7)).drew := by
            rw [E1.out, E2.out]
            refine ⟨A6, n6, c6, A7, n7, c7, ?_, ?_, (set6_below (hbw5.trans (hbF.mono (by omega))) (by omega) _ _ _ _ _ _).drew⟩
            · simp only [peelL]
              rw [← HK.out, ← HL.out, ← HV0.out, ← HV1.out, ← HV2.out]
            · have hh : (peelL s ⟨e, h, t, b⟩).p.h = L.drop 3 := by rw [HL.out, HK.out]; rfl
              have hbb : (peelL s ⟨e, h, t, b⟩).p.b = offL b key := by rw [HK.out]; rfl
              rw [hh, hbb]
              exact ((set6_twoO tw hrb5 _ _ _ _ _ _).drew).wider (by omega) (by rw [← set6_size WF (w.heap.size + 1) (.int .i64 v0) (.int .i64 v1) (.int .i64 (mulP e (facP key))) (.slice A6 n6 c6) (.int .i64 v2) (.slice A7 n7 c7)]; exact Nat.le_refl _) (Nat.le_refl _)
          have HFIN := Lib.hid hfin
          have hne1 : ¬ gp = w.heap.size + 1 := by omega
          have hne2 : ¬ gb = w.heap.size + 1 := by omega
          have hne3 : ¬ w.heap.size + 1 = gp := by omega
          have hne4 : ¬ w.heap.size + 1 = gb := by omega
          obtain ⟨m0, m1, m2, m3⟩ := bx.four
          clear kr0 kr1 kr2 kr3 kr4 kr5 kf q0 q1 q2 q3 p0 p1 p2 hfin
          obtain ⟨kr0, kr1, kr2, kr3, kr4, kr5⟩ := bzF.six
          have kf := bzF.frozen
          have hgpF : gp < WF.heap.size := by omega
          have hgbF : gb < WF.heap.size := bx.hi_le
          have hgpn : gp < w.heap.size + 1 ∨ w.heap.size + 1 + 1 ≤ gp := by omega
          have hgbn : gb < w.heap.size + 1 ∨ w.heap.size + 1 + 1 ≤ gb := by omega
          have k6 : ∀ w', Only (w.heap.size + 1) (w.heap.size + 1 + 1) WF w' → w'.cell? ⟨gp, 0, none⟩ = some (.int .i64 v0) ∧ w'.cell? ⟨gp, 1, none⟩ = some (.int .i64 v1) ∧ w'.cell? ⟨gb, 0, none⟩ = some (.int .i64 (mulP e (facP key))) ∧ w'.cell? ⟨gb, 1, none⟩ = some (.slice A6 n6 c6) ∧ w'.cell? ⟨gb, 2, none⟩ = some (.int .i64 v2) ∧ w'.cell? ⟨gb, 3, none⟩ = some (.slice A7 n7 c7) := fun w' ho =>
            ⟨only_cell ho hgpF hgpn g0, only_cell ho hgpF hgpn g1, only_cell ho hgbF hgbn m0, only_cell ho hgbF hgbn m1, only_cell ho hgbF hgbn m2, only_cell ho hgbF hgbn m3⟩
          have HK6 := Lib.hid k6
          have HO0 := Lib.hid (only_d WF (w.heap.size + 1) (w.heap.size + 1 + 1))
          have HO1 := Lib.hid (Only.refl (w.heap.size + 1) (w.heap.size + 1 + 1) WF)
          have HO6 := Lib.hid (only_set6 WF (w.heap.size + 1) (.int .i64 v0) (.int .i64 v1) (.int .i64 (mulP e (facP key))) (.slice A6 n6 c6) (.int .i64 v2) (.slice A7 n7 c7))
          clear bx tw hbF bzF hbz5 hbp5 hab5 o5 k6 hgpF hgbF hgpn hgbn
          go_wp2_with fail
          go_region_held3 (fun w' => w'.cell? ⟨gp, 0, none⟩ = some (.int .i64 v0) ∧ w'.cell? ⟨gp, 1, none⟩ = some (.int .i64 v1) ∧ w'.cell? ⟨gb, 0, none⟩ = some (.int .i64 (mulP e (facP key))) ∧ w'.cell? ⟨gb, 1, none⟩ = some (.slice A6 n6 c6) ∧ w'.cell? ⟨gb, 2, none⟩ = some (.int .i64 v2) ∧ w'.cell? ⟨gb, 3, none⟩ = some (.slice A7 n7 c7))
            (exact HK6.out _ (by first | with_reducible exact HO0.out | with_reducible exact HO6.out | with_reducible exact HO1.out))
            (fail)
          go_wp2_with fail
          refine bodyPost_ret (v := .tuple #[.agg #[.int .i64 v0, .int .i64 v1, .int .i64 (mulP e (facP key)), .slice A6 n6 c6, .int .i64 v2, .slice A7 n7 c7], .bool true]) (by simp [results, Try.results26, go_sem, kr0, kr1, kr2, kr3, kr4, kr5]) rfl ?_
          exact HFIN.out
theorem packetPeel_c (s e t : Int) (A : Option Addr) (n c : Nat) (A2 : Option Addr) (n2 c2 : Nat) (lo hi : Nat) (h b : List Int) (w : World) (hs : TwoR w lo hi h b A n c A2 n2 c2) : Calls Try.prog 26 #[.int .i64 s, .agg #[.int .i64 e, .slice A n c, .int .i64 t, .slice A2 n2 c2]] w (NewPeel (peelP s ⟨e, h, t, b⟩) (peelB s ⟨e, h, t, b⟩) w) := by
  by_cases hg : elB s = true ∧ validB ⟨e, h, t, b⟩ = true
  · exact packetPeel_ok s e t A n c A2 n2 c2 lo hi h b w hs hg.1 hg.2
  · have hp : peelB s ⟨e, h, t, b⟩ = false := by
      cases hq : peelB s ⟨e, h, t, b⟩ with
      | false => rfl
      | true => obtain ⟨a1, a2, _⟩ := peelB_iff.1 hq; exact absurd ⟨a1, a2⟩ hg
    rw [peelP_no hp, hp]
    refine packetPeel_bad s e t A n c A2 n2 c2 lo hi h b w hs ?_
    cases h1 : elB s with
    | false => exact .inl rfl
    | true => cases h2 : validB ⟨e, h, t, b⟩ with
      | false => exact .inr rfl
      | true => exact absurd ⟨h1, h2⟩ hg
end Go.Proofs.Ytbkecimhbibnjaa
