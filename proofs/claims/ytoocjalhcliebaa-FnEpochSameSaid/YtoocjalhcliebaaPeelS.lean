/-
  A packet is peeled by the reference.
  Conditions: the packet's slices read as lists of whole numbers.
-/
import Derived.Test.YtoocjalhcliebaaPeelW
import Derived.Test.YtoocjalhcliebaaPktV
namespace Go.Proofs.Ytoocjalhcliebaa
open Go Go.RowKit
theorem set4b_size (w : World) (g : Nat) (x0 x1 x2 x3 : Value) : ((((w.setCell ⟨g, 2, none⟩ x0).setCell ⟨g, 3, none⟩ x1).setCell ⟨g, 4, none⟩ x2).setCell ⟨g, 5, none⟩ x3).heap.size = w.heap.size := by simp [World.setCell]

set_option maxRecDepth 100000 in
set_option maxHeartbeats 6400000 in
theorem l5Peel_c (s e t : Int) (A : Option Addr) (n c : Nat) (A2 : Option Addr) (n2 c2 : Nat) (lo hi : Nat) (h b : List Int) (w : World) (hs : TwoR w lo hi h b A n c A2 n2 c2) (he : elB s = true) (hv : validB ⟨e, h, t, b⟩ = true) :
    Calls Try.prog 42 #[.int .i64 s, .agg #[.int .i64 e, .slice A n c, .int .i64 t, .slice A2 n2 c2]] w (NewPeel (peelP s ⟨e, h, t, b⟩) (peelB s ⟨e, h, t, b⟩) w) := by
  have hab := (hs.alloc (.cells #[.int .i64 e, .slice A n c, .int .i64 t, .slice A2 n2 c2] 45)).alloc (.cells #[.int .i64 0, .int .i64 0, .int .i64 0, .slice none 0 0, .int .i64 0, .slice none 0 0] 47)
  have hbp0 : BoxAt ((w.alloc (.cells #[.int .i64 e, .slice A n c, .int .i64 t, .slice A2 n2 c2] 45)).alloc (.cells #[.int .i64 0, .int .i64 0, .int .i64 0, .slice none 0 0, .int .i64 0, .slice none 0 0] 47)) w.heap.size #[.int .i64 e, .slice A n c, .int .i64 t, .slice A2 n2 c2] 45 := (BoxAt.new w #[.int .i64 e, .slice A n c, .int .i64 t, .slice A2 n2 c2] 45).alloc (.cells #[.int .i64 0, .int .i64 0, .int .i64 0, .slice none 0 0, .int .i64 0, .slice none 0 0] 47)
  have hbz0 : BoxAt ((w.alloc (.cells #[.int .i64 e, .slice A n c, .int .i64 t, .slice A2 n2 c2] 45)).alloc (.cells #[.int .i64 0, .int .i64 0, .int .i64 0, .slice none 0 0, .int .i64 0, .slice none 0 0] 47)) (w.heap.size + 1) #[.int .i64 0, .int .i64 0, .int .i64 0, .slice none 0 0, .int .i64 0, .slice none 0 0] 47 := by
    have := BoxAt.new (w.alloc (.cells #[.int .i64 e, .slice A n c, .int .i64 t, .slice A2 n2 c2] 45)) #[.int .i64 0, .int .i64 0, .int .i64 0, .slice none 0 0, .int .i64 0, .slice none 0 0] 47
    simpa using this
  have hbw0 : Below w.heap.size w ((w.alloc (.cells #[.int .i64 e, .slice A n c, .int .i64 t, .slice A2 n2 c2] 45)).alloc (.cells #[.int .i64 0, .int .i64 0, .int .i64 0, .slice none 0 0, .int .i64 0, .slice none 0 0] 47)) := ((Below.refl w.heap.size w).alloc (Nat.le_refl _) (.cells #[.int .i64 e, .slice A n c, .int .i64 t, .slice A2 n2 c2] 45)).alloc (by simp) (.cells #[.int .i64 0, .int .i64 0, .int .i64 0, .slice none 0 0, .int .i64 0, .slice none 0 0] 47)
  have hsz0 : w.heap.size + 2 ≤ ((w.alloc (.cells #[.int .i64 e, .slice A n c, .int .i64 t, .slice A2 n2 c2] 45)).alloc (.cells #[.int .i64 0, .int .i64 0, .int .i64 0, .slice none 0 0, .int .i64 0, .slice none 0 0] 47)).heap.size := by simp
  have hhi := hs.hi_le
  obtain ⟨ve, vh, vh9, vb, vb6, vt⟩ := validB_iff.1 hv
  obtain ⟨key, hkey⟩ : ∃ k, k = mulP s e := ⟨_, rfl⟩
  have hke : elB key = true := by rw [hkey]; exact mulP_el he ve
  have hkb := elB_iff.1 hke
  have hn9 : n = 9 := by rw [← hs.1.len]; exact vh9
  have hn6 : n2 = 6 := by rw [← hs.2.1.len]; exact vb6
  subst hn9 hn6
  obtain ⟨tg, htgv⟩ : ∃ x, x = tagL key h := ⟨_, rfl⟩
  obtain ⟨X, hX⟩ : ∃ x, x = peelP s ⟨e, h, t, b⟩ := ⟨_, rfl⟩
  obtain ⟨ok, hok⟩ : ∃ x, x = peelB s ⟨e, h, t, b⟩ := ⟨_, rfl⟩
  rw [← hX, ← hok]
  have hpl := plainL_len key h
  rw [vh9] at hpl
  have hrb := range_of vb6 (fun x hx => (listB_iff.1 vb).2 x hx)
  have hl12 : (h ++ [0, 0, 0]).length = 12 := by simp [vh9]
  have hrh : ∀ i, i < 12 → 0 ≤ (h ++ [0, 0, 0]).getD i 0 ∧ (h ++ [0, 0, 0]).getD i 0 ≤ 990 := range_of hl12 (fun x hx => by
    rcases List.mem_append.1 hx with g | g
    · exact (listB_iff.1 vh).2 x g
    · simp at g; omega)
  have htag := l3Tag_c key A 9 c lo hi h _ hab.1.drew (by omega) (range_of vh9 (fun x hx => (listB_iff.1 vh).2 x hx)) (by omega)
  rw [← htgv] at htag
  have HTAG := Lib.hid htag
  have HX := Lib.hid hX
  have HO := Lib.hid hok
  have HK := Lib.hid hkey
  have HKE := Lib.hid hke
  have HVE := Lib.hid ve
  have HVV := Lib.hid hv
  have HE := Lib.hid he
  have HTG := Lib.hid htgv
  have HPL := Lib.hid hpl
  have HRB := Lib.hid hrb
  have HRH := Lib.hid hrh
  obtain ⟨i0, hi0, hz0, hz1, hz2⟩ := info_parts Try.infoInt
  have hsv := he
  have htimes := l1Times_c s e ((w.alloc (.cells #[.int .i64 e, .slice A 9 c, .int .i64 t, .slice A2 6 c2] 45)).alloc (.cells #[.int .i64 0, .int .i64 0, .int .i64 0, .slice none 0 0, .int .i64 0, .slice none 0 0] 47)) he ve
  rw [← hkey] at htimes
  have HTI := Lib.hid htimes
  clear hX hok hv hkey hke ve vh vh9 vb vb6 hpl hrb hrh hl12 htag htgv hs he htimes hsv
  go_enter Try.func42, Try.ntmps42
  go_wp2_with (go_at_call 41; refine HTI.out.mono ?_; rintro e' w' ⟨rfl, rfl⟩)
  obtain ⟨q0, q1, q2, q3⟩ := hbp0.four
  go_region_held3 (fun w' => w'.cell? ⟨w.heap.size, 1, none⟩ = some (.slice A 9 c) ∧ w'.cell? ⟨w.heap.size, 2, none⟩ = some (.int .i64 t))
    (first | go_keep)
    ((go_at_call 52; refine HTAG.out.mono ?_; rintro e' w' ⟨rfl, rfl⟩))
  clear q0 q1 q2 q3
  obtain ⟨w1, hw1⟩ : ∃ W : World, W = ((w.alloc (.cells #[.int .i64 e, .slice A 9 c, .int .i64 t, .slice A2 6 c2] 45)).alloc (.cells #[.int .i64 0, .int .i64 0, .int .i64 0, .slice none 0 0, .int .i64 0, .slice none 0 0] 47)).drew := ⟨_, rfl⟩
  have hab1 : TwoR w1 lo hi h b A 9 c A2 6 c2 := by rw [hw1]; exact hab
  have hbp1 : BoxAt w1 w.heap.size #[.int .i64 e, .slice A 9 c, .int .i64 t, .slice A2 6 c2] 45 := by rw [hw1]; exact hbp0
  have hbz1 : BoxAt w1 (w.heap.size + 1) #[.int .i64 0, .int .i64 0, .int .i64 0, .slice none 0 0, .int .i64 0, .slice none 0 0] 47 := by rw [hw1]; exact hbz0
  have hbw1 : Below w.heap.size w w1 := by rw [hw1]; exact hbw0.drew
  have hsz1 : w.heap.size + 2 ≤ w1.heap.size := by rw [hw1]; exact hsz0
  rw [← hw1]
  clear hw1 hab hbp0 hbz0 hbw0 hsz0
  obtain ⟨kr0, kr1, kr2, kr3, kr4, kr5⟩ := hbz1.six
  have kf := hbz1.frozen
  by_cases htg : tg = t
  · have t1 : (tg != t) = false := by simpa using htg
    have HTT := Lib.hid htg
    clear htg
    obtain ⟨q0, q1, q2, q3⟩ := hbp1.four
    have hlw1 : w.heap.size < w1.heap.size := by omega
    have hlw1n : ¬ w.heap.size = w1.heap.size := by omega
    have hown0 := World.ownsRow_made (base := w1.heap.size) (e := 3) (size := 1) w1 #[] 0 (Nat.le_refl _) (by unfold maxLen; omega) rfl
    have hra := hab1.1.alloc (.cells #[] 3)
    go_wp2_with (first
      | (at_builtin; refine wpList_append_sl _ rfl _ _ 23 rfl w1.heap.size 3 i0 Try.underlying23 hi0 hz0 hz1 hz2 _ 0 [] rfl hown0 _ _ 9 c A h rfl hra (by omega) (by simp) ?_; intro v1' w2 hown1 hg1 hat1; have hsz2 := hg1.size; simp only [Nat.zero_add, List.nil_append] at hown1)
      | (at_builtin; refine wpList_append_own _ rfl _ _ 23 rfl w1.heap.size 3 i0 (.int .i64 0) 1 8 Try.underlying23 hi0 hz0 hz1 hz2 rfl (by decide) _ _ _ rfl (hown1.alloc _) ⟨w2.heap.size, 0, none⟩ 3 3 (ints [0, 0, 0]) rfl rfl three_new three_cell (by unfold maxLen; omega) (by omega) (by simp at hsz2 ⊢; omega) ?_; intro v2' w3 hown2 hg2 hq; clear hq; obtain ⟨A3, c3, rfl⟩ := owns_shape hown2))
    have hown2' : w3.ownsRow w1.heap.size 3 1 (.slice A3 12 c3) 12 (ints (h ++ [0, 0, 0])) := by simpa [ints] using hown2
    have o3 := OwnR.of_owns hown2'
    have hB3 : Below w1.heap.size w1 w3 := by
      have b1 : Below w1.heap.size w1 w2 := ((Below.refl _ _).alloc (Nat.le_refl _) _).grown hg1 (by simp) (fun g e => (hown0.lt g e).1)
      exact made_below b1 hg2 (Nat.le_refl _) hown1
    have hab3 := hab1.below hB3 (by have := hab1.hi_le; omega)
    have hbp3 := hbp1.below hB3 hbp1.hi_le
    have hbz3 := hbz1.below hB3 hbz1.hi_le
    have hbw3 := hbw1.trans (hB3.mono hbw1.size)
    have hsz3 := hB3.size
    clear hown0 hra hown1 hg1 hat1 hsz2 hown2 hown2' hg2 hB3 hab1 hbp1 hbz1 hbw1 q0 q1 q2 q3 kr0 kr1 kr2 kr3 kr4 kr5 kf
    refine (l2Off_c _ _ _ _ _ _ key _ o3.read (by omega) HRH.out HKE.out).mono ?_
    rintro e' w5 ⟨A5, n5, c5, rfl, o5, hb5⟩
    rw [show offL (h ++ [0, 0, 0]) key = plainL key h from rfl] at o5
    have hn5 : n5 = 12 := by have := o5.len; rw [HPL.out] at this; exact this.symm
    subst hn5
    have hab5 := hab3.below hb5 hab3.hi_le
    have hbp5 := hbp3.below hb5 hbp3.hi_le
    have hbz5 := hbz3.below hb5 hbz3.hi_le
    have hbw5 := hbw3.trans (hb5.mono hbw3.size)
    have hsz5 := hb5.size
    clear hab3 hbp3 hbz3 hbw3 o3 hb5
    obtain ⟨L, hL⟩ : ∃ L, L = plainL key h := ⟨_, rfl⟩
    rw [← hL] at o5
    obtain ⟨gp, rfl, hgp1, hgp2, hcp, -⟩ := o5.at_ (by omega)
    obtain ⟨v0, hv0⟩ : ∃ v, v = L.getD 0 0 := ⟨_, rfl⟩
    obtain ⟨v1, hv1⟩ : ∃ v, v = L.getD 1 0 := ⟨_, rfl⟩
    obtain ⟨v2, hv2⟩ : ∃ v, v = L.getD 2 0 := ⟨_, rfl⟩
    have p0 := hcp 0 (by omega)
    have p1 := hcp 1 (by omega)
    have p2 := hcp 2 (by omega)
    rw [← hv0] at p0
    rw [← hv1] at p1
    rw [← hv2] at p2
    have hpi : peelB s ⟨e, h, t, b⟩ = (kindB v0 && nameB v1) := by
      rw [hv0, hv1, hL, HK.out]
      simp only [peelB, HE.out, HVV.out, Bool.true_and, peelIn]
      rw [show decide (tagL (mulP s e) h = t) = true by rw [← HK.out, ← HTG.out, HTT.out]; simp, Bool.true_and]
    have HPI := Lib.hid hpi
    have hkb0 : (decide (0 ≤ v0) && decide (v0 ≤ 1)) = kindB v0 := rfl
    have HKB := Lib.hid hkb0
    have hnb0 : (decide (0 ≤ v1) && decide (v1 ≤ 7)) = nameB v1 := rfl
    have HNB := Lib.hid hnb0
    have HL := Lib.hid hL
    have HV0 := Lib.hid hv0
    have HV1 := Lib.hid hv1
    have HV2 := Lib.hid hv2
    have hdr : SlR .i64 w5 w3.heap.size w5.heap.size (some ⟨gp, 3, none⟩) 9 (L.drop 3) := (o5.read.drop_ (j := 3) (by omega) (fun b o e _ => by injection e with e; injection e with e1 e2; subst e1 e2; rfl))
    have HDR := Lib.hid hdr
    have hcap5 := o5.cap
    have hcap5i : (12 : Int) ≤ (c5 : Int) := by omega
    have hcap3 : 3 < c5 := by omega
    have hcap3n : ¬ c5 = 3 := by omega
    have hcap3z : ¬ c5 - 3 = 0 := by omega
    have hlw5 : w.heap.size < w5.heap.size := by omega
    have hlz5 : w.heap.size + 1 < w5.heap.size := by omega
    have k2 : ∀ w', Below w5.heap.size w5 w' → w'.cell? ⟨gp, 0, none⟩ = some (.int .i64 v0) ∧ w'.cell? ⟨gp, 1, none⟩ = some (.int .i64 v1) := fun w' hB => ⟨(hB.cell (p := ⟨gp, 0, none⟩) hgp2).trans p0, (hB.cell (p := ⟨gp, 1, none⟩) hgp2).trans p1⟩
    have k3 : ∀ w', Below w5.heap.size w5 w' → w'.cell? ⟨w.heap.size, 0, none⟩ = some (.int .i64 e) ∧ w'.cell? ⟨w.heap.size, 3, none⟩ = some (.slice A2 6 c2) ∧ w'.cell? ⟨gp, 2, none⟩ = some (.int .i64 v2) := fun w' hB =>
      ⟨(hbp5.below hB hlw5).cell 0, (hbp5.below hB hlw5).cell 3, (hB.cell (p := ⟨gp, 2, none⟩) hgp2).trans p2⟩
    have HK2 := Lib.hid k2
    have HK3 := Lib.hid k3
    clear hL hv0 hv1 hv2 hcp hpi hkb0 hnb0 hdr k2 k3
    go_wp2_with fail
    go_region_held3 (fun w' => w'.cell? ⟨gp, 0, none⟩ = some (.int .i64 v0) ∧ w'.cell? ⟨gp, 1, none⟩ = some (.int .i64 v1))
      (first | exact HK2.out _ (by first | exact ((Below.refl _ _).drew).alloc (Nat.le_refl _) _ | exact (Below.refl _ _).drew | exact ((Below.refl _ _).alloc (Nat.le_refl _) _).drew) | go_keep)
      (fail)
    obtain ⟨w6, hw6⟩ : ∃ W : World, W = (w5.alloc (.cells #[.int .i64 v0, .int .i64 v1, .int .i64 0, .slice none 0 0, .int .i64 0, .slice none 0 0] 47)).drew := ⟨_, rfl⟩
    have bo6 : BoxAt w6 w5.heap.size #[.int .i64 v0, .int .i64 v1, .int .i64 0, .slice none 0 0, .int .i64 0, .slice none 0 0] 47 := by rw [hw6]; exact (BoxAt.new w5 #[.int .i64 v0, .int .i64 v1, .int .i64 0, .slice none 0 0, .int .i64 0, .slice none 0 0] 47).drew
    have hB6 : Below w5.heap.size w5 w6 := by rw [hw6]; exact ((Below.refl _ _).alloc (Nat.le_refl _) _).drew
    rw [← hw6]
    clear hw6 p0 p1 p2
    have hz6 : w5.heap.size < w6.heap.size := bo6.hi_le
    have hdr6 := HDR.out.below hB6 (Nat.le_refl _)
    have HBD := Lib.hid hab5.2.1
    obtain ⟨d1, d2, d3⟩ := HK3.out w6 hB6
    have hown6 := (World.ownsRow_made (base := w6.heap.size) (e := 3) (size := 1) w6 #[] 0 (Nat.le_refl _) (by unfold maxLen; omega) rfl).drew
    have hL9 : (L.drop 3).length = 9 := by rw [List.length_drop, HL.out, HPL.out]
    have hnews : ∀ j u, (ints (L.drop 3))[j]? = some u → ((w6.alloc (.cells #[] 3)).drew).cell? (Addr.add ⟨gp, 3, none⟩ j) = some u := by
      intro j u hu
      have hj : j < 9 := by
        have := (List.getElem?_eq_some_iff.1 hu).1
        rw [ints, List.length_map, hL9] at this
        exact this
      obtain ⟨_, _, hq, _, _, hcx⟩ := (hdr6.alloc (.cells #[] 3)).drew.at_ (by omega)
      injection hq with hq; injection hq with hq1' hq2; subst hq1' hq2
      have hj9 : j < (L.drop 3).length := by rw [hL9]; exact hj
      rw [add_off, hcx j hj, ← hu, ints, List.getElem?_map, List.getElem?_eq_getElem hj9, List.getD_eq_getElem?_getD, List.getElem?_eq_getElem hj9]
      rfl
    have hnl : (ints (L.drop 3)).length = 9 * 1 := by rw [ints, List.length_map, hL9]
    have hn1c : ∀ u ∈ ints (L.drop 3), u.oneCell' = true := by intro u hu; simp only [ints, List.mem_map] at hu; obtain ⟨x, _, rfl⟩ := hu; rfl
    have HNW := Lib.hid hnews
    have HNL := Lib.hid hnl
    have HN1 := Lib.hid hn1c
    have HOW := Lib.hid hown6
    have hfe := facP_el HKE.out
    have HFE := Lib.hid hfe
    have hlw6 : w.heap.size < w6.heap.size := by omega
    have hgp6 : gp < w6.heap.size := by omega
    have hn6w : ¬ w.heap.size = w6.heap.size := by omega
    have hn6g : ¬ gp = w6.heap.size := by omega
    clear hL9 hnews hnl hn1c hown6 hfe hdr6
    go_wp2_with fail
    go_region_held3 (fun w' => w'.cell? ⟨w.heap.size, 0, none⟩ = some (.int .i64 e) ∧ w'.cell? ⟨w.heap.size, 3, none⟩ = some (.slice A2 6 c2) ∧ w'.cell? ⟨gp, 2, none⟩ = some (.int .i64 v2))
      (first
        | exact HK3.out _ (by first | exact hB6.drew | exact (hB6.alloc (Nat.le_of_lt hz6) _).drew | exact hB7 | exact hB8 | exact ((((hB8.setCell (Nat.le_refl _) _).setCell (Nat.le_refl _) _).setCell (Nat.le_refl _) _).setCell (Nat.le_refl _) _) | exact hB6)
        | go_keep)
      ((first
        | (go_at_call 54; refine (l1Factor_c _ _ HKE.out).mono ?_; rintro e' w' ⟨rfl, rfl⟩)
        | (go_at_call 41; refine (l1Times_c _ _ _ HVE.out HFE.out).mono ?_; rintro e' w' ⟨rfl, rfl⟩)
        | (refine step_append_lies _ (by rfl) _ _ _ (by rfl) w6.heap.size 3 i0 _ 1 8 Try.underlying23 hi0 hz0 hz1 hz2 rfl (by omega) _ 0 _ (by rfl) HOW.out ⟨gp, 3, none⟩ 9 (c5 - 3) (ints (L.drop 3)) (by rfl) HNL.out HNW.out HN1.out (by omega) (by unfold maxLen; omega) (by omega) (by simp) (w6.heap.size + 1) (by simp) ?_; intro g7 c7 w7 hown7 hgrow hat hlt'; have hB7 : Below w5.heap.size w5 w7 := ((hB6.alloc (Nat.le_of_lt hz6) _).drew).grown hgrow (by simp; omega) (fun k hk => by simp [Value.ownBlock] at hk; omega); have hbd7 := HBD.out.below hB7 HBD.out.hi_le; have bo7 := ((bo6.alloc (.cells #[] 3)).drew).grown hgrow (fun k hk => by simp [Value.ownBlock] at hk; omega); have hz7 := hgrow.size)
        | (go_at_call 53; refine (l2Off_c _ _ _ _ _ _ key _ hbd7 (by omega) HRB.out HKE.out).mono ?_; rintro e' w8 ⟨A8, n8, c8, rfl, o8, hb8⟩; have hB8 : Below w5.heap.size w5 w8 := hB7.trans (hb8.mono hB7.size); have bo8 := bo7.below hb8 bo7.hi_le; obtain ⟨z0, z1, z2, z3, z4, z5⟩ := bo8.six; have zf := bo8.frozen)))
    all_goals (
      clear d1 d2 d3 hbd7
      have o7 := OwnR.of_owns hown7
      have o7w := o7.below hb8 (Nat.le_refl _)
      have hz8 := hb8.size
      have bs := (((bo8.set 2 (.int .i64 (mulP e (facP key)))).set 3 (.slice (some ⟨g7, 0, none⟩) 9 c7)).set 4 (.int .i64 v2)).set 5 (.slice A8 n8 c8)
      have hlt7 : w5.heap.size < w7.heap.size := by simp at hz7; omega
      have o7s := (((o7w.setCell (p := ⟨w5.heap.size, 2, none⟩) (.inl hz6) (.int .i64 (mulP e (facP key)))).setCell (p := ⟨w5.heap.size, 3, none⟩) (.inl hz6) (.slice (some ⟨g7, 0, none⟩) 9 c7)).setCell (p := ⟨w5.heap.size, 4, none⟩) (.inl hz6) (.int .i64 v2)).setCell (p := ⟨w5.heap.size, 5, none⟩) (.inl hz6) (.slice A8 n8 c8)
      have o8s := (((o8.setCell (p := ⟨w5.heap.size, 2, none⟩) (.inl hlt7) (.int .i64 (mulP e (facP key)))).setCell (p := ⟨w5.heap.size, 3, none⟩) (.inl hlt7) (.slice (some ⟨g7, 0, none⟩) 9 c7)).setCell (p := ⟨w5.heap.size, 4, none⟩) (.inl hlt7) (.int .i64 v2)).setCell (p := ⟨w5.heap.size, 5, none⟩) (.inl hlt7) (.slice A8 n8 c8)
      have hle5 : w5.heap.size ≤ w5.heap.size := Nat.le_refl _
      have hBs := (((hB8.setCell (p := ⟨w5.heap.size, 2, none⟩) hle5 (.int .i64 (mulP e (facP key)))).setCell (p := ⟨w5.heap.size, 3, none⟩) hle5 (.slice (some ⟨g7, 0, none⟩) 9 c7)).setCell (p := ⟨w5.heap.size, 4, none⟩) hle5 (.int .i64 v2)).setCell (p := ⟨w5.heap.size, 5, none⟩) hle5 (.slice A8 n8 c8)
      have hzs : (((((w8.setCell ⟨w5.heap.size, 2, none⟩ (.int .i64 (mulP e (facP key)))).setCell ⟨w5.heap.size, 3, none⟩ (.slice (some ⟨g7, 0, none⟩) 9 c7)).setCell ⟨w5.heap.size, 4, none⟩ (.int .i64 v2)).setCell ⟨w5.heap.size, 5, none⟩ (.slice A8 n8 c8))).heap.size = w8.heap.size := set4b_size _ _ _ _ _ _
      generalize hWF : ((((w8.setCell ⟨w5.heap.size, 2, none⟩ (.int .i64 (mulP e (facP key)))).setCell ⟨w5.heap.size, 3, none⟩ (.slice (some ⟨g7, 0, none⟩) 9 c7)).setCell ⟨w5.heap.size, 4, none⟩ (.int .i64 v2)).setCell ⟨w5.heap.size, 5, none⟩ (.slice A8 n8 c8)) = WF at bs o7s o8s hBs hzs ⊢
      have hzw : w8.heap.size ≤ WF.heap.size := Nat.le_of_eq hzs.symm
      have tw : TwoO WF w5.heap.size WF.heap.size (L.drop 3) (offL b key) (some ⟨g7, 0, none⟩) 9 c7 A8 n8 c8 := TwoO.of_two o7s o8s (.inl (Nat.le_refl _)) (Nat.le_of_lt hz6) (Nat.le_of_lt hlt7) (by omega) hzw (Nat.le_refl _)
      clear hWF hzs o7 o7w o8 o7s o8s hown7 hgrow hat hlt' hb8 hB7 hB8 bo7 bo8 z0 z1 z2 z3 z4 z5 zf hlt7 hz7 hz8
      have bsF : BoxAt WF w5.heap.size #[.int .i64 v0, .int .i64 v1, .int .i64 (mulP e (facP key)), .slice (some ⟨g7, 0, none⟩) 9 c7, .int .i64 v2, .slice A8 n8 c8] 47 := bs
      have bzF := hbz5.below hBs hlz5
      have hszF := hBs.size
      have hbwF := hbw5.trans (hBs.mono (by omega))
      obtain ⟨kr0, kr1, kr2, kr3, kr4, kr5⟩ := bzF.six
      have kf := bzF.frozen
      obtain ⟨m0, m1, m2, m3, m4, m5⟩ := bsF.six
      clear bs bsF bzF hBs hzw
      cases hkd : kindB v0 with
      | false =>
        have hp : peelB s ⟨e, h, t, b⟩ = false := by rw [HPI.out, hkd]; rfl
        have e1 : X = zeroPeel := by rw [HX.out, peelP_no hp]
        have e2 : ok = false := by rw [HO.out, hp]
        have E1 := Lib.hid e1
        have E2 := Lib.hid e2
        clear e1 e2 hp
        go_wp2_with (first | (go_at_call 34; (with_reducible refine (l6In_c v0 0 1 _).mono ?_); rintro e' w' ⟨rfl, rfl⟩; rw [HKB.out]) | (go_at_call 34; (with_reducible refine (l6In_c v1 0 7 _).mono ?_); rintro e' w' ⟨rfl, rfl⟩; rw [HNB.out]))
        refine bodyPost_ret (v := .tuple #[.agg #[.int .i64 0, .int .i64 0, .int .i64 0, .slice none 0 0, .int .i64 0, .slice none 0 0], .bool false]) (by simp [results, Try.results42, go_sem, kr0, kr1, kr2, kr3, kr4, kr5]) rfl ?_
        rw [E1.out, E2.out]
        exact NewPeel.zero (set6_below hbwF (by omega) _ _ _ _ _ _)
      | true => cases hnm : nameB v1 with
        | false =>
          have hp : peelB s ⟨e, h, t, b⟩ = false := by rw [HPI.out, hkd, hnm]; rfl
          have e1 : X = zeroPeel := by rw [HX.out, peelP_no hp]
          have e2 : ok = false := by rw [HO.out, hp]
          have E1 := Lib.hid e1
          have E2 := Lib.hid e2
          clear e1 e2 hp
          go_wp2_with (first | (go_at_call 34; (with_reducible refine (l6In_c v0 0 1 _).mono ?_); rintro e' w' ⟨rfl, rfl⟩; rw [HKB.out]) | (go_at_call 34; (with_reducible refine (l6In_c v1 0 7 _).mono ?_); rintro e' w' ⟨rfl, rfl⟩; rw [HNB.out]))
          refine bodyPost_ret (v := .tuple #[.agg #[.int .i64 0, .int .i64 0, .int .i64 0, .slice none 0 0, .int .i64 0, .slice none 0 0], .bool false]) (by simp [results, Try.results42, go_sem, kr0, kr1, kr2, kr3, kr4, kr5]) rfl ?_
          rw [E1.out, E2.out]
          exact NewPeel.zero (set6_below hbwF (by omega) _ _ _ _ _ _)
        | true =>
          have hp : peelB s ⟨e, h, t, b⟩ = true := by rw [HPI.out, hkd, hnm]; rfl
          have e1 : X = peelL s ⟨e, h, t, b⟩ := by rw [HX.out, peelP_yes hp]
          have e2 : ok = true := by rw [HO.out, hp]
          have hfin : NewPeel X ok w (.returned (.tuple #[.agg #[.int .i64 v0, .int .i64 v1, .int .i64 (mulP e (facP key)), .slice (some ⟨g7, 0, none⟩) 9 c7, .int .i64 v2, .slice A8 n8 c8], .bool true])) ((((((WF.setCell ⟨w.heap.size + 1, 0, none⟩ (.int .i64 v0)).setCell ⟨w.heap.size + 1, 1, none⟩ (.int .i64 v1)).setCell ⟨w.heap.size + 1, 2, none⟩ (.int .i64 (mulP e (facP key)))).setCell ⟨w.heap.size + 1, 3, none⟩ (.slice (some ⟨g7, 0, none⟩) 9 c7)).setCell ⟨w.heap.size + 1, 4, none⟩ (.int .i64 v2)).setCell ⟨w.heap.size + 1, 5, none⟩ (.slice A8 n8 c8)) := by
            rw [e1, e2]
            refine ⟨some ⟨g7, 0, none⟩, 9, c7, A8, n8, c8, ?_, ?_, set6_below hbwF (by omega) _ _ _ _ _ _⟩
            · simp only [peelL]
              rw [← HK.out, ← HL.out, ← HV0.out, ← HV1.out, ← HV2.out]
            · have hh : (peelL s ⟨e, h, t, b⟩).p.h = L.drop 3 := by rw [HL.out, HK.out]; rfl
              have hbb : (peelL s ⟨e, h, t, b⟩).p.b = offL b key := by rw [HK.out]; rfl
              rw [hh, hbb]
              exact (set6_twoO tw hlz5 _ _ _ _ _ _).wider (by omega) (by rw [set6_size]; exact Nat.le_refl _) (Nat.le_refl _)
          have HFIN := Lib.hid hfin
          have hne : ¬ w5.heap.size = w.heap.size + 1 := by omega
          have hne2 : ¬ w.heap.size + 1 = w5.heap.size := by omega
          clear e1 e2 hp hfin
          go_wp2_with (first | (go_at_call 34; (with_reducible refine (l6In_c v0 0 1 _).mono ?_); rintro e' w' ⟨rfl, rfl⟩; rw [HKB.out]) | (go_at_call 34; (with_reducible refine (l6In_c v1 0 7 _).mono ?_); rintro e' w' ⟨rfl, rfl⟩; rw [HNB.out]))
          refine bodyPost_ret (v := .tuple #[.agg #[.int .i64 v0, .int .i64 v1, .int .i64 (mulP e (facP key)), .slice (some ⟨g7, 0, none⟩) 9 c7, .int .i64 v2, .slice A8 n8 c8], .bool true]) (by simp [results, Try.results42, go_sem, kr0, kr1, kr2, kr3, kr4, kr5]) rfl ?_
          exact HFIN.out)
  · have hp : peelB s ⟨e, h, t, b⟩ = false := by
      cases hq : peelB s ⟨e, h, t, b⟩ with
      | false => rfl
      | true => obtain ⟨_, _, a3, _⟩ := peelB_iff.1 hq; exact absurd (by rw [HTG.out, HK.out]; exact a3) htg
    have e1 : X = zeroPeel := by rw [HX.out, peelP_no hp]
    have e2 : ok = false := by rw [HO.out, hp]
    have E1 := Lib.hid e1
    have E2 := Lib.hid e2
    have t1 : (tg != t) = true := by simpa using htg
    have HTN := Lib.hid htg
    clear e1 e2 hp htg
    go_wp2_with fail
    refine bodyPost_ret (v := .tuple #[.agg #[.int .i64 0, .int .i64 0, .int .i64 0, .slice none 0 0, .int .i64 0, .slice none 0 0], .bool false]) (by simp [results, Try.results42, go_sem, kr0, kr1, kr2, kr3, kr4, kr5]) rfl ?_
    rw [E1.out, E2.out]
    exact NewPeel.zero (set6_below hbw1 (by omega) _ _ _ _ _ _)
end Go.Proofs.Ytoocjalhcliebaa
