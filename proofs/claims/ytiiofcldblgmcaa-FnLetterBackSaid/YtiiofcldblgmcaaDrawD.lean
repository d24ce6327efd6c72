/-
  The draw of a body that is often a letter's.
  Conditions: the code reads as a list of bytes.
-/
import Derived.Test.YtiiofcldblgmcaaLawsH
namespace Go.Proofs.Ytiiofcldblgmcaa
open Go Go.RowKit

set_option maxRecDepth 100000 in
set_option maxHeartbeats 3200000 in
theorem drawLetterOpen_c (A : Option Addr) (n c : Nat) (xs : List Int) (w : World) (h : SlR .u8 w 0 w.heap.size A n xs) (hb : ∀ x ∈ xs, 0 ≤ x ∧ x ≤ 255) (hc : n ≤ c) (hc2 : c ≤ 9223372036854775807) : Calls Try.prog 54 #[.slice A n c] w (OneList w) := by
  go_enter Try.func54, Try.ntmps54
  go_wp2_with fail
  refine (l6Open_c A n c xs w h hb hc hc2).mono ?_
  rintro e w_1 ⟨rfl, hr, hB⟩
  have hlt := hr.lt
  have z_1 := hB.size
  go_wp2_with fail
  refine (l91List_c _ 0 4 _ hr (by omega) (by omega)).mono ?_
  rintro e w_2 ⟨A_l, n_l, c_l, xs_l, rfl, o_l, b_l, hr', h_2⟩
  have z_2 := h_2.size
  replace hB := hB.grown h_2 hB.size (fun k hk => by injection hk with hk; omega)
  clear hr
  have hr := hr'
  clear hr'
  go_wp2_with fail
  refine (sLetterPack_c _ _ _ _ _ _ _ o_l.read (by omega)).mono ?_
  rintro e w_3 ⟨A_out, n_out, c_out, rfl, o_out, h_3⟩
  have z_3 := h_3.size
  replace o_l := o_l.below h_3 o_l.2.1
  replace hB := hB.trans (h_3.mono hB.size)
  replace hr := hr.below h_3 hr.lt
  obtain ⟨i0, hi0, hz0, hz1, hz2⟩ := info_parts Try.infoInt
  cases hok : packB xs_l with
  | false =>
    rw [packP_no hok] at o_out
    have hn0 : n_out = 0 := by have := o_out.len; simpa using this.symm
    subst hn0
    go_wp2_with fail
    refine (l91List_c _ 90 6 _ hr (by omega) (by omega)).mono ?_
    rintro e w_4 ⟨A_r, n_r, c_r, xs_r, rfl, o_r, b_r, hr', h_4⟩
    have z_4 := h_4.size
    replace o_l := o_l.grown h_4 (fun k hk => by injection hk with hk; omega)
    replace o_out := o_out.grown h_4 (fun k hk => by injection hk with hk; omega)
    replace hB := hB.grown h_4 hB.size (fun k hk => by injection hk with hk; omega)
    clear hr
    have hr := hr'
    clear hr'
    go_wp2_with fail
    go_ret
    exact ⟨_, _, _, _, rfl, o_r.wider (by omega) o_r.2.1 (Nat.le_refl _), b_r, hB⟩
  | true =>
    rw [packP_yes hok] at o_out
    have HP := Lib.hid hok
    have H4 := Lib.hid (packB_iff.1 hok).2
    clear hok
    have hn6 : n_out = 6 := by have := o_out.len; have := packL_len H4.out; omega
    subst hn6
    go_wp2_with fail
    refine (pick_c _ 90 _ _ hr (by omega)).mono ?_
    rintro e w_4 ⟨x, rfl, x0, x1, hr', h_4⟩
    have z_4 := h_4.size
    replace o_l := o_l.grown h_4 (fun k hk => by injection hk with hk; omega)
    replace o_out := o_out.grown h_4 (fun k hk => by injection hk with hk; omega)
    replace hB := hB.grown h_4 hB.size (fun k hk => by injection hk with hk; omega)
    clear hr
    have hr := hr'
    clear hr'
    have x2 := x1 (by omega)
    clear x1
    by_cases hx0 : x = 0
    · subst hx0
      go_wp2_with fail
      refine (pick_c _ 91 _ _ hr (by omega)).mono ?_
      rintro e w_5 ⟨y, rfl, y0, y1, hr', h_5⟩
      have z_5 := h_5.size
      replace o_l := o_l.grown h_5 (fun k hk => by injection hk with hk; omega)
      replace o_out := o_out.grown h_5 (fun k hk => by injection hk with hk; omega)
      replace hB := hB.grown h_5 hB.size (fun k hk => by injection hk with hk; omega)
      clear hr
      have hr := hr'
      clear hr'
      have y2 := y1 (by omega)
      clear y1
      obtain ⟨Y, rfl⟩ := Int.eq_ofNat_of_zero_le y0
      go_wp2_with fail
      refine (l91Number_c _ 92 _ hr (by omega)).mono ?_
      rintro e w_6 ⟨z, rfl, hr', h_6⟩
      have z_6 := h_6.size
      replace o_l := o_l.grown h_6 (fun k hk => by injection hk with hk; omega)
      replace o_out := o_out.grown h_6 (fun k hk => by injection hk with hk; omega)
      replace hB := hB.grown h_6 hB.size (fun k hk => by injection hk with hk; omega)
      clear hr
      have hr := hr'
      clear hr'
      obtain ⟨g, hgA, hga, hgb, hcc, hff⟩ := o_out.at_ (by omega)
      have hcell := hcc Y (by omega)
      have hfro := hff Y
      subst hgA
      have st := (o_out.stored Y z).1
      have HST := Lib.hid st
      clear hcc hff st
      have hBn := hB.setCell (p := ⟨g, Y, none⟩) (by simp only []; omega) (.int .i64 z)
      have HBN := Lib.hid hBn
      clear hBn
      go_wp2_with fail
      go_ret
      exact ⟨_, _, _, _, rfl, HST.out.wider (by omega) HST.out.2.1 (Nat.le_refl _), by omega, HBN.out⟩
    have hb0 : (x == 0) = false := by simpa using hx0
    by_cases hx1 : x = 1
    · subst hx1
      clear hx0
      go_wp2_with fail
      refine (pick_c _ 91 _ _ hr (by omega)).mono ?_
      rintro e w_5 ⟨v, rfl, v0, v1, hr', h_5⟩
      have z_5 := h_5.size
      replace o_l := o_l.grown h_5 (fun k hk => by injection hk with hk; omega)
      replace o_out := o_out.grown h_5 (fun k hk => by injection hk with hk; omega)
      replace hB := hB.grown h_5 hB.size (fun k hk => by injection hk with hk; omega)
      clear hr
      have hr := hr'
      clear hr'
      have v2 := v1 (by omega)
      clear v1
      obtain ⟨g, hgA, hga, hgb, hcc, hff⟩ := o_out.at_ (by omega)
      have hcell := hcc 0 (by omega)
      have hcell5 := hcc 5 (by omega)
      have hfro := hff 0
      have hfro5 := hff 5
      subst hgA
      have st := (o_out.stored 0 v).1
      have hs5 := st.read.take_ (j := 5) (by omega)
      have hlb : listB ((packL xs_l).set 0 v) = true := set_listB (packL_listB HP.out) ⟨by omega, by omega⟩
      have hl6 : ((packL xs_l).set 0 v).length = 6 := by rw [List.length_set, packL_len H4.out]
      have HT := Lib.hid (l3Tag_c 1 (some ⟨g, 0, none⟩) 5 c_out _ _ (((packL xs_l).set 0 v).take 5) _ hs5 (by omega) (fun i hi => by have := listB_at hlb (i := i) (by omega); simpa [List.getD_eq_getElem?_getD, List.getElem?_take, hi] using this) (by omega))
      have hcap := o_out.cap
      have st2 := (st.stored 5 (tagL 1 (((packL xs_l).set 0 v).take 5))).1
      have HST := Lib.hid st2
      have hBn := (hB.setCell (p := ⟨g, 0, none⟩) (by simp only []; omega) (.int .i64 v)).setCell (p := ⟨g, 5, none⟩) (by simp only []; omega) (.int .i64 (tagL 1 (((packL xs_l).set 0 v).take 5)))
      have HBN := Lib.hid hBn
      clear hcc hff st st2 hs5 hlb hl6 hBn
      go_wp2_with (go_at_call 57; refine HT.out.mono ?_; rintro e w' ⟨rfl, rfl⟩)
      go_ret
      exact ⟨_, _, _, _, rfl, HST.out.wider (by omega) HST.out.2.1 (Nat.le_refl _), by omega, HBN.out⟩
    have hb1 : (x == 1) = false := by simpa using hx1
    by_cases hx2 : x = 2
    · subst hx2
      clear hx0 hx1
      go_wp2_with (at_builtin; go_must (refine wpList_append_one w_4 rfl _ _ 22 rfl 3 i0 Try.underlying22 hi0 hz0 hz1 hz2 _ _ _ _ _ _ (0 : Int) rfl rfl o_out (by omega) (by omega) ?_))
      intro A_q c_q w_q o_q h_q
      have zq : w_4.heap.size ≤ w_q.heap.size := Nat.le_trans (by simp) h_q.size
      have hBn := (hB.alloc hB.size (.cells #[.int .i64 (0 : Int)] 3)).grown h_q (by simp; have := hB.size; omega) (fun g hg => by have := o_out.block hg; omega)
      go_wp2_with fail
      go_ret
      exact ⟨_, _, _, _, rfl, o_q.wider (by omega) o_q.2.1 (Nat.le_refl _), by omega, hBn⟩
    · have hb2 : (x == 2) = false := by simpa using hx2
      clear hx0 hx1 hx2
      go_wp2_with fail
      go_ret
      exact ⟨_, _, _, _, rfl, o_out.wider (by omega) o_out.2.1 (Nat.le_refl _), by omega, hB⟩
set_option maxRecDepth 100000 in
set_option maxHeartbeats 1600000 in
theorem wFnLetterBack (A : Option Addr) (n c : Nat) (xs : List Int) (w : World) (hs : SlR .u8 w 0 w.heap.size A n xs) (hl : n ≤ c) (hc : c ≤ 9223372036854775807) (hb : ∀ x ∈ xs, 0 ≤ x ∧ x ≤ 255) : Calls Try.prog 26 #[.slice A n c] w fun e w' => e = .returned (.bool true) ∧ Below w.heap.size w w' := by
  by_cases hbig : 1048576 < n
  · go_enter Try.func26, Try.ntmps26
    go_wp2
    go_ret
    exact ⟨rfl, Below.refl _ _⟩
  go_enter Try.func26, Try.ntmps26
  go_wp2_with fail
  refine (drawLetterOpen_c A n c xs w hs hb hl hc).mono ?_
  rintro e w_1 ⟨A_l, n_l, c_l, xs_l, rfl, o_l, b_l, h_1⟩
  have z_1 := h_1.size
  have hB := h_1
  go_wp2_with fail
  refine (letterOpen_c _ _ _ _ _ _ _ o_l.read o_l.cap).mono ?_
  rintro e w_2 ⟨A_out, n_out, c_out, rfl, o_out, h_2⟩
  have z_2 := h_2.size
  replace o_l := o_l.below h_2 o_l.2.1
  replace hB := hB.trans (h_2.mono hB.size)
  have b_out : n_out ≤ 4194304 := by have := o_out.len; have := openP_len xs_l; omega
  go_wp2_with fail
  refine (sLetterOpen_c _ _ _ _ _ _ _ o_l.read (by omega) o_l.cap).mono ?_
  rintro e w_3 ⟨A_want, n_want, c_want, rfl, o_want, h_3⟩
  have z_3 := h_3.size
  replace o_l := o_l.below h_3 o_l.2.1
  replace o_out := o_out.below h_3 o_out.2.1
  replace hB := hB.trans (h_3.mono hB.size)
  have b_want : n_want ≤ 4194304 := by have := o_want.len; have := openP_len xs_l; omega
  cases hok : openB xs_l with
  | false =>
    go_wp2_with fail
    refine (sameInts_t _ _ _ _ _ _ _ _ _ _ _ _ o_out.read o_want.read (by omega)).mono ?_
    rintro e w_4 ⟨rfl, h_4⟩
    have z_4 := h_4.size
    replace o_l := o_l.below h_4 o_l.2.1
    replace o_out := o_out.below h_4 o_out.2.1
    replace o_want := o_want.below h_4 o_want.2.1
    replace hB := hB.trans (h_4.mono hB.size)
    go_wp2_with fail
    refine (sameInts_t _ _ _ _ _ _ _ _ _ _ _ _ o_out.read o_want.read (by omega)).mono ?_
    rintro e w_5 ⟨rfl, h_5⟩
    have z_5 := h_5.size
    replace o_l := o_l.below h_5 o_l.2.1
    replace o_out := o_out.below h_5 o_out.2.1
    replace o_want := o_want.below h_5 o_want.2.1
    replace hB := hB.trans (h_5.mono hB.size)
    go_wp2_with fail
    go_ret
    exact ⟨rfl, hB⟩
  | true =>
    have HO := Lib.hid hok
    clear hok
    go_wp2_with fail
    refine (sameInts_t _ _ _ _ _ _ _ _ _ _ _ _ o_out.read o_want.read (by omega)).mono ?_
    rintro e w_4 ⟨rfl, h_4⟩
    have z_4 := h_4.size
    replace o_l := o_l.below h_4 o_l.2.1
    replace o_out := o_out.below h_4 o_out.2.1
    replace o_want := o_want.below h_4 o_want.2.1
    replace hB := hB.trans (h_4.mono hB.size)
    rw [openP_yes HO.out] at o_out
    go_wp2_with fail
    refine (letterPack_c _ _ _ _ _ _ _ o_out.read).mono ?_
    rintro e w_5 ⟨A_x, n_x, c_x, rfl, o_x, h_5⟩
    have z_5 := h_5.size
    replace o_l := o_l.below h_5 o_l.2.1
    replace o_out := o_out.below h_5 o_out.2.1
    replace o_want := o_want.below h_5 o_want.2.1
    replace hB := hB.trans (h_5.mono hB.size)
    have b_x : n_x ≤ 4194304 := by have := o_x.len; have := packP_len (letterL xs_l); omega
    obtain ⟨q1, q2, q3, q4⟩ := openB_iff.1 HO.out
    have hpk := letterL_packB q1 q2 q3
    rw [packP_yes hpk, q4] at o_x
    rw [hpk]
    have Q4 := Lib.hid q4
    clear q1 q2 q3 q4 hpk
    go_wp2_with fail
    refine (sameInts_t _ _ _ _ _ _ _ _ _ _ _ _ o_x.read o_l.read (by omega)).mono ?_
    rintro e w_6 ⟨rfl, h_6⟩
    have z_6 := h_6.size
    replace o_l := o_l.below h_6 o_l.2.1
    replace o_out := o_out.below h_6 o_out.2.1
    replace o_want := o_want.below h_6 o_want.2.1
    replace o_x := o_x.below h_6 o_x.2.1
    replace hB := hB.trans (h_6.mono hB.size)
    go_wp2_with fail
    go_ret
    exact ⟨rfl, hB⟩
end Go.Proofs.Ytiiofcldblgmcaa
