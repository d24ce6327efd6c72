/-
  The walks of further statements on letters and tags.
  Conditions: the arguments read as lists of bytes.
-/
import Derived.Test.YtiiofcldblgmcaaLawsD
import Derived.Test.YtiiofcldblgmcaaLawsE
namespace Go.Proofs.Ytiiofcldblgmcaa
open Go Go.RowKit

theorem packL_zero {xs : List Int} {i : Nat} (h4 : xs.length ≤ 4) (h1 : xs.length + 1 ≤ i) (h2 : i < 5) : (packL xs).getD i 0 = 0 := by
  match xs, h4 with
  | [], _ => have : i = 1 ∨ i = 2 ∨ i = 3 ∨ i = 4 := by simp at h1; omega
             rcases this with rfl | rfl | rfl | rfl <;> rfl
  | [a], _ => have : i = 2 ∨ i = 3 ∨ i = 4 := by simp at h1; omega
              rcases this with rfl | rfl | rfl <;> rfl
  | [a, b], _ => have : i = 3 ∨ i = 4 := by simp at h1; omega
                 rcases this with rfl | rfl <;> rfl
  | [a, b, c], _ => have : i = 4 := by simp at h1; omega
                    subst this; rfl
  | [a, b, c, d], _ => simp at h1; omega
theorem packL_head (xs : List Int) : (packL xs).getD 0 0 = xs.length := by simp [packL, bodyL]
theorem tagP_set {key : Int} {xs : List Int} (hk : elB key = true) (hx : listB xs = true) {j : Nat} (hj : j < xs.length) {y : Int} (hy : 0 ≤ y ∧ y ≤ 990) (hne : y ≠ xs.getD j 0) : tagP key (xs.set j y) ≠ tagP key xs := by
  rw [tagP_eq hk hx, tagP_eq hk (set_listB hx hy)]
  exact tagL_set key hj (listB_at hx hj) hy hne

set_option maxRecDepth 100000 in
set_option maxHeartbeats 1600000 in
theorem wFnLetterZeros (A : Option Addr) (n c : Nat) (xs : List Int) (w : World) (hs : SlR .u8 w 0 w.heap.size A n xs) (hl : n ≤ c) (hc : c ≤ 9223372036854775807) (hb : ∀ x ∈ xs, 0 ≤ x ∧ x ≤ 255) : Calls Try.prog 18 #[.slice A n c] w fun e w' => e = .returned (.bool true) ∧ Below w.heap.size w w' := by
  by_cases hbig : 1048576 < n
  · go_enter Try.func18, Try.ntmps18
    go_wp2
    go_ret
    exact ⟨rfl, Below.refl _ _⟩
  go_enter Try.func18, Try.ntmps18
  go_wp2_with fail
  refine (drawLetterPack_c A n c xs w hs hb hl hc).mono ?_
  rintro e w_1 ⟨A_l, n_l, c_l, xs_l, rfl, o_l, b_l, h_1⟩
  have z_1 := h_1.size
  have hB := h_1
  go_wp2_with fail
  refine (letterPack_c _ _ _ _ _ _ _ o_l.read).mono ?_
  rintro e w_2 ⟨A_out, n_out, c_out, rfl, o_out, h_2⟩
  have z_2 := h_2.size
  replace o_l := o_l.below h_2 o_l.2.1
  replace hB := hB.trans (h_2.mono hB.size)
  have b_out : n_out ≤ 4194304 := by have := o_out.len; have := packP_len xs_l; omega
  go_wp2_with fail
  refine (sLetterPack_c _ _ _ _ _ _ _ o_l.read (by omega)).mono ?_
  rintro e w_3 ⟨A_want, n_want, c_want, rfl, o_want, h_3⟩
  have z_3 := h_3.size
  replace o_l := o_l.below h_3 o_l.2.1
  replace o_out := o_out.below h_3 o_out.2.1
  replace hB := hB.trans (h_3.mono hB.size)
  have b_want : n_want ≤ 4194304 := by have := o_want.len; have := packP_len xs_l; omega
  cases hok : packB xs_l with
  | false =>
    go_wp2_with fail
    refine (sameInts_t _ _ _ _ _ _ _ _ _ _ _ _ o_out.read o_want.read (by omega)).mono ?_
    rintro e w_4 ⟨rfl, h_4⟩
    have z_4 := h_4.size
    replace o_l := o_l.below h_4 o_l.2.1
    replace o_out := o_out.below h_4 o_out.2.1
    replace o_want := o_want.below h_4 o_want.2.1
    replace hB := hB.trans (h_4.mono hB.size)
    go_wp2_with fail
    refine (sameInts_t _ _ _ _ _ _ _ _ _ _ _ _ o_out.read o_want.read (by omega)).mono ?_
    rintro e w_5 ⟨rfl, h_5⟩
    have z_5 := h_5.size
    replace o_l := o_l.below h_5 o_l.2.1
    replace o_out := o_out.below h_5 o_out.2.1
    replace o_want := o_want.below h_5 o_want.2.1
    replace hB := hB.trans (h_5.mono hB.size)
    go_wp2_with fail
    go_ret
    exact ⟨rfl, hB⟩
  | true =>
    have HP := Lib.hid hok
    have H4 := Lib.hid (packB_iff.1 hok).2
    clear hok
    go_wp2_with fail
    refine (sameInts_t _ _ _ _ _ _ _ _ _ _ _ _ o_out.read o_want.read (by omega)).mono ?_
    rintro e w_4 ⟨rfl, h_4⟩
    have z_4 := h_4.size
    replace o_l := o_l.below h_4 o_l.2.1
    replace o_out := o_out.below h_4 o_out.2.1
    replace o_want := o_want.below h_4 o_want.2.1
    replace hB := hB.trans (h_4.mono hB.size)
    rw [packP_yes HP.out] at o_out
    have h6 : n_out = 6 := by have := o_out.len; have := packL_len H4.out; omega
    subst h6
    have hll := o_l.len
    have HLL := Lib.hid hll
    have hn4 : n_l ≤ 4 := by have := H4.out; omega
    obtain ⟨g, hgA, _, _, hcc, _⟩ := o_out.at_ (by omega)
    have HCC := Lib.hid hcc
    have cell0 := hcc 0 (by omega)
    rw [packL_head, hll] at cell0
    clear hcc hll
    subst hgA
    go_wp2_with fail
    go_loop [8] (fun i => ∃ k : Nat, n_l + 1 ≤ k ∧ k ≤ 5 ∧ i = .int .i64 k) (fun i => 5 - (intOf i).toNat)
    case atStart => exact ⟨n_l + 1, Nat.le_refl _, by omega, by go_num⟩
    case round =>
      obtain ⟨k, hk1, hk2, rfl⟩ := hrel
      by_cases hlt : k < 5
      · have hcell := HCC.out k (by omega)
        rw [packL_zero H4.out (by rw [HLL.out]; exact hk1) hlt] at hcell
        go_wp2
        go_round
        case rel => exact ⟨k + 1, by omega, by omega, by go_num⟩
        case measure => simp [intOf]; omega
      · go_wp2
        go_ret
        exact ⟨ret_b (by first | rfl | simp), hB⟩
set_option maxRecDepth 100000 in
set_option maxHeartbeats 1600000 in
theorem wFnLetterSize (A : Option Addr) (n c : Nat) (xs : List Int) (w : World) (hs : SlR .u8 w 0 w.heap.size A n xs) (hl : n ≤ c) (hc : c ≤ 9223372036854775807) (hb : ∀ x ∈ xs, 0 ≤ x ∧ x ≤ 255) : Calls Try.prog 17 #[.slice A n c] w fun e w' => e = .returned (.bool true) ∧ Below w.heap.size w w' := by
  by_cases hbig : 1048576 < n
  · go_enter Try.func17, Try.ntmps17
    go_wp2
    go_ret
    exact ⟨rfl, Below.refl _ _⟩
  go_enter Try.func17, Try.ntmps17
  have hmk : ∀ W, (Instr.makeSlice 22 (.int .i64 5) (.int .i64 5)).run Try.prog W = .ok (.slice (some ⟨W.heap.size, 0, none⟩) 5 5) (W.alloc (.cells (madeCells #[.int .i64 0] 5) 3)) := fun W => by kernel_rfl
  go_wp2_with fail
  refine (drawLetterPack_c A n c xs w hs hb hl hc).mono ?_
  rintro e w_1 ⟨A_l, n_l, c_l, xs_l, rfl, o_l, b_l, h_1⟩
  have z_1 := h_1.size
  have hB := h_1
  go_wp2_with fail
  refine (letterPack_c _ _ _ _ _ _ _ o_l.read).mono ?_
  rintro e w_2 ⟨A_out, n_out, c_out, rfl, o_out, h_2⟩
  have z_2 := h_2.size
  replace o_l := o_l.below h_2 o_l.2.1
  replace hB := hB.trans (h_2.mono hB.size)
  have b_out : n_out ≤ 4194304 := by have := o_out.len; have := packP_len xs_l; omega
  go_wp2_with fail
  refine (sLetterPack_c _ _ _ _ _ _ _ o_l.read (by omega)).mono ?_
  rintro e w_3 ⟨A_want, n_want, c_want, rfl, o_want, h_3⟩
  have z_3 := h_3.size
  replace o_l := o_l.below h_3 o_l.2.1
  replace o_out := o_out.below h_3 o_out.2.1
  replace hB := hB.trans (h_3.mono hB.size)
  have b_want : n_want ≤ 4194304 := by have := o_want.len; have := packP_len xs_l; omega
  cases hok : packB xs_l with
  | false =>
    go_wp2_with fail
    refine (sameInts_t _ _ _ _ _ _ _ _ _ _ _ _ o_out.read o_want.read (by omega)).mono ?_
    rintro e w_4 ⟨rfl, h_4⟩
    have z_4 := h_4.size
    replace o_l := o_l.below h_4 o_l.2.1
    replace o_out := o_out.below h_4 o_out.2.1
    replace o_want := o_want.below h_4 o_want.2.1
    replace hB := hB.trans (h_4.mono hB.size)
    go_wp2_with fail
    refine (sameInts_t _ _ _ _ _ _ _ _ _ _ _ _ o_out.read o_want.read (by omega)).mono ?_
    rintro e w_5 ⟨rfl, h_5⟩
    have z_5 := h_5.size
    replace o_l := o_l.below h_5 o_l.2.1
    replace o_out := o_out.below h_5 o_out.2.1
    replace o_want := o_want.below h_5 o_want.2.1
    replace hB := hB.trans (h_5.mono hB.size)
    go_wp2_with fail
    go_ret
    exact ⟨rfl, hB⟩
  | true =>
    have HP := Lib.hid hok
    have H4 := Lib.hid (packB_iff.1 hok).2
    clear hok
    go_wp2_with fail
    refine (sameInts_t _ _ _ _ _ _ _ _ _ _ _ _ o_out.read o_want.read (by omega)).mono ?_
    rintro e w_4 ⟨rfl, h_4⟩
    have z_4 := h_4.size
    replace o_l := o_l.below h_4 o_l.2.1
    replace o_out := o_out.below h_4 o_out.2.1
    replace o_want := o_want.below h_4 o_want.2.1
    replace hB := hB.trans (h_4.mono hB.size)
    rw [packP_yes HP.out] at o_out
    have h6 : n_out = 6 := by have := o_out.len; have := packL_len H4.out; omega
    subst h6
    go_wp2_with fail
    have hnil : SlR .i64 (w_4.alloc (.cells #[] 3)) 0 0 (some ⟨w_4.heap.size, 0, none⟩) 0 [] := SlR.nil (Nat.zero_le _) _
    have hB' := hB.alloc hB.size (.cells #[] 3)
    replace hB := hB'
    clear hB'
    refine (letterPack_c _ _ _ _ _ _ _ hnil).mono ?_
    rintro e w_5 ⟨A_x, n_x, c_x, rfl, o_x, h_5⟩
    have e1 : packB [] = true := by decide
    rw [e1]
    rw [packP_yes e1] at o_x
    have hx6 : n_x = 6 := by have := o_x.len; have := packL_len (xs := []) (by simp); omega
    subst hx6
    clear e1
    replace hB := hB.trans (h_5.mono hB.size)
    go_wp2_with fail
    have hz := (OwnR.of_owns (own_zeros w_5 5 (by omega))).read
    refine (letterPack_c _ _ _ _ _ _ _ hz).mono ?_
    rintro e w_9 ⟨A_y, n_y, c_y, rfl, o_y, h_9⟩
    have e1 : packB (List.replicate 5 0) = false := by decide
    rw [e1]
    clear e1 hz
    have hB' := hB.alloc hB.size (.cells (madeCells #[.int .i64 0] 5) 3)
    replace hB := hB'.trans (h_9.mono hB'.size)
    go_wp2_with fail
    go_ret
    exact ⟨ret_b (by first | rfl | simp), hB⟩
set_option maxRecDepth 100000 in
set_option maxHeartbeats 1600000 in
theorem wFnLetterChange (A : Option Addr) (n c : Nat) (xs : List Int) (A2 : Option Addr) (n2 c2 : Nat) (xs2 : List Int) (w : World) (hs : SlR .u8 w 0 w.heap.size A n xs) (hl : n ≤ c) (hc : c ≤ 9223372036854775807) (hb : ∀ x ∈ xs, 0 ≤ x ∧ x ≤ 255) (_hs2 : SlR .u8 w 0 w.heap.size A2 n2 xs2) (_hl2 : n2 ≤ c2) (_hc2 : c2 ≤ 9223372036854775807) (_hb2 : ∀ x ∈ xs2, 0 ≤ x ∧ x ≤ 255) : Calls Try.prog 25 #[.slice A n c, .slice A2 n2 c2] w fun e w' => e = .returned (.bool true) ∧ Below w.heap.size w w' := by
  by_cases hbig : 1048576 < n
  · go_enter Try.func25, Try.ntmps25
    go_wp2
    go_ret
    exact ⟨rfl, Below.refl _ _⟩
  by_cases hbig2 : 1048576 < n2
  · go_enter Try.func25, Try.ntmps25
    go_wp2
    go_ret
    exact ⟨rfl, Below.refl _ _⟩
  go_enter Try.func25, Try.ntmps25
  obtain ⟨i0, hi0, hz0, hz1, hz2⟩ := info_parts Try.infoInt
  go_wp2_with fail
  refine (drawLetterPack_c A n c xs w hs hb hl hc).mono ?_
  rintro e w_1 ⟨A_l, n_l, c_l, xs_l, rfl, o_l, b_l, h_1⟩
  have z_1 := h_1.size
  have hB := h_1
  go_wp2_with fail
  refine (letterPack_c _ _ _ _ _ _ _ o_l.read).mono ?_
  rintro e w_2 ⟨A_out, n_out, c_out, rfl, o_out, h_2⟩
  have z_2 := h_2.size
  replace o_l := o_l.below h_2 o_l.2.1
  replace hB := hB.trans (h_2.mono hB.size)
  have b_out : n_out ≤ 4194304 := by have := o_out.len; have := packP_len xs_l; omega
  go_wp2_with fail
  refine (sLetterPack_c _ _ _ _ _ _ _ o_l.read (by omega)).mono ?_
  rintro e w_3 ⟨A_want, n_want, c_want, rfl, o_want, h_3⟩
  have z_3 := h_3.size
  replace o_l := o_l.below h_3 o_l.2.1
  replace o_out := o_out.below h_3 o_out.2.1
  replace hB := hB.trans (h_3.mono hB.size)
  have b_want : n_want ≤ 4194304 := by have := o_want.len; have := packP_len xs_l; omega
  cases hok : packB xs_l with
  | false =>
    go_wp2_with fail
    refine (sameInts_t _ _ _ _ _ _ _ _ _ _ _ _ o_out.read o_want.read (by omega)).mono ?_
    rintro e w_4 ⟨rfl, h_4⟩
    have z_4 := h_4.size
    replace o_l := o_l.below h_4 o_l.2.1
    replace o_out := o_out.below h_4 o_out.2.1
    replace o_want := o_want.below h_4 o_want.2.1
    replace hB := hB.trans (h_4.mono hB.size)
    go_wp2_with fail
    refine (sameInts_t _ _ _ _ _ _ _ _ _ _ _ _ o_out.read o_want.read (by omega)).mono ?_
    rintro e w_5 ⟨rfl, h_5⟩
    have z_5 := h_5.size
    replace o_l := o_l.below h_5 o_l.2.1
    replace o_out := o_out.below h_5 o_out.2.1
    replace o_want := o_want.below h_5 o_want.2.1
    replace hB := hB.trans (h_5.mono hB.size)
    go_wp2_with fail
    go_ret
    exact ⟨rfl, hB⟩
  | true =>
    have HP := Lib.hid hok
    have H4 := Lib.hid (packB_iff.1 hok).2
    clear hok
    go_wp2_with fail
    refine (sameInts_t _ _ _ _ _ _ _ _ _ _ _ _ o_out.read o_want.read (by omega)).mono ?_
    rintro e w_4 ⟨rfl, h_4⟩
    have z_4 := h_4.size
    replace o_l := o_l.below h_4 o_l.2.1
    replace o_out := o_out.below h_4 o_out.2.1
    replace o_want := o_want.below h_4 o_want.2.1
    replace hB := hB.trans (h_4.mono hB.size)
    rw [packP_yes HP.out] at o_out
    have h6 : n_out = 6 := by have := o_out.len; have := packL_len H4.out; omega
    subst h6
    have hidx : n2 % 6 < 6 := Nat.mod_lt _ (by omega)
    have hrange := fun (i : Nat) (hi : i < 6) => listB_at (packL_listB HP.out) (i := i) (by rw [packL_len H4.out]; exact hi)
    go_wp2_with (at_builtin; go_must (refine wpList_append_new w_4 rfl _ _ 22 rfl 3 i0 Try.underlying22 hi0 hz0 hz1 hz2 rfl _ _ _ _ _ (packL xs_l) rfl o_out.read (by omega) ?_))
    intro A_x c_x w_5 o_x h_5
    have z_5 := h_5.size
    replace o_l := o_l.below h_5 o_l.2.1
    replace o_out := o_out.below h_5 o_out.2.1
    replace o_want := o_want.below h_5 o_want.2.1
    replace hB := hB.trans (h_5.mono hB.size)
    obtain ⟨g_x, rfl, hg1_x, hg2_x, hcc_x, hff_x⟩ := o_x.at_ (by omega)
    have cell_x := hcc_x (n2 % 6) hidx
    have fro_x := hff_x (n2 % 6)
    obtain ⟨old_x, hold_x⟩ : ∃ v, v = (packL xs_l).getD (n2 % 6) 0 := ⟨_, rfl⟩
    rw [← hold_x] at cell_x
    have hrg_x := hrange (n2 % 6) hidx
    rw [← hold_x] at hrg_x
    have Hold_x := Lib.hid hold_x
    clear hcc_x hff_x hold_x
    go_wp2_with fail
    refine (another_c _ _ _ hrg_x (by omega) (by omega)).mono ?_
    rintro e w' ⟨y, rfl, hy0_y, hy1_y, hyn_y, rfl⟩
    have st_x := (o_x.stored (n2 % 6) y).1
    replace o_l := o_l.setCell (p := ⟨g_x, n2 % 6, none⟩) (by simp only []; omega) (.int .i64 y)
    replace o_out := o_out.setCell (p := ⟨g_x, n2 % 6, none⟩) (by simp only []; omega) (.int .i64 y)
    replace o_want := o_want.setCell (p := ⟨g_x, n2 % 6, none⟩) (by simp only []; omega) (.int .i64 y)
    have hBn := hB.setCell (p := ⟨g_x, n2 % 6, none⟩) (by simp only []; omega) (.int .i64 y)
    replace hB := hBn
    clear hBn
    clear o_x
    have o_x := st_x
    clear st_x
    have hno : openB ((packL xs_l).set (n2 % 6) y) = false := openB_set HP.out hidx ⟨hy0_y, hy1_y⟩ (by rw [← Hold_x.out]; exact hyn_y)
    have HNO := Lib.hid hno
    have HN := Lib.hid hyn_y
    clear hno hyn_y hrange
    go_wp2_with fail
    refine (letterOpen_c _ _ _ _ _ _ _ o_x.read o_x.cap).mono ?_
    rintro e w_6 ⟨A_z, n_z, c_z, rfl, o_z, h_6⟩
    have z_6 := h_6.size
    replace o_l := o_l.below h_6 o_l.2.1
    replace o_out := o_out.below h_6 o_out.2.1
    replace o_want := o_want.below h_6 o_want.2.1
    replace o_x := o_x.below h_6 o_x.2.1
    replace hB := hB.trans (h_6.mono hB.size)
    have b_z : n_z ≤ 4194304 := by have := o_z.len; have := openP_len ((packL xs_l).set (n2 % 6) y); omega
    rw [HNO.out]
    go_wp2_with fail
    go_ret
    exact ⟨ret_b (by first | rfl | simp), hB⟩
set_option maxRecDepth 100000 in
set_option maxHeartbeats 1600000 in
theorem wFnTagChange (A : Option Addr) (n c : Nat) (xs : List Int) (A2 : Option Addr) (n2 c2 : Nat) (xs2 : List Int) (w : World) (hs : SlR .u8 w 0 w.heap.size A n xs) (hl : n ≤ c) (hc : c ≤ 9223372036854775807) (hb : ∀ x ∈ xs, 0 ≤ x ∧ x ≤ 255) (_hs2 : SlR .u8 w 0 w.heap.size A2 n2 xs2) (_hl2 : n2 ≤ c2) (_hc2 : c2 ≤ 9223372036854775807) (_hb2 : ∀ x ∈ xs2, 0 ≤ x ∧ x ≤ 255) : Calls Try.prog 15 #[.slice A n c, .slice A2 n2 c2] w fun e w' => e = .returned (.bool true) ∧ Below w.heap.size w w' := by
  by_cases hbig : 1048576 < n
  · go_enter Try.func15, Try.ntmps15
    go_wp2
    go_ret
    exact ⟨rfl, Below.refl _ _⟩
  by_cases hbig2 : 1048576 < n2
  · go_enter Try.func15, Try.ntmps15
    go_wp2
    go_ret
    exact ⟨rfl, Below.refl _ _⟩
  go_enter Try.func15, Try.ntmps15
  obtain ⟨i0, hi0, hz0, hz1, hz2⟩ := info_parts Try.infoInt
  go_wp2_with fail
  refine (drawTagOf_c A n c xs w hs hb hl hc).mono ?_
  rintro e w_1 ⟨A_l, n_l, c_l, xs_l, key, rfl, o_l, b_l, h_1⟩
  have z_1 := h_1.size
  have hB := h_1
  go_wp2_with fail
  refine (tagOf_c _ _ _ _ _ _ _ _ o_l.read).mono ?_
  rintro e w' ⟨rfl, rfl⟩
  go_wp2_with fail
  refine (sTagOf_c _ _ _ _ _ _ _ _ o_l.read (by omega)).mono ?_
  rintro e w' ⟨rfl, rfl⟩
  have htb := tagP_bd key xs_l
  obtain ⟨htb1, htb2⟩ := htb
  by_cases hneg : tagP key xs_l < 0
  · go_wp2_with fail
    go_ret
    exact ⟨rfl, hB⟩
  have hgood := tagP_good (xs := xs_l) (k := key) (by omega)
  have HX := Lib.hid hgood.1
  have HL := Lib.hid hgood.2
  clear hgood
  have hlen := o_l.len
  have HLEN := Lib.hid hlen
  clear hlen
  by_cases h0 : n_l = 0
  · have hb0 : ((n_l : Int) == 0) = true := by simp [h0]
    have H0 := Lib.hid h0
    clear h0
    go_wp2_with fail
    go_ret
    exact ⟨rfl, hB⟩
  have hb0 : ((n_l : Int) == 0) = false := by simp; omega
  have hidx : n2 % n_l < n_l := Nat.mod_lt _ (by omega)
  have hrange := fun (i : Nat) (hi : i < n_l) => listB_at HL.out (i := i) (by rw [HLEN.out]; exact hi)
  go_wp2_with (at_builtin; go_must (refine wpList_append_new w_1 rfl _ _ 22 rfl 3 i0 Try.underlying22 hi0 hz0 hz1 hz2 rfl _ _ _ _ _ (xs_l) rfl o_l.read (by omega) ?_))
  intro A_x c_x w_2 o_x h_2
  have z_2 := h_2.size
  replace o_l := o_l.below h_2 o_l.2.1
  replace hB := hB.trans (h_2.mono hB.size)
  obtain ⟨g_x, rfl, hg1_x, hg2_x, hcc_x, hff_x⟩ := o_x.at_ (by omega)
  have cell_x := hcc_x (n2 % n_l) hidx
  have fro_x := hff_x (n2 % n_l)
  obtain ⟨old_x, hold_x⟩ : ∃ v, v = (xs_l).getD (n2 % n_l) 0 := ⟨_, rfl⟩
  rw [← hold_x] at cell_x
  have hrg_x := hrange (n2 % n_l) hidx
  rw [← hold_x] at hrg_x
  have Hold_x := Lib.hid hold_x
  clear hcc_x hff_x hold_x
  go_wp2_with fail
  refine (another_c _ _ _ hrg_x (by omega) (by omega)).mono ?_
  rintro e w' ⟨y, rfl, hy0_y, hy1_y, hyn_y, rfl⟩
  have st_x := (o_x.stored (n2 % n_l) y).1
  replace o_l := o_l.setCell (p := ⟨g_x, n2 % n_l, none⟩) (by simp only []; omega) (.int .i64 y)
  have hBn := hB.setCell (p := ⟨g_x, n2 % n_l, none⟩) (by simp only []; omega) (.int .i64 y)
  replace hB := hBn
  clear hBn
  clear o_x
  have o_x := st_x
  clear st_x
  have hne := tagP_set HX.out HL.out (j := n2 % n_l) (by rw [HLEN.out]; exact hidx) ⟨hy0_y, hy1_y⟩ (by rw [← Hold_x.out]; exact hyn_y)
  have t1 : (tagP key (xs_l.set (n2 % n_l) y) != tagP key xs_l) = true := by simpa using hne
  have t2 : checkP key (xs_l.set (n2 % n_l) y) (tagP key xs_l) = false := by
    cases g : checkP key (xs_l.set (n2 % n_l) y) (tagP key xs_l) with
    | false => rfl
    | true => exact absurd (checkP_iff.1 g).2.symm hne
  have T1 := Lib.hid t1
  have T2 := Lib.hid t2
  have HN := Lib.hid hyn_y
  clear hne t1 t2 hyn_y hrange
  go_wp2_with fail
  refine (tagOf_c _ _ _ _ _ _ _ _ o_x.read).mono ?_
  rintro e w' ⟨rfl, rfl⟩
  have t1 := T1.out
  go_wp2_with fail
  refine (tagCheck_c _ _ _ _ _ _ _ _ _ o_x.read).mono ?_
  rintro e w' ⟨rfl, rfl⟩
  rw [T2.out]
  go_wp2_with fail
  go_ret
  exact ⟨ret_b (by first | rfl | simp), hB⟩
end Go.Proofs.Ytiiofcldblgmcaa
