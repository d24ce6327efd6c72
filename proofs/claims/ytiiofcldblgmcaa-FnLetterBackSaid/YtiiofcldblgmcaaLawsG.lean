/-
  The walks of further statements on masks and streams.
  Conditions: the arguments read as lists of bytes.
-/
import Derived.Test.YtiiofcldblgmcaaLawsC
namespace Go.Proofs.Ytiiofcldblgmcaa
open Go Go.RowKit

theorem strP_pos {k m : Int} (h : 0 < (strP k m).length) : elB k = true ∧ 0 ≤ m ∧ m ≤ 24 := by
  unfold strP at h
  split at h
  · assumption
  · simp at h

set_option maxRecDepth 100000 in
set_option maxHeartbeats 1600000 in
theorem wFnMaskLength (A : Option Addr) (n c : Nat) (xs : List Int) (w : World) (hs : SlR .u8 w 0 w.heap.size A n xs) (hl : n ≤ c) (hc : c ≤ 9223372036854775807) (hb : ∀ x ∈ xs, 0 ≤ x ∧ x ≤ 255) : Calls Try.prog 21 #[.slice A n c] w fun e w' => e = .returned (.bool true) ∧ Below w.heap.size w w' := by
  by_cases hbig : 1048576 < n
  · go_enter Try.func21, Try.ntmps21
    go_wp2
    go_ret
    exact ⟨rfl, Below.refl _ _⟩
  go_enter Try.func21, Try.ntmps21
  go_wp2_with fail
  refine (drawMaskOff_c A n c xs w hs hb hl hc).mono ?_
  rintro e w_1 ⟨A_l, n_l, c_l, xs_l, key, rfl, o_l, b_l, h_1⟩
  have z_1 := h_1.size
  have hB := h_1
  go_wp2_with fail
  refine (maskOff_c _ _ _ _ _ _ _ _ o_l.read).mono ?_
  rintro e w_2 ⟨A_out, n_out, c_out, rfl, o_out, h_2⟩
  have z_2 := h_2.size
  replace o_l := o_l.below h_2 o_l.2.1
  replace hB := hB.trans (h_2.mono hB.size)
  have b_out : n_out ≤ 4194304 := by have := o_out.len; have := offP_len (xs_l) (key); omega
  go_wp2_with fail
  refine (sMaskOff_c _ _ _ _ _ _ _ _ o_l.read (by omega)).mono ?_
  rintro e w_3 ⟨A_want, n_want, c_want, rfl, o_want, h_3⟩
  have z_3 := h_3.size
  replace o_l := o_l.below h_3 o_l.2.1
  replace o_out := o_out.below h_3 o_out.2.1
  replace hB := hB.trans (h_3.mono hB.size)
  have b_want : n_want ≤ 4194304 := by have := o_want.len; have := offP_len xs_l key; omega
  go_wp2_with fail
  refine (sameInts_t _ _ _ _ _ _ _ _ _ _ _ _ o_out.read o_want.read (by omega)).mono ?_
  rintro e w_4 ⟨rfl, h_4⟩
  have z_4 := h_4.size
  replace o_l := o_l.below h_4 o_l.2.1
  replace o_out := o_out.below h_4 o_out.2.1
  replace o_want := o_want.below h_4 o_want.2.1
  replace hB := hB.trans (h_4.mono hB.size)
  by_cases h0 : n_out = 0
  · have hb0 : ((n_out : Int) == 0) = true := by simp [h0]
    have H0 := Lib.hid h0
    clear h0
    go_wp2_with fail
    refine (sameInts_t _ _ _ _ _ _ _ _ _ _ _ _ o_out.read o_want.read (by omega)).mono ?_
    rintro e w_5 ⟨rfl, h_5⟩
    have z_5 := h_5.size
    replace o_l := o_l.below h_5 o_l.2.1
    replace o_out := o_out.below h_5 o_out.2.1
    replace o_want := o_want.below h_5 o_want.2.1
    replace hB := hB.trans (h_5.mono hB.size)
    go_wp2_with fail
    go_ret
    exact ⟨rfl, hB⟩
  have hb0 : ((n_out : Int) == 0) = false := by simp; omega
  obtain ⟨hx, hk⟩ := offP_pos (xs := xs_l) (k := key) (by have := o_out.len; omega)
  have h24 := (listB_iff.1 hx).1
  have HX := Lib.hid hx
  have HK := Lib.hid hk
  clear hx hk
  rw [offP_eq HX.out HK.out] at o_out
  have hnn : n_l = n_out := by have := o_out.len; have := o_l.len; have := offL_len xs_l key; omega
  subst hnn
  have hr := fun (i : Nat) (hi : i < n_l) => listB_at (offL_listB h24 key) (i := i) (by rw [o_out.len]; exact hi)
  have HR := Lib.hid hr
  clear hr
  go_wp2_with fail
  go_loop [7] (fun i => ∃ k : Nat, k ≤ n_l ∧ i = .int .i64 k) (fun i => n_l - (intOf i).toNat)
  case atStart => exact ⟨0, Nat.zero_le _, rfl⟩
  case round =>
    obtain ⟨k, hk, rfl⟩ := hrel
    by_cases hlt : k < n_l
    · obtain ⟨b, ob, rfl, _, _, hcc⟩ := o_out.read.at_ (by omega)
      have hcell := hcc k hlt
      obtain ⟨v, hv⟩ : ∃ v, v = (offL xs_l key).getD k 0 := ⟨_, rfl⟩
      rw [← hv] at hcell
      have hbd := HR.out k hlt
      rw [← hv] at hbd
      obtain ⟨hbd1, hbd2⟩ := hbd
      clear hcc hv
      go_wp2
      go_round
      case rel => exact ⟨k + 1, by omega, by go_num⟩
      case measure => simp [intOf]; omega
    · have hge : n_l ≤ k := by omega
      go_wp2_with fail
      refine (maskOn_c _ _ _ _ _ _ _ _ o_l.read).mono ?_
      rintro e w_5 ⟨A_r, n_r, c_r, rfl, o_r, h_5⟩
      have z_5 := h_5.size
      replace o_l := o_l.below h_5 o_l.2.1
      replace o_out := o_out.below h_5 o_out.2.1
      replace o_want := o_want.below h_5 o_want.2.1
      replace hB := hB.trans (h_5.mono hB.size)
      have b_r : n_r ≤ 4194304 := by have := o_r.len; have := onP_len (xs_l) (key); omega
      rw [onP_eq HX.out HK.out] at o_r
      have hnr : n_l = n_r := by have := o_r.len; have := o_l.len; have := onL_len xs_l key; omega
      subst hnr
      go_wp2_with fail
      go_ret
      exact ⟨ret_b (by first | rfl | simp), hB⟩
set_option maxRecDepth 100000 in
set_option maxHeartbeats 1600000 in
theorem wFnMaskOne (A : Option Addr) (n c : Nat) (xs : List Int) (A2 : Option Addr) (n2 c2 : Nat) (xs2 : List Int) (w : World) (hs : SlR .u8 w 0 w.heap.size A n xs) (hl : n ≤ c) (hc : c ≤ 9223372036854775807) (hb : ∀ x ∈ xs, 0 ≤ x ∧ x ≤ 255) (_hs2 : SlR .u8 w 0 w.heap.size A2 n2 xs2) (_hl2 : n2 ≤ c2) (_hc2 : c2 ≤ 9223372036854775807) (_hb2 : ∀ x ∈ xs2, 0 ≤ x ∧ x ≤ 255) : Calls Try.prog 20 #[.slice A n c, .slice A2 n2 c2] w fun e w' => e = .returned (.bool true) ∧ Below w.heap.size w w' := by
  by_cases hbig : 1048576 < n
  · go_enter Try.func20, Try.ntmps20
    go_wp2
    go_ret
    exact ⟨rfl, Below.refl _ _⟩
  by_cases hbig2 : 1048576 < n2
  · go_enter Try.func20, Try.ntmps20
    go_wp2
    go_ret
    exact ⟨rfl, Below.refl _ _⟩
  go_enter Try.func20, Try.ntmps20
  obtain ⟨i0, hi0, hz0, hz1, hz2⟩ := info_parts Try.infoInt
  go_wp2_with fail
  refine (drawMaskOn_c A n c xs w hs hb hl hc).mono ?_
  rintro e w_1 ⟨A_l, n_l, c_l, xs_l, key, rfl, o_l, b_l, h_1⟩
  have z_1 := h_1.size
  have hB := h_1
  go_wp2_with fail
  refine (maskOn_c _ _ _ _ _ _ _ _ o_l.read).mono ?_
  rintro e w_2 ⟨A_out, n_out, c_out, rfl, o_out, h_2⟩
  have z_2 := h_2.size
  replace o_l := o_l.below h_2 o_l.2.1
  replace hB := hB.trans (h_2.mono hB.size)
  have b_out : n_out ≤ 4194304 := by have := o_out.len; have := onP_len (xs_l) (key); omega
  go_wp2_with fail
  refine (sMaskOn_c _ _ _ _ _ _ _ _ o_l.read (by omega)).mono ?_
  rintro e w_3 ⟨A_want, n_want, c_want, rfl, o_want, h_3⟩
  have z_3 := h_3.size
  replace o_l := o_l.below h_3 o_l.2.1
  replace o_out := o_out.below h_3 o_out.2.1
  replace hB := hB.trans (h_3.mono hB.size)
  have b_want : n_want ≤ 4194304 := by have := o_want.len; have := onP_len xs_l key; omega
  go_wp2_with fail
  refine (sameInts_t _ _ _ _ _ _ _ _ _ _ _ _ o_out.read o_want.read (by omega)).mono ?_
  rintro e w_4 ⟨rfl, h_4⟩
  have z_4 := h_4.size
  replace o_l := o_l.below h_4 o_l.2.1
  replace o_out := o_out.below h_4 o_out.2.1
  replace o_want := o_want.below h_4 o_want.2.1
  replace hB := hB.trans (h_4.mono hB.size)
  by_cases h0 : n_out = 0
  · have hb0 : ((n_out : Int) == 0) = true := by simp [h0]
    have H0 := Lib.hid h0
    clear h0
    go_wp2_with fail
    refine (sameInts_t _ _ _ _ _ _ _ _ _ _ _ _ o_out.read o_want.read (by omega)).mono ?_
    rintro e w_5 ⟨rfl, h_5⟩
    have z_5 := h_5.size
    replace o_l := o_l.below h_5 o_l.2.1
    replace o_out := o_out.below h_5 o_out.2.1
    replace o_want := o_want.below h_5 o_want.2.1
    replace hB := hB.trans (h_5.mono hB.size)
    go_wp2_with fail
    go_ret
    exact ⟨rfl, hB⟩
  have hb0 : ((n_out : Int) == 0) = false := by simp; omega
  obtain ⟨hx, hk⟩ := onP_pos (xs := xs_l) (k := key) (by have := o_out.len; omega)
  have h24 := (listB_iff.1 hx).1
  have HX := Lib.hid hx
  have HK := Lib.hid hk
  clear hx hk
  rw [onP_eq HX.out HK.out] at o_out
  have hnn : n_l = n_out := by have := o_out.len; have := o_l.len; have := onL_len xs_l key; omega
  subst hnn
  have hlen := o_l.len
  have HLEN := Lib.hid hlen
  clear hlen
  have hidx : n2 % n_l < n_l := Nat.mod_lt _ (by omega)
  have hrange := fun (i : Nat) (hi : i < n_l) => listB_at HX.out (i := i) (by rw [HLEN.out]; exact hi)
  go_wp2_with (at_builtin; go_must (refine wpList_append_new w_4 rfl _ _ 22 rfl 3 i0 Try.underlying22 hi0 hz0 hz1 hz2 rfl _ _ _ _ _ (xs_l) rfl o_l.read (by omega) ?_))
  intro A_x c_x w_5 o_x h_5
  have z_5 := h_5.size
  replace o_l := o_l.below h_5 o_l.2.1
  replace o_out := o_out.below h_5 o_out.2.1
  replace o_want := o_want.below h_5 o_want.2.1
  replace hB := hB.trans (h_5.mono hB.size)
  obtain ⟨g_x, rfl, hg1_x, hg2_x, hcc_x, hff_x⟩ := o_x.at_ (by omega)
  have cell_x := hcc_x (n2 % n_l) hidx
  have fro_x := hff_x (n2 % n_l)
  obtain ⟨old_x, hold_x⟩ : ∃ v, v = (xs_l).getD (n2 % n_l) 0 := ⟨_, rfl⟩
  rw [← hold_x] at cell_x
  have hrg_x := hrange (n2 % n_l) hidx
  rw [← hold_x] at hrg_x
  have Hold_x := Lib.hid hold_x
  clear hcc_x hff_x hold_x
  go_wp2_with fail
  refine (another_c _ _ _ hrg_x (by omega) (by omega)).mono ?_
  rintro e w' ⟨y, rfl, hy0_y, hy1_y, hyn_y, rfl⟩
  have st_x := (o_x.stored (n2 % n_l) y).1
  replace o_l := o_l.setCell (p := ⟨g_x, n2 % n_l, none⟩) (by simp only []; omega) (.int .i64 y)
  replace o_out := o_out.setCell (p := ⟨g_x, n2 % n_l, none⟩) (by simp only []; omega) (.int .i64 y)
  replace o_want := o_want.setCell (p := ⟨g_x, n2 % n_l, none⟩) (by simp only []; omega) (.int .i64 y)
  have hBn := hB.setCell (p := ⟨g_x, n2 % n_l, none⟩) (by simp only []; omega) (.int .i64 y)
  replace hB := hBn
  clear hBn
  clear o_x
  have o_x := st_x
  clear st_x
  go_wp2_with fail
  refine (maskOn_c _ _ _ _ _ _ _ _ o_x.read).mono ?_
  rintro e w_6 ⟨A_ym, n_ym, c_ym, rfl, o_ym, h_6⟩
  have z_6 := h_6.size
  replace o_l := o_l.below h_6 o_l.2.1
  replace o_out := o_out.below h_6 o_out.2.1
  replace o_want := o_want.below h_6 o_want.2.1
  replace o_x := o_x.below h_6 o_x.2.1
  replace hB := hB.trans (h_6.mono hB.size)
  have b_ym : n_ym ≤ 4194304 := by have := o_ym.len; have := onP_len (xs_l.set (n2 % n_l) y) (key); omega
  rw [onP_eq (set_listB HX.out ⟨hy0_y, hy1_y⟩) HK.out] at o_ym
  have hny : n_l = n_ym := by have := o_ym.len; have := onL_len (xs_l.set (n2 % n_l) y) key; have : (xs_l.set (n2 % n_l) y).length = xs_l.length := List.length_set; have := HLEN.out; omega
  subst hny
  have hS := fun (i : Nat) (hi : i < n_l) => onL_set HX.out key (j := n2 % n_l) (i := i) (y := y) ⟨hy0_y, hy1_y⟩ (by rw [HLEN.out]; exact hidx) (by rw [← Hold_x.out]; exact hyn_y) (by rw [HLEN.out]; exact hi)
  have HS := Lib.hid hS
  have HN := Lib.hid hyn_y
  clear hS hyn_y hrange
  go_wp2_with fail
  go_loopw [12] (fun i wr => ∃ k : Nat, k ≤ n_l ∧ i = .int .i64 k ∧ Below w_6.heap.size w_6 wr) (fun i _ => n_l - (intOf i).toNat)
  case atStart => exact ⟨0, Nat.zero_le _, rfl, Below.refl _ _⟩
  case round =>
    obtain ⟨k, hk, rfl, hnx⟩ := hrel
    by_cases hlt : k < n_l
    · have s1 := (o_ym.below hnx o_ym.2.1).read
      have s2 := (o_out.below hnx o_out.2.1).read
      obtain ⟨b, ob, rfl, _, _, hcc⟩ := s1.at_ (by omega)
      obtain ⟨b', ob', rfl, _, _, hcc'⟩ := s2.at_ (by omega)
      have hcell := hcc k hlt
      have hcell' := hcc' k hlt
      have hiff := HS.out k hlt
      obtain ⟨v, hv⟩ : ∃ v, v = (onL (xs_l.set (n2 % n_l) y) key).getD k 0 := ⟨_, rfl⟩
      obtain ⟨v', hv'⟩ : ∃ v, v = (onL xs_l key).getD k 0 := ⟨_, rfl⟩
      rw [← hv] at hcell hiff
      rw [← hv'] at hcell' hiff
      have hi0' : (0 : Int) ≤ (k : Int) := Int.natCast_nonneg _
      have hi1 : (k : Int) < (n_l : Int) := by omega
      clear hcc hcc' hv hv' s1 s2
      by_cases hkk : k = n2 % n_l
      · have hb1 : (v != v') = true := by simpa using hiff.2 hkk
        have hb2 : ((k : Int) == (n2 : Int) % (n_l : Int)) = true := by rw [beq_iff_eq, hkk, Int.natCast_emod]
        have HKK := Lib.hid hkk
        clear hiff hkk
        go_wp2_with fail
        go_quiet (fail)
        go_wp2
        go_roundw
        case rel => exact ⟨k + 1, by omega, by go_num, below_drewN hnx _⟩
        case measure => simp [intOf]; omega
      · have hb1 : (v != v') = false := by simpa using fun e => hkk (hiff.1 e)
        have hb2 : ((k : Int) == (n2 : Int) % (n_l : Int)) = false := by rw [beq_eq_false_iff_ne, ← Int.natCast_emod]; omega
        have HKK := Lib.hid hkk
        clear hiff hkk
        go_wp2_with fail
        go_quiet (fail)
        go_wp2
        go_roundw
        case rel => exact ⟨k + 1, by omega, by go_num, below_drewN hnx _⟩
        case measure => simp [intOf]; omega
    · go_wp2
      go_ret
      exact ⟨rfl, hB.trans (hnx.mono hB.size)⟩
set_option maxRecDepth 100000 in
set_option maxHeartbeats 1600000 in
theorem wFnMaskZero (A : Option Addr) (n c : Nat) (xs : List Int) (w : World) (hs : SlR .u8 w 0 w.heap.size A n xs) (hl : n ≤ c) (hc : c ≤ 9223372036854775807) (hb : ∀ x ∈ xs, 0 ≤ x ∧ x ≤ 255) : Calls Try.prog 9 #[.slice A n c] w fun e w' => e = .returned (.bool true) ∧ Below w.heap.size w w' := by
  by_cases hbig : 1048576 < n
  · go_enter Try.func9, Try.ntmps9
    go_wp2
    go_ret
    exact ⟨rfl, Below.refl _ _⟩
  go_enter Try.func9, Try.ntmps9
  go_wp2_with fail
  refine (drawStreamOf_c A n c xs w hs hb hl hc).mono ?_
  rintro e w_1 ⟨key, m, rfl, h_1⟩
  have z_1 := h_1.size
  have hB := h_1
  go_wp2_with fail
  refine (streamOf_c _ _ _).mono ?_
  rintro e w_2 ⟨A_out, n_out, c_out, rfl, o_out, h_2⟩
  have z_2 := h_2.size
  replace hB := hB.trans (h_2.mono hB.size)
  have b_out : n_out ≤ 4194304 := by have := o_out.len; have := strP_len key m; omega
  go_wp2_with fail
  refine (sStreamOf_c _ _ _).mono ?_
  rintro e w_3 ⟨A_want, n_want, c_want, rfl, o_want, h_3⟩
  have z_3 := h_3.size
  replace o_out := o_out.below h_3 o_out.2.1
  replace hB := hB.trans (h_3.mono hB.size)
  have b_want : n_want ≤ 4194304 := by have := o_want.len; have := strP_len key m; omega
  go_wp2_with fail
  refine (sameInts_t _ _ _ _ _ _ _ _ _ _ _ _ o_out.read o_want.read (by omega)).mono ?_
  rintro e w_4 ⟨rfl, h_4⟩
  have z_4 := h_4.size
  replace o_out := o_out.below h_4 o_out.2.1
  replace o_want := o_want.below h_4 o_want.2.1
  replace hB := hB.trans (h_4.mono hB.size)
  by_cases h0 : n_out = 0
  · have hb0 : ((n_out : Int) == 0) = true := by simp [h0]
    have H0 := Lib.hid h0
    clear h0
    go_wp2_with fail
    refine (sameInts_t _ _ _ _ _ _ _ _ _ _ _ _ o_out.read o_want.read (by omega)).mono ?_
    rintro e w_5 ⟨rfl, h_5⟩
    have z_5 := h_5.size
    replace o_out := o_out.below h_5 o_out.2.1
    replace o_want := o_want.below h_5 o_want.2.1
    replace hB := hB.trans (h_5.mono hB.size)
    go_wp2_with fail
    go_ret
    exact ⟨rfl, hB⟩
  have hb0 : ((n_out : Int) == 0) = false := by simp; omega
  obtain ⟨hk, h0', h24⟩ := strP_pos (k := key) (m := m) (by have := o_out.len; omega)
  obtain ⟨N, rfl⟩ := Int.eq_ofNat_of_zero_le h0'
  have hN : N ≤ 24 := by omega
  have e1 : strP key (N : Int) = strL key N := if_pos ⟨hk, h0', h24⟩
  rw [e1] at o_out
  have HK := Lib.hid hk
  clear hk e1 h24 h0'
  have hmk := fun W => run_make_row' (P := Try.prog) 22 3 (.int .i64 0) 8 Try.underlying22 Try.infoInt rfl .i64 .i64 N (by omega) (by omega) W
  go_wp2_with fail
  have h_a : Below w_4.heap.size w_4 (w_4.alloc (.cells (madeCells #[.int .i64 0] N) 3)) := (Below.refl _ _).alloc (Nat.le_refl _) _
  have z_a := h_a.size
  have o_z := OwnR.of_owns (own_zeros w_4 N (by omega))
  replace o_out := o_out.below h_a o_out.2.1
  replace o_want := o_want.below h_a o_want.2.1
  replace hB := hB.trans (h_a.mono hB.size)
  refine (maskOn_c _ _ _ _ _ _ _ _ o_z.read).mono ?_
  rintro e w_5 ⟨A_r1, n_r1, c_r1, rfl, o_r1, h_5⟩
  have z_5 := h_5.size
  replace o_out := o_out.below h_5 o_out.2.1
  replace o_want := o_want.below h_5 o_want.2.1
  replace o_z := o_z.below h_5 o_z.2.1
  replace hB := hB.trans (h_5.mono hB.size)
  have b_r1 : n_r1 ≤ 4194304 := by have := o_r1.len; have := onP_len (List.replicate N 0) key; omega
  rw [onP_eq (zeros_listB hN) HK.out, strL_zero] at o_r1
  go_wp2_with fail
  refine (sameInts_t _ _ _ _ _ _ _ _ _ _ _ _ o_r1.read o_out.read (by omega)).mono ?_
  rintro e w_6 ⟨rfl, h_6⟩
  have z_6 := h_6.size
  replace o_out := o_out.below h_6 o_out.2.1
  replace o_want := o_want.below h_6 o_want.2.1
  replace o_z := o_z.below h_6 o_z.2.1
  replace o_r1 := o_r1.below h_6 o_r1.2.1
  replace hB := hB.trans (h_6.mono hB.size)
  go_wp2_with fail
  refine (maskOff_c _ _ _ _ _ _ _ _ o_out.read).mono ?_
  rintro e w_7 ⟨A_r2, n_r2, c_r2, rfl, o_r2, h_7⟩
  have z_7 := h_7.size
  replace o_out := o_out.below h_7 o_out.2.1
  replace o_want := o_want.below h_7 o_want.2.1
  replace o_z := o_z.below h_7 o_z.2.1
  replace o_r1 := o_r1.below h_7 o_r1.2.1
  replace hB := hB.trans (h_7.mono hB.size)
  have b_r2 : n_r2 ≤ 4194304 := by have := o_r2.len; have := offP_len (strL key N) (key); omega
  have e2 : offP (strL key N) key = List.replicate N 0 := by rw [offP_eq (strL_listB key hN) HK.out, ← strL_zero, off_on (zeros_listB hN)]
  rw [e2] at o_r2
  clear e2
  go_wp2_with fail
  refine (sameInts_t _ _ _ _ _ _ _ _ _ _ _ _ o_r2.read o_z.read (by omega)).mono ?_
  rintro e w_8 ⟨rfl, h_8⟩
  have z_8 := h_8.size
  replace o_out := o_out.below h_8 o_out.2.1
  replace o_want := o_want.below h_8 o_want.2.1
  replace o_z := o_z.below h_8 o_z.2.1
  replace o_r1 := o_r1.below h_8 o_r1.2.1
  replace o_r2 := o_r2.below h_8 o_r2.2.1
  replace hB := hB.trans (h_8.mono hB.size)
  go_wp2_with fail
  go_ret
  exact ⟨rfl, hB⟩
end Go.Proofs.Ytiiofcldblgmcaa
