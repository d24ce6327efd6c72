/-
  The walks of the statements on letters.
  Conditions: the arguments read as lists of bytes.
-/
import Derived.Test.YtiiofcldblgmcaaLawsC
namespace Go.Proofs.Ytiiofcldblgmcaa
open Go Go.RowKit

set_option maxRecDepth 100000 in
set_option maxHeartbeats 1600000 in
theorem wFnLetter (A : Option Addr) (n c : Nat) (xs : List Int) (w : World) (hs : SlR .u8 w 0 w.heap.size A n xs) (hl : n ≤ c) (hc : c ≤ 9223372036854775807) (hb : ∀ x ∈ xs, 0 ≤ x ∧ x ≤ 255) : Calls Try.prog 24 #[.slice A n c] w fun e w' => e = .returned (.bool true) ∧ Below w.heap.size w w' := by
  by_cases hbig : 1048576 < n
  · go_enter Try.func24, Try.ntmps24
    go_wp2
    go_ret
    exact ⟨rfl, Below.refl _ _⟩
  go_enter Try.func24, Try.ntmps24
  go_wp2_with fail
  refine (drawLetterPack_c A n c xs w hs hb hl hc).mono ?_
  rintro e w_1 ⟨A_l, n_l, c_l, xs_l, rfl, o_l, b_l, h_1⟩
  have z_1 := h_1.size
  have hB := h_1
  go_wp2_with fail
  refine (letterPack_c _ _ _ _ _ _ _ o_l.read).mono ?_
  rintro e w_2 ⟨A_out, n_out, c_out, rfl, o_out, h_2⟩
  have z_2 := h_2.size
  replace o_l := o_l.below h_2 o_l.2.1
  replace hB := hB.trans (h_2.mono hB.size)
  have b_out : n_out ≤ 4194304 := by have := o_out.len; have := packP_len xs_l; omega
  go_wp2_with fail
  refine (sLetterPack_c _ _ _ _ _ _ _ o_l.read (by omega)).mono ?_
  rintro e w_3 ⟨A_want, n_want, c_want, rfl, o_want, h_3⟩
  have z_3 := h_3.size
  replace o_l := o_l.below h_3 o_l.2.1
  replace o_out := o_out.below h_3 o_out.2.1
  replace hB := hB.trans (h_3.mono hB.size)
  have b_want : n_want ≤ 4194304 := by have := o_want.len; have := packP_len xs_l; omega
  cases hok : packB xs_l with
  | false =>
    go_wp2_with fail
    refine (sameInts_t _ _ _ _ _ _ _ _ _ _ _ _ o_out.read o_want.read (by omega)).mono ?_
    rintro e w_4 ⟨rfl, h_4⟩
    have z_4 := h_4.size
    replace o_l := o_l.below h_4 o_l.2.1
    replace o_out := o_out.below h_4 o_out.2.1
    replace o_want := o_want.below h_4 o_want.2.1
    replace hB := hB.trans (h_4.mono hB.size)
    go_wp2_with fail
    refine (sameInts_t _ _ _ _ _ _ _ _ _ _ _ _ o_out.read o_want.read (by omega)).mono ?_
    rintro e w_5 ⟨rfl, h_5⟩
    have z_5 := h_5.size
    replace o_l := o_l.below h_5 o_l.2.1
    replace o_out := o_out.below h_5 o_out.2.1
    replace o_want := o_want.below h_5 o_want.2.1
    replace hB := hB.trans (h_5.mono hB.size)
    go_wp2_with fail
    go_ret
    exact ⟨rfl, hB⟩
  | true =>
    have HP := Lib.hid hok
    have H4 := Lib.hid (packB_iff.1 hok).2
    clear hok
    go_wp2_with fail
    refine (sameInts_t _ _ _ _ _ _ _ _ _ _ _ _ o_out.read o_want.read (by omega)).mono ?_
    rintro e w_4 ⟨rfl, h_4⟩
    have z_4 := h_4.size
    replace o_l := o_l.below h_4 o_l.2.1
    replace o_out := o_out.below h_4 o_out.2.1
    replace o_want := o_want.below h_4 o_want.2.1
    replace hB := hB.trans (h_4.mono hB.size)
    rw [packP_yes HP.out] at o_out
    go_wp2_with fail
    refine (letterOpen_c _ _ _ _ _ _ _ o_out.read o_out.cap).mono ?_
    rintro e w_5 ⟨A_x, n_x, c_x, rfl, o_x, h_5⟩
    have z_5 := h_5.size
    replace o_l := o_l.below h_5 o_l.2.1
    replace o_out := o_out.below h_5 o_out.2.1
    replace o_want := o_want.below h_5 o_want.2.1
    replace hB := hB.trans (h_5.mono hB.size)
    have b_x : n_x ≤ 4194304 := by have := o_x.len; have := openP_len (packL xs_l); omega
    rw [openP_packL HP.out] at o_x
    rw [openB_packL HP.out]
    go_wp2_with fail
    refine (sameInts_t _ _ _ _ _ _ _ _ _ _ _ _ o_x.read o_l.read (by omega)).mono ?_
    rintro e w_6 ⟨rfl, h_6⟩
    have z_6 := h_6.size
    replace o_l := o_l.below h_6 o_l.2.1
    replace o_out := o_out.below h_6 o_out.2.1
    replace o_want := o_want.below h_6 o_want.2.1
    replace o_x := o_x.below h_6 o_x.2.1
    replace hB := hB.trans (h_6.mono hB.size)
    have h6 : n_out = 6 := by have := o_out.len; have := packL_len H4.out; omega
    subst h6
    go_wp2_with fail
    go_ret
    exact ⟨rfl, hB⟩
end Go.Proofs.Ytiiofcldblgmcaa
