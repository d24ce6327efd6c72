/-
  The walk of the statement that the program's keys of a path are the reference's.
  Conditions: a slice among the arguments reads as a list of whole numbers.
-/
import Derived.Test.YtalnilighempmaaExactB
import Derived.Test.YtalnilighempmaaPath
namespace Go.Proofs.Ytalnilighempmaa
open Go Go.RowKit

set_option maxRecDepth 100000 in
set_option maxHeartbeats 1600000 in
theorem wFnExactPathKeys (s : Int) (A : Option Addr) (n c : Nat) (xs : List Int) (w : World) (hs : SlR .i64 w 0 w.heap.size A n xs) (_hl : n ≤ c) (_hc : c ≤ 9223372036854775807) : Calls Try.prog 7 #[.int .i64 s, .slice A n c] w fun e w' => e = .returned (.bool true) ∧ Below w.heap.size w w' := by
  by_cases hbig : 1048576 < n
  · go_enter Try.func7, Try.ntmps7
    go_wp2
    go_ret
    exact ⟨rfl, Below.refl _ _⟩
  · go_enter Try.func7, Try.ntmps7
    go_wp2_with fail
    refine (toIntS_c _ _ _ _ _ _ _ hs (by omega)).mono ?_
    rintro e w_1 ⟨A_a1, n_a1, c_a1, rfl, o_a1, h_1⟩
    have z_1 := h_1.size
    replace hs := hs.below h_1 hs.hi_le
    have hB := h_1
    have b_a1 : n_a1 ≤ 4194304 := by have := o_a1.len; have := hs.len; omega
    go_wp2_with fail
    refine (sPathKeys_c _ _ _ _ _ _ _ _ o_a1.read (by omega)).mono ?_
    rintro e w_2 ⟨A_w0, n_w0, c_w0, rfl, o_w0, h_2⟩
    have z_2 := h_2.size
    replace hs := hs.below h_2 hs.hi_le
    replace o_a1 := o_a1.below h_2 o_a1.2.1
    replace hB := hB.trans (h_2.mono hB.size)
    have b_w0 : n_w0 ≤ 4194304 := by have := o_w0.len; have := keysP_len s xs; omega
    go_wp2_with fail
    refine (toIntS_c _ _ _ _ _ _ _ hs (by omega)).mono ?_
    rintro e w_3 ⟨A_x0, n_x0, c_x0, rfl, o_x0, h_3⟩
    have z_3 := h_3.size
    replace hs := hs.below h_3 hs.hi_le
    replace o_a1 := o_a1.below h_3 o_a1.2.1
    replace o_w0 := o_w0.below h_3 o_w0.2.1
    replace hB := hB.trans (h_3.mono hB.size)
    have b_x0 : n_x0 ≤ 4194304 := by have := o_x0.len; have := hs.len; omega
    go_wp2_with fail
    refine (pathKeys_c _ _ _ _ _ _ _ _ o_x0.read (by omega)).mono ?_
    rintro e w_4 ⟨A_g0, n_g0, c_g0, rfl, o_g0, h_4⟩
    have z_4 := h_4.size
    replace hs := hs.below h_4 hs.hi_le
    replace o_a1 := o_a1.below h_4 o_a1.2.1
    replace o_w0 := o_w0.below h_4 o_w0.2.1
    replace o_x0 := o_x0.below h_4 o_x0.2.1
    replace hB := hB.trans (h_4.mono hB.size)
    have b_g0 : n_g0 ≤ 4194304 := by have := o_g0.len; have := keysP_len s xs; omega
    go_wp2_with fail
    refine (eqIntS_t _ _ _ _ _ _ _ _ _ _ _ _ o_g0.read o_w0.read b_g0).mono ?_
    rintro e w_5 ⟨rfl, h_5⟩
    have z_5 := h_5.size
    replace hs := hs.below h_5 hs.hi_le
    replace o_a1 := o_a1.below h_5 o_a1.2.1
    replace o_w0 := o_w0.below h_5 o_w0.2.1
    replace o_x0 := o_x0.below h_5 o_x0.2.1
    replace o_g0 := o_g0.below h_5 o_g0.2.1
    replace hB := hB.trans (h_5.mono hB.size)
    go_wp2_with fail
    refine (toIntS_c _ _ _ _ _ _ _ hs (by omega)).mono ?_
    rintro e w_6 ⟨A_a2, n_a2, c_a2, rfl, o_a2, h_6⟩
    have z_6 := h_6.size
    replace hs := hs.below h_6 hs.hi_le
    replace o_a1 := o_a1.below h_6 o_a1.2.1
    replace o_w0 := o_w0.below h_6 o_w0.2.1
    replace o_x0 := o_x0.below h_6 o_x0.2.1
    replace o_g0 := o_g0.below h_6 o_g0.2.1
    replace hB := hB.trans (h_6.mono hB.size)
    have b_a2 : n_a2 ≤ 4194304 := by have := o_a2.len; have := hs.len; omega
    go_wp2_with fail
    refine (eqIntS_t _ _ _ _ _ _ _ _ _ _ _ _ o_x0.read o_a2.read b_x0).mono ?_
    rintro e w_7 ⟨rfl, h_7⟩
    have z_7 := h_7.size
    replace hs := hs.below h_7 hs.hi_le
    replace o_a1 := o_a1.below h_7 o_a1.2.1
    replace o_w0 := o_w0.below h_7 o_w0.2.1
    replace o_x0 := o_x0.below h_7 o_x0.2.1
    replace o_g0 := o_g0.below h_7 o_g0.2.1
    replace o_a2 := o_a2.below h_7 o_a2.2.1
    replace hB := hB.trans (h_7.mono hB.size)
    go_wp2_with fail
    refine (markIntS_c _ _ _ _ _ _ _ _ o_x0 b_x0 (by omega)).mono ?_
    rintro e w_8 ⟨rfl, o_x0', h_8⟩
    have z_8 := h_8.size
    have r_8 := fun g (hg : Value.ownBlock (.slice A_x0 n_x0 c_x0) = some g) => o_x0.block hg
    replace hs := hs.grown h_8 (fun g hg => by have := r_8 g hg; omega)
    replace o_a1 := o_a1.grown h_8 (fun g hg => by have := r_8 g hg; omega)
    replace o_w0 := o_w0.grown h_8 (fun g hg => by have := r_8 g hg; omega)
    replace o_g0 := o_g0.grown h_8 (fun g hg => by have := r_8 g hg; omega)
    replace o_a2 := o_a2.grown h_8 (fun g hg => by have := r_8 g hg; omega)
    replace hB := hB.grown h_8 hB.size (fun g hg => by have := r_8 g hg; omega)
    clear o_x0 r_8
    have o_x0 := o_x0'
    clear o_x0'
    go_wp2_with fail
    refine (eqIntS_t _ _ _ _ _ _ _ _ _ _ _ _ o_g0.read o_w0.read b_g0).mono ?_
    rintro e w_9 ⟨rfl, h_9⟩
    have z_9 := h_9.size
    replace hs := hs.below h_9 hs.hi_le
    replace o_a1 := o_a1.below h_9 o_a1.2.1
    replace o_w0 := o_w0.below h_9 o_w0.2.1
    replace o_x0 := o_x0.below h_9 o_x0.2.1
    replace o_g0 := o_g0.below h_9 o_g0.2.1
    replace o_a2 := o_a2.below h_9 o_a2.2.1
    replace hB := hB.trans (h_9.mono hB.size)
    go_wp2_with fail
    refine (markIntS_c _ _ _ _ _ _ _ _ o_g0 b_g0 (by omega)).mono ?_
    rintro e w_10 ⟨rfl, o_g0', h_10⟩
    have z_10 := h_10.size
    have r_10 := fun g (hg : Value.ownBlock (.slice A_g0 n_g0 c_g0) = some g) => o_g0.block hg
    replace hs := hs.grown h_10 (fun g hg => by have := r_10 g hg; omega)
    replace o_a1 := o_a1.grown h_10 (fun g hg => by have := r_10 g hg; omega)
    replace o_w0 := o_w0.grown h_10 (fun g hg => by have := r_10 g hg; omega)
    replace o_x0 := o_x0.grown h_10 (fun g hg => by have := r_10 g hg; omega)
    replace o_a2 := o_a2.grown h_10 (fun g hg => by have := r_10 g hg; omega)
    replace hB := hB.grown h_10 hB.size (fun g hg => by have := r_10 g hg; omega)
    clear o_g0 r_10
    have o_g0 := o_g0'
    clear o_g0'
    go_wp2_with fail
    refine (heldIntS_c _ _ _ _ _ _ _ o_g0.read b_g0 (by omega)).mono ?_
    rintro e w' ⟨rfl, rfl⟩
    go_wp2_with fail
    refine (toIntS_c _ _ _ _ _ _ _ hs (by omega)).mono ?_
    rintro e w_11 ⟨A_a3, n_a3, c_a3, rfl, o_a3, h_11⟩
    have z_11 := h_11.size
    replace hs := hs.below h_11 hs.hi_le
    replace o_a1 := o_a1.below h_11 o_a1.2.1
    replace o_w0 := o_w0.below h_11 o_w0.2.1
    replace o_x0 := o_x0.below h_11 o_x0.2.1
    replace o_g0 := o_g0.below h_11 o_g0.2.1
    replace o_a2 := o_a2.below h_11 o_a2.2.1
    replace hB := hB.trans (h_11.mono hB.size)
    have b_a3 : n_a3 ≤ 4194304 := by have := o_a3.len; have := hs.len; omega
    go_wp2_with fail
    refine (pathKeys_c _ _ _ _ _ _ _ _ o_a3.read (by omega)).mono ?_
    rintro e w_12 ⟨A_h0, n_h0, c_h0, rfl, o_h0, h_12⟩
    have z_12 := h_12.size
    replace hs := hs.below h_12 hs.hi_le
    replace o_a1 := o_a1.below h_12 o_a1.2.1
    replace o_w0 := o_w0.below h_12 o_w0.2.1
    replace o_x0 := o_x0.below h_12 o_x0.2.1
    replace o_g0 := o_g0.below h_12 o_g0.2.1
    replace o_a2 := o_a2.below h_12 o_a2.2.1
    replace o_a3 := o_a3.below h_12 o_a3.2.1
    replace hB := hB.trans (h_12.mono hB.size)
    have b_h0 : n_h0 ≤ 4194304 := by have := o_h0.len; have := keysP_len s xs; omega
    go_wp2_with fail
    refine (eqIntS_t _ _ _ _ _ _ _ _ _ _ _ _ o_h0.read o_w0.read b_h0).mono ?_
    rintro e w_13 ⟨rfl, h_13⟩
    have z_13 := h_13.size
    replace hs := hs.below h_13 hs.hi_le
    replace o_a1 := o_a1.below h_13 o_a1.2.1
    replace o_w0 := o_w0.below h_13 o_w0.2.1
    replace o_x0 := o_x0.below h_13 o_x0.2.1
    replace o_g0 := o_g0.below h_13 o_g0.2.1
    replace o_a2 := o_a2.below h_13 o_a2.2.1
    replace o_a3 := o_a3.below h_13 o_a3.2.1
    replace o_h0 := o_h0.below h_13 o_h0.2.1
    replace hB := hB.trans (h_13.mono hB.size)
    go_wp2_with fail
    refine (heldIntS_c _ _ _ _ _ _ _ o_g0.read b_g0 (by omega)).mono ?_
    rintro e w' ⟨rfl, rfl⟩
    go_wp2_with fail
    go_ret
    exact ⟨rfl, hB⟩
end Go.Proofs.Ytalnilighempmaa
