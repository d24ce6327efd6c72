/-
  The walks of the statements that the program's masks, streams and tags are the reference's.
  Conditions: a slice among the arguments reads as a list of whole numbers.
-/
import Derived.Test.YtiiofcldblgmcaaCopy
namespace Go.Proofs.Ytiiofcldblgmcaa
open Go Go.RowKit

theorem OwnR.block {T : TypeId} {w : World} {lo hi n c : Nat} {A : Option Addr} {xs : List Int} (h : OwnR T w lo hi A n c xs) {g : Nat} (hg : Value.ownBlock (.slice A n c) = some g) : lo ≤ g ∧ g < hi := by
  refine ⟨(h.1.lt g hg).1, ?_⟩
  cases A with
  | none => simp [Value.ownBlock] at hg
  | some a =>
    simp [Value.ownBlock] at hg
    subst hg
    exact h.2.2 a rfl
theorem onP_len (xs : List Int) (k : Int) : (onP xs k).length ≤ 24 := by
  unfold onP
  split
  · rename_i h; rw [onL_len]; exact (listB_iff.1 h.1).1
  · simp
theorem offP_len (xs : List Int) (k : Int) : (offP xs k).length ≤ 24 := by
  unfold offP
  split
  · rename_i h; rw [offL_len]; exact (listB_iff.1 h.1).1
  · simp
theorem strP_len (k n : Int) : (strP k n).length ≤ 24 := by
  unfold strP
  split
  · rename_i h; rw [strL_len]; omega
  · simp
theorem eqIntS_t (A : Option Addr) (n c lo hi : Nat) (xs : List Int) (A2 : Option Addr) (n2 c2 lo2 hi2 : Nat) (w : World) (hs : SlR .i64 w lo hi A n xs) (ht : SlR .i64 w lo2 hi2 A2 n2 xs) (hn : n ≤ 4194304) :
    Calls Try.prog 30 #[.slice A n c, .slice A2 n2 c2] w (Tells true w) := by
  have h := eqIntS_c A n c lo hi xs A2 n2 c2 lo2 hi2 xs w hs ht (by omega)
  rw [sameB_self] at h
  exact h

set_option maxHeartbeats 1600000 in
theorem wFnExactMaskOn (A : Option Addr) (n c : Nat) (xs : List Int) (key : Int) (w : World) (hs : SlR .i64 w 0 w.heap.size A n xs) (_hl : n ≤ c) (_hc : c ≤ 9223372036854775807) : Calls Try.prog 7 #[.slice A n c, .int .i64 key] w fun e w' => e = .returned (.bool true) ∧ Below w.heap.size w w' := by
  by_cases hbig : 1048576 < n
  · go_enter Try.func7, Try.ntmps7
    go_wp2
    go_ret
    exact ⟨rfl, Below.refl _ _⟩
  · go_enter Try.func7, Try.ntmps7
    go_wp2_with fail
    refine (toIntS_c _ _ _ _ _ _ _ hs (by omega)).mono ?_
    rintro e w_1 ⟨A_a1, n_a1, c_a1, rfl, o_a1, h_1⟩
    have z_1 := h_1.size
    replace hs := hs.below h_1 hs.hi_le
    have hB := h_1
    have b_a1 : n_a1 ≤ 4194304 := by have := o_a1.len; have := hs.len; omega
    go_wp2_with fail
    refine (sMaskOn_c _ _ _ _ _ _ _ _ o_a1.read (by omega)).mono ?_
    rintro e w_2 ⟨A_w0, n_w0, c_w0, rfl, o_w0, h_2⟩
    have z_2 := h_2.size
    replace hs := hs.below h_2 hs.hi_le
    replace o_a1 := o_a1.below h_2 o_a1.2.1
    replace hB := hB.trans (h_2.mono hB.size)
    have b_w0 : n_w0 ≤ 4194304 := by have := o_w0.len; have := onP_len xs key; omega
    go_wp2_with fail
    refine (toIntS_c _ _ _ _ _ _ _ hs (by omega)).mono ?_
    rintro e w_3 ⟨A_x0, n_x0, c_x0, rfl, o_x0, h_3⟩
    have z_3 := h_3.size
    replace hs := hs.below h_3 hs.hi_le
    replace o_a1 := o_a1.below h_3 o_a1.2.1
    replace o_w0 := o_w0.below h_3 o_w0.2.1
    replace hB := hB.trans (h_3.mono hB.size)
    have b_x0 : n_x0 ≤ 4194304 := by have := o_x0.len; have := hs.len; omega
    go_wp2_with fail
    refine (maskOn_c _ _ _ _ _ _ _ _ o_x0.read).mono ?_
    rintro e w_4 ⟨A_g0, n_g0, c_g0, rfl, o_g0, h_4⟩
    have z_4 := h_4.size
    replace hs := hs.below h_4 hs.hi_le
    replace o_a1 := o_a1.below h_4 o_a1.2.1
    replace o_w0 := o_w0.below h_4 o_w0.2.1
    replace o_x0 := o_x0.below h_4 o_x0.2.1
    replace hB := hB.trans (h_4.mono hB.size)
    have b_g0 : n_g0 ≤ 4194304 := by have := o_g0.len; have := onP_len xs key; omega
    go_wp2_with fail
    refine (eqIntS_t _ _ _ _ _ _ _ _ _ _ _ _ o_g0.read o_w0.read b_g0).mono ?_
    rintro e w_5 ⟨rfl, h_5⟩
    have z_5 := h_5.size
    replace hs := hs.below h_5 hs.hi_le
    replace o_a1 := o_a1.below h_5 o_a1.2.1
    replace o_w0 := o_w0.below h_5 o_w0.2.1
    replace o_x0 := o_x0.below h_5 o_x0.2.1
    replace o_g0 := o_g0.below h_5 o_g0.2.1
    replace hB := hB.trans (h_5.mono hB.size)
    go_wp2_with fail
    refine (toIntS_c _ _ _ _ _ _ _ hs (by omega)).mono ?_
    rintro e w_6 ⟨A_a2, n_a2, c_a2, rfl, o_a2, h_6⟩
    have z_6 := h_6.size
    replace hs := hs.below h_6 hs.hi_le
    replace o_a1 := o_a1.below h_6 o_a1.2.1
    replace o_w0 := o_w0.below h_6 o_w0.2.1
    replace o_x0 := o_x0.below h_6 o_x0.2.1
    replace o_g0 := o_g0.below h_6 o_g0.2.1
    replace hB := hB.trans (h_6.mono hB.size)
    have b_a2 : n_a2 ≤ 4194304 := by have := o_a2.len; have := hs.len; omega
    go_wp2_with fail
    refine (eqIntS_t _ _ _ _ _ _ _ _ _ _ _ _ o_x0.read o_a2.read b_x0).mono ?_
    rintro e w_7 ⟨rfl, h_7⟩
    have z_7 := h_7.size
    replace hs := hs.below h_7 hs.hi_le
    replace o_a1 := o_a1.below h_7 o_a1.2.1
    replace o_w0 := o_w0.below h_7 o_w0.2.1
    replace o_x0 := o_x0.below h_7 o_x0.2.1
    replace o_g0 := o_g0.below h_7 o_g0.2.1
    replace o_a2 := o_a2.below h_7 o_a2.2.1
    replace hB := hB.trans (h_7.mono hB.size)
    go_wp2_with fail
    refine (markIntS_c _ _ _ _ _ _ _ _ o_x0 b_x0 (by omega)).mono ?_
    rintro e w_8 ⟨rfl, o_x0', h_8⟩
    have z_8 := h_8.size
    have r_8 := fun g (hg : Value.ownBlock (.slice A_x0 n_x0 c_x0) = some g) => o_x0.block hg
    replace hs := hs.grown h_8 (fun g hg => by have := r_8 g hg; omega)
    replace o_a1 := o_a1.grown h_8 (fun g hg => by have := r_8 g hg; omega)
    replace o_w0 := o_w0.grown h_8 (fun g hg => by have := r_8 g hg; omega)
    replace o_g0 := o_g0.grown h_8 (fun g hg => by have := r_8 g hg; omega)
    replace o_a2 := o_a2.grown h_8 (fun g hg => by have := r_8 g hg; omega)
    replace hB := hB.grown h_8 hB.size (fun g hg => by have := r_8 g hg; omega)
    clear o_x0 r_8
    have o_x0 := o_x0'
    clear o_x0'
    go_wp2_with fail
    refine (eqIntS_t _ _ _ _ _ _ _ _ _ _ _ _ o_g0.read o_w0.read b_g0).mono ?_
    rintro e w_9 ⟨rfl, h_9⟩
    have z_9 := h_9.size
    replace hs := hs.below h_9 hs.hi_le
    replace o_a1 := o_a1.below h_9 o_a1.2.1
    replace o_w0 := o_w0.below h_9 o_w0.2.1
    replace o_x0 := o_x0.below h_9 o_x0.2.1
    replace o_g0 := o_g0.below h_9 o_g0.2.1
    replace o_a2 := o_a2.below h_9 o_a2.2.1
    replace hB := hB.trans (h_9.mono hB.size)
    go_wp2_with fail
    refine (markIntS_c _ _ _ _ _ _ _ _ o_g0 b_g0 (by omega)).mono ?_
    rintro e w_10 ⟨rfl, o_g0', h_10⟩
    have z_10 := h_10.size
    have r_10 := fun g (hg : Value.ownBlock (.slice A_g0 n_g0 c_g0) = some g) => o_g0.block hg
    replace hs := hs.grown h_10 (fun g hg => by have := r_10 g hg; omega)
    replace o_a1 := o_a1.grown h_10 (fun g hg => by have := r_10 g hg; omega)
    replace o_w0 := o_w0.grown h_10 (fun g hg => by have := r_10 g hg; omega)
    replace o_x0 := o_x0.grown h_10 (fun g hg => by have := r_10 g hg; omega)
    replace o_a2 := o_a2.grown h_10 (fun g hg => by have := r_10 g hg; omega)
    replace hB := hB.grown h_10 hB.size (fun g hg => by have := r_10 g hg; omega)
    clear o_g0 r_10
    have o_g0 := o_g0'
    clear o_g0'
    go_wp2_with fail
    refine (heldIntS_c _ _ _ _ _ _ _ o_g0.read b_g0 (by omega)).mono ?_
    rintro e w' ⟨rfl, rfl⟩
    go_wp2_with fail
    refine (toIntS_c _ _ _ _ _ _ _ hs (by omega)).mono ?_
    rintro e w_11 ⟨A_a3, n_a3, c_a3, rfl, o_a3, h_11⟩
    have z_11 := h_11.size
    replace hs := hs.below h_11 hs.hi_le
    replace o_a1 := o_a1.below h_11 o_a1.2.1
    replace o_w0 := o_w0.below h_11 o_w0.2.1
    replace o_x0 := o_x0.below h_11 o_x0.2.1
    replace o_g0 := o_g0.below h_11 o_g0.2.1
    replace o_a2 := o_a2.below h_11 o_a2.2.1
    replace hB := hB.trans (h_11.mono hB.size)
    have b_a3 : n_a3 ≤ 4194304 := by have := o_a3.len; have := hs.len; omega
    go_wp2_with fail
    refine (maskOn_c _ _ _ _ _ _ _ _ o_a3.read).mono ?_
    rintro e w_12 ⟨A_h0, n_h0, c_h0, rfl, o_h0, h_12⟩
    have z_12 := h_12.size
    replace hs := hs.below h_12 hs.hi_le
    replace o_a1 := o_a1.below h_12 o_a1.2.1
    replace o_w0 := o_w0.below h_12 o_w0.2.1
    replace o_x0 := o_x0.below h_12 o_x0.2.1
    replace o_g0 := o_g0.below h_12 o_g0.2.1
    replace o_a2 := o_a2.below h_12 o_a2.2.1
    replace o_a3 := o_a3.below h_12 o_a3.2.1
    replace hB := hB.trans (h_12.mono hB.size)
    have b_h0 : n_h0 ≤ 4194304 := by have := o_h0.len; have := onP_len xs key; omega
    go_wp2_with fail
    refine (eqIntS_t _ _ _ _ _ _ _ _ _ _ _ _ o_h0.read o_w0.read b_h0).mono ?_
    rintro e w_13 ⟨rfl, h_13⟩
    have z_13 := h_13.size
    replace hs := hs.below h_13 hs.hi_le
    replace o_a1 := o_a1.below h_13 o_a1.2.1
    replace o_w0 := o_w0.below h_13 o_w0.2.1
    replace o_x0 := o_x0.below h_13 o_x0.2.1
    replace o_g0 := o_g0.below h_13 o_g0.2.1
    replace o_a2 := o_a2.below h_13 o_a2.2.1
    replace o_a3 := o_a3.below h_13 o_a3.2.1
    replace o_h0 := o_h0.below h_13 o_h0.2.1
    replace hB := hB.trans (h_13.mono hB.size)
    go_wp2_with fail
    refine (heldIntS_c _ _ _ _ _ _ _ o_g0.read b_g0 (by omega)).mono ?_
    rintro e w' ⟨rfl, rfl⟩
    go_wp2_with fail
    go_ret
    exact ⟨rfl, hB⟩
set_option maxHeartbeats 1600000 in
theorem wFnExactMaskOff (A : Option Addr) (n c : Nat) (xs : List Int) (key : Int) (w : World) (hs : SlR .i64 w 0 w.heap.size A n xs) (_hl : n ≤ c) (_hc : c ≤ 9223372036854775807) : Calls Try.prog 6 #[.slice A n c, .int .i64 key] w fun e w' => e = .returned (.bool true) ∧ Below w.heap.size w w' := by
  by_cases hbig : 1048576 < n
  · go_enter Try.func6, Try.ntmps6
    go_wp2
    go_ret
    exact ⟨rfl, Below.refl _ _⟩
  · go_enter Try.func6, Try.ntmps6
    go_wp2_with fail
    refine (toIntS_c _ _ _ _ _ _ _ hs (by omega)).mono ?_
    rintro e w_1 ⟨A_a1, n_a1, c_a1, rfl, o_a1, h_1⟩
    have z_1 := h_1.size
    replace hs := hs.below h_1 hs.hi_le
    have hB := h_1
    have b_a1 : n_a1 ≤ 4194304 := by have := o_a1.len; have := hs.len; omega
    go_wp2_with fail
    refine (sMaskOff_c _ _ _ _ _ _ _ _ o_a1.read (by omega)).mono ?_
    rintro e w_2 ⟨A_w0, n_w0, c_w0, rfl, o_w0, h_2⟩
    have z_2 := h_2.size
    replace hs := hs.below h_2 hs.hi_le
    replace o_a1 := o_a1.below h_2 o_a1.2.1
    replace hB := hB.trans (h_2.mono hB.size)
    have b_w0 : n_w0 ≤ 4194304 := by have := o_w0.len; have := offP_len xs key; omega
    go_wp2_with fail
    refine (toIntS_c _ _ _ _ _ _ _ hs (by omega)).mono ?_
    rintro e w_3 ⟨A_x0, n_x0, c_x0, rfl, o_x0, h_3⟩
    have z_3 := h_3.size
    replace hs := hs.below h_3 hs.hi_le
    replace o_a1 := o_a1.below h_3 o_a1.2.1
    replace o_w0 := o_w0.below h_3 o_w0.2.1
    replace hB := hB.trans (h_3.mono hB.size)
    have b_x0 : n_x0 ≤ 4194304 := by have := o_x0.len; have := hs.len; omega
    go_wp2_with fail
    refine (maskOff_c _ _ _ _ _ _ _ _ o_x0.read).mono ?_
    rintro e w_4 ⟨A_g0, n_g0, c_g0, rfl, o_g0, h_4⟩
    have z_4 := h_4.size
    replace hs := hs.below h_4 hs.hi_le
    replace o_a1 := o_a1.below h_4 o_a1.2.1
    replace o_w0 := o_w0.below h_4 o_w0.2.1
    replace o_x0 := o_x0.below h_4 o_x0.2.1
    replace hB := hB.trans (h_4.mono hB.size)
    have b_g0 : n_g0 ≤ 4194304 := by have := o_g0.len; have := offP_len xs key; omega
    go_wp2_with fail
    refine (eqIntS_t _ _ _ _ _ _ _ _ _ _ _ _ o_g0.read o_w0.read b_g0).mono ?_
    rintro e w_5 ⟨rfl, h_5⟩
    have z_5 := h_5.size
    replace hs := hs.below h_5 hs.hi_le
    replace o_a1 := o_a1.below h_5 o_a1.2.1
    replace o_w0 := o_w0.below h_5 o_w0.2.1
    replace o_x0 := o_x0.below h_5 o_x0.2.1
    replace o_g0 := o_g0.below h_5 o_g0.2.1
    replace hB := hB.trans (h_5.mono hB.size)
    go_wp2_with fail
    refine (toIntS_c _ _ _ _ _ _ _ hs (by omega)).mono ?_
    rintro e w_6 ⟨A_a2, n_a2, c_a2, rfl, o_a2, h_6⟩
    have z_6 := h_6.size
    replace hs := hs.below h_6 hs.hi_le
    replace o_a1 := o_a1.below h_6 o_a1.2.1
    replace o_w0 := o_w0.below h_6 o_w0.2.1
    replace o_x0 := o_x0.below h_6 o_x0.2.1
    replace o_g0 := o_g0.below h_6 o_g0.2.1
    replace hB := hB.trans (h_6.mono hB.size)
    have b_a2 : n_a2 ≤ 4194304 := by have := o_a2.len; have := hs.len; omega
    go_wp2_with fail
    refine (eqIntS_t _ _ _ _ _ _ _ _ _ _ _ _ o_x0.read o_a2.read b_x0).mono ?_
    rintro e w_7 ⟨rfl, h_7⟩
    have z_7 := h_7.size
    replace hs := hs.below h_7 hs.hi_le
    replace o_a1 := o_a1.below h_7 o_a1.2.1
    replace o_w0 := o_w0.below h_7 o_w0.2.1
    replace o_x0 := o_x0.below h_7 o_x0.2.1
    replace o_g0 := o_g0.below h_7 o_g0.2.1
    replace o_a2 := o_a2.below h_7 o_a2.2.1
    replace hB := hB.trans (h_7.mono hB.size)
    go_wp2_with fail
    refine (markIntS_c _ _ _ _ _ _ _ _ o_x0 b_x0 (by omega)).mono ?_
    rintro e w_8 ⟨rfl, o_x0', h_8⟩
    have z_8 := h_8.size
    have r_8 := fun g (hg : Value.ownBlock (.slice A_x0 n_x0 c_x0) = some g) => o_x0.block hg
    replace hs := hs.grown h_8 (fun g hg => by have := r_8 g hg; omega)
    replace o_a1 := o_a1.grown h_8 (fun g hg => by have := r_8 g hg; omega)
    replace o_w0 := o_w0.grown h_8 (fun g hg => by have := r_8 g hg; omega)
    replace o_g0 := o_g0.grown h_8 (fun g hg => by have := r_8 g hg; omega)
    replace o_a2 := o_a2.grown h_8 (fun g hg => by have := r_8 g hg; omega)
    replace hB := hB.grown h_8 hB.size (fun g hg => by have := r_8 g hg; omega)
    clear o_x0 r_8
    have o_x0 := o_x0'
    clear o_x0'
    go_wp2_with fail
    refine (eqIntS_t _ _ _ _ _ _ _ _ _ _ _ _ o_g0.read o_w0.read b_g0).mono ?_
    rintro e w_9 ⟨rfl, h_9⟩
    have z_9 := h_9.size
    replace hs := hs.below h_9 hs.hi_le
    replace o_a1 := o_a1.below h_9 o_a1.2.1
    replace o_w0 := o_w0.below h_9 o_w0.2.1
    replace o_x0 := o_x0.below h_9 o_x0.2.1
    replace o_g0 := o_g0.below h_9 o_g0.2.1
    replace o_a2 := o_a2.below h_9 o_a2.2.1
    replace hB := hB.trans (h_9.mono hB.size)
    go_wp2_with fail
    refine (markIntS_c _ _ _ _ _ _ _ _ o_g0 b_g0 (by omega)).mono ?_
    rintro e w_10 ⟨rfl, o_g0', h_10⟩
    have z_10 := h_10.size
    have r_10 := fun g (hg : Value.ownBlock (.slice A_g0 n_g0 c_g0) = some g) => o_g0.block hg
    replace hs := hs.grown h_10 (fun g hg => by have := r_10 g hg; omega)
    replace o_a1 := o_a1.grown h_10 (fun g hg => by have := r_10 g hg; omega)
    replace o_w0 := o_w0.grown h_10 (fun g hg => by have := r_10 g hg; omega)
    replace o_x0 := o_x0.grown h_10 (fun g hg => by have := r_10 g hg; omega)
    replace o_a2 := o_a2.grown h_10 (fun g hg => by have := r_10 g hg; omega)
    replace hB := hB.grown h_10 hB.size (fun g hg => by have := r_10 g hg; omega)
    clear o_g0 r_10
    have o_g0 := o_g0'
    clear o_g0'
    go_wp2_with fail
    refine (heldIntS_c _ _ _ _ _ _ _ o_g0.read b_g0 (by omega)).mono ?_
    rintro e w' ⟨rfl, rfl⟩
    go_wp2_with fail
    refine (toIntS_c _ _ _ _ _ _ _ hs (by omega)).mono ?_
    rintro e w_11 ⟨A_a3, n_a3, c_a3, rfl, o_a3, h_11⟩
    have z_11 := h_11.size
    replace hs := hs.below h_11 hs.hi_le
    replace o_a1 := o_a1.below h_11 o_a1.2.1
    replace o_w0 := o_w0.below h_11 o_w0.2.1
    replace o_x0 := o_x0.below h_11 o_x0.2.1
    replace o_g0 := o_g0.below h_11 o_g0.2.1
    replace o_a2 := o_a2.below h_11 o_a2.2.1
    replace hB := hB.trans (h_11.mono hB.size)
    have b_a3 : n_a3 ≤ 4194304 := by have := o_a3.len; have := hs.len; omega
    go_wp2_with fail
    refine (maskOff_c _ _ _ _ _ _ _ _ o_a3.read).mono ?_
    rintro e w_12 ⟨A_h0, n_h0, c_h0, rfl, o_h0, h_12⟩
    have z_12 := h_12.size
    replace hs := hs.below h_12 hs.hi_le
    replace o_a1 := o_a1.below h_12 o_a1.2.1
    replace o_w0 := o_w0.below h_12 o_w0.2.1
    replace o_x0 := o_x0.below h_12 o_x0.2.1
    replace o_g0 := o_g0.below h_12 o_g0.2.1
    replace o_a2 := o_a2.below h_12 o_a2.2.1
    replace o_a3 := o_a3.below h_12 o_a3.2.1
    replace hB := hB.trans (h_12.mono hB.size)
    have b_h0 : n_h0 ≤ 4194304 := by have := o_h0.len; have := offP_len xs key; omega
    go_wp2_with fail
    refine (eqIntS_t _ _ _ _ _ _ _ _ _ _ _ _ o_h0.read o_w0.read b_h0).mono ?_
    rintro e w_13 ⟨rfl, h_13⟩
    have z_13 := h_13.size
    replace hs := hs.below h_13 hs.hi_le
    replace o_a1 := o_a1.below h_13 o_a1.2.1
    replace o_w0 := o_w0.below h_13 o_w0.2.1
    replace o_x0 := o_x0.below h_13 o_x0.2.1
    replace o_g0 := o_g0.below h_13 o_g0.2.1
    replace o_a2 := o_a2.below h_13 o_a2.2.1
    replace o_a3 := o_a3.below h_13 o_a3.2.1
    replace o_h0 := o_h0.below h_13 o_h0.2.1
    replace hB := hB.trans (h_13.mono hB.size)
    go_wp2_with fail
    refine (heldIntS_c _ _ _ _ _ _ _ o_g0.read b_g0 (by omega)).mono ?_
    rintro e w' ⟨rfl, rfl⟩
    go_wp2_with fail
    go_ret
    exact ⟨rfl, hB⟩
set_option maxHeartbeats 800000 in
theorem wFnExactStreamOf (key m : Int) (w : World) : Calls Try.prog 5 #[.int .i64 key, .int .i64 m] w fun e w' => e = .returned (.bool true) ∧ Below w.heap.size w w' := by
  go_enter Try.func5, Try.ntmps5
  go_wp2_with fail
  refine (sStreamOf_c _ _ _).mono ?_
  rintro e w_1 ⟨A_w0, n_w0, c_w0, rfl, o_w0, h_1⟩
  have z_1 := h_1.size
  have hB := h_1
  have b_w0 : n_w0 ≤ 4194304 := by have := o_w0.len; have := strP_len key m; omega
  go_wp2_with fail
  refine (streamOf_c _ _ _).mono ?_
  rintro e w_2 ⟨A_g0, n_g0, c_g0, rfl, o_g0, h_2⟩
  have z_2 := h_2.size
  replace o_w0 := o_w0.below h_2 o_w0.2.1
  replace hB := hB.trans (h_2.mono hB.size)
  have b_g0 : n_g0 ≤ 4194304 := by have := o_g0.len; have := strP_len key m; omega
  go_wp2_with fail
  refine (eqIntS_t _ _ _ _ _ _ _ _ _ _ _ _ o_g0.read o_w0.read b_g0).mono ?_
  rintro e w_3 ⟨rfl, h_3⟩
  have z_3 := h_3.size
  replace o_w0 := o_w0.below h_3 o_w0.2.1
  replace o_g0 := o_g0.below h_3 o_g0.2.1
  replace hB := hB.trans (h_3.mono hB.size)
  go_wp2_with fail
  refine (markIntS_c _ _ _ _ _ _ _ _ o_g0 b_g0 (by omega)).mono ?_
  rintro e w_4 ⟨rfl, o_g0', h_4⟩
  have z_4 := h_4.size
  have r_4 := fun g (hg : Value.ownBlock (.slice A_g0 n_g0 c_g0) = some g) => o_g0.block hg
  replace o_w0 := o_w0.grown h_4 (fun g hg => by have := r_4 g hg; omega)
  replace hB := hB.grown h_4 hB.size (fun g hg => by have := r_4 g hg; omega)
  clear o_g0 r_4
  have o_g0 := o_g0'
  clear o_g0'
  go_wp2_with fail
  refine (heldIntS_c _ _ _ _ _ _ _ o_g0.read b_g0 (by omega)).mono ?_
  rintro e w' ⟨rfl, rfl⟩
  go_wp2_with fail
  refine (streamOf_c _ _ _).mono ?_
  rintro e w_5 ⟨A_h0, n_h0, c_h0, rfl, o_h0, h_5⟩
  have z_5 := h_5.size
  replace o_w0 := o_w0.below h_5 o_w0.2.1
  replace o_g0 := o_g0.below h_5 o_g0.2.1
  replace hB := hB.trans (h_5.mono hB.size)
  have b_h0 : n_h0 ≤ 4194304 := by have := o_h0.len; have := strP_len key m; omega
  go_wp2_with fail
  refine (eqIntS_t _ _ _ _ _ _ _ _ _ _ _ _ o_h0.read o_w0.read b_h0).mono ?_
  rintro e w_6 ⟨rfl, h_6⟩
  have z_6 := h_6.size
  replace o_w0 := o_w0.below h_6 o_w0.2.1
  replace o_g0 := o_g0.below h_6 o_g0.2.1
  replace o_h0 := o_h0.below h_6 o_h0.2.1
  replace hB := hB.trans (h_6.mono hB.size)
  go_wp2_with fail
  refine (heldIntS_c _ _ _ _ _ _ _ o_g0.read b_g0 (by omega)).mono ?_
  rintro e w' ⟨rfl, rfl⟩
  go_wp2_with fail
  go_ret
  exact ⟨rfl, hB⟩
set_option maxHeartbeats 800000 in
theorem wFnExactTagOf (key : Int) (A : Option Addr) (n c : Nat) (xs : List Int) (w : World) (hs : SlR .i64 w 0 w.heap.size A n xs) (_hl : n ≤ c) (_hc : c ≤ 9223372036854775807) : Calls Try.prog 3 #[.int .i64 key, .slice A n c] w fun e w' => e = .returned (.bool true) ∧ Below w.heap.size w w' := by
  by_cases hbig : 1048576 < n
  · go_enter Try.func3, Try.ntmps3
    go_wp2
    go_ret
    exact ⟨rfl, Below.refl _ _⟩
  · go_enter Try.func3, Try.ntmps3
    go_wp2_with fail
    refine (toIntS_c _ _ _ _ _ _ _ hs (by omega)).mono ?_
    rintro e w_1 ⟨A_a1, n_a1, c_a1, rfl, o_a1, h_1⟩
    have z_1 := h_1.size
    replace hs := hs.below h_1 hs.hi_le
    have hB := h_1
    have b_a1 : n_a1 ≤ 4194304 := by have := o_a1.len; have := hs.len; omega
    go_wp2_with fail
    refine (sTagOf_c _ _ _ _ _ _ _ _ o_a1.read (by omega)).mono ?_
    rintro e w' ⟨rfl, rfl⟩
    go_wp2_with fail
    refine (toIntS_c _ _ _ _ _ _ _ hs (by omega)).mono ?_
    rintro e w_2 ⟨A_x1, n_x1, c_x1, rfl, o_x1, h_2⟩
    have z_2 := h_2.size
    replace hs := hs.below h_2 hs.hi_le
    replace o_a1 := o_a1.below h_2 o_a1.2.1
    replace hB := hB.trans (h_2.mono hB.size)
    have b_x1 : n_x1 ≤ 4194304 := by have := o_x1.len; have := hs.len; omega
    go_wp2_with fail
    refine (tagOf_c _ _ _ _ _ _ _ _ o_x1.read).mono ?_
    rintro e w' ⟨rfl, rfl⟩
    go_wp2_with fail
    refine (toIntS_c _ _ _ _ _ _ _ hs (by omega)).mono ?_
    rintro e w_3 ⟨A_a2, n_a2, c_a2, rfl, o_a2, h_3⟩
    have z_3 := h_3.size
    replace hs := hs.below h_3 hs.hi_le
    replace o_a1 := o_a1.below h_3 o_a1.2.1
    replace o_x1 := o_x1.below h_3 o_x1.2.1
    replace hB := hB.trans (h_3.mono hB.size)
    have b_a2 : n_a2 ≤ 4194304 := by have := o_a2.len; have := hs.len; omega
    go_wp2_with fail
    refine (eqIntS_t _ _ _ _ _ _ _ _ _ _ _ _ o_x1.read o_a2.read b_x1).mono ?_
    rintro e w_4 ⟨rfl, h_4⟩
    have z_4 := h_4.size
    replace hs := hs.below h_4 hs.hi_le
    replace o_a1 := o_a1.below h_4 o_a1.2.1
    replace o_x1 := o_x1.below h_4 o_x1.2.1
    replace o_a2 := o_a2.below h_4 o_a2.2.1
    replace hB := hB.trans (h_4.mono hB.size)
    go_wp2_with fail
    go_ret
    exact ⟨rfl, hB⟩
set_option maxHeartbeats 800000 in
theorem wFnExactTagCheck (key : Int) (A : Option Addr) (n c : Nat) (xs : List Int) (t : Int) (w : World) (hs : SlR .i64 w 0 w.heap.size A n xs) (_hl : n ≤ c) (_hc : c ≤ 9223372036854775807) : Calls Try.prog 4 #[.int .i64 key, .slice A n c, .int .i64 t] w fun e w' => e = .returned (.bool true) ∧ Below w.heap.size w w' := by
  by_cases hbig : 1048576 < n
  · go_enter Try.func4, Try.ntmps4
    go_wp2
    go_ret
    exact ⟨rfl, Below.refl _ _⟩
  · go_enter Try.func4, Try.ntmps4
    go_wp2_with fail
    refine (toIntS_c _ _ _ _ _ _ _ hs (by omega)).mono ?_
    rintro e w_1 ⟨A_a1, n_a1, c_a1, rfl, o_a1, h_1⟩
    have z_1 := h_1.size
    replace hs := hs.below h_1 hs.hi_le
    have hB := h_1
    have b_a1 : n_a1 ≤ 4194304 := by have := o_a1.len; have := hs.len; omega
    go_wp2_with fail
    refine (sTagCheck_c _ _ _ _ _ _ _ _ _ o_a1.read (by omega)).mono ?_
    rintro e w' ⟨rfl, rfl⟩
    go_wp2_with fail
    refine (toIntS_c _ _ _ _ _ _ _ hs (by omega)).mono ?_
    rintro e w_2 ⟨A_x1, n_x1, c_x1, rfl, o_x1, h_2⟩
    have z_2 := h_2.size
    replace hs := hs.below h_2 hs.hi_le
    replace o_a1 := o_a1.below h_2 o_a1.2.1
    replace hB := hB.trans (h_2.mono hB.size)
    have b_x1 : n_x1 ≤ 4194304 := by have := o_x1.len; have := hs.len; omega
    go_wp2_with fail
    refine (tagCheck_c _ _ _ _ _ _ _ _ _ o_x1.read).mono ?_
    rintro e w' ⟨rfl, rfl⟩
    go_wp2_with fail
    refine (toIntS_c _ _ _ _ _ _ _ hs (by omega)).mono ?_
    rintro e w_3 ⟨A_a2, n_a2, c_a2, rfl, o_a2, h_3⟩
    have z_3 := h_3.size
    replace hs := hs.below h_3 hs.hi_le
    replace o_a1 := o_a1.below h_3 o_a1.2.1
    replace o_x1 := o_x1.below h_3 o_x1.2.1
    replace hB := hB.trans (h_3.mono hB.size)
    have b_a2 : n_a2 ≤ 4194304 := by have := o_a2.len; have := hs.len; omega
    go_wp2_with fail
    refine (eqIntS_t _ _ _ _ _ _ _ _ _ _ _ _ o_x1.read o_a2.read b_x1).mono ?_
    rintro e w_4 ⟨rfl, h_4⟩
    have z_4 := h_4.size
    replace hs := hs.below h_4 hs.hi_le
    replace o_a1 := o_a1.below h_4 o_a1.2.1
    replace o_x1 := o_x1.below h_4 o_x1.2.1
    replace o_a2 := o_a2.below h_4 o_a2.2.1
    replace hB := hB.trans (h_4.mono hB.size)
    go_wp2_with fail
    go_ret
    exact ⟨rfl, hB⟩
end Go.Proofs.Ytiiofcldblgmcaa
