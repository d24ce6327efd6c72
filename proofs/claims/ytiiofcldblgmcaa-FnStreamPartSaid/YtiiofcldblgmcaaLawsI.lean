/-
  The walk of the statement on the beginning of a stream.
  Conditions: the arguments read as lists of bytes.
-/
import Derived.Test.YtiiofcldblgmcaaLawsH
namespace Go.Proofs.Ytiiofcldblgmcaa
open Go Go.RowKit

set_option maxRecDepth 100000 in
set_option maxHeartbeats 1600000 in
theorem wFnStreamPart (A : Option Addr) (n c : Nat) (xs : List Int) (A2 : Option Addr) (n2 c2 : Nat) (xs2 : List Int) (w : World) (hs : SlR .u8 w 0 w.heap.size A n xs) (hl : n ≤ c) (hc : c ≤ 9223372036854775807) (hb : ∀ x ∈ xs, 0 ≤ x ∧ x ≤ 255) (_hs2 : SlR .u8 w 0 w.heap.size A2 n2 xs2) (_hl2 : n2 ≤ c2) (_hc2 : c2 ≤ 9223372036854775807) (_hb2 : ∀ x ∈ xs2, 0 ≤ x ∧ x ≤ 255) : Calls Try.prog 8 #[.slice A n c, .slice A2 n2 c2] w fun e w' => e = .returned (.bool true) ∧ Below w.heap.size w w' := by
  by_cases hbig : 1048576 < n
  · go_enter Try.func8, Try.ntmps8
    go_wp2
    go_ret
    exact ⟨rfl, Below.refl _ _⟩
  by_cases hbig2 : 1048576 < n2
  · go_enter Try.func8, Try.ntmps8
    go_wp2
    go_ret
    exact ⟨rfl, Below.refl _ _⟩
  go_enter Try.func8, Try.ntmps8
  go_wp2_with fail
  refine (drawStreamOf_c A n c xs w hs hb hl hc).mono ?_
  rintro e w_1 ⟨key, m, rfl, h_1⟩
  have z_1 := h_1.size
  have hB := h_1
  go_wp2_with fail
  refine (streamOf_c _ _ _).mono ?_
  rintro e w_2 ⟨A_out, n_out, c_out, rfl, o_out, h_2⟩
  have z_2 := h_2.size
  replace hB := hB.trans (h_2.mono hB.size)
  have b_out : n_out ≤ 4194304 := by have := o_out.len; have := strP_len key m; omega
  go_wp2_with fail
  refine (sStreamOf_c _ _ _).mono ?_
  rintro e w_3 ⟨A_want, n_want, c_want, rfl, o_want, h_3⟩
  have z_3 := h_3.size
  replace o_out := o_out.below h_3 o_out.2.1
  replace hB := hB.trans (h_3.mono hB.size)
  have b_want : n_want ≤ 4194304 := by have := o_want.len; have := strP_len key m; omega
  go_wp2_with fail
  refine (sameInts_t _ _ _ _ _ _ _ _ _ _ _ _ o_out.read o_want.read (by omega)).mono ?_
  rintro e w_4 ⟨rfl, h_4⟩
  have z_4 := h_4.size
  replace o_out := o_out.below h_4 o_out.2.1
  replace o_want := o_want.below h_4 o_want.2.1
  replace hB := hB.trans (h_4.mono hB.size)
  by_cases h0 : n_out = 0
  · have hb0 : ((n_out : Int) == 0) = true := by simp [h0]
    have H0 := Lib.hid h0
    clear h0
    go_wp2_with fail
    refine (sameInts_t _ _ _ _ _ _ _ _ _ _ _ _ o_out.read o_want.read (by omega)).mono ?_
    rintro e w_5 ⟨rfl, h_5⟩
    have z_5 := h_5.size
    replace o_out := o_out.below h_5 o_out.2.1
    replace o_want := o_want.below h_5 o_want.2.1
    replace hB := hB.trans (h_5.mono hB.size)
    go_wp2_with fail
    go_ret
    exact ⟨rfl, hB⟩
  have hb0 : ((n_out : Int) == 0) = false := by simp; omega
  obtain ⟨hk, h0', h24⟩ := strP_pos (k := key) (m := m) (by have := o_out.len; omega)
  obtain ⟨N, rfl⟩ := Int.eq_ofNat_of_zero_le h0'
  have hN : N ≤ 24 := by omega
  have e1 : strP key (N : Int) = strL key N := if_pos ⟨hk, h0', h24⟩
  rw [e1] at o_out
  obtain ⟨hk1, hk2⟩ := elB_iff.1 hk
  have HK := Lib.hid hk
  have hNn : N = n_out := by have := o_out.len; rw [strL_len] at this; exact this
  subst hNn
  clear hk e1 h24 h0'
  have hK : n2 % (N + 1) ≤ N := by have := Nat.mod_lt n2 (show 0 < N + 1 by omega); omega
  have hcap := o_out.cap
  obtain ⟨K, hKe⟩ : ∃ K, K = n2 % (N + 1) := ⟨_, rfl⟩
  have hKi : ((n2 : Int) % ((N : Int) + 1)) = (K : Int) := by rw [hKe, Int.natCast_emod]; rfl
  rw [← hKe] at hK
  have hK0 : (0 : Int) ≤ (K : Int) := Int.natCast_nonneg _
  have hK1 : (K : Int) ≤ (c_out : Int) := by omega
  have e3 : strP key (K : Int) = (strL key N).take K := by rw [strP, if_pos ⟨HK.out, hK0, by omega⟩, Int.toNat_natCast, strL_take key N K hK]
  have HE3 := Lib.hid e3
  have HKE := Lib.hid hKe
  clear e3 hKe
  go_wp2_with fail
  go_region_held3 (fun _ => True) (trivial)
    ((first
      | (go_at_call 34; refine (streamOf_c _ _ _).mono ?_; rintro e w_p ⟨A_p, n_p, c_p, rfl, o_p, h_p⟩; rw [HE3.out] at o_p; have o_q := (o_out.drew).below h_p o_out.2.1; have s_q := o_q.read.take_ (j := K) hK; have b_p : n_p ≤ 24 := (by have := o_p.len; have := List.length_take_le K (strL key N); omega))
      | (go_at_call 42; refine (sameInts_t _ _ _ _ _ _ _ _ _ _ _ _ o_p.read s_q (by omega)).mono ?_; rintro e w_q ⟨rfl, h_q⟩)))
  go_wp2
  go_ret
  have hBd := (hB.drew).trans (h_p.mono hB.size)
  exact ⟨rfl, hBd.trans (h_q.mono hBd.size)⟩
end Go.Proofs.Ytiiofcldblgmcaa
