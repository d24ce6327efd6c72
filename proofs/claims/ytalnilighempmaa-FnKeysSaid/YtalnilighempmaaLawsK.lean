/-
  The walks of the statements on the keys of a path.
  Conditions: the arguments read as lists of bytes.
-/
import Derived.Test.YtalnilighempmaaLawsC
import Derived.Test.YtalnilighempmaaDrawQ
namespace Go.Proofs.Ytalnilighempmaa
open Go Go.RowKit

set_option maxRecDepth 100000 in
set_option maxHeartbeats 1600000 in
theorem wFnKeysPart (A : Option Addr) (n c : Nat) (xs : List Int) (A2 : Option Addr) (n2 c2 : Nat) (xs2 : List Int) (w : World) (hs : SlR .u8 w 0 w.heap.size A n xs) (hl : n ≤ c) (hc : c ≤ 9223372036854775807) (hb : ∀ x ∈ xs, 0 ≤ x ∧ x ≤ 255) (_hs2 : SlR .u8 w 0 w.heap.size A2 n2 xs2) (_hl2 : n2 ≤ c2) (_hc2 : c2 ≤ 9223372036854775807) (_hb2 : ∀ x ∈ xs2, 0 ≤ x ∧ x ≤ 255) : Calls Try.prog 10 #[.slice A n c, .slice A2 n2 c2] w fun e w' => e = .returned (.bool true) ∧ Below w.heap.size w w' := by
  by_cases hbig : 1048576 < n
  · go_enter Try.func10, Try.ntmps10
    go_wp2
    go_ret
    exact ⟨rfl, Below.refl _ _⟩
  by_cases hbig2 : 1048576 < n2
  · go_enter Try.func10, Try.ntmps10
    go_wp2
    go_ret
    exact ⟨rfl, Below.refl _ _⟩
  go_enter Try.func10, Try.ntmps10
  go_wp2_with fail
  refine (drawPathKeys_c A n c xs w hs hb hl hc).mono ?_
  rintro e w_1 ⟨A_l, n_l, c_l, xs_l, key, rfl, o_l, b_l, h_1⟩
  have z_1 := h_1.size
  have hB := h_1
  go_wp2_with fail
  refine (pathKeys_c _ _ _ _ _ _ _ _ o_l.read (by omega)).mono ?_
  rintro e w_2 ⟨A_out, n_out, c_out, rfl, o_out, h_2⟩
  have z_2 := h_2.size
  replace o_l := o_l.below h_2 o_l.2.1
  replace hB := hB.trans (h_2.mono hB.size)
  have b_out : n_out ≤ 4194304 := by have := o_out.len; have := keysP_len key xs_l; omega
  go_wp2_with fail
  refine (sPathKeys_c _ _ _ _ _ _ _ _ o_l.read (by omega)).mono ?_
  rintro e w_3 ⟨A_want, n_want, c_want, rfl, o_want, h_3⟩
  have z_3 := h_3.size
  replace o_l := o_l.below h_3 o_l.2.1
  replace o_out := o_out.below h_3 o_out.2.1
  replace hB := hB.trans (h_3.mono hB.size)
  have b_want : n_want ≤ 4194304 := by have := o_want.len; have := keysP_len key xs_l; omega
  cases hok : pathOk key xs_l with
  | false =>
    go_wp2_with fail
    refine (sameInts_t _ _ _ _ _ _ _ _ _ _ _ _ o_out.read o_want.read (by omega)).mono ?_
    rintro e w_4 ⟨rfl, h_4⟩
    have z_4 := h_4.size
    replace o_l := o_l.below h_4 o_l.2.1
    replace o_out := o_out.below h_4 o_out.2.1
    replace o_want := o_want.below h_4 o_want.2.1
    replace hB := hB.trans (h_4.mono hB.size)
    go_wp2_with fail
    refine (sameInts_t _ _ _ _ _ _ _ _ _ _ _ _ o_out.read o_want.read (by omega)).mono ?_
    rintro e w_5 ⟨rfl, h_5⟩
    have z_5 := h_5.size
    replace o_l := o_l.below h_5 o_l.2.1
    replace o_out := o_out.below h_5 o_out.2.1
    replace o_want := o_want.below h_5 o_want.2.1
    replace hB := hB.trans (h_5.mono hB.size)
    go_wp2_with fail
    go_ret
    exact ⟨ret_b (by first | rfl | simp), hB⟩
  | true =>
    have hel : elB key = true ∧ pathB xs_l = true := by simpa [pathOk] using hok
    have hkp : keysP key xs_l = keysL key xs_l := by simp [keysP, hok]
    rw [hkp] at o_out o_want
    have HE := Lib.hid hel.1
    have HP := Lib.hid hel.2
    have hnn : n_l = n_out := by have := o_out.len; have := o_l.len; have := keysL_len key xs_l; omega
    subst hnn
    have hn13 : 1 ≤ n_l ∧ n_l ≤ 3 := by have := (pathB_iff.1 hel.2).2; have := o_l.len; omega
    have hlen := Lib.hid o_l.len
    clear hel hkp hok
    go_wp2_with fail
    refine (sameInts_t _ _ _ _ _ _ _ _ _ _ _ _ o_out.read o_want.read (by omega)).mono ?_
    rintro e w_4 ⟨rfl, h_4⟩
    have z_4 := h_4.size
    replace o_l := o_l.below h_4 o_l.2.1
    replace o_out := o_out.below h_4 o_out.2.1
    replace o_want := o_want.below h_4 o_want.2.1
    replace hB := hB.trans (h_4.mono hB.size)
    have hm : n2 % n_l < n_l := Nat.mod_lt _ (by omega)
    have hk : 1 + n2 % n_l ≤ n_l := by omega
    have hm0 : (0 : Int) ≤ (n2 : Int) % (n_l : Int) := Int.emod_nonneg _ (by omega)
    have hm1 : (n2 : Int) % (n_l : Int) < (n_l : Int) := Int.emod_lt_of_pos _ (by omega)
    have hcap := o_l.cap
    have hcap2 := o_out.cap
    have hot : pathOk key (xs_l.take (1 + n2 % n_l)) = true := by
      have hp := pathB_iff.1 HP.out
      have : pathB (xs_l.take (1 + n2 % n_l)) = true := pathB_iff.2 ⟨fun p h => hp.1 p (List.mem_of_mem_take h), by rw [List.length_take, hlen.out]; omega, by rw [List.length_take, hlen.out]; omega⟩
      simp [pathOk, HE.out, this]
    have hkt : keysP key (xs_l.take (1 + n2 % n_l)) = (keysL key xs_l).take (1 + n2 % n_l) := by simp only [keysP, hot, if_true]; exact keysL_take _ _ _
    have HOT := Lib.hid hot
    have HKT := Lib.hid hkt
    clear hot hkt
    go_wp2_with fail
    refine (pathKeys_c _ _ _ _ _ _ _ _ (o_l.read.take_ (j := 1 + n2 % n_l) hk) (by omega)).mono ?_
    rintro e w_5 ⟨A_x, n_x, c_x, rfl, o_x, h_5⟩
    have z_5 := h_5.size
    replace o_l := o_l.below h_5 o_l.2.1
    replace o_out := o_out.below h_5 o_out.2.1
    replace o_want := o_want.below h_5 o_want.2.1
    replace hB := hB.trans (h_5.mono hB.size)
    have b_x : n_x ≤ 4194304 := by have := o_x.len; have := keysP_len key (xs_l.take (1 + n2 % n_l)); omega
    rw [HOT.out]
    rw [HKT.out] at o_x
    go_wp2_with fail
    refine (sameInts_t _ _ _ _ _ _ _ _ _ _ _ _ o_x.read (o_out.read.take_ (j := 1 + n2 % n_l) hk) (by omega)).mono ?_
    rintro e w_6 ⟨rfl, h_6⟩
    have z_6 := h_6.size
    replace o_l := o_l.below h_6 o_l.2.1
    replace o_out := o_out.below h_6 o_out.2.1
    replace o_want := o_want.below h_6 o_want.2.1
    replace o_x := o_x.below h_6 o_x.2.1
    replace hB := hB.trans (h_6.mono hB.size)
    go_wp2_with fail
    go_ret
    exact ⟨ret_b (by first | rfl | simp), hB⟩
end Go.Proofs.Ytalnilighempmaa
