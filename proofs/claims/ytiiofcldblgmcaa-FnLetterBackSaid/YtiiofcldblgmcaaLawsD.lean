/-
  The walks of the statements on tags.
  Conditions: the arguments read as lists of bytes.
-/
import Derived.Test.YtiiofcldblgmcaaLawsC
namespace Go.Proofs.Ytiiofcldblgmcaa
open Go Go.RowKit

set_option maxRecDepth 100000 in
set_option maxHeartbeats 1600000 in
theorem wFnTag (A : Option Addr) (n c : Nat) (xs : List Int) (w : World) (hs : SlR .u8 w 0 w.heap.size A n xs) (hl : n ≤ c) (hc : c ≤ 9223372036854775807) (hb : ∀ x ∈ xs, 0 ≤ x ∧ x ≤ 255) : Calls Try.prog 13 #[.slice A n c] w fun e w' => e = .returned (.bool true) ∧ Below w.heap.size w w' := by
  by_cases hbig : 1048576 < n
  · go_enter Try.func13, Try.ntmps13
    go_wp2
    go_ret
    exact ⟨rfl, Below.refl _ _⟩
  go_enter Try.func13, Try.ntmps13
  go_wp2_with fail
  refine (drawTagOf_c A n c xs w hs hb hl hc).mono ?_
  rintro e w_1 ⟨A_l, n_l, c_l, xs_l, key, rfl, o_l, b_l, h_1⟩
  have z_1 := h_1.size
  have hB := h_1
  go_wp2_with fail
  refine (tagOf_c _ _ _ _ _ _ _ _ o_l.read).mono ?_
  rintro e w' ⟨rfl, rfl⟩
  go_wp2_with fail
  refine (sTagOf_c _ _ _ _ _ _ _ _ o_l.read (by omega)).mono ?_
  rintro e w' ⟨rfl, rfl⟩
  have htb := tagP_bd key xs_l
  obtain ⟨htb1, htb2⟩ := htb
  by_cases hneg : tagP key xs_l < 0
  · go_wp2_with fail
    go_ret
    exact ⟨rfl, hB⟩
  have hgood := tagP_good (xs := xs_l) (k := key) (by omega)
  have HX := Lib.hid hgood.1
  have HL := Lib.hid hgood.2
  clear hgood
  have hck : checkP key xs_l (tagP key xs_l) = true := checkP_iff.2 ⟨by omega, rfl⟩
  have HC := Lib.hid hck
  clear hck
  go_wp2_with fail
  refine (tagCheck_c _ _ _ _ _ _ _ _ _ o_l.read).mono ?_
  rintro e w' ⟨rfl, rfl⟩
  rw [HC.out]
  go_wp2_with fail
  go_ret
  exact ⟨ret_b (by first | rfl | (simp; omega)), hB⟩
set_option maxRecDepth 100000 in
set_option maxHeartbeats 1600000 in
theorem wFnTagEmpty (A : Option Addr) (n c : Nat) (xs : List Int) (w : World) (hs : SlR .u8 w 0 w.heap.size A n xs) (hl : n ≤ c) (hc : c ≤ 9223372036854775807) (hb : ∀ x ∈ xs, 0 ≤ x ∧ x ≤ 255) : Calls Try.prog 12 #[.slice A n c] w fun e w' => e = .returned (.bool true) ∧ Below w.heap.size w w' := by
  by_cases hbig : 1048576 < n
  · go_enter Try.func12, Try.ntmps12
    go_wp2
    go_ret
    exact ⟨rfl, Below.refl _ _⟩
  go_enter Try.func12, Try.ntmps12
  go_wp2_with fail
  refine (drawTagOf_c A n c xs w hs hb hl hc).mono ?_
  rintro e w_1 ⟨A_l, n_l, c_l, xs_l, key, rfl, o_l, b_l, h_1⟩
  have z_1 := h_1.size
  have hB := h_1
  go_wp2_with fail
  refine (tagOf_c _ _ _ _ _ _ _ _ o_l.read).mono ?_
  rintro e w' ⟨rfl, rfl⟩
  go_wp2_with fail
  refine (sTagOf_c _ _ _ _ _ _ _ _ o_l.read (by omega)).mono ?_
  rintro e w' ⟨rfl, rfl⟩
  have htb := tagP_bd key xs_l
  obtain ⟨htb1, htb2⟩ := htb
  by_cases hneg : tagP key xs_l < 0
  · go_wp2_with fail
    go_ret
    exact ⟨rfl, hB⟩
  have hgood := tagP_good (xs := xs_l) (k := key) (by omega)
  have HX := Lib.hid hgood.1
  have HL := Lib.hid hgood.2
  clear hgood
  go_wp2_with fail
  have hnil : SlR .i64 (w_1.alloc (.cells #[] 3)) 0 0 (some ⟨w_1.heap.size, 0, none⟩) 0 [] := SlR.nil (Nat.zero_le _) _
  refine (tagOf_c _ _ _ _ _ _ _ _ hnil).mono ?_
  rintro e w' ⟨rfl, rfl⟩
  have e1 : tagP key [] = (3 * key + 1) % 991 := by rw [tagP_eq HX.out (by decide), tagL_nil]
  obtain ⟨hk1, hk2⟩ := elB_iff.1 HX.out
  rw [e1]
  clear e1
  go_wp2_with fail
  go_ret
  exact ⟨ret_b (by first | rfl | simp), hB.alloc hB.size _⟩
set_option maxRecDepth 100000 in
set_option maxHeartbeats 1600000 in
theorem wFnTagOther (A : Option Addr) (n c : Nat) (xs : List Int) (A2 : Option Addr) (n2 c2 : Nat) (xs2 : List Int) (w : World) (hs : SlR .u8 w 0 w.heap.size A n xs) (hl : n ≤ c) (hc : c ≤ 9223372036854775807) (hb : ∀ x ∈ xs, 0 ≤ x ∧ x ≤ 255) (_hs2 : SlR .u8 w 0 w.heap.size A2 n2 xs2) (_hl2 : n2 ≤ c2) (_hc2 : c2 ≤ 9223372036854775807) (_hb2 : ∀ x ∈ xs2, 0 ≤ x ∧ x ≤ 255) : Calls Try.prog 16 #[.slice A n c, .slice A2 n2 c2] w fun e w' => e = .returned (.bool true) ∧ Below w.heap.size w w' := by
  by_cases hbig : 1048576 < n
  · go_enter Try.func16, Try.ntmps16
    go_wp2
    go_ret
    exact ⟨rfl, Below.refl _ _⟩
  by_cases hbig2 : 1048576 < n2
  · go_enter Try.func16, Try.ntmps16
    go_wp2
    go_ret
    exact ⟨rfl, Below.refl _ _⟩
  go_enter Try.func16, Try.ntmps16
  go_wp2_with fail
  refine (drawTagCheck_c A n c xs w hs hb hl hc).mono ?_
  rintro e w_1 ⟨A_l, n_l, c_l, xs_l, key, t, rfl, o_l, b_l, h_1⟩
  have z_1 := h_1.size
  have hB := h_1
  go_wp2_with fail
  refine (tagCheck_c _ _ _ _ _ _ _ _ _ o_l.read).mono ?_
  rintro e w' ⟨rfl, rfl⟩
  go_wp2_with fail
  refine (sTagCheck_c _ _ _ _ _ _ _ _ _ o_l.read (by omega)).mono ?_
  rintro e w' ⟨rfl, rfl⟩
  cases hck : checkP key xs_l t with
  | false =>
    go_wp2_with fail
    go_ret
    exact ⟨ret_b (by first | rfl | simp), hB⟩
  | true =>
    obtain ⟨ht0, ht1⟩ := checkP_iff.1 hck
    have htb := (tagP_bd key xs_l).2
    rw [← ht1] at htb
    have HC := Lib.hid hck
    have HT := Lib.hid ht1
    clear hck ht1
    go_wp2_with fail
    refine (another_c _ _ _ ⟨ht0, htb⟩ (by omega) (by omega)).mono ?_
    rintro e w' ⟨y, rfl, hy0, hy1, hyn, rfl⟩
    have hck2 : checkP key xs_l y = false := by
      cases g : checkP key xs_l y with
      | false => rfl
      | true => exact absurd ((checkP_iff.1 g).2.trans HT.out.symm) hyn
    have HC2 := Lib.hid hck2
    have hym := Lib.hid hyn
    clear hck2 hyn
    go_wp2_with fail
    refine (tagCheck_c _ _ _ _ _ _ _ _ _ o_l.read).mono ?_
    rintro e w' ⟨rfl, rfl⟩
    rw [HC2.out]
    go_wp2_with fail
    refine (tagOf_c _ _ _ _ _ _ _ _ o_l.read).mono ?_
    rintro e w' ⟨rfl, rfl⟩
    rw [← HT.out]
    go_wp2_with fail
    go_ret
    exact ⟨ret_b (by first | rfl | simp), hB⟩
end Go.Proofs.Ytiiofcldblgmcaa
