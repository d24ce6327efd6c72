/-
  Contracts of the tags, and of the functions of the statements that compare, copy and mark lists.
  Conditions: a list's slice reads as a list of whole numbers.
-/
import Derived.Test.YtiiofcldblgmcaaTag
namespace Go.Proofs.Ytiiofcldblgmcaa
open Go Go.RowKit

theorem tagP_eq' {k : Int} {xs : List Int} (hk : elB k = true) (hx : listB xs = true) : tagP k xs = tagF (tag0 k xs.length) xs := if_pos ⟨hk, hx⟩

theorem tagOf_c (key : Int) (A : Option Addr) (n c lo hi : Nat) (xs : List Int) (w : World) (hs : SlR .i64 w lo hi A n xs) : Calls Try.prog 29 #[.int .i64 key, .slice A n c] w fun e w' => e = .returned (.int .i64 (tagP key xs)) ∧ w = w' := by
  have hl := hs.len
  have HL := Lib.hid hl
  clear hl
  cases hk : elB key with
  | false =>
    go_enter Try.func29, Try.ntmps29
    go_wp2_with (first | (go_at_call 58; refine (isElement_c _ _).mono ?_; rintro e w' ⟨rfl, rfl⟩) | (go_at_call 59; refine (isList_c _ _ _ _ _ _ _ hs).mono ?_; rintro e w' ⟨rfl, rfl⟩))
    go_ret
    exact ⟨ret_i (by simp [tagP, hk]), rfl⟩
  | true => cases hx : listB xs with
    | false =>
      go_enter Try.func29, Try.ntmps29
      go_wp2_with (first | (go_at_call 58; refine (isElement_c _ _).mono ?_; rintro e w' ⟨rfl, rfl⟩) | (go_at_call 59; refine (isList_c _ _ _ _ _ _ _ hs).mono ?_; rintro e w' ⟨rfl, rfl⟩))
      go_ret
      exact ⟨ret_i (by simp [tagP, hx]), rfl⟩
    | true =>
      have hn24 : n ≤ 24 := by have := (listB_iff.1 hx).1; rw [HL.out] at this; exact this
      obtain ⟨hk1, hk2⟩ := elB_iff.1 hk
      have h0 := tag0_bd key n
      have HC := Lib.hid (absorb_c (tag0 key n) A n c lo hi xs w hs h0 (fun i hi => listB_at hx (by rw [HL.out]; exact hi)) (by omega))
      have e0 : (3 * key + 41 * (n : Int) + 1) % 991 = tag0 key n := rfl
      have HP := Lib.hid (show tagF (tag0 key n) xs = tagP key xs by rw [tagP_eq' hk hx, HL.out])
      clear h0
      go_enter Try.func29, Try.ntmps29
      go_wp2_with (first | (go_at_call 58; refine (isElement_c _ _).mono ?_; rintro e w' ⟨rfl, rfl⟩) | (go_at_call 59; refine (isList_c _ _ _ _ _ _ _ hs).mono ?_; rintro e w' ⟨rfl, rfl⟩) | (go_at_call 60; refine HC.out.mono ?_; rintro e w' ⟨rfl, rfl⟩))
      go_ret
      exact ⟨ret_i HP.out, rfl⟩
theorem sTagOf_c (key : Int) (A : Option Addr) (n c lo hi : Nat) (xs : List Int) (w : World) (hs : SlR .i64 w lo hi A n xs) (hn : n ≤ 4611686018427387904) : Calls Try.prog 27 #[.int .i64 key, .slice A n c] w fun e w' => e = .returned (.int .i64 (tagP key xs)) ∧ w = w' := by
  have hl := hs.len
  have HL := Lib.hid hl
  clear hl
  cases hk : elB key with
  | false =>
    go_enter Try.func27, Try.ntmps27
    go_wp2_with (first | (go_at_call 55; refine (l1Is_c _ _).mono ?_; rintro e w' ⟨rfl, rfl⟩) | (go_at_call 56; refine (l2List_c _ _ _ _ _ _ _ hs hn).mono ?_; rintro e w' ⟨rfl, rfl⟩))
    go_ret
    exact ⟨ret_i (by simp [tagP, hk]), rfl⟩
  | true => cases hx : listB xs with
    | false =>
      go_enter Try.func27, Try.ntmps27
      go_wp2_with (first | (go_at_call 55; refine (l1Is_c _ _).mono ?_; rintro e w' ⟨rfl, rfl⟩) | (go_at_call 56; refine (l2List_c _ _ _ _ _ _ _ hs hn).mono ?_; rintro e w' ⟨rfl, rfl⟩))
      go_ret
      exact ⟨ret_i (by simp [tagP, hx]), rfl⟩
    | true =>
      have hn24 : n ≤ 24 := by have := (listB_iff.1 hx).1; rw [HL.out] at this; exact this
      obtain ⟨hk1, hk2⟩ := elB_iff.1 hk
      have HC := Lib.hid (l3Tag_c key A n c lo hi xs w hs ⟨by omega, hk2⟩ (fun i hi => listB_at hx (by rw [HL.out]; exact hi)) (by omega))
      have HP := Lib.hid (show tagL key xs = tagP key xs by rw [tagP_eq' hk hx]; rfl)
      go_enter Try.func27, Try.ntmps27
      go_wp2_with (first | (go_at_call 55; refine (l1Is_c _ _).mono ?_; rintro e w' ⟨rfl, rfl⟩) | (go_at_call 56; refine (l2List_c _ _ _ _ _ _ _ hs hn).mono ?_; rintro e w' ⟨rfl, rfl⟩) | (go_at_call 57; refine HC.out.mono ?_; rintro e w' ⟨rfl, rfl⟩))
      go_ret
      exact ⟨ret_i HP.out, rfl⟩
theorem tagCheck_c (key : Int) (A : Option Addr) (n c lo hi : Nat) (xs : List Int) (t : Int) (w : World) (hs : SlR .i64 w lo hi A n xs) : Calls Try.prog 32 #[.int .i64 key, .slice A n c, .int .i64 t] w fun e w' => e = .returned (.bool (checkP key xs t)) ∧ w = w' := by
  by_cases h0 : 0 ≤ t
  · go_enter Try.func32, Try.ntmps32
    go_wp2_with (go_at_call 29; refine (tagOf_c _ _ _ _ _ _ _ _ hs).mono ?_; rintro e w' ⟨rfl, rfl⟩)
    go_ret
    exact ⟨ret_b (by rw [Bool.eq_iff_iff]; simp [checkP]; try omega), rfl⟩
  · go_enter Try.func32, Try.ntmps32
    go_wp2
    go_ret
    exact ⟨ret_b (by rw [Bool.eq_iff_iff]; simp [checkP]; try omega), rfl⟩
theorem sTagCheck_c (key : Int) (A : Option Addr) (n c lo hi : Nat) (xs : List Int) (t : Int) (w : World) (hs : SlR .i64 w lo hi A n xs) (hn : n ≤ 4611686018427387904) : Calls Try.prog 31 #[.int .i64 key, .slice A n c, .int .i64 t] w fun e w' => e = .returned (.bool (checkP key xs t)) ∧ w = w' := by
  by_cases h0 : 0 ≤ t
  · go_enter Try.func31, Try.ntmps31
    go_wp2_with (go_at_call 27; refine (sTagOf_c _ _ _ _ _ _ _ _ hs hn).mono ?_; rintro e w' ⟨rfl, rfl⟩)
    go_ret
    exact ⟨ret_b (by rw [Bool.eq_iff_iff]; simp [checkP]; try omega), rfl⟩
  · go_enter Try.func31, Try.ntmps31
    go_wp2
    go_ret
    exact ⟨ret_b (by rw [Bool.eq_iff_iff]; simp [checkP]; try omega), rfl⟩
end Go.Proofs.Ytiiofcldblgmcaa
