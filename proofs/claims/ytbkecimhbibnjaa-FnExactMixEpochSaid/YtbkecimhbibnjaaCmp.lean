/-
  Contracts of the tags, and of the functions of the statements that compare, copy and mark lists.
  Conditions: a list's slice reads as a list of whole numbers.
-/
import Derived.Test.YtbkecimhbibnjaaTag
namespace Go.Proofs.Ytbkecimhbibnjaa
open Go Go.RowKit

theorem tagP_eq' {k : Int} {xs : List Int} (hk : elB k = true) (hx : listB xs = true) : tagP k xs = tagF (tag0 k xs.length) xs := if_pos ⟨hk, hx⟩

theorem tagOf_c (key : Int) (A : Option Addr) (n c lo hi : Nat) (xs : List Int) (w : World) (hs : SlR .i64 w lo hi A n xs) : Calls Try.prog 74 #[.int .i64 key, .slice A n c] w fun e w' => e = .returned (.int .i64 (tagP key xs)) ∧ w = w' := by
  have hl := hs.len
  have HL := Lib.hid hl
  clear hl
  cases hk : elB key with
  | false =>
    go_enter Try.func74, Try.ntmps74
    go_wp2_with (first | (go_at_call 48; refine (isElement_c _ _).mono ?_; rintro e w' ⟨rfl, rfl⟩) | (go_at_call 112; refine (isList_c _ _ _ _ _ _ _ hs).mono ?_; rintro e w' ⟨rfl, rfl⟩))
    go_ret
    exact ⟨ret_i (by simp [tagP, hk]), rfl⟩
  | true => cases hx : listB xs with
    | false =>
      go_enter Try.func74, Try.ntmps74
      go_wp2_with (first | (go_at_call 48; refine (isElement_c _ _).mono ?_; rintro e w' ⟨rfl, rfl⟩) | (go_at_call 112; refine (isList_c _ _ _ _ _ _ _ hs).mono ?_; rintro e w' ⟨rfl, rfl⟩))
      go_ret
      exact ⟨ret_i (by simp [tagP, hx]), rfl⟩
    | true =>
      have hn24 : n ≤ 24 := by have := (listB_iff.1 hx).1; rw [HL.out] at this; exact this
      obtain ⟨hk1, hk2⟩ := elB_iff.1 hk
      have h0 := tag0_bd key n
      have HC := Lib.hid (absorb_c (tag0 key n) A n c lo hi xs w hs h0 (fun i hi => listB_at hx (by rw [HL.out]; exact hi)) (by omega))
      have e0 : (3 * key + 41 * (n : Int) + 1) % 991 = tag0 key n := rfl
      have HP := Lib.hid (show tagF (tag0 key n) xs = tagP key xs by rw [tagP_eq' hk hx, HL.out])
      clear h0
      go_enter Try.func74, Try.ntmps74
      go_wp2_with (first | (go_at_call 48; refine (isElement_c _ _).mono ?_; rintro e w' ⟨rfl, rfl⟩) | (go_at_call 112; refine (isList_c _ _ _ _ _ _ _ hs).mono ?_; rintro e w' ⟨rfl, rfl⟩) | (go_at_call 114; refine HC.out.mono ?_; rintro e w' ⟨rfl, rfl⟩))
      go_ret
      exact ⟨ret_i HP.out, rfl⟩
theorem tagCheck_c (key : Int) (A : Option Addr) (n c lo hi : Nat) (xs : List Int) (t : Int) (w : World) (hs : SlR .i64 w lo hi A n xs) : Calls Try.prog 35 #[.int .i64 key, .slice A n c, .int .i64 t] w fun e w' => e = .returned (.bool (checkP key xs t)) ∧ w = w' := by
  by_cases h0 : 0 ≤ t
  · go_enter Try.func35, Try.ntmps35
    go_wp2_with (go_at_call 74; refine (tagOf_c _ _ _ _ _ _ _ _ hs).mono ?_; rintro e w' ⟨rfl, rfl⟩)
    go_ret
    exact ⟨ret_b (by rw [Bool.eq_iff_iff]; simp [checkP]; try omega), rfl⟩
  · go_enter Try.func35, Try.ntmps35
    go_wp2
    go_ret
    exact ⟨ret_b (by rw [Bool.eq_iff_iff]; simp [checkP]; try omega), rfl⟩
end Go.Proofs.Ytbkecimhbibnjaa
