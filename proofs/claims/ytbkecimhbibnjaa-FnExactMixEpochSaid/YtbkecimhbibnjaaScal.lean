/-
  Contracts of the functions on single numbers: impl and spec, chapter 1, and what later chapters use of it.
  No condition.
-/
import Derived.Test.YtbkecimhbibnjaaRows
import Derived.Test.YtbkecimhbibnjaaMem
import Derived.Test.YtbkecimhbibnjaaPure
import Derived.WalkKit
import Derived.Handy
import Derived.WalkLawsBesides
import Derived.WalkSpells
namespace Go.Proofs.Ytbkecimhbibnjaa
open Go Go.RowKit

theorem mul_bd {a b : Int} (ha : elB a = true) (hb : elB b = true) : 1 ≤ a * b ∧ a * b ≤ 992016 := by
  have h1 := elB_iff.1 ha
  have h2 := elB_iff.1 hb
  have := Int.mul_le_mul h1.2 h2.2 (by omega) (by omega)
  have := Int.mul_le_mul h1.1 h2.1 (by omega) (by omega)
  omega

theorem ret_b {a b : Bool} (h : a = b) : Ending.returned (.bool a) = .returned (.bool b) := by rw [h]
theorem ret_i {a b : Int} (h : a = b) : Ending.returned (.int .i64 a) = .returned (.int .i64 b) := by rw [h]

theorem within_c (n lo hi : Int) (w : World) : Calls Try.prog 66 #[.int .i64 n, .int .i64 lo, .int .i64 hi] w fun e w' => e = .returned (.bool (decide (lo ≤ n) && decide (n ≤ hi))) ∧ w = w' := by
  by_cases h1 : lo ≤ n
  · by_cases h2 : n ≤ hi
    · go_enter Try.func66, Try.ntmps66
      go_wp2
      go_ret
      exact ⟨ret_b (by simp <;> omega), rfl⟩
    · go_enter Try.func66, Try.ntmps66
      go_wp2
      go_ret
      exact ⟨ret_b (by simp <;> omega), rfl⟩
  · go_enter Try.func66, Try.ntmps66
    go_wp2
    go_ret
    exact ⟨ret_b (by simp <;> omega), rfl⟩
theorem isElement_c (n : Int) (w : World) : Calls Try.prog 48 #[.int .i64 n] w fun e w' => e = .returned (.bool (elB n)) ∧ w = w' := by
  go_enter Try.func48, Try.ntmps48
  go_wp2_with (go_at_call 66; refine (within_c _ _ _ _).mono ?_; rintro e w' ⟨rfl, rfl⟩)
  go_ret
  exact ⟨rfl, rfl⟩
theorem product_c (a b : Int) (w : World) : Calls Try.prog 71 #[.int .i64 a, .int .i64 b] w fun e w' => e = .returned (.int .i64 (mulP a b)) ∧ w = w' := by
  cases ha : elB a with
  | false =>
    go_enter Try.func71, Try.ntmps71
    go_wp2_with (go_at_call 48; refine (isElement_c _ _).mono ?_; rintro e w' ⟨rfl, rfl⟩)
    go_ret
    exact ⟨by simp [mulP, ha], rfl⟩
  | true => cases hb : elB b with
    | false =>
      go_enter Try.func71, Try.ntmps71
      go_wp2_with (go_at_call 48; refine (isElement_c _ _).mono ?_; rintro e w' ⟨rfl, rfl⟩)
      go_ret
      exact ⟨by simp [mulP, hb], rfl⟩
    | true =>
      have hm := mul_bd ha hb
      go_enter Try.func71, Try.ntmps71
      go_wp2_with (go_at_call 48; refine (isElement_c _ _).mono ?_; rintro e w' ⟨rfl, rfl⟩)
      go_ret
      exact ⟨ret_i (mulP_eq ha hb).symm, rfl⟩
theorem public_c (a : Int) (w : World) : Calls Try.prog 86 #[.int .i64 a] w fun e w' => e = .returned (.int .i64 (mulP a 5)) ∧ w = w' := by
  go_enter Try.func86, Try.ntmps86
  go_wp2_with (go_at_call 71; refine (product_c _ _ _).mono ?_; rintro e w' ⟨rfl, rfl⟩)
  go_ret
  exact ⟨rfl, rfl⟩
theorem shared_c (a b : Int) (w : World) : Calls Try.prog 31 #[.int .i64 a, .int .i64 b] w fun e w' => e = .returned (.int .i64 (mulP a b)) ∧ w = w' := by
  go_enter Try.func31, Try.ntmps31
  go_wp2_with (go_at_call 71; refine (product_c _ _ _).mono ?_; rintro e w' ⟨rfl, rfl⟩)
  go_ret
  exact ⟨rfl, rfl⟩
theorem blind_c (a b : Int) (w : World) : Calls Try.prog 33 #[.int .i64 a, .int .i64 b] w fun e w' => e = .returned (.int .i64 (mulP a b)) ∧ w = w' := by
  go_enter Try.func33, Try.ntmps33
  go_wp2_with (go_at_call 71; refine (product_c _ _ _).mono ?_; rintro e w' ⟨rfl, rfl⟩)
  go_ret
  exact ⟨rfl, rfl⟩
theorem factor_c (a : Int) (w : World) : Calls Try.prog 32 #[.int .i64 a] w fun e w' => e = .returned (.int .i64 (facP a)) ∧ w = w' := by
  cases ha : elB a with
  | false =>
    go_enter Try.func32, Try.ntmps32
    go_wp2_with (go_at_call 48; refine (isElement_c _ _).mono ?_; rintro e w' ⟨rfl, rfl⟩)
    go_ret
    exact ⟨by simp [facP, ha], rfl⟩
  | true =>
    have hb := elB_iff.1 ha
    obtain ⟨hb1, hb2⟩ := hb
    go_enter Try.func32, Try.ntmps32
    go_wp2_with (go_at_call 48; refine (isElement_c _ _).mono ?_; rintro e w' ⟨rfl, rfl⟩)
    go_ret
    exact ⟨ret_i (facP_eq ha).symm, rfl⟩
theorem l6In_c (n lo hi : Int) (w : World) : Calls Try.prog 90 #[.int .i64 n, .int .i64 lo, .int .i64 hi] w fun e w' => e = .returned (.bool (decide (lo ≤ n) && decide (n ≤ hi))) ∧ w = w' := by
  by_cases h1 : lo ≤ n
  · by_cases h2 : n ≤ hi
    · go_enter Try.func90, Try.ntmps90
      go_wp2
      go_ret
      exact ⟨ret_b (by simp <;> omega), rfl⟩
    · go_enter Try.func90, Try.ntmps90
      go_wp2
      go_ret
      exact ⟨ret_b (by simp <;> omega), rfl⟩
  · go_enter Try.func90, Try.ntmps90
    go_wp2
    go_ret
    exact ⟨ret_b (by simp <;> omega), rfl⟩
theorem l1Is_c (n : Int) (w : World) : Calls Try.prog 50 #[.int .i64 n] w fun e w' => e = .returned (.bool (elB n)) ∧ w = w' := by
  go_enter Try.func50, Try.ntmps50
  go_wp2_with (go_at_call 90; refine (l6In_c _ _ _ _).mono ?_; rintro e w' ⟨rfl, rfl⟩)
  go_ret
  exact ⟨rfl, rfl⟩
theorem l1Times_c (a b : Int) (w : World) (ha : elB a = true) (hb : elB b = true) : Calls Try.prog 108 #[.int .i64 a, .int .i64 b] w fun e w' => e = .returned (.int .i64 (mulP a b)) ∧ w = w' := by
  have hm := mul_bd ha hb
  go_enter Try.func108, Try.ntmps108
  go_wp2
  go_ret
  exact ⟨ret_i (mulP_eq ha hb).symm, rfl⟩
theorem l1Factor_c (a : Int) (w : World) (ha : elB a = true) : Calls Try.prog 111 #[.int .i64 a] w fun e w' => e = .returned (.int .i64 (facP a)) ∧ w = w' := by
  obtain ⟨hb1, hb2⟩ := elB_iff.1 ha
  go_enter Try.func111, Try.ntmps111
  go_wp2
  go_ret
  exact ⟨ret_i (facP_eq ha).symm, rfl⟩
theorem el_five : elB 5 = true := by decide
theorem sPublic_c (a : Int) (w : World) : Calls Try.prog 94 #[.int .i64 a] w fun e w' => e = .returned (.int .i64 (mulP a 5)) ∧ w = w' := by
  cases ha : elB a with
  | false =>
    go_enter Try.func94, Try.ntmps94
    go_wp2_with (go_at_call 50; refine (l1Is_c _ _).mono ?_; rintro e w' ⟨rfl, rfl⟩)
    go_ret
    exact ⟨by simp [mulP, ha], rfl⟩
  | true =>
    have h5 := el_five
    go_enter Try.func94, Try.ntmps94
    go_wp2_with (first | (go_at_call 50; refine (l1Is_c _ _).mono ?_; rintro e w' ⟨rfl, rfl⟩) | (go_at_call 108; refine (l1Times_c _ _ _ (by assumption) (by assumption)).mono ?_; rintro e w' ⟨rfl, rfl⟩))
    go_ret
    exact ⟨rfl, rfl⟩
end Go.Proofs.Ytbkecimhbibnjaa
