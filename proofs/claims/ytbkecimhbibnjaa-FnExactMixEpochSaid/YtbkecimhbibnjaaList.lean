/-
  Contracts of the functions that read lists of numbers: whether a list is valid, and the numbers of a stream.
  Conditions: the list's slice reads as a list of whole numbers.
-/
import Derived.Test.YtbkecimhbibnjaaScal
import Derived.Test.YtbkecimhbibnjaaPureB
import Derived.LoopTactic
import Derived.Lib.Hide
import Derived.StillTailTactics
import Derived.Deep.QuietTactic
import Derived.BigQuiet
namespace Go.Proofs.Ytbkecimhbibnjaa
open Go Go.RowKit

theorem isNumber_c (n : Int) (w : World) : Calls Try.prog 73 #[.int .i64 n] w fun e w' => e = .returned (.bool (numB n)) ∧ w = w' := by
  go_enter Try.func73, Try.ntmps73
  go_wp2_with (go_at_call 66; refine (within_c _ _ _ _).mono ?_; rintro e w' ⟨rfl, rfl⟩)
  go_ret
  exact ⟨rfl, rfl⟩

/-- The first k numbers are in range. -/
def NumTo (xs : List Int) (k : Nat) : Prop := ∀ j, j < k → numB (xs.getD j 0) = true
theorem NumTo.zero (xs : List Int) : NumTo xs 0 := fun j hj => by omega
theorem NumTo.next {xs : List Int} {k : Nat} {v : Int} (h : NumTo xs k) (hv : v = xs.getD k 0) (hn : numB v = true) : NumTo xs (k + 1) := fun j hj => by
  by_cases e : j = k
  · subst e; rw [← hv]; exact hn
  · exact h j (by omega)
theorem NumTo.all {xs : List Int} (h : NumTo xs xs.length) : xs.all numB = true := by
  rw [List.all_eq_true]
  intro x hx
  obtain ⟨j, hj, rfl⟩ := List.mem_iff_getElem.1 hx
  have := h j hj
  simpa [List.getD_eq_getElem?_getD, hj] using this
theorem NumTo.list {xs : List Int} (h : NumTo xs xs.length) (hl : xs.length ≤ 24) : listB xs = true := by
  rw [listB, h.all]; simp; omega
theorem listB_no {xs : List Int} {k : Nat} {v : Int} (hk : k < xs.length) (hv : v = xs.getD k 0) (hn : numB v = false) : listB xs = false := by
  cases h : listB xs with
  | false => rfl
  | true =>
    have := listB_at h hk
    rw [← hv] at this
    rw [numB_iff.2 this] at hn
    cases hn
theorem listB_long {xs : List Int} (h : 24 < xs.length) : listB xs = false := by
  cases g : listB xs with
  | false => rfl
  | true => have := (listB_iff.1 g).1; omega

theorem isList_c (A : Option Addr) (n c lo hi : Nat) (xs : List Int) (w : World) (h : SlR .i64 w lo hi A n xs) : Calls Try.prog 112 #[.slice A n c] w fun e w' => e = .returned (.bool (listB xs)) ∧ w = w' := by
  have hl := h.len
  by_cases hn : 24 < n
  · have hf := listB_long (xs := xs) (by omega)
    clear hl h
    go_enter Try.func112, Try.ntmps112
    go_wp2
    go_ret
    exact ⟨ret_b hf.symm, rfl⟩
  · have HL := Lib.hid hl
    clear hl
    go_enter Try.func112, Try.ntmps112
    go_wp2
    go_loop [10] (fun i => ∃ k : Nat, k ≤ n ∧ i = .int .i64 k ∧ NumTo xs k) (fun i => n - (intOf i).toNat)
    case atStart => exact ⟨0, Nat.zero_le _, rfl, NumTo.zero _⟩
    case round =>
      obtain ⟨k, hk, rfl, hp⟩ := hrel
      by_cases hlt : k < n
      · obtain ⟨b, o, rfl, _, _, hc⟩ := h.at_ (by omega)
        have hcell := hc k hlt
        obtain ⟨v, hv⟩ : ∃ v, v = xs.getD k 0 := ⟨_, rfl⟩
        rw [← hv] at hcell
        have HV := Lib.hid hv
        clear hc hv h
        cases hnum : numB v with
        | false =>
          go_wp2_with (go_at_call 73; refine (isNumber_c _ _).mono ?_; rintro e w' ⟨rfl, rfl⟩)
          go_ret
          exact ⟨ret_b (listB_no (by rw [HL.out]; exact hlt) HV.out hnum).symm, rfl⟩
        | true =>
          go_wp2_with (go_at_call 73; refine (isNumber_c _ _).mono ?_; rintro e w' ⟨rfl, rfl⟩)
          go_round
          case rel => exact ⟨k + 1, by omega, by go_num, hp.next HV.out hnum⟩
          case measure => simp [intOf]; omega
      · have hkn : k = n := by omega
        have hp' : NumTo xs xs.length := by rw [HL.out, ← hkn]; exact hp
        have hf := hp'.list (by rw [HL.out]; omega)
        have HF := Lib.hid hf
        clear hkn hp' hf h
        go_wp2
        go_ret
        exact ⟨ret_b HF.out.symm, rfl⟩
theorem listOf_c (A : Option Addr) (n c lo hi : Nat) (xs : List Int) (m : Int) (w : World) (h : SlR .i64 w lo hi A n xs) : Calls Try.prog 72 #[.slice A n c, .int .i64 m] w fun e w' => e = .returned (.bool (decide ((n : Int) = m) && listB xs)) ∧ w = w' := by
  by_cases hm : (n : Int) = m
  · have hb : ((n : Int) == m) = true := by simpa using hm
    have HM := Lib.hid hm
    clear hm
    go_enter Try.func72, Try.ntmps72
    go_wp2_with (go_at_call 112; refine (isList_c _ _ _ _ _ _ _ h).mono ?_; rintro e w' ⟨rfl, rfl⟩)
    go_ret
    exact ⟨ret_b (by simp [HM.out]), rfl⟩
  · have hb : ((n : Int) == m) = false := by simpa using hm
    have HM := Lib.hid hm
    clear hm
    go_enter Try.func72, Try.ntmps72
    go_wp2
    go_ret
    exact ⟨ret_b (by simp [HM.out]), rfl⟩

theorem l2List_c (A : Option Addr) (n c lo hi : Nat) (xs : List Int) (w : World) (h : SlR .i64 w lo hi A n xs) (hn : n ≤ 4611686018427387904) : Calls Try.prog 107 #[.slice A n c] w fun e w' => e = .returned (.bool (listB xs)) ∧ w = w' := by
  have hl := h.len
  have HL := Lib.hid hl
  clear hl
  go_enter Try.func107, Try.ntmps107
  go_wp2
  go_loop [3] (fun i => ∃ k : Nat, k ≤ n ∧ i = .int .i64 k ∧ NumTo xs k) (fun i => n - (intOf i).toNat)
  case atStart => exact ⟨0, Nat.zero_le _, rfl, NumTo.zero _⟩
  case round =>
    obtain ⟨k, hk, rfl, hp⟩ := hrel
    by_cases hlt : k < n
    · obtain ⟨b, o, rfl, _, _, hc⟩ := h.at_ (by omega)
      have hcell := hc k hlt
      obtain ⟨v, hv⟩ : ∃ v, v = xs.getD k 0 := ⟨_, rfl⟩
      rw [← hv] at hcell
      have HV := Lib.hid hv
      clear hc hv h
      cases hnum : numB v with
      | false =>
        have hnum2 : (decide (0 ≤ v) && decide (v ≤ 990)) = false := hnum
        go_wp2_with (go_at_call 90; refine (l6In_c _ _ _ _).mono ?_; rintro e w' ⟨rfl, rfl⟩; rw [hnum2])
        go_ret
        exact ⟨ret_b (listB_no (by rw [HL.out]; exact hlt) HV.out hnum).symm, rfl⟩
      | true =>
        have hnum2 : (decide (0 ≤ v) && decide (v ≤ 990)) = true := hnum
        go_wp2_with (go_at_call 90; refine (l6In_c _ _ _ _).mono ?_; rintro e w' ⟨rfl, rfl⟩; rw [hnum2])
        go_round
        case rel => exact ⟨k + 1, by omega, by go_num, hp.next HV.out hnum⟩
        case measure => simp [intOf]; omega
    · have hkn : k = n := by omega
      have hp' : NumTo xs xs.length := by rw [HL.out, ← hkn]; exact hp
      have HP := Lib.hid hp'
      clear hkn hp' h hp
      by_cases h24 : n ≤ 24
      · have hf := HP.out.list (by rw [HL.out]; exact h24)
        have HF := Lib.hid hf
        clear hf
        go_wp2
        go_ret
        exact ⟨ret_b (by rw [HF.out]; simp; omega), rfl⟩
      · have hf := listB_long (xs := xs) (by rw [HL.out]; omega)
        have HF := Lib.hid hf
        clear hf
        go_wp2
        go_ret
        exact ⟨ret_b (by rw [HF.out]; simp; omega), rfl⟩

theorem strm_arith {k : Int} {i : Nat} (hk : 0 ≤ k ∧ k ≤ 996) (hi : i ≤ 100) : 0 ≤ k * ((i : Int) + 2) ∧ k * ((i : Int) + 2) ≤ 101592 ∧ 0 ≤ 11 * (i : Int) * (i : Int) ∧ 11 * (i : Int) * (i : Int) ≤ 110000 := by
  have h1 := Int.mul_le_mul hk.2 (show (i : Int) + 2 ≤ 102 by omega) (by omega) (by omega)
  have h2 := Int.mul_nonneg hk.1 (show 0 ≤ (i : Int) + 2 by omega)
  have h3 := Int.mul_le_mul (show 11 * (i : Int) ≤ 1100 by omega) (show (i : Int) ≤ 100 by omega) (by omega) (by omega)
  have h4 := Int.mul_nonneg (show 0 ≤ 11 * (i : Int) by omega) (show 0 ≤ (i : Int) by omega)
  omega
theorem stream_c (k : Int) (i : Nat) (w : World) (hk : 0 ≤ k ∧ k ≤ 996) (hi : i ≤ 100) : Calls Try.prog 113 #[.int .i64 k, .int .i64 i] w fun e w' => e = .returned (.int .i64 (strm k i)) ∧ w = w' := by
  obtain ⟨h1, h2, h3, h4⟩ := strm_arith hk hi
  obtain ⟨h5, h6⟩ := hk
  go_enter Try.func113, Try.ntmps113
  go_wp2
  go_ret
  exact ⟨ret_i rfl, rfl⟩
theorem l2At_c (k : Int) (i : Nat) (w : World) (hk : 0 ≤ k ∧ k ≤ 996) (hi : i ≤ 100) : Calls Try.prog 117 #[.int .i64 k, .int .i64 i] w fun e w' => e = .returned (.int .i64 (strm k i)) ∧ w = w' := by
  obtain ⟨h1, h2, h3, h4⟩ := strm_arith hk hi
  obtain ⟨h5, h6⟩ := hk
  go_enter Try.func117, Try.ntmps117
  go_wp2
  go_ret
  exact ⟨ret_i rfl, rfl⟩
end Go.Proofs.Ytbkecimhbibnjaa
