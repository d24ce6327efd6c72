/-
  Contracts of the functions on streams, masks and tags, of the program and of the reference.
  Conditions: a list's slice reads as a list of whole numbers.
-/
import Derived.Test.YtbkecimhbibnjaaMaskS
import Derived.Deep.OwnRows
namespace Go.Proofs.Ytbkecimhbibnjaa
open Go Go.RowKit

theorem maskOn_c (A : Option Addr) (n c lo hi : Nat) (xs : List Int) (key : Int) (w : World) (hs : SlR .i64 w lo hi A n xs) : Calls Try.prog 84 #[.slice A n c, .int .i64 key] w (NewInts (onP xs key) w) := by
  go_enter Try.func84, Try.ntmps84
  go_wp2_with fail
  refine (maskedOn_c A n c lo hi xs key w hs).mono ?_
  rintro e w1 ⟨A', n', c', rfl, h1, h2⟩
  go_wp2_with fail
  go_ret
  exact ⟨A', n', c', rfl, h1, h2⟩
theorem maskOff_c (A : Option Addr) (n c lo hi : Nat) (xs : List Int) (key : Int) (w : World) (hs : SlR .i64 w lo hi A n xs) : Calls Try.prog 30 #[.slice A n c, .int .i64 key] w (NewInts (offP xs key) w) := by
  go_enter Try.func30, Try.ntmps30
  go_wp2_with fail
  refine (maskedOff_c A n c lo hi xs key w hs).mono ?_
  rintro e w1 ⟨A', n', c', rfl, h1, h2⟩
  go_wp2_with fail
  go_ret
  exact ⟨A', n', c', rfl, h1, h2⟩
theorem ints_zero (n : Nat) : List.replicate n (Value.int .i64 0) = (List.replicate n (0 : Int)).map (Value.int .i64) := by simp
theorem own_zeros (w : World) (n : Nat) (hn : n ≤ 9223372036854775807) : (w.alloc (.cells (madeCells #[.int .i64 0] n) 3)).ownsRow w.heap.size 3 1 (.slice (some ⟨w.heap.size, 0, none⟩) n n) n ((List.replicate n (0 : Int)).map (Value.int .i64)) := by
  refine ⟨by simp, .inr ⟨w.heap.size, n, madeCells #[.int .i64 0] n, rfl, Nat.le_refl _, heap_alloc_new w _, Nat.le_refl _, by unfold maxLen; omega, ?_, ?_⟩⟩
  · rw [← Array.length_toList, toList_madeCells_one]; simp
  · rw [toList_madeCells_one]; simp
theorem onP_zeros {k : Int} {n : Nat} (hk : elB k = true) (hn : n ≤ 24) : onP (List.replicate n 0) k = strL k n := by
  rw [onP, if_pos ⟨zeros_listB hn, hk⟩, strL_zero]

theorem NewInts.after {xs : List Int} {w w1 w' : World} {e : Ending} (hb : Below w.heap.size w w1) (h : NewInts xs w1 e w') : NewInts xs w e w' := by
  obtain ⟨A, n, c, he, h1, h2⟩ := h
  exact ⟨A, n, c, he, h1.wider hb.size (Nat.le_refl _) (Nat.le_refl _), hb.trans (h2.mono hb.size)⟩

theorem streamOf_c (key m : Int) (w : World) : Calls Try.prog 124 #[.int .i64 key, .int .i64 m] w (NewInts (strP key m) w) := by
  by_cases hg : elB key = true ∧ 0 ≤ m ∧ m ≤ 24
  · obtain ⟨hk, h0, h1⟩ := hg
    have he : strP key m = strL key m.toNat := if_pos ⟨hk, h0, h1⟩
    rw [he]
    clear he
    obtain ⟨n, rfl⟩ := Int.eq_ofNat_of_zero_le h0
    rw [Int.toNat_natCast]
    have hn : n ≤ 24 := by omega
    have hmk := fun W => run_make_row' (P := Try.prog) 23 3 (.int .i64 0) 8 Try.underlying23 Try.infoInt rfl .i64 .i64 n (by omega) (by omega) W
    have hr := (OwnR.of_owns (own_zeros w n (by omega))).read
    have hC := maskedOn_c (some ⟨w.heap.size, 0, none⟩) n n _ _ _ key _ hr
    rw [onP_zeros hk hn] at hC
    have HC := Lib.hid hC
    clear hC hr
    go_enter Try.func124, Try.ntmps124
    go_wp2_with (first | (go_at_call 48; refine (isElement_c _ _).mono ?_; rintro e w' ⟨rfl, rfl⟩) | (go_at_call 66; refine (within_c _ _ _ _).mono ?_; rintro e w' ⟨rfl, rfl⟩) | (go_at_call 70; refine HC.out.mono ?_; rintro e w1 ⟨A', n', c', rfl, h1, h2⟩))
    go_ret
    exact NewInts.after ((Below.refl _ _).alloc (Nat.le_refl _) _) ⟨A', n', c', rfl, h1, h2⟩
  · have he : strP key m = [] := if_neg hg
    rw [he]
    clear he
    cases hk : elB key with
    | false =>
      go_enter Try.func124, Try.ntmps124
      go_wp2_with (first | (go_at_call 48; refine (isElement_c _ _).mono ?_; rintro e w' ⟨rfl, rfl⟩) | (go_at_call 66; refine (within_c _ _ _ _).mono ?_; rintro e w' ⟨rfl, rfl⟩))
      go_ret
      exact NewInts.none_ _
    | true =>
      have hw : (decide (0 ≤ m) && decide (m ≤ 24)) = false := by
        rw [hk] at hg; simp at hg ⊢; omega
      have HG := Lib.hid hg
      clear hg
      go_enter Try.func124, Try.ntmps124
      go_wp2_with (first | (go_at_call 48; refine (isElement_c _ _).mono ?_; rintro e w' ⟨rfl, rfl⟩) | (go_at_call 66; refine (within_c _ _ _ _).mono ?_; rintro e w' ⟨rfl, rfl⟩; rw [hw]))
      go_ret
      exact NewInts.none_ _
/-- The tag after k numbers. -/
def TagTo (t0 : Int) (xs : List Int) (k : Nat) (y : Int) : Prop := y = tagF t0 (xs.take k)
theorem TagTo.next {t0 : Int} {xs : List Int} {k : Nat} {y v : Int} (h : TagTo t0 xs k y) (hk : k < xs.length) (hv : v = xs.getD k 0) : TagTo t0 xs (k + 1) ((613 * y + v + 1) % 991) := by
  unfold TagTo at h ⊢
  rw [take_at hk, tagF_snoc, h, hv]
theorem absorb_c (t0 : Int) (A : Option Addr) (n c lo hi : Nat) (xs : List Int) (w : World) (hs : SlR .i64 w lo hi A n xs) (ht : 0 ≤ t0 ∧ t0 ≤ 990) (hx : ∀ i, i < n → 0 ≤ xs.getD i 0 ∧ xs.getD i 0 ≤ 990) (hn : n ≤ 1000) :
    Calls Try.prog 114 #[.int .i64 t0, .slice A n c] w fun e w' => e = .returned (.int .i64 (tagF t0 xs)) ∧ w = w' := by
  have HL := Lib.hid hs.len
  have HX := Lib.hid hx
  clear hx
  obtain ⟨ht1, ht2⟩ := ht
  go_enter Try.func114, Try.ntmps114
  go_wp2
  go_loop [0, 9] (fun t i => ∃ (k : Nat) (y : Int), k ≤ n ∧ i = .int .i64 k ∧ t = .int .i64 y ∧ 0 ≤ y ∧ y ≤ 990 ∧ TagTo t0 xs k y) (fun _ i => n - (intOf i).toNat)
  case atStart => exact ⟨0, t0, Nat.zero_le _, rfl, rfl, ht1, ht2, by simp [TagTo, tagF]⟩
  case round =>
    obtain ⟨k, y, hk, rfl, rfl, hy1, hy2, hp⟩ := hrel
    by_cases hlt : k < n
    · obtain ⟨b, o, rfl, _, _, hc⟩ := hs.at_ (by omega)
      have hcell := hc k hlt
      obtain ⟨v, hv⟩ : ∃ v, v = xs.getD k 0 := ⟨_, rfl⟩
      rw [← hv] at hcell
      have hb := HX.out k hlt
      rw [← hv] at hb
      obtain ⟨hb1, hb2⟩ := hb
      have HV := Lib.hid hv
      clear hc hv hs
      go_wp2
      go_round
      case rel => exact ⟨k + 1, _, by omega, by go_num, rfl, by omega, by omega, hp.next (by rw [HL.out]; exact hlt) HV.out⟩
      case measure => simp [intOf]; omega
    · have hkn : k = n := by omega
      have hf : y = tagF t0 xs := by rw [hp, hkn, List.take_of_length_le (by rw [HL.out]; omega)]
      have HF := Lib.hid hf
      clear hkn hf hs hp
      go_wp2
      go_ret
      exact ⟨ret_i HF.out, rfl⟩
theorem l3Tag_c (key : Int) (A : Option Addr) (n c lo hi : Nat) (xs : List Int) (w : World) (hs : SlR .i64 w lo hi A n xs) (ht : 0 ≤ key ∧ key ≤ 996) (hx : ∀ i, i < n → 0 ≤ xs.getD i 0 ∧ xs.getD i 0 ≤ 990) (hn : n ≤ 1000) :
    Calls Try.prog 109 #[.int .i64 key, .slice A n c] w fun e w' => e = .returned (.int .i64 (tagL key xs)) ∧ w = w' := by
  have HL := Lib.hid hs.len
  have HX := Lib.hid hx
  clear hx
  obtain ⟨ht1, ht2⟩ := ht
  have h0 := tag0_bd key n
  go_enter Try.func109, Try.ntmps109
  go_wp2
  go_loop [5, 6] (fun t i => ∃ (k : Nat) (y : Int), k ≤ n ∧ i = .int .i64 k ∧ t = .int .i64 y ∧ 0 ≤ y ∧ y ≤ 990 ∧ TagTo (tag0 key n) xs k y) (fun _ i => n - (intOf i).toNat)
  case atStart => exact ⟨0, tag0 key n, Nat.zero_le _, rfl, rfl, h0.1, h0.2, by simp [TagTo, tagF]⟩
  case round =>
    obtain ⟨k, y, hk, rfl, rfl, hy1, hy2, hp⟩ := hrel
    by_cases hlt : k < n
    · obtain ⟨b, o, rfl, _, _, hc⟩ := hs.at_ (by omega)
      have hcell := hc k hlt
      obtain ⟨v, hv⟩ : ∃ v, v = xs.getD k 0 := ⟨_, rfl⟩
      rw [← hv] at hcell
      have hb := HX.out k hlt
      rw [← hv] at hb
      obtain ⟨hb1, hb2⟩ := hb
      have HV := Lib.hid hv
      clear hc hv hs h0
      go_wp2
      go_round
      case rel => exact ⟨k + 1, _, by omega, by go_num, rfl, by omega, by omega, hp.next (by rw [HL.out]; exact hlt) HV.out⟩
      case measure => simp [intOf]; omega
    · have hkn : k = n := by omega
      have hf : y = tagL key xs := by rw [hp, hkn, List.take_of_length_le (by rw [HL.out]; omega), tagL, HL.out]
      have HF := Lib.hid hf
      clear hkn hf hs hp
      go_wp2
      go_ret
      exact ⟨ret_i HF.out, rfl⟩
end Go.Proofs.Ytbkecimhbibnjaa
