/-
  Contracts of the reference's functions that make masked lists and streams.
  Conditions: the list's slice reads as a list of whole numbers.
-/
import Derived.Test.YtbkecimhbibnjaaMask
import Derived.Deep.RegionHeld3
import Derived.Deep.AppendLies
namespace Go.Proofs.Ytbkecimhbibnjaa
open Go Go.RowKit

theorem made_below_drew {B : Nat} {w wr w1 : World} {v : Value} {T : TypeId} {o : Obj} {n : Nat} {xs : List Value} (h : Below B w wr) (hg : (wr.alloc o).drew.grownBy w1 v.ownBlock) (hB : B ≤ w.heap.size) (hown : wr.ownsRow B T 1 v n xs) : Below B w w1 := by
  have hs := h.size
  refine (h.alloc (by omega) o).drew.grown hg (by simp; omega) fun k hk => (hown.lt k hk).1

theorem l2At_q (k : Int) (i : Nat) (w : World) (hk : 0 ≤ k ∧ k ≤ 996) (hi : i ≤ 100) : Calls Try.prog 117 #[.int .i64 k, .int .i64 i] w fun e w' => e = .returned (.int .i64 (strm k i)) ∧ w' = w :=
  (l2At_c k i w hk hi).mono fun _ _ ⟨a, b⟩ => ⟨a, b.symm⟩
set_option maxRecDepth 100000 in
set_option maxHeartbeats 1600000 in
theorem l2On_c (A : Option Addr) (n c lo hi : Nat) (xs : List Int) (key : Int) (w : World) (hs : SlR .i64 w lo hi A n xs) (hn24 : n ≤ 24) (hx : ∀ i, i < n → 0 ≤ xs.getD i 0 ∧ xs.getD i 0 ≤ 990) (hke : elB key = true) : Calls Try.prog 92 #[.slice A n c, .int .i64 key] w (NewInts (onL xs key) w) := by
  have hhi := hs.hi_le
  obtain ⟨i0, hi0, hz0, hz1, hz2⟩ := info_parts Try.infoInt
  have hkb := elB_iff.1 hke
  have hlen := hs.len
  have HL := Lib.hid hlen
  have HX := Lib.hid hx
  clear hlen hke hx
  go_enter Try.func92, Try.ntmps92
  go_wp2_with fail
  go_loopw [5, 6] (fun v i wr => Made (onL xs key) w.heap.size w n v i wr) (fun _ i _ => n - (intOf i).toNat)
  case atStart => exact ⟨0, Nat.zero_le _, rfl, World.ownsRow_made w #[] 0 (Nat.le_refl _) (by unfold maxLen; omega) rfl, (Below.refl _ _).alloc (Nat.le_refl _) _⟩
  case round =>
    obtain ⟨k, hk, rfl, hown, hnx⟩ := hrel
    by_cases hlt : k < n
    · obtain ⟨b, o, rfl, hb1, hb2, hc⟩ := hs.at_ (by omega)
      have hcell : wr.cell? ⟨b, o + k, none⟩ = some (.int .i64 (xs.getD k 0)) := (hnx.cell (p := ⟨b, o + k, none⟩) (by exact Nat.lt_of_lt_of_le hb2 hhi)).trans (hc k hlt)
      obtain ⟨v0, hv⟩ : ∃ v, v = xs.getD k 0 := ⟨_, rfl⟩
      rw [← hv] at hcell
      have hbd := HX.out k hlt
      rw [← hv] at hbd
      have HV := Lib.hid hv
      obtain ⟨hbd1, hbd2⟩ := hbd
      obtain ⟨hs1, hs2⟩ := strm_bd key k
      have hsz := hnx.size
      have hne := fun (e : Value.ownBlock _ = some b) => Nat.lt_irrefl _ (Nat.lt_of_lt_of_le (Nat.lt_of_lt_of_le hb2 hhi) (hown.lt b e).1)
      have hi0' : (0 : Int) ≤ (k : Int) := Int.natCast_nonneg _
      have hi1 : (k : Int) < (n : Int) := by omega
      clear hc hv hs
      have e1 : IntKind.i64.wrap (v0 + strm key k) = v0 + strm key k := IntWalk.i64_in _ (by omega)
      have e2 : (v0 + strm key k).tmod 991 = (v0 + strm key k) % 991 := Int.tmod_eq_emod_of_nonneg (by omega)
      go_wp2_with fail
      go_region_held3 (fun w' => w'.cell? ⟨b, o + k, none⟩ = some (.int .i64 v0))
        (first | go_keep | (rw [hgrow.cell_far _ (by simp; omega) (Ne.symm hne)]; assumption))
        ((first
          | (refine step_append_lies _ (by rfl) _ _ _ (by rfl) w.heap.size 3 i0 _ 1 8 Try.underlying23 hi0 hz0 hz1 hz2 rfl (by omega) _ k _ (by rfl) ((hown.alloc _).drew) ⟨wr.heap.size, 0, none⟩ 1 1 [.int .i64 ((v0 + strm key k) % 991)] (by rfl) (by rfl) (one_new (w := wr) (T := 3)) one_cell (by omega) (by unfold maxLen; omega) (by omega) (by simp; omega) (wr.heap.size + 1) (by simp) ?_; intro gg cap w1 hown' hgrow hat hlt')
          | (go_at_call 117; refine (l2At_c key k _ ⟨Int.le_trans (by decide) hkb.1, hkb.2⟩ (Nat.le_trans hk (by omega))).mono ?_; rintro e w' ⟨rfl, rfl⟩)))
      clear e1 e2
      have hnx1 := made_below_drew hnx hgrow (Nat.le_refl _) hown
      have hm := made_step (R := onL xs key) (k := k) (x := (v0 + strm key k) % 991) (by rw [onL_len, HL.out]; exact hlt) (by rw [onL_at _ _ _ (by rw [HL.out]; exact hlt), ← HV.out] <;> omega) hown'
      clear hown' hgrow hown hnx hne hat hlt' hcell
      go_wp2
      go_roundw
      case rel => exact ⟨k + 1, by omega, by go_num, hm, hnx1⟩
      case measure => simp [intOf]; omega
    · have hkn : k = n := by omega
      have hall : (onL xs key).take k = onL xs key := List.take_of_length_le (by rw [onL_len, HL.out]; omega)
      rw [hall] at hown
      clear hall hkn
      go_wp2
      go_ret
      exact NewInts.of_owns hown hnx

set_option maxRecDepth 100000 in
set_option maxHeartbeats 1600000 in
theorem l2Off_c (A : Option Addr) (n c lo hi : Nat) (xs : List Int) (key : Int) (w : World) (hs : SlR .i64 w lo hi A n xs) (hn24 : n ≤ 24) (hx : ∀ i, i < n → 0 ≤ xs.getD i 0 ∧ xs.getD i 0 ≤ 990) (hke : elB key = true) : Calls Try.prog 110 #[.slice A n c, .int .i64 key] w (NewInts (offL xs key) w) := by
  have hhi := hs.hi_le
  obtain ⟨i0, hi0, hz0, hz1, hz2⟩ := info_parts Try.infoInt
  have hkb := elB_iff.1 hke
  have hlen := hs.len
  have HL := Lib.hid hlen
  have HX := Lib.hid hx
  clear hlen hke hx
  go_enter Try.func110, Try.ntmps110
  go_wp2_with fail
  go_loopw [5, 6] (fun v i wr => Made (offL xs key) w.heap.size w n v i wr) (fun _ i _ => n - (intOf i).toNat)
  case atStart => exact ⟨0, Nat.zero_le _, rfl, World.ownsRow_made w #[] 0 (Nat.le_refl _) (by unfold maxLen; omega) rfl, (Below.refl _ _).alloc (Nat.le_refl _) _⟩
  case round =>
    obtain ⟨k, hk, rfl, hown, hnx⟩ := hrel
    by_cases hlt : k < n
    · obtain ⟨b, o, rfl, hb1, hb2, hc⟩ := hs.at_ (by omega)
      have hcell : wr.cell? ⟨b, o + k, none⟩ = some (.int .i64 (xs.getD k 0)) := (hnx.cell (p := ⟨b, o + k, none⟩) (by exact Nat.lt_of_lt_of_le hb2 hhi)).trans (hc k hlt)
      obtain ⟨v0, hv⟩ : ∃ v, v = xs.getD k 0 := ⟨_, rfl⟩
      rw [← hv] at hcell
      have hbd := HX.out k hlt
      rw [← hv] at hbd
      have HV := Lib.hid hv
      obtain ⟨hbd1, hbd2⟩ := hbd
      obtain ⟨hs1, hs2⟩ := strm_bd key k
      have hsz := hnx.size
      have hne := fun (e : Value.ownBlock _ = some b) => Nat.lt_irrefl _ (Nat.lt_of_lt_of_le (Nat.lt_of_lt_of_le hb2 hhi) (hown.lt b e).1)
      have hi0' : (0 : Int) ≤ (k : Int) := Int.natCast_nonneg _
      have hi1 : (k : Int) < (n : Int) := by omega
      clear hc hv hs
      have e0 : IntKind.i64.wrap (v0 + 991) = v0 + 991 := IntWalk.i64_in _ (by omega)
      have e1 : IntKind.i64.wrap (v0 + 991 - strm key k) = v0 + 991 - strm key k := IntWalk.i64_in _ (by omega)
      have e2 : (v0 + 991 - strm key k).tmod 991 = (v0 + 991 - strm key k) % 991 := Int.tmod_eq_emod_of_nonneg (by omega)
      go_wp2_with fail
      go_region_held3 (fun w' => w'.cell? ⟨b, o + k, none⟩ = some (.int .i64 v0))
        (first | go_keep | (rw [hgrow.cell_far _ (by simp; omega) (Ne.symm hne)]; assumption))
        ((first
          | (refine step_append_lies _ (by rfl) _ _ _ (by rfl) w.heap.size 3 i0 _ 1 8 Try.underlying23 hi0 hz0 hz1 hz2 rfl (by omega) _ k _ (by rfl) ((hown.alloc _).drew) ⟨wr.heap.size, 0, none⟩ 1 1 [.int .i64 ((v0 + 991 - strm key k) % 991)] (by rfl) (by rfl) (one_new (w := wr) (T := 3)) one_cell (by omega) (by unfold maxLen; omega) (by omega) (by simp; omega) (wr.heap.size + 1) (by simp) ?_; intro gg cap w1 hown' hgrow hat hlt')
          | (go_at_call 117; refine (l2At_c key k _ ⟨Int.le_trans (by decide) hkb.1, hkb.2⟩ (Nat.le_trans hk (by omega))).mono ?_; rintro e w' ⟨rfl, rfl⟩)))
      clear e0 e1 e2
      have hnx1 := made_below_drew hnx hgrow (Nat.le_refl _) hown
      have hm := made_step (R := offL xs key) (k := k) (x := (v0 + 991 - strm key k) % 991) (by rw [offL_len, HL.out]; exact hlt) (by rw [offL_at _ _ _ (by rw [HL.out]; exact hlt), ← HV.out] <;> omega) hown'
      clear hown' hgrow hown hnx hne hat hlt' hcell
      go_wp2
      go_roundw
      case rel => exact ⟨k + 1, by omega, by go_num, hm, hnx1⟩
      case measure => simp [intOf]; omega
    · have hkn : k = n := by omega
      have hall : (offL xs key).take k = offL xs key := List.take_of_length_le (by rw [offL_len, HL.out]; omega)
      rw [hall] at hown
      clear hall hkn
      go_wp2
      go_ret
      exact NewInts.of_owns hown hnx
end Go.Proofs.Ytbkecimhbibnjaa
