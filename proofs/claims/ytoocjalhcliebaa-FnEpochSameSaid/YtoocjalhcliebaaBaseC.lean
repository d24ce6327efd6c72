/-
  Words and contracts, joined: Mask, MaskS, Tag.
  No condition.
-/
import Derived.Test.YtoocjalhcliebaaBaseB
import Derived.Deep.RegionHeld3
import Derived.Deep.AppendLies
import Derived.Deep.OwnRows
namespace Go.Proofs.Ytoocjalhcliebaa
section
open Go Go.RowKit

theorem Try.infoInt : (Try.prog.info? 3).map (fun i => (i.zero, i.size, i.bytes)) = some (some (.int .i64 0), 1, 8) := by kernel_rfl

theorem owns_shape {w : World} {B : Nat} {T : TypeId} {s : Nat} {v : Value} {n : Nat} {xs : List Value} (h : w.ownsRow B T s v n xs) : ∃ A c, v = .slice A n c := by
  rcases h.2 with ⟨rfl, rfl⟩ | ⟨g, cap, cur, rfl, _⟩
  · exact ⟨_, _, rfl⟩
  · exact ⟨_, _, rfl⟩
/-- A call that returns a new slice of whole numbers and touches nothing old. -/
def NewInts (xs : List Int) (w : World) (e : Ending) (w' : World) : Prop :=
  ∃ A n c, e = .returned (.slice A n c) ∧ OwnR 3 w' w.heap.size w'.heap.size A n c xs ∧ Below w.heap.size w w'
theorem NewInts.of_owns {xs : List Int} {w w' : World} {v : Value} {n : Nat} (h : w'.ownsRow w.heap.size 3 1 v n (xs.map (Value.int .i64))) (hb : Below w.heap.size w w') : NewInts xs w (.returned v) w' := by
  obtain ⟨A, c, rfl⟩ := owns_shape h
  exact ⟨A, n, c, rfl, OwnR.of_owns h, hb⟩
theorem NewInts.none_ (w : World) : NewInts [] w (.returned (.slice none 0 0)) w := NewInts.of_owns (World.ownsRow_nil _ _ _ _) (Below.refl _ _)
theorem NewInts.empty (w : World) : NewInts [] w (.returned (.slice (some ⟨w.heap.size, 0, none⟩) 0 0)) (w.alloc (.cells #[] 3)) :=
  NewInts.of_owns (World.ownsRow_made w #[] 0 (Nat.le_refl _) (by unfold maxLen; omega) rfl) ((Below.refl _ _).alloc (Nat.le_refl _) _)

theorem one_new {w : World} {T : TypeId} {x : Value} : ∀ j u, [x][j]? = some u → (w.alloc (.cells #[x] T)).cell? (Addr.add ⟨w.heap.size, 0, none⟩ j) = some u := by
  intro j u hj
  match j, hj with
  | 0, hj => simp at hj; subst hj; simp [Addr.add, World.cell?_alloc_at _ _ _ _ rfl]
theorem one_cell {k : IntKind} {x : Int} : ∀ u ∈ [Value.int k x], u.oneCell' = true := by
  intro u hu; simp at hu; subst hu; rfl

/-- Whole numbers as cells. -/
def ints (xs : List Int) : List Value := xs.map (Value.int .i64)

/-- After k rounds: the slice made so far holds the first k numbers of R; nothing old is touched. -/
def Made (R : List Int) (B : Nat) (w : World) (n : Nat) (v i : Value) (wr : World) : Prop :=
  ∃ k : Nat, k ≤ n ∧ i = .int .i64 k ∧ wr.ownsRow B 3 1 v k (ints (R.take k)) ∧ Below B w wr
theorem made_step {R : List Int} {B k : Nat} {w1 : World} {v' : Value} {x : Int} (hk : k < R.length) (hx : R.getD k 0 = x)
    (h : w1.ownsRow B 3 1 v' (k + 1) (ints (R.take k) ++ [.int .i64 x])) : w1.ownsRow B 3 1 v' (k + 1) (ints (R.take (k + 1))) := by
  rw [take_at hk, hx, ints, List.map_append]
  exact h
theorem made_below {B : Nat} {w wr w1 : World} {v : Value} {T : TypeId} {o : Obj} {n : Nat} {xs : List Value} (h : Below B w wr) (hg : (wr.alloc o).grownBy w1 v.ownBlock) (hB : B ≤ w.heap.size) (hown : wr.ownsRow B T 1 v n xs) : Below B w w1 := by
  have hs := h.size
  refine (h.alloc (by omega) o).grown hg (by simp; omega) fun k hk => (hown.lt k hk).1

end
section
open Go Go.RowKit

theorem made_below_drew {B : Nat} {w wr w1 : World} {v : Value} {T : TypeId} {o : Obj} {n : Nat} {xs : List Value} (h : Below B w wr) (hg : (wr.alloc o).drew.grownBy w1 v.ownBlock) (hB : B ≤ w.heap.size) (hown : wr.ownsRow B T 1 v n xs) : Below B w w1 := by
  have hs := h.size
  refine (h.alloc (by omega) o).drew.grown hg (by simp; omega) fun k hk => (hown.lt k hk).1

theorem l2At_q (k : Int) (i : Nat) (w : World) (hk : 0 ≤ k ∧ k ≤ 996) (hi : i ≤ 100) : Calls Try.prog 63 #[.int .i64 k, .int .i64 i] w fun e w' => e = .returned (.int .i64 (strm k i)) ∧ w' = w :=
  (l2At_c k i w hk hi).mono fun _ _ ⟨a, b⟩ => ⟨a, b.symm⟩
set_option maxRecDepth 100000 in
set_option maxHeartbeats 1600000 in
theorem l2On_c (A : Option Addr) (n c lo hi : Nat) (xs : List Int) (key : Int) (w : World) (hs : SlR .i64 w lo hi A n xs) (hn24 : n ≤ 24) (hx : ∀ i, i < n → 0 ≤ xs.getD i 0 ∧ xs.getD i 0 ≤ 990) (hke : elB key = true) : Calls Try.prog 59 #[.slice A n c, .int .i64 key] w (NewInts (onL xs key) w) := by
  have hhi := hs.hi_le
  obtain ⟨i0, hi0, hz0, hz1, hz2⟩ := info_parts Try.infoInt
  have hkb := elB_iff.1 hke
  have hlen := hs.len
  have HL := Lib.hid hlen
  have HX := Lib.hid hx
  clear hlen hke hx
  go_enter Try.func59, Try.ntmps59
  go_wp2_with fail
  go_loopw [5, 6] (fun v i wr => Made (onL xs key) w.heap.size w n v i wr) (fun _ i _ => n - (intOf i).toNat)
  case atStart => exact ⟨0, Nat.zero_le _, rfl, World.ownsRow_made w #[] 0 (Nat.le_refl _) (by unfold maxLen; omega) rfl, (Below.refl _ _).alloc (Nat.le_refl _) _⟩
  case round =>
    obtain ⟨k, hk, rfl, hown, hnx⟩ := hrel
    by_cases hlt : k < n
    · obtain ⟨b, o, rfl, hb1, hb2, hc⟩ := hs.at_ (by omega)
      have hcell : wr.cell? ⟨b, o + k, none⟩ = some (.int .i64 (xs.getD k 0)) := (hnx.cell (p := ⟨b, o + k, none⟩) (by exact Nat.lt_of_lt_of_le hb2 hhi)).trans (hc k hlt)
      obtain ⟨v0, hv⟩ : ∃ v, v = xs.getD k 0 := ⟨_, rfl⟩
      rw [← hv] at hcell
      have hbd := HX.out k hlt
      rw [← hv] at hbd
      have HV := Lib.hid hv
      obtain ⟨hbd1, hbd2⟩ := hbd
      obtain ⟨hs1, hs2⟩ := strm_bd key k
      have hsz := hnx.size
      have hne := fun (e : Value.ownBlock _ = some b) => Nat.lt_irrefl _ (Nat.lt_of_lt_of_le (Nat.lt_of_lt_of_le hb2 hhi) (hown.lt b e).1)
      have hi0' : (0 : Int) ≤ (k : Int) := Int.natCast_nonneg _
      have hi1 : (k : Int) < (n : Int) := by omega
      clear hc hv hs
      have e1 : IntKind.i64.wrap (v0 + strm key k) = v0 + strm key k := IntWalk.i64_in _ (by omega)
      have e2 : (v0 + strm key k).tmod 991 = (v0 + strm key k) % 991 := Int.tmod_eq_emod_of_nonneg (by omega)
      go_wp2_with fail
      go_region_held3 (fun w' => w'.cell? ⟨b, o + k, none⟩ = some (.int .i64 v0))
        (first | go_keep | (rw [hgrow.cell_far _ (by simp; omega) (Ne.symm hne)]; assumption))
        ((first
          | (refine step_append_lies _ (by rfl) _ _ _ (by rfl) w.heap.size 3 i0 _ 1 8 Try.underlying23 hi0 hz0 hz1 hz2 rfl (by omega) _ k _ (by rfl) ((hown.alloc _).drew) ⟨wr.heap.size, 0, none⟩ 1 1 [.int .i64 ((v0 + strm key k) % 991)] (by rfl) (by rfl) (one_new (w := wr) (T := 3)) one_cell (by omega) (by unfold maxLen; omega) (by omega) (by simp; omega) (wr.heap.size + 1) (by simp) ?_; intro gg cap w1 hown' hgrow hat hlt')
          | (go_at_call 63; refine (l2At_c key k _ ⟨Int.le_trans (by decide) hkb.1, hkb.2⟩ (Nat.le_trans hk (by omega))).mono ?_; rintro e w' ⟨rfl, rfl⟩)))
      clear e1 e2
      have hnx1 := made_below_drew hnx hgrow (Nat.le_refl _) hown
      have hm := made_step (R := onL xs key) (k := k) (x := (v0 + strm key k) % 991) (by rw [onL_len, HL.out]; exact hlt) (by rw [onL_at _ _ _ (by rw [HL.out]; exact hlt), ← HV.out] <;> omega) hown'
      clear hown' hgrow hown hnx hne hat hlt' hcell
      go_wp2
      go_roundw
      case rel => exact ⟨k + 1, by omega, by go_num, hm, hnx1⟩
      case measure => simp [intOf]; omega
    · have hkn : k = n := by omega
      have hall : (onL xs key).take k = onL xs key := List.take_of_length_le (by rw [onL_len, HL.out]; omega)
      rw [hall] at hown
      clear hall hkn
      go_wp2
      go_ret
      exact NewInts.of_owns hown hnx

set_option maxRecDepth 100000 in
set_option maxHeartbeats 1600000 in
theorem l2Off_c (A : Option Addr) (n c lo hi : Nat) (xs : List Int) (key : Int) (w : World) (hs : SlR .i64 w lo hi A n xs) (hn24 : n ≤ 24) (hx : ∀ i, i < n → 0 ≤ xs.getD i 0 ∧ xs.getD i 0 ≤ 990) (hke : elB key = true) : Calls Try.prog 53 #[.slice A n c, .int .i64 key] w (NewInts (offL xs key) w) := by
  have hhi := hs.hi_le
  obtain ⟨i0, hi0, hz0, hz1, hz2⟩ := info_parts Try.infoInt
  have hkb := elB_iff.1 hke
  have hlen := hs.len
  have HL := Lib.hid hlen
  have HX := Lib.hid hx
  clear hlen hke hx
  go_enter Try.func53, Try.ntmps53
  go_wp2_with fail
  go_loopw [5, 6] (fun v i wr => Made (offL xs key) w.heap.size w n v i wr) (fun _ i _ => n - (intOf i).toNat)
  case atStart => exact ⟨0, Nat.zero_le _, rfl, World.ownsRow_made w #[] 0 (Nat.le_refl _) (by unfold maxLen; omega) rfl, (Below.refl _ _).alloc (Nat.le_refl _) _⟩
  case round =>
    obtain ⟨k, hk, rfl, hown, hnx⟩ := hrel
    by_cases hlt : k < n
    · obtain ⟨b, o, rfl, hb1, hb2, hc⟩ := hs.at_ (by omega)
      have hcell : wr.cell? ⟨b, o + k, none⟩ = some (.int .i64 (xs.getD k 0)) := (hnx.cell (p := ⟨b, o + k, none⟩) (by exact Nat.lt_of_lt_of_le hb2 hhi)).trans (hc k hlt)
      obtain ⟨v0, hv⟩ : ∃ v, v = xs.getD k 0 := ⟨_, rfl⟩
      rw [← hv] at hcell
      have hbd := HX.out k hlt
      rw [← hv] at hbd
      have HV := Lib.hid hv
      obtain ⟨hbd1, hbd2⟩ := hbd
      obtain ⟨hs1, hs2⟩ := strm_bd key k
      have hsz := hnx.size
      have hne := fun (e : Value.ownBlock _ = some b) => Nat.lt_irrefl _ (Nat.lt_of_lt_of_le (Nat.lt_of_lt_of_le hb2 hhi) (hown.lt b e).1)
      have hi0' : (0 : Int) ≤ (k : Int) := Int.natCast_nonneg _
      have hi1 : (k : Int) < (n : Int) := by omega
      clear hc hv hs
      have e0 : IntKind.i64.wrap (v0 + 991) = v0 + 991 := IntWalk.i64_in _ (by omega)
      have e1 : IntKind.i64.wrap (v0 + 991 - strm key k) = v0 + 991 - strm key k := IntWalk.i64_in _ (by omega)
      have e2 : (v0 + 991 - strm key k).tmod 991 = (v0 + 991 - strm key k) % 991 := Int.tmod_eq_emod_of_nonneg (by omega)
      go_wp2_with fail
      go_region_held3 (fun w' => w'.cell? ⟨b, o + k, none⟩ = some (.int .i64 v0))
        (first | go_keep | (rw [hgrow.cell_far _ (by simp; omega) (Ne.symm hne)]; assumption))
        ((first
          | (refine step_append_lies _ (by rfl) _ _ _ (by rfl) w.heap.size 3 i0 _ 1 8 Try.underlying23 hi0 hz0 hz1 hz2 rfl (by omega) _ k _ (by rfl) ((hown.alloc _).drew) ⟨wr.heap.size, 0, none⟩ 1 1 [.int .i64 ((v0 + 991 - strm key k) % 991)] (by rfl) (by rfl) (one_new (w := wr) (T := 3)) one_cell (by omega) (by unfold maxLen; omega) (by omega) (by simp; omega) (wr.heap.size + 1) (by simp) ?_; intro gg cap w1 hown' hgrow hat hlt')
          | (go_at_call 63; refine (l2At_c key k _ ⟨Int.le_trans (by decide) hkb.1, hkb.2⟩ (Nat.le_trans hk (by omega))).mono ?_; rintro e w' ⟨rfl, rfl⟩)))
      clear e0 e1 e2
      have hnx1 := made_below_drew hnx hgrow (Nat.le_refl _) hown
      have hm := made_step (R := offL xs key) (k := k) (x := (v0 + 991 - strm key k) % 991) (by rw [offL_len, HL.out]; exact hlt) (by rw [offL_at _ _ _ (by rw [HL.out]; exact hlt), ← HV.out] <;> omega) hown'
      clear hown' hgrow hown hnx hne hat hlt' hcell
      go_wp2
      go_roundw
      case rel => exact ⟨k + 1, by omega, by go_num, hm, hnx1⟩
      case measure => simp [intOf]; omega
    · have hkn : k = n := by omega
      have hall : (offL xs key).take k = offL xs key := List.take_of_length_le (by rw [offL_len, HL.out]; omega)
      rw [hall] at hown
      clear hall hkn
      go_wp2
      go_ret
      exact NewInts.of_owns hown hnx
end
section
open Go Go.RowKit

theorem ints_zero (n : Nat) : List.replicate n (Value.int .i64 0) = (List.replicate n (0 : Int)).map (Value.int .i64) := by simp
theorem own_zeros (w : World) (n : Nat) (hn : n ≤ 9223372036854775807) : (w.alloc (.cells (madeCells #[.int .i64 0] n) 3)).ownsRow w.heap.size 3 1 (.slice (some ⟨w.heap.size, 0, none⟩) n n) n ((List.replicate n (0 : Int)).map (Value.int .i64)) := by
  refine ⟨by simp, .inr ⟨w.heap.size, n, madeCells #[.int .i64 0] n, rfl, Nat.le_refl _, heap_alloc_new w _, Nat.le_refl _, by unfold maxLen; omega, ?_, ?_⟩⟩
  · rw [← Array.length_toList, toList_madeCells_one]; simp
  · rw [toList_madeCells_one]; simp
theorem onP_zeros {k : Int} {n : Nat} (hk : elB k = true) (hn : n ≤ 24) : onP (List.replicate n 0) k = strL k n := by
  rw [onP, if_pos ⟨zeros_listB hn, hk⟩, strL_zero]

theorem NewInts.after {xs : List Int} {w w1 w' : World} {e : Ending} (hb : Below w.heap.size w w1) (h : NewInts xs w1 e w') : NewInts xs w e w' := by
  obtain ⟨A, n, c, he, h1, h2⟩ := h
  exact ⟨A, n, c, he, h1.wider hb.size (Nat.le_refl _) (Nat.le_refl _), hb.trans (h2.mono hb.size)⟩

/-- The tag after k numbers. -/
def TagTo (t0 : Int) (xs : List Int) (k : Nat) (y : Int) : Prop := y = tagF t0 (xs.take k)
theorem TagTo.next {t0 : Int} {xs : List Int} {k : Nat} {y v : Int} (h : TagTo t0 xs k y) (hk : k < xs.length) (hv : v = xs.getD k 0) : TagTo t0 xs (k + 1) ((613 * y + v + 1) % 991) := by
  unfold TagTo at h ⊢
  rw [take_at hk, tagF_snoc, h, hv]
theorem l3Tag_c (key : Int) (A : Option Addr) (n c lo hi : Nat) (xs : List Int) (w : World) (hs : SlR .i64 w lo hi A n xs) (ht : 0 ≤ key ∧ key ≤ 996) (hx : ∀ i, i < n → 0 ≤ xs.getD i 0 ∧ xs.getD i 0 ≤ 990) (hn : n ≤ 1000) :
    Calls Try.prog 52 #[.int .i64 key, .slice A n c] w fun e w' => e = .returned (.int .i64 (tagL key xs)) ∧ w = w' := by
  have HL := Lib.hid hs.len
  have HX := Lib.hid hx
  clear hx
  obtain ⟨ht1, ht2⟩ := ht
  have h0 := tag0_bd key n
  go_enter Try.func52, Try.ntmps52
  go_wp2
  go_loop [5, 6] (fun t i => ∃ (k : Nat) (y : Int), k ≤ n ∧ i = .int .i64 k ∧ t = .int .i64 y ∧ 0 ≤ y ∧ y ≤ 990 ∧ TagTo (tag0 key n) xs k y) (fun _ i => n - (intOf i).toNat)
  case atStart => exact ⟨0, tag0 key n, Nat.zero_le _, rfl, rfl, h0.1, h0.2, by simp [TagTo, tagF]⟩
  case round =>
    obtain ⟨k, y, hk, rfl, rfl, hy1, hy2, hp⟩ := hrel
    by_cases hlt : k < n
    · obtain ⟨b, o, rfl, _, _, hc⟩ := hs.at_ (by omega)
      have hcell := hc k hlt
      obtain ⟨v, hv⟩ : ∃ v, v = xs.getD k 0 := ⟨_, rfl⟩
      rw [← hv] at hcell
      have hb := HX.out k hlt
      rw [← hv] at hb
      obtain ⟨hb1, hb2⟩ := hb
      have HV := Lib.hid hv
      clear hc hv hs h0
      go_wp2
      go_round
      case rel => exact ⟨k + 1, _, by omega, by go_num, rfl, by omega, by omega, hp.next (by rw [HL.out]; exact hlt) HV.out⟩
      case measure => simp [intOf]; omega
    · have hkn : k = n := by omega
      have hf : y = tagL key xs := by rw [hp, hkn, List.take_of_length_le (by rw [HL.out]; omega), tagL, HL.out]
      have HF := Lib.hid hf
      clear hkn hf hs hp
      go_wp2
      go_ret
      exact ⟨ret_i HF.out, rfl⟩
end
end Go.Proofs.Ytoocjalhcliebaa
