/-
  Contracts of the functions that make masked lists and streams.
  Conditions: the list's slice reads as a list of whole numbers.
-/
import Derived.Test.YtbkecimhbibnjaaList
namespace Go.Proofs.Ytbkecimhbibnjaa
open Go Go.RowKit

theorem Try.infoInt : (Try.prog.info? 3).map (fun i => (i.zero, i.size, i.bytes)) = some (some (.int .i64 0), 1, 8) := by kernel_rfl

theorem owns_shape {w : World} {B : Nat} {T : TypeId} {s : Nat} {v : Value} {n : Nat} {xs : List Value} (h : w.ownsRow B T s v n xs) : ∃ A c, v = .slice A n c := by
  rcases h.2 with ⟨rfl, rfl⟩ | ⟨g, cap, cur, rfl, _⟩
  · exact ⟨_, _, rfl⟩
  · exact ⟨_, _, rfl⟩
/-- A call that returns a new slice of whole numbers and touches nothing old. -/
def NewInts (xs : List Int) (w : World) (e : Ending) (w' : World) : Prop :=
  ∃ A n c, e = .returned (.slice A n c) ∧ OwnR 3 w' w.heap.size w'.heap.size A n c xs ∧ Below w.heap.size w w'
theorem NewInts.of_owns {xs : List Int} {w w' : World} {v : Value} {n : Nat} (h : w'.ownsRow w.heap.size 3 1 v n (xs.map (Value.int .i64))) (hb : Below w.heap.size w w') : NewInts xs w (.returned v) w' := by
  obtain ⟨A, c, rfl⟩ := owns_shape h
  exact ⟨A, n, c, rfl, OwnR.of_owns h, hb⟩
theorem NewInts.none_ (w : World) : NewInts [] w (.returned (.slice none 0 0)) w := NewInts.of_owns (World.ownsRow_nil _ _ _ _) (Below.refl _ _)
theorem NewInts.empty (w : World) : NewInts [] w (.returned (.slice (some ⟨w.heap.size, 0, none⟩) 0 0)) (w.alloc (.cells #[] 3)) :=
  NewInts.of_owns (World.ownsRow_made w #[] 0 (Nat.le_refl _) (by unfold maxLen; omega) rfl) ((Below.refl _ _).alloc (Nat.le_refl _) _)

theorem one_new {w : World} {T : TypeId} {x : Value} : ∀ j u, [x][j]? = some u → (w.alloc (.cells #[x] T)).cell? (Addr.add ⟨w.heap.size, 0, none⟩ j) = some u := by
  intro j u hj
  match j, hj with
  | 0, hj => simp at hj; subst hj; simp [Addr.add, World.cell?_alloc_at _ _ _ _ rfl]
theorem one_cell {k : IntKind} {x : Int} : ∀ u ∈ [Value.int k x], u.oneCell' = true := by
  intro u hu; simp at hu; subst hu; rfl

/-- Whole numbers as cells. -/
def ints (xs : List Int) : List Value := xs.map (Value.int .i64)

/-- After k rounds: the slice made so far holds the first k numbers of R; nothing old is touched. -/
def Made (R : List Int) (B : Nat) (w : World) (n : Nat) (v i : Value) (wr : World) : Prop :=
  ∃ k : Nat, k ≤ n ∧ i = .int .i64 k ∧ wr.ownsRow B 3 1 v k (ints (R.take k)) ∧ Below B w wr
theorem made_step {R : List Int} {B k : Nat} {w1 : World} {v' : Value} {x : Int} (hk : k < R.length) (hx : R.getD k 0 = x)
    (h : w1.ownsRow B 3 1 v' (k + 1) (ints (R.take k) ++ [.int .i64 x])) : w1.ownsRow B 3 1 v' (k + 1) (ints (R.take (k + 1))) := by
  rw [take_at hk, hx, ints, List.map_append]
  exact h
theorem made_below {B : Nat} {w wr w1 : World} {v : Value} {T : TypeId} {o : Obj} {n : Nat} {xs : List Value} (h : Below B w wr) (hg : (wr.alloc o).grownBy w1 v.ownBlock) (hB : B ≤ w.heap.size) (hown : wr.ownsRow B T 1 v n xs) : Below B w w1 := by
  have hs := h.size
  refine (h.alloc (by omega) o).grown hg (by simp; omega) fun k hk => (hown.lt k hk).1

set_option maxHeartbeats 800000 in
theorem maskedOn_c (A : Option Addr) (n c lo hi : Nat) (xs : List Int) (key : Int) (w : World) (hs : SlR .i64 w lo hi A n xs) : Calls Try.prog 70 #[.slice A n c, .int .i64 key, .int .i64 (1)] w (NewInts (onP xs key) w) := by
  have hhi := hs.hi_le
  cases hx : listB xs with
  | false =>
    go_enter Try.func70, Try.ntmps70
    go_wp2_with (first | (go_at_call 112; refine (isList_c _ _ _ _ _ _ _ hs).mono ?_; rintro e w' ⟨rfl, rfl⟩) | (go_at_call 48; refine (isElement_c _ _).mono ?_; rintro e w' ⟨rfl, rfl⟩))
    go_ret
    rw [show onP xs key = [] from if_neg fun g => by rw [hx] at g; cases g.1]
    exact NewInts.none_ _
  | true => cases hk : elB key with
    | false =>
      go_enter Try.func70, Try.ntmps70
      go_wp2_with (first | (go_at_call 112; refine (isList_c _ _ _ _ _ _ _ hs).mono ?_; rintro e w' ⟨rfl, rfl⟩) | (go_at_call 48; refine (isElement_c _ _).mono ?_; rintro e w' ⟨rfl, rfl⟩))
      go_ret
      rw [show onP xs key = [] from if_neg fun g => by rw [hk] at g; cases g.2]
      exact NewInts.none_ _
    | true =>
      obtain ⟨i0, hi0, hz0, hz1, hz2⟩ := info_parts Try.infoInt
      have hkb := elB_iff.1 hk
      have hlen := hs.len
      have h24 := (listB_iff.1 hx).1
      have HX := Lib.hid hx
      have HL := Lib.hid hlen
      have hn24 : n ≤ 24 := by omega
      clear hlen
      go_enter Try.func70, Try.ntmps70
      go_wp2_with (first | (go_at_call 112; refine (isList_c _ _ _ _ _ _ _ hs).mono ?_; rintro e w' ⟨rfl, rfl⟩) | (go_at_call 48; refine (isElement_c _ _).mono ?_; rintro e w' ⟨rfl, rfl⟩))
      clear hx hk
      go_loopw [7, 21] (fun v i wr => Made (onL xs key) w.heap.size w n v i wr) (fun _ i _ => n - (intOf i).toNat)
      case atStart => exact ⟨0, Nat.zero_le _, rfl, World.ownsRow_made w #[] 0 (Nat.le_refl _) (by unfold maxLen; omega) rfl, (Below.refl _ _).alloc (Nat.le_refl _) _⟩
      case round =>
        obtain ⟨k, hk, rfl, hown, hnx⟩ := hrel
        by_cases hlt : k < n
        · obtain ⟨b, o, rfl, hb1, hb2, hc⟩ := hs.at_ (by omega)
          have hcell : wr.cell? ⟨b, o + k, none⟩ = some (.int .i64 (xs.getD k 0)) := (hnx.cell (p := ⟨b, o + k, none⟩) (by exact Nat.lt_of_lt_of_le hb2 hhi)).trans (hc k hlt)
          obtain ⟨v0, hv⟩ : ∃ v, v = xs.getD k 0 := ⟨_, rfl⟩
          rw [← hv] at hcell
          have hbd := listB_at HX.out (i := k) (by rw [HL.out]; exact hlt)
          rw [← hv] at hbd
          have HV := Lib.hid hv
          obtain ⟨hbd1, hbd2⟩ := hbd
          obtain ⟨hs1, hs2⟩ := strm_bd key k
          have hsz := hnx.size
          clear hc hv hs
          go_wp2_with (first
            | (go_at_call 113; refine (stream_c key k _ ⟨Int.le_trans (by decide) hkb.1, hkb.2⟩ (Nat.le_trans hk (by omega))).mono ?_; rintro e w' ⟨rfl, rfl⟩)
            | (at_builtin; refine wpList_append_own _ rfl _ _ 23 rfl w.heap.size 3 i0 (.int .i64 0) 1 8 Try.underlying23 hi0 hz0 hz1 hz2 rfl (by decide) _ _ _ rfl (hown.alloc _) ⟨wr.heap.size, 0, none⟩ 1 1 [.int .i64 ((v0 + strm key k) % 991)] rfl rfl one_new one_cell (by unfold maxLen; omega) (by omega) (by simp; omega) ?_))
          intro v' w1 hown' hgrow _
          have hnx1 := made_below hnx hgrow (Nat.le_refl _) hown
          have hm := made_step (R := onL xs key) (k := k) (x := (v0 + strm key k) % 991) (by rw [onL_len, HL.out]; exact hlt) (by rw [onL_at _ _ _ (by rw [HL.out]; exact hlt), ← HV.out] <;> omega) hown'
          clear hown' hgrow hown hnx
          go_wp2
          go_roundw
          case rel => exact ⟨k + 1, by omega, by go_num, hm, hnx1⟩
          case measure => simp [intOf]; omega
        · have hkn : k = n := by omega
          have hall : (onL xs key).take k = onL xs key := List.take_of_length_le (by rw [onL_len, HL.out]; omega)
          rw [hall] at hown
          clear hall hkn
          go_wp2
          go_ret
          rw [show onP xs key = onL xs key from if_pos ⟨HX.out, elB_iff.2 hkb⟩]
          exact NewInts.of_owns hown hnx

set_option maxHeartbeats 800000 in
theorem maskedOff_c (A : Option Addr) (n c lo hi : Nat) (xs : List Int) (key : Int) (w : World) (hs : SlR .i64 w lo hi A n xs) : Calls Try.prog 70 #[.slice A n c, .int .i64 key, .int .i64 (-1)] w (NewInts (offP xs key) w) := by
  have hhi := hs.hi_le
  cases hx : listB xs with
  | false =>
    go_enter Try.func70, Try.ntmps70
    go_wp2_with (first | (go_at_call 112; refine (isList_c _ _ _ _ _ _ _ hs).mono ?_; rintro e w' ⟨rfl, rfl⟩) | (go_at_call 48; refine (isElement_c _ _).mono ?_; rintro e w' ⟨rfl, rfl⟩))
    go_ret
    rw [show offP xs key = [] from if_neg fun g => by rw [hx] at g; cases g.1]
    exact NewInts.none_ _
  | true => cases hk : elB key with
    | false =>
      go_enter Try.func70, Try.ntmps70
      go_wp2_with (first | (go_at_call 112; refine (isList_c _ _ _ _ _ _ _ hs).mono ?_; rintro e w' ⟨rfl, rfl⟩) | (go_at_call 48; refine (isElement_c _ _).mono ?_; rintro e w' ⟨rfl, rfl⟩))
      go_ret
      rw [show offP xs key = [] from if_neg fun g => by rw [hk] at g; cases g.2]
      exact NewInts.none_ _
    | true =>
      obtain ⟨i0, hi0, hz0, hz1, hz2⟩ := info_parts Try.infoInt
      have hkb := elB_iff.1 hk
      have hlen := hs.len
      have h24 := (listB_iff.1 hx).1
      have HX := Lib.hid hx
      have HL := Lib.hid hlen
      have hn24 : n ≤ 24 := by omega
      clear hlen
      go_enter Try.func70, Try.ntmps70
      go_wp2_with (first | (go_at_call 112; refine (isList_c _ _ _ _ _ _ _ hs).mono ?_; rintro e w' ⟨rfl, rfl⟩) | (go_at_call 48; refine (isElement_c _ _).mono ?_; rintro e w' ⟨rfl, rfl⟩))
      clear hx hk
      go_loopw [7, 21] (fun v i wr => Made (offL xs key) w.heap.size w n v i wr) (fun _ i _ => n - (intOf i).toNat)
      case atStart => exact ⟨0, Nat.zero_le _, rfl, World.ownsRow_made w #[] 0 (Nat.le_refl _) (by unfold maxLen; omega) rfl, (Below.refl _ _).alloc (Nat.le_refl _) _⟩
      case round =>
        obtain ⟨k, hk, rfl, hown, hnx⟩ := hrel
        by_cases hlt : k < n
        · obtain ⟨b, o, rfl, hb1, hb2, hc⟩ := hs.at_ (by omega)
          have hcell : wr.cell? ⟨b, o + k, none⟩ = some (.int .i64 (xs.getD k 0)) := (hnx.cell (p := ⟨b, o + k, none⟩) (by exact Nat.lt_of_lt_of_le hb2 hhi)).trans (hc k hlt)
          obtain ⟨v0, hv⟩ : ∃ v, v = xs.getD k 0 := ⟨_, rfl⟩
          rw [← hv] at hcell
          have hbd := listB_at HX.out (i := k) (by rw [HL.out]; exact hlt)
          rw [← hv] at hbd
          have HV := Lib.hid hv
          obtain ⟨hbd1, hbd2⟩ := hbd
          obtain ⟨hs1, hs2⟩ := strm_bd key k
          have hsz := hnx.size
          clear hc hv hs
          go_wp2_with (first
            | (go_at_call 113; refine (stream_c key k _ ⟨Int.le_trans (by decide) hkb.1, hkb.2⟩ (Nat.le_trans hk (by omega))).mono ?_; rintro e w' ⟨rfl, rfl⟩)
            | (at_builtin; refine wpList_append_own _ rfl _ _ 23 rfl w.heap.size 3 i0 (.int .i64 0) 1 8 Try.underlying23 hi0 hz0 hz1 hz2 rfl (by decide) _ _ _ rfl (hown.alloc _) ⟨wr.heap.size, 0, none⟩ 1 1 [.int .i64 ((v0 + -strm key k) % 991)] rfl rfl one_new one_cell (by unfold maxLen; omega) (by omega) (by simp; omega) ?_))
          intro v' w1 hown' hgrow _
          have hnx1 := made_below hnx hgrow (Nat.le_refl _) hown
          have hm := made_step (R := offL xs key) (k := k) (x := (v0 + -strm key k) % 991) (by rw [offL_len, HL.out]; exact hlt) (by rw [offL_at _ _ _ (by rw [HL.out]; exact hlt), ← HV.out] <;> omega) hown'
          clear hown' hgrow hown hnx
          go_wp2
          go_roundw
          case rel => exact ⟨k + 1, by omega, by go_num, hm, hnx1⟩
          case measure => simp [intOf]; omega
        · have hkn : k = n := by omega
          have hall : (offL xs key).take k = offL xs key := List.take_of_length_le (by rw [offL_len, HL.out]; omega)
          rw [hall] at hown
          clear hall hkn
          go_wp2
          go_ret
          rw [show offP xs key = offL xs key from if_pos ⟨HX.out, elB_iff.2 hkb⟩]
          exact NewInts.of_owns hown hnx
end Go.Proofs.Ytbkecimhbibnjaa
