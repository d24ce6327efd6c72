/-
  Drawn numbers and lists, and the draws of the statements on masks, tags and letters.
  Conditions: the code reads as a list of bytes.
-/
import Derived.Test.YtbkecimhbibnjaaDrawA
import Derived.Test.YtbkecimhbibnjaaLetterO
namespace Go.Proofs.Ytbkecimhbibnjaa
open Go Go.RowKit

/-- A reader stays good while a slice of the call's own grows. -/
theorem RdOk.after_append {w w1 : World} {g m B : Nat} {v : Value} {o : Obj} {T : TypeId} {n : Nat} {xs : List Value} (h : RdOk w g m) (hg : (w.alloc o).grownBy w1 v.ownBlock) (hown : w.ownsRow B T 1 v n xs) (hB : g < B) : RdOk w1 g m :=
  (h.below ((Below.refl w.heap.size w).alloc (Nat.le_refl _) o) h.lt).grown hg fun k hk => by have := (hown.lt k hk).1; omega

theorem grown_append {w wa w1 : World} {g : Nat} {v : Value} {o : Obj} {T : TypeId} {n : Nat} {xs : List Value} (h : w.grownBy wa (some g)) (hg : (wa.alloc o).grownBy w1 v.ownBlock) (hown : wa.ownsRow w.heap.size T 1 v n xs) : w.grownBy w1 (some g) := by
  have hs := h.size
  exact ⟨hg.os.trans h.os, hg.tape.trans h.tape, hg.output.trans h.output, Nat.le_trans h.size (Nat.le_trans (by simp) hg.size), fun j hj hne =>
    (hg.block j (by simp; omega) (fun e => by have := (hown.lt j e.symm).1; omega)).trans ((Below.heap_alloc _ _ _ (by omega)).trans (h.block j hj hne))⟩

theorem l91Number_c (g m : Nat) (w : World) (h : RdOk w g m) (hm : m ≤ 900000) : Calls Try.prog 106 #[.pointer (some ⟨g, 0, none⟩)] w (IntPost g (m + 3) w) := by
  go_enter Try.func106, Try.ntmps106
  go_wp2_with fail
  refine (pick_c g m _ _ h (by omega)).mono ?_
  rintro e w1 ⟨x, rfl, hx0, hx1, hr1, hg1⟩
  by_cases hx : x = 0
  · subst hx
    go_wp2_with fail
    have hr2 : RdOk (w1.alloc (.cells #[.int .i64 (-1), .int .i64 990, .int .i64 991] 3)) g (m + 1) := hr1.below ((Below.refl w1.heap.size w1).alloc (Nat.le_refl _) _) hr1.lt
    refine (pick_c g (m + 1) _ _ hr2 (by omega)).mono ?_
    rintro e w2 ⟨y, rfl, hy0, hy1, hr3, hg3⟩
    have hlt := hr1.lt
    have hblk : w2.heap[w1.heap.size]? = some (.cells #[.int .i64 (-1), .int .i64 990, .int .i64 991] 3 (0, 0)) :=
      (hg3.block _ (by simp) (by intro e; injection e with e; omega)).trans (heap_alloc_new w1 _)
    have k0 := cell_of_row w2 w1.heap.size 0 _ _ _ hblk
    have k1 := cell_of_row w2 w1.heap.size 1 _ _ _ hblk
    have k2 := cell_of_row w2 w1.heap.size 2 _ _ _ hblk
    have hgr : w.grownBy w2 (some g) := only_trans (only_below hg1 ((Below.refl w1.heap.size w1).alloc (Nat.le_refl _) _)) hg3
    clear hblk hg3 hg1 h hr1 hr2
    have h3 : y = 0 ∨ y = 1 ∨ y = 2 := by have := hy1 (by omega); omega
    rcases h3 with rfl | rfl | rfl
    all_goals
      go_wp2
      go_ret
      exact ⟨_, rfl, hr3.mono (by omega), hgr⟩
  · have hxf : (x == 0) = false := by simpa using hx
    go_wp2_with fail
    refine (pick_c g (m + 1) _ _ hr1 (by omega)).mono ?_
    rintro e w2 ⟨y, rfl, hy0, hy1, hr2, hg2⟩
    go_wp2_with fail
    refine (pick_c g (m + 1 + 1) _ _ hr2 (by omega)).mono ?_
    rintro e w3 ⟨z, rfl, hz0, hz1, hr3, hg3⟩
    go_wp2
    go_ret
    exact ⟨_, rfl, hr3, only_trans (only_trans hg1 hg2) hg3⟩

/-- What a drawn list leaves: a new slice, the reader further on, nothing else touched. -/
def ListPost (g m : Nat) (w : World) (e : Ending) (w' : World) : Prop :=
  ∃ A n c xs, e = .returned (.slice A n c) ∧ OwnR 3 w' w.heap.size w'.heap.size A n c xs ∧ n ≤ 26 ∧ RdOk w' g m ∧ w.grownBy w' (some g)
/-- The list drawn so far. -/
def DrawnTo (g m N : Nat) (w : World) (v i : Value) (wr : World) : Prop :=
  ∃ (k : Nat) (xs : List Int), k ≤ N ∧ i = .int .i64 (k : Int) ∧ wr.ownsRow w.heap.size 3 1 v k (ints xs) ∧ RdOk wr g (m + 3 * k) ∧ w.grownBy wr (some g)

set_option maxRecDepth 100000 in
set_option maxHeartbeats 3200000 in
theorem l91List_c (g m most : Nat) (w : World) (h : RdOk w g m) (hm : m ≤ 500000) (hmost : most ≤ 24) : Calls Try.prog 80 #[.pointer (some ⟨g, 0, none⟩), .int .i64 (most : Int)] w (ListPost g (m + 90) w) := by
  obtain ⟨i0, hi0, hz0, hz1, hz2⟩ := info_parts Try.infoInt
  have hglt := h.lt
  have own0' := World.ownsRow_made (base := w.heap.size) (e := 3) (size := 1) w #[] 0 (Nat.le_refl _) (by unfold maxLen; omega) rfl
  have hr0 : RdOk (w.alloc (.cells #[] 3)) g m := h.below ((Below.refl w.heap.size w).alloc (Nat.le_refl _) _) hglt
  have hg0 : w.grownBy (w.alloc (.cells #[] 3)) (some g) := World.grownBy_alloc _ _ _
  clear h
  go_enter Try.func80, Try.ntmps80
  go_wp2_with fail
  refine (pick_c g m _ _ hr0 (by omega)).mono ?_
  rintro e w1 ⟨y, rfl, hy0, hy1, hr1, hg1⟩
  have own1 := own0'.kept hg1 (.inr (fun e => by have := (own0'.lt g e).1; omega))
  replace hg1 := only_trans hg0 hg1
  obtain ⟨Y, rfl⟩ := Int.eq_ofNat_of_zero_le hy0
  have hY : Y < most + 1 := by have := hy1 (by omega); omega
  clear own0' hr0 hg0 hy0 hy1
  go_wp2_with fail
  refine (pick_c g (m + 1) _ _ hr1 (by omega)).mono ?_
  rintro e w2 ⟨x, rfl, hx0, hx1, hr2, hg2⟩
  have own2 := own1.kept hg2 (.inr (fun e => by have := (own1.lt g e).1; omega))
  replace hg2 := only_trans hg1 hg2
  clear own1 hr1 hg1
  by_cases hx : x = 0
  · subst hx
    go_wp2_with fail
    refine (pick_c g (m + 1 + 1) _ _ hr2 (by omega)).mono ?_
    rintro e w3 ⟨z, rfl, hz0', hz1', hr3, hg3⟩
    have own0 := own2.kept hg3 (.inr (fun e => by have := (own2.lt g e).1; omega))
    replace hg3 := only_trans hg2 hg3
    obtain ⟨Z, rfl⟩ := Int.eq_ofNat_of_zero_le hz0'
    have hZ : Z < 3 := by have := hz1' (by omega); omega
    clear own2 hr2 hg2 hz0' hz1'
    go_wp2_with fail
    go_loopw [5, 7] (fun v i wr => DrawnTo g (m + 3) (most + Z) w v i wr) (fun _ i _ => (most + Z) - (intOf i).toNat)
    case atStart => exact ⟨0, [], Nat.zero_le _, rfl, own0, hr3, hg3⟩
    case round =>
      obtain ⟨k, xs, hk, rfl, hown, hrd, hgr⟩ := hrel
      have hsz := hgr.size
      by_cases hlt : k < most + Z
      · go_wp2_with fail
        refine (l91Number_c g (m + 3 + 3 * k) _ hrd (by omega)).mono ?_
        rintro e w_5 ⟨x, rfl, hrd2, hgr2⟩
        have hown2 : w_5.ownsRow w.heap.size 3 1 _ k (ints xs) := hown.kept hgr2 (.inr (fun e => by have := (hown.lt g e).1; omega))
        have hgr3 := only_trans hgr hgr2
        have hsz2 := hgr3.size
        clear hown hrd hgr hgr2
        go_wp2_with (at_builtin; refine wpList_append_own _ rfl _ _ 23 rfl w.heap.size 3 i0 (.int .i64 0) 1 8 Try.underlying23 hi0 hz0 hz1 hz2 rfl (by decide) _ _ _ rfl (hown2.alloc _) ⟨w_5.heap.size, 0, none⟩ 1 1 [.int .i64 x] rfl rfl one_new one_cell (by unfold maxLen; omega) (by omega) (by simp; omega) ?_)
        intro v' w_6 hown' hgrow _
        have hrd3 := hrd2.after_append hgrow hown2 hglt
        have hgr4 := grown_append hgr3 hgrow hown2
        rw [ints_snoc] at hown'
        clear hgrow hown2 hgr3 hrd2
        go_wp2
        go_roundw
        case rel => exact ⟨k + 1, xs ++ [x], by omega, by go_num, hown', hrd3.mono (by omega), hgr4⟩
        case measure => simp [intOf]; omega
      · have hkn : k = most + Z := by omega
        clear hlt
        go_wp2
        go_ret
        obtain ⟨A, c, rfl⟩ := owns_shape hown
        exact ⟨A, k, c, xs, rfl, OwnR.of_owns hown, by omega, hrd.mono (by omega), hgr⟩
  · have hxf : (x == 0) = false := by simpa using hx
    have own0 := own2
    clear hx hx0 hx1 own2
    go_wp2_with fail
    go_loopw [5, 7] (fun v i wr => DrawnTo g (m + 3) (Y) w v i wr) (fun _ i _ => (Y) - (intOf i).toNat)
    case atStart => exact ⟨0, [], Nat.zero_le _, rfl, own0, (hr2.mono (by omega)), hg2⟩
    case round =>
      obtain ⟨k, xs, hk, rfl, hown, hrd, hgr⟩ := hrel
      have hsz := hgr.size
      by_cases hlt : k < Y
      · go_wp2_with fail
        refine (l91Number_c g (m + 3 + 3 * k) _ hrd (by omega)).mono ?_
        rintro e w_5 ⟨x, rfl, hrd2, hgr2⟩
        have hown2 : w_5.ownsRow w.heap.size 3 1 _ k (ints xs) := hown.kept hgr2 (.inr (fun e => by have := (hown.lt g e).1; omega))
        have hgr3 := only_trans hgr hgr2
        have hsz2 := hgr3.size
        clear hown hrd hgr hgr2
        go_wp2_with (at_builtin; refine wpList_append_own _ rfl _ _ 23 rfl w.heap.size 3 i0 (.int .i64 0) 1 8 Try.underlying23 hi0 hz0 hz1 hz2 rfl (by decide) _ _ _ rfl (hown2.alloc _) ⟨w_5.heap.size, 0, none⟩ 1 1 [.int .i64 x] rfl rfl one_new one_cell (by unfold maxLen; omega) (by omega) (by simp; omega) ?_)
        intro v' w_6 hown' hgrow _
        have hrd3 := hrd2.after_append hgrow hown2 hglt
        have hgr4 := grown_append hgr3 hgrow hown2
        rw [ints_snoc] at hown'
        clear hgrow hown2 hgr3 hrd2
        go_wp2
        go_roundw
        case rel => exact ⟨k + 1, xs ++ [x], by omega, by go_num, hown', hrd3.mono (by omega), hgr4⟩
        case measure => simp [intOf]; omega
      · have hkn : k = Y := by omega
        clear hlt
        go_wp2
        go_ret
        obtain ⟨A, c, rfl⟩ := owns_shape hown
        exact ⟨A, k, c, xs, rfl, OwnR.of_owns hown, by omega, hrd.mono (by omega), hgr⟩
end Go.Proofs.Ytbkecimhbibnjaa
