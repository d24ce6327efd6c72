/-
  Contracts of the reference's function that packs letters.
  Conditions: the letter's slice reads as a list of whole numbers.
-/
import Derived.Test.YtbkecimhbibnjaaLetter
namespace Go.Proofs.Ytbkecimhbibnjaa
open Go Go.RowKit

/-- The body made so far: the length, the letter, and j zeros. -/
def BodyTo (xs : List Int) (j : Nat) : List Int := ((xs.length : Int) :: xs) ++ List.replicate j 0
theorem BodyTo_len (xs : List Int) (j : Nat) : (BodyTo xs j).length = xs.length + 1 + j := by simp [BodyTo]; omega
theorem BodyTo_next (xs : List Int) (j : Nat) : BodyTo xs j ++ [0] = BodyTo xs (j + 1) := by simp [BodyTo, List.replicate_succ']
theorem BodyTo_all (xs : List Int) : BodyTo xs (4 - xs.length) = bodyL xs := rfl
theorem ints_snoc (xs : List Int) (v : Int) : ints xs ++ [.int .i64 v] = ints (xs ++ [v]) := by simp [ints]
theorem ints_cons (xs : List Int) (v : Int) : [.int .i64 v] ++ ints xs = ints (v :: xs) := by simp [ints]

/-- The length of a slice. -/
def lenV : Value → Nat
  | .slice _ m _ => m
  | _ => 0

/-- The body made so far, in memory. -/
def PackRel (xs : List Int) (n : Nat) (w : World) (v : Value) (wr : World) : Prop := ∃ (j : Nat) (A' : Option Addr) (c' : Nat), j ≤ 4 - n ∧ v = .slice A' (n + 1 + j) c' ∧ wr.ownsRow w.heap.size 3 1 (.slice A' (n + 1 + j) c') (n + 1 + j) (ints (BodyTo xs j)) ∧ Below w.heap.size w wr

set_option maxRecDepth 100000 in
set_option maxHeartbeats 1600000 in
theorem sLetterPack_c (A : Option Addr) (n c lo hi : Nat) (xs : List Int) (w : World) (hs : SlR .i64 w lo hi A n xs) (hn : n ≤ 4194304) : Calls Try.prog 87 #[.slice A n c] w (NewPair (packP xs) (packB xs) w) := by
  have hl := hs.len
  have HL := Lib.hid hl
  cases hx : listB xs with
  | false =>
    have hp : packB xs = false := by simp [packB, hx]
    rw [packP_no hp, hp]
    clear hp hl
    go_enter Try.func87, Try.ntmps87
    go_wp2_with (go_at_call 107; refine (l2List_c _ _ _ _ _ _ _ hs (by omega)).mono ?_; rintro e w' ⟨rfl, rfl⟩)
    go_ret2
    exact NewPair.empty _ _
  | true =>
    by_cases hn4 : 4 < n
    · have hp : packB xs = false := by simp [packB, hx]; omega
      rw [packP_no hp, hp]
      clear hp hl
      go_enter Try.func87, Try.ntmps87
      go_wp2_with (go_at_call 107; refine (l2List_c _ _ _ _ _ _ _ hs (by omega)).mono ?_; rintro e w' ⟨rfl, rfl⟩)
      go_ret2
      exact NewPair.empty _ _
    · have hp : packB xs = true := by simp [packB, hx]; omega
      have h4 : xs.length ≤ 4 := by omega
      rw [packP_yes hp, hp]
      obtain ⟨i0, hi0, hz0, hz1, hz2⟩ := info_parts Try.infoInt
      have hs1 := hs.alloc (.cells #[.int .i64 (n : Int)] 3)
      have hown0 := World.ownsRow_lit (base := w.heap.size) (e := 3) (size := 1) w #[.int .i64 (n : Int)] 1 (Nat.le_refl _) (by unfold maxLen; omega) rfl
      have HP := Lib.hid hp
      have H4 := Lib.hid h4
      clear hp hl h4
      go_enter Try.func87, Try.ntmps87
      go_wp2_with (first
        | (go_at_call 107; refine (l2List_c _ _ _ _ _ _ _ hs (by omega)).mono ?_; rintro e w' ⟨rfl, rfl⟩)
        | (at_builtin; refine wpList_append_sl _ rfl _ _ 23 rfl w.heap.size 3 i0 Try.underlying23 hi0 hz0 hz1 hz2 _ 1 [.int .i64 (n : Int)] rfl hown0 lo hi n c A xs rfl hs1 (by omega) (by simp) ?_))
      intro v1 w1 hown1 hg1 hat1
      have hb1 : Below w.heap.size w w1 := ((Below.refl _ _).alloc (Nat.le_refl _) _).grown hg1 (by simp) (fun k hk => by simp [Value.ownBlock] at hk; omega)
      have hown1' : w1.ownsRow w.heap.size 3 1 v1 (n + 1 + 0) (ints (BodyTo xs 0)) := by
        have he : ints (BodyTo xs 0) = [.int .i64 (n : Int)] ++ ints xs := by rw [ints_cons]; simp [BodyTo, HL.out]
        rw [he, Nat.add_zero, Nat.add_comm n 1]; exact hown1
      obtain ⟨A1, c1, hv1⟩ := owns_shape hown1'
      have HO := Lib.hid hown1'
      have HB := Lib.hid hb1
      have HV := Lib.hid hv1
      clear hown1 hg1 hat1 hown1' hb1 hv1 hs1 hs hown0
      rw [HV.out]
      go_wp2_with fail
      go_loopw [4] (fun v wr => PackRel xs n w v wr) (fun v _ => 5 - lenV v)
      case atStart => exact ⟨0, A1, c1, Nat.zero_le _, rfl, by rw [← HV.out]; exact HO.out, HB.out⟩
      case round =>
        obtain ⟨j, A', c', hj, rfl, hown, hnx⟩ := hrel
        by_cases hlt : n + 1 + j < 5
        · have hsz := hnx.size
          go_wp2_with (at_builtin; refine wpList_append_own _ rfl _ _ 23 rfl w.heap.size 3 i0 (.int .i64 0) 1 8 Try.underlying23 hi0 hz0 hz1 hz2 rfl (by decide) _ _ _ rfl (hown.alloc _) ⟨wr.heap.size, 0, none⟩ 1 1 [.int .i64 0] rfl rfl one_new one_cell (by unfold maxLen; omega) (by omega) (by simp; omega) ?_)
          intro v' w2 hown' hgrow _
          have hnx1 := made_below hnx hgrow (Nat.le_refl _) hown
          rw [ints_snoc, BodyTo_next] at hown'
          obtain ⟨A2, c2, hv'⟩ := owns_shape hown'
          have HO' := Lib.hid hown'
          have HV' := Lib.hid hv'
          clear hown' hgrow hown hnx hv'
          go_wp2
          go_roundw
          case rel => (repeat apply Exists.intro); exact ⟨⟨j + 1, A2, c2, by omega, HV'.out, (by have g := HO'.out; rw [HV'.out] at g; exact g), hnx1⟩, rfl⟩
          case measure => rw [HV'.out]; simp [lenV]; omega
        · have hj4 : j = 4 - n := by omega
          have hB : BodyTo xs j = bodyL xs := by rw [hj4, ← HL.out]; rfl
          have hn5 : n + 1 + j = 5 := by omega
          rw [hB, hn5] at hown
          rw [hn5]
          have ho := OwnR.of_owns (xs := bodyL xs) hown
          have HC := Lib.hid (l3Tag_c 1 A' 5 c' _ _ (bodyL xs) wr ho.read (by omega) (fun i hi => mem_bodyL HP.out _ (getD_mem (by rw [bodyL_len H4.out]; exact hi))) (by omega))
          have hsz := hnx.size
          clear hB hj4 ho hlt
          go_wp2_with (first
            | (go_at_call 109; refine HC.out.mono ?_; rintro e w' ⟨rfl, rfl⟩)
            | (at_builtin; refine wpList_append_own _ rfl _ _ 23 rfl w.heap.size 3 i0 (.int .i64 0) 1 8 Try.underlying23 hi0 hz0 hz1 hz2 rfl (by decide) _ _ _ rfl (hown.alloc _) ⟨wr.heap.size, 0, none⟩ 1 1 [.int .i64 (tagL 1 (bodyL xs))] rfl rfl one_new one_cell (by unfold maxLen; omega) (by omega) (by simp; omega) ?_))
          intro v' w2 hown' hgrow _
          have hnx1 := made_below hnx hgrow (Nat.le_refl _) hown
          rw [ints_snoc] at hown'
          have HO' := Lib.hid hown'
          clear hown' hgrow hown hnx
          go_wp2
          go_ret2
          exact NewPair.of_owns HO'.out hnx1
end Go.Proofs.Ytbkecimhbibnjaa
