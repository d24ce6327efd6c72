/-
  Words and contracts, joined: Letter, LetterS, LetterO.
  No condition.
-/
import Derived.Test.YtoocjalhcliebaaBaseD
import Derived.Test.YtoocjalhcliebaaBaseA
import Derived.Laws.CopyOwn
namespace Go.Proofs.Ytoocjalhcliebaa
section
open Go Go.RowKit

theorem rd_lt' {w : World} {g : Nat} {o : Obj} (h : w.heap[g]? = some o) : g < w.heap.size := by
  rcases Nat.lt_or_ge g w.heap.size with hlt | hge
  · exact hlt
  · rw [Array.getElem?_eq_none hge] at h; cases h
theorem OwnR.cap {T : TypeId} {w : World} {lo hi n c : Nat} {A : Option Addr} {xs : List Int} (h : OwnR T w lo hi A n c xs) : n ≤ c := by
  rcases h.1.2 with ⟨e, hn⟩ | ⟨g, cap, cur, e, _, _, hnc, _⟩
  · omega
  · injection e with e1 e2 e3; omega
/-- A call that returns a new slice of whole numbers and a truth value, and touches nothing old. -/
def NewPair (xs : List Int) (b : Bool) (w : World) (e : Ending) (w' : World) : Prop :=
  ∃ A n c, e = .returned (.tuple #[.slice A n c, .bool b]) ∧ OwnR 3 w' w.heap.size w'.heap.size A n c xs ∧ Below w.heap.size w w'
theorem NewPair.of_owns {xs : List Int} {b : Bool} {w w' : World} {v : Value} {n : Nat} (h : w'.ownsRow w.heap.size 3 1 v n (xs.map (Value.int .i64))) (hb : Below w.heap.size w w') : NewPair xs b w (.returned (.tuple #[v, .bool b])) w' := by
  obtain ⟨A, c, rfl⟩ := owns_shape h
  exact ⟨A, n, c, rfl, OwnR.of_owns h, hb⟩
theorem NewPair.none_ (b : Bool) (w : World) : NewPair [] b w (.returned (.tuple #[.slice none 0 0, .bool b])) w := NewPair.of_owns (World.ownsRow_nil _ _ _ _) (Below.refl _ _)
theorem NewPair.empty (b : Bool) (w : World) : NewPair [] b w (.returned (.tuple #[.slice (some ⟨w.heap.size, 0, none⟩) 0 0, .bool b])) (w.alloc (.cells #[] 3)) :=
  NewPair.of_owns (World.ownsRow_made w #[] 0 (Nat.le_refl _) (by unfold maxLen; omega) rfl) ((Below.refl _ _).alloc (Nat.le_refl _) _)

theorem packP_no {xs : List Int} (h : packB xs = false) : packP xs = [] := by simp [packP, h]
theorem packP_yes {xs : List Int} (h : packB xs = true) : packP xs = packL xs := by simp [packP, h]
theorem splice_body {xs : List Int} (h : xs.length ≤ 4) : splice [Value.int .i64 (xs.length : Int), .int .i64 0, .int .i64 0, .int .i64 0, .int .i64 0, .int .i64 0] 1 (ints xs) = (bodyL xs ++ [0]).map (Value.int .i64) := by
  match xs, h with
  | [], _ => rfl
  | [a], _ => rfl
  | [a, b], _ => rfl
  | [a, b, c], _ => rfl
  | [a, b, c, d], _ => rfl
theorem body_set {xs : List Int} (h : xs.length ≤ 4) : (bodyL xs ++ [0]).set 5 (tagL 1 (bodyL xs)) = packL xs := by
  rw [List.set_append_right _ _ (by rw [bodyL_len h]; exact Nat.le_refl _), bodyL_len h]
  rfl
theorem body_take {xs : List Int} (h : xs.length ≤ 4) : (bodyL xs ++ [0]).take 5 = bodyL xs := by
  rw [List.take_append_of_le_length (by rw [bodyL_len h]; exact Nat.le_refl _), List.take_of_length_le (by rw [bodyL_len h]; exact Nat.le_refl _)]

end
section
open Go Go.RowKit

/-- The body made so far: the length, the letter, and j zeros. -/
def BodyTo (xs : List Int) (j : Nat) : List Int := ((xs.length : Int) :: xs) ++ List.replicate j 0
theorem BodyTo_len (xs : List Int) (j : Nat) : (BodyTo xs j).length = xs.length + 1 + j := by simp [BodyTo]; omega
theorem BodyTo_next (xs : List Int) (j : Nat) : BodyTo xs j ++ [0] = BodyTo xs (j + 1) := by simp [BodyTo, List.replicate_succ']
theorem BodyTo_all (xs : List Int) : BodyTo xs (4 - xs.length) = bodyL xs := rfl
theorem ints_snoc (xs : List Int) (v : Int) : ints xs ++ [.int .i64 v] = ints (xs ++ [v]) := by simp [ints]
theorem ints_cons (xs : List Int) (v : Int) : [.int .i64 v] ++ ints xs = ints (v :: xs) := by simp [ints]

/-- The length of a slice. -/
def lenV : Value → Nat
  | .slice _ m _ => m
  | _ => 0

/-- The body made so far, in memory. -/
def PackRel (xs : List Int) (n : Nat) (w : World) (v : Value) (wr : World) : Prop := ∃ (j : Nat) (A' : Option Addr) (c' : Nat), j ≤ 4 - n ∧ v = .slice A' (n + 1 + j) c' ∧ wr.ownsRow w.heap.size 3 1 (.slice A' (n + 1 + j) c') (n + 1 + j) (ints (BodyTo xs j)) ∧ Below w.heap.size w wr

set_option maxRecDepth 100000 in
set_option maxHeartbeats 1600000 in
theorem sLetterPack_c (A : Option Addr) (n c lo hi : Nat) (xs : List Int) (w : World) (hs : SlR .i64 w lo hi A n xs) (hn : n ≤ 4194304) : Calls Try.prog 55 #[.slice A n c] w (NewPair (packP xs) (packB xs) w) := by
  have hl := hs.len
  have HL := Lib.hid hl
  cases hx : listB xs with
  | false =>
    have hp : packB xs = false := by simp [packB, hx]
    rw [packP_no hp, hp]
    clear hp hl
    go_enter Try.func55, Try.ntmps55
    go_wp2_with (go_at_call 51; refine (l2List_c _ _ _ _ _ _ _ hs (by omega)).mono ?_; rintro e w' ⟨rfl, rfl⟩)
    go_ret2
    exact NewPair.empty _ _
  | true =>
    by_cases hn4 : 4 < n
    · have hp : packB xs = false := by simp [packB, hx]; omega
      rw [packP_no hp, hp]
      clear hp hl
      go_enter Try.func55, Try.ntmps55
      go_wp2_with (go_at_call 51; refine (l2List_c _ _ _ _ _ _ _ hs (by omega)).mono ?_; rintro e w' ⟨rfl, rfl⟩)
      go_ret2
      exact NewPair.empty _ _
    · have hp : packB xs = true := by simp [packB, hx]; omega
      have h4 : xs.length ≤ 4 := by omega
      rw [packP_yes hp, hp]
      obtain ⟨i0, hi0, hz0, hz1, hz2⟩ := info_parts Try.infoInt
      have hs1 := hs.alloc (.cells #[.int .i64 (n : Int)] 3)
      have hown0 := World.ownsRow_lit (base := w.heap.size) (e := 3) (size := 1) w #[.int .i64 (n : Int)] 1 (Nat.le_refl _) (by unfold maxLen; omega) rfl
      have HP := Lib.hid hp
      have H4 := Lib.hid h4
      clear hp hl h4
      go_enter Try.func55, Try.ntmps55
      go_wp2_with (first
        | (go_at_call 51; refine (l2List_c _ _ _ _ _ _ _ hs (by omega)).mono ?_; rintro e w' ⟨rfl, rfl⟩)
        | (at_builtin; refine wpList_append_sl _ rfl _ _ 23 rfl w.heap.size 3 i0 Try.underlying23 hi0 hz0 hz1 hz2 _ 1 [.int .i64 (n : Int)] rfl hown0 lo hi n c A xs rfl hs1 (by omega) (by simp) ?_))
      intro v1 w1 hown1 hg1 hat1
      have hb1 : Below w.heap.size w w1 := ((Below.refl _ _).alloc (Nat.le_refl _) _).grown hg1 (by simp) (fun k hk => by simp [Value.ownBlock] at hk; omega)
      have hown1' : w1.ownsRow w.heap.size 3 1 v1 (n + 1 + 0) (ints (BodyTo xs 0)) := by
        have he : ints (BodyTo xs 0) = [.int .i64 (n : Int)] ++ ints xs := by rw [ints_cons]; simp [BodyTo, HL.out]
        rw [he, Nat.add_zero, Nat.add_comm n 1]; exact hown1
      obtain ⟨A1, c1, hv1⟩ := owns_shape hown1'
      have HO := Lib.hid hown1'
      have HB := Lib.hid hb1
      have HV := Lib.hid hv1
      clear hown1 hg1 hat1 hown1' hb1 hv1 hs1 hs hown0
      rw [HV.out]
      go_wp2_with fail
      go_loopw [4] (fun v wr => PackRel xs n w v wr) (fun v _ => 5 - lenV v)
      case atStart => exact ⟨0, A1, c1, Nat.zero_le _, rfl, by rw [← HV.out]; exact HO.out, HB.out⟩
      case round =>
        obtain ⟨j, A', c', hj, rfl, hown, hnx⟩ := hrel
        by_cases hlt : n + 1 + j < 5
        · have hsz := hnx.size
          go_wp2_with (at_builtin; refine wpList_append_own _ rfl _ _ 23 rfl w.heap.size 3 i0 (.int .i64 0) 1 8 Try.underlying23 hi0 hz0 hz1 hz2 rfl (by decide) _ _ _ rfl (hown.alloc _) ⟨wr.heap.size, 0, none⟩ 1 1 [.int .i64 0] rfl rfl one_new one_cell (by unfold maxLen; omega) (by omega) (by simp; omega) ?_)
          intro v' w2 hown' hgrow _
          have hnx1 := made_below hnx hgrow (Nat.le_refl _) hown
          rw [ints_snoc, BodyTo_next] at hown'
          obtain ⟨A2, c2, hv'⟩ := owns_shape hown'
          have HO' := Lib.hid hown'
          have HV' := Lib.hid hv'
          clear hown' hgrow hown hnx hv'
          go_wp2
          go_roundw
          case rel => (repeat apply Exists.intro); exact ⟨⟨j + 1, A2, c2, by omega, HV'.out, (by have g := HO'.out; rw [HV'.out] at g; exact g), hnx1⟩, rfl⟩
          case measure => rw [HV'.out]; simp [lenV]; omega
        · have hj4 : j = 4 - n := by omega
          have hB : BodyTo xs j = bodyL xs := by rw [hj4, ← HL.out]; rfl
          have hn5 : n + 1 + j = 5 := by omega
          rw [hB, hn5] at hown
          rw [hn5]
          have ho := OwnR.of_owns (xs := bodyL xs) hown
          have HC := Lib.hid (l3Tag_c 1 A' 5 c' _ _ (bodyL xs) wr ho.read (by omega) (fun i hi => mem_bodyL HP.out _ (getD_mem (by rw [bodyL_len H4.out]; exact hi))) (by omega))
          have hsz := hnx.size
          clear hB hj4 ho hlt
          go_wp2_with (first
            | (go_at_call 52; refine HC.out.mono ?_; rintro e w' ⟨rfl, rfl⟩)
            | (at_builtin; refine wpList_append_own _ rfl _ _ 23 rfl w.heap.size 3 i0 (.int .i64 0) 1 8 Try.underlying23 hi0 hz0 hz1 hz2 rfl (by decide) _ _ _ rfl (hown.alloc _) ⟨wr.heap.size, 0, none⟩ 1 1 [.int .i64 (tagL 1 (bodyL xs))] rfl rfl one_new one_cell (by unfold maxLen; omega) (by omega) (by simp; omega) ?_))
          intro v' w2 hown' hgrow _
          have hnx1 := made_below hnx hgrow (Nat.le_refl _) hown
          rw [ints_snoc] at hown'
          have HO' := Lib.hid hown'
          clear hown' hgrow hown hnx
          go_wp2
          go_ret2
          exact NewPair.of_owns HO'.out hnx1
end
section
open Go Go.RowKit

theorem openP_no {xs : List Int} (h : openB xs = false) : openP xs = [] := by simp [openP, h]
theorem openP_yes {xs : List Int} (h : openB xs = true) : openP xs = letterL xs := by simp [openP, h]
theorem NewPair.after {xs : List Int} {b : Bool} {w w1 w' : World} {e : Ending} (hb : Below w.heap.size w w1) (h : NewPair xs b w1 e w') : NewPair xs b w e w' := by
  obtain ⟨A, n, c, he, h1, h2⟩ := h
  exact ⟨A, n, c, he, h1.wider hb.size (Nat.le_refl _) (Nat.le_refl _), hb.trans (h2.mono hb.size)⟩

theorem q_left {P : Program} {f : FuncId} {args : Array Value} {w : World} {n : Nat} {v : Value} (h : Calls P f args (w.drewN n) fun e w' => e = .returned v ∧ w.drewN n = w') : Calls P f args (w.drewN n) fun e w'' => e = .returned v ∧ ∃ m, w'' = w.drewN m :=
  h.mono fun _ _ ⟨he, hm⟩ => ⟨he, n, hm.symm⟩
def ZeroTo (xs : List Int) (m k : Nat) : Prop := ∀ j, m < j → j < k → xs.getD j 0 = 0
theorem ZeroTo.next {xs : List Int} {m k : Nat} {v : Int} (h : ZeroTo xs m k) (hv : v = xs.getD k 0) (h0 : v = 0) : ZeroTo xs m (k + 1) := fun j h1 h2 => by
  by_cases e : j = k
  · subst e; rw [← hv, h0]
  · exact h j h1 (by omega)
theorem openB_all {xs : List Int} (h1 : listB xs = true) (h2 : xs.length = 6) (h3 : xs.getD 0 0 ≤ 4) (h4 : tagL 1 (xs.take 5) = xs.getD 5 0) (h5 : ZeroTo xs (xs.getD 0 0).toNat 5) : openB xs = true :=
  openB_iff.2 ⟨h1, h2, h3, (openB_zeros h2 h1 h3).2 ⟨h4, fun i hi hj => h5 i hi hj⟩⟩
theorem openB_tag {xs : List Int} (h4 : tagL 1 (xs.take 5) ≠ xs.getD 5 0) : openB xs = false := by
  cases g : openB xs with
  | false => rfl
  | true => obtain ⟨g1, g2, g3, g4⟩ := openB_iff.1 g; exact absurd ((openB_zeros g2 g1 g3).1 g4).1 h4
theorem openB_big {xs : List Int} (h4 : 4 < xs.getD 0 0) : openB xs = false := by
  cases g : openB xs with
  | false => rfl
  | true => have := (openB_iff.1 g).2.2.1; omega
theorem openB_bad {xs : List Int} {k : Nat} (h1 : (xs.getD 0 0).toNat < k) (h2 : k < 5) (h3 : xs.getD k 0 ≠ 0) : openB xs = false := by
  cases g : openB xs with
  | false => rfl
  | true => obtain ⟨g1, g2, g3, g4⟩ := openB_iff.1 g; exact absurd (((openB_zeros g2 g1 g3).1 g4).2 k h1 h2) h3

end
end Go.Proofs.Ytoocjalhcliebaa
