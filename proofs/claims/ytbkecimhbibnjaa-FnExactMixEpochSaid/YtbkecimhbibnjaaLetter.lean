/-
  Contracts of the functions that pack letters.
  Conditions: the letter's slice reads as a list of whole numbers.
-/
import Derived.Test.YtbkecimhbibnjaaCopy
import Derived.Test.YtbkecimhbibnjaaPureC
import Derived.Laws.CopyOwn
namespace Go.Proofs.Ytbkecimhbibnjaa
open Go Go.RowKit

theorem rd_lt' {w : World} {g : Nat} {o : Obj} (h : w.heap[g]? = some o) : g < w.heap.size := by
  rcases Nat.lt_or_ge g w.heap.size with hlt | hge
  · exact hlt
  · rw [Array.getElem?_eq_none hge] at h; cases h
theorem OwnR.cap {T : TypeId} {w : World} {lo hi n c : Nat} {A : Option Addr} {xs : List Int} (h : OwnR T w lo hi A n c xs) : n ≤ c := by
  rcases h.1.2 with ⟨e, hn⟩ | ⟨g, cap, cur, e, _, _, hnc, _⟩
  · omega
  · injection e with e1 e2 e3; omega
/-- A call that returns a new slice of whole numbers and a truth value, and touches nothing old. -/
def NewPair (xs : List Int) (b : Bool) (w : World) (e : Ending) (w' : World) : Prop :=
  ∃ A n c, e = .returned (.tuple #[.slice A n c, .bool b]) ∧ OwnR 3 w' w.heap.size w'.heap.size A n c xs ∧ Below w.heap.size w w'
theorem NewPair.of_owns {xs : List Int} {b : Bool} {w w' : World} {v : Value} {n : Nat} (h : w'.ownsRow w.heap.size 3 1 v n (xs.map (Value.int .i64))) (hb : Below w.heap.size w w') : NewPair xs b w (.returned (.tuple #[v, .bool b])) w' := by
  obtain ⟨A, c, rfl⟩ := owns_shape h
  exact ⟨A, n, c, rfl, OwnR.of_owns h, hb⟩
theorem NewPair.none_ (b : Bool) (w : World) : NewPair [] b w (.returned (.tuple #[.slice none 0 0, .bool b])) w := NewPair.of_owns (World.ownsRow_nil _ _ _ _) (Below.refl _ _)
theorem NewPair.empty (b : Bool) (w : World) : NewPair [] b w (.returned (.tuple #[.slice (some ⟨w.heap.size, 0, none⟩) 0 0, .bool b])) (w.alloc (.cells #[] 3)) :=
  NewPair.of_owns (World.ownsRow_made w #[] 0 (Nat.le_refl _) (by unfold maxLen; omega) rfl) ((Below.refl _ _).alloc (Nat.le_refl _) _)

theorem packP_no {xs : List Int} (h : packB xs = false) : packP xs = [] := by simp [packP, h]
theorem packP_yes {xs : List Int} (h : packB xs = true) : packP xs = packL xs := by simp [packP, h]
theorem splice_body {xs : List Int} (h : xs.length ≤ 4) : splice [Value.int .i64 (xs.length : Int), .int .i64 0, .int .i64 0, .int .i64 0, .int .i64 0, .int .i64 0] 1 (ints xs) = (bodyL xs ++ [0]).map (Value.int .i64) := by
  match xs, h with
  | [], _ => rfl
  | [a], _ => rfl
  | [a, b], _ => rfl
  | [a, b, c], _ => rfl
  | [a, b, c, d], _ => rfl
theorem body_set {xs : List Int} (h : xs.length ≤ 4) : (bodyL xs ++ [0]).set 5 (tagL 1 (bodyL xs)) = packL xs := by
  rw [List.set_append_right _ _ (by rw [bodyL_len h]; exact Nat.le_refl _), bodyL_len h]
  rfl
theorem body_take {xs : List Int} (h : xs.length ≤ 4) : (bodyL xs ++ [0]).take 5 = bodyL xs := by
  rw [List.take_append_of_le_length (by rw [bodyL_len h]; exact Nat.le_refl _), List.take_of_length_le (by rw [bodyL_len h]; exact Nat.le_refl _)]

set_option maxRecDepth 100000 in
set_option maxHeartbeats 1600000 in
theorem letterPack_c (A : Option Addr) (n c lo hi : Nat) (xs : List Int) (w : World) (hs : SlR .i64 w lo hi A n xs) : Calls Try.prog 82 #[.slice A n c] w (NewPair (packP xs) (packB xs) w) := by
  have hl := hs.len
  have HL := Lib.hid hl
  cases hx : listB xs with
  | false =>
    have hp : packB xs = false := by simp [packB, hx]
    rw [packP_no hp, hp]
    clear hp hl
    go_enter Try.func82, Try.ntmps82
    go_wp2_with (go_at_call 112; refine (isList_c _ _ _ _ _ _ _ hs).mono ?_; rintro e w' ⟨rfl, rfl⟩)
    go_ret2
    exact NewPair.none_ _ _
  | true =>
    by_cases hn4 : 4 < n
    · have hp : packB xs = false := by simp [packB, hx]; omega
      rw [packP_no hp, hp]
      clear hp hl
      go_enter Try.func82, Try.ntmps82
      go_wp2_with (go_at_call 112; refine (isList_c _ _ _ _ _ _ _ hs).mono ?_; rintro e w' ⟨rfl, rfl⟩)
      go_ret2
      exact NewPair.none_ _ _
    · have hp : packB xs = true := by simp [packB, hx]; omega
      have h4 : xs.length ≤ 4 := by omega
      rw [packP_yes hp, hp]
      have hmk : ∀ W, (Instr.makeSlice 23 (.int .i64 6) (.int .i64 6)).run Try.prog W = .ok (.slice (some ⟨W.heap.size, 0, none⟩) 6 6) (W.alloc (.cells #[.int .i64 0, .int .i64 0, .int .i64 0, .int .i64 0, .int .i64 0, .int .i64 0] 3)) :=
        fun W => by kernel_rfl
      have hsp := splice_body h4
      rw [hl] at hsp
      have HSP := Lib.hid hsp
      have HP := Lib.hid hp
      have H4 := Lib.hid h4
      have hs1 := hs.alloc (.cells #[.int .i64 (n : Int), .int .i64 0, .int .i64 0, .int .i64 0, .int .i64 0, .int .i64 0] 3)
      clear hp hl hsp h4
      go_enter Try.func82, Try.ntmps82
      go_wp2_with (first
        | (go_at_call 112; refine (isList_c _ _ _ _ _ _ _ hs).mono ?_; rintro e w' ⟨rfl, rfl⟩)
        | (with_reducible refine wpList_copy_splice (o := ⟨some 21, _, _, _, _, _⟩) rfl _ _ _ _ rfl 3 Try.underlying23 (by kernel_rfl) _ _ _ _ _ _ rfl rfl w.heap.size 1 [.int .i64 (n : Int), .int .i64 0, .int .i64 0, .int .i64 0, .int .i64 0, .int .i64 0] 3 (heap_alloc_new w _) (ints xs) ?hn ?hpos ?hfit ?h1 w.heap.size w ((Below.refl _ _).alloc (Nat.le_refl _) _) (Nat.le_refl _) ?_))
      case hn => simp only [ints, List.length_map, HL.out]; exact (Nat.min_eq_left (by omega)).symm
      case hfit => simp [ints, HL.out]; omega
      case h1 => intro u hu; simp only [ints, List.mem_map] at hu; obtain ⟨x, _, rfl⟩ := hu; rfl
      case hpos =>
        intro h0
        have hnp : 0 < n := by simpa [ints, HL.out] using h0
        obtain ⟨b, o, rfl, _, _, hc⟩ := hs1.at_ hnp
        refine ⟨⟨b, o, none⟩, rfl, fun j u hu => ?_⟩
        have hj : j < n := by
          have := (List.getElem?_eq_some_iff.1 hu).1
          simpa [ints, HL.out] using this
        rw [add_off, hc j hj, ← hu]
        simp [ints, List.getD_eq_getElem?_getD, HL.out, hj]
      intro w1 hg1 hb1
      have hg1' := hg1.out
      rw [HSP.out] at hg1'
      have own1 : OwnR 3 w1 w.heap.size (w.heap.size + 1) (some ⟨w.heap.size, 0, none⟩) 6 6 (bodyL xs ++ [0]) := by
        have hlen : (bodyL xs ++ [0]).length = 6 := by simp [bodyL_len H4.out]
        refine ⟨⟨by simp only [List.length_map, hlen], .inr ⟨w.heap.size, 6, _, rfl, Nat.le_refl _, hg1', Nat.le_refl _, by unfold maxLen; omega, by simp [bodyL_len H4.out], by simp [List.take_of_length_le, bodyL_len H4.out]⟩⟩, rd_lt' hg1', fun a ha => by injection ha with ha; subst ha; exact Nat.lt_succ_self _⟩
      have sl5 := own1.read.take_ (j := 5) (by omega)
      rw [body_take H4.out] at sl5
      have cell5 : w1.cell? ⟨w.heap.size, 5, none⟩ = some (.int .i64 ((bodyL xs ++ [0]).getD 5 0)) := by
        obtain ⟨g, hg, _, _, hc, _⟩ := own1.at_ (by omega)
        injection hg with hg; injection hg with hg; subst hg
        exact hc 5 (by omega)
      have fro5 : w1.frozen? ⟨w.heap.size, 5, none⟩ = false := by
        obtain ⟨g, hg, _, _, _, hf⟩ := own1.at_ (by omega)
        injection hg with hg; injection hg with hg; subst hg
        exact hf 5
      have e1 : tagP 1 (bodyL xs) = tagL 1 (bodyL xs) := if_pos ⟨by decide, listB_iff.2 ⟨by rw [bodyL_len H4.out]; omega, mem_bodyL HP.out⟩⟩
      have own2 := (own1.stored 5 (tagL 1 (bodyL xs))).1
      rw [body_set H4.out] at own2
      have HO := Lib.hid own2
      have HE := Lib.hid e1
      clear own1 own2 e1 hg1' hs hs1
      go_wp2_with (go_at_call 74; refine (tagOf_c _ _ _ _ _ _ _ _ sl5).mono ?_; rintro e w' ⟨rfl, rfl⟩; rw [HE.out])
      go_ret2
      exact ⟨_, 6, 6, rfl, HO.out.wider (Nat.le_refl _) HO.out.2.1 (Nat.le_refl _), hb1.setCell (Nat.le_refl _) _⟩
end Go.Proofs.Ytbkecimhbibnjaa
