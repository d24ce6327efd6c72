/-
  Drawn elements, and the draws of chapter 1's statements.
  No condition.
-/
import Derived.Test.YtbkecimhbibnjaaDraw
namespace Go.Proofs.Ytbkecimhbibnjaa
open Go Go.RowKit

/-- What a draw of some number leaves. -/
def IntPost (g m : Nat) (w : World) (e : Ending) (w' : World) : Prop := ∃ x : Int, e = .returned (.int .i64 x) ∧ RdOk w' g m ∧ w.grownBy w' (some g)

theorem four_cases {x : Int} (h0 : 0 ≤ x) (h : x < 4) : x = 0 ∨ x = 1 ∨ x = 2 ∨ x = 3 := by omega

theorem l91Is_c (g m : Nat) (w : World) (h : RdOk w g m) (hm : m ≤ 900000) : Calls Try.prog 47 #[.pointer (some ⟨g, 0, none⟩)] w (IntPost g (m + 3) w) := by
  go_enter Try.func47, Try.ntmps47
  go_wp2_with fail
  refine (pick_c g m _ _ h (by omega)).mono ?_
  rintro e w1 ⟨x, rfl, hx0, hx1, hr1, hg1⟩
  by_cases hx : x = 0
  · subst hx
    go_wp2_with fail
    have hr2 : RdOk (w1.alloc (.cells #[.int .i64 0, .int .i64 996, .int .i64 997, .int .i64 (-1)] 3)) g (m + 1) := hr1.below ((Below.refl w1.heap.size w1).alloc (Nat.le_refl _) _) hr1.lt
    refine (pick_c g (m + 1) _ _ hr2 (by omega)).mono ?_
    rintro e w2 ⟨y, rfl, hy0, hy1, hr3, hg3⟩
    have hlt := hr1.lt
    have hblk : w2.heap[w1.heap.size]? = some (.cells #[.int .i64 0, .int .i64 996, .int .i64 997, .int .i64 (-1)] 3 (0, 0)) :=
      (hg3.block _ (by simp) (by intro e; injection e with e; omega)).trans (heap_alloc_new w1 _)
    have k0 := cell_of_row w2 w1.heap.size 0 _ _ _ hblk
    have k1 := cell_of_row w2 w1.heap.size 1 _ _ _ hblk
    have k2 := cell_of_row w2 w1.heap.size 2 _ _ _ hblk
    have k3 := cell_of_row w2 w1.heap.size 3 _ _ _ hblk
    have hgr : w.grownBy w2 (some g) := only_trans (only_below hg1 ((Below.refl w1.heap.size w1).alloc (Nat.le_refl _) _)) hg3
    clear hblk hg3 hg1 h hr1 hr2
    rcases four_cases hy0 (hy1 (by omega)) with rfl | rfl | rfl | rfl
    all_goals
      go_wp2
      go_ret
      exact ⟨_, rfl, hr3.mono (by omega), hgr⟩
  · have hxf : (x == 0) = false := by simpa using hx
    go_wp2_with fail
    refine (pick_c g (m + 1) _ _ hr1 (by omega)).mono ?_
    rintro e w2 ⟨y, rfl, hy0, hy1, hr2, hg2⟩
    go_wp2_with fail
    refine (pick_c g (m + 1 + 1) _ _ hr2 (by omega)).mono ?_
    rintro e w3 ⟨z, rfl, hz0, hz1, hr3, hg3⟩
    go_wp2
    go_ret
    exact ⟨_, rfl, hr3, only_trans (only_trans hg1 hg2) hg3⟩

/-- What l6Open leaves: a new reader at place 0; nothing old is touched. -/
def OpenPost (w : World) (e : Ending) (w' : World) : Prop := e = .returned (.pointer (some ⟨w.heap.size, 0, none⟩)) ∧ RdOk w' w.heap.size 0 ∧ Below w.heap.size w w'

theorem l6Open_c (A : Option Addr) (n c : Nat) (xs : List Int) (w : World) (h : SlR .u8 w 0 w.heap.size A n xs) (hb : ∀ x ∈ xs, 0 ≤ x ∧ x ≤ 255) (hc : n ≤ c) (hc2 : c ≤ 9223372036854775807) :
    Calls Try.prog 44 #[.slice A n c] w (OpenPost w) := by
  have hgo : ∀ n' xs' c', SlR .u8 w 0 w.heap.size A n' xs' → (∀ x ∈ xs', 0 ≤ x ∧ x ≤ 255) → n' ≤ 2000 → n' ≤ c' → RdOk (w.alloc (.cells #[.slice A n' c', .int .i64 0] 95)) w.heap.size 0 := fun n' xs' c' hs hx hn hcc =>
    ⟨A, n', c', xs', 0, Nat.le_refl _, heap_alloc_new w _, hs.alloc _, hx, hn, hcc⟩
  have hgo1 := fun hn => hgo n xs c h hb hn hc
  have hgo2 := fun (hn : 2000 ≤ n) => hgo 2000 (xs.take 2000) c (h.take_ hn) (fun x hx => hb x (List.mem_of_mem_take hx)) (Nat.le_refl _) (by omega)
  clear hgo h hb
  by_cases hn : 2000 < n
  · go_enter Try.func44, Try.ntmps44
    go_wp2
    go_ret
    exact ⟨rfl, hgo2 (by omega), (Below.refl _ _).alloc (Nat.le_refl _) _⟩
  · go_enter Try.func44, Try.ntmps44
    go_wp2
    go_ret
    exact ⟨rfl, hgo1 (by omega), (Below.refl _ _).alloc (Nat.le_refl _) _⟩
end Go.Proofs.Ytbkecimhbibnjaa
