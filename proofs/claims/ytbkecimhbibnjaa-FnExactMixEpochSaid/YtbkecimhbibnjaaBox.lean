/-
  A block that holds a struct, and drawn secrets with their public keys.
  No condition.
-/
import Derived.Test.YtbkecimhbibnjaaPkt
import Derived.Test.YtbkecimhbibnjaaMakeS
import Derived.Test.YtbkecimhbibnjaaDrawQ
namespace Go.Proofs.Ytbkecimhbibnjaa
open Go Go.RowKit

/-- Block g holds the cells cs. -/
def BoxAt (w : World) (g : Nat) (cs : Array Value) (T : TypeId) : Prop := w.heap[g]? = some (.cells cs T)
section
variable {w w' : World} {g lo hi : Nat} {cs : Array Value} {T : TypeId}
theorem BoxAt.hi_le (h : BoxAt w g cs T) : g < w.heap.size := rd_lt h
theorem BoxAt.below {B : Nat} (h : BoxAt w g cs T) (hb : Below B w w') (hB : g < B) : BoxAt w' g cs T := (hb.block g hB).trans h
theorem BoxAt.grown {row : Option Nat} (h : BoxAt w g cs T) (hg : w.grownBy w' row) (hr : ∀ k, row = some k → g < k ∨ k < g) : BoxAt w' g cs T :=
  (hg.block g h.hi_le (fun e => by have := hr g e.symm; omega)).trans h
theorem BoxAt.only (h : BoxAt w g cs T) (ho : Only lo hi w w') (hd : g < lo ∨ hi ≤ g) : BoxAt w' g cs T := (ho.block g h.hi_le hd).trans h
theorem BoxAt.alloc (h : BoxAt w g cs T) (o : Obj) : BoxAt (w.alloc o) g cs T := (heap_alloc_old w o h.hi_le).trans h
theorem BoxAt.drew (h : BoxAt w g cs T) : BoxAt w.drew g cs T := h
theorem BoxAt.drewN (h : BoxAt w g cs T) (n : Nat) : BoxAt (w.drewN n) g cs T := h
theorem BoxAt.new (w : World) (cs : Array Value) (T : TypeId) : BoxAt (w.alloc (.cells cs T)) w.heap.size cs T := heap_alloc_new w _
theorem BoxAt.cell (h : BoxAt w g cs T) (i : Nat) : w.cell? ⟨g, i, none⟩ = cs[i]? := cell_of_row w g i _ T (0, 0) h
theorem BoxAt.frozen (h : BoxAt w g cs T) (i : Nat) : w.frozen? ⟨g, i, none⟩ = false := rd_frozen h i
theorem BoxAt.three {a b c : Value} (h : BoxAt w g #[a, b, c] T) : w.cell? ⟨g, 0, none⟩ = some a ∧ w.cell? ⟨g, 1, none⟩ = some b ∧ w.cell? ⟨g, 2, none⟩ = some c := ⟨h.cell 0, h.cell 1, h.cell 2⟩
theorem BoxAt.four {a b c d : Value} (h : BoxAt w g #[a, b, c, d] T) : w.cell? ⟨g, 0, none⟩ = some a ∧ w.cell? ⟨g, 1, none⟩ = some b ∧ w.cell? ⟨g, 2, none⟩ = some c ∧ w.cell? ⟨g, 3, none⟩ = some d :=
  ⟨h.cell 0, h.cell 1, h.cell 2, h.cell 3⟩
theorem BoxAt.six {a b c d e f : Value} (h : BoxAt w g #[a, b, c, d, e, f] T) : w.cell? ⟨g, 0, none⟩ = some a ∧ w.cell? ⟨g, 1, none⟩ = some b ∧ w.cell? ⟨g, 2, none⟩ = some c ∧ w.cell? ⟨g, 3, none⟩ = some d ∧ w.cell? ⟨g, 4, none⟩ = some e ∧ w.cell? ⟨g, 5, none⟩ = some f :=
  ⟨h.cell 0, h.cell 1, h.cell 2, h.cell 3, h.cell 4, h.cell 5⟩
theorem alloc_size (w : World) (o : Obj) : (w.alloc o).heap.size ≤ w.heap.size + 1 ∧ w.heap.size + 1 ≤ (w.alloc o).heap.size := by simp
end

/-- Drawn secrets and their public keys. -/
def SecPost (n : Nat) (w : World) (e : Ending) (w' : World) : Prop :=
  ∃ A c A2 c2 ss, e = .returned (.tuple #[.slice A n c, .slice A2 n c2]) ∧ (∀ a ∈ ss, elB a = true) ∧ TwoO w' w.heap.size w'.heap.size ss (ss.map (mulP · 5)) A n c A2 n c2 ∧ Below w.heap.size w w'
def SecTo (N : Nat) (w : World) (v1 v2 i : Value) (wr : World) : Prop :=
  ∃ (k : Nat) (ss : List Int), k ≤ N ∧ i = .int .i64 (k : Int) ∧ (∀ a ∈ ss, elB a = true) ∧ wr.ownsRow w.heap.size 3 1 v1 k (ints ss) ∧ wr.ownsRow w.heap.size 3 1 v2 k (ints (ss.map (mulP · 5))) ∧ (∀ b, v1.ownBlock = some b → v2.ownBlock ≠ some b) ∧ Below w.heap.size w wr
set_option maxRecDepth 100000 in
set_option maxHeartbeats 3200000 in
theorem secrets_c (n m : Nat) (w : World) (hn : n ≤ 3) (hm : m ≤ 1048576) : Calls Try.prog 43 #[.int .i64 (n : Int), .int .i64 (m : Int)] w (SecPost n w) := by
  obtain ⟨i0, hi0, hz0, hz1, hz2⟩ := info_parts Try.infoInt
  have own0 := World.ownsRow_made (base := w.heap.size) (e := 3) (size := 1) w #[] 0 (Nat.le_refl _) (by unfold maxLen; omega) rfl
  have own0' := own0.alloc (.cells #[] 3)
  have own1' : ((w.alloc (.cells #[] 3)).alloc (.cells #[] 3)).ownsRow w.heap.size 3 1 (.slice (some ⟨w.heap.size + 1, 0, none⟩) 0 0) 0 [] := by
    have := World.ownsRow_made (base := w.heap.size) (e := 3) (size := 1) (w.alloc (.cells #[] 3)) #[] 0 (by simp) (by unfold maxLen; omega) rfl
    simpa using this
  have hB0 : Below w.heap.size w ((w.alloc (.cells #[] 3)).alloc (.cells #[] 3)) := ((Below.refl w.heap.size w).alloc (Nat.le_refl _) _).alloc (by simp) _
  clear own0
  go_enter Try.func43, Try.ntmps43
  go_wp2_with fail
  go_loopw [6, 7, 8] (fun v1 v2 i wr => SecTo n w v1 v2 i wr) (fun _ _ i _ => n - (intOf i).toNat)
  case atStart => exact ⟨0, [], Nat.zero_le _, rfl, by simp, own0', own1', fun b hb => by simp [Value.ownBlock] at hb ⊢; omega, hB0⟩
  case round =>
    obtain ⟨k, ss, hk, rfl, hel, hp, hn', hap, hnx⟩ := hrel
    have hsz := hnx.size
    by_cases hlt : k < n
    · have HE := Lib.hid hel
      clear hel own0' own1' hB0
      go_wp2_with fail
      refine (element_c _ _ (by omega) (by omega)).mono ?_
      rintro e w' ⟨x, rfl, hxe, rfl⟩
      have HX := Lib.hid hxe
      clear hxe
      go_wp2_with (first | (at_builtin; go_must (refine wpList_append_sl _ rfl _ _ 23 rfl w.heap.size 3 i0 Try.underlying23 hi0 hz0 hz1 hz2 _ k (ints ss) rfl (hp.alloc _) _ _ 1 1 _ [x] rfl (one_read wr x) (by omega) (by simp; omega) ?_); intro v1' w_6 hp3 hg6 hat))
      obtain ⟨hn3, hap3⟩ := append_apart (v1' := v1') hp hn' hg6 hat hap
      have hB3 := made_below hnx hg6 (Nat.le_refl _) hp
      have hsz3 := hB3.size
      have hpi : ints ss ++ ints [x] = ints (ss ++ [x]) := by simp [ints]
      rw [hpi] at hp3
      clear hp hn' hg6 hat hap hnx hpi
      refine (public_c _ _).mono ?_
      rintro e w' ⟨rfl, rfl⟩
      go_wp2_with (at_builtin; go_must (refine wpList_append_sl _ rfl _ _ 23 rfl w.heap.size 3 i0 Try.underlying23 hi0 hz0 hz1 hz2 _ k (ints (ss.map (mulP · 5))) rfl (hn3.alloc _) _ _ 1 1 _ [mulP x 5] rfl (one_read w_6 (mulP x 5)) (by omega) (by simp; omega) ?_); intro v2' w_8 hn5 hg8 hat2)
      obtain ⟨hp5, hap5⟩ := append_apart (v1' := v2') hn3 hp3 hg8 hat2 (fun b hb he => hap3 b he hb)
      have hB5 := made_below hB3 hg8 (Nat.le_refl _) hn3
      have hni : ints (ss.map (mulP · 5)) ++ ints [mulP x 5] = ints ((ss ++ [x]).map (mulP · 5)) := by simp [ints]
      rw [hni] at hn5
      have hel2 : ∀ a ∈ ss ++ [x], elB a = true := by
        intro a ha
        rcases List.mem_append.1 ha with h | h
        · exact HE.out a h
        · simp at h; subst h; exact HX.out
      have HE2 := Lib.hid hel2
      clear hp3 hn3 hg8 hat2 hap3 hB3 hni hel2
      go_wp2
      go_roundw
      case rel => exact ⟨k + 1, _, by omega, by go_num, HE2.out, hp5, hn5, fun b hb he => hap5 b he hb, hB5⟩
      case measure => simp [intOf]; omega
    · have hkn : k = n := by omega
      obtain ⟨A1, c1, rfl⟩ := owns_shape hp
      obtain ⟨A2, c2, rfl⟩ := owns_shape hn'
      have op := OwnR.of_owns (xs := ss) hp
      have on := OwnR.of_owns (xs := ss.map (mulP · 5)) hn'
      have HK := Lib.hid hkn
      have HOP := Lib.hid op
      have HON := Lib.hid on
      have HAP := Lib.hid hap
      have HEL := Lib.hid hel
      clear hkn hp hn' op on hap own0' own1' hB0 hel
      go_wp2
      go_ret2
      have hk := HK.out
      subst hk
      exact ⟨_, _, _, _, ss, rfl, HEL.out, ⟨HOP.out, HON.out, HAP.out⟩, hnx⟩
end Go.Proofs.Ytbkecimhbibnjaa
