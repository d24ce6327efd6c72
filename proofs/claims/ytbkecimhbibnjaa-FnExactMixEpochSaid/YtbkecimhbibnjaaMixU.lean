/-
  The contract of the function that copies a mix that came in.
  Conditions: the slices read as lists.
-/
import Derived.Test.YtbkecimhbibnjaaMixT
import Derived.Test.YtbkecimhbibnjaaMixW
namespace Go.Proofs.Ytbkecimhbibnjaa
open Go Go.RowKit

set_option maxRecDepth 100000 in
set_option maxHeartbeats 3200000 in
theorem toMix_c (s : Int) (A : Option Addr) (n c : Nat) (A2 : Option Addr) (n2 c2 lo hi : Nat) (seen : List Int) (pl : List Peel) (w : World) (hs : MixR w lo hi seen pl A n c A2 n2 c2) (hn : n ≤ 1048576) (hn2 : n2 ≤ 1048576) (hpl : PlB 4194304 pl) :
    Calls Try.prog 23 #[.agg #[.int .i64 s, .slice A n c, .slice A2 n2 c2]] w (NewMix s seen pl w) := by
  have hhi := hs.hi_le
  have hs0 := ((hs.alloc (.cells #[.int .i64 s, .slice A n c, .slice A2 n2 c2] 37)).alloc (.cells #[.int .i64 0, .slice none 0 0, .slice none 0 0] 26)).alloc (.cells #[.int .i64 s, .slice none 0 0, .slice none 0 0] 26)
  have hb0 : Below w.heap.size w (((w.alloc (.cells #[.int .i64 s, .slice A n c, .slice A2 n2 c2] 37)).alloc (.cells #[.int .i64 0, .slice none 0 0, .slice none 0 0] 26)).alloc (.cells #[.int .i64 s, .slice none 0 0, .slice none 0 0] 26)) := (((Below.refl w.heap.size w).alloc (Nat.le_refl _) _).alloc (by simp) _).alloc (by simp; omega) _
  have ba : BoxAt (((w.alloc (.cells #[.int .i64 s, .slice A n c, .slice A2 n2 c2] 37)).alloc (.cells #[.int .i64 0, .slice none 0 0, .slice none 0 0] 26)).alloc (.cells #[.int .i64 s, .slice none 0 0, .slice none 0 0] 26)) w.heap.size #[.int .i64 s, .slice A n c, .slice A2 n2 c2] 37 := ((BoxAt.new w #[.int .i64 s, .slice A n c, .slice A2 n2 c2] 37).alloc _).alloc _
  have bz : BoxAt (((w.alloc (.cells #[.int .i64 s, .slice A n c, .slice A2 n2 c2] 37)).alloc (.cells #[.int .i64 0, .slice none 0 0, .slice none 0 0] 26)).alloc (.cells #[.int .i64 s, .slice none 0 0, .slice none 0 0] 26)) (w.heap.size + 1) #[.int .i64 0, .slice none 0 0, .slice none 0 0] 26 := by
    have := (BoxAt.new (w.alloc (.cells #[.int .i64 s, .slice A n c, .slice A2 n2 c2] 37)) #[.int .i64 0, .slice none 0 0, .slice none 0 0] 26).alloc (.cells #[.int .i64 s, .slice none 0 0, .slice none 0 0] 26)
    simpa using this
  have bo : BoxAt (((w.alloc (.cells #[.int .i64 s, .slice A n c, .slice A2 n2 c2] 37)).alloc (.cells #[.int .i64 0, .slice none 0 0, .slice none 0 0] 26)).alloc (.cells #[.int .i64 s, .slice none 0 0, .slice none 0 0] 26)) (w.heap.size + 2) #[.int .i64 s, .slice none 0 0, .slice none 0 0] 26 := by
    have := BoxAt.new ((w.alloc (.cells #[.int .i64 s, .slice A n c, .slice A2 n2 c2] 37)).alloc (.cells #[.int .i64 0, .slice none 0 0, .slice none 0 0] 26)) #[.int .i64 s, .slice none 0 0, .slice none 0 0] 26
    simpa using this
  have hsz0 : w.heap.size + 3 ≤ (((w.alloc (.cells #[.int .i64 s, .slice A n c, .slice A2 n2 c2] 37)).alloc (.cells #[.int .i64 0, .slice none 0 0, .slice none 0 0] 26)).alloc (.cells #[.int .i64 s, .slice none 0 0, .slice none 0 0] 26)).heap.size := by simp
  clear hs
  go_enter Try.func23, Try.ntmps23
  go_wp2_with fail
  refine (toIntS_c _ _ _ _ _ _ _ hs0.1 (by omega)).mono ?_
  rintro e' w2 ⟨A3, n3, c3, rfl, o3, hb3⟩
  have hz2 := hb3.size
  have ba2 := ba.below hb3 (by omega)
  have bz2 := bz.below hb3 (by omega)
  have bo2 := bo.below hb3 (by omega)
  have hs2 := (hs0.below hb3 (by omega)).only (set1_only w2 (w.heap.size + 2) 1 (.slice A3 n3 c3)) (.inl (by omega))
  have o4 := o3.only (set1_only w2 (w.heap.size + 2) 1 (.slice A3 n3 c3)) (.inr (by omega))
  have ba3 := ba2.only (set1_only w2 (w.heap.size + 2) 1 (.slice A3 n3 c3)) (.inl (by omega))
  have bz3 := bz2.only (set1_only w2 (w.heap.size + 2) 1 (.slice A3 n3 c3)) (.inl (by omega))
  have bo3 := bo2.set 1 (.slice A3 n3 c3)
  have hb4 := Below.only (hb0.trans (hb3.mono (by omega))) (set1_only w2 (w.heap.size + 2) 1 (.slice A3 n3 c3)) (by omega) (by omega)
  have hzs : (w2.setCell ⟨w.heap.size + 2, 1, none⟩ (.slice A3 n3 c3)).heap.size = w2.heap.size := by simp [World.setCell]
  obtain ⟨qa0, qa1, qa2⟩ := ba2.three
  obtain ⟨qo0, qo1, qo2⟩ := bo2.three
  have qf := bo2.frozen
  have F := Lib.hid (And.intro hs2 (And.intro o4 (And.intro bz3 (And.intro bo3 hb4))))
  clear ba bz bo bz2 bo2 bz3 bo3 ba2 ba3 o3 o4 hs2 hb4 hb3 hb0 hs0
  go_wp2_with fail
  refine (toPeeledS_c _ _ _ _ _ _ _ F.out.1.2.1 hn2 hpl).mono ?_
  rintro e' w4 ⟨A4, n4, c4, rfl, p4, hb5⟩
  have hz4 := hb5.size
  obtain ⟨_, o4, bz3, bo3, hb4⟩ := F.out
  clear F qa0 qa1 qa2 qo0 qo1 qo2 qf
  have o5 := (o4.below hb5 (by omega)).only (set1_only w4 (w.heap.size + 2) 2 (.slice A4 n4 c4)) (.inr (by omega))
  have p5 := p4.only (set1_only w4 (w.heap.size + 2) 2 (.slice A4 n4 c4)) (.inr (by omega))
  have bz5 := bz3.below hb5 (by omega)
  have bo5 := bo3.below hb5 (by omega)
  have hb6 := Below.only (hb4.trans (hb5.mono (by omega))) (set1_only w4 (w.heap.size + 2) 2 (.slice A4 n4 c4)) (by omega) (by omega)
  have hon := set3_only (w4.setCell ⟨w.heap.size + 2, 2, none⟩ (.slice A4 n4 c4)) (w.heap.size + 1) (.int .i64 s) (.slice A3 n3 c3) (.slice A4 n4 c4)
  have hfin : NewMix s seen pl w (.returned (.agg #[.int .i64 s, .slice A3 n3 c3, .slice A4 n4 c4])) ((((w4.setCell ⟨w.heap.size + 2, 2, none⟩ (.slice A4 n4 c4)).setCell ⟨w.heap.size + 1, 0, none⟩ (.int .i64 s)).setCell ⟨w.heap.size + 1, 1, none⟩ (.slice A3 n3 c3)).setCell ⟨w.heap.size + 1, 2, none⟩ (.slice A4 n4 c4)) := by
    have o6 := o5.only hon (.inr (by omega))
    have p6 := p5.only hon (.inr (by omega))
    exact ⟨A3, n3, c3, A4, n4, c4, rfl, ⟨Nat.le_refl _, _, _, _, _, o6, p6, .inl (by omega), by omega, by omega, o6.hi_le, p6.hi_le⟩, Below.only hb6 hon (by simp [World.setCell]; omega) (by omega)⟩
  have HFIN := Lib.hid hfin
  obtain ⟨qo0, qo1, qo2⟩ := bo5.three
  have qf := bo5.frozen
  obtain ⟨qz0, qz1, qz2⟩ := bz5.three
  have qg := bz5.frozen
  clear hfin bz3 bo3 bz5 bo5 o4 o5 p4 p5 hb4 hb5 hb6 hon
  go_wp2_with fail
  refine bodyPost_ret (v := .agg #[.int .i64 s, .slice A3 n3 c3, .slice A4 n4 c4]) (by simp [results, Try.results23, go_sem, qz0, qz1, qz2]) rfl ?_
  exact HFIN.out
end Go.Proofs.Ytbkecimhbibnjaa
