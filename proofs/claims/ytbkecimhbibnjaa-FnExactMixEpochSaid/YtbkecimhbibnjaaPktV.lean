/-
  Contracts of the functions that copy and measure packets that came in.
  Conditions: the packet's slices read as lists of whole numbers.
-/
import Derived.Test.YtbkecimhbibnjaaBox
namespace Go.Proofs.Ytbkecimhbibnjaa
open Go Go.RowKit

theorem BoxAt.set {w : World} {g : Nat} {cs : Array Value} {T : TypeId} (hu : BoxAt w g cs T) (i : Nat) (x : Value) : BoxAt (w.setCell ⟨g, i, none⟩ x) g (cs.setIfInBounds i x) T := by
  unfold BoxAt at hu ⊢
  simp [World.setCell, Array.getElem?_modify, hu]
theorem BoxAt.other {w : World} {g : Nat} {cs : Array Value} {T : TypeId} (hu : BoxAt w g cs T) {p : Addr} (hp : p.block ≠ g) (x : Value) : BoxAt (w.setCell p x) g cs T := by
  unfold BoxAt at hu ⊢
  simp [World.setCell, Array.getElem?_modify, hu, hp]
theorem szIntS_ok (A : Option Addr) (n c l : Nat) (w : World) (h : n ≤ l) (hl : l ≤ 1048576) : Calls Try.prog 56 #[.slice A n c, .int .i64 (l : Int)] w fun e w' => e = .returned (.int .i64 ((l - n : Nat) : Int)) ∧ w = w' := by
  have h0 : ¬ ((l : Int) - (n : Int) < 0) := by omega
  go_enter Try.func56, Try.ntmps56
  go_wp2_with fail
  go_ret
  exact ⟨ret_i (by omega), rfl⟩
theorem szIntS_no (A : Option Addr) (n c l : Nat) (w : World) (h : l < n) (hn : n ≤ 9223372036854775807) : Calls Try.prog 56 #[.slice A n c, .int .i64 (l : Int)] w fun e w' => e = .returned (.int .i64 (-1)) ∧ w = w' := by
  have h0 : (l : Int) - (n : Int) < 0 := by omega
  go_enter Try.func56, Try.ntmps56
  go_wp2_with fail
  go_ret
  exact ⟨ret_i rfl, rfl⟩
theorem szPacket_ok (e t : Int) (A : Option Addr) (n c : Nat) (A2 : Option Addr) (n2 c2 : Nat) (l : Nat) (w : World) (h : n + n2 ≤ l) (hl : l ≤ 1048576) : Calls Try.prog 121 #[.agg #[.int .i64 e, .slice A n c, .int .i64 t, .slice A2 n2 c2], .int .i64 (l : Int)] w fun e w' => e = .returned (.int .i64 ((l - n - n2 : Nat) : Int)) ∧ Below w.heap.size w w' := by
  have h0 : ¬ (((l - n : Nat) : Int) < 0) := by omega
  have h1 : ¬ (((l - n - n2 : Nat) : Int) < 0) := by omega
  go_enter Try.func121, Try.ntmps121
  go_wp2_with fail
  refine (szIntS_ok A n c l _ (by omega) hl).mono ?_
  rintro e w' ⟨rfl, rfl⟩
  go_wp2_with fail
  refine (szIntS_ok A2 n2 c2 (l - n) _ (by omega) (by omega)).mono ?_
  rintro e w' ⟨rfl, rfl⟩
  go_wp2_with fail
  go_ret
  exact ⟨rfl, (Below.refl _ _).alloc (Nat.le_refl _) _⟩
theorem szPacket_no (e t : Int) (A : Option Addr) (n c : Nat) (A2 : Option Addr) (n2 c2 : Nat) (l : Nat) (w : World) (h : l < n + n2) (hn : n ≤ 9223372036854775807) (hn2 : n2 ≤ 9223372036854775807) (hl : l ≤ 1048576) : Calls Try.prog 121 #[.agg #[.int .i64 e, .slice A n c, .int .i64 t, .slice A2 n2 c2], .int .i64 (l : Int)] w fun e w' => e = .returned (.int .i64 (-1)) ∧ Below w.heap.size w w' := by
  by_cases h1 : l < n
  · go_enter Try.func121, Try.ntmps121
    go_wp2_with fail
    refine (szIntS_no A n c l _ h1 hn).mono ?_
    rintro e w' ⟨rfl, rfl⟩
    go_wp2_with fail
    go_ret
    exact ⟨rfl, (Below.refl _ _).alloc (Nat.le_refl _) _⟩
  · have h0 : ¬ (((l - n : Nat) : Int) < 0) := by omega
    go_enter Try.func121, Try.ntmps121
    go_wp2_with fail
    refine (szIntS_ok A n c l _ (by omega) hl).mono ?_
    rintro e w' ⟨rfl, rfl⟩
    go_wp2_with fail
    refine (szIntS_no A2 n2 c2 (l - n) _ (by omega) hn2).mono ?_
    rintro e w' ⟨rfl, rfl⟩
    go_wp2_with fail
    go_ret
    exact ⟨rfl, (Below.refl _ _).alloc (Nat.le_refl _) _⟩
/-- A call that returns a packet in new memory. -/
def NewPk (e t : Int) (h b : List Int) (w : World) (en : Ending) (w' : World) : Prop :=
  ∃ A n c A2 n2 c2, en = .returned (.agg #[.int .i64 e, .slice A n c, .int .i64 t, .slice A2 n2 c2]) ∧ TwoO w' w.heap.size w'.heap.size h b A n c A2 n2 c2 ∧ Below w.heap.size w w'
set_option maxRecDepth 100000 in
set_option maxHeartbeats 3200000 in
theorem toPacket_c (e t : Int) (A : Option Addr) (n c : Nat) (A2 : Option Addr) (n2 c2 : Nat) (lo hi : Nat) (h b : List Int) (w : World) (hs : TwoR w lo hi h b A n c A2 n2 c2) (hn : n ≤ 4194304) (hn2 : n2 ≤ 4194304) :
    Calls Try.prog 122 #[.agg #[.int .i64 e, .slice A n c, .int .i64 t, .slice A2 n2 c2]] w (NewPk e t h b w) := by
  have hhi := hs.hi_le
  have hs0 := ((hs.alloc (.cells #[.int .i64 e, .slice A n c, .int .i64 t, .slice A2 n2 c2] 102)).alloc (.cells #[.int .i64 0, .slice none 0 0, .int .i64 0, .slice none 0 0] 42)).alloc (.cells #[.int .i64 e, .slice none 0 0, .int .i64 0, .slice none 0 0] 42)
  have bx : BoxAt (((w.alloc (.cells #[.int .i64 e, .slice A n c, .int .i64 t, .slice A2 n2 c2] 102)).alloc (.cells #[.int .i64 0, .slice none 0 0, .int .i64 0, .slice none 0 0] 42)).alloc (.cells #[.int .i64 e, .slice none 0 0, .int .i64 0, .slice none 0 0] 42)) w.heap.size #[.int .i64 e, .slice A n c, .int .i64 t, .slice A2 n2 c2] 102 := ((BoxAt.new w #[.int .i64 e, .slice A n c, .int .i64 t, .slice A2 n2 c2] 102).alloc _).alloc _
  have bz : BoxAt (((w.alloc (.cells #[.int .i64 e, .slice A n c, .int .i64 t, .slice A2 n2 c2] 102)).alloc (.cells #[.int .i64 0, .slice none 0 0, .int .i64 0, .slice none 0 0] 42)).alloc (.cells #[.int .i64 e, .slice none 0 0, .int .i64 0, .slice none 0 0] 42)) (w.heap.size + 1) #[.int .i64 0, .slice none 0 0, .int .i64 0, .slice none 0 0] 42 := by
    have := (BoxAt.new (w.alloc (.cells #[.int .i64 e, .slice A n c, .int .i64 t, .slice A2 n2 c2] 102)) #[.int .i64 0, .slice none 0 0, .int .i64 0, .slice none 0 0] 42).alloc (.cells #[.int .i64 e, .slice none 0 0, .int .i64 0, .slice none 0 0] 42)
    simpa using this
  have bo : BoxAt (((w.alloc (.cells #[.int .i64 e, .slice A n c, .int .i64 t, .slice A2 n2 c2] 102)).alloc (.cells #[.int .i64 0, .slice none 0 0, .int .i64 0, .slice none 0 0] 42)).alloc (.cells #[.int .i64 e, .slice none 0 0, .int .i64 0, .slice none 0 0] 42)) (w.heap.size + 2) #[.int .i64 e, .slice none 0 0, .int .i64 0, .slice none 0 0] 42 := by
    have := BoxAt.new ((w.alloc (.cells #[.int .i64 e, .slice A n c, .int .i64 t, .slice A2 n2 c2] 102)).alloc (.cells #[.int .i64 0, .slice none 0 0, .int .i64 0, .slice none 0 0] 42)) #[.int .i64 e, .slice none 0 0, .int .i64 0, .slice none 0 0] 42
    simpa using this
  have hbw : Below w.heap.size w (((w.alloc (.cells #[.int .i64 e, .slice A n c, .int .i64 t, .slice A2 n2 c2] 102)).alloc (.cells #[.int .i64 0, .slice none 0 0, .int .i64 0, .slice none 0 0] 42)).alloc (.cells #[.int .i64 e, .slice none 0 0, .int .i64 0, .slice none 0 0] 42)) := (((Below.refl w.heap.size w).alloc (Nat.le_refl _) _).alloc (by simp) _).alloc (by simp; omega) _
  have hsz0 : w.heap.size + 3 ≤ (((w.alloc (.cells #[.int .i64 e, .slice A n c, .int .i64 t, .slice A2 n2 c2] 102)).alloc (.cells #[.int .i64 0, .slice none 0 0, .int .i64 0, .slice none 0 0] 42)).alloc (.cells #[.int .i64 e, .slice none 0 0, .int .i64 0, .slice none 0 0] 42)).heap.size := by simp
  have hs1 := hs0.1
  have hs2 := hs0.2.1
  clear hs0 hs
  go_enter Try.func122, Try.ntmps122
  go_wp2_with fail
  refine (toIntS_c _ _ _ _ _ _ _ hs1 hn).mono ?_
  rintro e' w2 ⟨A3, n3, c3, rfl, o3, hb2⟩
  have hsz2 := hb2.size
  have hs3 := ((hs2.below hb2 hs2.hi_le).setCell (p := ⟨w.heap.size + 2, 1, none⟩) (.inr (by simp only []; omega)) (.slice A3 n3 c3)).setCell (p := ⟨w.heap.size + 2, 2, none⟩) (.inr (by simp only []; omega)) (.int .i64 t)
  have o3' := (o3.setCell (p := ⟨w.heap.size + 2, 1, none⟩) (.inl (by simp only []; omega)) (.slice A3 n3 c3)).setCell (p := ⟨w.heap.size + 2, 2, none⟩) (.inl (by simp only []; omega)) (.int .i64 t)
  have bx2 := bx.below hb2 (by omega)
  have bz2 := bz.below hb2 (by omega)
  have bo2 := bo.below hb2 (by omega)
  have bx3 := (bx2.other (p := ⟨w.heap.size + 2, 1, none⟩) (by simp only []; omega) (.slice A3 n3 c3)).other (p := ⟨w.heap.size + 2, 2, none⟩) (by simp only []; omega) (.int .i64 t)
  have bz3 := (bz2.other (p := ⟨w.heap.size + 2, 1, none⟩) (by simp only []; omega) (.slice A3 n3 c3)).other (p := ⟨w.heap.size + 2, 2, none⟩) (by simp only []; omega) (.int .i64 t)
  have bo3 := (bo2.set 1 (.slice A3 n3 c3)).set 2 (.int .i64 t)
  have hbw2 : Below w.heap.size w w2 := hbw.trans (hb2.mono hbw.size)
  have hbw3 := (hbw2.setCell (p := ⟨w.heap.size + 2, 1, none⟩) (by simp only []; omega) (.slice A3 n3 c3)).setCell (p := ⟨w.heap.size + 2, 2, none⟩) (by simp only []; omega) (.int .i64 t)
  have hsz3 : w2.heap.size ≤ ((w2.setCell ⟨w.heap.size + 2, 1, none⟩ (.slice A3 n3 c3)).setCell ⟨w.heap.size + 2, 2, none⟩ (.int .i64 t)).heap.size := by simp [World.setCell]
  obtain ⟨qx0, qx1, qx2, qx3⟩ := bx2.four
  obtain ⟨qo0, qo1, qo2, qo3⟩ := bo2.four
  have qf := bo2.frozen
  have O3 := Lib.hid o3'
  clear bx bz bo hbw hs1 hs2 hb2 o3 bx2 bz2 bo2 hbw2 o3'
  go_wp2_with fail
  refine (toIntS_c _ _ _ _ _ _ _ hs3 hn2).mono ?_
  rintro e' w4 ⟨A4, n4, c4, rfl, o4, hb4⟩
  clear qx0 qx1 qx2 qx3 qo0 qo1 qo2 qo3 qf
  have hsz4 := hb4.size
  have bz4 := bz3.below hb4 (by omega)
  have bo4 := bo3.below hb4 (by omega)
  have o3w := O3.out.below hb4 O3.out.hi_le
  have hbw4 := hbw3.trans (hb4.mono (by omega))
  have o3w' := o3w.setCell (p := ⟨w.heap.size + 2, 3, none⟩) (.inl (by simp only []; omega)) (.slice A4 n4 c4)
  have o4w' := o4.setCell (p := ⟨w.heap.size + 2, 3, none⟩) (.inl (by simp only []; omega)) (.slice A4 n4 c4)
  have hbw5 := hbw4.setCell (p := ⟨w.heap.size + 2, 3, none⟩) (by simp only []; omega) (.slice A4 n4 c4)
  have hfin : NewPk e t h b w (.returned (.agg #[.int .i64 e, .slice A3 n3 c3, .int .i64 t, .slice A4 n4 c4])) (((((w4.setCell ⟨w.heap.size + 2, 3, none⟩ (.slice A4 n4 c4)).setCell ⟨w.heap.size + 1, 0, none⟩ (.int .i64 e)).setCell ⟨w.heap.size + 1, 1, none⟩ (.slice A3 n3 c3)).setCell ⟨w.heap.size + 1, 2, none⟩ (.int .i64 t)).setCell ⟨w.heap.size + 1, 3, none⟩ (.slice A4 n4 c4)) := by
    refine ⟨A3, n3, c3, A4, n4, c4, rfl, set4_two o3w' o4w' (.inl hsz3) (by omega) (by omega) (by omega) (by omega) _ _ _ _, ?_⟩
    have hl : w.heap.size ≤ w.heap.size + 1 := by omega
    exact (((hbw5.setCell hl _).setCell hl _).setCell hl _).setCell hl _
  have HFIN := Lib.hid hfin
  have qo := bo4.four
  obtain ⟨qo0, qo1, qo2, qo3⟩ := qo
  have qf := bo4.frozen
  obtain ⟨qz0, qz1, qz2, qz3⟩ := bz4.four
  have qg := bz4.frozen
  clear hfin bz3 bo3 bx3 bz4 bo4 o3w hbw4 o3w' o4w' hbw5 hb4 hs3 o4 hbw3
  go_wp2_with fail
  refine bodyPost_ret (v := .agg #[.int .i64 e, .slice A3 n3 c3, .int .i64 t, .slice A4 n4 c4]) (by simp [results, Try.results122, go_sem, qz0, qz1, qz2, qz3]) rfl ?_
  exact HFIN.out
end Go.Proofs.Ytbkecimhbibnjaa
