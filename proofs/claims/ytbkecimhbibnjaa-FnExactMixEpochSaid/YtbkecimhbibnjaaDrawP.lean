/-
  Drawn elements and paths.
  Conditions: the reader is good.
-/
import Derived.Test.YtbkecimhbibnjaaDrawB
import Derived.Test.YtbkecimhbibnjaaPath
namespace Go.Proofs.Ytbkecimhbibnjaa
open Go Go.RowKit

/-- A drawn element. -/
def GoodPost (g m : Nat) (w : World) (e : Ending) (w' : World) : Prop := ∃ x : Int, e = .returned (.int .i64 x) ∧ elB x = true ∧ RdOk w' g m ∧ w.grownBy w' (some g)
theorem l91Good_c (g m : Nat) (w : World) (h : RdOk w g m) (hm : m ≤ 900000) : Calls Try.prog 62 #[.pointer (some ⟨g, 0, none⟩)] w (GoodPost g (m + 2) w) := by
  go_enter Try.func62, Try.ntmps62
  go_wp2_with fail
  refine (pick_c g m _ _ h (by omega)).mono ?_
  rintro e w2 ⟨y, rfl, hy0, hy1, hr2, hg2⟩
  go_wp2_with fail
  refine (pick_c g (m + 1) _ _ hr2 (by omega)).mono ?_
  rintro e w3 ⟨z, rfl, hz0, hz1, hr3, hg3⟩
  have hy2 := hy1 (by omega)
  have hz2 := hz1 (by omega)
  have hel : elB (1 + 10 * y + z) = true := elB_iff.2 ⟨by omega, by omega⟩
  have HE := Lib.hid hel
  clear hel hy1 hz1
  go_wp2
  go_ret
  exact ⟨_, rfl, HE.out, hr3, only_trans hg2 hg3⟩
theorem one_read (w : World) (x : Int) : SlR .i64 (w.alloc (.cells #[.int .i64 x] 3)) w.heap.size (w.heap.size + 1) (some ⟨w.heap.size, 0, none⟩) 1 [x] := by
  refine ⟨rfl, by simp, fun _ => ⟨w.heap.size, 0, rfl, Nat.le_refl _, Nat.lt_succ_self _, fun j hj => ?_⟩⟩
  have : j = 0 := by omega
  subst this
  simp [World.cell?_alloc_at _ _ _ _ rfl]
/-- The two lists drawn so far. -/
def PathTo (g m N : Nat) (w : World) (v1 v2 i : Value) (wr : World) : Prop :=
  ∃ (k : Nat) (ps ns : List Int), k ≤ N ∧ i = .int .i64 (k : Int) ∧ wr.ownsRow w.heap.size 3 1 v1 k (ints ps) ∧ wr.ownsRow w.heap.size 3 1 v2 k (ints ns) ∧ (∀ b, v1.ownBlock = some b → v2.ownBlock ≠ some b) ∧ RdOk wr g (m + 3 * k) ∧ w.grownBy wr (some g)
theorem append_apart {w w1 : World} {x : Int} {T : TypeId} {B n n2 : Nat} {v1 v1' v2 : Value} {xs ys : List Value} (_h1 : w.ownsRow B T 1 v1 n xs) (h2 : w.ownsRow B T 1 v2 n2 ys) (hg : (w.alloc (.cells #[.int .i64 x] T)).grownBy w1 v1.ownBlock)
    (hat : v1'.ownBlock = v1.ownBlock ∨ v1'.ownBlock = some (w.alloc (.cells #[.int .i64 x] T)).heap.size) (hap : ∀ b, v1.ownBlock = some b → v2.ownBlock ≠ some b) :
    w1.ownsRow B T 1 v2 n2 ys ∧ ∀ b, v1'.ownBlock = some b → v2.ownBlock ≠ some b := by
  refine ⟨(h2.alloc _).kept hg ?_, fun b hb he => ?_⟩
  · cases hv : v2.ownBlock with
    | none => exact .inl rfl
    | some c => exact .inr fun e => hap c e.symm hv
  · have hlt := (h2.lt b he).2
    rcases hat with e | e
    · exact hap b (by rw [← e]; exact hb) he
    · rw [e] at hb; injection hb with hb; simp at hb; omega
theorem grown_append' {w wa w1 : World} {g : Nat} {v : Value} {o : Obj} {T : TypeId} {n : Nat} {xs : List Value} (h : w.grownBy wa (some g)) (hg : (wa.alloc o).grownBy w1 v.ownBlock) (hown : wa.ownsRow w.heap.size T 1 v n xs) : w.grownBy w1 (some g) := grown_append h hg hown
theorem OwnR.cut0 {T : TypeId} {w : World} {lo hi n c : Nat} {A : Option Addr} {xs : List Int} (h : OwnR T w lo hi A n c xs) : OwnR T w lo hi A 0 c [] := by
  refine ⟨⟨by simp, ?_⟩, h.2⟩
  rcases h.1.2 with ⟨e, _⟩ | ⟨g, cap, cur, e, hb, hg, hn, hm, hs, _⟩
  · injection e with e1 e2 e3
    subst e1 e3
    exact .inl ⟨rfl, rfl⟩
  · injection e with e1 e2 e3
    subst e1 e3
    exact .inr ⟨g, c, cur, rfl, hb, hg, Nat.zero_le _, hm, hs, by simp⟩
theorem OwnR.other {T : TypeId} {w w' : World} {lo hi n c : Nat} {A : Option Addr} {xs : List Int} {row : Option Nat} (h : OwnR T w lo hi A n c xs) (hg : w.grownBy w' row) (hne : ∀ b, row = some b → Value.ownBlock (.slice A n c) ≠ some b) : OwnR T w' lo hi A n c xs := by
  refine ⟨h.1.kept hg ?_, Nat.le_trans h.2.1 hg.size, h.2.2⟩
  cases hv : Value.ownBlock (.slice A n c) with
  | none => exact .inl rfl
  | some b => exact .inr fun e => hne b e.symm hv

/-- What a drawn path leaves: two new lists; the reader further on. -/
def PathPost (g m : Nat) (w : World) (e : Ending) (w' : World) : Prop :=
  ∃ A n c ps A2 n2 c2 ns, e = .returned (.tuple #[.slice A n c, .slice A2 n2 c2]) ∧ OwnR 3 w' w.heap.size w'.heap.size A n c ps ∧ OwnR 3 w' w.heap.size w'.heap.size A2 n2 c2 ns ∧ n ≤ 4 ∧ n2 ≤ 3 ∧ RdOk w' g m ∧ w.grownBy w' (some g)
set_option maxRecDepth 100000 in
set_option maxHeartbeats 6400000 in
theorem l91Path_c (g m : Nat) (w : World) (h : RdOk w g m) (hm : m ≤ 500000) : Calls Try.prog 79 #[.pointer (some ⟨g, 0, none⟩)] w (PathPost g (m + 20) w) := by
  obtain ⟨i0, hi0, hz0, hz1, hz2⟩ := info_parts Try.infoInt
  have hglt := h.lt
  have own0 := World.ownsRow_made (base := w.heap.size) (e := 3) (size := 1) w #[] 0 (Nat.le_refl _) (by unfold maxLen; omega) rfl
  have own0' := own0.alloc (.cells #[] 3)
  have own1' : ((w.alloc (.cells #[] 3)).alloc (.cells #[] 3)).ownsRow w.heap.size 3 1 (.slice (some ⟨w.heap.size + 1, 0, none⟩) 0 0) 0 [] := by
    have := World.ownsRow_made (base := w.heap.size) (e := 3) (size := 1) (w.alloc (.cells #[] 3)) #[] 0 (by simp) (by unfold maxLen; omega) rfl
    simpa using this
  have hr0 : RdOk ((w.alloc (.cells #[] 3)).alloc (.cells #[] 3)) g m := h.below (((Below.refl w.heap.size w).alloc (Nat.le_refl _) _).alloc (by simp) _) hglt
  have hg0 : w.grownBy ((w.alloc (.cells #[] 3)).alloc (.cells #[] 3)) (some g) := only_trans (World.grownBy_alloc _ _ _) (World.grownBy_alloc _ _ _)
  clear h own0
  go_enter Try.func79, Try.ntmps79
  go_wp2_with fail
  refine (pick_c g m _ _ hr0 (by omega)).mono ?_
  rintro e w1 ⟨y, rfl, hy0, hy1, hr1, hg1⟩
  have ownp := own0'.kept hg1 (.inr (fun e => by have := (own0'.lt g e).1; omega))
  have ownn := own1'.kept hg1 (.inr (fun e => by have := (own1'.lt g e).1; omega))
  replace hg1 := only_trans hg0 hg1
  obtain ⟨Y, rfl⟩ := Int.eq_ofNat_of_zero_le hy0
  have hY : Y < 3 := by have := hy1 (by omega); omega
  clear own0' own1' hr0 hg0 hy0 hy1
  go_wp2_with fail
  go_loopw [4, 5, 7] (fun v1 v2 i wr => PathTo g (m + 1) (1 + Y) w v1 v2 i wr) (fun _ _ i _ => (1 + Y) - (intOf i).toNat)
  case atStart => exact ⟨0, [], [], Nat.zero_le _, rfl, ownp, ownn, fun b hb => by simp [Value.ownBlock] at hb ⊢; omega, hr1, hg1⟩
  case round =>
    obtain ⟨k, ps, ns, hk, rfl, hp, hn, hap, hrd, hgr⟩ := hrel
    have hsz := hgr.size
    by_cases hlt : k < 1 + Y
    · go_wp2_with fail
      refine (l91Good_c g (m + 1 + 3 * k) _ hrd (by omega)).mono ?_
      rintro e w_5 ⟨x, rfl, hxe, hrd2, hgr2⟩
      have hp2 := hp.kept hgr2 (.inr (fun e => by have := (hp.lt g e).1; omega))
      have hn2 := hn.kept hgr2 (.inr (fun e => by have := (hn.lt g e).1; omega))
      have hgr3 := only_trans hgr hgr2
      have hsz2 := hgr3.size
      clear hp hn hrd hgr hgr2 hxe
      go_wp2_with (at_builtin; go_must (refine wpList_append_sl _ rfl _ _ 23 rfl w.heap.size 3 i0 Try.underlying23 hi0 hz0 hz1 hz2 _ k (ints ps) rfl (hp2.alloc _) _ _ 1 1 _ [x] rfl (one_read w_5 x) (by omega) (by simp; omega) ?_); intro v1' w_6 hp3 hg6 hat)
      obtain ⟨hn3, hap3⟩ := append_apart (v1' := v1') hp2 hn2 hg6 hat hap
      have hrd3 := hrd2.after_append hg6 hp2 hglt
      have hgr4 := grown_append hgr3 hg6 hp2
      have hsz3 := hgr4.size
      have hpi : ints ps ++ ints [x] = ints (ps ++ [x]) := by simp [ints]
      rw [hpi] at hp3
      clear hp2 hn2 hg6 hat hap hrd2 hgr3 hpi
      go_wp2_with fail
      refine (pick_c g (m + 1 + 3 * k + 2) _ _ hrd3 (by omega)).mono ?_
      rintro e w_7 ⟨z, rfl, _, _, hrd4, hgr5⟩
      have hp4 := hp3.kept hgr5 (.inr (fun e => by have := (hp3.lt g e).1; omega))
      have hn4 := hn3.kept hgr5 (.inr (fun e => by have := (hn3.lt g e).1; omega))
      have hgr6 := only_trans hgr4 hgr5
      have hsz4 := hgr6.size
      clear hp3 hn3 hrd3 hgr4 hgr5
      go_wp2_with (at_builtin; go_must (refine wpList_append_sl _ rfl _ _ 23 rfl w.heap.size 3 i0 Try.underlying23 hi0 hz0 hz1 hz2 _ k (ints ns) rfl (hn4.alloc _) _ _ 1 1 _ [z] rfl (one_read w_7 z) (by omega) (by simp; omega) ?_); intro v2' w_8 hn5 hg8 hat2)
      obtain ⟨hp5, hap5⟩ := append_apart (v1' := v2') hn4 hp4 hg8 hat2 (fun b hb he => hap3 b he hb)
      have hrd5 := hrd4.after_append hg8 hn4 hglt
      have hgr7 := grown_append hgr6 hg8 hn4
      have hni : ints ns ++ ints [z] = ints (ns ++ [z]) := by simp [ints]
      rw [hni] at hn5
      clear hp4 hn4 hg8 hat2 hap3 hrd4 hgr6 hni
      go_wp2
      go_roundw
      case rel => exact ⟨k + 1, _, _, by omega, by go_num, hp5, hn5, fun b hb he => hap5 b he hb, hrd5.mono (by omega), hgr7⟩
      case measure => simp [intOf]; omega
    · have hkn : k = 1 + Y := by omega
      obtain ⟨A1, c1, hv1⟩ := owns_shape hp
      obtain ⟨A2, c2, hv2⟩ := owns_shape hn
      rw [hv1] at hp hap
      rw [hv2] at hn hap
      rw [hv1, hv2]
      have op := OwnR.of_owns (xs := ps) hp
      have on := OwnR.of_owns (xs := ns) hn
      have HK := Lib.hid hkn
      have hk4 : k ≤ 3 := by omega
      have hk1 : 1 ≤ k := by omega
      have hlo := hglt
      clear hkn hp hn hv1 hv2
      go_wp2_with fail
      refine (pick_c g (m + 1 + 3 * k) _ _ hrd (by omega)).mono ?_
      rintro e w_9 ⟨x, rfl, x0, x1, hr9, hg9⟩
      have x2 := x1 (by omega)
      replace op := op.grown hg9 (fun b hb => by injection hb with hb; omega)
      replace on := on.grown hg9 (fun b hb => by injection hb with hb; omega)
      have hg10 := only_trans hgr hg9
      have hz9 := hg9.size
      clear hrd hgr hg9 x1
      by_cases e0 : x = 0
      · subst e0
        go_wp2_with fail
        refine (pick_c g (m + 1 + 3 * k + 1) _ _ hr9 (by omega)).mono ?_
        rintro e w_10 ⟨y, rfl, y0, y1, hr10, hg11⟩
        obtain ⟨J, rfl⟩ := Int.eq_ofNat_of_zero_le y0
        have y2 := y1 (by omega)
        have hJ : J < k := by have := HK.out; omega
        replace op := op.grown hg11 (fun b hb => by injection hb with hb; omega)
        replace on := on.grown hg11 (fun b hb => by injection hb with hb; omega)
        have hg12 := only_trans hg10 hg11
        have hz10 := hg11.size
        clear hg10 hg11 hr9 y1 y0 y2
        go_wp2_with fail
        refine (l91Is_c g (m + 1 + 3 * k + 1 + 1) _ hr10 (by omega)).mono ?_
        rintro e w_11 ⟨z, rfl, hr11, hg13⟩
        replace op := op.grown hg13 (fun b hb => by injection hb with hb; omega)
        replace on := on.grown hg13 (fun b hb => by injection hb with hb; omega)
        have hg14 := only_trans hg12 hg13
        have hz11 := hg13.size
        clear hg12 hg13 hr10
        obtain ⟨b, hA, hba, hbb, hcc, hff⟩ := op.at_ (by omega)
        have hcell := hcc J hJ
        have hfro := hff J
        subst hA
        have st := op.stored J z
        have on2 := on.other st.2 (fun b' hb' => hap b' (by rw [← hb']; rfl))
        have hr12 : RdOk (w_11.setCell ⟨b, J, none⟩ (.int .i64 z)) g (m + 20) := (hr11.grown st.2 (fun b' hb' => by injection hb' with hb'; omega)).mono (by omega)
        have hg15 : w.grownBy (w_11.setCell ⟨b, J, none⟩ (.int .i64 z)) (some g) := ⟨hg14.os, hg14.tape, hg14.output, by simpa [World.setCell] using hg14.size, fun i hi hne => (Below.heap_setCell _ _ _ i (by simp only []; omega)).trans (hg14.block i hi hne)⟩
        have F := Lib.hid (And.intro st.1 (And.intro on2 (And.intro hr12 hg15)))
        clear hcc hff st on2 hr12 hg15 op on hap
        go_wp2_with fail
        go_ret2
        obtain ⟨f1, f2, f3, f4⟩ := F.out
        exact ⟨_, _, _, _, _, _, _, _, rfl, f1.wider (Nat.le_refl _) f1.2.1 (Nat.le_refl _), f2.wider (Nat.le_refl _) f2.2.1 (Nat.le_refl _), by omega, by omega, f3, f4⟩
      have hb0 : (x == 0) = false := by simpa using e0
      by_cases e1 : x = 1
      · subst e1
        clear e0
        go_wp2_with fail
        refine (pick_c g (m + 1 + 3 * k + 1) _ _ hr9 (by omega)).mono ?_
        rintro e w_10 ⟨y, rfl, y0, y1, hr10, hg11⟩
        obtain ⟨J, rfl⟩ := Int.eq_ofNat_of_zero_le y0
        have y2 := y1 (by omega)
        have hJ : J < k := by have := HK.out; omega
        replace op := op.grown hg11 (fun b hb => by injection hb with hb; omega)
        replace on := on.grown hg11 (fun b hb => by injection hb with hb; omega)
        have hg12 := only_trans hg10 hg11
        have hz10 := hg11.size
        clear hg10 hg11 hr9 y1 y0 y2
        go_wp2_with fail
        refine (pick_c g (m + 1 + 3 * k + 1 + 1) _ _ hr10 (by omega)).mono ?_
        rintro e w_11 ⟨z, rfl, z0, z1, hr11, hg13⟩
        have z2 := z1 (by omega)
        replace op := op.grown hg13 (fun b hb => by injection hb with hb; omega)
        replace on := on.grown hg13 (fun b hb => by injection hb with hb; omega)
        have hg14 := only_trans hg12 hg13
        have hz11 := hg13.size
        clear hg12 hg13 hr10 z1
        obtain ⟨b, hA, hba, hbb, hcc, hff⟩ := on.at_ (by omega)
        have hcell := hcc J hJ
        have hfro := hff J
        subst hA
        have st := on.stored J (z * 9 - 1)
        have op2 := op.other st.2 (fun b' hb' he => hap b' he (by rw [← hb']; rfl))
        have hr12 : RdOk (w_11.setCell ⟨b, J, none⟩ (.int .i64 (z * 9 - 1))) g (m + 20) := (hr11.grown st.2 (fun b' hb' => by injection hb' with hb'; omega)).mono (by omega)
        have hg15 : w.grownBy (w_11.setCell ⟨b, J, none⟩ (.int .i64 (z * 9 - 1))) (some g) := ⟨hg14.os, hg14.tape, hg14.output, by simpa [World.setCell] using hg14.size, fun i hi hne => (Below.heap_setCell _ _ _ i (by simp only []; omega)).trans (hg14.block i hi hne)⟩
        have F := Lib.hid (And.intro op2 (And.intro st.1 (And.intro hr12 hg15)))
        clear hcc hff st op2 hr12 hg15 op on hap
        go_wp2_with fail
        go_ret2
        obtain ⟨f1, f2, f3, f4⟩ := F.out
        exact ⟨_, _, _, _, _, _, _, _, rfl, f1.wider (Nat.le_refl _) f1.2.1 (Nat.le_refl _), f2.wider (Nat.le_refl _) f2.2.1 (Nat.le_refl _), by omega, by omega, f3, f4⟩
      have hb1 : (x == 1) = false := by simpa using e1
      by_cases e2 : x = 2
      · subst e2
        clear e0 e1
        go_wp2_with (at_builtin; go_must (refine wpList_append_sl _ rfl _ _ 23 rfl w.heap.size 3 i0 Try.underlying23 hi0 hz0 hz1 hz2 _ k (ints ps) rfl (op.1.alloc _) _ _ 1 1 _ [3] rfl (one_read w_9 3) (by omega) (by simp; omega) ?_); intro v1' w_10 hp3 hg6 hat)
        obtain ⟨hn3, hap3⟩ := append_apart (v1' := v1') op.1 on.1 hg6 hat hap
        have hrd3 := hr9.after_append hg6 op.1 hglt
        have hgr4 := grown_append hg10 hg6 op.1
        have hpi : ints ps ++ ints [3] = ints (ps ++ [3]) := by simp [ints]
        rw [hpi] at hp3
        obtain ⟨A3, c3, hv3⟩ := owns_shape hp3
        rw [hv3] at hp3
        have o3 := OwnR.of_owns (xs := ps ++ [3]) hp3
        have o4 := OwnR.of_owns (xs := ns) hn3
        have HV := Lib.hid hv3
        clear hv3 hpi hp3 hn3 hap3 hat hg6 op on hap
        go_wp2_with fail
        go_ret2
        rw [HV.out]
        exact ⟨_, _, _, _, _, _, _, _, rfl, o3, o4, by omega, by omega, hrd3.mono (by omega), hgr4⟩
      have hb2 : (x == 2) = false := by simpa using e2
      by_cases e3 : x = 3
      · subst e3
        clear e0 e1 e2
        have o3 := op.cut0
        have o4 := on.cut0
        go_wp2_with fail
        go_ret2
        exact ⟨_, _, _, _, _, _, _, _, rfl, o3.wider (Nat.le_refl _) o3.2.1 (Nat.le_refl _), o4.wider (Nat.le_refl _) o4.2.1 (Nat.le_refl _), by omega, by omega, hr9.mono (by omega), hg10⟩
      · have hb3 : (x == 3) = false := by simpa using e3
        clear e0 e1 e2 e3
        go_wp2_with fail
        go_ret2
        exact ⟨_, _, _, _, _, _, _, _, rfl, op.wider (Nat.le_refl _) op.2.1 (Nat.le_refl _), on.wider (Nat.le_refl _) on.2.1 (Nat.le_refl _), by omega, by omega, hr9.mono (by omega), hg10⟩
end Go.Proofs.Ytbkecimhbibnjaa
