/-
  The walks of the last statements on streams and tags.
  Conditions: the arguments read as lists of bytes.
-/
import Derived.Test.YtiiofcldblgmcaaLawsF
import Derived.Test.YtiiofcldblgmcaaLawsG
import Derived.Deep.RegionHeld3
namespace Go.Proofs.Ytiiofcldblgmcaa
open Go Go.RowKit

theorem wpList_append_new2 {P : Program} (w : World) (G : Nat) (hG : w.heap.size = G) {ops : Array Oper} {rest : List Oper} {o : Oper} {a : Act} {Q : Exit → Act → World → Prop} (hgd : o.guard = none) (s x : Operand) (t : TypeId)
    (ho : o.op = .call { callee := .builtin .append, args := #[s, x], argTypes := #[t, t] })
    (e : TypeId) (i : TypeInfo) (ht : P.underlying t = some (.slice e)) (hi : P.info? e = some i) (hz : i.zero = some (.int .i64 0)) (hsize : i.size = 1) (hby : i.bytes = 8)
    (hs : a.eval s = .slice (some ⟨G, 0, none⟩) 0 0)
    (lo hi' m c : Nat) (A : Option Addr) (ys : List Int) (hx : a.eval x = .slice A m c) (hr : SlR .i64 w lo hi' A m ys) (hn : m ≤ 1000000)
    (h : ∀ A' c' w', OwnR e w' w.heap.size w'.heap.size A' m c' ys → Below w.heap.size w w' → wpList P ops Q rest (a.put o.dst (.slice A' m c')) w') : wpList P ops Q (o :: rest) a (w.alloc (.cells #[] e)) := by
  subst hG
  exact wpList_append_new w hgd s x t ho e i ht hi hz hsize hby hs lo hi' m c A ys hx hr hn h
theorem wpList_append_one {P : Program} (w : World) {ops : Array Oper} {rest : List Oper} {o : Oper} {a : Act} {Q : Exit → Act → World → Prop} (hgd : o.guard = none) (s x : Operand) (t : TypeId)
    (ho : o.op = .call { callee := .builtin .append, args := #[s, x], argTypes := #[t, t] })
    (e : TypeId) (i : TypeInfo) (ht : P.underlying t = some (.slice e)) (hi : P.info? e = some i) (hz : i.zero = some (.int .i64 0)) (hsize : i.size = 1) (hby : i.bytes = 8)
    (lo hi' n c : Nat) (A : Option Addr) (ys : List Int) (v : Int) (hs : a.eval s = .slice A n c) (hx : a.eval x = .slice (some ⟨w.heap.size, 0, none⟩) 1 1) (hr : OwnR e w lo hi' A n c ys) (hn : n ≤ 1000000) (hlo : lo ≤ w.heap.size)
    (h : ∀ A' c' w', OwnR e w' lo w'.heap.size A' (n + 1) c' (ys ++ [v]) → (w.alloc (.cells #[.int .i64 v] e)).grownBy w' (Value.ownBlock (.slice A n c)) → wpList P ops Q rest (a.put o.dst (.slice A' (n + 1) c')) w') : wpList P ops Q (o :: rest) a (w.alloc (.cells #[.int .i64 v] e)) := by
  refine wpList_append_own _ hgd s x t ho lo e i (.int .i64 0) 1 8 ht hi hz hsize hby rfl (by omega) _ n _ hs (hr.1.alloc _) ⟨w.heap.size, 0, none⟩ 1 1 [.int .i64 v] hx rfl one_new one_cell (by unfold maxLen; omega) (by omega) (by simp; omega) fun v' w' hown hg _ => ?_
  obtain ⟨A', c', rfl⟩ := owns_shape hown
  exact h A' c' w' (OwnR.of_owns (by simpa using hown)) hg

set_option maxRecDepth 100000 in
set_option maxHeartbeats 1600000 in
theorem wFnStreamOther (A : Option Addr) (n c : Nat) (xs : List Int) (A2 : Option Addr) (n2 c2 : Nat) (xs2 : List Int) (w : World) (hs : SlR .u8 w 0 w.heap.size A n xs) (hl : n ≤ c) (hc : c ≤ 9223372036854775807) (hb : ∀ x ∈ xs, 0 ≤ x ∧ x ≤ 255) (_hs2 : SlR .u8 w 0 w.heap.size A2 n2 xs2) (_hl2 : n2 ≤ c2) (_hc2 : c2 ≤ 9223372036854775807) (_hb2 : ∀ x ∈ xs2, 0 ≤ x ∧ x ≤ 255) : Calls Try.prog 10 #[.slice A n c, .slice A2 n2 c2] w fun e w' => e = .returned (.bool true) ∧ Below w.heap.size w w' := by
  by_cases hbig : 1048576 < n
  · go_enter Try.func10, Try.ntmps10
    go_wp2
    go_ret
    exact ⟨rfl, Below.refl _ _⟩
  by_cases hbig2 : 1048576 < n2
  · go_enter Try.func10, Try.ntmps10
    go_wp2
    go_ret
    exact ⟨rfl, Below.refl _ _⟩
  go_enter Try.func10, Try.ntmps10
  go_wp2_with fail
  refine (drawStreamOf_c A n c xs w hs hb hl hc).mono ?_
  rintro e w_1 ⟨key, m, rfl, h_1⟩
  have z_1 := h_1.size
  have hB := h_1
  go_wp2_with fail
  refine (streamOf_c _ _ _).mono ?_
  rintro e w_2 ⟨A_out, n_out, c_out, rfl, o_out, h_2⟩
  have z_2 := h_2.size
  replace hB := hB.trans (h_2.mono hB.size)
  have b_out : n_out ≤ 4194304 := by have := o_out.len; have := strP_len key m; omega
  go_wp2_with fail
  refine (sStreamOf_c _ _ _).mono ?_
  rintro e w_3 ⟨A_want, n_want, c_want, rfl, o_want, h_3⟩
  have z_3 := h_3.size
  replace o_out := o_out.below h_3 o_out.2.1
  replace hB := hB.trans (h_3.mono hB.size)
  have b_want : n_want ≤ 4194304 := by have := o_want.len; have := strP_len key m; omega
  go_wp2_with fail
  refine (sameInts_t _ _ _ _ _ _ _ _ _ _ _ _ o_out.read o_want.read (by omega)).mono ?_
  rintro e w_4 ⟨rfl, h_4⟩
  have z_4 := h_4.size
  replace o_out := o_out.below h_4 o_out.2.1
  replace o_want := o_want.below h_4 o_want.2.1
  replace hB := hB.trans (h_4.mono hB.size)
  by_cases h2 : n_out < 2
  · go_wp2_with fail
    refine (sameInts_t _ _ _ _ _ _ _ _ _ _ _ _ o_out.read o_want.read (by omega)).mono ?_
    rintro e w_5 ⟨rfl, h_5⟩
    have z_5 := h_5.size
    replace o_out := o_out.below h_5 o_out.2.1
    replace o_want := o_want.below h_5 o_want.2.1
    replace hB := hB.trans (h_5.mono hB.size)
    go_wp2_with fail
    go_ret
    exact ⟨rfl, hB⟩
  obtain ⟨hk, h0', h24⟩ := strP_pos (k := key) (m := m) (by have := o_out.len; omega)
  obtain ⟨N, rfl⟩ := Int.eq_ofNat_of_zero_le h0'
  have hN : N ≤ 24 := by omega
  have e1 : strP key (N : Int) = strL key N := if_pos ⟨hk, h0', h24⟩
  rw [e1] at o_out
  obtain ⟨hk1, hk2⟩ := elB_iff.1 hk
  have HK := Lib.hid hk
  have hNn : N = n_out := by have := o_out.len; rw [strL_len] at this; exact this
  subst hNn
  clear hk e1 h24 h0'
  go_wp2_with fail
  refine (element_c _ _ (by omega) (by omega)).mono ?_
  rintro e w' ⟨j, rfl, hel, rfl⟩
  have e2 : strP j (N : Int) = strL j N := if_pos ⟨hel, Int.natCast_nonneg _, by omega⟩
  obtain ⟨hj1, hj2⟩ := elB_iff.1 hel
  have HE2 := Lib.hid e2
  clear e2 hel
  go_wp2_with fail
  refine (streamOf_c _ _ _).mono ?_
  rintro e w_5 ⟨A_x, n_x, c_x, rfl, o_x, h_5⟩
  have z_5 := h_5.size
  replace o_out := o_out.below h_5 o_out.2.1
  replace o_want := o_want.below h_5 o_want.2.1
  replace hB := hB.trans (h_5.mono hB.size)
  have b_x : n_x ≤ 4194304 := by have := o_x.len; have := strP_len j N; omega
  rw [HE2.out] at o_x
  have hNx : N = n_x := by have := o_x.len; rw [strL_len] at this; exact this
  subst hNx
  have tm1 : j.tmod 991 = j % 991 := Int.tmod_eq_emod_of_nonneg (by omega)
  have tm2 : key.tmod 991 = key % 991 := Int.tmod_eq_emod_of_nonneg (by omega)
  obtain ⟨b, ob, hA1, _, _, hc1⟩ := o_out.read.at_ (by omega)
  obtain ⟨b', ob', hA2, _, _, hc2'⟩ := o_x.read.at_ (by omega)
  subst hA1
  subst hA2
  have ca0 := hc1 0 (by omega)
  have ca1 := hc1 1 (by omega)
  have cb0 := hc2' 0 (by omega)
  have cb1 := hc2' 1 (by omega)
  rw [strL_at _ (by omega), Nat.add_zero] at ca0 cb0
  rw [strL_at _ (by omega)] at ca1 cb1
  have hN0 : (0 : Int) < (N : Int) := by omega
  have hN1 : (1 : Int) < (N : Int) := by omega
  clear hc1 hc2'
  by_cases hkk : j % 991 = key % 991
  · have hb1 : (j % 991 == key % 991) = true := by simpa using hkk
    have HKK := Lib.hid hkk
    clear hkk
    go_wp2_with fail
    go_quiet (fail)
    go_wp2
    go_ret
    exact ⟨rfl, below_drewN hB _⟩
  · have hb1 : (j % 991 == key % 991) = false := by simpa using hkk
    have hne := strm_other hkk
    have hb2 : (strm j 0 != strm key 0) = true := by simpa using hne.1
    have hb3 : (strm j 1 != strm key 1) = true := by simpa using hne.2
    have HKK := Lib.hid hkk
    clear hkk hne
    go_wp2_with fail
    go_quiet (fail)
    go_wp2
    go_ret
    exact ⟨rfl, below_drewN hB _⟩
set_option maxRecDepth 100000 in
set_option maxHeartbeats 1600000 in
theorem wFnTagNext (A : Option Addr) (n c : Nat) (xs : List Int) (A2 : Option Addr) (n2 c2 : Nat) (xs2 : List Int) (w : World) (hs : SlR .u8 w 0 w.heap.size A n xs) (hl : n ≤ c) (hc : c ≤ 9223372036854775807) (hb : ∀ x ∈ xs, 0 ≤ x ∧ x ≤ 255) (_hs2 : SlR .u8 w 0 w.heap.size A2 n2 xs2) (_hl2 : n2 ≤ c2) (_hc2 : c2 ≤ 9223372036854775807) (_hb2 : ∀ x ∈ xs2, 0 ≤ x ∧ x ≤ 255) : Calls Try.prog 14 #[.slice A n c, .slice A2 n2 c2] w fun e w' => e = .returned (.bool true) ∧ Below w.heap.size w w' := by
  by_cases hbig : 1048576 < n
  · go_enter Try.func14, Try.ntmps14
    go_wp2
    go_ret
    exact ⟨rfl, Below.refl _ _⟩
  by_cases hbig2 : 1048576 < n2
  · go_enter Try.func14, Try.ntmps14
    go_wp2
    go_ret
    exact ⟨rfl, Below.refl _ _⟩
  go_enter Try.func14, Try.ntmps14
  obtain ⟨i0, hi0, hz0, hz1, hz2⟩ := info_parts Try.infoInt
  go_wp2_with fail
  refine (drawTagOf_c A n c xs w hs hb hl hc).mono ?_
  rintro e w_1 ⟨A_l, n_l, c_l, xs_l, key, rfl, o_l, b_l, h_1⟩
  have z_1 := h_1.size
  have hB := h_1
  go_wp2_with fail
  refine (tagOf_c _ _ _ _ _ _ _ _ o_l.read).mono ?_
  rintro e w' ⟨rfl, rfl⟩
  go_wp2_with fail
  refine (sTagOf_c _ _ _ _ _ _ _ _ o_l.read (by omega)).mono ?_
  rintro e w' ⟨rfl, rfl⟩
  have htb := tagP_bd key xs_l
  obtain ⟨htb1, htb2⟩ := htb
  by_cases hneg : tagP key xs_l < 0
  · go_wp2_with fail
    go_ret
    exact ⟨rfl, hB⟩
  have hgood := tagP_good (xs := xs_l) (k := key) (by omega)
  have HX := Lib.hid hgood.1
  have HL := Lib.hid hgood.2
  clear hgood
  have hlen := o_l.len
  have HLEN := Lib.hid hlen
  clear hlen
  by_cases h0 : n_l = 0
  · have hb0 : ((n_l : Int) == 0) = true := by simp [h0]
    have H0 := Lib.hid h0
    clear h0
    go_wp2_with fail
    go_ret
    exact ⟨rfl, hB⟩
  have hb0 : ((n_l : Int) == 0) = false := by simp; omega
  have hidx : 0 < n_l := by omega
  clear h0
  by_cases h0 : n_l = 24
  · have hb24 : ((n_l : Int) == 24) = true := by simp [h0]
    have H0 := Lib.hid h0
    clear h0
    go_wp2_with fail
    go_ret
    exact ⟨rfl, hB⟩
  have hb24 : ((n_l : Int) == 24) = false := by simp; omega
  clear h0
  have hl24 := (listB_iff.1 HL.out).1
  have hl23 : n_l < 24 := by have := HLEN.out; have g1 : ((n_l : Int) == 24) = false := hb24; simp at g1; omega
  have hrange := fun (i : Nat) (hi : i < n_l) => listB_at HL.out (i := i) (by rw [HLEN.out]; exact hi)
  go_wp2_with (at_builtin; go_must (refine wpList_append_new w_1 rfl _ _ 22 rfl 3 i0 Try.underlying22 hi0 hz0 hz1 hz2 rfl _ _ _ _ _ (xs_l) rfl o_l.read (by omega) ?_))
  intro A_x c_x w_2 o_x h_2
  have z_2 := h_2.size
  replace o_l := o_l.below h_2 o_l.2.1
  replace hB := hB.trans (h_2.mono hB.size)
  obtain ⟨g_x, rfl, hg1_x, hg2_x, hcc_x, hff_x⟩ := o_x.at_ (by omega)
  have cell_x := hcc_x (0) hidx
  have fro_x := hff_x (0)
  obtain ⟨old_x, hold_x⟩ : ∃ v, v = (xs_l).getD (0) 0 := ⟨_, rfl⟩
  rw [← hold_x] at cell_x
  have hrg_x := hrange (0) hidx
  rw [← hold_x] at hrg_x
  have Hold_x := Lib.hid hold_x
  clear hcc_x hff_x hold_x
  go_wp2_with fail
  refine (another_c _ _ _ hrg_x (by omega) (by omega)).mono ?_
  rintro e w' ⟨y, rfl, hy0_y, hy1_y, hyn_y, rfl⟩
  have st_x := (o_x.stored (0) y).1
  replace o_l := o_l.setCell (p := ⟨g_x, 0, none⟩) (by simp only []; omega) (.int .i64 y)
  have hBn := hB.setCell (p := ⟨g_x, 0, none⟩) (by simp only []; omega) (.int .i64 y)
  replace hB := hBn
  clear hBn
  clear o_x
  have o_x := st_x
  clear st_x
  obtain ⟨z, hz⟩ : ∃ z, z = n2 % 991 := ⟨_, rfl⟩
  have hz1' : z < 991 := by omega
  have hlb : listB (xs_l ++ [(z : Int)]) = true := by
    rw [listB_iff]
    refine ⟨by simp; have := HLEN.out; omega, fun u hu => ?_⟩
    rcases List.mem_append.1 hu with h | h
    · exact (listB_iff.1 HL.out).2 u h
    · simp at h; omega
  have e3 : xs_l.set 0 y ++ [(z : Int)] = (xs_l ++ [(z : Int)]).set 0 y := by rw [List.set_append_left _ _ (by rw [HLEN.out]; exact hidx)]
  have e4 : (xs_l ++ [(z : Int)]).getD 0 0 = xs_l.getD 0 0 := by rw [List.getD_eq_getElem?_getD, List.getElem?_append_left (show 0 < xs_l.length by rw [HLEN.out]; exact hidx), ← List.getD_eq_getElem?_getD]
  have n1 := tagP_set HX.out HL.out (j := 0) (by rw [HLEN.out]; exact hidx) ⟨hy0_y, hy1_y⟩ (by rw [← Hold_x.out]; exact hyn_y)
  have n3 := tagP_set HX.out hlb (j := 0) (by simp) ⟨hy0_y, hy1_y⟩ (by rw [e4, ← Hold_x.out]; exact hyn_y)
  rw [← e3] at n3
  have hzc : ((n2 : Int) % 991) = (z : Int) := by omega
  have t1 : (tagP key (xs_l.set 0 y) == tagP key xs_l) = false := by simpa using n1
  have t2 : (tagP key (xs_l ++ [(z : Int)]) == tagP key (xs_l.set 0 y ++ [(z : Int)])) = false := by simpa using fun e => n3 e.symm
  have T1 := Lib.hid t1
  have T2 := Lib.hid t2
  have HN := Lib.hid hyn_y
  have HZ := Lib.hid hz
  clear n1 n3 t1 t2 hyn_y e3 e4 hlb hrange hz hl24
  have hzw := hzc
  have zs : (w_2.setCell ⟨g_x, 0, none⟩ (.int .i64 y)).heap.size = w_2.heap.size := by simp
  go_wp2_with (at_builtin; go_must (refine wpList_append_new2 (w_2.setCell ⟨g_x, 0, none⟩ (.int .i64 y)) _ zs rfl _ _ 22 rfl 3 i0 Try.underlying22 hi0 hz0 hz1 hz2 rfl _ _ _ _ _ (xs_l) rfl o_l.read (by omega) ?_))
  intro A_p c_p w_3 o_p h_3
  have z_3 := h_3.size
  replace o_l := o_l.below h_3 (by have := o_l.2.1; omega)
  replace o_x := o_x.below h_3 (by have := o_x.2.1; omega)
  replace hB := hB.trans (h_3.mono (by have := hB.size; omega))
  go_wp2_with (at_builtin; go_must (refine wpList_append_one w_3 rfl _ _ 22 rfl 3 i0 Try.underlying22 hi0 hz0 hz1 hz2 _ _ _ _ _ _ ((z : Int)) rfl rfl o_p (by omega) (by omega) ?_))
  intro A_p' c_p' w_4 o_p' h_4
  have z_4 : w_3.heap.size ≤ w_4.heap.size := Nat.le_trans (by simp) h_4.size
  have r_4 := fun g (hg : Value.ownBlock (.slice A_p n_l c_p) = some g) => o_p.block hg
  replace o_l := (o_l.alloc (.cells #[.int .i64 ((z : Int))] 3)).grown h_4 (fun g hg => by have := r_4 g hg; omega)
  replace o_x := (o_x.alloc (.cells #[.int .i64 ((z : Int))] 3)).grown h_4 (fun g hg => by have := r_4 g hg; omega)
  have hBn := (hB.alloc hB.size (.cells #[.int .i64 ((z : Int))] 3)).grown h_4 (by simp; have := hB.size; omega) (fun g hg => by have := r_4 g hg; have := hB.size; omega)
  replace hB := hBn
  clear hBn o_p r_4
  go_wp2_with fail
  refine (tagOf_c _ _ _ _ _ _ _ _ o_p'.read).mono ?_
  rintro e w' ⟨rfl, rfl⟩
  go_wp2_with (at_builtin; go_must (refine wpList_append_new w_4 rfl _ _ 22 rfl 3 i0 Try.underlying22 hi0 hz0 hz1 hz2 rfl _ _ _ _ _ ((xs_l.set 0 y)) rfl o_x.read (by omega) ?_))
  intro A_q c_q w_5 o_q h_5
  have z_5 := h_5.size
  replace o_l := o_l.below h_5 o_l.2.1
  replace o_x := o_x.below h_5 o_x.2.1
  replace o_p' := o_p'.below h_5 o_p'.2.1
  replace hB := hB.trans (h_5.mono hB.size)
  go_wp2_with (at_builtin; go_must (refine wpList_append_one w_5 rfl _ _ 22 rfl 3 i0 Try.underlying22 hi0 hz0 hz1 hz2 _ _ _ _ _ _ ((z : Int)) rfl rfl o_q (by omega) (by omega) ?_))
  intro A_q' c_q' w_6 o_q' h_6
  have z_6 : w_5.heap.size ≤ w_6.heap.size := Nat.le_trans (by simp) h_6.size
  have r_6 := fun g (hg : Value.ownBlock (.slice A_q n_l c_q) = some g) => o_q.block hg
  replace o_l := (o_l.alloc (.cells #[.int .i64 ((z : Int))] 3)).grown h_6 (fun g hg => by have := r_6 g hg; omega)
  replace o_x := (o_x.alloc (.cells #[.int .i64 ((z : Int))] 3)).grown h_6 (fun g hg => by have := r_6 g hg; omega)
  replace o_p' := (o_p'.alloc (.cells #[.int .i64 ((z : Int))] 3)).grown h_6 (fun g hg => by have := r_6 g hg; omega)
  have hBn := (hB.alloc hB.size (.cells #[.int .i64 ((z : Int))] 3)).grown h_6 (by simp; have := hB.size; omega) (fun g hg => by have := r_6 g hg; have := hB.size; omega)
  replace hB := hBn
  clear hBn o_q r_6
  go_wp2_with fail
  refine (tagOf_c _ _ _ _ _ _ _ _ o_q'.read).mono ?_
  rintro e w' ⟨rfl, rfl⟩
  go_wp2_with fail
  refine (tagOf_c _ _ _ _ _ _ _ _ o_x.read).mono ?_
  rintro e w' ⟨rfl, rfl⟩
  have t1 := T1.out
  have t2 := T2.out
  go_wp2_with fail
  go_ret
  exact ⟨ret_b (by first | rfl | simp), hB⟩
end Go.Proofs.Ytiiofcldblgmcaa
