/-
  The walks of the statements on masks, tags and letters: each returns true and leaves what was there as it was.
  Conditions: the arguments read as lists of bytes.
-/
import Derived.Test.YtiiofcldblgmcaaDrawC
import Derived.Test.YtiiofcldblgmcaaExactC
import Derived.Test.YtiiofcldblgmcaaPureF
namespace Go.Proofs.Ytiiofcldblgmcaa
open Go Go.RowKit

theorem element_c (a : Int) (w : World) (h0 : 0 ≤ a) (h1 : a ≤ 4611686018427387904) : Calls Try.prog 43 #[.int .i64 a] w fun e w' => ∃ b : Int, e = .returned (.int .i64 b) ∧ elB b = true ∧ w = w' := by
  have hp := elemP_el a
  go_enter Try.func43, Try.ntmps43
  go_wp2
  go_ret
  exact ⟨_, rfl, hp, rfl⟩
def AnoPost (a : Int) (w : World) (e : Ending) (w' : World) : Prop := ∃ y : Int, e = .returned (.int .i64 y) ∧ 0 ≤ y ∧ y ≤ 990 ∧ y ≠ a ∧ w = w'
theorem another_c (a k : Int) (w : World) (ha : 0 ≤ a ∧ a ≤ 990) (h0 : 0 ≤ k) (h1 : k ≤ 4611686018427387904) : Calls Try.prog 47 #[.int .i64 a, .int .i64 k] w (AnoPost a w) := by
  have hp := anoP_ne (n := a) (k := k) ha h0
  obtain ⟨ha0, ha1⟩ := ha
  have HP := Lib.hid hp
  clear hp
  go_enter Try.func47, Try.ntmps47
  go_wp2
  go_ret
  exact ⟨anoP a k, rfl, HP.out.1, HP.out.2.1, HP.out.2.2, rfl⟩
theorem sameInts_t (A : Option Addr) (n c lo hi : Nat) (xs : List Int) (A2 : Option Addr) (n2 c2 lo2 hi2 : Nat) (w : World) (hs : SlR .i64 w lo hi A n xs) (ht : SlR .i64 w lo2 hi2 A2 n2 xs) (hn : n ≤ 4194304) :
    Calls Try.prog 42 #[.slice A n c, .slice A2 n2 c2] w (Tells true w) := by
  have h := sameInts_c A n c lo hi xs A2 n2 c2 lo2 hi2 xs w hs ht (by omega)
  rw [sameB_self] at h
  exact h
theorem wpList_append_new {P : Program} (w : World) {ops : Array Oper} {rest : List Oper} {o : Oper} {a : Act} {Q : Exit → Act → World → Prop} (hgd : o.guard = none) (s x : Operand) (t : TypeId)
    (ho : o.op = .call { callee := .builtin .append, args := #[s, x], argTypes := #[t, t] })
    (e : TypeId) (i : TypeInfo) (ht : P.underlying t = some (.slice e)) (hi : P.info? e = some i) (hz : i.zero = some (.int .i64 0)) (hsize : i.size = 1) (hby : i.bytes = 8)
    (hs : a.eval s = .slice (some ⟨w.heap.size, 0, none⟩) 0 0)
    (lo hi' m c : Nat) (A : Option Addr) (ys : List Int) (hx : a.eval x = .slice A m c) (hr : SlR .i64 w lo hi' A m ys) (hn : m ≤ 1000000)
    (h : ∀ A' c' w', OwnR e w' w.heap.size w'.heap.size A' m c' ys → Below w.heap.size w w' → wpList P ops Q rest (a.put o.dst (.slice A' m c')) w') : wpList P ops Q (o :: rest) a (w.alloc (.cells #[] e)) := by
  refine wpList_append_sl (w.alloc (.cells #[] e)) hgd s x t ho w.heap.size e i ht hi hz hsize hby _ 0 [] hs (World.ownsRow_made w #[] 0 (Nat.le_refl _) (by unfold maxLen; omega) rfl) lo hi' m c A ys hx (hr.alloc _) (by omega) (by simp) fun v' w' hown hg _ => ?_
  obtain ⟨A', c', rfl⟩ := owns_shape hown
  rw [Nat.zero_add] at hown ⊢
  exact h A' c' w' (OwnR.of_owns (by simpa [ints] using hown)) (((Below.refl _ _).alloc (Nat.le_refl _) _).grown hg (by simp) (fun k hk => by simp [Value.ownBlock] at hk; omega))
theorem onP_pos {xs : List Int} {k : Int} (h : 0 < (onP xs k).length) : listB xs = true ∧ elB k = true := by
  unfold onP at h
  split at h
  · assumption
  · simp at h
theorem offP_pos {xs : List Int} {k : Int} (h : 0 < (offP xs k).length) : listB xs = true ∧ elB k = true := by
  unfold offP at h
  split at h
  · assumption
  · simp at h
theorem onP_eq {xs : List Int} {k : Int} (hx : listB xs = true) (hk : elB k = true) : onP xs k = onL xs k := if_pos ⟨hx, hk⟩
theorem offP_eq {xs : List Int} {k : Int} (hx : listB xs = true) (hk : elB k = true) : offP xs k = offL xs k := if_pos ⟨hx, hk⟩

set_option maxRecDepth 100000 in
set_option maxHeartbeats 1600000 in
theorem wFnMask (A : Option Addr) (n c : Nat) (xs : List Int) (w : World) (hs : SlR .u8 w 0 w.heap.size A n xs) (hl : n ≤ c) (hc : c ≤ 9223372036854775807) (hb : ∀ x ∈ xs, 0 ≤ x ∧ x ≤ 255) : Calls Try.prog 19 #[.slice A n c] w fun e w' => e = .returned (.bool true) ∧ Below w.heap.size w w' := by
  by_cases hbig : 1048576 < n
  · go_enter Try.func19, Try.ntmps19
    go_wp2
    go_ret
    exact ⟨rfl, Below.refl _ _⟩
  go_enter Try.func19, Try.ntmps19
  go_wp2_with fail
  refine (drawMaskOn_c A n c xs w hs hb hl hc).mono ?_
  rintro e w_1 ⟨A_l, n_l, c_l, xs_l, key, rfl, o_l, b_l, h_1⟩
  have z_1 := h_1.size
  have hB := h_1
  go_wp2_with fail
  refine (maskOn_c _ _ _ _ _ _ _ _ o_l.read).mono ?_
  rintro e w_2 ⟨A_out, n_out, c_out, rfl, o_out, h_2⟩
  have z_2 := h_2.size
  replace o_l := o_l.below h_2 o_l.2.1
  replace hB := hB.trans (h_2.mono hB.size)
  have b_out : n_out ≤ 4194304 := by have := o_out.len; have := onP_len (xs_l) (key); omega
  go_wp2_with fail
  refine (sMaskOn_c _ _ _ _ _ _ _ _ o_l.read (by omega)).mono ?_
  rintro e w_3 ⟨A_want, n_want, c_want, rfl, o_want, h_3⟩
  have z_3 := h_3.size
  replace o_l := o_l.below h_3 o_l.2.1
  replace o_out := o_out.below h_3 o_out.2.1
  replace hB := hB.trans (h_3.mono hB.size)
  have b_want : n_want ≤ 4194304 := by have := o_want.len; have := onP_len xs_l key; omega
  go_wp2_with fail
  refine (sameInts_t _ _ _ _ _ _ _ _ _ _ _ _ o_out.read o_want.read (by omega)).mono ?_
  rintro e w_4 ⟨rfl, h_4⟩
  have z_4 := h_4.size
  replace o_l := o_l.below h_4 o_l.2.1
  replace o_out := o_out.below h_4 o_out.2.1
  replace o_want := o_want.below h_4 o_want.2.1
  replace hB := hB.trans (h_4.mono hB.size)
  by_cases h0 : n_out = 0
  · have hb0 : ((n_out : Int) == 0) = true := by simp [h0]
    have H0 := Lib.hid h0
    clear h0
    go_wp2_with fail
    refine (sameInts_t _ _ _ _ _ _ _ _ _ _ _ _ o_out.read o_want.read (by omega)).mono ?_
    rintro e w_5 ⟨rfl, h_5⟩
    have z_5 := h_5.size
    replace o_l := o_l.below h_5 o_l.2.1
    replace o_out := o_out.below h_5 o_out.2.1
    replace o_want := o_want.below h_5 o_want.2.1
    replace hB := hB.trans (h_5.mono hB.size)
    go_wp2_with fail
    go_ret
    exact ⟨rfl, hB⟩
  have hb0 : ((n_out : Int) == 0) = false := by simp; omega
  obtain ⟨hx, hk⟩ := onP_pos (xs := xs_l) (k := key) (by have := o_out.len; omega)
  have h24 := (listB_iff.1 hx).1
  have HX := Lib.hid hx
  have HK := Lib.hid hk
  clear hx hk
  go_wp2_with fail
  refine (maskOff_c _ _ _ _ _ _ _ _ o_out.read).mono ?_
  rintro e w_5 ⟨A_r1, n_r1, c_r1, rfl, o_r1, h_5⟩
  have z_5 := h_5.size
  replace o_l := o_l.below h_5 o_l.2.1
  replace o_out := o_out.below h_5 o_out.2.1
  replace o_want := o_want.below h_5 o_want.2.1
  replace hB := hB.trans (h_5.mono hB.size)
  have b_r1 : n_r1 ≤ 4194304 := by have := o_r1.len; have := offP_len (onP xs_l key) (key); omega
  rw [onP_eq HX.out HK.out, offP_eq (onL_listB h24 key) HK.out, off_on HX.out] at o_r1
  go_wp2_with fail
  refine (sameInts_t _ _ _ _ _ _ _ _ _ _ _ _ o_r1.read o_l.read (by omega)).mono ?_
  rintro e w_6 ⟨rfl, h_6⟩
  have z_6 := h_6.size
  replace o_l := o_l.below h_6 o_l.2.1
  replace o_out := o_out.below h_6 o_out.2.1
  replace o_want := o_want.below h_6 o_want.2.1
  replace o_r1 := o_r1.below h_6 o_r1.2.1
  replace hB := hB.trans (h_6.mono hB.size)
  go_wp2_with fail
  refine (maskOff_c _ _ _ _ _ _ _ _ o_l.read).mono ?_
  rintro e w_7 ⟨A_r2, n_r2, c_r2, rfl, o_r2, h_7⟩
  have z_7 := h_7.size
  replace o_l := o_l.below h_7 o_l.2.1
  replace o_out := o_out.below h_7 o_out.2.1
  replace o_want := o_want.below h_7 o_want.2.1
  replace o_r1 := o_r1.below h_7 o_r1.2.1
  replace hB := hB.trans (h_7.mono hB.size)
  have b_r2 : n_r2 ≤ 4194304 := by have := o_r2.len; have := offP_len (xs_l) (key); omega
  go_wp2_with fail
  refine (maskOn_c _ _ _ _ _ _ _ _ o_r2.read).mono ?_
  rintro e w_8 ⟨A_r3, n_r3, c_r3, rfl, o_r3, h_8⟩
  have z_8 := h_8.size
  replace o_l := o_l.below h_8 o_l.2.1
  replace o_out := o_out.below h_8 o_out.2.1
  replace o_want := o_want.below h_8 o_want.2.1
  replace o_r1 := o_r1.below h_8 o_r1.2.1
  replace o_r2 := o_r2.below h_8 o_r2.2.1
  replace hB := hB.trans (h_8.mono hB.size)
  have b_r3 : n_r3 ≤ 4194304 := by have := o_r3.len; have := onP_len (offP xs_l key) (key); omega
  rw [offP_eq HX.out HK.out, onP_eq (offL_listB h24 key) HK.out, on_off HX.out] at o_r3
  go_wp2_with fail
  refine (sameInts_t _ _ _ _ _ _ _ _ _ _ _ _ o_r3.read o_l.read (by omega)).mono ?_
  rintro e w_9 ⟨rfl, h_9⟩
  have z_9 := h_9.size
  replace o_l := o_l.below h_9 o_l.2.1
  replace o_out := o_out.below h_9 o_out.2.1
  replace o_want := o_want.below h_9 o_want.2.1
  replace o_r1 := o_r1.below h_9 o_r1.2.1
  replace o_r2 := o_r2.below h_9 o_r2.2.1
  replace o_r3 := o_r3.below h_9 o_r3.2.1
  replace hB := hB.trans (h_9.mono hB.size)
  go_wp2_with fail
  go_ret
  exact ⟨rfl, hB⟩
set_option maxRecDepth 100000 in
set_option maxHeartbeats 1600000 in
theorem wFnMaskOrder (A : Option Addr) (n c : Nat) (xs : List Int) (A2 : Option Addr) (n2 c2 : Nat) (xs2 : List Int) (w : World) (hs : SlR .u8 w 0 w.heap.size A n xs) (hl : n ≤ c) (hc : c ≤ 9223372036854775807) (hb : ∀ x ∈ xs, 0 ≤ x ∧ x ≤ 255) (_hs2 : SlR .u8 w 0 w.heap.size A2 n2 xs2) (_hl2 : n2 ≤ c2) (_hc2 : c2 ≤ 9223372036854775807) (_hb2 : ∀ x ∈ xs2, 0 ≤ x ∧ x ≤ 255) : Calls Try.prog 22 #[.slice A n c, .slice A2 n2 c2] w fun e w' => e = .returned (.bool true) ∧ Below w.heap.size w w' := by
  by_cases hbig : 1048576 < n
  · go_enter Try.func22, Try.ntmps22
    go_wp2
    go_ret
    exact ⟨rfl, Below.refl _ _⟩
  by_cases hbig2 : 1048576 < n2
  · go_enter Try.func22, Try.ntmps22
    go_wp2
    go_ret
    exact ⟨rfl, Below.refl _ _⟩
  go_enter Try.func22, Try.ntmps22
  go_wp2_with fail
  refine (drawMaskOn_c A n c xs w hs hb hl hc).mono ?_
  rintro e w_1 ⟨A_l, n_l, c_l, xs_l, key, rfl, o_l, b_l, h_1⟩
  have z_1 := h_1.size
  have hB := h_1
  go_wp2_with fail
  refine (maskOn_c _ _ _ _ _ _ _ _ o_l.read).mono ?_
  rintro e w_2 ⟨A_out, n_out, c_out, rfl, o_out, h_2⟩
  have z_2 := h_2.size
  replace o_l := o_l.below h_2 o_l.2.1
  replace hB := hB.trans (h_2.mono hB.size)
  have b_out : n_out ≤ 4194304 := by have := o_out.len; have := onP_len (xs_l) (key); omega
  go_wp2_with fail
  refine (sMaskOn_c _ _ _ _ _ _ _ _ o_l.read (by omega)).mono ?_
  rintro e w_3 ⟨A_want, n_want, c_want, rfl, o_want, h_3⟩
  have z_3 := h_3.size
  replace o_l := o_l.below h_3 o_l.2.1
  replace o_out := o_out.below h_3 o_out.2.1
  replace hB := hB.trans (h_3.mono hB.size)
  have b_want : n_want ≤ 4194304 := by have := o_want.len; have := onP_len xs_l key; omega
  go_wp2_with fail
  refine (sameInts_t _ _ _ _ _ _ _ _ _ _ _ _ o_out.read o_want.read (by omega)).mono ?_
  rintro e w_4 ⟨rfl, h_4⟩
  have z_4 := h_4.size
  replace o_l := o_l.below h_4 o_l.2.1
  replace o_out := o_out.below h_4 o_out.2.1
  replace o_want := o_want.below h_4 o_want.2.1
  replace hB := hB.trans (h_4.mono hB.size)
  by_cases h0 : n_out = 0
  · have hb0 : ((n_out : Int) == 0) = true := by simp [h0]
    have H0 := Lib.hid h0
    clear h0
    go_wp2_with fail
    refine (sameInts_t _ _ _ _ _ _ _ _ _ _ _ _ o_out.read o_want.read (by omega)).mono ?_
    rintro e w_5 ⟨rfl, h_5⟩
    have z_5 := h_5.size
    replace o_l := o_l.below h_5 o_l.2.1
    replace o_out := o_out.below h_5 o_out.2.1
    replace o_want := o_want.below h_5 o_want.2.1
    replace hB := hB.trans (h_5.mono hB.size)
    go_wp2_with fail
    go_ret
    exact ⟨rfl, hB⟩
  have hb0 : ((n_out : Int) == 0) = false := by simp; omega
  obtain ⟨hx, hk⟩ := onP_pos (xs := xs_l) (k := key) (by have := o_out.len; omega)
  have h24 := (listB_iff.1 hx).1
  have HX := Lib.hid hx
  have HK := Lib.hid hk
  clear hx hk
  go_wp2_with fail
  refine (element_c _ _ (by omega) (by omega)).mono ?_
  rintro e w' ⟨k, rfl, hel, rfl⟩
  have HEL := Lib.hid hel
  clear hel
  go_wp2_with fail
  refine (maskOn_c _ _ _ _ _ _ _ _ o_out.read).mono ?_
  rintro e w_5 ⟨A_r1, n_r1, c_r1, rfl, o_r1, h_5⟩
  have z_5 := h_5.size
  replace o_l := o_l.below h_5 o_l.2.1
  replace o_out := o_out.below h_5 o_out.2.1
  replace o_want := o_want.below h_5 o_want.2.1
  replace hB := hB.trans (h_5.mono hB.size)
  have b_r1 : n_r1 ≤ 4194304 := by have := o_r1.len; have := onP_len (onP xs_l key) (k); omega
  go_wp2_with fail
  refine (maskOn_c _ _ _ _ _ _ _ _ o_l.read).mono ?_
  rintro e w_6 ⟨A_r2, n_r2, c_r2, rfl, o_r2, h_6⟩
  have z_6 := h_6.size
  replace o_l := o_l.below h_6 o_l.2.1
  replace o_out := o_out.below h_6 o_out.2.1
  replace o_want := o_want.below h_6 o_want.2.1
  replace o_r1 := o_r1.below h_6 o_r1.2.1
  replace hB := hB.trans (h_6.mono hB.size)
  have b_r2 : n_r2 ≤ 4194304 := by have := o_r2.len; have := onP_len (xs_l) (k); omega
  go_wp2_with fail
  refine (maskOn_c _ _ _ _ _ _ _ _ o_r2.read).mono ?_
  rintro e w_7 ⟨A_r3, n_r3, c_r3, rfl, o_r3, h_7⟩
  have z_7 := h_7.size
  replace o_l := o_l.below h_7 o_l.2.1
  replace o_out := o_out.below h_7 o_out.2.1
  replace o_want := o_want.below h_7 o_want.2.1
  replace o_r1 := o_r1.below h_7 o_r1.2.1
  replace o_r2 := o_r2.below h_7 o_r2.2.1
  replace hB := hB.trans (h_7.mono hB.size)
  have b_r3 : n_r3 ≤ 4194304 := by have := o_r3.len; have := onP_len (onP xs_l k) (key); omega
  have e1 : onP (onP xs_l key) k = onP (onP xs_l k) key := by rw [onP_eq HX.out HK.out, onP_eq HX.out HEL.out, onP_eq (onL_listB h24 _) HEL.out, onP_eq (onL_listB h24 _) HK.out, on_on]
  rw [e1] at o_r1
  clear e1
  go_wp2_with fail
  refine (sameInts_t _ _ _ _ _ _ _ _ _ _ _ _ o_r1.read o_r3.read (by omega)).mono ?_
  rintro e w_8 ⟨rfl, h_8⟩
  have z_8 := h_8.size
  replace o_l := o_l.below h_8 o_l.2.1
  replace o_out := o_out.below h_8 o_out.2.1
  replace o_want := o_want.below h_8 o_want.2.1
  replace o_r1 := o_r1.below h_8 o_r1.2.1
  replace o_r2 := o_r2.below h_8 o_r2.2.1
  replace o_r3 := o_r3.below h_8 o_r3.2.1
  replace hB := hB.trans (h_8.mono hB.size)
  go_wp2_with fail
  refine (maskOff_c _ _ _ _ _ _ _ _ o_l.read).mono ?_
  rintro e w_9 ⟨A_r4, n_r4, c_r4, rfl, o_r4, h_9⟩
  have z_9 := h_9.size
  replace o_l := o_l.below h_9 o_l.2.1
  replace o_out := o_out.below h_9 o_out.2.1
  replace o_want := o_want.below h_9 o_want.2.1
  replace o_r1 := o_r1.below h_9 o_r1.2.1
  replace o_r2 := o_r2.below h_9 o_r2.2.1
  replace o_r3 := o_r3.below h_9 o_r3.2.1
  replace hB := hB.trans (h_9.mono hB.size)
  have b_r4 : n_r4 ≤ 4194304 := by have := o_r4.len; have := offP_len (xs_l) (k); omega
  go_wp2_with fail
  refine (maskOff_c _ _ _ _ _ _ _ _ o_r4.read).mono ?_
  rintro e w_10 ⟨A_r5, n_r5, c_r5, rfl, o_r5, h_10⟩
  have z_10 := h_10.size
  replace o_l := o_l.below h_10 o_l.2.1
  replace o_out := o_out.below h_10 o_out.2.1
  replace o_want := o_want.below h_10 o_want.2.1
  replace o_r1 := o_r1.below h_10 o_r1.2.1
  replace o_r2 := o_r2.below h_10 o_r2.2.1
  replace o_r3 := o_r3.below h_10 o_r3.2.1
  replace o_r4 := o_r4.below h_10 o_r4.2.1
  replace hB := hB.trans (h_10.mono hB.size)
  have b_r5 : n_r5 ≤ 4194304 := by have := o_r5.len; have := offP_len (offP xs_l k) (key); omega
  go_wp2_with fail
  refine (maskOff_c _ _ _ _ _ _ _ _ o_l.read).mono ?_
  rintro e w_11 ⟨A_r6, n_r6, c_r6, rfl, o_r6, h_11⟩
  have z_11 := h_11.size
  replace o_l := o_l.below h_11 o_l.2.1
  replace o_out := o_out.below h_11 o_out.2.1
  replace o_want := o_want.below h_11 o_want.2.1
  replace o_r1 := o_r1.below h_11 o_r1.2.1
  replace o_r2 := o_r2.below h_11 o_r2.2.1
  replace o_r3 := o_r3.below h_11 o_r3.2.1
  replace o_r4 := o_r4.below h_11 o_r4.2.1
  replace o_r5 := o_r5.below h_11 o_r5.2.1
  replace hB := hB.trans (h_11.mono hB.size)
  have b_r6 : n_r6 ≤ 4194304 := by have := o_r6.len; have := offP_len (xs_l) (key); omega
  go_wp2_with fail
  refine (maskOff_c _ _ _ _ _ _ _ _ o_r6.read).mono ?_
  rintro e w_12 ⟨A_r7, n_r7, c_r7, rfl, o_r7, h_12⟩
  have z_12 := h_12.size
  replace o_l := o_l.below h_12 o_l.2.1
  replace o_out := o_out.below h_12 o_out.2.1
  replace o_want := o_want.below h_12 o_want.2.1
  replace o_r1 := o_r1.below h_12 o_r1.2.1
  replace o_r2 := o_r2.below h_12 o_r2.2.1
  replace o_r3 := o_r3.below h_12 o_r3.2.1
  replace o_r4 := o_r4.below h_12 o_r4.2.1
  replace o_r5 := o_r5.below h_12 o_r5.2.1
  replace o_r6 := o_r6.below h_12 o_r6.2.1
  replace hB := hB.trans (h_12.mono hB.size)
  have b_r7 : n_r7 ≤ 4194304 := by have := o_r7.len; have := offP_len (offP xs_l key) (k); omega
  have e1 : offP (offP xs_l k) key = offP (offP xs_l key) k := by rw [offP_eq HX.out HK.out, offP_eq HX.out HEL.out, offP_eq (offL_listB h24 _) HEL.out, offP_eq (offL_listB h24 _) HK.out, off_off]
  rw [e1] at o_r5
  clear e1
  go_wp2_with fail
  refine (sameInts_t _ _ _ _ _ _ _ _ _ _ _ _ o_r5.read o_r7.read (by omega)).mono ?_
  rintro e w_13 ⟨rfl, h_13⟩
  have z_13 := h_13.size
  replace o_l := o_l.below h_13 o_l.2.1
  replace o_out := o_out.below h_13 o_out.2.1
  replace o_want := o_want.below h_13 o_want.2.1
  replace o_r1 := o_r1.below h_13 o_r1.2.1
  replace o_r2 := o_r2.below h_13 o_r2.2.1
  replace o_r3 := o_r3.below h_13 o_r3.2.1
  replace o_r4 := o_r4.below h_13 o_r4.2.1
  replace o_r5 := o_r5.below h_13 o_r5.2.1
  replace o_r6 := o_r6.below h_13 o_r6.2.1
  replace o_r7 := o_r7.below h_13 o_r7.2.1
  replace hB := hB.trans (h_13.mono hB.size)
  go_wp2_with fail
  go_ret
  exact ⟨rfl, hB⟩
end Go.Proofs.Ytiiofcldblgmcaa
