/-
  The draws of the statements on masks, tags and letters: each returns some values and touches nothing old.
  Conditions: the code reads as a list of bytes.
-/
import Derived.Test.YtiiofcldblgmcaaDrawB
namespace Go.Proofs.Ytiiofcldblgmcaa
open Go Go.RowKit

/-- A drawn list and a drawn number. -/
def ListInt (w : World) (e : Ending) (w' : World) : Prop := ∃ A n c xs key, e = .returned (.tuple #[.slice A n c, .int .i64 key]) ∧ OwnR 3 w' w.heap.size w'.heap.size A n c xs ∧ n ≤ 26 ∧ Below w.heap.size w w'
def IntList (w : World) (e : Ending) (w' : World) : Prop := ∃ A n c xs key, e = .returned (.tuple #[.int .i64 key, .slice A n c]) ∧ OwnR 3 w' w.heap.size w'.heap.size A n c xs ∧ n ≤ 26 ∧ Below w.heap.size w w'
def IntListInt (w : World) (e : Ending) (w' : World) : Prop := ∃ A n c xs key t, e = .returned (.tuple #[.int .i64 key, .slice A n c, .int .i64 t]) ∧ OwnR 3 w' w.heap.size w'.heap.size A n c xs ∧ n ≤ 26 ∧ Below w.heap.size w w'
def OneList (w : World) (e : Ending) (w' : World) : Prop := ∃ A n c xs, e = .returned (.slice A n c) ∧ OwnR 3 w' w.heap.size w'.heap.size A n c xs ∧ n ≤ 26 ∧ Below w.heap.size w w'
def TwoInts (w : World) (e : Ending) (w' : World) : Prop := ∃ a b, e = .returned (.tuple #[.int .i64 a, .int .i64 b]) ∧ Below w.heap.size w w'

set_option maxRecDepth 100000 in
set_option maxHeartbeats 1600000 in
theorem drawMaskOn_c (A : Option Addr) (n c : Nat) (xs : List Int) (w : World) (h : SlR .u8 w 0 w.heap.size A n xs) (hb : ∀ x ∈ xs, 0 ≤ x ∧ x ≤ 255) (hc : n ≤ c) (hc2 : c ≤ 9223372036854775807) : Calls Try.prog 50 #[.slice A n c] w (ListInt w) := by
  go_enter Try.func50, Try.ntmps50
  go_wp2_with fail
  refine (l6Open_c A n c xs w h hb hc hc2).mono ?_
  rintro e w_1 ⟨rfl, hr, hB⟩
  have hlt := hr.lt
  have z_1 := hB.size
  go_wp2_with fail
  refine (l91List_c _ 0 24 _ hr (by omega) (by omega)).mono ?_
  rintro e w_2 ⟨A_l, n_l, c_l, xs_l, rfl, o_l, b_l, hr', h_2⟩
  have z_2 := h_2.size
  replace hB := hB.grown h_2 hB.size (fun k hk => by injection hk with hk; omega)
  clear hr
  have hr := hr'
  clear hr'
  go_wp2_with fail
  refine (l91Is_c _ 90 _ hr (by omega)).mono ?_
  rintro e w_3 ⟨key, rfl, hr', h_3⟩
  have z_3 := h_3.size
  replace o_l := o_l.grown h_3 (fun k hk => by injection hk with hk; omega)
  replace hB := hB.grown h_3 hB.size (fun k hk => by injection hk with hk; omega)
  clear hr
  have hr := hr'
  clear hr'
  go_wp2_with fail
  go_ret2
  exact ⟨_, _, _, _, _, rfl, o_l.wider (by omega) o_l.2.1 (Nat.le_refl _), b_l, hB⟩
set_option maxRecDepth 100000 in
set_option maxHeartbeats 1600000 in
theorem drawMaskOff_c (A : Option Addr) (n c : Nat) (xs : List Int) (w : World) (h : SlR .u8 w 0 w.heap.size A n xs) (hb : ∀ x ∈ xs, 0 ≤ x ∧ x ≤ 255) (hc : n ≤ c) (hc2 : c ≤ 9223372036854775807) : Calls Try.prog 51 #[.slice A n c] w (ListInt w) := by
  go_enter Try.func51, Try.ntmps51
  go_wp2_with fail
  refine (drawMaskOn_c A n c xs w h hb hc hc2).mono ?_
  rintro e w1 ⟨A1, n1, c1, x1, k1, rfl, h1⟩
  go_wp2_with fail
  go_ret2
  exact ⟨_, _, _, _, _, rfl, h1⟩
set_option maxRecDepth 100000 in
set_option maxHeartbeats 1600000 in
theorem drawStreamOf_c (A : Option Addr) (n c : Nat) (xs : List Int) (w : World) (h : SlR .u8 w 0 w.heap.size A n xs) (hb : ∀ x ∈ xs, 0 ≤ x ∧ x ≤ 255) (hc : n ≤ c) (hc2 : c ≤ 9223372036854775807) : Calls Try.prog 41 #[.slice A n c] w (TwoInts w) := by
  go_enter Try.func41, Try.ntmps41
  go_wp2_with fail
  refine (l6Open_c A n c xs w h hb hc hc2).mono ?_
  rintro e w_1 ⟨rfl, hr, hB⟩
  have hlt := hr.lt
  have z_1 := hB.size
  go_wp2_with fail
  refine (l91Is_c _ 0 _ hr (by omega)).mono ?_
  rintro e w_2 ⟨key, rfl, hr', h_2⟩
  have z_2 := h_2.size
  replace hB := hB.grown h_2 hB.size (fun k hk => by injection hk with hk; omega)
  clear hr
  have hr := hr'
  clear hr'
  go_wp2_with fail
  refine (pick_c _ 3 _ _ hr (by omega)).mono ?_
  rintro e w_3 ⟨x, rfl, x0, x1, hr', h_3⟩
  have z_3 := h_3.size
  replace hB := hB.grown h_3 hB.size (fun k hk => by injection hk with hk; omega)
  clear hr
  have hr := hr'
  clear hr'
  go_wp2_with fail
  refine (pick_c _ 4 _ _ hr (by omega)).mono ?_
  rintro e w_4 ⟨y, rfl, y0, y1, hr', h_4⟩
  have z_4 := h_4.size
  replace hB := hB.grown h_4 hB.size (fun k hk => by injection hk with hk; omega)
  clear hr
  have hr := hr'
  clear hr'
  go_wp2_with fail
  refine (pick_c _ 5 _ _ hr (by omega)).mono ?_
  rintro e w_5 ⟨z, rfl, z0, z1, hr', h_5⟩
  have z_5 := h_5.size
  replace hB := hB.grown h_5 hB.size (fun k hk => by injection hk with hk; omega)
  clear hr
  have hr := hr'
  clear hr'
  have x2 := x1 (by omega)
  have y2 := y1 (by omega)
  have z2 := z1 (by omega)
  clear x1 y1 z1
  go_wp2_with fail
  go_ret2
  exact ⟨_, _, rfl, hB⟩
set_option maxRecDepth 100000 in
set_option maxHeartbeats 1600000 in
theorem drawTagOf_c (A : Option Addr) (n c : Nat) (xs : List Int) (w : World) (h : SlR .u8 w 0 w.heap.size A n xs) (hb : ∀ x ∈ xs, 0 ≤ x ∧ x ≤ 255) (hc : n ≤ c) (hc2 : c ≤ 9223372036854775807) : Calls Try.prog 46 #[.slice A n c] w (IntList w) := by
  go_enter Try.func46, Try.ntmps46
  go_wp2_with fail
  refine (l6Open_c A n c xs w h hb hc hc2).mono ?_
  rintro e w_1 ⟨rfl, hr, hB⟩
  have hlt := hr.lt
  have z_1 := hB.size
  go_wp2_with fail
  refine (l91Is_c _ 0 _ hr (by omega)).mono ?_
  rintro e w_2 ⟨key, rfl, hr', h_2⟩
  have z_2 := h_2.size
  replace hB := hB.grown h_2 hB.size (fun k hk => by injection hk with hk; omega)
  clear hr
  have hr := hr'
  clear hr'
  go_wp2_with fail
  refine (l91List_c _ 3 24 _ hr (by omega) (by omega)).mono ?_
  rintro e w_3 ⟨A_l, n_l, c_l, xs_l, rfl, o_l, b_l, hr', h_3⟩
  have z_3 := h_3.size
  replace hB := hB.grown h_3 hB.size (fun k hk => by injection hk with hk; omega)
  clear hr
  have hr := hr'
  clear hr'
  go_wp2_with fail
  go_ret2
  exact ⟨_, _, _, _, _, rfl, o_l.wider (by omega) o_l.2.1 (Nat.le_refl _), b_l, hB⟩
set_option maxRecDepth 100000 in
set_option maxHeartbeats 1600000 in
theorem drawTagCheck_c (A : Option Addr) (n c : Nat) (xs : List Int) (w : World) (h : SlR .u8 w 0 w.heap.size A n xs) (hb : ∀ x ∈ xs, 0 ≤ x ∧ x ≤ 255) (hc : n ≤ c) (hc2 : c ≤ 9223372036854775807) : Calls Try.prog 48 #[.slice A n c] w (IntListInt w) := by
  go_enter Try.func48, Try.ntmps48
  go_wp2_with fail
  refine (l6Open_c A n c xs w h hb hc hc2).mono ?_
  rintro e w_1 ⟨rfl, hr, hB⟩
  have hlt := hr.lt
  have z_1 := hB.size
  go_wp2_with fail
  refine (l91Is_c _ 0 _ hr (by omega)).mono ?_
  rintro e w_2 ⟨key, rfl, hr', h_2⟩
  have z_2 := h_2.size
  replace hB := hB.grown h_2 hB.size (fun k hk => by injection hk with hk; omega)
  clear hr
  have hr := hr'
  clear hr'
  go_wp2_with fail
  refine (l91List_c _ 3 24 _ hr (by omega) (by omega)).mono ?_
  rintro e w_3 ⟨A_l, n_l, c_l, xs_l, rfl, o_l, b_l, hr', h_3⟩
  have z_3 := h_3.size
  replace hB := hB.grown h_3 hB.size (fun k hk => by injection hk with hk; omega)
  clear hr
  have hr := hr'
  clear hr'
  go_wp2_with fail
  refine (sTagOf_c _ _ _ _ _ _ _ _ o_l.read (by omega)).mono ?_
  rintro e w' ⟨rfl, rfl⟩
  go_wp2_with fail
  refine (pick_c _ 93 _ _ hr (by omega)).mono ?_
  rintro e w_4 ⟨x, rfl, x0, x1, hr', h_4⟩
  have z_4 := h_4.size
  replace o_l := o_l.grown h_4 (fun k hk => by injection hk with hk; omega)
  replace hB := hB.grown h_4 hB.size (fun k hk => by injection hk with hk; omega)
  clear hr
  have hr := hr'
  clear hr'
  by_cases hx : x = 0
  · subst hx
    go_wp2_with fail
    refine (l91Number_c _ 94 _ hr (by omega)).mono ?_
    rintro e w_5 ⟨t, rfl, hr', h_5⟩
    have z_5 := h_5.size
    replace o_l := o_l.grown h_5 (fun k hk => by injection hk with hk; omega)
    replace hB := hB.grown h_5 hB.size (fun k hk => by injection hk with hk; omega)
    clear hr
    have hr := hr'
    clear hr'
    go_wp2_with fail
    go_ret3
    exact ⟨_, _, _, _, _, _, rfl, o_l.wider (by omega) o_l.2.1 (Nat.le_refl _), b_l, hB⟩
  · have hxf : (x == 0) = false := by simpa using hx
    go_wp2_with fail
    go_ret3
    exact ⟨_, _, _, _, _, _, rfl, o_l.wider (by omega) o_l.2.1 (Nat.le_refl _), b_l, hB⟩
set_option maxRecDepth 100000 in
set_option maxHeartbeats 1600000 in
theorem drawLetterPack_c (A : Option Addr) (n c : Nat) (xs : List Int) (w : World) (h : SlR .u8 w 0 w.heap.size A n xs) (hb : ∀ x ∈ xs, 0 ≤ x ∧ x ≤ 255) (hc : n ≤ c) (hc2 : c ≤ 9223372036854775807) : Calls Try.prog 49 #[.slice A n c] w (OneList w) := by
  go_enter Try.func49, Try.ntmps49
  go_wp2_with fail
  refine (l6Open_c A n c xs w h hb hc hc2).mono ?_
  rintro e w_1 ⟨rfl, hr, hB⟩
  have hlt := hr.lt
  have z_1 := hB.size
  go_wp2_with fail
  refine (l91List_c _ 0 4 _ hr (by omega) (by omega)).mono ?_
  rintro e w_2 ⟨A_l, n_l, c_l, xs_l, rfl, o_l, b_l, hr', h_2⟩
  have z_2 := h_2.size
  replace hB := hB.grown h_2 hB.size (fun k hk => by injection hk with hk; omega)
  clear hr
  have hr := hr'
  clear hr'
  go_wp2_with fail
  go_ret
  exact ⟨_, _, _, _, rfl, o_l.wider (by omega) o_l.2.1 (Nat.le_refl _), b_l, hB⟩
end Go.Proofs.Ytiiofcldblgmcaa
