/-
  The draws of the statements on paths and packets.
  Conditions: the code reads as a list of bytes.
-/
import Derived.Test.YtbkecimhbibnjaaDrawC
import Derived.Test.YtbkecimhbibnjaaDrawP
namespace Go.Proofs.Ytbkecimhbibnjaa
open Go Go.RowKit

/-- A drawn secret, path, names, receiver and letter. -/
def MakePost (w : World) (e : Ending) (w' : World) : Prop :=
  ∃ s A n c ps A2 n2 c2 ns to A3 n3 c3 ls, e = .returned (.tuple #[.int .i64 s, .slice A n c, .slice A2 n2 c2, .int .i64 to, .slice A3 n3 c3]) ∧ OwnR 3 w' w.heap.size w'.heap.size A n c ps ∧ OwnR 3 w' w.heap.size w'.heap.size A2 n2 c2 ns ∧ OwnR 3 w' w.heap.size w'.heap.size A3 n3 c3 ls ∧ n ≤ 4 ∧ n2 ≤ 3 ∧ n3 ≤ 26 ∧ Below w.heap.size w w'

set_option maxRecDepth 100000 in
set_option maxHeartbeats 1600000 in
theorem drawPacketMake_c (A : Option Addr) (n c : Nat) (xs : List Int) (w : World) (h : SlR .u8 w 0 w.heap.size A n xs) (hb : ∀ x ∈ xs, 0 ≤ x ∧ x ≤ 255) (hc : n ≤ c) (hc2 : c ≤ 9223372036854775807) : Calls Try.prog 39 #[.slice A n c] w (MakePost w) := by
  go_enter Try.func39, Try.ntmps39
  go_wp2_with fail
  refine (l6Open_c A n c xs w h hb hc hc2).mono ?_
  rintro e w_1 ⟨rfl, hr, hB⟩
  have hlt := hr.lt
  have z_1 := hB.size
  go_wp2_with fail
  refine (l91Is_c _ 0 _ hr (by omega)).mono ?_
  rintro e w_2 ⟨key, rfl, hr', h_2⟩
  have z_2 := h_2.size
  replace hB := hB.grown h_2 hB.size (fun k hk => by injection hk with hk; omega)
  clear hr
  have hr := hr'
  clear hr'
  go_wp2_with fail
  refine (l91Path_c _ 3 _ hr (by omega)).mono ?_
  rintro e w_3 ⟨A_l, n_l, c_l, ps_l, A_l', n_l', c_l', ns_l, rfl, o_l, o_l', b_l, b_l', hr', h_3⟩
  have z_3 := h_3.size
  replace hB := hB.grown h_3 hB.size (fun k hk => by injection hk with hk; omega)
  clear hr
  have hr := hr'
  clear hr'
  go_wp2_with fail
  refine (pick_c _ 23 _ _ hr (by omega)).mono ?_
  rintro e w_4 ⟨x, rfl, x0, x1, hr', h_4⟩
  have z_4 := h_4.size
  replace o_l := o_l.grown h_4 (fun k hk => by injection hk with hk; omega)
  replace o_l' := o_l'.grown h_4 (fun k hk => by injection hk with hk; omega)
  replace hB := hB.grown h_4 hB.size (fun k hk => by injection hk with hk; omega)
  clear hr
  have hr := hr'
  clear hr'
  go_wp2_with fail
  refine (pick_c _ 24 _ _ hr (by omega)).mono ?_
  rintro e w_5 ⟨y, rfl, y0, y1, hr', h_5⟩
  have z_5 := h_5.size
  replace o_l := o_l.grown h_5 (fun k hk => by injection hk with hk; omega)
  replace o_l' := o_l'.grown h_5 (fun k hk => by injection hk with hk; omega)
  replace hB := hB.grown h_5 hB.size (fun k hk => by injection hk with hk; omega)
  clear hr
  have hr := hr'
  clear hr'
  go_wp2_with fail
  refine (pick_c _ 25 _ _ hr (by omega)).mono ?_
  rintro e w_6 ⟨z, rfl, z0, z1, hr', h_6⟩
  have z_6 := h_6.size
  replace o_l := o_l.grown h_6 (fun k hk => by injection hk with hk; omega)
  replace o_l' := o_l'.grown h_6 (fun k hk => by injection hk with hk; omega)
  replace hB := hB.grown h_6 hB.size (fun k hk => by injection hk with hk; omega)
  clear hr
  have hr := hr'
  clear hr'
  have x2 := x1 (by omega)
  have y2 := y1 (by omega)
  have z2 := z1 (by omega)
  clear x1 y1 z1
  go_wp2_with fail
  refine (l91List_c _ 26 4 _ hr (by omega) (by omega)).mono ?_
  rintro e w_7 ⟨A_ls, n_ls, c_ls, xs_ls, rfl, o_ls, b_ls, hr', h_7⟩
  have z_7 := h_7.size
  replace o_l := o_l.grown h_7 (fun k hk => by injection hk with hk; omega)
  replace o_l' := o_l'.grown h_7 (fun k hk => by injection hk with hk; omega)
  replace hB := hB.grown h_7 hB.size (fun k hk => by injection hk with hk; omega)
  clear hr
  have hr := hr'
  clear hr'
  go_wp2_with fail
  refine bodyPost_ret (v := .tuple #[.int .i64 key, .slice A_l n_l c_l, .slice A_l' n_l' c_l', .int .i64 _, .slice A_ls n_ls c_ls]) (by simp [results, Try.results39, go_sem]; rfl) rfl ?_
  exact ⟨_, _, _, _, _, _, _, _, _, _, _, _, _, _, rfl, o_l.wider (by omega) o_l.2.1 (Nat.le_refl _), o_l'.wider (by omega) o_l'.2.1 (Nat.le_refl _), o_ls.wider (by omega) o_ls.2.1 (Nat.le_refl _), b_l, b_l', b_ls, hB⟩
end Go.Proofs.Ytbkecimhbibnjaa
