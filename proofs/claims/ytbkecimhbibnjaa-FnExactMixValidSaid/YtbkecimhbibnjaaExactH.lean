/-
  The walk of the statement that the program finds the mixes valid that the reference finds valid.
  Conditions: a slice among the arguments reads as a list of whole numbers.
-/
import Derived.Test.YtbkecimhbibnjaaMixU
import Derived.Test.YtbkecimhbibnjaaMixV
import Derived.Test.YtbkecimhbibnjaaMixE
import Derived.Test.YtbkecimhbibnjaaOpenM
namespace Go.Proofs.Ytbkecimhbibnjaa
open Go Go.RowKit

set_option maxRecDepth 100000 in
set_option maxHeartbeats 3200000 in
theorem wFnExactMixValid (s : Int) (A : Option Addr) (n c : Nat) (A2 : Option Addr) (n2 c2 : Nat) (seen : List Int) (pl : List Peel) (w : World) (hs : MixR w 0 w.heap.size seen pl A n c A2 n2 c2) (hc : c ≤ 9223372036854775807) (hc2 : c2 ≤ 9223372036854775807) (hcap : ∀ x ∈ pl, x.p.h.length ≤ 9223372036854775807 ∧ x.p.b.length ≤ 9223372036854775807) : Calls Try.prog 5 #[.agg #[.int .i64 s, .slice A n c, .slice A2 n2 c2]] w fun e w' => e = .returned (.bool true) ∧ Below w.heap.size w w' := by
  go_enter Try.func5, Try.ntmps5
  have box_a := BoxAt.new w #[.int .i64 s, .slice A n c, .slice A2 n2 c2] 37
  have hB := (Below.refl w.heap.size w).alloc (Nat.le_refl _) (.cells #[.int .i64 s, .slice A n c, .slice A2 n2 c2] 37)
  replace hs := hs.alloc (.cells #[.int .i64 s, .slice A n c, .slice A2 n2 c2] 37)
  obtain ⟨s_a1, s_a2⟩ := alloc_size w (.cells #[.int .i64 s, .slice A n c, .slice A2 n2 c2] 37)
  have hnc := hs.2.2
  obtain ⟨mb, hmb⟩ : ∃ b', b' = mixB ⟨s, seen, pl⟩ := ⟨_, rfl⟩
  have HMB := Lib.hid hmb
  clear hmb
  obtain ⟨q_a0, q_a1, q_a2⟩ := box_a.three
  go_wp2_with fail
  refine (szMix_c s A n c A2 n2 c2 _ _ pl _ hs.2.1 (by omega) (by omega) hcap).mono ?_
  rintro e w_1 ⟨r, rfl, hr, h_1⟩
  clear q_a0 q_a1 q_a2
  have z_1 := h_1.size
  replace hs := hs.below h_1 hs.hi_le
  replace box_a := box_a.below h_1 box_a.hi_le
  replace hB := hB.trans (h_1.mono hB.size)
  have HR := Lib.hid hr
  clear hr
  by_cases hneg : r < 0
  · go_wp2_with fail
    go_ret
    exact ⟨rfl, hB⟩
  obtain ⟨hn20, hn20', hpb⟩ := HR.out (by omega)
  have HPB := Lib.hid (show PlB 4194304 pl from fun x hx => by have := hpb x hx; omega)
  clear hpb
  obtain ⟨q_a0, q_a1, q_a2⟩ := box_a.three
  go_wp2_with fail
  refine (toMix_c _ _ _ _ _ _ _ _ _ _ _ _ hs hn20 hn20' HPB.out).mono ?_
  rintro e w_2 ⟨A_v, n_v, c_v, A_v', n_v', c_v', rfl, o_v, h_2⟩
  clear q_a0 q_a1 q_a2
  have z_2 := h_2.size
  replace hs := hs.below h_2 hs.hi_le
  replace box_a := box_a.below h_2 box_a.hi_le
  replace hB := hB.trans (h_2.mono hB.size)
  have b_v : n_v ≤ 1048576 ∧ n_v' ≤ 1048576 := by have h1 := o_v.len; have h2 := hs.len; omega
  go_wp2_with fail
  refine ((sMixValid_c _ _ _ _ _ _ _ _ _ _ _ _ o_v.read (by omega) (by omega) HPB.out).mono fun _ _ h => (show Tells mb _ _ _ by rw [HMB.out]; exact h)).mono ?_
  rintro e w_3 ⟨rfl, h_3⟩
  have z_3 := h_3.size
  replace hs := hs.below h_3 hs.hi_le
  replace box_a := box_a.below h_3 box_a.hi_le
  replace o_v := o_v.below h_3 o_v.hi_le
  replace hB := hB.trans (h_3.mono hB.size)
  obtain ⟨q_a0, q_a1, q_a2⟩ := box_a.three
  go_wp2_with fail
  refine (toMix_c _ _ _ _ _ _ _ _ _ _ _ _ hs hn20 hn20' HPB.out).mono ?_
  rintro e w_4 ⟨A_x, n_x, c_x, A_x', n_x', c_x', rfl, o_x, h_4⟩
  clear q_a0 q_a1 q_a2
  have z_4 := h_4.size
  replace hs := hs.below h_4 hs.hi_le
  replace box_a := box_a.below h_4 box_a.hi_le
  replace o_v := o_v.below h_4 o_v.hi_le
  replace hB := hB.trans (h_4.mono hB.size)
  have b_x : n_x ≤ 1048576 ∧ n_x' ≤ 1048576 := by have h1 := o_x.len; have h2 := hs.len; omega
  replace hs := hs.alloc (.cells #[.int .i64 s, .slice A_x n_x c_x, .slice A_x' n_x' c_x'] 26)
  replace box_a := box_a.alloc (.cells #[.int .i64 s, .slice A_x n_x c_x, .slice A_x' n_x' c_x'] 26)
  replace o_v := o_v.alloc (.cells #[.int .i64 s, .slice A_x n_x c_x, .slice A_x' n_x' c_x'] 26)
  replace o_x := o_x.alloc (.cells #[.int .i64 s, .slice A_x n_x c_x, .slice A_x' n_x' c_x'] 26)
  replace hB := hB.alloc hB.size (.cells #[.int .i64 s, .slice A_x n_x c_x, .slice A_x' n_x' c_x'] 26)
  have box_x := BoxAt.new w_4 #[.int .i64 s, .slice A_x n_x c_x, .slice A_x' n_x' c_x'] 26
  obtain ⟨s_x1, s_x2⟩ := alloc_size w_4 (.cells #[.int .i64 s, .slice A_x n_x c_x, .slice A_x' n_x' c_x'] 26)
  obtain ⟨q_x0, q_x1, q_x2⟩ := box_x.three
  go_wp2_with fail
  refine ((mixValid_c _ _ _ _ _ _ _ _ _ _ _ _ o_x.read (by omega) (by omega)).mono fun _ _ h => (show Tells mb _ _ _ by rw [HMB.out]; exact h)).mono ?_
  rintro e w_5 ⟨rfl, h_5⟩
  clear q_x0 q_x1 q_x2
  have z_5 := h_5.size
  replace hs := hs.below h_5 hs.hi_le
  replace box_a := box_a.below h_5 box_a.hi_le
  replace o_v := o_v.below h_5 o_v.hi_le
  replace o_x := o_x.below h_5 o_x.hi_le
  replace box_x := box_x.below h_5 box_x.hi_le
  replace hB := hB.trans (h_5.mono hB.size)
  obtain ⟨q_x0, q_x1, q_x2⟩ := box_x.three
  obtain ⟨q_a0, q_a1, q_a2⟩ := box_a.three
  have hx_lt := box_x.hi_le
  have ha_lt := box_a.hi_le
  go_wp2_with fail
  go_region_held3 (fun w' => (w'.cell? ⟨w_4.heap.size, 0, none⟩ = some (.int .i64 s) ∧ w'.cell? ⟨w_4.heap.size, 1, none⟩ = some (.slice A_x n_x c_x) ∧ w'.cell? ⟨w_4.heap.size, 2, none⟩ = some (.slice A_x' n_x' c_x')) ∧ (w'.cell? ⟨w.heap.size, 0, none⟩ = some (.int .i64 s) ∧ w'.cell? ⟨w.heap.size, 1, none⟩ = some (.slice A n c) ∧ w'.cell? ⟨w.heap.size, 2, none⟩ = some (.slice A2 n2 c2)))
    (first
      | go_keep
      | exact ⟨((box_x.drew.below h_p hx_lt).below h_q (Nat.lt_of_lt_of_le hx_lt h_p.size)).three, ((box_a.drew.below h_p ha_lt).below h_q (Nat.lt_of_lt_of_le ha_lt h_p.size)).three⟩
      | exact ⟨(box_x.drew.below h_p hx_lt).three, (box_a.drew.below h_p ha_lt).three⟩)
    ((first
      | (go_at_call 23; refine (toMix_c _ _ _ _ _ _ _ _ _ _ _ _ hs.drew hn20 hn20' HPB.out).mono ?_; rintro e' w_p ⟨A_y, n_y, c_y, A_y', n_y', c_y', rfl, o_y, h_p⟩; have ox2 := o_x.drew.below h_p o_x.hi_le)
      | (go_at_call 24; refine (eqMix_t _ _ _ _ _ _ _ _ _ _ _ _ _ _ _ _ _ _ _ _ ox2.read o_y.read (by omega) (by omega) HPB.out).mono ?_; rintro e' w_q ⟨rfl, h_q⟩)))
  clear q_x0 q_x1 q_x2 q_a0 q_a1 q_a2
  have z_p : w_5.heap.size ≤ w_p.heap.size := h_p.size
  have z_q := h_q.size
  replace hs := (hs.drew.below h_p hs.hi_le).below h_q (by have := hs.hi_le; omega)
  replace box_a := (box_a.drew.below h_p box_a.hi_le).below h_q (by have := box_a.hi_le; omega)
  replace o_v := (o_v.drew.below h_p o_v.hi_le).below h_q (by have := o_v.hi_le; omega)
  replace o_x := (o_x.drew.below h_p o_x.hi_le).below h_q (by have := o_x.hi_le; omega)
  replace box_x := (box_x.drew.below h_p box_x.hi_le).below h_q (by have := box_x.hi_le; omega)
  replace hB := (hB.drew.trans (h_p.mono hB.size)).trans (h_q.mono (by have := hB.size; omega))
  clear h_p h_q o_y ox2 hx_lt ha_lt
  go_wp2_with fail
  go_ret
  exact ⟨rfl, hB⟩
end Go.Proofs.Ytbkecimhbibnjaa
