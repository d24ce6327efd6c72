/-
  The walk of the statement that the program finds the packets valid that the reference finds valid.
  Conditions: a slice among the arguments reads as a list of whole numbers.
-/
import Derived.Test.YtalnilighempmaaLawsP
import Derived.Test.YtalnilighempmaaPktV
namespace Go.Proofs.Ytalnilighempmaa
open Go Go.RowKit

set_option maxRecDepth 100000 in
set_option maxHeartbeats 3200000 in
theorem wFnExactPacketValid (e t : Int) (A : Option Addr) (n c : Nat) (A2 : Option Addr) (n2 c2 : Nat) (h b : List Int) (w : World) (hs : TwoR w 0 w.heap.size h b A n c A2 n2 c2) (hc : c ≤ 9223372036854775807) (hc2 : c2 ≤ 9223372036854775807) : Calls Try.prog 5 #[.agg #[.int .i64 e, .slice A n c, .int .i64 t, .slice A2 n2 c2]] w fun e w' => e = .returned (.bool true) ∧ Below w.heap.size w w' := by
  have hnc := hs.2.2
  by_cases hbig : 1048576 < n + n2
  · go_enter Try.func5, Try.ntmps5
    have box_a := BoxAt.new w #[.int .i64 e, .slice A n c, .int .i64 t, .slice A2 n2 c2] 52
    have hB := (Below.refl w.heap.size w).alloc (Nat.le_refl _) (.cells #[.int .i64 e, .slice A n c, .int .i64 t, .slice A2 n2 c2] 52)
    replace hs := hs.alloc (.cells #[.int .i64 e, .slice A n c, .int .i64 t, .slice A2 n2 c2] 52)
    obtain ⟨s_a1, s_a2⟩ := alloc_size w (.cells #[.int .i64 e, .slice A n c, .int .i64 t, .slice A2 n2 c2] 52)
    obtain ⟨q_a0, q_a1, q_a2, q_a3⟩ := box_a.four
    go_wp2_with fail
    refine (szPacket_no _ _ _ _ _ _ _ _ 1048576 _ (by omega) (by omega) (by omega) (by omega)).mono ?_
    rintro e w_1 ⟨rfl, h_1⟩
    clear q_a0 q_a1 q_a2 q_a3
    have z_1 := h_1.size
    replace hs := hs.below h_1 hs.hi_le
    replace box_a := box_a.below h_1 box_a.hi_le
    replace hB := hB.trans (h_1.mono hB.size)
    go_wp2_with fail
    go_ret
    exact ⟨rfl, hB⟩
  · go_enter Try.func5, Try.ntmps5
    have box_a := BoxAt.new w #[.int .i64 e, .slice A n c, .int .i64 t, .slice A2 n2 c2] 52
    have hB := (Below.refl w.heap.size w).alloc (Nat.le_refl _) (.cells #[.int .i64 e, .slice A n c, .int .i64 t, .slice A2 n2 c2] 52)
    replace hs := hs.alloc (.cells #[.int .i64 e, .slice A n c, .int .i64 t, .slice A2 n2 c2] 52)
    obtain ⟨s_a1, s_a2⟩ := alloc_size w (.cells #[.int .i64 e, .slice A n c, .int .i64 t, .slice A2 n2 c2] 52)
    obtain ⟨q_a0, q_a1, q_a2, q_a3⟩ := box_a.four
    go_wp2_with fail
    refine (szPacket_ok _ _ _ _ _ _ _ _ 1048576 _ (by omega) (by omega)).mono ?_
    rintro e w_1 ⟨rfl, h_1⟩
    clear q_a0 q_a1 q_a2 q_a3
    have z_1 := h_1.size
    replace hs := hs.below h_1 hs.hi_le
    replace box_a := box_a.below h_1 box_a.hi_le
    replace hB := hB.trans (h_1.mono hB.size)
    have hsz0 : ¬ (((1048576 - n - n2 : Nat) : Int) < 0) := by omega
    obtain ⟨q_a0, q_a1, q_a2, q_a3⟩ := box_a.four
    go_wp2_with fail
    refine (toPacket_c _ _ _ _ _ _ _ _ _ _ _ _ _ hs (by omega) (by omega)).mono ?_
    rintro e w_2 ⟨A_v, n_v, c_v, A_v', n_v', c_v', rfl, o_v, h_2⟩
    clear q_a0 q_a1 q_a2 q_a3
    have z_2 := h_2.size
    replace hs := hs.below h_2 hs.hi_le
    replace box_a := box_a.below h_2 box_a.hi_le
    replace hB := hB.trans (h_2.mono hB.size)
    have b_v : n_v ≤ 1048576 ∧ n_v' ≤ 1048576 := by have h1 := o_v.len; have h2 := hs.len; omega
    go_wp2_with fail
    refine (sPacketValid_c _ _ _ _ _ _ _ _ _ _ _ _ _ o_v.read (by omega) (by omega)).mono ?_
    rintro e w_3 ⟨rfl, h_3⟩
    have z_3 := h_3.size
    replace hs := hs.below h_3 hs.hi_le
    replace box_a := box_a.below h_3 box_a.hi_le
    replace o_v := o_v.below h_3 o_v.hi_le
    replace hB := hB.trans (h_3.mono hB.size)
    obtain ⟨q_a0, q_a1, q_a2, q_a3⟩ := box_a.four
    go_wp2_with fail
    refine (toPacket_c _ _ _ _ _ _ _ _ _ _ _ _ _ hs (by omega) (by omega)).mono ?_
    rintro e w_4 ⟨A_x, n_x, c_x, A_x', n_x', c_x', rfl, o_x, h_4⟩
    clear q_a0 q_a1 q_a2 q_a3
    have z_4 := h_4.size
    replace hs := hs.below h_4 hs.hi_le
    replace box_a := box_a.below h_4 box_a.hi_le
    replace o_v := o_v.below h_4 o_v.hi_le
    replace hB := hB.trans (h_4.mono hB.size)
    have b_x : n_x ≤ 1048576 ∧ n_x' ≤ 1048576 := by have h1 := o_x.len; have h2 := hs.len; omega
    replace hs := hs.alloc (.cells #[.int .i64 e, .slice A_x n_x c_x, .int .i64 t, .slice A_x' n_x' c_x'] 27)
    replace box_a := box_a.alloc (.cells #[.int .i64 e, .slice A_x n_x c_x, .int .i64 t, .slice A_x' n_x' c_x'] 27)
    replace o_v := o_v.alloc (.cells #[.int .i64 e, .slice A_x n_x c_x, .int .i64 t, .slice A_x' n_x' c_x'] 27)
    replace o_x := o_x.alloc (.cells #[.int .i64 e, .slice A_x n_x c_x, .int .i64 t, .slice A_x' n_x' c_x'] 27)
    replace hB := hB.alloc hB.size (.cells #[.int .i64 e, .slice A_x n_x c_x, .int .i64 t, .slice A_x' n_x' c_x'] 27)
    have box_x := BoxAt.new w_4 #[.int .i64 e, .slice A_x n_x c_x, .int .i64 t, .slice A_x' n_x' c_x'] 27
    obtain ⟨s_x1, s_x2⟩ := alloc_size w_4 (.cells #[.int .i64 e, .slice A_x n_x c_x, .int .i64 t, .slice A_x' n_x' c_x'] 27)
    obtain ⟨q_x0, q_x1, q_x2, q_x3⟩ := box_x.four
    go_wp2_with fail
    refine (packetValid_c _ _ _ _ _ _ _ _ _ _ _ _ _ o_x.read).mono ?_
    rintro e w_5 ⟨rfl, h_5⟩
    clear q_x0 q_x1 q_x2 q_x3
    have z_5 := h_5.size
    replace hs := hs.below h_5 hs.hi_le
    replace box_a := box_a.below h_5 box_a.hi_le
    replace o_v := o_v.below h_5 o_v.hi_le
    replace o_x := o_x.below h_5 o_x.hi_le
    replace box_x := box_x.below h_5 box_x.hi_le
    replace hB := hB.trans (h_5.mono hB.size)
    obtain ⟨q_x0, q_x1, q_x2, q_x3⟩ := box_x.four
    obtain ⟨q_a0, q_a1, q_a2, q_a3⟩ := box_a.four
    have hx_lt := box_x.hi_le
    have ha_lt := box_a.hi_le
    go_wp2_with fail
    go_region_held3 (fun w' => (w'.cell? ⟨w_4.heap.size, 0, none⟩ = some (.int .i64 e) ∧ w'.cell? ⟨w_4.heap.size, 1, none⟩ = some (.slice A_x n_x c_x) ∧ w'.cell? ⟨w_4.heap.size, 2, none⟩ = some (.int .i64 t) ∧ w'.cell? ⟨w_4.heap.size, 3, none⟩ = some (.slice A_x' n_x' c_x')) ∧ (w'.cell? ⟨w.heap.size, 0, none⟩ = some (.int .i64 e) ∧ w'.cell? ⟨w.heap.size, 1, none⟩ = some (.slice A n c) ∧ w'.cell? ⟨w.heap.size, 2, none⟩ = some (.int .i64 t) ∧ w'.cell? ⟨w.heap.size, 3, none⟩ = some (.slice A2 n2 c2)))
      (first
        | go_keep
        | exact ⟨((box_x.drew.below h_p hx_lt).below h_q (Nat.lt_of_lt_of_le hx_lt h_p.size)).four, ((box_a.drew.below h_p ha_lt).below h_q (Nat.lt_of_lt_of_le ha_lt h_p.size)).four⟩
        | exact ⟨(box_x.drew.below h_p hx_lt).four, (box_a.drew.below h_p ha_lt).four⟩)
      ((first
        | (go_at_call 44; refine (toPacket_c _ _ _ _ _ _ _ _ _ _ _ _ _ hs.drew (by omega) (by omega)).mono ?_; rintro e' w_p ⟨A_y, n_y, c_y, A_y', n_y', c_y', rfl, o_y, h_p⟩; have ox2 := o_x.drew.below h_p o_x.hi_le)
        | (go_at_call 46; refine (eqPacket_t _ _ _ _ _ _ _ _ _ _ _ _ _ _ _ _ _ _ _ _ _ ox2.read o_y.read (by omega) (by omega)).mono ?_; rintro e' w_q ⟨rfl, h_q⟩)))
    clear q_x0 q_x1 q_x2 q_x3 q_a0 q_a1 q_a2 q_a3
    have z_p : w_5.heap.size ≤ w_p.heap.size := h_p.size
    have z_q := h_q.size
    replace hs := (hs.drew.below h_p hs.hi_le).below h_q (by have := hs.hi_le; omega)
    replace box_a := (box_a.drew.below h_p box_a.hi_le).below h_q (by have := box_a.hi_le; omega)
    replace o_v := (o_v.drew.below h_p o_v.hi_le).below h_q (by have := o_v.hi_le; omega)
    replace o_x := (o_x.drew.below h_p o_x.hi_le).below h_q (by have := o_x.hi_le; omega)
    replace box_x := (box_x.drew.below h_p box_x.hi_le).below h_q (by have := box_x.hi_le; omega)
    replace hB := (hB.drew.trans (h_p.mono hB.size)).trans (h_q.mono (by have := hB.size; omega))
    clear h_p h_q o_y ox2 hx_lt ha_lt
    go_wp2_with fail
    go_ret
    exact ⟨rfl, hB⟩
end Go.Proofs.Ytalnilighempmaa
