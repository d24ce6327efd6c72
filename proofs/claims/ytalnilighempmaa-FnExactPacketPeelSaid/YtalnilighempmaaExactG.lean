/-
  The walk of the statement that the program peels packets as the reference does.
  Conditions: a slice among the arguments reads as a list of whole numbers.
-/
import Derived.Test.YtalnilighempmaaLawsP
import Derived.Test.YtalnilighempmaaPeel
import Derived.Test.YtalnilighempmaaPeelP
namespace Go.Proofs.Ytalnilighempmaa
open Go Go.RowKit

theorem packetPeel_p (s e t : Int) (A : Option Addr) (n c : Nat) (A2 : Option Addr) (n2 c2 : Nat) (lo hi : Nat) (h b : List Int) (w : World) (X : Peel) (ok : Bool) (hs : TwoR w lo hi h b A n c A2 n2 c2) (hX : X = peelP s ⟨e, h, t, b⟩) (hok : ok = peelB s ⟨e, h, t, b⟩) : Calls Try.prog 33 #[.int .i64 s, .agg #[.int .i64 e, .slice A n c, .int .i64 t, .slice A2 n2 c2]] w (NewPeel X ok w) := by
  subst hX hok
  exact packetPeel_c s e t A n c A2 n2 c2 lo hi h b w hs
theorem sPacketPeel_p (s e t : Int) (A : Option Addr) (n c : Nat) (A2 : Option Addr) (n2 c2 : Nat) (lo hi : Nat) (h b : List Int) (w : World) (X : Peel) (ok : Bool) (hs : TwoR w lo hi h b A n c A2 n2 c2) (hX : X = peelP s ⟨e, h, t, b⟩) (hok : ok = peelB s ⟨e, h, t, b⟩) (hn : n ≤ 4194304) (hn2 : n2 ≤ 4194304) : Calls Try.prog 66 #[.int .i64 s, .agg #[.int .i64 e, .slice A n c, .int .i64 t, .slice A2 n2 c2]] w (NewPeel X ok w) := by
  subst hX hok
  exact sPacketPeel_c s e t A n c A2 n2 c2 lo hi h b w hs hn hn2
theorem peelP_len (s : Int) (p : Pkt) : (peelP s p).p.h.length ≤ 9 ∧ (peelP s p).p.b.length ≤ 6 := by
  cases h : peelB s p with
  | false => rw [peelP_no h]; simp [zeroPeel, zeroPkt]
  | true =>
    rw [peelP_yes h]
    obtain ⟨_, _, h3, _, h5, _⟩ := validB_iff.1 (peelL_valid h)
    omega
set_option maxRecDepth 100000 in
set_option maxHeartbeats 6400000 in
theorem wFnExactPacketPeel (s : Int) (e t : Int) (A : Option Addr) (n c : Nat) (A2 : Option Addr) (n2 c2 : Nat) (h b : List Int) (w : World) (hs : TwoR w 0 w.heap.size h b A n c A2 n2 c2) (hc : c ≤ 9223372036854775807) (hc2 : c2 ≤ 9223372036854775807) : Calls Try.prog 13 #[.int .i64 s, .agg #[.int .i64 e, .slice A n c, .int .i64 t, .slice A2 n2 c2]] w fun e w' => e = .returned (.bool true) ∧ Below w.heap.size w w' := by
  have hnc := hs.2.2
  by_cases hbig : 1048576 < n + n2
  · go_enter Try.func13, Try.ntmps13
    have box_a := BoxAt.new w #[.int .i64 e, .slice A n c, .int .i64 t, .slice A2 n2 c2] 52
    have hB := (Below.refl w.heap.size w).alloc (Nat.le_refl _) (.cells #[.int .i64 e, .slice A n c, .int .i64 t, .slice A2 n2 c2] 52)
    replace hs := hs.alloc (.cells #[.int .i64 e, .slice A n c, .int .i64 t, .slice A2 n2 c2] 52)
    obtain ⟨s_a1, s_a2⟩ := alloc_size w (.cells #[.int .i64 e, .slice A n c, .int .i64 t, .slice A2 n2 c2] 52)
    obtain ⟨q_a0, q_a1, q_a2, q_a3⟩ := box_a.four
    go_wp2_with fail
    refine (szPacket_no _ _ _ _ _ _ _ _ 1048576 _ (by omega) (by omega) (by omega) (by omega)).mono ?_
    rintro e w_1 ⟨rfl, h_1⟩
    clear q_a0 q_a1 q_a2 q_a3
    have z_1 := h_1.size
    replace hs := hs.below h_1 hs.hi_le
    replace box_a := box_a.below h_1 box_a.hi_le
    replace hB := hB.trans (h_1.mono hB.size)
    go_wp2_with fail
    go_ret
    exact ⟨rfl, hB⟩
  · go_enter Try.func13, Try.ntmps13
    have box_a := BoxAt.new w #[.int .i64 e, .slice A n c, .int .i64 t, .slice A2 n2 c2] 52
    have hB := (Below.refl w.heap.size w).alloc (Nat.le_refl _) (.cells #[.int .i64 e, .slice A n c, .int .i64 t, .slice A2 n2 c2] 52)
    replace hs := hs.alloc (.cells #[.int .i64 e, .slice A n c, .int .i64 t, .slice A2 n2 c2] 52)
    obtain ⟨s_a1, s_a2⟩ := alloc_size w (.cells #[.int .i64 e, .slice A n c, .int .i64 t, .slice A2 n2 c2] 52)
    obtain ⟨X, hX⟩ : ∃ X, X = peelP s ⟨e, h, t, b⟩ := ⟨_, rfl⟩
    have hlen := peelP_len s ⟨e, h, t, b⟩
    rw [← hX] at hlen
    have HX := Lib.hid hX
    obtain ⟨ok, hok⟩ : ∃ b', b' = peelB s ⟨e, h, t, b⟩ := ⟨_, rfl⟩
    have HOK := Lib.hid hok
    clear hX hok
    obtain ⟨q_a0, q_a1, q_a2, q_a3⟩ := box_a.four
    go_wp2_with fail
    refine (szPacket_ok _ _ _ _ _ _ _ _ 1048576 _ (by omega) (by omega)).mono ?_
    rintro e w_1 ⟨rfl, h_1⟩
    clear q_a0 q_a1 q_a2 q_a3
    have z_1 := h_1.size
    replace hs := hs.below h_1 hs.hi_le
    replace box_a := box_a.below h_1 box_a.hi_le
    replace hB := hB.trans (h_1.mono hB.size)
    have hsz0 : ¬ (((1048576 - n - n2 : Nat) : Int) < 0) := by omega
    obtain ⟨q_a0, q_a1, q_a2, q_a3⟩ := box_a.four
    go_wp2_with fail
    refine (toPacket_c _ _ _ _ _ _ _ _ _ _ _ _ _ hs (by omega) (by omega)).mono ?_
    rintro e w_2 ⟨A_v, n_v, c_v, A_v', n_v', c_v', rfl, o_v, h_2⟩
    clear q_a0 q_a1 q_a2 q_a3
    have z_2 := h_2.size
    replace hs := hs.below h_2 hs.hi_le
    replace box_a := box_a.below h_2 box_a.hi_le
    replace hB := hB.trans (h_2.mono hB.size)
    have b_v : n_v ≤ 1048576 ∧ n_v' ≤ 1048576 := by have h1 := o_v.len; have h2 := hs.len; omega
    go_wp2_with fail
    refine (sPacketPeel_p _ _ _ _ _ _ _ _ _ _ _ _ _ _ _ _ o_v.read HX.out HOK.out (by omega) (by omega)).mono ?_
    rintro e w_3 ⟨A_w, n_w, c_w, A_w', n_w', c_w', rfl, o_w, h_3⟩
    have z_3 := h_3.size
    replace hs := hs.below h_3 hs.hi_le
    replace box_a := box_a.below h_3 box_a.hi_le
    replace o_v := o_v.below h_3 o_v.hi_le
    replace hB := hB.trans (h_3.mono hB.size)
    have b_w : n_w ≤ 9 ∧ n_w' ≤ 6 := by have h1 := o_w.len; have h2 := hlen; omega
    replace hs := hs.alloc (.cells #[.int .i64 X.kind, .int .i64 X.next, .int .i64 X.p.e, .slice A_w n_w c_w, .int .i64 X.p.t, .slice A_w' n_w' c_w'] 34)
    replace box_a := box_a.alloc (.cells #[.int .i64 X.kind, .int .i64 X.next, .int .i64 X.p.e, .slice A_w n_w c_w, .int .i64 X.p.t, .slice A_w' n_w' c_w'] 34)
    replace o_v := o_v.alloc (.cells #[.int .i64 X.kind, .int .i64 X.next, .int .i64 X.p.e, .slice A_w n_w c_w, .int .i64 X.p.t, .slice A_w' n_w' c_w'] 34)
    replace o_w := o_w.alloc (.cells #[.int .i64 X.kind, .int .i64 X.next, .int .i64 X.p.e, .slice A_w n_w c_w, .int .i64 X.p.t, .slice A_w' n_w' c_w'] 34)
    replace hB := hB.alloc hB.size (.cells #[.int .i64 X.kind, .int .i64 X.next, .int .i64 X.p.e, .slice A_w n_w c_w, .int .i64 X.p.t, .slice A_w' n_w' c_w'] 34)
    have box_w := BoxAt.new w_3 #[.int .i64 X.kind, .int .i64 X.next, .int .i64 X.p.e, .slice A_w n_w c_w, .int .i64 X.p.t, .slice A_w' n_w' c_w'] 34
    obtain ⟨s_w1, s_w2⟩ := alloc_size w_3 (.cells #[.int .i64 X.kind, .int .i64 X.next, .int .i64 X.p.e, .slice A_w n_w c_w, .int .i64 X.p.t, .slice A_w' n_w' c_w'] 34)
    obtain ⟨q_a0, q_a1, q_a2, q_a3⟩ := box_a.four
    go_wp2_with fail
    refine (toPacket_c _ _ _ _ _ _ _ _ _ _ _ _ _ hs (by omega) (by omega)).mono ?_
    rintro e w_4 ⟨A_x, n_x, c_x, A_x', n_x', c_x', rfl, o_x, h_4⟩
    clear q_a0 q_a1 q_a2 q_a3
    have z_4 := h_4.size
    replace hs := hs.below h_4 hs.hi_le
    replace box_a := box_a.below h_4 box_a.hi_le
    replace o_v := o_v.below h_4 o_v.hi_le
    replace o_w := o_w.below h_4 o_w.hi_le
    replace box_w := box_w.below h_4 box_w.hi_le
    replace hB := hB.trans (h_4.mono hB.size)
    have b_x : n_x ≤ 1048576 ∧ n_x' ≤ 1048576 := by have h1 := o_x.len; have h2 := hs.len; omega
    replace hs := hs.alloc (.cells #[.int .i64 e, .slice A_x n_x c_x, .int .i64 t, .slice A_x' n_x' c_x'] 27)
    replace box_a := box_a.alloc (.cells #[.int .i64 e, .slice A_x n_x c_x, .int .i64 t, .slice A_x' n_x' c_x'] 27)
    replace o_v := o_v.alloc (.cells #[.int .i64 e, .slice A_x n_x c_x, .int .i64 t, .slice A_x' n_x' c_x'] 27)
    replace o_w := o_w.alloc (.cells #[.int .i64 e, .slice A_x n_x c_x, .int .i64 t, .slice A_x' n_x' c_x'] 27)
    replace box_w := box_w.alloc (.cells #[.int .i64 e, .slice A_x n_x c_x, .int .i64 t, .slice A_x' n_x' c_x'] 27)
    replace o_x := o_x.alloc (.cells #[.int .i64 e, .slice A_x n_x c_x, .int .i64 t, .slice A_x' n_x' c_x'] 27)
    replace hB := hB.alloc hB.size (.cells #[.int .i64 e, .slice A_x n_x c_x, .int .i64 t, .slice A_x' n_x' c_x'] 27)
    have box_x := BoxAt.new w_4 #[.int .i64 e, .slice A_x n_x c_x, .int .i64 t, .slice A_x' n_x' c_x'] 27
    obtain ⟨s_x1, s_x2⟩ := alloc_size w_4 (.cells #[.int .i64 e, .slice A_x n_x c_x, .int .i64 t, .slice A_x' n_x' c_x'] 27)
    obtain ⟨q_x0, q_x1, q_x2, q_x3⟩ := box_x.four
    go_wp2_with fail
    refine (packetPeel_p _ _ _ _ _ _ _ _ _ _ _ _ _ _ _ _ o_x.read HX.out HOK.out).mono ?_
    rintro e w_5 ⟨A_g, n_g, c_g, A_g', n_g', c_g', rfl, o_g, h_5⟩
    clear q_x0 q_x1 q_x2 q_x3
    have z_5 := h_5.size
    replace hs := hs.below h_5 hs.hi_le
    replace box_a := box_a.below h_5 box_a.hi_le
    replace o_v := o_v.below h_5 o_v.hi_le
    replace o_w := o_w.below h_5 o_w.hi_le
    replace box_w := box_w.below h_5 box_w.hi_le
    replace o_x := o_x.below h_5 o_x.hi_le
    replace box_x := box_x.below h_5 box_x.hi_le
    replace hB := hB.trans (h_5.mono hB.size)
    have b_g : n_g ≤ 9 ∧ n_g' ≤ 6 := by have h1 := o_g.len; have h2 := hlen; omega
    replace hs := hs.alloc (.cells #[.int .i64 X.kind, .int .i64 X.next, .int .i64 X.p.e, .slice A_g n_g c_g, .int .i64 X.p.t, .slice A_g' n_g' c_g'] 34)
    replace box_a := box_a.alloc (.cells #[.int .i64 X.kind, .int .i64 X.next, .int .i64 X.p.e, .slice A_g n_g c_g, .int .i64 X.p.t, .slice A_g' n_g' c_g'] 34)
    replace o_v := o_v.alloc (.cells #[.int .i64 X.kind, .int .i64 X.next, .int .i64 X.p.e, .slice A_g n_g c_g, .int .i64 X.p.t, .slice A_g' n_g' c_g'] 34)
    replace o_w := o_w.alloc (.cells #[.int .i64 X.kind, .int .i64 X.next, .int .i64 X.p.e, .slice A_g n_g c_g, .int .i64 X.p.t, .slice A_g' n_g' c_g'] 34)
    replace box_w := box_w.alloc (.cells #[.int .i64 X.kind, .int .i64 X.next, .int .i64 X.p.e, .slice A_g n_g c_g, .int .i64 X.p.t, .slice A_g' n_g' c_g'] 34)
    replace o_x := o_x.alloc (.cells #[.int .i64 X.kind, .int .i64 X.next, .int .i64 X.p.e, .slice A_g n_g c_g, .int .i64 X.p.t, .slice A_g' n_g' c_g'] 34)
    replace box_x := box_x.alloc (.cells #[.int .i64 X.kind, .int .i64 X.next, .int .i64 X.p.e, .slice A_g n_g c_g, .int .i64 X.p.t, .slice A_g' n_g' c_g'] 34)
    replace o_g := o_g.alloc (.cells #[.int .i64 X.kind, .int .i64 X.next, .int .i64 X.p.e, .slice A_g n_g c_g, .int .i64 X.p.t, .slice A_g' n_g' c_g'] 34)
    replace hB := hB.alloc hB.size (.cells #[.int .i64 X.kind, .int .i64 X.next, .int .i64 X.p.e, .slice A_g n_g c_g, .int .i64 X.p.t, .slice A_g' n_g' c_g'] 34)
    have box_g := BoxAt.new w_5 #[.int .i64 X.kind, .int .i64 X.next, .int .i64 X.p.e, .slice A_g n_g c_g, .int .i64 X.p.t, .slice A_g' n_g' c_g'] 34
    obtain ⟨s_g1, s_g2⟩ := alloc_size w_5 (.cells #[.int .i64 X.kind, .int .i64 X.next, .int .i64 X.p.e, .slice A_g n_g c_g, .int .i64 X.p.t, .slice A_g' n_g' c_g'] 34)
    obtain ⟨q_g0, q_g1, q_g2, q_g3, q_g4, q_g5⟩ := box_g.six
    obtain ⟨q_w0, q_w1, q_w2, q_w3, q_w4, q_w5⟩ := box_w.six
    go_wp2_with fail
    refine (eqPeeled_t _ _ _ _ _ _ _ _ _ _ _ _ _ _ _ _ _ _ _ _ _ _ _ o_g.read o_w.read (by omega) (by omega)).mono ?_
    rintro e w_6 ⟨rfl, h_6⟩
    clear q_g0 q_g1 q_g2 q_g3 q_g4 q_g5 q_w0 q_w1 q_w2 q_w3 q_w4 q_w5
    have z_6 := h_6.size
    replace hs := hs.below h_6 hs.hi_le
    replace box_a := box_a.below h_6 box_a.hi_le
    replace o_v := o_v.below h_6 o_v.hi_le
    replace o_w := o_w.below h_6 o_w.hi_le
    replace box_w := box_w.below h_6 box_w.hi_le
    replace o_x := o_x.below h_6 o_x.hi_le
    replace box_x := box_x.below h_6 box_x.hi_le
    replace o_g := o_g.below h_6 o_g.hi_le
    replace box_g := box_g.below h_6 box_g.hi_le
    replace hB := hB.trans (h_6.mono hB.size)
    obtain ⟨q_x0, q_x1, q_x2, q_x3⟩ := box_x.four
    obtain ⟨q_a0, q_a1, q_a2, q_a3⟩ := box_a.four
    have hx_lt := box_x.hi_le
    have ha_lt := box_a.hi_le
    go_wp2_with fail
    go_region_held3 (fun w' => (w'.cell? ⟨w_4.heap.size, 0, none⟩ = some (.int .i64 e) ∧ w'.cell? ⟨w_4.heap.size, 1, none⟩ = some (.slice A_x n_x c_x) ∧ w'.cell? ⟨w_4.heap.size, 2, none⟩ = some (.int .i64 t) ∧ w'.cell? ⟨w_4.heap.size, 3, none⟩ = some (.slice A_x' n_x' c_x')) ∧ (w'.cell? ⟨w.heap.size, 0, none⟩ = some (.int .i64 e) ∧ w'.cell? ⟨w.heap.size, 1, none⟩ = some (.slice A n c) ∧ w'.cell? ⟨w.heap.size, 2, none⟩ = some (.int .i64 t) ∧ w'.cell? ⟨w.heap.size, 3, none⟩ = some (.slice A2 n2 c2)))
      (first
        | go_keep
        | exact ⟨((box_x.drew.below h_p hx_lt).below h_q (Nat.lt_of_lt_of_le hx_lt h_p.size)).four, ((box_a.drew.below h_p ha_lt).below h_q (Nat.lt_of_lt_of_le ha_lt h_p.size)).four⟩
        | exact ⟨(box_x.drew.below h_p hx_lt).four, (box_a.drew.below h_p ha_lt).four⟩)
      ((first
        | (go_at_call 44; refine (toPacket_c _ _ _ _ _ _ _ _ _ _ _ _ _ hs.drew (by omega) (by omega)).mono ?_; rintro e' w_p ⟨A_y, n_y, c_y, A_y', n_y', c_y', rfl, o_y, h_p⟩; have ox2 := o_x.drew.below h_p o_x.hi_le)
        | (go_at_call 46; refine (eqPacket_t _ _ _ _ _ _ _ _ _ _ _ _ _ _ _ _ _ _ _ _ _ ox2.read o_y.read (by omega) (by omega)).mono ?_; rintro e' w_q ⟨rfl, h_q⟩)))
    clear q_x0 q_x1 q_x2 q_x3 q_a0 q_a1 q_a2 q_a3
    have z_p : w_6.heap.size ≤ w_p.heap.size := h_p.size
    have z_q := h_q.size
    replace hs := (hs.drew.below h_p hs.hi_le).below h_q (by have := hs.hi_le; omega)
    replace box_a := (box_a.drew.below h_p box_a.hi_le).below h_q (by have := box_a.hi_le; omega)
    replace o_v := (o_v.drew.below h_p o_v.hi_le).below h_q (by have := o_v.hi_le; omega)
    replace o_w := (o_w.drew.below h_p o_w.hi_le).below h_q (by have := o_w.hi_le; omega)
    replace box_w := (box_w.drew.below h_p box_w.hi_le).below h_q (by have := box_w.hi_le; omega)
    replace o_x := (o_x.drew.below h_p o_x.hi_le).below h_q (by have := o_x.hi_le; omega)
    replace box_x := (box_x.drew.below h_p box_x.hi_le).below h_q (by have := box_x.hi_le; omega)
    replace o_g := (o_g.drew.below h_p o_g.hi_le).below h_q (by have := o_g.hi_le; omega)
    replace box_g := (box_g.drew.below h_p box_g.hi_le).below h_q (by have := box_g.hi_le; omega)
    replace hB := (hB.drew.trans (h_p.mono hB.size)).trans (h_q.mono (by have := hB.size; omega))
    clear h_p h_q o_y ox2 hx_lt ha_lt
    obtain ⟨q_x0, q_x1, q_x2, q_x3⟩ := box_x.four
    go_wp2_with fail
    refine (markPacket_c _ _ _ _ _ _ _ _ _ _ _ _ _ _ o_x (by omega) (by omega) (by omega)).mono ?_
    rintro e w_7 ⟨rfl, o_x', h_7⟩
    clear q_x0 q_x1 q_x2 q_x3
    have z_7 := h_7.size
    replace hs := hs.only h_7 (by omega)
    replace box_a := box_a.only h_7 (by omega)
    replace o_v := o_v.only h_7 (by omega)
    replace o_w := o_w.only h_7 (by omega)
    replace box_w := box_w.only h_7 (by omega)
    replace box_x := box_x.only h_7 (by omega)
    replace o_g := o_g.only h_7 (by omega)
    replace box_g := box_g.only h_7 (by omega)
    replace hB := Below.only hB h_7 hB.size (by omega)
    clear o_x
    have o_x := o_x'
    clear o_x'
    obtain ⟨q_g0, q_g1, q_g2, q_g3, q_g4, q_g5⟩ := box_g.six
    obtain ⟨q_w0, q_w1, q_w2, q_w3, q_w4, q_w5⟩ := box_w.six
    go_wp2_with fail
    refine (eqPeeled_t _ _ _ _ _ _ _ _ _ _ _ _ _ _ _ _ _ _ _ _ _ _ _ o_g.read o_w.read (by omega) (by omega)).mono ?_
    rintro e w_8 ⟨rfl, h_8⟩
    clear q_g0 q_g1 q_g2 q_g3 q_g4 q_g5 q_w0 q_w1 q_w2 q_w3 q_w4 q_w5
    have z_8 := h_8.size
    replace hs := hs.below h_8 hs.hi_le
    replace box_a := box_a.below h_8 box_a.hi_le
    replace o_v := o_v.below h_8 o_v.hi_le
    replace o_w := o_w.below h_8 o_w.hi_le
    replace box_w := box_w.below h_8 box_w.hi_le
    replace o_x := o_x.below h_8 o_x.hi_le
    replace box_x := box_x.below h_8 box_x.hi_le
    replace o_g := o_g.below h_8 o_g.hi_le
    replace box_g := box_g.below h_8 box_g.hi_le
    replace hB := hB.trans (h_8.mono hB.size)
    obtain ⟨q_g0, q_g1, q_g2, q_g3, q_g4, q_g5⟩ := box_g.six
    go_wp2_with fail
    refine (markPeeled_c _ _ _ _ _ _ _ _ _ _ _ _ _ _ _ _ o_g (by omega) (by omega) (by omega)).mono ?_
    rintro e w_9 ⟨rfl, o_g', h_9⟩
    clear q_g0 q_g1 q_g2 q_g3 q_g4 q_g5
    have z_9 := h_9.size
    replace hs := hs.only h_9 (by omega)
    replace box_a := box_a.only h_9 (by omega)
    replace o_v := o_v.only h_9 (by omega)
    replace o_w := o_w.only h_9 (by omega)
    replace box_w := box_w.only h_9 (by omega)
    replace o_x := o_x.only h_9 (by omega)
    replace box_x := box_x.only h_9 (by omega)
    replace box_g := box_g.only h_9 (by omega)
    replace hB := Below.only hB h_9 hB.size (by omega)
    clear o_g
    have o_g := o_g'
    clear o_g'
    obtain ⟨q_g0, q_g1, q_g2, q_g3, q_g4, q_g5⟩ := box_g.six
    go_wp2_with fail
    refine (heldPeeled_c _ _ _ _ _ _ _ _ _ _ _ _ _ _ o_g.read (by omega) (by omega) (by omega)).mono ?_
    rintro e w_10 ⟨rfl, h_10⟩
    clear q_g0 q_g1 q_g2 q_g3 q_g4 q_g5
    have z_10 := h_10.size
    replace hs := hs.below h_10 hs.hi_le
    replace box_a := box_a.below h_10 box_a.hi_le
    replace o_v := o_v.below h_10 o_v.hi_le
    replace o_w := o_w.below h_10 o_w.hi_le
    replace box_w := box_w.below h_10 box_w.hi_le
    replace o_x := o_x.below h_10 o_x.hi_le
    replace box_x := box_x.below h_10 box_x.hi_le
    replace o_g := o_g.below h_10 o_g.hi_le
    replace box_g := box_g.below h_10 box_g.hi_le
    replace hB := hB.trans (h_10.mono hB.size)
    obtain ⟨q_a0, q_a1, q_a2, q_a3⟩ := box_a.four
    go_wp2_with fail
    refine (toPacket_c _ _ _ _ _ _ _ _ _ _ _ _ _ hs (by omega) (by omega)).mono ?_
    rintro e w_11 ⟨A_y2, n_y2, c_y2, A_y2', n_y2', c_y2', rfl, o_y2, h_11⟩
    clear q_a0 q_a1 q_a2 q_a3
    have z_11 := h_11.size
    replace hs := hs.below h_11 hs.hi_le
    replace box_a := box_a.below h_11 box_a.hi_le
    replace o_v := o_v.below h_11 o_v.hi_le
    replace o_w := o_w.below h_11 o_w.hi_le
    replace box_w := box_w.below h_11 box_w.hi_le
    replace o_x := o_x.below h_11 o_x.hi_le
    replace box_x := box_x.below h_11 box_x.hi_le
    replace o_g := o_g.below h_11 o_g.hi_le
    replace box_g := box_g.below h_11 box_g.hi_le
    replace hB := hB.trans (h_11.mono hB.size)
    have b_y2 : n_y2 ≤ 1048576 ∧ n_y2' ≤ 1048576 := by have h1 := o_y2.len; have h2 := hs.len; omega
    go_wp2_with fail
    refine (packetPeel_p _ _ _ _ _ _ _ _ _ _ _ _ _ _ _ _ o_y2.read HX.out HOK.out).mono ?_
    rintro e w_12 ⟨A_k, n_k, c_k, A_k', n_k', c_k', rfl, o_k, h_12⟩
    have z_12 := h_12.size
    replace hs := hs.below h_12 hs.hi_le
    replace box_a := box_a.below h_12 box_a.hi_le
    replace o_v := o_v.below h_12 o_v.hi_le
    replace o_w := o_w.below h_12 o_w.hi_le
    replace box_w := box_w.below h_12 box_w.hi_le
    replace o_x := o_x.below h_12 o_x.hi_le
    replace box_x := box_x.below h_12 box_x.hi_le
    replace o_g := o_g.below h_12 o_g.hi_le
    replace box_g := box_g.below h_12 box_g.hi_le
    replace o_y2 := o_y2.below h_12 o_y2.hi_le
    replace hB := hB.trans (h_12.mono hB.size)
    have b_k : n_k ≤ 9 ∧ n_k' ≤ 6 := by have h1 := o_k.len; have h2 := hlen; omega
    replace hs := hs.alloc (.cells #[.int .i64 X.kind, .int .i64 X.next, .int .i64 X.p.e, .slice A_k n_k c_k, .int .i64 X.p.t, .slice A_k' n_k' c_k'] 34)
    replace box_a := box_a.alloc (.cells #[.int .i64 X.kind, .int .i64 X.next, .int .i64 X.p.e, .slice A_k n_k c_k, .int .i64 X.p.t, .slice A_k' n_k' c_k'] 34)
    replace o_v := o_v.alloc (.cells #[.int .i64 X.kind, .int .i64 X.next, .int .i64 X.p.e, .slice A_k n_k c_k, .int .i64 X.p.t, .slice A_k' n_k' c_k'] 34)
    replace o_w := o_w.alloc (.cells #[.int .i64 X.kind, .int .i64 X.next, .int .i64 X.p.e, .slice A_k n_k c_k, .int .i64 X.p.t, .slice A_k' n_k' c_k'] 34)
    replace box_w := box_w.alloc (.cells #[.int .i64 X.kind, .int .i64 X.next, .int .i64 X.p.e, .slice A_k n_k c_k, .int .i64 X.p.t, .slice A_k' n_k' c_k'] 34)
    replace o_x := o_x.alloc (.cells #[.int .i64 X.kind, .int .i64 X.next, .int .i64 X.p.e, .slice A_k n_k c_k, .int .i64 X.p.t, .slice A_k' n_k' c_k'] 34)
    replace box_x := box_x.alloc (.cells #[.int .i64 X.kind, .int .i64 X.next, .int .i64 X.p.e, .slice A_k n_k c_k, .int .i64 X.p.t, .slice A_k' n_k' c_k'] 34)
    replace o_g := o_g.alloc (.cells #[.int .i64 X.kind, .int .i64 X.next, .int .i64 X.p.e, .slice A_k n_k c_k, .int .i64 X.p.t, .slice A_k' n_k' c_k'] 34)
    replace box_g := box_g.alloc (.cells #[.int .i64 X.kind, .int .i64 X.next, .int .i64 X.p.e, .slice A_k n_k c_k, .int .i64 X.p.t, .slice A_k' n_k' c_k'] 34)
    replace o_y2 := o_y2.alloc (.cells #[.int .i64 X.kind, .int .i64 X.next, .int .i64 X.p.e, .slice A_k n_k c_k, .int .i64 X.p.t, .slice A_k' n_k' c_k'] 34)
    replace o_k := o_k.alloc (.cells #[.int .i64 X.kind, .int .i64 X.next, .int .i64 X.p.e, .slice A_k n_k c_k, .int .i64 X.p.t, .slice A_k' n_k' c_k'] 34)
    replace hB := hB.alloc hB.size (.cells #[.int .i64 X.kind, .int .i64 X.next, .int .i64 X.p.e, .slice A_k n_k c_k, .int .i64 X.p.t, .slice A_k' n_k' c_k'] 34)
    have box_k := BoxAt.new w_12 #[.int .i64 X.kind, .int .i64 X.next, .int .i64 X.p.e, .slice A_k n_k c_k, .int .i64 X.p.t, .slice A_k' n_k' c_k'] 34
    obtain ⟨s_k1, s_k2⟩ := alloc_size w_12 (.cells #[.int .i64 X.kind, .int .i64 X.next, .int .i64 X.p.e, .slice A_k n_k c_k, .int .i64 X.p.t, .slice A_k' n_k' c_k'] 34)
    obtain ⟨q_k0, q_k1, q_k2, q_k3, q_k4, q_k5⟩ := box_k.six
    obtain ⟨q_w0, q_w1, q_w2, q_w3, q_w4, q_w5⟩ := box_w.six
    go_wp2_with fail
    refine (eqPeeled_t _ _ _ _ _ _ _ _ _ _ _ _ _ _ _ _ _ _ _ _ _ _ _ o_k.read o_w.read (by omega) (by omega)).mono ?_
    rintro e w_13 ⟨rfl, h_13⟩
    clear q_k0 q_k1 q_k2 q_k3 q_k4 q_k5 q_w0 q_w1 q_w2 q_w3 q_w4 q_w5
    have z_13 := h_13.size
    replace hs := hs.below h_13 hs.hi_le
    replace box_a := box_a.below h_13 box_a.hi_le
    replace o_v := o_v.below h_13 o_v.hi_le
    replace o_w := o_w.below h_13 o_w.hi_le
    replace box_w := box_w.below h_13 box_w.hi_le
    replace o_x := o_x.below h_13 o_x.hi_le
    replace box_x := box_x.below h_13 box_x.hi_le
    replace o_g := o_g.below h_13 o_g.hi_le
    replace box_g := box_g.below h_13 box_g.hi_le
    replace o_y2 := o_y2.below h_13 o_y2.hi_le
    replace o_k := o_k.below h_13 o_k.hi_le
    replace box_k := box_k.below h_13 box_k.hi_le
    replace hB := hB.trans (h_13.mono hB.size)
    obtain ⟨q_g0, q_g1, q_g2, q_g3, q_g4, q_g5⟩ := box_g.six
    go_wp2_with fail
    refine (heldPeeled_c _ _ _ _ _ _ _ _ _ _ _ _ _ _ o_g.read (by omega) (by omega) (by omega)).mono ?_
    rintro e w_14 ⟨rfl, h_14⟩
    clear q_g0 q_g1 q_g2 q_g3 q_g4 q_g5
    have z_14 := h_14.size
    replace hs := hs.below h_14 hs.hi_le
    replace box_a := box_a.below h_14 box_a.hi_le
    replace o_v := o_v.below h_14 o_v.hi_le
    replace o_w := o_w.below h_14 o_w.hi_le
    replace box_w := box_w.below h_14 box_w.hi_le
    replace o_x := o_x.below h_14 o_x.hi_le
    replace box_x := box_x.below h_14 box_x.hi_le
    replace o_g := o_g.below h_14 o_g.hi_le
    replace box_g := box_g.below h_14 box_g.hi_le
    replace o_y2 := o_y2.below h_14 o_y2.hi_le
    replace o_k := o_k.below h_14 o_k.hi_le
    replace box_k := box_k.below h_14 box_k.hi_le
    replace hB := hB.trans (h_14.mono hB.size)
    go_wp2_with fail
    go_ret
    exact ⟨rfl, hB⟩
end Go.Proofs.Ytalnilighempmaa
