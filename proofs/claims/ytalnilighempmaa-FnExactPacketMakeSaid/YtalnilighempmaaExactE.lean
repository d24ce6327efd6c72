/-
  The walk of the statement that the program's packets are the reference's.
  Conditions: a slice among the arguments reads as a list of whole numbers.
-/
import Derived.Test.YtalnilighempmaaLawsP
namespace Go.Proofs.Ytalnilighempmaa
open Go Go.RowKit

set_option maxRecDepth 100000 in
set_option maxHeartbeats 6400000 in
theorem wFnExactPacketMake (s : Int) (A : Option Addr) (n c : Nat) (xs : List Int) (A2 : Option Addr) (n2 c2 : Nat) (xs2 : List Int) (to : Int) (A3 : Option Addr) (n3 c3 : Nat) (xs3 : List Int) (w : World) (hs : SlR .i64 w 0 w.heap.size A n xs) (_hl : n ≤ c) (_hc : c ≤ 9223372036854775807) (hs2 : SlR .i64 w 0 w.heap.size A2 n2 xs2) (_hl2 : n2 ≤ c2) (_hc2 : c2 ≤ 9223372036854775807) (hs3 : SlR .i64 w 0 w.heap.size A3 n3 xs3) (_hl3 : n3 ≤ c3) (_hc3 : c3 ≤ 9223372036854775807) : Calls Try.prog 14 #[.int .i64 s, .slice A n c, .slice A2 n2 c2, .int .i64 to, .slice A3 n3 c3] w fun e w' => e = .returned (.bool true) ∧ Below w.heap.size w w' := by
  by_cases hbig : 1048576 < n
  · go_enter Try.func14, Try.ntmps14
    go_wp2
    go_ret
    exact ⟨rfl, Below.refl _ _⟩
  by_cases hbig2 : 1048576 < n2
  · go_enter Try.func14, Try.ntmps14
    go_wp2
    go_ret
    exact ⟨rfl, Below.refl _ _⟩
  by_cases hbig3 : 1048576 < n3
  · go_enter Try.func14, Try.ntmps14
    go_wp2
    go_ret
    exact ⟨rfl, Below.refl _ _⟩
  go_enter Try.func14, Try.ntmps14
  obtain ⟨P, hP⟩ : ∃ P, P = makeP s xs xs2 to xs3 := ⟨_, rfl⟩
  have hlen := makeP_len s to xs xs2 xs3
  rw [← hP] at hlen
  have HP := Lib.hid hP
  clear hP
  obtain ⟨ok, hok⟩ : ∃ b, b = makeB s xs xs2 to xs3 := ⟨_, rfl⟩
  have HOK := Lib.hid hok
  clear hok
  go_wp2_with fail
  refine (toIntS_c _ _ _ _ _ _ _ hs (by omega)).mono ?_
  rintro e w_1 ⟨A_a1, n_a1, c_a1, rfl, o_a1, h_1⟩
  have z_1 := h_1.size
  replace hs := hs.below h_1 hs.hi_le
  replace hs2 := hs2.below h_1 hs2.hi_le
  replace hs3 := hs3.below h_1 hs3.hi_le
  have hB := h_1
  have b_a1 : n_a1 ≤ 4194304 := by have := o_a1.len; have := hs.len; omega
  go_wp2_with fail
  refine (toIntS_c _ _ _ _ _ _ _ hs2 (by omega)).mono ?_
  rintro e w_2 ⟨A_a2, n_a2, c_a2, rfl, o_a2, h_2⟩
  have z_2 := h_2.size
  replace hs := hs.below h_2 hs.hi_le
  replace hs2 := hs2.below h_2 hs2.hi_le
  replace hs3 := hs3.below h_2 hs3.hi_le
  replace o_a1 := o_a1.below h_2 o_a1.2.1
  replace hB := hB.trans (h_2.mono hB.size)
  have b_a2 : n_a2 ≤ 4194304 := by have := o_a2.len; have := hs2.len; omega
  go_wp2_with fail
  refine (toIntS_c _ _ _ _ _ _ _ hs3 (by omega)).mono ?_
  rintro e w_3 ⟨A_a3, n_a3, c_a3, rfl, o_a3, h_3⟩
  have z_3 := h_3.size
  replace hs := hs.below h_3 hs.hi_le
  replace hs2 := hs2.below h_3 hs2.hi_le
  replace hs3 := hs3.below h_3 hs3.hi_le
  replace o_a1 := o_a1.below h_3 o_a1.2.1
  replace o_a2 := o_a2.below h_3 o_a2.2.1
  replace hB := hB.trans (h_3.mono hB.size)
  have b_a3 : n_a3 ≤ 4194304 := by have := o_a3.len; have := hs3.len; omega
  go_wp2_with fail
  refine (sPacketMake_p _ _ _ _ _ _ _ _ _ _ _ _ _ _ _ _ _ _ _ _ _ _ o_a1.read o_a2.read o_a3.read (by omega) (by omega) (by omega) HP.out).mono ?_
  rintro e w_4 ⟨A_w, n_w, c_w, A_w', n_w', c_w', rfl, o_w, h_4⟩
  have z_4 := h_4.size
  replace hs := hs.below h_4 hs.hi_le
  replace hs2 := hs2.below h_4 hs2.hi_le
  replace hs3 := hs3.below h_4 hs3.hi_le
  replace o_a1 := o_a1.below h_4 o_a1.2.1
  replace o_a2 := o_a2.below h_4 o_a2.2.1
  replace o_a3 := o_a3.below h_4 o_a3.2.1
  replace hB := hB.trans (h_4.mono hB.size)
  have b_w : n_w ≤ 9 ∧ n_w' ≤ 6 := by have h1 := o_w.len; have h2 := hlen; omega
  rw [← HOK.out]
  replace hs := hs.alloc (.cells #[.int .i64 P.e, .slice A_w n_w c_w, .int .i64 P.t, .slice A_w' n_w' c_w'] 27)
  replace hs2 := hs2.alloc (.cells #[.int .i64 P.e, .slice A_w n_w c_w, .int .i64 P.t, .slice A_w' n_w' c_w'] 27)
  replace hs3 := hs3.alloc (.cells #[.int .i64 P.e, .slice A_w n_w c_w, .int .i64 P.t, .slice A_w' n_w' c_w'] 27)
  replace o_a1 := o_a1.alloc (.cells #[.int .i64 P.e, .slice A_w n_w c_w, .int .i64 P.t, .slice A_w' n_w' c_w'] 27)
  replace o_a2 := o_a2.alloc (.cells #[.int .i64 P.e, .slice A_w n_w c_w, .int .i64 P.t, .slice A_w' n_w' c_w'] 27)
  replace o_a3 := o_a3.alloc (.cells #[.int .i64 P.e, .slice A_w n_w c_w, .int .i64 P.t, .slice A_w' n_w' c_w'] 27)
  replace o_w := o_w.alloc (.cells #[.int .i64 P.e, .slice A_w n_w c_w, .int .i64 P.t, .slice A_w' n_w' c_w'] 27)
  replace hB := hB.alloc hB.size (.cells #[.int .i64 P.e, .slice A_w n_w c_w, .int .i64 P.t, .slice A_w' n_w' c_w'] 27)
  have box_w := BoxAt.new w_4 #[.int .i64 P.e, .slice A_w n_w c_w, .int .i64 P.t, .slice A_w' n_w' c_w'] 27
  obtain ⟨s_w1, s_w2⟩ := alloc_size w_4 (.cells #[.int .i64 P.e, .slice A_w n_w c_w, .int .i64 P.t, .slice A_w' n_w' c_w'] 27)
  go_wp2_with fail
  refine (toIntS_c _ _ _ _ _ _ _ hs (by omega)).mono ?_
  rintro e w_5 ⟨A_x1, n_x1, c_x1, rfl, o_x1, h_5⟩
  have z_5 := h_5.size
  replace hs := hs.below h_5 hs.hi_le
  replace hs2 := hs2.below h_5 hs2.hi_le
  replace hs3 := hs3.below h_5 hs3.hi_le
  replace o_a1 := o_a1.below h_5 o_a1.2.1
  replace o_a2 := o_a2.below h_5 o_a2.2.1
  replace o_a3 := o_a3.below h_5 o_a3.2.1
  replace o_w := o_w.below h_5 o_w.hi_le
  replace box_w := box_w.below h_5 box_w.hi_le
  replace hB := hB.trans (h_5.mono hB.size)
  have b_x1 : n_x1 ≤ 4194304 := by have := o_x1.len; have := hs.len; omega
  go_wp2_with fail
  refine (toIntS_c _ _ _ _ _ _ _ hs2 (by omega)).mono ?_
  rintro e w_6 ⟨A_x2, n_x2, c_x2, rfl, o_x2, h_6⟩
  have z_6 := h_6.size
  replace hs := hs.below h_6 hs.hi_le
  replace hs2 := hs2.below h_6 hs2.hi_le
  replace hs3 := hs3.below h_6 hs3.hi_le
  replace o_a1 := o_a1.below h_6 o_a1.2.1
  replace o_a2 := o_a2.below h_6 o_a2.2.1
  replace o_a3 := o_a3.below h_6 o_a3.2.1
  replace o_w := o_w.below h_6 o_w.hi_le
  replace box_w := box_w.below h_6 box_w.hi_le
  replace o_x1 := o_x1.below h_6 o_x1.2.1
  replace hB := hB.trans (h_6.mono hB.size)
  have b_x2 : n_x2 ≤ 4194304 := by have := o_x2.len; have := hs2.len; omega
  go_wp2_with fail
  refine (toIntS_c _ _ _ _ _ _ _ hs3 (by omega)).mono ?_
  rintro e w_7 ⟨A_x3, n_x3, c_x3, rfl, o_x3, h_7⟩
  have z_7 := h_7.size
  replace hs := hs.below h_7 hs.hi_le
  replace hs2 := hs2.below h_7 hs2.hi_le
  replace hs3 := hs3.below h_7 hs3.hi_le
  replace o_a1 := o_a1.below h_7 o_a1.2.1
  replace o_a2 := o_a2.below h_7 o_a2.2.1
  replace o_a3 := o_a3.below h_7 o_a3.2.1
  replace o_w := o_w.below h_7 o_w.hi_le
  replace box_w := box_w.below h_7 box_w.hi_le
  replace o_x1 := o_x1.below h_7 o_x1.2.1
  replace o_x2 := o_x2.below h_7 o_x2.2.1
  replace hB := hB.trans (h_7.mono hB.size)
  have b_x3 : n_x3 ≤ 4194304 := by have := o_x3.len; have := hs3.len; omega
  go_wp2_with fail
  refine (packetMake_p _ _ _ _ _ _ _ _ _ _ _ _ _ _ _ _ _ _ _ _ _ _ o_x1.read o_x2.read o_x3.read (by omega) (by omega) HP.out).mono ?_
  rintro e w_8 ⟨A_g, n_g, c_g, A_g', n_g', c_g', rfl, o_g, h_8⟩
  have z_8 := h_8.size
  replace hs := hs.below h_8 hs.hi_le
  replace hs2 := hs2.below h_8 hs2.hi_le
  replace hs3 := hs3.below h_8 hs3.hi_le
  replace o_a1 := o_a1.below h_8 o_a1.2.1
  replace o_a2 := o_a2.below h_8 o_a2.2.1
  replace o_a3 := o_a3.below h_8 o_a3.2.1
  replace o_w := o_w.below h_8 o_w.hi_le
  replace box_w := box_w.below h_8 box_w.hi_le
  replace o_x1 := o_x1.below h_8 o_x1.2.1
  replace o_x2 := o_x2.below h_8 o_x2.2.1
  replace o_x3 := o_x3.below h_8 o_x3.2.1
  replace hB := hB.trans (h_8.mono hB.size)
  have b_g : n_g ≤ 9 ∧ n_g' ≤ 6 := by have h1 := o_g.len; have h2 := hlen; omega
  rw [← HOK.out]
  replace hs := hs.alloc (.cells #[.int .i64 P.e, .slice A_g n_g c_g, .int .i64 P.t, .slice A_g' n_g' c_g'] 27)
  replace hs2 := hs2.alloc (.cells #[.int .i64 P.e, .slice A_g n_g c_g, .int .i64 P.t, .slice A_g' n_g' c_g'] 27)
  replace hs3 := hs3.alloc (.cells #[.int .i64 P.e, .slice A_g n_g c_g, .int .i64 P.t, .slice A_g' n_g' c_g'] 27)
  replace o_a1 := o_a1.alloc (.cells #[.int .i64 P.e, .slice A_g n_g c_g, .int .i64 P.t, .slice A_g' n_g' c_g'] 27)
  replace o_a2 := o_a2.alloc (.cells #[.int .i64 P.e, .slice A_g n_g c_g, .int .i64 P.t, .slice A_g' n_g' c_g'] 27)
  replace o_a3 := o_a3.alloc (.cells #[.int .i64 P.e, .slice A_g n_g c_g, .int .i64 P.t, .slice A_g' n_g' c_g'] 27)
  replace o_w := o_w.alloc (.cells #[.int .i64 P.e, .slice A_g n_g c_g, .int .i64 P.t, .slice A_g' n_g' c_g'] 27)
  replace box_w := box_w.alloc (.cells #[.int .i64 P.e, .slice A_g n_g c_g, .int .i64 P.t, .slice A_g' n_g' c_g'] 27)
  replace o_x1 := o_x1.alloc (.cells #[.int .i64 P.e, .slice A_g n_g c_g, .int .i64 P.t, .slice A_g' n_g' c_g'] 27)
  replace o_x2 := o_x2.alloc (.cells #[.int .i64 P.e, .slice A_g n_g c_g, .int .i64 P.t, .slice A_g' n_g' c_g'] 27)
  replace o_x3 := o_x3.alloc (.cells #[.int .i64 P.e, .slice A_g n_g c_g, .int .i64 P.t, .slice A_g' n_g' c_g'] 27)
  replace o_g := o_g.alloc (.cells #[.int .i64 P.e, .slice A_g n_g c_g, .int .i64 P.t, .slice A_g' n_g' c_g'] 27)
  replace hB := hB.alloc hB.size (.cells #[.int .i64 P.e, .slice A_g n_g c_g, .int .i64 P.t, .slice A_g' n_g' c_g'] 27)
  have box_g := BoxAt.new w_8 #[.int .i64 P.e, .slice A_g n_g c_g, .int .i64 P.t, .slice A_g' n_g' c_g'] 27
  obtain ⟨s_g1, s_g2⟩ := alloc_size w_8 (.cells #[.int .i64 P.e, .slice A_g n_g c_g, .int .i64 P.t, .slice A_g' n_g' c_g'] 27)
  obtain ⟨q_g0, q_g1, q_g2, q_g3⟩ := box_g.four
  obtain ⟨q_w0, q_w1, q_w2, q_w3⟩ := box_w.four
  go_wp2_with fail
  refine (eqPacket_t _ _ _ _ _ _ _ _ _ _ _ _ _ _ _ _ _ _ _ _ _ o_g.read o_w.read (by omega) (by omega)).mono ?_
  rintro e w_9 ⟨rfl, h_9⟩
  clear q_g0 q_g1 q_g2 q_g3 q_w0 q_w1 q_w2 q_w3
  have z_9 := h_9.size
  replace hs := hs.below h_9 hs.hi_le
  replace hs2 := hs2.below h_9 hs2.hi_le
  replace hs3 := hs3.below h_9 hs3.hi_le
  replace o_a1 := o_a1.below h_9 o_a1.2.1
  replace o_a2 := o_a2.below h_9 o_a2.2.1
  replace o_a3 := o_a3.below h_9 o_a3.2.1
  replace o_w := o_w.below h_9 o_w.hi_le
  replace box_w := box_w.below h_9 box_w.hi_le
  replace o_x1 := o_x1.below h_9 o_x1.2.1
  replace o_x2 := o_x2.below h_9 o_x2.2.1
  replace o_x3 := o_x3.below h_9 o_x3.2.1
  replace o_g := o_g.below h_9 o_g.hi_le
  replace box_g := box_g.below h_9 box_g.hi_le
  replace hB := hB.trans (h_9.mono hB.size)
  go_wp2_with fail
  refine (toIntS_c _ _ _ _ _ _ _ hs (by omega)).mono ?_
  rintro e w_10 ⟨A_b1, n_b1, c_b1, rfl, o_b1, h_10⟩
  have z_10 := h_10.size
  replace hs := hs.below h_10 hs.hi_le
  replace hs2 := hs2.below h_10 hs2.hi_le
  replace hs3 := hs3.below h_10 hs3.hi_le
  replace o_a1 := o_a1.below h_10 o_a1.2.1
  replace o_a2 := o_a2.below h_10 o_a2.2.1
  replace o_a3 := o_a3.below h_10 o_a3.2.1
  replace o_w := o_w.below h_10 o_w.hi_le
  replace box_w := box_w.below h_10 box_w.hi_le
  replace o_x1 := o_x1.below h_10 o_x1.2.1
  replace o_x2 := o_x2.below h_10 o_x2.2.1
  replace o_x3 := o_x3.below h_10 o_x3.2.1
  replace o_g := o_g.below h_10 o_g.hi_le
  replace box_g := box_g.below h_10 box_g.hi_le
  replace hB := hB.trans (h_10.mono hB.size)
  have b_b1 : n_b1 ≤ 4194304 := by have := o_b1.len; have := hs.len; omega
  go_wp2_with fail
  refine (eqIntS_t _ _ _ _ _ _ _ _ _ _ _ _ o_x1.read o_b1.read b_x1).mono ?_
  rintro e w_11 ⟨rfl, h_11⟩
  have z_11 := h_11.size
  replace hs := hs.below h_11 hs.hi_le
  replace hs2 := hs2.below h_11 hs2.hi_le
  replace hs3 := hs3.below h_11 hs3.hi_le
  replace o_a1 := o_a1.below h_11 o_a1.2.1
  replace o_a2 := o_a2.below h_11 o_a2.2.1
  replace o_a3 := o_a3.below h_11 o_a3.2.1
  replace o_w := o_w.below h_11 o_w.hi_le
  replace box_w := box_w.below h_11 box_w.hi_le
  replace o_x1 := o_x1.below h_11 o_x1.2.1
  replace o_x2 := o_x2.below h_11 o_x2.2.1
  replace o_x3 := o_x3.below h_11 o_x3.2.1
  replace o_g := o_g.below h_11 o_g.hi_le
  replace box_g := box_g.below h_11 box_g.hi_le
  replace o_b1 := o_b1.below h_11 o_b1.2.1
  replace hB := hB.trans (h_11.mono hB.size)
  go_wp2_with fail
  refine (toIntS_c _ _ _ _ _ _ _ hs2 (by omega)).mono ?_
  rintro e w_12 ⟨A_b2, n_b2, c_b2, rfl, o_b2, h_12⟩
  have z_12 := h_12.size
  replace hs := hs.below h_12 hs.hi_le
  replace hs2 := hs2.below h_12 hs2.hi_le
  replace hs3 := hs3.below h_12 hs3.hi_le
  replace o_a1 := o_a1.below h_12 o_a1.2.1
  replace o_a2 := o_a2.below h_12 o_a2.2.1
  replace o_a3 := o_a3.below h_12 o_a3.2.1
  replace o_w := o_w.below h_12 o_w.hi_le
  replace box_w := box_w.below h_12 box_w.hi_le
  replace o_x1 := o_x1.below h_12 o_x1.2.1
  replace o_x2 := o_x2.below h_12 o_x2.2.1
  replace o_x3 := o_x3.below h_12 o_x3.2.1
  replace o_g := o_g.below h_12 o_g.hi_le
  replace box_g := box_g.below h_12 box_g.hi_le
  replace o_b1 := o_b1.below h_12 o_b1.2.1
  replace hB := hB.trans (h_12.mono hB.size)
  have b_b2 : n_b2 ≤ 4194304 := by have := o_b2.len; have := hs2.len; omega
  go_wp2_with fail
  refine (eqIntS_t _ _ _ _ _ _ _ _ _ _ _ _ o_x2.read o_b2.read b_x2).mono ?_
  rintro e w_13 ⟨rfl, h_13⟩
  have z_13 := h_13.size
  replace hs := hs.below h_13 hs.hi_le
  replace hs2 := hs2.below h_13 hs2.hi_le
  replace hs3 := hs3.below h_13 hs3.hi_le
  replace o_a1 := o_a1.below h_13 o_a1.2.1
  replace o_a2 := o_a2.below h_13 o_a2.2.1
  replace o_a3 := o_a3.below h_13 o_a3.2.1
  replace o_w := o_w.below h_13 o_w.hi_le
  replace box_w := box_w.below h_13 box_w.hi_le
  replace o_x1 := o_x1.below h_13 o_x1.2.1
  replace o_x2 := o_x2.below h_13 o_x2.2.1
  replace o_x3 := o_x3.below h_13 o_x3.2.1
  replace o_g := o_g.below h_13 o_g.hi_le
  replace box_g := box_g.below h_13 box_g.hi_le
  replace o_b1 := o_b1.below h_13 o_b1.2.1
  replace o_b2 := o_b2.below h_13 o_b2.2.1
  replace hB := hB.trans (h_13.mono hB.size)
  go_wp2_with fail
  refine (toIntS_c _ _ _ _ _ _ _ hs3 (by omega)).mono ?_
  rintro e w_14 ⟨A_b3, n_b3, c_b3, rfl, o_b3, h_14⟩
  have z_14 := h_14.size
  replace hs := hs.below h_14 hs.hi_le
  replace hs2 := hs2.below h_14 hs2.hi_le
  replace hs3 := hs3.below h_14 hs3.hi_le
  replace o_a1 := o_a1.below h_14 o_a1.2.1
  replace o_a2 := o_a2.below h_14 o_a2.2.1
  replace o_a3 := o_a3.below h_14 o_a3.2.1
  replace o_w := o_w.below h_14 o_w.hi_le
  replace box_w := box_w.below h_14 box_w.hi_le
  replace o_x1 := o_x1.below h_14 o_x1.2.1
  replace o_x2 := o_x2.below h_14 o_x2.2.1
  replace o_x3 := o_x3.below h_14 o_x3.2.1
  replace o_g := o_g.below h_14 o_g.hi_le
  replace box_g := box_g.below h_14 box_g.hi_le
  replace o_b1 := o_b1.below h_14 o_b1.2.1
  replace o_b2 := o_b2.below h_14 o_b2.2.1
  replace hB := hB.trans (h_14.mono hB.size)
  have b_b3 : n_b3 ≤ 4194304 := by have := o_b3.len; have := hs3.len; omega
  go_wp2_with fail
  refine (eqIntS_t _ _ _ _ _ _ _ _ _ _ _ _ o_x3.read o_b3.read b_x3).mono ?_
  rintro e w_15 ⟨rfl, h_15⟩
  have z_15 := h_15.size
  replace hs := hs.below h_15 hs.hi_le
  replace hs2 := hs2.below h_15 hs2.hi_le
  replace hs3 := hs3.below h_15 hs3.hi_le
  replace o_a1 := o_a1.below h_15 o_a1.2.1
  replace o_a2 := o_a2.below h_15 o_a2.2.1
  replace o_a3 := o_a3.below h_15 o_a3.2.1
  replace o_w := o_w.below h_15 o_w.hi_le
  replace box_w := box_w.below h_15 box_w.hi_le
  replace o_x1 := o_x1.below h_15 o_x1.2.1
  replace o_x2 := o_x2.below h_15 o_x2.2.1
  replace o_x3 := o_x3.below h_15 o_x3.2.1
  replace o_g := o_g.below h_15 o_g.hi_le
  replace box_g := box_g.below h_15 box_g.hi_le
  replace o_b1 := o_b1.below h_15 o_b1.2.1
  replace o_b2 := o_b2.below h_15 o_b2.2.1
  replace o_b3 := o_b3.below h_15 o_b3.2.1
  replace hB := hB.trans (h_15.mono hB.size)
  go_wp2_with fail
  refine (markIntS_c _ _ _ _ _ _ _ _ o_x1 b_x1 (by omega)).mono ?_
  rintro e w_16 ⟨rfl, o_x1', h_16⟩
  have z_16 := h_16.size
  have r_16 := fun g (hg : Value.ownBlock (.slice A_x1 n_x1 c_x1) = some g) => o_x1.block hg
  replace hs := hs.grown h_16 (fun g hg => by have := r_16 g hg; omega)
  replace hs2 := hs2.grown h_16 (fun g hg => by have := r_16 g hg; omega)
  replace hs3 := hs3.grown h_16 (fun g hg => by have := r_16 g hg; omega)
  replace o_a1 := o_a1.grown h_16 (fun g hg => by have := r_16 g hg; omega)
  replace o_a2 := o_a2.grown h_16 (fun g hg => by have := r_16 g hg; omega)
  replace o_a3 := o_a3.grown h_16 (fun g hg => by have := r_16 g hg; omega)
  replace o_w := o_w.grown h_16 (fun g hg => by have := r_16 g hg; omega)
  replace box_w := box_w.grown h_16 (fun g hg => by have := r_16 g hg; omega)
  replace o_x2 := o_x2.grown h_16 (fun g hg => by have := r_16 g hg; omega)
  replace o_x3 := o_x3.grown h_16 (fun g hg => by have := r_16 g hg; omega)
  replace o_g := o_g.grown h_16 (fun g hg => by have := r_16 g hg; omega)
  replace box_g := box_g.grown h_16 (fun g hg => by have := r_16 g hg; omega)
  replace o_b1 := o_b1.grown h_16 (fun g hg => by have := r_16 g hg; omega)
  replace o_b2 := o_b2.grown h_16 (fun g hg => by have := r_16 g hg; omega)
  replace o_b3 := o_b3.grown h_16 (fun g hg => by have := r_16 g hg; omega)
  replace hB := hB.grown h_16 hB.size (fun g hg => by have := r_16 g hg; omega)
  clear o_x1 r_16
  have o_x1 := o_x1'
  clear o_x1'
  go_wp2_with fail
  refine (markIntS_c _ _ _ _ _ _ _ _ o_x2 b_x2 (by omega)).mono ?_
  rintro e w_17 ⟨rfl, o_x2', h_17⟩
  have z_17 := h_17.size
  have r_17 := fun g (hg : Value.ownBlock (.slice A_x2 n_x2 c_x2) = some g) => o_x2.block hg
  replace hs := hs.grown h_17 (fun g hg => by have := r_17 g hg; omega)
  replace hs2 := hs2.grown h_17 (fun g hg => by have := r_17 g hg; omega)
  replace hs3 := hs3.grown h_17 (fun g hg => by have := r_17 g hg; omega)
  replace o_a1 := o_a1.grown h_17 (fun g hg => by have := r_17 g hg; omega)
  replace o_a2 := o_a2.grown h_17 (fun g hg => by have := r_17 g hg; omega)
  replace o_a3 := o_a3.grown h_17 (fun g hg => by have := r_17 g hg; omega)
  replace o_w := o_w.grown h_17 (fun g hg => by have := r_17 g hg; omega)
  replace box_w := box_w.grown h_17 (fun g hg => by have := r_17 g hg; omega)
  replace o_x1 := o_x1.grown h_17 (fun g hg => by have := r_17 g hg; omega)
  replace o_x3 := o_x3.grown h_17 (fun g hg => by have := r_17 g hg; omega)
  replace o_g := o_g.grown h_17 (fun g hg => by have := r_17 g hg; omega)
  replace box_g := box_g.grown h_17 (fun g hg => by have := r_17 g hg; omega)
  replace o_b1 := o_b1.grown h_17 (fun g hg => by have := r_17 g hg; omega)
  replace o_b2 := o_b2.grown h_17 (fun g hg => by have := r_17 g hg; omega)
  replace o_b3 := o_b3.grown h_17 (fun g hg => by have := r_17 g hg; omega)
  replace hB := hB.grown h_17 hB.size (fun g hg => by have := r_17 g hg; omega)
  clear o_x2 r_17
  have o_x2 := o_x2'
  clear o_x2'
  go_wp2_with fail
  refine (markIntS_c _ _ _ _ _ _ _ _ o_x3 b_x3 (by omega)).mono ?_
  rintro e w_18 ⟨rfl, o_x3', h_18⟩
  have z_18 := h_18.size
  have r_18 := fun g (hg : Value.ownBlock (.slice A_x3 n_x3 c_x3) = some g) => o_x3.block hg
  replace hs := hs.grown h_18 (fun g hg => by have := r_18 g hg; omega)
  replace hs2 := hs2.grown h_18 (fun g hg => by have := r_18 g hg; omega)
  replace hs3 := hs3.grown h_18 (fun g hg => by have := r_18 g hg; omega)
  replace o_a1 := o_a1.grown h_18 (fun g hg => by have := r_18 g hg; omega)
  replace o_a2 := o_a2.grown h_18 (fun g hg => by have := r_18 g hg; omega)
  replace o_a3 := o_a3.grown h_18 (fun g hg => by have := r_18 g hg; omega)
  replace o_w := o_w.grown h_18 (fun g hg => by have := r_18 g hg; omega)
  replace box_w := box_w.grown h_18 (fun g hg => by have := r_18 g hg; omega)
  replace o_x1 := o_x1.grown h_18 (fun g hg => by have := r_18 g hg; omega)
  replace o_x2 := o_x2.grown h_18 (fun g hg => by have := r_18 g hg; omega)
  replace o_g := o_g.grown h_18 (fun g hg => by have := r_18 g hg; omega)
  replace box_g := box_g.grown h_18 (fun g hg => by have := r_18 g hg; omega)
  replace o_b1 := o_b1.grown h_18 (fun g hg => by have := r_18 g hg; omega)
  replace o_b2 := o_b2.grown h_18 (fun g hg => by have := r_18 g hg; omega)
  replace o_b3 := o_b3.grown h_18 (fun g hg => by have := r_18 g hg; omega)
  replace hB := hB.grown h_18 hB.size (fun g hg => by have := r_18 g hg; omega)
  clear o_x3 r_18
  have o_x3 := o_x3'
  clear o_x3'
  obtain ⟨q_g0, q_g1, q_g2, q_g3⟩ := box_g.four
  obtain ⟨q_w0, q_w1, q_w2, q_w3⟩ := box_w.four
  go_wp2_with fail
  refine (eqPacket_t _ _ _ _ _ _ _ _ _ _ _ _ _ _ _ _ _ _ _ _ _ o_g.read o_w.read (by omega) (by omega)).mono ?_
  rintro e w_19 ⟨rfl, h_19⟩
  clear q_g0 q_g1 q_g2 q_g3 q_w0 q_w1 q_w2 q_w3
  have z_19 := h_19.size
  replace hs := hs.below h_19 hs.hi_le
  replace hs2 := hs2.below h_19 hs2.hi_le
  replace hs3 := hs3.below h_19 hs3.hi_le
  replace o_a1 := o_a1.below h_19 o_a1.2.1
  replace o_a2 := o_a2.below h_19 o_a2.2.1
  replace o_a3 := o_a3.below h_19 o_a3.2.1
  replace o_w := o_w.below h_19 o_w.hi_le
  replace box_w := box_w.below h_19 box_w.hi_le
  replace o_x1 := o_x1.below h_19 o_x1.2.1
  replace o_x2 := o_x2.below h_19 o_x2.2.1
  replace o_x3 := o_x3.below h_19 o_x3.2.1
  replace o_g := o_g.below h_19 o_g.hi_le
  replace box_g := box_g.below h_19 box_g.hi_le
  replace o_b1 := o_b1.below h_19 o_b1.2.1
  replace o_b2 := o_b2.below h_19 o_b2.2.1
  replace o_b3 := o_b3.below h_19 o_b3.2.1
  replace hB := hB.trans (h_19.mono hB.size)
  obtain ⟨q_g0, q_g1, q_g2, q_g3⟩ := box_g.four
  go_wp2_with fail
  refine (markPacket_c _ _ _ _ _ _ _ _ _ _ _ _ _ _ o_g (by omega) (by omega) (by omega)).mono ?_
  rintro e w_20 ⟨rfl, o_g', h_20⟩
  clear q_g0 q_g1 q_g2 q_g3
  have z_20 := h_20.size
  replace hs := hs.only h_20 (by omega)
  replace hs2 := hs2.only h_20 (by omega)
  replace hs3 := hs3.only h_20 (by omega)
  replace o_a1 := o_a1.only h_20 (by omega)
  replace o_a2 := o_a2.only h_20 (by omega)
  replace o_a3 := o_a3.only h_20 (by omega)
  replace o_w := o_w.only h_20 (by omega)
  replace box_w := box_w.only h_20 (by omega)
  replace o_x1 := o_x1.only h_20 (by omega)
  replace o_x2 := o_x2.only h_20 (by omega)
  replace o_x3 := o_x3.only h_20 (by omega)
  replace box_g := box_g.only h_20 (by omega)
  replace o_b1 := o_b1.only h_20 (by omega)
  replace o_b2 := o_b2.only h_20 (by omega)
  replace o_b3 := o_b3.only h_20 (by omega)
  replace hB := Below.only hB h_20 hB.size (by omega)
  clear o_g
  have o_g := o_g'
  clear o_g'
  obtain ⟨q_g0, q_g1, q_g2, q_g3⟩ := box_g.four
  go_wp2_with fail
  refine (heldPacket_c _ _ _ _ _ _ _ _ _ _ _ _ o_g.read (by omega) (by omega) (by omega)).mono ?_
  rintro e w_21 ⟨rfl, h_21⟩
  clear q_g0 q_g1 q_g2 q_g3
  have z_21 := h_21.size
  replace hs := hs.below h_21 hs.hi_le
  replace hs2 := hs2.below h_21 hs2.hi_le
  replace hs3 := hs3.below h_21 hs3.hi_le
  replace o_a1 := o_a1.below h_21 o_a1.2.1
  replace o_a2 := o_a2.below h_21 o_a2.2.1
  replace o_a3 := o_a3.below h_21 o_a3.2.1
  replace o_w := o_w.below h_21 o_w.hi_le
  replace box_w := box_w.below h_21 box_w.hi_le
  replace o_x1 := o_x1.below h_21 o_x1.2.1
  replace o_x2 := o_x2.below h_21 o_x2.2.1
  replace o_x3 := o_x3.below h_21 o_x3.2.1
  replace o_g := o_g.below h_21 o_g.hi_le
  replace box_g := box_g.below h_21 box_g.hi_le
  replace o_b1 := o_b1.below h_21 o_b1.2.1
  replace o_b2 := o_b2.below h_21 o_b2.2.1
  replace o_b3 := o_b3.below h_21 o_b3.2.1
  replace hB := hB.trans (h_21.mono hB.size)
  go_wp2_with fail
  refine (toIntS_c _ _ _ _ _ _ _ hs (by omega)).mono ?_
  rintro e w_22 ⟨A_d1, n_d1, c_d1, rfl, o_d1, h_22⟩
  have z_22 := h_22.size
  replace hs := hs.below h_22 hs.hi_le
  replace hs2 := hs2.below h_22 hs2.hi_le
  replace hs3 := hs3.below h_22 hs3.hi_le
  replace o_a1 := o_a1.below h_22 o_a1.2.1
  replace o_a2 := o_a2.below h_22 o_a2.2.1
  replace o_a3 := o_a3.below h_22 o_a3.2.1
  replace o_w := o_w.below h_22 o_w.hi_le
  replace box_w := box_w.below h_22 box_w.hi_le
  replace o_x1 := o_x1.below h_22 o_x1.2.1
  replace o_x2 := o_x2.below h_22 o_x2.2.1
  replace o_x3 := o_x3.below h_22 o_x3.2.1
  replace o_g := o_g.below h_22 o_g.hi_le
  replace box_g := box_g.below h_22 box_g.hi_le
  replace o_b1 := o_b1.below h_22 o_b1.2.1
  replace o_b2 := o_b2.below h_22 o_b2.2.1
  replace o_b3 := o_b3.below h_22 o_b3.2.1
  replace hB := hB.trans (h_22.mono hB.size)
  have b_d1 : n_d1 ≤ 4194304 := by have := o_d1.len; have := hs.len; omega
  go_wp2_with fail
  refine (toIntS_c _ _ _ _ _ _ _ hs2 (by omega)).mono ?_
  rintro e w_23 ⟨A_d2, n_d2, c_d2, rfl, o_d2, h_23⟩
  have z_23 := h_23.size
  replace hs := hs.below h_23 hs.hi_le
  replace hs2 := hs2.below h_23 hs2.hi_le
  replace hs3 := hs3.below h_23 hs3.hi_le
  replace o_a1 := o_a1.below h_23 o_a1.2.1
  replace o_a2 := o_a2.below h_23 o_a2.2.1
  replace o_a3 := o_a3.below h_23 o_a3.2.1
  replace o_w := o_w.below h_23 o_w.hi_le
  replace box_w := box_w.below h_23 box_w.hi_le
  replace o_x1 := o_x1.below h_23 o_x1.2.1
  replace o_x2 := o_x2.below h_23 o_x2.2.1
  replace o_x3 := o_x3.below h_23 o_x3.2.1
  replace o_g := o_g.below h_23 o_g.hi_le
  replace box_g := box_g.below h_23 box_g.hi_le
  replace o_b1 := o_b1.below h_23 o_b1.2.1
  replace o_b2 := o_b2.below h_23 o_b2.2.1
  replace o_b3 := o_b3.below h_23 o_b3.2.1
  replace o_d1 := o_d1.below h_23 o_d1.2.1
  replace hB := hB.trans (h_23.mono hB.size)
  have b_d2 : n_d2 ≤ 4194304 := by have := o_d2.len; have := hs2.len; omega
  go_wp2_with fail
  refine (toIntS_c _ _ _ _ _ _ _ hs3 (by omega)).mono ?_
  rintro e w_24 ⟨A_d3, n_d3, c_d3, rfl, o_d3, h_24⟩
  have z_24 := h_24.size
  replace hs := hs.below h_24 hs.hi_le
  replace hs2 := hs2.below h_24 hs2.hi_le
  replace hs3 := hs3.below h_24 hs3.hi_le
  replace o_a1 := o_a1.below h_24 o_a1.2.1
  replace o_a2 := o_a2.below h_24 o_a2.2.1
  replace o_a3 := o_a3.below h_24 o_a3.2.1
  replace o_w := o_w.below h_24 o_w.hi_le
  replace box_w := box_w.below h_24 box_w.hi_le
  replace o_x1 := o_x1.below h_24 o_x1.2.1
  replace o_x2 := o_x2.below h_24 o_x2.2.1
  replace o_x3 := o_x3.below h_24 o_x3.2.1
  replace o_g := o_g.below h_24 o_g.hi_le
  replace box_g := box_g.below h_24 box_g.hi_le
  replace o_b1 := o_b1.below h_24 o_b1.2.1
  replace o_b2 := o_b2.below h_24 o_b2.2.1
  replace o_b3 := o_b3.below h_24 o_b3.2.1
  replace o_d1 := o_d1.below h_24 o_d1.2.1
  replace o_d2 := o_d2.below h_24 o_d2.2.1
  replace hB := hB.trans (h_24.mono hB.size)
  have b_d3 : n_d3 ≤ 4194304 := by have := o_d3.len; have := hs3.len; omega
  go_wp2_with fail
  refine (packetMake_p _ _ _ _ _ _ _ _ _ _ _ _ _ _ _ _ _ _ _ _ _ _ o_d1.read o_d2.read o_d3.read (by omega) (by omega) HP.out).mono ?_
  rintro e w_25 ⟨A_h, n_h, c_h, A_h', n_h', c_h', rfl, o_h, h_25⟩
  have z_25 := h_25.size
  replace hs := hs.below h_25 hs.hi_le
  replace hs2 := hs2.below h_25 hs2.hi_le
  replace hs3 := hs3.below h_25 hs3.hi_le
  replace o_a1 := o_a1.below h_25 o_a1.2.1
  replace o_a2 := o_a2.below h_25 o_a2.2.1
  replace o_a3 := o_a3.below h_25 o_a3.2.1
  replace o_w := o_w.below h_25 o_w.hi_le
  replace box_w := box_w.below h_25 box_w.hi_le
  replace o_x1 := o_x1.below h_25 o_x1.2.1
  replace o_x2 := o_x2.below h_25 o_x2.2.1
  replace o_x3 := o_x3.below h_25 o_x3.2.1
  replace o_g := o_g.below h_25 o_g.hi_le
  replace box_g := box_g.below h_25 box_g.hi_le
  replace o_b1 := o_b1.below h_25 o_b1.2.1
  replace o_b2 := o_b2.below h_25 o_b2.2.1
  replace o_b3 := o_b3.below h_25 o_b3.2.1
  replace o_d1 := o_d1.below h_25 o_d1.2.1
  replace o_d2 := o_d2.below h_25 o_d2.2.1
  replace o_d3 := o_d3.below h_25 o_d3.2.1
  replace hB := hB.trans (h_25.mono hB.size)
  have b_h : n_h ≤ 9 ∧ n_h' ≤ 6 := by have h1 := o_h.len; have h2 := hlen; omega
  rw [← HOK.out]
  replace hs := hs.alloc (.cells #[.int .i64 P.e, .slice A_h n_h c_h, .int .i64 P.t, .slice A_h' n_h' c_h'] 27)
  replace hs2 := hs2.alloc (.cells #[.int .i64 P.e, .slice A_h n_h c_h, .int .i64 P.t, .slice A_h' n_h' c_h'] 27)
  replace hs3 := hs3.alloc (.cells #[.int .i64 P.e, .slice A_h n_h c_h, .int .i64 P.t, .slice A_h' n_h' c_h'] 27)
  replace o_a1 := o_a1.alloc (.cells #[.int .i64 P.e, .slice A_h n_h c_h, .int .i64 P.t, .slice A_h' n_h' c_h'] 27)
  replace o_a2 := o_a2.alloc (.cells #[.int .i64 P.e, .slice A_h n_h c_h, .int .i64 P.t, .slice A_h' n_h' c_h'] 27)
  replace o_a3 := o_a3.alloc (.cells #[.int .i64 P.e, .slice A_h n_h c_h, .int .i64 P.t, .slice A_h' n_h' c_h'] 27)
  replace o_w := o_w.alloc (.cells #[.int .i64 P.e, .slice A_h n_h c_h, .int .i64 P.t, .slice A_h' n_h' c_h'] 27)
  replace box_w := box_w.alloc (.cells #[.int .i64 P.e, .slice A_h n_h c_h, .int .i64 P.t, .slice A_h' n_h' c_h'] 27)
  replace o_x1 := o_x1.alloc (.cells #[.int .i64 P.e, .slice A_h n_h c_h, .int .i64 P.t, .slice A_h' n_h' c_h'] 27)
  replace o_x2 := o_x2.alloc (.cells #[.int .i64 P.e, .slice A_h n_h c_h, .int .i64 P.t, .slice A_h' n_h' c_h'] 27)
  replace o_x3 := o_x3.alloc (.cells #[.int .i64 P.e, .slice A_h n_h c_h, .int .i64 P.t, .slice A_h' n_h' c_h'] 27)
  replace o_g := o_g.alloc (.cells #[.int .i64 P.e, .slice A_h n_h c_h, .int .i64 P.t, .slice A_h' n_h' c_h'] 27)
  replace box_g := box_g.alloc (.cells #[.int .i64 P.e, .slice A_h n_h c_h, .int .i64 P.t, .slice A_h' n_h' c_h'] 27)
  replace o_b1 := o_b1.alloc (.cells #[.int .i64 P.e, .slice A_h n_h c_h, .int .i64 P.t, .slice A_h' n_h' c_h'] 27)
  replace o_b2 := o_b2.alloc (.cells #[.int .i64 P.e, .slice A_h n_h c_h, .int .i64 P.t, .slice A_h' n_h' c_h'] 27)
  replace o_b3 := o_b3.alloc (.cells #[.int .i64 P.e, .slice A_h n_h c_h, .int .i64 P.t, .slice A_h' n_h' c_h'] 27)
  replace o_d1 := o_d1.alloc (.cells #[.int .i64 P.e, .slice A_h n_h c_h, .int .i64 P.t, .slice A_h' n_h' c_h'] 27)
  replace o_d2 := o_d2.alloc (.cells #[.int .i64 P.e, .slice A_h n_h c_h, .int .i64 P.t, .slice A_h' n_h' c_h'] 27)
  replace o_d3 := o_d3.alloc (.cells #[.int .i64 P.e, .slice A_h n_h c_h, .int .i64 P.t, .slice A_h' n_h' c_h'] 27)
  replace o_h := o_h.alloc (.cells #[.int .i64 P.e, .slice A_h n_h c_h, .int .i64 P.t, .slice A_h' n_h' c_h'] 27)
  replace hB := hB.alloc hB.size (.cells #[.int .i64 P.e, .slice A_h n_h c_h, .int .i64 P.t, .slice A_h' n_h' c_h'] 27)
  have box_h := BoxAt.new w_25 #[.int .i64 P.e, .slice A_h n_h c_h, .int .i64 P.t, .slice A_h' n_h' c_h'] 27
  obtain ⟨s_h1, s_h2⟩ := alloc_size w_25 (.cells #[.int .i64 P.e, .slice A_h n_h c_h, .int .i64 P.t, .slice A_h' n_h' c_h'] 27)
  obtain ⟨q_h0, q_h1, q_h2, q_h3⟩ := box_h.four
  obtain ⟨q_w0, q_w1, q_w2, q_w3⟩ := box_w.four
  go_wp2_with fail
  refine (eqPacket_t _ _ _ _ _ _ _ _ _ _ _ _ _ _ _ _ _ _ _ _ _ o_h.read o_w.read (by omega) (by omega)).mono ?_
  rintro e w_26 ⟨rfl, h_26⟩
  clear q_h0 q_h1 q_h2 q_h3 q_w0 q_w1 q_w2 q_w3
  have z_26 := h_26.size
  replace hs := hs.below h_26 hs.hi_le
  replace hs2 := hs2.below h_26 hs2.hi_le
  replace hs3 := hs3.below h_26 hs3.hi_le
  replace o_a1 := o_a1.below h_26 o_a1.2.1
  replace o_a2 := o_a2.below h_26 o_a2.2.1
  replace o_a3 := o_a3.below h_26 o_a3.2.1
  replace o_w := o_w.below h_26 o_w.hi_le
  replace box_w := box_w.below h_26 box_w.hi_le
  replace o_x1 := o_x1.below h_26 o_x1.2.1
  replace o_x2 := o_x2.below h_26 o_x2.2.1
  replace o_x3 := o_x3.below h_26 o_x3.2.1
  replace o_g := o_g.below h_26 o_g.hi_le
  replace box_g := box_g.below h_26 box_g.hi_le
  replace o_b1 := o_b1.below h_26 o_b1.2.1
  replace o_b2 := o_b2.below h_26 o_b2.2.1
  replace o_b3 := o_b3.below h_26 o_b3.2.1
  replace o_d1 := o_d1.below h_26 o_d1.2.1
  replace o_d2 := o_d2.below h_26 o_d2.2.1
  replace o_d3 := o_d3.below h_26 o_d3.2.1
  replace o_h := o_h.below h_26 o_h.hi_le
  replace box_h := box_h.below h_26 box_h.hi_le
  replace hB := hB.trans (h_26.mono hB.size)
  obtain ⟨q_g0, q_g1, q_g2, q_g3⟩ := box_g.four
  go_wp2_with fail
  refine (heldPacket_c _ _ _ _ _ _ _ _ _ _ _ _ o_g.read (by omega) (by omega) (by omega)).mono ?_
  rintro e w_27 ⟨rfl, h_27⟩
  clear q_g0 q_g1 q_g2 q_g3
  have z_27 := h_27.size
  replace hs := hs.below h_27 hs.hi_le
  replace hs2 := hs2.below h_27 hs2.hi_le
  replace hs3 := hs3.below h_27 hs3.hi_le
  replace o_a1 := o_a1.below h_27 o_a1.2.1
  replace o_a2 := o_a2.below h_27 o_a2.2.1
  replace o_a3 := o_a3.below h_27 o_a3.2.1
  replace o_w := o_w.below h_27 o_w.hi_le
  replace box_w := box_w.below h_27 box_w.hi_le
  replace o_x1 := o_x1.below h_27 o_x1.2.1
  replace o_x2 := o_x2.below h_27 o_x2.2.1
  replace o_x3 := o_x3.below h_27 o_x3.2.1
  replace o_g := o_g.below h_27 o_g.hi_le
  replace box_g := box_g.below h_27 box_g.hi_le
  replace o_b1 := o_b1.below h_27 o_b1.2.1
  replace o_b2 := o_b2.below h_27 o_b2.2.1
  replace o_b3 := o_b3.below h_27 o_b3.2.1
  replace o_d1 := o_d1.below h_27 o_d1.2.1
  replace o_d2 := o_d2.below h_27 o_d2.2.1
  replace o_d3 := o_d3.below h_27 o_d3.2.1
  replace o_h := o_h.below h_27 o_h.hi_le
  replace box_h := box_h.below h_27 box_h.hi_le
  replace hB := hB.trans (h_27.mono hB.size)
  go_wp2_with fail
  go_ret
  exact ⟨rfl, hB⟩
end Go.Proofs.Ytalnilighempmaa
