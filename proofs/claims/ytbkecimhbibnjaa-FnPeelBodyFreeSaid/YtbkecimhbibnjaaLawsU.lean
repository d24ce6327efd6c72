/-
  The walks of the statements on packets that are changed and then peeled.
  Conditions: the arguments read as lists of bytes.
-/
import Derived.Test.YtbkecimhbibnjaaLawsR
import Derived.IntWalk
namespace Go.Proofs.Ytbkecimhbibnjaa
open Go Go.RowKit

theorem share1 {P N : Int → Prop} {G : Prop} (h1 : (∀ a, N a → P a) → G) (h2 : ∀ a, N a → P a) : G := h1 h2
theorem packetPeel_f (s e t : Int) (A : Option Addr) (n c : Nat) (A2 : Option Addr) (n2 c2 : Nat) (lo hi : Nat) (h b : List Int) (w : World) (hs : TwoR w lo hi h b A n c A2 n2 c2) (hp : peelB s ⟨e, h, t, b⟩ = false) : Calls Try.prog 26 #[.int .i64 s, .agg #[.int .i64 e, .slice A n c, .int .i64 t, .slice A2 n2 c2]] w (NewPeel zeroPeel false w) := by
  have h1 := packetPeel_c s e t A n c A2 n2 c2 lo hi h b w hs
  rw [peelP_no hp, hp] at h1
  exact h1
set_option maxRecDepth 100000 in
set_option maxHeartbeats 1600000 in
theorem wFnPeelHeader (A : Option Addr) (n c : Nat) (xs : List Int) (A2 : Option Addr) (n2 c2 : Nat) (xs2 : List Int) (w : World) (hs : SlR .u8 w 0 w.heap.size A n xs) (hl : n ≤ c) (hc : c ≤ 9223372036854775807) (hb : ∀ x ∈ xs, 0 ≤ x ∧ x ≤ 255) (_hs2 : SlR .u8 w 0 w.heap.size A2 n2 xs2) (_hl2 : n2 ≤ c2) (_hc2 : c2 ≤ 9223372036854775807) (_hb2 : ∀ x ∈ xs2, 0 ≤ x ∧ x ≤ 255) : Calls Try.prog 12 #[.slice A n c, .slice A2 n2 c2] w fun e w' => e = .returned (.bool true) ∧ Below w.heap.size w w' := by
  by_cases hbig : 1048576 < n
  · go_enter Try.func12, Try.ntmps12
    go_wp2
    go_ret
    exact ⟨rfl, Below.refl _ _⟩
  by_cases hbig2 : 1048576 < n2
  · go_enter Try.func12, Try.ntmps12
    go_wp2
    go_ret
    exact ⟨rfl, Below.refl _ _⟩
  go_enter Try.func12, Try.ntmps12
  go_wp2_with fail
  refine (drawPacketPeel_c A n c xs w hs hb hl hc).mono ?_
  rintro e w_1 ⟨s, P, A_d, n_d, c_d, A_d', n_d', c_d', rfl, o_d, b_d, b_d', h_1⟩
  have z_1 := h_1.size
  have hB := h_1
  replace o_d := o_d.alloc (.cells #[.int .i64 P.e, .slice A_d n_d c_d, .int .i64 P.t, .slice A_d' n_d' c_d'] 42)
  replace hB := hB.alloc hB.size (.cells #[.int .i64 P.e, .slice A_d n_d c_d, .int .i64 P.t, .slice A_d' n_d' c_d'] 42)
  have box_d := BoxAt.new w_1 #[.int .i64 P.e, .slice A_d n_d c_d, .int .i64 P.t, .slice A_d' n_d' c_d'] 42
  obtain ⟨s_d1, s_d2⟩ := alloc_size w_1 (.cells #[.int .i64 P.e, .slice A_d n_d c_d, .int .i64 P.t, .slice A_d' n_d' c_d'] 42)
  obtain ⟨X, hX⟩ : ∃ X, X = peelP s P := ⟨_, rfl⟩
  have hlen := peelP_len s P
  rw [← hX] at hlen
  have HX := Lib.hid hX
  obtain ⟨ok, hok⟩ : ∃ b', b' = peelB s P := ⟨_, rfl⟩
  have HOK := Lib.hid hok
  clear hX hok
  obtain ⟨q_d0, q_d1, q_d2, q_d3⟩ := box_d.four
  go_wp2_with fail
  refine (packetPeel_p _ _ _ _ _ _ _ _ _ _ _ _ _ _ _ _ o_d.read' HX.out HOK.out).mono ?_
  rintro e w_2 ⟨A_out, n_out, c_out, A_out', n_out', c_out', rfl, o_out, h_2⟩
  clear q_d0 q_d1 q_d2 q_d3
  have z_2 := h_2.size
  replace o_d := o_d.below h_2 o_d.hi_le
  replace box_d := box_d.below h_2 box_d.hi_le
  replace hB := hB.trans (h_2.mono hB.size)
  have b_out : n_out ≤ 9 ∧ n_out' ≤ 6 := by have h1 := o_out.len; have h2 := hlen; omega
  replace o_d := o_d.alloc (.cells #[.int .i64 (X).kind, .int .i64 (X).next, .int .i64 (X).p.e, .slice A_out n_out c_out, .int .i64 (X).p.t, .slice A_out' n_out' c_out'] 46)
  replace box_d := box_d.alloc (.cells #[.int .i64 (X).kind, .int .i64 (X).next, .int .i64 (X).p.e, .slice A_out n_out c_out, .int .i64 (X).p.t, .slice A_out' n_out' c_out'] 46)
  replace o_out := o_out.alloc (.cells #[.int .i64 (X).kind, .int .i64 (X).next, .int .i64 (X).p.e, .slice A_out n_out c_out, .int .i64 (X).p.t, .slice A_out' n_out' c_out'] 46)
  replace hB := hB.alloc hB.size (.cells #[.int .i64 (X).kind, .int .i64 (X).next, .int .i64 (X).p.e, .slice A_out n_out c_out, .int .i64 (X).p.t, .slice A_out' n_out' c_out'] 46)
  have box_out := BoxAt.new w_2 #[.int .i64 (X).kind, .int .i64 (X).next, .int .i64 (X).p.e, .slice A_out n_out c_out, .int .i64 (X).p.t, .slice A_out' n_out' c_out'] 46
  obtain ⟨s_out1, s_out2⟩ := alloc_size w_2 (.cells #[.int .i64 (X).kind, .int .i64 (X).next, .int .i64 (X).p.e, .slice A_out n_out c_out, .int .i64 (X).p.t, .slice A_out' n_out' c_out'] 46)
  obtain ⟨q_d0, q_d1, q_d2, q_d3⟩ := box_d.four
  go_wp2_with fail
  refine (sPacketPeel_p _ _ _ _ _ _ _ _ _ _ _ _ _ _ _ _ o_d.read' HX.out HOK.out (by omega) (by omega)).mono ?_
  rintro e w_3 ⟨A_want, n_want, c_want, A_want', n_want', c_want', rfl, o_want, h_3⟩
  clear q_d0 q_d1 q_d2 q_d3
  have z_3 := h_3.size
  replace o_d := o_d.below h_3 o_d.hi_le
  replace box_d := box_d.below h_3 box_d.hi_le
  replace o_out := o_out.below h_3 o_out.hi_le
  replace box_out := box_out.below h_3 box_out.hi_le
  replace hB := hB.trans (h_3.mono hB.size)
  have b_want : n_want ≤ 9 ∧ n_want' ≤ 6 := by have h1 := o_want.len; have h2 := hlen; omega
  replace o_d := o_d.alloc (.cells #[.int .i64 (X).kind, .int .i64 (X).next, .int .i64 (X).p.e, .slice A_want n_want c_want, .int .i64 (X).p.t, .slice A_want' n_want' c_want'] 46)
  replace box_d := box_d.alloc (.cells #[.int .i64 (X).kind, .int .i64 (X).next, .int .i64 (X).p.e, .slice A_want n_want c_want, .int .i64 (X).p.t, .slice A_want' n_want' c_want'] 46)
  replace o_out := o_out.alloc (.cells #[.int .i64 (X).kind, .int .i64 (X).next, .int .i64 (X).p.e, .slice A_want n_want c_want, .int .i64 (X).p.t, .slice A_want' n_want' c_want'] 46)
  replace box_out := box_out.alloc (.cells #[.int .i64 (X).kind, .int .i64 (X).next, .int .i64 (X).p.e, .slice A_want n_want c_want, .int .i64 (X).p.t, .slice A_want' n_want' c_want'] 46)
  replace o_want := o_want.alloc (.cells #[.int .i64 (X).kind, .int .i64 (X).next, .int .i64 (X).p.e, .slice A_want n_want c_want, .int .i64 (X).p.t, .slice A_want' n_want' c_want'] 46)
  replace hB := hB.alloc hB.size (.cells #[.int .i64 (X).kind, .int .i64 (X).next, .int .i64 (X).p.e, .slice A_want n_want c_want, .int .i64 (X).p.t, .slice A_want' n_want' c_want'] 46)
  have box_want := BoxAt.new w_3 #[.int .i64 (X).kind, .int .i64 (X).next, .int .i64 (X).p.e, .slice A_want n_want c_want, .int .i64 (X).p.t, .slice A_want' n_want' c_want'] 46
  obtain ⟨s_want1, s_want2⟩ := alloc_size w_3 (.cells #[.int .i64 (X).kind, .int .i64 (X).next, .int .i64 (X).p.e, .slice A_want n_want c_want, .int .i64 (X).p.t, .slice A_want' n_want' c_want'] 46)
  cases ok with
  | false =>
    obtain ⟨q_out0, q_out1, q_out2, q_out3, q_out4, q_out5⟩ := box_out.six
    obtain ⟨q_want0, q_want1, q_want2, q_want3, q_want4, q_want5⟩ := box_want.six
    go_wp2_with fail
    refine (samePeeled_t _ _ _ _ _ _ _ _ _ _ _ _ _ _ _ _ _ _ _ _ _ _ _ o_out.read o_want.read (by omega) (by omega)).mono ?_
    rintro e w_4 ⟨rfl, h_4⟩
    clear q_out0 q_out1 q_out2 q_out3 q_out4 q_out5 q_want0 q_want1 q_want2 q_want3 q_want4 q_want5
    have z_4 := h_4.size
    replace o_d := o_d.below h_4 o_d.hi_le
    replace box_d := box_d.below h_4 box_d.hi_le
    replace o_out := o_out.below h_4 o_out.hi_le
    replace box_out := box_out.below h_4 box_out.hi_le
    replace o_want := o_want.below h_4 o_want.hi_le
    replace box_want := box_want.below h_4 box_want.hi_le
    replace hB := hB.trans (h_4.mono hB.size)
    obtain ⟨q_out0, q_out1, q_out2, q_out3, q_out4, q_out5⟩ := box_out.six
    obtain ⟨q_want0, q_want1, q_want2, q_want3, q_want4, q_want5⟩ := box_want.six
    go_wp2_with fail
    refine (samePeeled_t _ _ _ _ _ _ _ _ _ _ _ _ _ _ _ _ _ _ _ _ _ _ _ o_out.read o_want.read (by omega) (by omega)).mono ?_
    rintro e w_5 ⟨rfl, h_5⟩
    clear q_out0 q_out1 q_out2 q_out3 q_out4 q_out5 q_want0 q_want1 q_want2 q_want3 q_want4 q_want5
    have z_5 := h_5.size
    replace o_d := o_d.below h_5 o_d.hi_le
    replace box_d := box_d.below h_5 box_d.hi_le
    replace o_out := o_out.below h_5 o_out.hi_le
    replace box_out := box_out.below h_5 box_out.hi_le
    replace o_want := o_want.below h_5 o_want.hi_le
    replace box_want := box_want.below h_5 box_want.hi_le
    replace hB := hB.trans (h_5.mono hB.size)
    go_wp2_with fail
    go_ret
    exact ⟨ret_b (by first | rfl | simp), hB⟩
  | true =>
    obtain ⟨q_out0, q_out1, q_out2, q_out3, q_out4, q_out5⟩ := box_out.six
    obtain ⟨q_want0, q_want1, q_want2, q_want3, q_want4, q_want5⟩ := box_want.six
    go_wp2_with fail
    refine (samePeeled_t _ _ _ _ _ _ _ _ _ _ _ _ _ _ _ _ _ _ _ _ _ _ _ o_out.read o_want.read (by omega) (by omega)).mono ?_
    rintro e w_4 ⟨rfl, h_4⟩
    clear q_out0 q_out1 q_out2 q_out3 q_out4 q_out5 q_want0 q_want1 q_want2 q_want3 q_want4 q_want5
    have z_4 := h_4.size
    replace o_d := o_d.below h_4 o_d.hi_le
    replace box_d := box_d.below h_4 box_d.hi_le
    replace o_out := o_out.below h_4 o_out.hi_le
    replace box_out := box_out.below h_4 box_out.hi_le
    replace o_want := o_want.below h_4 o_want.hi_le
    replace box_want := box_want.below h_4 box_want.hi_le
    replace hB := hB.trans (h_4.mono hB.size)
    have hpb := HOK.out.symm
    have hxl := HX.out.trans (peelP_yes hpb)
    obtain ⟨hse, hv, htg, hkd, hnm⟩ := peelB_iff.1 hpb
    obtain ⟨hve, hvh, hv9, hvb, hv6, hvt⟩ := validB_iff.1 hv
    have hxv := peelL_valid hpb
    rw [← hxl] at hxv
    obtain ⟨_, _, hx9, _, hx6, _⟩ := validB_iff.1 hxv
    obtain ⟨rfl, rfl⟩ : n_d = 9 ∧ n_d' = 6 := by have := o_d.len; omega
    obtain ⟨rfl, rfl⟩ : n_out = 9 ∧ n_out' = 6 := by have := o_out.len; omega
    have hke : elB (mulP s P.e) = true := mulP_el hse hve
    have HPB := Lib.hid hpb
    have HXL := Lib.hid hxl
    have HXV := Lib.hid hxv
    have HTG := Lib.hid htg
    have HVH := Lib.hid hvh
    have HVB := Lib.hid hvb
    have HV9 := Lib.hid hv9
    have HV6 := Lib.hid hv6
    have HVT := Lib.hid hvt
    have HKE := Lib.hid hke
    have HX9 := Lib.hid hx9
    clear hpb hxl hse hv htg hkd hnm hve hvh hv9 hvb hv6 hvt hxv hx9 hx6 hke HX HOK
    obtain ⟨i0, hi0, hz0, hz1, hz2⟩ := info_parts Try.infoInt
    have hk0 : n2 % 10 < 10 := Nat.mod_lt _ (by omega)
    obtain ⟨j, hj⟩ : ∃ j, j = n2 % 10 := ⟨_, rfl⟩
    rw [← hj] at hk0
    have hji : (n2 : Int) % 10 = (j : Int) := by omega
    have HJ := Lib.hid hj
    clear hj
    obtain ⟨q_d0, q_d1, q_d2, q_d3⟩ := box_d.four
    replace o_d := o_d.alloc (.cells #[.int .i64 P.e, .slice A_d 9 c_d, .int .i64 P.t, .slice A_d' 6 c_d'] 42)
    replace box_d := box_d.alloc (.cells #[.int .i64 P.e, .slice A_d 9 c_d, .int .i64 P.t, .slice A_d' 6 c_d'] 42)
    replace o_out := o_out.alloc (.cells #[.int .i64 P.e, .slice A_d 9 c_d, .int .i64 P.t, .slice A_d' 6 c_d'] 42)
    replace box_out := box_out.alloc (.cells #[.int .i64 P.e, .slice A_d 9 c_d, .int .i64 P.t, .slice A_d' 6 c_d'] 42)
    replace o_want := o_want.alloc (.cells #[.int .i64 P.e, .slice A_d 9 c_d, .int .i64 P.t, .slice A_d' 6 c_d'] 42)
    replace box_want := box_want.alloc (.cells #[.int .i64 P.e, .slice A_d 9 c_d, .int .i64 P.t, .slice A_d' 6 c_d'] 42)
    replace hB := hB.alloc hB.size (.cells #[.int .i64 P.e, .slice A_d 9 c_d, .int .i64 P.t, .slice A_d' 6 c_d'] 42)
    have box_x := BoxAt.new w_4 #[.int .i64 P.e, .slice A_d 9 c_d, .int .i64 P.t, .slice A_d' 6 c_d'] 42
    obtain ⟨s_x1, s_x2⟩ := alloc_size w_4 (.cells #[.int .i64 P.e, .slice A_d 9 c_d, .int .i64 P.t, .slice A_d' 6 c_d'] 42)
    obtain ⟨r_d0, r_d1, r_d2, r_d3⟩ := (box_d.alloc (.cells #[] 3)).four
    go_wp2_with (at_builtin; go_must (refine wpList_append_new2 (w_4.alloc (.cells #[.int .i64 P.e, .slice A_d 9 c_d, .int .i64 P.t, .slice A_d' 6 c_d'] 42)) (w_4.heap.size + 1) (by simp) rfl _ _ 23 rfl 3 i0 Try.underlying23 hi0 hz0 hz1 hz2 rfl _ _ _ _ _ (P.h) rfl o_d.1 (by omega) ?_))
    intro A_c c_c w_5 o_c h_5
    clear q_d0 q_d1 q_d2 q_d3 r_d0 r_d1 r_d2 r_d3
    have z_5 := h_5.size
    replace o_d := o_d.below h_5 (by have := o_d.hi_le; omega)
    replace box_d := box_d.below h_5 (by have := box_d.hi_le; omega)
    replace o_out := o_out.below h_5 (by have := o_out.hi_le; omega)
    replace box_out := box_out.below h_5 (by have := box_out.hi_le; omega)
    replace o_want := o_want.below h_5 (by have := o_want.hi_le; omega)
    replace box_want := box_want.below h_5 (by have := box_want.hi_le; omega)
    replace box_x := box_x.below h_5 (by have := box_x.hi_le; omega)
    replace hB := hB.trans (h_5.mono (by have := hB.size; omega))
    obtain ⟨g_c, rfl, hgc1, hgc2, hcc, hff⟩ := o_c.at_ (by omega)
    obtain ⟨q_x0, q_x1, q_x2, q_x3⟩ := box_x.four
    obtain ⟨q_d0, q_d1, q_d2, q_d3⟩ := box_d.four
    have ff_x := box_x.frozen
    have hnd : ¬ w_1.heap.size = w_4.heap.size := by omega
    have hnd2 : ¬ w_4.heap.size = w_1.heap.size := by omega
    clear hcc hff
    clear box_d
    clear o_out
    clear box_out
    clear o_want
    clear box_want
    replace o_d := o_d.only (one_only w_5 w_4.heap.size 1 (.slice (some ⟨g_c, 0, none⟩) 9 c_c)) (.inl (by omega))
    replace o_c := o_c.only (one_only w_5 w_4.heap.size 1 (.slice (some ⟨g_c, 0, none⟩) 9 c_c)) (.inr (by omega))
    replace box_x := box_x.set 1 (.slice (some ⟨g_c, 0, none⟩) 9 c_c)
    have hB' := Below.only hB (one_only w_5 w_4.heap.size 1 (.slice (some ⟨g_c, 0, none⟩) 9 c_c)) hB.size (by omega)
    clear hB
    have hB := hB'
    clear hB'
    by_cases hk9 : j < 9
    · have hk9i : (j : Int) < 9 := by omega
      obtain ⟨_, hq, -, -, hcc, hff⟩ := o_c.at_ (by omega)
      injection hq with hq; injection hq with hq; subst hq
      obtain ⟨old, hold⟩ : ∃ v, v = P.h.getD j 0 := ⟨_, rfl⟩
      have ce := hcc j hk9
      rw [← hold] at ce
      have fe := hff j
      have hor := listB_at HVH.out (i := j) (by rw [HV9.out]; exact hk9)
      rw [← hold] at hor
      have HOLD := Lib.hid hold
      have HOR := Lib.hid hor
      obtain ⟨k0, k1, k2, k3⟩ := box_x.four
      have hj0 : (0 : Int) ≤ (j : Int) := Int.natCast_nonneg _
      have hm0 : (0 : Int) ≤ (n : Int) % 989 := Int.emod_nonneg _ (by omega)
      have hm1 : (n : Int) % 989 < 989 := Int.emod_lt_of_pos _ (by omega)
      clear hcc hff hold hor
      go_wp2_with fail
      
      have HBX := Lib.hid box_x
      have HG := Lib.hid (show g_c ≠ w_4.heap.size by omega)
      apply share1 (N := fun y => 0 ≤ y ∧ y ≤ 990 ∧ y ≠ old)
      case h1 =>
        intro main
        go_region_with
          ((go_at_call 36; refine (another_c old _ _ HOR.out hm0 (by omega)).mono ?_; rintro e w' ⟨y, rfl, y0, y1, yn, rfl⟩; have hy := And.intro y0 (And.intro y1 yn)))
        all_goals exact main y hy
      case h2 =>
      rintro y ⟨y0, y1, yn⟩
      have st := (OwnR.drew o_c).stored j y
      have hset := peel_header HPB.out (j := j) (y := y) hk9 ⟨y0, y1⟩ (by rw [← HOLD.out]; exact yn)
      have HSET := Lib.hid hset
      have od2 := o_d.drew.only (one_only _ g_c j (.int .i64 y)) (.inl (by omega))
      have bx2 := BoxAt.other (p := ⟨g_c, j, none⟩) HBX.out.drew HG.out (.int .i64 y)
      have hB2 := Below.only hB.drew (one_only _ g_c j (.int .i64 y)) hB.drew.size (by omega)
      clear hB o_d box_x k0 k1 k2 k3 ce fe hset ff_x yn
      have hB := hB2
      have two : TwoR ((w_5.setCell ⟨w_4.heap.size, 1, none⟩ (.slice (some ⟨g_c, 0, none⟩) 9 c_c)).drew.setCell ⟨g_c, j, none⟩ (.int .i64 y)) 0 ((w_5.setCell ⟨w_4.heap.size, 1, none⟩ (.slice (some ⟨g_c, 0, none⟩) 9 c_c)).drew.setCell ⟨g_c, j, none⟩ (.int .i64 y)).heap.size (P.h.set j y) P.b (some ⟨g_c, 0, none⟩) 9 c_c A_d' 6 c_d' := ⟨st.1.read.wider (Nat.zero_le _) st.1.2.1 (Nat.le_refl _), od2.2.1.wider (Nat.zero_le _) od2.hi_le (Nat.le_refl _), o_c.cap, od2.2.2.2⟩
      obtain ⟨k0, k1, k2, k3⟩ := bx2.four
      clear hB2 st od2 o_c
      go_wp2_with fail
      refine (packetPeel_f s P.e _ _ _ _ _ _ _ _ _ _ _ _ two HSET.out).mono ?_
      rintro e w_6 ⟨A_v, n_v, c_v, A_v', n_v', c_v', rfl, o_v, h_6⟩
      have z_6 := h_6.size
      replace hB := hB.trans (h_6.mono hB.size)
      clear k0 k1 k2 k3 bx2 two
      replace hB := hB.alloc hB.size (.cells #[.int .i64 0, .int .i64 0, .int .i64 0, .slice A_v n_v c_v, .int .i64 0, .slice A_v' n_v' c_v'] 46)
      have box_v := BoxAt.new w_6 #[.int .i64 0, .int .i64 0, .int .i64 0, .slice A_v n_v c_v, .int .i64 0, .slice A_v' n_v' c_v'] 46
      obtain ⟨s_v1, s_v2⟩ := alloc_size w_6 (.cells #[.int .i64 0, .int .i64 0, .int .i64 0, .slice A_v n_v c_v, .int .i64 0, .slice A_v' n_v' c_v'] 46)
      go_wp2_with fail
      go_ret
      exact ⟨ret_b (by first | rfl | simp), hB⟩
    · have hk9i : ¬ (j : Int) < 9 := by omega
      have hvt := HVT.out
      have HVT2 := HVT
      obtain ⟨k0, k1, k2, k3⟩ := box_x.four
      have hm0 : (0 : Int) ≤ (n : Int) % 989 := Int.emod_nonneg _ (by omega)
      have hm1 : (n : Int) % 989 < 989 := Int.emod_lt_of_pos _ (by omega)
      go_wp2_with fail
      refine (another_c P.t _ _ HVT2.out hm0 (by omega)).mono ?_
      rintro e w' ⟨y, rfl, y0, y1, yn, rfl⟩
      have hset := peel_tag HPB.out (y := y) yn
      have HSET := Lib.hid hset
      have fx := box_x.frozen
      have bx2 := box_x.set 2 (.int .i64 y)
      have od2 := o_d.only (one_only _ w_4.heap.size 2 (.int .i64 y)) (.inl (by omega))
      have hB2 := Below.only hB (one_only _ w_4.heap.size 2 (.int .i64 y)) hB.size (by omega)
      have oc2 := o_c.only (one_only _ w_4.heap.size 2 (.int .i64 y)) (.inr (by omega))
      clear hB o_d box_x hset yn hvt
      have hB := hB2
      have two : TwoR ((w_5.setCell ⟨w_4.heap.size, 1, none⟩ (.slice (some ⟨g_c, 0, none⟩) 9 c_c)).setCell ⟨w_4.heap.size, 2, none⟩ (.int .i64 y)) 0 ((w_5.setCell ⟨w_4.heap.size, 1, none⟩ (.slice (some ⟨g_c, 0, none⟩) 9 c_c)).setCell ⟨w_4.heap.size, 2, none⟩ (.int .i64 y)).heap.size P.h P.b (some ⟨g_c, 0, none⟩) 9 c_c A_d' 6 c_d' := ⟨oc2.read.wider (Nat.zero_le _) oc2.2.1 (Nat.le_refl _), od2.2.1.wider (Nat.zero_le _) od2.hi_le (Nat.le_refl _), oc2.cap, od2.2.2.2⟩
      clear hB2 oc2 od2 o_c bx2
      go_wp2_with fail
      refine (packetPeel_f s P.e _ _ _ _ _ _ _ _ _ _ _ _ two HSET.out).mono ?_
      rintro e w_6 ⟨A_v, n_v, c_v, A_v', n_v', c_v', rfl, o_v, h_6⟩
      have z_6 := h_6.size
      replace hB := hB.trans (h_6.mono hB.size)
      clear k0 k1 k2 k3 fx two
      replace hB := hB.alloc hB.size (.cells #[.int .i64 0, .int .i64 0, .int .i64 0, .slice A_v n_v c_v, .int .i64 0, .slice A_v' n_v' c_v'] 46)
      have box_v := BoxAt.new w_6 #[.int .i64 0, .int .i64 0, .int .i64 0, .slice A_v n_v c_v, .int .i64 0, .slice A_v' n_v' c_v'] 46
      obtain ⟨s_v1, s_v2⟩ := alloc_size w_6 (.cells #[.int .i64 0, .int .i64 0, .int .i64 0, .slice A_v n_v c_v, .int .i64 0, .slice A_v' n_v' c_v'] 46)
      go_wp2_with fail
      go_ret
      exact ⟨ret_b (by first | rfl | simp), hB⟩
set_option maxRecDepth 100000 in
set_option maxHeartbeats 1600000 in
theorem wFnPeelBodyFree (A : Option Addr) (n c : Nat) (xs : List Int) (A2 : Option Addr) (n2 c2 : Nat) (xs2 : List Int) (w : World) (hs : SlR .u8 w 0 w.heap.size A n xs) (hl : n ≤ c) (hc : c ≤ 9223372036854775807) (hb : ∀ x ∈ xs, 0 ≤ x ∧ x ≤ 255) (_hs2 : SlR .u8 w 0 w.heap.size A2 n2 xs2) (_hl2 : n2 ≤ c2) (_hc2 : c2 ≤ 9223372036854775807) (_hb2 : ∀ x ∈ xs2, 0 ≤ x ∧ x ≤ 255) : Calls Try.prog 11 #[.slice A n c, .slice A2 n2 c2] w fun e w' => e = .returned (.bool true) ∧ Below w.heap.size w w' := by
  by_cases hbig : 1048576 < n
  · go_enter Try.func11, Try.ntmps11
    go_wp2
    go_ret
    exact ⟨rfl, Below.refl _ _⟩
  by_cases hbig2 : 1048576 < n2
  · go_enter Try.func11, Try.ntmps11
    go_wp2
    go_ret
    exact ⟨rfl, Below.refl _ _⟩
  go_enter Try.func11, Try.ntmps11
  go_wp2_with fail
  refine (drawPacketPeel_c A n c xs w hs hb hl hc).mono ?_
  rintro e w_1 ⟨s, P, A_d, n_d, c_d, A_d', n_d', c_d', rfl, o_d, b_d, b_d', h_1⟩
  have z_1 := h_1.size
  have hB := h_1
  replace o_d := o_d.alloc (.cells #[.int .i64 P.e, .slice A_d n_d c_d, .int .i64 P.t, .slice A_d' n_d' c_d'] 42)
  replace hB := hB.alloc hB.size (.cells #[.int .i64 P.e, .slice A_d n_d c_d, .int .i64 P.t, .slice A_d' n_d' c_d'] 42)
  have box_d := BoxAt.new w_1 #[.int .i64 P.e, .slice A_d n_d c_d, .int .i64 P.t, .slice A_d' n_d' c_d'] 42
  obtain ⟨s_d1, s_d2⟩ := alloc_size w_1 (.cells #[.int .i64 P.e, .slice A_d n_d c_d, .int .i64 P.t, .slice A_d' n_d' c_d'] 42)
  obtain ⟨X, hX⟩ : ∃ X, X = peelP s P := ⟨_, rfl⟩
  have hlen := peelP_len s P
  rw [← hX] at hlen
  have HX := Lib.hid hX
  obtain ⟨ok, hok⟩ : ∃ b', b' = peelB s P := ⟨_, rfl⟩
  have HOK := Lib.hid hok
  clear hX hok
  obtain ⟨q_d0, q_d1, q_d2, q_d3⟩ := box_d.four
  go_wp2_with fail
  refine (packetPeel_p _ _ _ _ _ _ _ _ _ _ _ _ _ _ _ _ o_d.read' HX.out HOK.out).mono ?_
  rintro e w_2 ⟨A_out, n_out, c_out, A_out', n_out', c_out', rfl, o_out, h_2⟩
  clear q_d0 q_d1 q_d2 q_d3
  have z_2 := h_2.size
  replace o_d := o_d.below h_2 o_d.hi_le
  replace box_d := box_d.below h_2 box_d.hi_le
  replace hB := hB.trans (h_2.mono hB.size)
  have b_out : n_out ≤ 9 ∧ n_out' ≤ 6 := by have h1 := o_out.len; have h2 := hlen; omega
  replace o_d := o_d.alloc (.cells #[.int .i64 (X).kind, .int .i64 (X).next, .int .i64 (X).p.e, .slice A_out n_out c_out, .int .i64 (X).p.t, .slice A_out' n_out' c_out'] 46)
  replace box_d := box_d.alloc (.cells #[.int .i64 (X).kind, .int .i64 (X).next, .int .i64 (X).p.e, .slice A_out n_out c_out, .int .i64 (X).p.t, .slice A_out' n_out' c_out'] 46)
  replace o_out := o_out.alloc (.cells #[.int .i64 (X).kind, .int .i64 (X).next, .int .i64 (X).p.e, .slice A_out n_out c_out, .int .i64 (X).p.t, .slice A_out' n_out' c_out'] 46)
  replace hB := hB.alloc hB.size (.cells #[.int .i64 (X).kind, .int .i64 (X).next, .int .i64 (X).p.e, .slice A_out n_out c_out, .int .i64 (X).p.t, .slice A_out' n_out' c_out'] 46)
  have box_out := BoxAt.new w_2 #[.int .i64 (X).kind, .int .i64 (X).next, .int .i64 (X).p.e, .slice A_out n_out c_out, .int .i64 (X).p.t, .slice A_out' n_out' c_out'] 46
  obtain ⟨s_out1, s_out2⟩ := alloc_size w_2 (.cells #[.int .i64 (X).kind, .int .i64 (X).next, .int .i64 (X).p.e, .slice A_out n_out c_out, .int .i64 (X).p.t, .slice A_out' n_out' c_out'] 46)
  obtain ⟨q_d0, q_d1, q_d2, q_d3⟩ := box_d.four
  go_wp2_with fail
  refine (sPacketPeel_p _ _ _ _ _ _ _ _ _ _ _ _ _ _ _ _ o_d.read' HX.out HOK.out (by omega) (by omega)).mono ?_
  rintro e w_3 ⟨A_want, n_want, c_want, A_want', n_want', c_want', rfl, o_want, h_3⟩
  clear q_d0 q_d1 q_d2 q_d3
  have z_3 := h_3.size
  replace o_d := o_d.below h_3 o_d.hi_le
  replace box_d := box_d.below h_3 box_d.hi_le
  replace o_out := o_out.below h_3 o_out.hi_le
  replace box_out := box_out.below h_3 box_out.hi_le
  replace hB := hB.trans (h_3.mono hB.size)
  have b_want : n_want ≤ 9 ∧ n_want' ≤ 6 := by have h1 := o_want.len; have h2 := hlen; omega
  replace o_d := o_d.alloc (.cells #[.int .i64 (X).kind, .int .i64 (X).next, .int .i64 (X).p.e, .slice A_want n_want c_want, .int .i64 (X).p.t, .slice A_want' n_want' c_want'] 46)
  replace box_d := box_d.alloc (.cells #[.int .i64 (X).kind, .int .i64 (X).next, .int .i64 (X).p.e, .slice A_want n_want c_want, .int .i64 (X).p.t, .slice A_want' n_want' c_want'] 46)
  replace o_out := o_out.alloc (.cells #[.int .i64 (X).kind, .int .i64 (X).next, .int .i64 (X).p.e, .slice A_want n_want c_want, .int .i64 (X).p.t, .slice A_want' n_want' c_want'] 46)
  replace box_out := box_out.alloc (.cells #[.int .i64 (X).kind, .int .i64 (X).next, .int .i64 (X).p.e, .slice A_want n_want c_want, .int .i64 (X).p.t, .slice A_want' n_want' c_want'] 46)
  replace o_want := o_want.alloc (.cells #[.int .i64 (X).kind, .int .i64 (X).next, .int .i64 (X).p.e, .slice A_want n_want c_want, .int .i64 (X).p.t, .slice A_want' n_want' c_want'] 46)
  replace hB := hB.alloc hB.size (.cells #[.int .i64 (X).kind, .int .i64 (X).next, .int .i64 (X).p.e, .slice A_want n_want c_want, .int .i64 (X).p.t, .slice A_want' n_want' c_want'] 46)
  have box_want := BoxAt.new w_3 #[.int .i64 (X).kind, .int .i64 (X).next, .int .i64 (X).p.e, .slice A_want n_want c_want, .int .i64 (X).p.t, .slice A_want' n_want' c_want'] 46
  obtain ⟨s_want1, s_want2⟩ := alloc_size w_3 (.cells #[.int .i64 (X).kind, .int .i64 (X).next, .int .i64 (X).p.e, .slice A_want n_want c_want, .int .i64 (X).p.t, .slice A_want' n_want' c_want'] 46)
  cases ok with
  | false =>
    obtain ⟨q_out0, q_out1, q_out2, q_out3, q_out4, q_out5⟩ := box_out.six
    obtain ⟨q_want0, q_want1, q_want2, q_want3, q_want4, q_want5⟩ := box_want.six
    go_wp2_with fail
    refine (samePeeled_t _ _ _ _ _ _ _ _ _ _ _ _ _ _ _ _ _ _ _ _ _ _ _ o_out.read o_want.read (by omega) (by omega)).mono ?_
    rintro e w_4 ⟨rfl, h_4⟩
    clear q_out0 q_out1 q_out2 q_out3 q_out4 q_out5 q_want0 q_want1 q_want2 q_want3 q_want4 q_want5
    have z_4 := h_4.size
    replace o_d := o_d.below h_4 o_d.hi_le
    replace box_d := box_d.below h_4 box_d.hi_le
    replace o_out := o_out.below h_4 o_out.hi_le
    replace box_out := box_out.below h_4 box_out.hi_le
    replace o_want := o_want.below h_4 o_want.hi_le
    replace box_want := box_want.below h_4 box_want.hi_le
    replace hB := hB.trans (h_4.mono hB.size)
    obtain ⟨q_out0, q_out1, q_out2, q_out3, q_out4, q_out5⟩ := box_out.six
    obtain ⟨q_want0, q_want1, q_want2, q_want3, q_want4, q_want5⟩ := box_want.six
    go_wp2_with fail
    refine (samePeeled_t _ _ _ _ _ _ _ _ _ _ _ _ _ _ _ _ _ _ _ _ _ _ _ o_out.read o_want.read (by omega) (by omega)).mono ?_
    rintro e w_5 ⟨rfl, h_5⟩
    clear q_out0 q_out1 q_out2 q_out3 q_out4 q_out5 q_want0 q_want1 q_want2 q_want3 q_want4 q_want5
    have z_5 := h_5.size
    replace o_d := o_d.below h_5 o_d.hi_le
    replace box_d := box_d.below h_5 box_d.hi_le
    replace o_out := o_out.below h_5 o_out.hi_le
    replace box_out := box_out.below h_5 box_out.hi_le
    replace o_want := o_want.below h_5 o_want.hi_le
    replace box_want := box_want.below h_5 box_want.hi_le
    replace hB := hB.trans (h_5.mono hB.size)
    go_wp2_with fail
    go_ret
    exact ⟨ret_b (by first | rfl | simp), hB⟩
  | true =>
    obtain ⟨q_out0, q_out1, q_out2, q_out3, q_out4, q_out5⟩ := box_out.six
    obtain ⟨q_want0, q_want1, q_want2, q_want3, q_want4, q_want5⟩ := box_want.six
    go_wp2_with fail
    refine (samePeeled_t _ _ _ _ _ _ _ _ _ _ _ _ _ _ _ _ _ _ _ _ _ _ _ o_out.read o_want.read (by omega) (by omega)).mono ?_
    rintro e w_4 ⟨rfl, h_4⟩
    clear q_out0 q_out1 q_out2 q_out3 q_out4 q_out5 q_want0 q_want1 q_want2 q_want3 q_want4 q_want5
    have z_4 := h_4.size
    replace o_d := o_d.below h_4 o_d.hi_le
    replace box_d := box_d.below h_4 box_d.hi_le
    replace o_out := o_out.below h_4 o_out.hi_le
    replace box_out := box_out.below h_4 box_out.hi_le
    replace o_want := o_want.below h_4 o_want.hi_le
    replace box_want := box_want.below h_4 box_want.hi_le
    replace hB := hB.trans (h_4.mono hB.size)
    have hpb := HOK.out.symm
    have hxl := HX.out.trans (peelP_yes hpb)
    obtain ⟨hse, hv, htg, hkd, hnm⟩ := peelB_iff.1 hpb
    obtain ⟨hve, hvh, hv9, hvb, hv6, hvt⟩ := validB_iff.1 hv
    have hxv := peelL_valid hpb
    rw [← hxl] at hxv
    obtain ⟨_, _, hx9, _, hx6, _⟩ := validB_iff.1 hxv
    obtain ⟨rfl, rfl⟩ : n_d = 9 ∧ n_d' = 6 := by have := o_d.len; omega
    obtain ⟨rfl, rfl⟩ : n_out = 9 ∧ n_out' = 6 := by have := o_out.len; omega
    have hke : elB (mulP s P.e) = true := mulP_el hse hve
    have HPB := Lib.hid hpb
    have HXL := Lib.hid hxl
    have HXV := Lib.hid hxv
    have HTG := Lib.hid htg
    have HVH := Lib.hid hvh
    have HVB := Lib.hid hvb
    have HV9 := Lib.hid hv9
    have HV6 := Lib.hid hv6
    have HVT := Lib.hid hvt
    have HKE := Lib.hid hke
    have HX9 := Lib.hid hx9
    clear hpb hxl hse hv htg hkd hnm hve hvh hv9 hvb hv6 hvt hxv hx9 hx6 hke HX HOK
    obtain ⟨i0, hi0, hz0, hz1, hz2⟩ := info_parts Try.infoInt
    have hk0 : n2 % 6 < 6 := Nat.mod_lt _ (by omega)
    obtain ⟨j, hj⟩ : ∃ j, j = n2 % 6 := ⟨_, rfl⟩
    rw [← hj] at hk0
    have hji : (n2 : Int) % 6 = (j : Int) := by omega
    have HJ := Lib.hid hj
    clear hj
    obtain ⟨q_d0, q_d1, q_d2, q_d3⟩ := box_d.four
    replace o_d := o_d.alloc (.cells #[.int .i64 P.e, .slice A_d 9 c_d, .int .i64 P.t, .slice A_d' 6 c_d'] 42)
    replace box_d := box_d.alloc (.cells #[.int .i64 P.e, .slice A_d 9 c_d, .int .i64 P.t, .slice A_d' 6 c_d'] 42)
    replace o_out := o_out.alloc (.cells #[.int .i64 P.e, .slice A_d 9 c_d, .int .i64 P.t, .slice A_d' 6 c_d'] 42)
    replace box_out := box_out.alloc (.cells #[.int .i64 P.e, .slice A_d 9 c_d, .int .i64 P.t, .slice A_d' 6 c_d'] 42)
    replace o_want := o_want.alloc (.cells #[.int .i64 P.e, .slice A_d 9 c_d, .int .i64 P.t, .slice A_d' 6 c_d'] 42)
    replace box_want := box_want.alloc (.cells #[.int .i64 P.e, .slice A_d 9 c_d, .int .i64 P.t, .slice A_d' 6 c_d'] 42)
    replace hB := hB.alloc hB.size (.cells #[.int .i64 P.e, .slice A_d 9 c_d, .int .i64 P.t, .slice A_d' 6 c_d'] 42)
    have box_x := BoxAt.new w_4 #[.int .i64 P.e, .slice A_d 9 c_d, .int .i64 P.t, .slice A_d' 6 c_d'] 42
    obtain ⟨s_x1, s_x2⟩ := alloc_size w_4 (.cells #[.int .i64 P.e, .slice A_d 9 c_d, .int .i64 P.t, .slice A_d' 6 c_d'] 42)
    obtain ⟨r_d0, r_d1, r_d2, r_d3⟩ := (box_d.alloc (.cells #[] 3)).four
    go_wp2_with (at_builtin; go_must (refine wpList_append_new2 (w_4.alloc (.cells #[.int .i64 P.e, .slice A_d 9 c_d, .int .i64 P.t, .slice A_d' 6 c_d'] 42)) (w_4.heap.size + 1) (by simp) rfl _ _ 23 rfl 3 i0 Try.underlying23 hi0 hz0 hz1 hz2 rfl _ _ _ _ _ (P.b) rfl o_d.2.1 (by omega) ?_))
    intro A_c c_c w_5 o_c h_5
    clear q_d0 q_d1 q_d2 q_d3 r_d0 r_d1 r_d2 r_d3
    have z_5 := h_5.size
    replace o_d := o_d.below h_5 (by have := o_d.hi_le; omega)
    replace box_d := box_d.below h_5 (by have := box_d.hi_le; omega)
    replace o_out := o_out.below h_5 (by have := o_out.hi_le; omega)
    replace box_out := box_out.below h_5 (by have := box_out.hi_le; omega)
    replace o_want := o_want.below h_5 (by have := o_want.hi_le; omega)
    replace box_want := box_want.below h_5 (by have := box_want.hi_le; omega)
    replace box_x := box_x.below h_5 (by have := box_x.hi_le; omega)
    replace hB := hB.trans (h_5.mono (by have := hB.size; omega))
    obtain ⟨g_c, rfl, hgc1, hgc2, hcc, hff⟩ := o_c.at_ (by omega)
    obtain ⟨q_x0, q_x1, q_x2, q_x3⟩ := box_x.four
    obtain ⟨q_d0, q_d1, q_d2, q_d3⟩ := box_d.four
    have ff_x := box_x.frozen
    have hnd : ¬ w_1.heap.size = w_4.heap.size := by omega
    have hnd2 : ¬ w_4.heap.size = w_1.heap.size := by omega
    clear hcc hff
    clear box_d
    clear o_want
    clear box_want
    replace o_d := o_d.only (one_only w_5 w_4.heap.size 3 (.slice (some ⟨g_c, 0, none⟩) 6 c_c)) (.inl (by omega))
    replace o_c := o_c.only (one_only w_5 w_4.heap.size 3 (.slice (some ⟨g_c, 0, none⟩) 6 c_c)) (.inr (by omega))
    replace box_x := box_x.set 3 (.slice (some ⟨g_c, 0, none⟩) 6 c_c)
    replace o_out := o_out.only (one_only w_5 w_4.heap.size 3 (.slice (some ⟨g_c, 0, none⟩) 6 c_c)) (.inl (by omega))
    replace box_out := box_out.only (one_only w_5 w_4.heap.size 3 (.slice (some ⟨g_c, 0, none⟩) 6 c_c)) (.inl (by omega))
    have hB' := Below.only hB (one_only w_5 w_4.heap.size 3 (.slice (some ⟨g_c, 0, none⟩) 6 c_c)) hB.size (by omega)
    clear hB
    have hB := hB'
    clear hB'
    have hk9i : (j : Int) < 6 := by omega
    obtain ⟨_, hq, -, -, hcc, hff⟩ := o_c.at_ (by omega)
    injection hq with hq; injection hq with hq; subst hq
    obtain ⟨old, hold⟩ : ∃ v, v = P.b.getD j 0 := ⟨_, rfl⟩
    have ce := hcc j hk0
    rw [← hold] at ce
    have fe := hff j
    have hor := listB_at HVB.out (i := j) (by rw [HV6.out]; exact hk0)
    rw [← hold] at hor
    have HOLD := Lib.hid hold
    have HOR := Lib.hid hor
    obtain ⟨k0, k1, k2, k3⟩ := box_x.four
    have hj0 : (0 : Int) ≤ (j : Int) := Int.natCast_nonneg _
    have hm0 : (0 : Int) ≤ (n : Int) % 989 := Int.emod_nonneg _ (by omega)
    have hm1 : (n : Int) % 989 < 989 := Int.emod_lt_of_pos _ (by omega)
    clear hcc hff hold hor
    go_wp2_with fail
    have HBX := Lib.hid box_x
    have HG := Lib.hid (show g_c ≠ w_4.heap.size by omega)
    apply share1 (N := fun y => 0 ≤ y ∧ y ≤ 990 ∧ y ≠ old)
    case h1 =>
      intro main
      go_region_with
        ((go_at_call 36; refine (another_c old _ _ HOR.out hm0 (by omega)).mono ?_; rintro e w' ⟨y, rfl, y0, y1, yn, rfl⟩; have hy := And.intro y0 (And.intro y1 yn)))
      all_goals exact main y hy
    case h2 =>
    rintro y ⟨y0, y1, yn⟩
    have st := (OwnR.drew o_c).stored j y
    have hset := peel_body HPB.out (j := j) (y := y) ⟨y0, y1⟩
    have hiff : ∀ i, i < 6 → ((offL (P.b.set j y) (mulP s P.e)).getD i 0 ≠ (offL P.b (mulP s P.e)).getD i 0 ↔ i = j) := fun i hi => offL_set HVB.out (mulP s P.e) ⟨y0, y1⟩ (by rw [HV6.out]; exact hk0) (by rw [← HOLD.out]; exact yn) (by rw [HV6.out]; exact hi)
    have HIFF := Lib.hid hiff
    have HSET := Lib.hid hset
    obtain ⟨Y, hY⟩ : ∃ Y, Y = peelL s ⟨P.e, P.h, P.t, P.b.set j y⟩ := ⟨_, rfl⟩
    have HY := Lib.hid hY
    have od2 := o_d.drew.only (one_only _ g_c j (.int .i64 y)) (.inl (by omega))
    have oo2 := o_out.drew.only (one_only _ g_c j (.int .i64 y)) (.inl (by omega))
    have bo2 := box_out.drew.only (one_only _ g_c j (.int .i64 y)) (.inl (by omega))
    have bx2 := BoxAt.other (p := ⟨g_c, j, none⟩) HBX.out.drew HG.out (.int .i64 y)
    have hB2 := Below.only hB.drew (one_only _ g_c j (.int .i64 y)) hB.drew.size (by omega)
    clear hB o_out box_out box_x k0 k1 k2 k3 ce fe hset ff_x yn hY hiff
    have hB := hB2
    have o_out := oo2
    have box_out := bo2
    have box_x := bx2
    have two : TwoR ((w_5.setCell ⟨w_4.heap.size, 3, none⟩ (.slice (some ⟨g_c, 0, none⟩) 6 c_c)).drew.setCell ⟨g_c, j, none⟩ (.int .i64 y)) 0 ((w_5.setCell ⟨w_4.heap.size, 3, none⟩ (.slice (some ⟨g_c, 0, none⟩) 6 c_c)).drew.setCell ⟨g_c, j, none⟩ (.int .i64 y)).heap.size P.h (P.b.set j y) A_d 9 c_d (some ⟨g_c, 0, none⟩) 6 c_c := ⟨od2.1.wider (Nat.zero_le _) od2.hi_le (Nat.le_refl _), st.1.read.wider (Nat.zero_le _) st.1.2.1 (Nat.le_refl _), od2.2.2.1, o_c.cap⟩
    clear hB2 st od2 o_c oo2 bo2 bx2 o_d
    obtain ⟨q_x0, q_x1, q_x2, q_x3⟩ := box_x.four
    go_wp2_with fail
    refine (packetPeel_t s P.e _ _ _ _ _ _ _ _ _ _ _ _ two Y HSET.out HY.out).mono ?_
    rintro e w_6 ⟨A_y, n_y, c_y, A_y', n_y', c_y', rfl, o_y, h_6⟩
    clear q_x0 q_x1 q_x2 q_x3
    have z_6 := h_6.size
    replace o_out := o_out.below h_6 o_out.hi_le
    replace box_out := box_out.below h_6 box_out.hi_le
    replace box_x := box_x.below h_6 box_x.hi_le
    replace hB := hB.trans (h_6.mono hB.size)
    have hyv := peelL_valid HSET.out
    rw [← HY.out] at hyv
    obtain ⟨_, _, hy9, _, hy6, _⟩ := validB_iff.1 hyv
    obtain ⟨rfl, rfl⟩ : n_y = 9 ∧ n_y' = 6 := by have := o_y.len; omega
    have hyb : Y.p.b = offL (P.b.set j y) (mulP s P.e) := by rw [HY.out]; rfl
    have hxb : X.p.b = offL P.b (mulP s P.e) := by rw [HXL.out]; rfl
    have hyh : Y.p.h = X.p.h := by rw [HY.out, HXL.out]; rfl
    have hyn : Y.next = X.next := by rw [HY.out, HXL.out]; rfl
    have HYB := Lib.hid hyb
    have HXB := Lib.hid hxb
    have HYH := Lib.hid hyh
    have hynb : (Y.next == X.next) = true := by simpa using hyn
    clear two hyv hy9 hy6 hyb hxb hyh hyn
    replace o_out := o_out.alloc (.cells #[.int .i64 (Y).kind, .int .i64 (Y).next, .int .i64 (Y).p.e, .slice A_y 9 c_y, .int .i64 (Y).p.t, .slice A_y' 6 c_y'] 46)
    replace box_out := box_out.alloc (.cells #[.int .i64 (Y).kind, .int .i64 (Y).next, .int .i64 (Y).p.e, .slice A_y 9 c_y, .int .i64 (Y).p.t, .slice A_y' 6 c_y'] 46)
    replace box_x := box_x.alloc (.cells #[.int .i64 (Y).kind, .int .i64 (Y).next, .int .i64 (Y).p.e, .slice A_y 9 c_y, .int .i64 (Y).p.t, .slice A_y' 6 c_y'] 46)
    replace o_y := o_y.alloc (.cells #[.int .i64 (Y).kind, .int .i64 (Y).next, .int .i64 (Y).p.e, .slice A_y 9 c_y, .int .i64 (Y).p.t, .slice A_y' 6 c_y'] 46)
    replace hB := hB.alloc hB.size (.cells #[.int .i64 (Y).kind, .int .i64 (Y).next, .int .i64 (Y).p.e, .slice A_y 9 c_y, .int .i64 (Y).p.t, .slice A_y' 6 c_y'] 46)
    have box_y := BoxAt.new w_6 #[.int .i64 (Y).kind, .int .i64 (Y).next, .int .i64 (Y).p.e, .slice A_y 9 c_y, .int .i64 (Y).p.t, .slice A_y' 6 c_y'] 46
    obtain ⟨s_y1, s_y2⟩ := alloc_size w_6 (.cells #[.int .i64 (Y).kind, .int .i64 (Y).next, .int .i64 (Y).p.e, .slice A_y 9 c_y, .int .i64 (Y).p.t, .slice A_y' 6 c_y'] 46)
    go_wp2_with fail
    go_loopw [15] (fun i wr => ∃ k : Nat, k ≤ 6 ∧ i = .int .i64 k ∧ Below (w_6.alloc (.cells #[.int .i64 (Y).kind, .int .i64 (Y).next, .int .i64 (Y).p.e, .slice A_y 9 c_y, .int .i64 (Y).p.t, .slice A_y' 6 c_y'] 46)).heap.size (w_6.alloc (.cells #[.int .i64 (Y).kind, .int .i64 (Y).next, .int .i64 (Y).p.e, .slice A_y 9 c_y, .int .i64 (Y).p.t, .slice A_y' 6 c_y'] 46)) wr) (fun i _ => 6 - (intOf i).toNat)
    case atStart => exact ⟨0, Nat.zero_le _, rfl, Below.refl _ _⟩
    case round =>
      obtain ⟨k, hk, rfl, hnx⟩ := hrel
      replace o_out := o_out.below hnx o_out.hi_le
      replace o_y := o_y.below hnx o_y.hi_le
      replace box_out := box_out.below hnx box_out.hi_le
      replace box_x := box_x.below hnx box_x.hi_le
      replace box_y := box_y.below hnx box_y.hi_le
      obtain ⟨q_o0, q_o1, q_o2, q_o3, q_o4, q_o5⟩ := box_out.six
      obtain ⟨q_x0, q_x1, q_x2, q_x3⟩ := box_x.four
      obtain ⟨q_y0, q_y1, q_y2, q_y3, q_y4, q_y5⟩ := box_y.six
      by_cases hlt : k < 6
      · obtain ⟨g1, rfl, _, _, hc1, _⟩ := o_y.2.1.at_ (by omega)
        obtain ⟨g2, rfl, _, _, hc2, _⟩ := o_out.2.1.at_ (by omega)
        have hcell := hc1 k hlt
        have hcell' := hc2 k hlt
        rw [HYB.out] at hcell
        rw [HXB.out] at hcell'
        have hiff := HIFF.out k hlt
        obtain ⟨v, hv⟩ : ∃ v, v = (offL (P.b.set j y) (mulP s P.e)).getD k 0 := ⟨_, rfl⟩
        obtain ⟨v', hv'⟩ : ∃ v, v = (offL P.b (mulP s P.e)).getD k 0 := ⟨_, rfl⟩
        rw [← hv] at hcell hiff
        rw [← hv'] at hcell' hiff
        have hi0' : (0 : Int) ≤ (k : Int) := Int.natCast_nonneg _
        have hi1 : (k : Int) < 6 := by omega
        clear hc1 hc2 hv hv' o_out o_y box_out box_x box_y
        by_cases hkk : k = j
        · have hb1 : (v != v') = true := by simpa using hiff.2 hkk
          have hb2 : ((k : Int) == (j : Int)) = true := by simp [hkk]
          have HKK := Lib.hid hkk
          clear hiff hkk
          go_wp2_with fail
          go_quiet (fail)
          go_wp2
          go_roundw
          case rel => exact ⟨k + 1, by omega, by go_num, below_drewN hnx _⟩
          case measure => simp [intOf]; omega
        · have hb1 : (v != v') = false := by simpa using fun e => hkk (hiff.1 e)
          have hb2 : ((k : Int) == (j : Int)) = false := by simp; omega
          have HKK := Lib.hid hkk
          clear hiff hkk
          go_wp2_with fail
          go_quiet (fail)
          go_wp2
          go_roundw
          case rel => exact ⟨k + 1, by omega, by go_num, below_drewN hnx _⟩
          case measure => simp [intOf]; omega
      · have hk6 : ¬ (k : Int) < 6 := by omega
        have hBn := hB.trans (hnx.mono hB.size)
        go_wp2_with fail
        refine (sameInts_t _ _ _ _ _ _ _ _ _ _ _ _ o_y.read.1 (by rw [HYH.out]; exact o_out.read.1) (by omega)).mono ?_
        rintro e w9 ⟨rfl, h9⟩
        have hB9 := hBn.trans (h9.mono hBn.size)
        have e1 := (box_out.below h9 box_out.hi_le).six.2.1
        have e2 := (box_y.below h9 box_y.hi_le).six.2.1
        clear q_o0 q_o1 q_o2 q_o3 q_o4 q_o5 q_x0 q_x1 q_x2 q_x3 q_y0 q_y1 q_y2 q_y3 q_y4 q_y5
        go_wp2_with fail
        go_ret
        exact ⟨ret_b (by first | rfl | simp), hB9⟩
end Go.Proofs.Ytbkecimhbibnjaa
