/-
  The walks of the statements on packets that are peeled: two layers, and what a layer tells.
  Conditions: the arguments read as lists of bytes.
-/
import Derived.Test.YtbkecimhbibnjaaLawsR
import Derived.IntWalk
namespace Go.Proofs.Ytbkecimhbibnjaa
open Go Go.RowKit

theorem samePeeled_z (X : Peel) (A : Option Addr) (n c : Nat) (A2 : Option Addr) (n2 c2 lo hi : Nat) (w : World) (hX : X = zeroPeel) (ha : TwoR w lo hi X.p.h X.p.b A n c A2 n2 c2) (hn : n ≤ 4194304) (hn2 : n2 ≤ 4194304) :
    Calls Try.prog 28 #[.agg #[.int .i64 X.kind, .int .i64 X.next, .int .i64 X.p.e, .slice A n c, .int .i64 X.p.t, .slice A2 n2 c2], .agg #[.int .i64 0, .int .i64 0, .int .i64 0, .slice none 0 0, .int .i64 0, .slice none 0 0]] w (Tells true w) := by
  subst hX
  exact samePeeled_t 0 0 0 0 _ _ _ _ _ _ none 0 0 none 0 0 lo hi 0 w.heap.size [] [] w ha (TwoO.none_ (Nat.le_refl _)).read hn hn2
set_option maxRecDepth 100000 in
set_option maxHeartbeats 1600000 in
theorem wFnPeelTwice (A : Option Addr) (n c : Nat) (xs : List Int) (w : World) (hs : SlR .u8 w 0 w.heap.size A n xs) (hl : n ≤ c) (hc : c ≤ 9223372036854775807) (hb : ∀ x ∈ xs, 0 ≤ x ∧ x ≤ 255) : Calls Try.prog 10 #[.slice A n c] w fun e w' => e = .returned (.bool true) ∧ Below w.heap.size w w' := by
  by_cases hbig : 1048576 < n
  · go_enter Try.func10, Try.ntmps10
    go_wp2
    go_ret
    exact ⟨rfl, Below.refl _ _⟩
  go_enter Try.func10, Try.ntmps10
  go_wp2_with fail
  refine (drawPacketPeel_c A n c xs w hs hb hl hc).mono ?_
  rintro e w_1 ⟨s, P, A_d, n_d, c_d, A_d', n_d', c_d', rfl, o_d, b_d, b_d', h_1⟩
  have z_1 := h_1.size
  have hB := h_1
  replace o_d := o_d.alloc (.cells #[.int .i64 P.e, .slice A_d n_d c_d, .int .i64 P.t, .slice A_d' n_d' c_d'] 42)
  replace hB := hB.alloc hB.size (.cells #[.int .i64 P.e, .slice A_d n_d c_d, .int .i64 P.t, .slice A_d' n_d' c_d'] 42)
  have box_d := BoxAt.new w_1 #[.int .i64 P.e, .slice A_d n_d c_d, .int .i64 P.t, .slice A_d' n_d' c_d'] 42
  obtain ⟨s_d1, s_d2⟩ := alloc_size w_1 (.cells #[.int .i64 P.e, .slice A_d n_d c_d, .int .i64 P.t, .slice A_d' n_d' c_d'] 42)
  obtain ⟨X, hX⟩ : ∃ X, X = peelP s P := ⟨_, rfl⟩
  have hlen := peelP_len s P
  rw [← hX] at hlen
  have HX := Lib.hid hX
  obtain ⟨ok, hok⟩ : ∃ b', b' = peelB s P := ⟨_, rfl⟩
  have HOK := Lib.hid hok
  clear hX hok
  obtain ⟨q_d0, q_d1, q_d2, q_d3⟩ := box_d.four
  go_wp2_with fail
  refine (packetPeel_p _ _ _ _ _ _ _ _ _ _ _ _ _ _ _ _ o_d.read' HX.out HOK.out).mono ?_
  rintro e w_2 ⟨A_out, n_out, c_out, A_out', n_out', c_out', rfl, o_out, h_2⟩
  clear q_d0 q_d1 q_d2 q_d3
  have z_2 := h_2.size
  replace o_d := o_d.below h_2 o_d.hi_le
  replace box_d := box_d.below h_2 box_d.hi_le
  replace hB := hB.trans (h_2.mono hB.size)
  have b_out : n_out ≤ 9 ∧ n_out' ≤ 6 := by have h1 := o_out.len; have h2 := hlen; omega
  replace o_d := o_d.alloc (.cells #[.int .i64 (X).kind, .int .i64 (X).next, .int .i64 (X).p.e, .slice A_out n_out c_out, .int .i64 (X).p.t, .slice A_out' n_out' c_out'] 46)
  replace box_d := box_d.alloc (.cells #[.int .i64 (X).kind, .int .i64 (X).next, .int .i64 (X).p.e, .slice A_out n_out c_out, .int .i64 (X).p.t, .slice A_out' n_out' c_out'] 46)
  replace o_out := o_out.alloc (.cells #[.int .i64 (X).kind, .int .i64 (X).next, .int .i64 (X).p.e, .slice A_out n_out c_out, .int .i64 (X).p.t, .slice A_out' n_out' c_out'] 46)
  replace hB := hB.alloc hB.size (.cells #[.int .i64 (X).kind, .int .i64 (X).next, .int .i64 (X).p.e, .slice A_out n_out c_out, .int .i64 (X).p.t, .slice A_out' n_out' c_out'] 46)
  have box_out := BoxAt.new w_2 #[.int .i64 (X).kind, .int .i64 (X).next, .int .i64 (X).p.e, .slice A_out n_out c_out, .int .i64 (X).p.t, .slice A_out' n_out' c_out'] 46
  obtain ⟨s_out1, s_out2⟩ := alloc_size w_2 (.cells #[.int .i64 (X).kind, .int .i64 (X).next, .int .i64 (X).p.e, .slice A_out n_out c_out, .int .i64 (X).p.t, .slice A_out' n_out' c_out'] 46)
  obtain ⟨q_d0, q_d1, q_d2, q_d3⟩ := box_d.four
  go_wp2_with fail
  refine (sPacketPeel_p _ _ _ _ _ _ _ _ _ _ _ _ _ _ _ _ o_d.read' HX.out HOK.out (by omega) (by omega)).mono ?_
  rintro e w_3 ⟨A_want, n_want, c_want, A_want', n_want', c_want', rfl, o_want, h_3⟩
  clear q_d0 q_d1 q_d2 q_d3
  have z_3 := h_3.size
  replace o_d := o_d.below h_3 o_d.hi_le
  replace box_d := box_d.below h_3 box_d.hi_le
  replace o_out := o_out.below h_3 o_out.hi_le
  replace box_out := box_out.below h_3 box_out.hi_le
  replace hB := hB.trans (h_3.mono hB.size)
  have b_want : n_want ≤ 9 ∧ n_want' ≤ 6 := by have h1 := o_want.len; have h2 := hlen; omega
  replace o_d := o_d.alloc (.cells #[.int .i64 (X).kind, .int .i64 (X).next, .int .i64 (X).p.e, .slice A_want n_want c_want, .int .i64 (X).p.t, .slice A_want' n_want' c_want'] 46)
  replace box_d := box_d.alloc (.cells #[.int .i64 (X).kind, .int .i64 (X).next, .int .i64 (X).p.e, .slice A_want n_want c_want, .int .i64 (X).p.t, .slice A_want' n_want' c_want'] 46)
  replace o_out := o_out.alloc (.cells #[.int .i64 (X).kind, .int .i64 (X).next, .int .i64 (X).p.e, .slice A_want n_want c_want, .int .i64 (X).p.t, .slice A_want' n_want' c_want'] 46)
  replace box_out := box_out.alloc (.cells #[.int .i64 (X).kind, .int .i64 (X).next, .int .i64 (X).p.e, .slice A_want n_want c_want, .int .i64 (X).p.t, .slice A_want' n_want' c_want'] 46)
  replace o_want := o_want.alloc (.cells #[.int .i64 (X).kind, .int .i64 (X).next, .int .i64 (X).p.e, .slice A_want n_want c_want, .int .i64 (X).p.t, .slice A_want' n_want' c_want'] 46)
  replace hB := hB.alloc hB.size (.cells #[.int .i64 (X).kind, .int .i64 (X).next, .int .i64 (X).p.e, .slice A_want n_want c_want, .int .i64 (X).p.t, .slice A_want' n_want' c_want'] 46)
  have box_want := BoxAt.new w_3 #[.int .i64 (X).kind, .int .i64 (X).next, .int .i64 (X).p.e, .slice A_want n_want c_want, .int .i64 (X).p.t, .slice A_want' n_want' c_want'] 46
  obtain ⟨s_want1, s_want2⟩ := alloc_size w_3 (.cells #[.int .i64 (X).kind, .int .i64 (X).next, .int .i64 (X).p.e, .slice A_want n_want c_want, .int .i64 (X).p.t, .slice A_want' n_want' c_want'] 46)
  cases ok with
  | false =>
    obtain ⟨q_out0, q_out1, q_out2, q_out3, q_out4, q_out5⟩ := box_out.six
    obtain ⟨q_want0, q_want1, q_want2, q_want3, q_want4, q_want5⟩ := box_want.six
    go_wp2_with fail
    refine (samePeeled_t _ _ _ _ _ _ _ _ _ _ _ _ _ _ _ _ _ _ _ _ _ _ _ o_out.read o_want.read (by omega) (by omega)).mono ?_
    rintro e w_4 ⟨rfl, h_4⟩
    clear q_out0 q_out1 q_out2 q_out3 q_out4 q_out5 q_want0 q_want1 q_want2 q_want3 q_want4 q_want5
    have z_4 := h_4.size
    replace o_d := o_d.below h_4 o_d.hi_le
    replace box_d := box_d.below h_4 box_d.hi_le
    replace o_out := o_out.below h_4 o_out.hi_le
    replace box_out := box_out.below h_4 box_out.hi_le
    replace o_want := o_want.below h_4 o_want.hi_le
    replace box_want := box_want.below h_4 box_want.hi_le
    replace hB := hB.trans (h_4.mono hB.size)
    obtain ⟨q_out0, q_out1, q_out2, q_out3, q_out4, q_out5⟩ := box_out.six
    obtain ⟨q_want0, q_want1, q_want2, q_want3, q_want4, q_want5⟩ := box_want.six
    go_wp2_with fail
    refine (samePeeled_t _ _ _ _ _ _ _ _ _ _ _ _ _ _ _ _ _ _ _ _ _ _ _ o_out.read o_want.read (by omega) (by omega)).mono ?_
    rintro e w_5 ⟨rfl, h_5⟩
    clear q_out0 q_out1 q_out2 q_out3 q_out4 q_out5 q_want0 q_want1 q_want2 q_want3 q_want4 q_want5
    have z_5 := h_5.size
    replace o_d := o_d.below h_5 o_d.hi_le
    replace box_d := box_d.below h_5 box_d.hi_le
    replace o_out := o_out.below h_5 o_out.hi_le
    replace box_out := box_out.below h_5 box_out.hi_le
    replace o_want := o_want.below h_5 o_want.hi_le
    replace box_want := box_want.below h_5 box_want.hi_le
    replace hB := hB.trans (h_5.mono hB.size)
    go_wp2_with fail
    go_ret
    exact ⟨ret_b (by first | rfl | simp), hB⟩
  | true =>
    obtain ⟨q_out0, q_out1, q_out2, q_out3, q_out4, q_out5⟩ := box_out.six
    obtain ⟨q_want0, q_want1, q_want2, q_want3, q_want4, q_want5⟩ := box_want.six
    go_wp2_with fail
    refine (samePeeled_t _ _ _ _ _ _ _ _ _ _ _ _ _ _ _ _ _ _ _ _ _ _ _ o_out.read o_want.read (by omega) (by omega)).mono ?_
    rintro e w_4 ⟨rfl, h_4⟩
    clear q_out0 q_out1 q_out2 q_out3 q_out4 q_out5 q_want0 q_want1 q_want2 q_want3 q_want4 q_want5
    have z_4 := h_4.size
    replace o_d := o_d.below h_4 o_d.hi_le
    replace box_d := box_d.below h_4 box_d.hi_le
    replace o_out := o_out.below h_4 o_out.hi_le
    replace box_out := box_out.below h_4 box_out.hi_le
    replace o_want := o_want.below h_4 o_want.hi_le
    replace box_want := box_want.below h_4 box_want.hi_le
    replace hB := hB.trans (h_4.mono hB.size)
    have hpb := HOK.out.symm
    have hxl := HX.out.trans (peelP_yes hpb)
    obtain ⟨hse, hv, htg, hkd, hnm⟩ := peelB_iff.1 hpb
    obtain ⟨hve, hvh, hv9, hvb, hv6, hvt⟩ := validB_iff.1 hv
    have hxv := peelL_valid hpb
    rw [← hxl] at hxv
    obtain ⟨_, _, hx9, _, hx6, _⟩ := validB_iff.1 hxv
    obtain ⟨rfl, rfl⟩ : n_d = 9 ∧ n_d' = 6 := by have := o_d.len; omega
    obtain ⟨rfl, rfl⟩ : n_out = 9 ∧ n_out' = 6 := by have := o_out.len; omega
    have hke : elB (mulP s P.e) = true := mulP_el hse hve
    have HPB := Lib.hid hpb
    have HXL := Lib.hid hxl
    have HXV := Lib.hid hxv
    have HTG := Lib.hid htg
    have HVH := Lib.hid hvh
    have HVB := Lib.hid hvb
    have HV9 := Lib.hid hv9
    have HV6 := Lib.hid hv6
    have HVT := Lib.hid hvt
    have HKE := Lib.hid hke
    have HX9 := Lib.hid hx9
    clear hpb hxl hse hv htg hkd hnm hve hvh hv9 hvb hv6 hvt hxv hx9 hx6 hke HX HOK
    obtain ⟨X2, hX2⟩ : ∃ Y, Y = peelP s X.p := ⟨_, rfl⟩
    have hlen2 := peelP_len s X.p
    rw [← hX2] at hlen2
    have HX2 := Lib.hid hX2
    obtain ⟨ok2, hok2⟩ : ∃ b', b' = peelB s X.p := ⟨_, rfl⟩
    have HOK2 := Lib.hid hok2
    clear hX2 hok2
    obtain ⟨q_out0, q_out1, q_out2, q_out3, q_out4, q_out5⟩ := box_out.six
    go_wp2_with fail
    refine (packetPeel_p _ _ _ _ _ _ _ _ _ _ _ _ _ _ _ _ (TwoR.read' o_out.read) HX2.out HOK2.out).mono ?_
    rintro e w_5 ⟨A_y, n_y, c_y, A_y', n_y', c_y', rfl, o_y, h_5⟩
    clear q_out0 q_out1 q_out2 q_out3 q_out4 q_out5
    have z_5 := h_5.size
    replace o_d := o_d.below h_5 o_d.hi_le
    replace box_d := box_d.below h_5 box_d.hi_le
    replace o_out := o_out.below h_5 o_out.hi_le
    replace box_out := box_out.below h_5 box_out.hi_le
    replace o_want := o_want.below h_5 o_want.hi_le
    replace box_want := box_want.below h_5 box_want.hi_le
    replace hB := hB.trans (h_5.mono hB.size)
    have b_y : n_y ≤ 9 ∧ n_y' ≤ 6 := by have h1 := o_y.len; have h2 := hlen2; omega
    replace o_d := o_d.alloc (.cells #[.int .i64 (X2).kind, .int .i64 (X2).next, .int .i64 (X2).p.e, .slice A_y n_y c_y, .int .i64 (X2).p.t, .slice A_y' n_y' c_y'] 46)
    replace box_d := box_d.alloc (.cells #[.int .i64 (X2).kind, .int .i64 (X2).next, .int .i64 (X2).p.e, .slice A_y n_y c_y, .int .i64 (X2).p.t, .slice A_y' n_y' c_y'] 46)
    replace o_out := o_out.alloc (.cells #[.int .i64 (X2).kind, .int .i64 (X2).next, .int .i64 (X2).p.e, .slice A_y n_y c_y, .int .i64 (X2).p.t, .slice A_y' n_y' c_y'] 46)
    replace box_out := box_out.alloc (.cells #[.int .i64 (X2).kind, .int .i64 (X2).next, .int .i64 (X2).p.e, .slice A_y n_y c_y, .int .i64 (X2).p.t, .slice A_y' n_y' c_y'] 46)
    replace o_want := o_want.alloc (.cells #[.int .i64 (X2).kind, .int .i64 (X2).next, .int .i64 (X2).p.e, .slice A_y n_y c_y, .int .i64 (X2).p.t, .slice A_y' n_y' c_y'] 46)
    replace box_want := box_want.alloc (.cells #[.int .i64 (X2).kind, .int .i64 (X2).next, .int .i64 (X2).p.e, .slice A_y n_y c_y, .int .i64 (X2).p.t, .slice A_y' n_y' c_y'] 46)
    replace o_y := o_y.alloc (.cells #[.int .i64 (X2).kind, .int .i64 (X2).next, .int .i64 (X2).p.e, .slice A_y n_y c_y, .int .i64 (X2).p.t, .slice A_y' n_y' c_y'] 46)
    replace hB := hB.alloc hB.size (.cells #[.int .i64 (X2).kind, .int .i64 (X2).next, .int .i64 (X2).p.e, .slice A_y n_y c_y, .int .i64 (X2).p.t, .slice A_y' n_y' c_y'] 46)
    have box_y := BoxAt.new w_5 #[.int .i64 (X2).kind, .int .i64 (X2).next, .int .i64 (X2).p.e, .slice A_y n_y c_y, .int .i64 (X2).p.t, .slice A_y' n_y' c_y'] 46
    obtain ⟨s_y1, s_y2⟩ := alloc_size w_5 (.cells #[.int .i64 (X2).kind, .int .i64 (X2).next, .int .i64 (X2).p.e, .slice A_y n_y c_y, .int .i64 (X2).p.t, .slice A_y' n_y' c_y'] 46)
    cases ok2 with
    | false =>
      have hz2 : X2 = zeroPeel := HX2.out.trans (peelP_no HOK2.out.symm)
      have HZ2 := Lib.hid hz2
      clear hz2
      obtain ⟨q_out0, q_out1, q_out2, q_out3, q_out4, q_out5⟩ := box_out.six
      obtain ⟨q_y0, q_y1, q_y2, q_y3, q_y4, q_y5⟩ := box_y.six
      go_wp2_with (go_at_call 31; refine (shared_c _ _ _).mono ?_; rintro e w' ⟨rfl, rfl⟩)
      refine (samePeeled_z X2 _ _ _ _ _ _ _ _ _ HZ2.out o_y.read (by omega) (by omega)).mono ?_
      rintro e w_6 ⟨rfl, h_6⟩
      have z_6 := h_6.size
      replace o_d := o_d.below h_6 o_d.hi_le
      replace box_d := box_d.below h_6 box_d.hi_le
      replace o_out := o_out.below h_6 o_out.hi_le
      replace box_out := box_out.below h_6 box_out.hi_le
      replace o_want := o_want.below h_6 o_want.hi_le
      replace box_want := box_want.below h_6 box_want.hi_le
      replace o_y := o_y.below h_6 o_y.hi_le
      replace box_y := box_y.below h_6 box_y.hi_le
      replace hB := hB.trans (h_6.mono hB.size)
      clear q_out0 q_out1 q_out2 q_out3 q_out4 q_out5 q_y0 q_y1 q_y2 q_y3 q_y4 q_y5
      go_wp2_with fail
      go_ret
      exact ⟨ret_b (by first | rfl | simp), hB⟩
    | true =>
      have htc := peel_tagged HOK2.out.symm
      have HTC := Lib.hid htc
      clear htc
      obtain ⟨q_out0, q_out1, q_out2, q_out3, q_out4, q_out5⟩ := box_out.six
      go_wp2_with (first | (go_at_call 31; refine (shared_c _ _ _).mono ?_; rintro e w' ⟨rfl, rfl⟩) | (go_at_call 35; refine (tagCheck_c _ _ _ _ _ _ _ _ _ o_out.read.1).mono ?_; rintro e w' ⟨rfl, rfl⟩))
      go_ret
      exact ⟨ret_b (by rw [HTC.out]), hB⟩
set_option maxRecDepth 100000 in
set_option maxHeartbeats 1600000 in
theorem wFnPeelInfo (A : Option Addr) (n c : Nat) (xs : List Int) (w : World) (hs : SlR .u8 w 0 w.heap.size A n xs) (hl : n ≤ c) (hc : c ≤ 9223372036854775807) (hb : ∀ x ∈ xs, 0 ≤ x ∧ x ≤ 255) : Calls Try.prog 8 #[.slice A n c] w fun e w' => e = .returned (.bool true) ∧ Below w.heap.size w w' := by
  by_cases hbig : 1048576 < n
  · go_enter Try.func8, Try.ntmps8
    go_wp2
    go_ret
    exact ⟨rfl, Below.refl _ _⟩
  go_enter Try.func8, Try.ntmps8
  go_wp2_with fail
  refine (drawPacketPeel_c A n c xs w hs hb hl hc).mono ?_
  rintro e w_1 ⟨s, P, A_d, n_d, c_d, A_d', n_d', c_d', rfl, o_d, b_d, b_d', h_1⟩
  have z_1 := h_1.size
  have hB := h_1
  replace o_d := o_d.alloc (.cells #[.int .i64 P.e, .slice A_d n_d c_d, .int .i64 P.t, .slice A_d' n_d' c_d'] 42)
  replace hB := hB.alloc hB.size (.cells #[.int .i64 P.e, .slice A_d n_d c_d, .int .i64 P.t, .slice A_d' n_d' c_d'] 42)
  have box_d := BoxAt.new w_1 #[.int .i64 P.e, .slice A_d n_d c_d, .int .i64 P.t, .slice A_d' n_d' c_d'] 42
  obtain ⟨s_d1, s_d2⟩ := alloc_size w_1 (.cells #[.int .i64 P.e, .slice A_d n_d c_d, .int .i64 P.t, .slice A_d' n_d' c_d'] 42)
  obtain ⟨X, hX⟩ : ∃ X, X = peelP s P := ⟨_, rfl⟩
  have hlen := peelP_len s P
  rw [← hX] at hlen
  have HX := Lib.hid hX
  obtain ⟨ok, hok⟩ : ∃ b', b' = peelB s P := ⟨_, rfl⟩
  have HOK := Lib.hid hok
  clear hX hok
  obtain ⟨q_d0, q_d1, q_d2, q_d3⟩ := box_d.four
  go_wp2_with fail
  refine (packetPeel_p _ _ _ _ _ _ _ _ _ _ _ _ _ _ _ _ o_d.read' HX.out HOK.out).mono ?_
  rintro e w_2 ⟨A_out, n_out, c_out, A_out', n_out', c_out', rfl, o_out, h_2⟩
  clear q_d0 q_d1 q_d2 q_d3
  have z_2 := h_2.size
  replace o_d := o_d.below h_2 o_d.hi_le
  replace box_d := box_d.below h_2 box_d.hi_le
  replace hB := hB.trans (h_2.mono hB.size)
  have b_out : n_out ≤ 9 ∧ n_out' ≤ 6 := by have h1 := o_out.len; have h2 := hlen; omega
  replace o_d := o_d.alloc (.cells #[.int .i64 (X).kind, .int .i64 (X).next, .int .i64 (X).p.e, .slice A_out n_out c_out, .int .i64 (X).p.t, .slice A_out' n_out' c_out'] 46)
  replace box_d := box_d.alloc (.cells #[.int .i64 (X).kind, .int .i64 (X).next, .int .i64 (X).p.e, .slice A_out n_out c_out, .int .i64 (X).p.t, .slice A_out' n_out' c_out'] 46)
  replace o_out := o_out.alloc (.cells #[.int .i64 (X).kind, .int .i64 (X).next, .int .i64 (X).p.e, .slice A_out n_out c_out, .int .i64 (X).p.t, .slice A_out' n_out' c_out'] 46)
  replace hB := hB.alloc hB.size (.cells #[.int .i64 (X).kind, .int .i64 (X).next, .int .i64 (X).p.e, .slice A_out n_out c_out, .int .i64 (X).p.t, .slice A_out' n_out' c_out'] 46)
  have box_out := BoxAt.new w_2 #[.int .i64 (X).kind, .int .i64 (X).next, .int .i64 (X).p.e, .slice A_out n_out c_out, .int .i64 (X).p.t, .slice A_out' n_out' c_out'] 46
  obtain ⟨s_out1, s_out2⟩ := alloc_size w_2 (.cells #[.int .i64 (X).kind, .int .i64 (X).next, .int .i64 (X).p.e, .slice A_out n_out c_out, .int .i64 (X).p.t, .slice A_out' n_out' c_out'] 46)
  obtain ⟨q_d0, q_d1, q_d2, q_d3⟩ := box_d.four
  go_wp2_with fail
  refine (sPacketPeel_p _ _ _ _ _ _ _ _ _ _ _ _ _ _ _ _ o_d.read' HX.out HOK.out (by omega) (by omega)).mono ?_
  rintro e w_3 ⟨A_want, n_want, c_want, A_want', n_want', c_want', rfl, o_want, h_3⟩
  clear q_d0 q_d1 q_d2 q_d3
  have z_3 := h_3.size
  replace o_d := o_d.below h_3 o_d.hi_le
  replace box_d := box_d.below h_3 box_d.hi_le
  replace o_out := o_out.below h_3 o_out.hi_le
  replace box_out := box_out.below h_3 box_out.hi_le
  replace hB := hB.trans (h_3.mono hB.size)
  have b_want : n_want ≤ 9 ∧ n_want' ≤ 6 := by have h1 := o_want.len; have h2 := hlen; omega
  replace o_d := o_d.alloc (.cells #[.int .i64 (X).kind, .int .i64 (X).next, .int .i64 (X).p.e, .slice A_want n_want c_want, .int .i64 (X).p.t, .slice A_want' n_want' c_want'] 46)
  replace box_d := box_d.alloc (.cells #[.int .i64 (X).kind, .int .i64 (X).next, .int .i64 (X).p.e, .slice A_want n_want c_want, .int .i64 (X).p.t, .slice A_want' n_want' c_want'] 46)
  replace o_out := o_out.alloc (.cells #[.int .i64 (X).kind, .int .i64 (X).next, .int .i64 (X).p.e, .slice A_want n_want c_want, .int .i64 (X).p.t, .slice A_want' n_want' c_want'] 46)
  replace box_out := box_out.alloc (.cells #[.int .i64 (X).kind, .int .i64 (X).next, .int .i64 (X).p.e, .slice A_want n_want c_want, .int .i64 (X).p.t, .slice A_want' n_want' c_want'] 46)
  replace o_want := o_want.alloc (.cells #[.int .i64 (X).kind, .int .i64 (X).next, .int .i64 (X).p.e, .slice A_want n_want c_want, .int .i64 (X).p.t, .slice A_want' n_want' c_want'] 46)
  replace hB := hB.alloc hB.size (.cells #[.int .i64 (X).kind, .int .i64 (X).next, .int .i64 (X).p.e, .slice A_want n_want c_want, .int .i64 (X).p.t, .slice A_want' n_want' c_want'] 46)
  have box_want := BoxAt.new w_3 #[.int .i64 (X).kind, .int .i64 (X).next, .int .i64 (X).p.e, .slice A_want n_want c_want, .int .i64 (X).p.t, .slice A_want' n_want' c_want'] 46
  obtain ⟨s_want1, s_want2⟩ := alloc_size w_3 (.cells #[.int .i64 (X).kind, .int .i64 (X).next, .int .i64 (X).p.e, .slice A_want n_want c_want, .int .i64 (X).p.t, .slice A_want' n_want' c_want'] 46)
  cases ok with
  | false =>
    obtain ⟨q_out0, q_out1, q_out2, q_out3, q_out4, q_out5⟩ := box_out.six
    obtain ⟨q_want0, q_want1, q_want2, q_want3, q_want4, q_want5⟩ := box_want.six
    go_wp2_with fail
    refine (samePeeled_t _ _ _ _ _ _ _ _ _ _ _ _ _ _ _ _ _ _ _ _ _ _ _ o_out.read o_want.read (by omega) (by omega)).mono ?_
    rintro e w_4 ⟨rfl, h_4⟩
    clear q_out0 q_out1 q_out2 q_out3 q_out4 q_out5 q_want0 q_want1 q_want2 q_want3 q_want4 q_want5
    have z_4 := h_4.size
    replace o_d := o_d.below h_4 o_d.hi_le
    replace box_d := box_d.below h_4 box_d.hi_le
    replace o_out := o_out.below h_4 o_out.hi_le
    replace box_out := box_out.below h_4 box_out.hi_le
    replace o_want := o_want.below h_4 o_want.hi_le
    replace box_want := box_want.below h_4 box_want.hi_le
    replace hB := hB.trans (h_4.mono hB.size)
    obtain ⟨q_out0, q_out1, q_out2, q_out3, q_out4, q_out5⟩ := box_out.six
    obtain ⟨q_want0, q_want1, q_want2, q_want3, q_want4, q_want5⟩ := box_want.six
    go_wp2_with fail
    refine (samePeeled_t _ _ _ _ _ _ _ _ _ _ _ _ _ _ _ _ _ _ _ _ _ _ _ o_out.read o_want.read (by omega) (by omega)).mono ?_
    rintro e w_5 ⟨rfl, h_5⟩
    clear q_out0 q_out1 q_out2 q_out3 q_out4 q_out5 q_want0 q_want1 q_want2 q_want3 q_want4 q_want5
    have z_5 := h_5.size
    replace o_d := o_d.below h_5 o_d.hi_le
    replace box_d := box_d.below h_5 box_d.hi_le
    replace o_out := o_out.below h_5 o_out.hi_le
    replace box_out := box_out.below h_5 box_out.hi_le
    replace o_want := o_want.below h_5 o_want.hi_le
    replace box_want := box_want.below h_5 box_want.hi_le
    replace hB := hB.trans (h_5.mono hB.size)
    go_wp2_with fail
    go_ret
    exact ⟨ret_b (by first | rfl | simp), hB⟩
  | true =>
    obtain ⟨q_out0, q_out1, q_out2, q_out3, q_out4, q_out5⟩ := box_out.six
    obtain ⟨q_want0, q_want1, q_want2, q_want3, q_want4, q_want5⟩ := box_want.six
    go_wp2_with fail
    refine (samePeeled_t _ _ _ _ _ _ _ _ _ _ _ _ _ _ _ _ _ _ _ _ _ _ _ o_out.read o_want.read (by omega) (by omega)).mono ?_
    rintro e w_4 ⟨rfl, h_4⟩
    clear q_out0 q_out1 q_out2 q_out3 q_out4 q_out5 q_want0 q_want1 q_want2 q_want3 q_want4 q_want5
    have z_4 := h_4.size
    replace o_d := o_d.below h_4 o_d.hi_le
    replace box_d := box_d.below h_4 box_d.hi_le
    replace o_out := o_out.below h_4 o_out.hi_le
    replace box_out := box_out.below h_4 box_out.hi_le
    replace o_want := o_want.below h_4 o_want.hi_le
    replace box_want := box_want.below h_4 box_want.hi_le
    replace hB := hB.trans (h_4.mono hB.size)
    have hpb := HOK.out.symm
    have hxl := HX.out.trans (peelP_yes hpb)
    obtain ⟨hse, hv, htg, hkd, hnm⟩ := peelB_iff.1 hpb
    obtain ⟨hve, hvh, hv9, hvb, hv6, hvt⟩ := validB_iff.1 hv
    have hxv := peelL_valid hpb
    rw [← hxl] at hxv
    obtain ⟨_, _, hx9, _, hx6, _⟩ := validB_iff.1 hxv
    obtain ⟨rfl, rfl⟩ : n_d = 9 ∧ n_d' = 6 := by have := o_d.len; omega
    obtain ⟨rfl, rfl⟩ : n_out = 9 ∧ n_out' = 6 := by have := o_out.len; omega
    have hke : elB (mulP s P.e) = true := mulP_el hse hve
    have HPB := Lib.hid hpb
    have HXL := Lib.hid hxl
    have HXV := Lib.hid hxv
    have HTG := Lib.hid htg
    have HVH := Lib.hid hvh
    have HVB := Lib.hid hvb
    have HV9 := Lib.hid hv9
    have HV6 := Lib.hid hv6
    have HVT := Lib.hid hvt
    have HKE := Lib.hid hke
    have HX9 := Lib.hid hx9
    clear hpb hxl hse hv htg hkd hnm hve hvh hv9 hvb hv6 hvt hxv hx9 hx6 hke HX HOK
    have hoff : offP P.h (mulP s P.e) = offL P.h (mulP s P.e) := offP_eq HVH.out HKE.out
    have HOFF := Lib.hid hoff
    have HDR := Lib.hid o_d.1.drew
    have hkin : (offL P.h (mulP s P.e)).getD 0 0 = X.kind := by rw [HXL.out, ← plain_at HV9.out (by omega)]; rfl
    have hnex : (offL P.h (mulP s P.e)).getD 1 0 = X.next := by rw [HXL.out, ← plain_at HV9.out (by omega)]; rfl
    have htag : (offL P.h (mulP s P.e)).getD 2 0 = X.p.t := by rw [HXL.out, ← plain_at HV9.out (by omega)]; rfl
    have hdro : X.p.h.take 6 = (offL P.h (mulP s P.e)).drop 3 := by rw [HXL.out]; exact plain_take HV9.out
    have HKIN := Lib.hid hkin
    have HNEX := Lib.hid hnex
    have HTAG := Lib.hid htag
    have HDRO := Lib.hid hdro
    clear hoff hkin hnex htag hdro
    have kk : ∀ w', Below w_4.heap.size w_4 w' → w'.cell? ⟨w_1.heap.size, 0, none⟩ = some (.int .i64 P.e) ∧ w'.cell? ⟨w_1.heap.size, 1, none⟩ = some (.slice A_d 9 c_d) := fun w' hb => ⟨(box_d.below hb box_d.hi_le).four.1, (box_d.below hb box_d.hi_le).four.2.1⟩
    have HKK := Lib.hid kk
    clear kk
    have HD0 := Lib.hid ((Below.refl w_4.heap.size w_4).drew)
    obtain ⟨q_d0, q_d1, q_d2, q_d3⟩ := box_d.four
    go_wp2_with fail
    go_region_held3 (fun w' => w'.cell? ⟨w_1.heap.size, 0, none⟩ = some (.int .i64 P.e) ∧ w'.cell? ⟨w_1.heap.size, 1, none⟩ = some (.slice A_d 9 c_d))
      (exact HKK.out _ (by first | with_reducible exact HD0.out | with_reducible exact hB7))
      ((first | (go_at_call 31; refine (shared_c _ _ _).mono ?_; rintro e w' ⟨rfl, rfl⟩) | (go_at_call 30; refine (maskOff_c _ _ _ _ _ _ _ _ HDR.out).mono ?_; rintro e w7 ⟨A7, n7, c7, rfl, o7, hb7⟩; have hB7 : Below w_4.heap.size w_4 w7 := HD0.out.trans hb7)))
    clear q_d0 q_d1 q_d2 q_d3
    rw [HOFF.out] at o7
    have h9 := o7.len
    rw [offL_len, HV9.out] at h9
    subst h9
    obtain ⟨g7, rfl, hg1, hg2, hcc, -⟩ := o7.at_ (by omega)
    have c0 := hcc 0 (by omega)
    have c1 := hcc 1 (by omega)
    have c2 := hcc 2 (by omega)
    rw [HKIN.out] at c0
    rw [HNEX.out] at c1
    rw [HTAG.out] at c2
    have hc7 := o7.cap
    have hc3 : ¬ c7 = 3 := by omega
    have hc3' : (3 : Int) ≤ (c7 : Int) := by omega
    have s7 := o7.read.drop_ (j := 3) (by omega) (A' := some ⟨g7, 0 + 3, none⟩) (fun b o hA _ => by injection hA with hA; injection hA with h1 h2; subst h1 h2; rfl)
    rw [← HDRO.out] at s7
    replace o_out := o_out.below (show Below w_4.heap.size w_4 w7 from hB7) o_out.hi_le
    replace box_out := box_out.below (show Below w_4.heap.size w_4 w7 from hB7) box_out.hi_le
    have s8 := o_out.read.1.take_ (j := 6) (by omega)
    have S7 := Lib.hid s7
    have S8 := Lib.hid s8
    have hBd := hB.trans (hB7.mono hB.size)
    have hco := o_out.read.2.2.1
    have hco6 : (6 : Int) ≤ (c_out : Int) := by omega
    obtain ⟨k0, k1, k2, k3, k4, k5⟩ := box_out.six
    have hg7 : g7 < w7.heap.size := hg2
    have kk2 : ∀ w', Below w7.heap.size w7 w' → w'.cell? ⟨g7, 0, none⟩ = some (.int .i64 X.kind) ∧ w'.cell? ⟨g7, 1, none⟩ = some (.int .i64 X.next) ∧ w'.cell? ⟨g7, 2, none⟩ = some (.int .i64 X.p.t) ∧ w'.cell? ⟨w_2.heap.size, 0, none⟩ = some (.int .i64 X.kind) ∧ w'.cell? ⟨w_2.heap.size, 1, none⟩ = some (.int .i64 X.next) ∧ w'.cell? ⟨w_2.heap.size, 3, none⟩ = some (.slice A_out 9 c_out) ∧ w'.cell? ⟨w_2.heap.size, 4, none⟩ = some (.int .i64 X.p.t) := fun w' hb => ⟨(hb.cell (p := ⟨g7, 0, none⟩) hg7).trans c0, (hb.cell (p := ⟨g7, 1, none⟩) hg7).trans c1, (hb.cell (p := ⟨g7, 2, none⟩) hg7).trans c2, (box_out.below hb box_out.hi_le).six.1, (box_out.below hb box_out.hi_le).six.2.1, (box_out.below hb box_out.hi_le).six.2.2.2.1, (box_out.below hb box_out.hi_le).six.2.2.2.2.1⟩
    have HK2 := Lib.hid kk2
    have HE0 := Lib.hid ((Below.refl w7.heap.size w7).drew)
    clear hcc o7 hB hB7 hb7 s7 s8 kk2
    go_wp2_with fail
    go_region_held3 (fun w' => w'.cell? ⟨g7, 0, none⟩ = some (.int .i64 X.kind) ∧ w'.cell? ⟨g7, 1, none⟩ = some (.int .i64 X.next) ∧ w'.cell? ⟨g7, 2, none⟩ = some (.int .i64 X.p.t) ∧ w'.cell? ⟨w_2.heap.size, 0, none⟩ = some (.int .i64 X.kind) ∧ w'.cell? ⟨w_2.heap.size, 1, none⟩ = some (.int .i64 X.next) ∧ w'.cell? ⟨w_2.heap.size, 3, none⟩ = some (.slice A_out 9 c_out) ∧ w'.cell? ⟨w_2.heap.size, 4, none⟩ = some (.int .i64 X.p.t))
      (exact HK2.out _ (by first | with_reducible exact HE0.out | with_reducible exact hB8))
      ((go_at_call 29; refine (sameInts_t _ _ _ _ _ _ _ _ _ _ _ _ S7.out.drew S8.out.drew (by omega)).mono ?_; rintro e w8 ⟨rfl, hb8⟩; have hB8 : Below w7.heap.size w7 w8 := HE0.out.trans hb8))
    have hBe := hBd.trans (hB8.mono hBd.size)
    go_wp2_with fail
    go_ret
    exact ⟨ret_b (by first | rfl | simp), hBe⟩
end Go.Proofs.Ytbkecimhbibnjaa
