/-
  The walks of the statements on new mixes.
  Conditions: the arguments read as lists of bytes.
-/
import Derived.Test.YtalnilighempmaaLawsC
import Derived.Test.YtalnilighempmaaMixN
namespace Go.Proofs.Ytalnilighempmaa
open Go Go.RowKit

/-- A drawn number. -/
def OneInt (w : World) (e : Ending) (w' : World) : Prop := ∃ a, e = .returned (.int .i64 a) ∧ Below w.heap.size w w'
set_option maxRecDepth 100000 in
set_option maxHeartbeats 1600000 in
theorem drawMixNew_c (A : Option Addr) (n c : Nat) (xs : List Int) (w : World) (h : SlR .u8 w 0 w.heap.size A n xs) (hb : ∀ x ∈ xs, 0 ≤ x ∧ x ≤ 255) (hc : n ≤ c) (hc2 : c ≤ 9223372036854775807) : Calls Try.prog 54 #[.slice A n c] w (OneInt w) := by
  go_enter Try.func54, Try.ntmps54
  go_wp2_with fail
  refine (l6Open_c A n c xs w h hb hc hc2).mono ?_
  rintro e w_1 ⟨rfl, hr, hB⟩
  have hlt := hr.lt
  have z_1 := hB.size
  go_wp2_with fail
  refine (l91Is_c _ 0 _ hr (by omega)).mono ?_
  rintro e w_2 ⟨x, rfl, hr', h_2⟩
  have z_2 := h_2.size
  replace hB := hB.grown h_2 hB.size (fun k hk => by injection hk with hk; omega)
  clear hr
  have hr := hr'
  clear hr'
  go_wp2_with fail
  go_ret
  exact ⟨_, rfl, hB⟩
set_option maxRecDepth 100000 in
set_option maxHeartbeats 1600000 in
theorem wFnMixNew (A : Option Addr) (n c : Nat) (xs : List Int) (w : World) (hs : SlR .u8 w 0 w.heap.size A n xs) (hl : n ≤ c) (hc : c ≤ 9223372036854775807) (hb : ∀ x ∈ xs, 0 ≤ x ∧ x ≤ 255) : Calls Try.prog 8 #[.slice A n c] w fun e w' => e = .returned (.bool true) ∧ Below w.heap.size w w' := by
  by_cases hbig : 1048576 < n
  · go_enter Try.func8, Try.ntmps8
    go_wp2
    go_ret
    exact ⟨rfl, Below.refl _ _⟩
  go_enter Try.func8, Try.ntmps8
  go_wp2_with fail
  refine (drawMixNew_c A n c xs w hs hb hl hc).mono ?_
  rintro e w_1 ⟨s, rfl, h_1⟩
  have z_1 := h_1.size
  have hB := h_1
  go_wp2_with fail
  refine (mixNew_c s _).mono ?_
  rintro e w_2 ⟨A_out, c_out, A_out', c_out', rfl, h_2⟩
  have z_2 := h_2.size
  replace hB := hB.trans (h_2.mono hB.size)
  replace hB := hB.alloc hB.size (.cells #[.int .i64 (newS s), .slice A_out 0 c_out, .slice A_out' 0 c_out'] 43)
  have box_out := BoxAt.new w_2 #[.int .i64 (newS s), .slice A_out 0 c_out, .slice A_out' 0 c_out'] 43
  obtain ⟨s_out1, s_out2⟩ := alloc_size w_2 (.cells #[.int .i64 (newS s), .slice A_out 0 c_out, .slice A_out' 0 c_out'] 43)
  go_wp2_with fail
  refine (sMixNew_c s _).mono ?_
  rintro e w_3 ⟨A_want, c_want, A_want', c_want', rfl, h_3⟩
  have z_3 := h_3.size
  replace box_out := box_out.below h_3 box_out.hi_le
  replace hB := hB.trans (h_3.mono hB.size)
  replace box_out := box_out.alloc (.cells #[.int .i64 (newS s), .slice A_want 0 c_want, .slice A_want' 0 c_want'] 43)
  replace hB := hB.alloc hB.size (.cells #[.int .i64 (newS s), .slice A_want 0 c_want, .slice A_want' 0 c_want'] 43)
  have box_want := BoxAt.new w_3 #[.int .i64 (newS s), .slice A_want 0 c_want, .slice A_want' 0 c_want'] 43
  obtain ⟨s_want1, s_want2⟩ := alloc_size w_3 (.cells #[.int .i64 (newS s), .slice A_want 0 c_want, .slice A_want' 0 c_want'] 43)
  cases hok : elB s with
  | false =>
    obtain ⟨q_out0, q_out1, q_out2⟩ := box_out.three
    obtain ⟨q_want0, q_want1, q_want2⟩ := box_want.three
    go_wp2_with fail
    refine (sameMix_0 _ _ _ _ _ _ _ _ _ _).mono ?_
    rintro e w_4 ⟨rfl, h_4⟩
    clear q_out0 q_out1 q_out2 q_want0 q_want1 q_want2
    have z_4 := h_4.size
    replace box_out := box_out.below h_4 box_out.hi_le
    replace box_want := box_want.below h_4 box_want.hi_le
    replace hB := hB.trans (h_4.mono hB.size)
    obtain ⟨q_out0, q_out1, q_out2⟩ := box_out.three
    obtain ⟨q_want0, q_want1, q_want2⟩ := box_want.three
    go_wp2_with fail
    refine (sameMix_0 _ _ _ _ _ _ _ _ _ _).mono ?_
    rintro e w_5 ⟨rfl, h_5⟩
    clear q_out0 q_out1 q_out2 q_want0 q_want1 q_want2
    have z_5 := h_5.size
    replace box_out := box_out.below h_5 box_out.hi_le
    replace box_want := box_want.below h_5 box_want.hi_le
    replace hB := hB.trans (h_5.mono hB.size)
    go_wp2_with fail
    go_ret
    exact ⟨ret_b (by first | rfl | simp), hB⟩
  | true =>
    have hns : elB (newS s) = true := by simp [newS, hok]
    have HNS := Lib.hid hns
    clear hns
    obtain ⟨q_out0, q_out1, q_out2⟩ := box_out.three
    obtain ⟨q_want0, q_want1, q_want2⟩ := box_want.three
    go_wp2_with fail
    refine (sameMix_0 _ _ _ _ _ _ _ _ _ _).mono ?_
    rintro e w_4 ⟨rfl, h_4⟩
    clear q_out0 q_out1 q_out2 q_want0 q_want1 q_want2
    have z_4 := h_4.size
    replace box_out := box_out.below h_4 box_out.hi_le
    replace box_want := box_want.below h_4 box_want.hi_le
    replace hB := hB.trans (h_4.mono hB.size)
    obtain ⟨q_out0, q_out1, q_out2⟩ := box_out.three
    go_wp2_with fail
    refine (mixValid_0 _ _ _ _ _ _).mono ?_
    rintro e w_5 ⟨rfl, h_5⟩
    clear q_out0 q_out1 q_out2
    have z_5 := h_5.size
    replace box_out := box_out.below h_5 box_out.hi_le
    replace box_want := box_want.below h_5 box_want.hi_le
    replace hB := hB.trans (h_5.mono hB.size)
    rw [HNS.out]
    obtain ⟨q_out0, q_out1, q_out2⟩ := box_out.three
    go_wp2_with fail
    go_ret
    exact ⟨ret_b (by first | rfl | simp), hB⟩
set_option maxRecDepth 100000 in
set_option maxHeartbeats 1600000 in
theorem wFnExactMixNew (s : Int) (w : World) : Calls Try.prog 11 #[.int .i64 s] w fun e w' => e = .returned (.bool true) ∧ Below w.heap.size w w' := by
  go_enter Try.func11, Try.ntmps11
  go_wp2_with fail
  refine (sMixNew_c s _).mono ?_
  rintro e w_1 ⟨A_w, c_w, A_w', c_w', rfl, h_1⟩
  have z_1 := h_1.size
  have hB := h_1
  replace hB := hB.alloc hB.size (.cells #[.int .i64 (newS s), .slice A_w 0 c_w, .slice A_w' 0 c_w'] 43)
  have box_w := BoxAt.new w_1 #[.int .i64 (newS s), .slice A_w 0 c_w, .slice A_w' 0 c_w'] 43
  obtain ⟨s_w1, s_w2⟩ := alloc_size w_1 (.cells #[.int .i64 (newS s), .slice A_w 0 c_w, .slice A_w' 0 c_w'] 43)
  go_wp2_with fail
  refine (mixNew_c s _).mono ?_
  rintro e w_2 ⟨A_g, c_g, A_g', c_g', rfl, h_2⟩
  have z_2 := h_2.size
  replace box_w := box_w.below h_2 box_w.hi_le
  replace hB := hB.trans (h_2.mono hB.size)
  replace box_w := box_w.alloc (.cells #[.int .i64 (newS s), .slice A_g 0 c_g, .slice A_g' 0 c_g'] 43)
  replace hB := hB.alloc hB.size (.cells #[.int .i64 (newS s), .slice A_g 0 c_g, .slice A_g' 0 c_g'] 43)
  have box_g := BoxAt.new w_2 #[.int .i64 (newS s), .slice A_g 0 c_g, .slice A_g' 0 c_g'] 43
  obtain ⟨s_g1, s_g2⟩ := alloc_size w_2 (.cells #[.int .i64 (newS s), .slice A_g 0 c_g, .slice A_g' 0 c_g'] 43)
  obtain ⟨q_g0, q_g1, q_g2⟩ := box_g.three
  obtain ⟨q_w0, q_w1, q_w2⟩ := box_w.three
  go_wp2_with fail
  refine (eqMix_0 _ _ _ _ _ _ _ _ _ _).mono ?_
  rintro e w_3 ⟨rfl, h_3⟩
  clear q_g0 q_g1 q_g2 q_w0 q_w1 q_w2
  have z_3 := h_3.size
  replace box_w := box_w.below h_3 box_w.hi_le
  replace box_g := box_g.below h_3 box_g.hi_le
  replace hB := hB.trans (h_3.mono hB.size)
  obtain ⟨q_g0, q_g1, q_g2⟩ := box_g.three
  go_wp2_with fail
  refine (markMix_0 _ _ _ _ _ _ _).mono ?_
  rintro e w_4 ⟨rfl, h_4⟩
  clear q_g0 q_g1 q_g2
  have z_4 := h_4.size
  replace box_w := box_w.below h_4 box_w.hi_le
  replace box_g := box_g.below h_4 box_g.hi_le
  replace hB := hB.trans (h_4.mono hB.size)
  obtain ⟨q_g0, q_g1, q_g2⟩ := box_g.three
  go_wp2_with fail
  refine (heldMix_0 _ _ _ _ _ _ _ (by omega)).mono ?_
  rintro e w_5 ⟨rfl, h_5⟩
  clear q_g0 q_g1 q_g2
  have z_5 := h_5.size
  replace box_w := box_w.below h_5 box_w.hi_le
  replace box_g := box_g.below h_5 box_g.hi_le
  replace hB := hB.trans (h_5.mono hB.size)
  go_wp2_with fail
  refine (mixNew_c s _).mono ?_
  rintro e w_6 ⟨A_h, c_h, A_h', c_h', rfl, h_6⟩
  have z_6 := h_6.size
  replace box_w := box_w.below h_6 box_w.hi_le
  replace box_g := box_g.below h_6 box_g.hi_le
  replace hB := hB.trans (h_6.mono hB.size)
  replace box_w := box_w.alloc (.cells #[.int .i64 (newS s), .slice A_h 0 c_h, .slice A_h' 0 c_h'] 43)
  replace box_g := box_g.alloc (.cells #[.int .i64 (newS s), .slice A_h 0 c_h, .slice A_h' 0 c_h'] 43)
  replace hB := hB.alloc hB.size (.cells #[.int .i64 (newS s), .slice A_h 0 c_h, .slice A_h' 0 c_h'] 43)
  have box_h := BoxAt.new w_6 #[.int .i64 (newS s), .slice A_h 0 c_h, .slice A_h' 0 c_h'] 43
  obtain ⟨s_h1, s_h2⟩ := alloc_size w_6 (.cells #[.int .i64 (newS s), .slice A_h 0 c_h, .slice A_h' 0 c_h'] 43)
  obtain ⟨q_h0, q_h1, q_h2⟩ := box_h.three
  obtain ⟨q_w0, q_w1, q_w2⟩ := box_w.three
  go_wp2_with fail
  refine (eqMix_0 _ _ _ _ _ _ _ _ _ _).mono ?_
  rintro e w_7 ⟨rfl, h_7⟩
  clear q_h0 q_h1 q_h2 q_w0 q_w1 q_w2
  have z_7 := h_7.size
  replace box_w := box_w.below h_7 box_w.hi_le
  replace box_g := box_g.below h_7 box_g.hi_le
  replace box_h := box_h.below h_7 box_h.hi_le
  replace hB := hB.trans (h_7.mono hB.size)
  obtain ⟨q_g0, q_g1, q_g2⟩ := box_g.three
  go_wp2_with fail
  refine (heldMix_0 _ _ _ _ _ _ _ (by omega)).mono ?_
  rintro e w_8 ⟨rfl, h_8⟩
  clear q_g0 q_g1 q_g2
  have z_8 := h_8.size
  replace box_w := box_w.below h_8 box_w.hi_le
  replace box_g := box_g.below h_8 box_g.hi_le
  replace box_h := box_h.below h_8 box_h.hi_le
  replace hB := hB.trans (h_8.mono hB.size)
  go_wp2_with fail
  go_ret
  exact ⟨rfl, hB⟩
end Go.Proofs.Ytalnilighempmaa
