/-
  The walks of the statements on epochs.
  Conditions: a slice among the arguments reads as a list of whole numbers.
-/
import Derived.Test.YtoocjalhcliebaaDrawE
import Derived.Test.YtoocjalhcliebaaExactI
namespace Go.Proofs.Ytoocjalhcliebaa
open Go Go.RowKit

theorem epoch_true {s sec RS : Int} {seen RQ : List Int} {pl RP : List Peel} (h : EpR s seen pl sec RS RQ RP true) : sec = RS ∧ [] = RQ ∧ pl = RP ∧ mixB ⟨sec, [], pl⟩ = true := by
  obtain ⟨h1, h2, h3, h4⟩ := h
  have h5 : (mixB ⟨s, seen, pl⟩ = true ∧ elB sec = true) ∧ sec ≠ s := by simpa [epochB] using h4
  obtain ⟨⟨hm, he⟩, hne⟩ := h5
  rw [epoch_other hm he hne] at h1 h2 h3
  exact ⟨h1, h2, h3, epoch_valid hm he⟩
theorem epoch_d {s sec RS : Int} {seen RQ : List Int} {pl RP : List Peel} {OKV : Bool} (h : EpR s seen pl sec RS RQ RP OKV) (hm : mixB ⟨s, seen, pl⟩ = true) (he : elB sec = true) (e : sec = s) : s = RS ∧ seen = RQ ∧ pl = RP ∧ false = OKV := by
  obtain ⟨h1, h2, h3, h4⟩ := h
  rw [epoch_same hm he e] at h1 h2 h3
  rw [epoch_sameB e] at h4
  exact ⟨h1, h2, h3, h4⟩
theorem epoch_e {s sec RS : Int} {seen RQ : List Int} {pl RP : List Peel} {OKV : Bool} (h : EpR s seen pl sec RS RQ RP OKV) (hm : mixB ⟨s, seen, pl⟩ = true) (he : elB sec = true) (e : ¬ sec = s) : true = OKV := by
  obtain ⟨_, _, _, h4⟩ := h
  rw [epoch_otherB hm he e] at h4
  exact h4
set_option maxRecDepth 100000 in
set_option maxHeartbeats 1600000 in
theorem wFnEpoch (A : Option Addr) (n c : Nat) (xs : List Int) (w : World) (hs : SlR .u8 w 0 w.heap.size A n xs) (hl : n ≤ c) (hc : c ≤ 9223372036854775807) (hb : ∀ x ∈ xs, 0 ≤ x ∧ x ≤ 255) : Calls Try.prog 3 #[.slice A n c] w fun e w' => e = .returned (.bool true) ∧ Below w.heap.size w w' := by
  by_cases hbig : 1048576 < n
  · go_enter Try.func3, Try.ntmps3
    go_wp2
    go_ret
    exact ⟨rfl, Below.refl _ _⟩
  go_enter Try.func3, Try.ntmps3
  go_wp2_with fail
  refine (drawMixEpoch_c A n c xs w hs hb hl hc).mono ?_
  rintro e w_1 ⟨s, seen, pl, A_m, n_m, c_m, A_m', n_m', c_m', sec, rfl, o_m, b_m1, b_m2, hpl, h_1⟩
  have z_1 := h_1.size
  have hB := h_1
  have hl0 := o_m.len
  obtain ⟨RS, RQ, RP, OKV, hR, hrq, hrp, hrb⟩ := epoch_open s sec (seen := seen) (pl := pl) (N := 1000000) (by omega) (by omega) hpl
  have HR := Lib.hid hR
  have HPL := Lib.hid (show PlB 4194304 pl from fun x hx => by have := hpl x hx; omega)
  have HRB := Lib.hid (show PlB 4194304 RP from fun x hx => by have := hrb x hx; omega)
  clear hpl hR hrb hl0
  replace o_m := o_m.alloc (.cells #[.int .i64 s, .slice A_m n_m c_m, .slice A_m' n_m' c_m'] 26)
  replace hB := hB.alloc hB.size (.cells #[.int .i64 s, .slice A_m n_m c_m, .slice A_m' n_m' c_m'] 26)
  have box_m := BoxAt.new w_1 #[.int .i64 s, .slice A_m n_m c_m, .slice A_m' n_m' c_m'] 26
  obtain ⟨s_m1, s_m2⟩ := alloc_size w_1 (.cells #[.int .i64 s, .slice A_m n_m c_m, .slice A_m' n_m' c_m'] 26)
  obtain ⟨q_m0, q_m1, q_m2⟩ := box_m.three
  go_wp2_with fail
  refine (mixEpoch_p _ _ _ _ _ _ _ _ _ _ _ _ _ _ _ _ _ o_m (by omega) (by omega) HPL.out HR.out).mono ?_
  rintro e w_2 ⟨A_g, n_g, c_g, A_g', n_g', c_g', rfl, o_g, h_2⟩
  clear q_m0 q_m1 q_m2
  have z_2 := h_2.size
  replace o_m := o_m.below h_2 o_m.hi_le
  replace box_m := box_m.below h_2 box_m.hi_le
  replace hB := hB.trans (h_2.mono hB.size)
  have b_g : n_g ≤ 1000000 ∧ n_g' ≤ 1000000 := by have h1 := o_g.len; omega
  replace o_m := o_m.alloc (.cells #[.int .i64 RS, .slice A_g n_g c_g, .slice A_g' n_g' c_g'] 26)
  replace box_m := box_m.alloc (.cells #[.int .i64 RS, .slice A_g n_g c_g, .slice A_g' n_g' c_g'] 26)
  replace o_g := o_g.alloc (.cells #[.int .i64 RS, .slice A_g n_g c_g, .slice A_g' n_g' c_g'] 26)
  replace hB := hB.alloc hB.size (.cells #[.int .i64 RS, .slice A_g n_g c_g, .slice A_g' n_g' c_g'] 26)
  have box_g := BoxAt.new w_2 #[.int .i64 RS, .slice A_g n_g c_g, .slice A_g' n_g' c_g'] 26
  obtain ⟨s_g1, s_g2⟩ := alloc_size w_2 (.cells #[.int .i64 RS, .slice A_g n_g c_g, .slice A_g' n_g' c_g'] 26)
  obtain ⟨q_m0, q_m1, q_m2⟩ := box_m.three
  go_wp2_with fail
  refine (sMixEpoch_p _ _ _ _ _ _ _ _ _ _ _ _ _ _ _ _ _ o_m (by omega) (by omega) HPL.out HR.out).mono ?_
  rintro e w_3 ⟨A_w, n_w, c_w, A_w', n_w', c_w', rfl, o_w, h_3⟩
  clear q_m0 q_m1 q_m2
  have z_3 := h_3.size
  replace o_m := o_m.below h_3 o_m.hi_le
  replace box_m := box_m.below h_3 box_m.hi_le
  replace o_g := o_g.below h_3 o_g.hi_le
  replace box_g := box_g.below h_3 box_g.hi_le
  replace hB := hB.trans (h_3.mono hB.size)
  have b_w : n_w ≤ 1000000 ∧ n_w' ≤ 1000000 := by have h1 := o_w.len; omega
  replace o_m := o_m.alloc (.cells #[.int .i64 RS, .slice A_w n_w c_w, .slice A_w' n_w' c_w'] 26)
  replace box_m := box_m.alloc (.cells #[.int .i64 RS, .slice A_w n_w c_w, .slice A_w' n_w' c_w'] 26)
  replace o_g := o_g.alloc (.cells #[.int .i64 RS, .slice A_w n_w c_w, .slice A_w' n_w' c_w'] 26)
  replace box_g := box_g.alloc (.cells #[.int .i64 RS, .slice A_w n_w c_w, .slice A_w' n_w' c_w'] 26)
  replace o_w := o_w.alloc (.cells #[.int .i64 RS, .slice A_w n_w c_w, .slice A_w' n_w' c_w'] 26)
  replace hB := hB.alloc hB.size (.cells #[.int .i64 RS, .slice A_w n_w c_w, .slice A_w' n_w' c_w'] 26)
  have box_w := BoxAt.new w_3 #[.int .i64 RS, .slice A_w n_w c_w, .slice A_w' n_w' c_w'] 26
  obtain ⟨s_w1, s_w2⟩ := alloc_size w_3 (.cells #[.int .i64 RS, .slice A_w n_w c_w, .slice A_w' n_w' c_w'] 26)
  cases OKV with
  | false =>
    obtain ⟨q_g0, q_g1, q_g2⟩ := box_g.three
    obtain ⟨q_w0, q_w1, q_w2⟩ := box_w.three
    go_wp2_with fail
    refine (sameMix_t _ _ _ _ _ _ _ _ _ _ _ _ _ _ _ _ _ _ _ _ o_g.read o_w.read (by omega) (by omega) HRB.out).mono ?_
    rintro e w_4 ⟨rfl, h_4⟩
    clear q_g0 q_g1 q_g2 q_w0 q_w1 q_w2
    have z_4 := h_4.size
    replace o_m := o_m.below h_4 o_m.hi_le
    replace box_m := box_m.below h_4 box_m.hi_le
    replace o_g := o_g.below h_4 o_g.hi_le
    replace box_g := box_g.below h_4 box_g.hi_le
    replace o_w := o_w.below h_4 o_w.hi_le
    replace box_w := box_w.below h_4 box_w.hi_le
    replace hB := hB.trans (h_4.mono hB.size)
    obtain ⟨q_g0, q_g1, q_g2⟩ := box_g.three
    obtain ⟨q_w0, q_w1, q_w2⟩ := box_w.three
    go_wp2_with fail
    refine (sameMix_t _ _ _ _ _ _ _ _ _ _ _ _ _ _ _ _ _ _ _ _ o_g.read o_w.read (by omega) (by omega) HRB.out).mono ?_
    rintro e w_5 ⟨rfl, h_5⟩
    clear q_g0 q_g1 q_g2 q_w0 q_w1 q_w2
    have z_5 := h_5.size
    replace o_m := o_m.below h_5 o_m.hi_le
    replace box_m := box_m.below h_5 box_m.hi_le
    replace o_g := o_g.below h_5 o_g.hi_le
    replace box_g := box_g.below h_5 box_g.hi_le
    replace o_w := o_w.below h_5 o_w.hi_le
    replace box_w := box_w.below h_5 box_w.hi_le
    replace hB := hB.trans (h_5.mono hB.size)
    go_wp2_with fail
    go_ret
    exact ⟨ret_b (by first | rfl | simp), hB⟩
  | true =>
    obtain ⟨h1, h2, h3, hv⟩ := epoch_true HR.out
    subst h1 h2 h3
    have HV := Lib.hid hv
    have hn0 : n_g = 0 := by have h1 := o_g.len.1; simpa using h1.symm
    subst hn0
    clear hv
    obtain ⟨q_g0, q_g1, q_g2⟩ := box_g.three
    obtain ⟨q_w0, q_w1, q_w2⟩ := box_w.three
    go_wp2_with fail
    refine (sameMix_t _ _ _ _ _ _ _ _ _ _ _ _ _ _ _ _ _ _ _ _ o_g.read o_w.read (by omega) (by omega) HRB.out).mono ?_
    rintro e w_4 ⟨rfl, h_4⟩
    clear q_g0 q_g1 q_g2 q_w0 q_w1 q_w2
    have z_4 := h_4.size
    replace o_m := o_m.below h_4 o_m.hi_le
    replace box_m := box_m.below h_4 box_m.hi_le
    replace o_g := o_g.below h_4 o_g.hi_le
    replace box_g := box_g.below h_4 box_g.hi_le
    replace o_w := o_w.below h_4 o_w.hi_le
    replace box_w := box_w.below h_4 box_w.hi_le
    replace hB := hB.trans (h_4.mono hB.size)
    obtain ⟨q_g0, q_g1, q_g2⟩ := box_g.three
    obtain ⟨q_m0, q_m1, q_m2⟩ := box_m.three
    go_wp2_with fail
    refine (samePool_t _ _ _ _ _ _ _ _ _ _ _ _ o_g.read.2.1 o_m.2.1 (by omega) HPL.out).mono ?_
    rintro e w_5 ⟨rfl, h_5⟩
    clear q_g0 q_g1 q_g2 q_m0 q_m1 q_m2
    have z_5 := h_5.size
    replace o_m := o_m.below h_5 o_m.hi_le
    replace box_m := box_m.below h_5 box_m.hi_le
    replace o_g := o_g.below h_5 o_g.hi_le
    replace box_g := box_g.below h_5 box_g.hi_le
    replace o_w := o_w.below h_5 o_w.hi_le
    replace box_w := box_w.below h_5 box_w.hi_le
    replace hB := hB.trans (h_5.mono hB.size)
    obtain ⟨q_g0, q_g1, q_g2⟩ := box_g.three
    go_wp2_with fail
    refine ((mixValid_c _ _ _ _ _ _ _ _ _ _ _ _ o_g.read (by omega) (by omega)).mono fun _ _ h => (show Tells true _ _ _ by rw [HV.out] at h; exact h)).mono ?_
    rintro e w_6 ⟨rfl, h_6⟩
    clear q_g0 q_g1 q_g2
    have z_6 := h_6.size
    replace o_m := o_m.below h_6 o_m.hi_le
    replace box_m := box_m.below h_6 box_m.hi_le
    replace o_g := o_g.below h_6 o_g.hi_le
    replace box_g := box_g.below h_6 box_g.hi_le
    replace o_w := o_w.below h_6 o_w.hi_le
    replace box_w := box_w.below h_6 box_w.hi_le
    replace hB := hB.trans (h_6.mono hB.size)
    go_wp2_with fail
    go_ret
    exact ⟨ret_b (by first | rfl | simp), hB⟩
set_option maxRecDepth 100000 in
set_option maxHeartbeats 1600000 in
theorem wFnEpochSame (A : Option Addr) (n c : Nat) (xs : List Int) (w : World) (hs : SlR .u8 w 0 w.heap.size A n xs) (hl : n ≤ c) (hc : c ≤ 9223372036854775807) (hb : ∀ x ∈ xs, 0 ≤ x ∧ x ≤ 255) : Calls Try.prog 4 #[.slice A n c] w fun e w' => e = .returned (.bool true) ∧ Below w.heap.size w w' := by
  by_cases hbig : 1048576 < n
  · go_enter Try.func4, Try.ntmps4
    go_wp2
    go_ret
    exact ⟨rfl, Below.refl _ _⟩
  go_enter Try.func4, Try.ntmps4
  go_wp2_with fail
  refine (drawMixEpoch_c A n c xs w hs hb hl hc).mono ?_
  rintro e w_1 ⟨s, seen, pl, A_m, n_m, c_m, A_m', n_m', c_m', sec, rfl, o_m, b_m1, b_m2, hpl, h_1⟩
  have z_1 := h_1.size
  have hB := h_1
  have hl0 := o_m.len
  obtain ⟨RS, RQ, RP, OKV, hR, hrq, hrp, hrb⟩ := epoch_open s sec (seen := seen) (pl := pl) (N := 1000000) (by omega) (by omega) hpl
  have HR := Lib.hid hR
  have HPL := Lib.hid (show PlB 4194304 pl from fun x hx => by have := hpl x hx; omega)
  have HRB := Lib.hid (show PlB 4194304 RP from fun x hx => by have := hrb x hx; omega)
  clear hpl hR hrb hl0
  replace o_m := o_m.alloc (.cells #[.int .i64 s, .slice A_m n_m c_m, .slice A_m' n_m' c_m'] 26)
  replace hB := hB.alloc hB.size (.cells #[.int .i64 s, .slice A_m n_m c_m, .slice A_m' n_m' c_m'] 26)
  have box_m := BoxAt.new w_1 #[.int .i64 s, .slice A_m n_m c_m, .slice A_m' n_m' c_m'] 26
  obtain ⟨s_m1, s_m2⟩ := alloc_size w_1 (.cells #[.int .i64 s, .slice A_m n_m c_m, .slice A_m' n_m' c_m'] 26)
  obtain ⟨q_m0, q_m1, q_m2⟩ := box_m.three
  go_wp2_with fail
  refine (mixEpoch_p _ _ _ _ _ _ _ _ _ _ _ _ _ _ _ _ _ o_m (by omega) (by omega) HPL.out HR.out).mono ?_
  rintro e w_2 ⟨A_g, n_g, c_g, A_g', n_g', c_g', rfl, o_g, h_2⟩
  clear q_m0 q_m1 q_m2
  have z_2 := h_2.size
  replace o_m := o_m.below h_2 o_m.hi_le
  replace box_m := box_m.below h_2 box_m.hi_le
  replace hB := hB.trans (h_2.mono hB.size)
  have b_g : n_g ≤ 1000000 ∧ n_g' ≤ 1000000 := by have h1 := o_g.len; omega
  replace o_m := o_m.alloc (.cells #[.int .i64 RS, .slice A_g n_g c_g, .slice A_g' n_g' c_g'] 26)
  replace box_m := box_m.alloc (.cells #[.int .i64 RS, .slice A_g n_g c_g, .slice A_g' n_g' c_g'] 26)
  replace o_g := o_g.alloc (.cells #[.int .i64 RS, .slice A_g n_g c_g, .slice A_g' n_g' c_g'] 26)
  replace hB := hB.alloc hB.size (.cells #[.int .i64 RS, .slice A_g n_g c_g, .slice A_g' n_g' c_g'] 26)
  have box_g := BoxAt.new w_2 #[.int .i64 RS, .slice A_g n_g c_g, .slice A_g' n_g' c_g'] 26
  obtain ⟨s_g1, s_g2⟩ := alloc_size w_2 (.cells #[.int .i64 RS, .slice A_g n_g c_g, .slice A_g' n_g' c_g'] 26)
  obtain ⟨q_m0, q_m1, q_m2⟩ := box_m.three
  go_wp2_with fail
  refine (sMixEpoch_p _ _ _ _ _ _ _ _ _ _ _ _ _ _ _ _ _ o_m (by omega) (by omega) HPL.out HR.out).mono ?_
  rintro e w_3 ⟨A_w, n_w, c_w, A_w', n_w', c_w', rfl, o_w, h_3⟩
  clear q_m0 q_m1 q_m2
  have z_3 := h_3.size
  replace o_m := o_m.below h_3 o_m.hi_le
  replace box_m := box_m.below h_3 box_m.hi_le
  replace o_g := o_g.below h_3 o_g.hi_le
  replace box_g := box_g.below h_3 box_g.hi_le
  replace hB := hB.trans (h_3.mono hB.size)
  have b_w : n_w ≤ 1000000 ∧ n_w' ≤ 1000000 := by have h1 := o_w.len; omega
  replace o_m := o_m.alloc (.cells #[.int .i64 RS, .slice A_w n_w c_w, .slice A_w' n_w' c_w'] 26)
  replace box_m := box_m.alloc (.cells #[.int .i64 RS, .slice A_w n_w c_w, .slice A_w' n_w' c_w'] 26)
  replace o_g := o_g.alloc (.cells #[.int .i64 RS, .slice A_w n_w c_w, .slice A_w' n_w' c_w'] 26)
  replace box_g := box_g.alloc (.cells #[.int .i64 RS, .slice A_w n_w c_w, .slice A_w' n_w' c_w'] 26)
  replace o_w := o_w.alloc (.cells #[.int .i64 RS, .slice A_w n_w c_w, .slice A_w' n_w' c_w'] 26)
  replace hB := hB.alloc hB.size (.cells #[.int .i64 RS, .slice A_w n_w c_w, .slice A_w' n_w' c_w'] 26)
  have box_w := BoxAt.new w_3 #[.int .i64 RS, .slice A_w n_w c_w, .slice A_w' n_w' c_w'] 26
  obtain ⟨s_w1, s_w2⟩ := alloc_size w_3 (.cells #[.int .i64 RS, .slice A_w n_w c_w, .slice A_w' n_w' c_w'] 26)
  cases hm : mixB ⟨s, seen, pl⟩ with
  | false =>
    have HM := Lib.hid hm
    clear hm
    obtain ⟨q_g0, q_g1, q_g2⟩ := box_g.three
    obtain ⟨q_w0, q_w1, q_w2⟩ := box_w.three
    go_wp2_with fail
    refine (sameMix_t _ _ _ _ _ _ _ _ _ _ _ _ _ _ _ _ _ _ _ _ o_g.read o_w.read (by omega) (by omega) HRB.out).mono ?_
    rintro e w_4 ⟨rfl, h_4⟩
    clear q_g0 q_g1 q_g2 q_w0 q_w1 q_w2
    have z_4 := h_4.size
    replace o_m := o_m.below h_4 o_m.hi_le
    replace box_m := box_m.below h_4 box_m.hi_le
    replace o_g := o_g.below h_4 o_g.hi_le
    replace box_g := box_g.below h_4 box_g.hi_le
    replace o_w := o_w.below h_4 o_w.hi_le
    replace box_w := box_w.below h_4 box_w.hi_le
    replace hB := hB.trans (h_4.mono hB.size)
    obtain ⟨q_m0, q_m1, q_m2⟩ := box_m.three
    go_wp2_with fail
    refine ((sMixValid_c _ _ _ _ _ _ _ _ _ _ _ _ o_m (by omega) (by omega) HPL.out).mono fun _ _ h => (show Tells false _ _ _ by rw [HM.out] at h; exact h)).mono ?_
    rintro e w_5 ⟨rfl, h_5⟩
    clear q_m0 q_m1 q_m2
    have z_5 := h_5.size
    replace o_m := o_m.below h_5 o_m.hi_le
    replace box_m := box_m.below h_5 box_m.hi_le
    replace o_g := o_g.below h_5 o_g.hi_le
    replace box_g := box_g.below h_5 box_g.hi_le
    replace o_w := o_w.below h_5 o_w.hi_le
    replace box_w := box_w.below h_5 box_w.hi_le
    replace hB := hB.trans (h_5.mono hB.size)
    obtain ⟨q_g0, q_g1, q_g2⟩ := box_g.three
    obtain ⟨q_w0, q_w1, q_w2⟩ := box_w.three
    go_wp2_with fail
    refine (sameMix_t _ _ _ _ _ _ _ _ _ _ _ _ _ _ _ _ _ _ _ _ o_g.read o_w.read (by omega) (by omega) HRB.out).mono ?_
    rintro e w_6 ⟨rfl, h_6⟩
    clear q_g0 q_g1 q_g2 q_w0 q_w1 q_w2
    have z_6 := h_6.size
    replace o_m := o_m.below h_6 o_m.hi_le
    replace box_m := box_m.below h_6 box_m.hi_le
    replace o_g := o_g.below h_6 o_g.hi_le
    replace box_g := box_g.below h_6 box_g.hi_le
    replace o_w := o_w.below h_6 o_w.hi_le
    replace box_w := box_w.below h_6 box_w.hi_le
    replace hB := hB.trans (h_6.mono hB.size)
    go_wp2_with fail
    go_ret
    exact ⟨ret_b (by first | rfl | simp), hB⟩
  | true =>
    have HM := Lib.hid hm
    clear hm
    by_cases hlo : sec < 1
    · obtain ⟨q_g0, q_g1, q_g2⟩ := box_g.three
      obtain ⟨q_w0, q_w1, q_w2⟩ := box_w.three
      go_wp2_with fail
      refine (sameMix_t _ _ _ _ _ _ _ _ _ _ _ _ _ _ _ _ _ _ _ _ o_g.read o_w.read (by omega) (by omega) HRB.out).mono ?_
      rintro e w_4 ⟨rfl, h_4⟩
      clear q_g0 q_g1 q_g2 q_w0 q_w1 q_w2
      have z_4 := h_4.size
      replace o_m := o_m.below h_4 o_m.hi_le
      replace box_m := box_m.below h_4 box_m.hi_le
      replace o_g := o_g.below h_4 o_g.hi_le
      replace box_g := box_g.below h_4 box_g.hi_le
      replace o_w := o_w.below h_4 o_w.hi_le
      replace box_w := box_w.below h_4 box_w.hi_le
      replace hB := hB.trans (h_4.mono hB.size)
      obtain ⟨q_m0, q_m1, q_m2⟩ := box_m.three
      go_wp2_with fail
      refine ((sMixValid_c _ _ _ _ _ _ _ _ _ _ _ _ o_m (by omega) (by omega) HPL.out).mono fun _ _ h => (show Tells true _ _ _ by rw [HM.out] at h; exact h)).mono ?_
      rintro e w_5 ⟨rfl, h_5⟩
      clear q_m0 q_m1 q_m2
      have z_5 := h_5.size
      replace o_m := o_m.below h_5 o_m.hi_le
      replace box_m := box_m.below h_5 box_m.hi_le
      replace o_g := o_g.below h_5 o_g.hi_le
      replace box_g := box_g.below h_5 box_g.hi_le
      replace o_w := o_w.below h_5 o_w.hi_le
      replace box_w := box_w.below h_5 box_w.hi_le
      replace hB := hB.trans (h_5.mono hB.size)
      obtain ⟨q_g0, q_g1, q_g2⟩ := box_g.three
      obtain ⟨q_w0, q_w1, q_w2⟩ := box_w.three
      go_wp2_with fail
      refine (sameMix_t _ _ _ _ _ _ _ _ _ _ _ _ _ _ _ _ _ _ _ _ o_g.read o_w.read (by omega) (by omega) HRB.out).mono ?_
      rintro e w_6 ⟨rfl, h_6⟩
      clear q_g0 q_g1 q_g2 q_w0 q_w1 q_w2
      have z_6 := h_6.size
      replace o_m := o_m.below h_6 o_m.hi_le
      replace box_m := box_m.below h_6 box_m.hi_le
      replace o_g := o_g.below h_6 o_g.hi_le
      replace box_g := box_g.below h_6 box_g.hi_le
      replace o_w := o_w.below h_6 o_w.hi_le
      replace box_w := box_w.below h_6 box_w.hi_le
      replace hB := hB.trans (h_6.mono hB.size)
      go_wp2_with fail
      go_ret
      exact ⟨ret_b (by first | rfl | simp), hB⟩
    by_cases hhi : 997 ≤ sec
    · obtain ⟨q_g0, q_g1, q_g2⟩ := box_g.three
      obtain ⟨q_w0, q_w1, q_w2⟩ := box_w.three
      go_wp2_with fail
      refine (sameMix_t _ _ _ _ _ _ _ _ _ _ _ _ _ _ _ _ _ _ _ _ o_g.read o_w.read (by omega) (by omega) HRB.out).mono ?_
      rintro e w_4 ⟨rfl, h_4⟩
      clear q_g0 q_g1 q_g2 q_w0 q_w1 q_w2
      have z_4 := h_4.size
      replace o_m := o_m.below h_4 o_m.hi_le
      replace box_m := box_m.below h_4 box_m.hi_le
      replace o_g := o_g.below h_4 o_g.hi_le
      replace box_g := box_g.below h_4 box_g.hi_le
      replace o_w := o_w.below h_4 o_w.hi_le
      replace box_w := box_w.below h_4 box_w.hi_le
      replace hB := hB.trans (h_4.mono hB.size)
      obtain ⟨q_m0, q_m1, q_m2⟩ := box_m.three
      go_wp2_with fail
      refine ((sMixValid_c _ _ _ _ _ _ _ _ _ _ _ _ o_m (by omega) (by omega) HPL.out).mono fun _ _ h => (show Tells true _ _ _ by rw [HM.out] at h; exact h)).mono ?_
      rintro e w_5 ⟨rfl, h_5⟩
      clear q_m0 q_m1 q_m2
      have z_5 := h_5.size
      replace o_m := o_m.below h_5 o_m.hi_le
      replace box_m := box_m.below h_5 box_m.hi_le
      replace o_g := o_g.below h_5 o_g.hi_le
      replace box_g := box_g.below h_5 box_g.hi_le
      replace o_w := o_w.below h_5 o_w.hi_le
      replace box_w := box_w.below h_5 box_w.hi_le
      replace hB := hB.trans (h_5.mono hB.size)
      obtain ⟨q_g0, q_g1, q_g2⟩ := box_g.three
      obtain ⟨q_w0, q_w1, q_w2⟩ := box_w.three
      go_wp2_with fail
      refine (sameMix_t _ _ _ _ _ _ _ _ _ _ _ _ _ _ _ _ _ _ _ _ o_g.read o_w.read (by omega) (by omega) HRB.out).mono ?_
      rintro e w_6 ⟨rfl, h_6⟩
      clear q_g0 q_g1 q_g2 q_w0 q_w1 q_w2
      have z_6 := h_6.size
      replace o_m := o_m.below h_6 o_m.hi_le
      replace box_m := box_m.below h_6 box_m.hi_le
      replace o_g := o_g.below h_6 o_g.hi_le
      replace box_g := box_g.below h_6 box_g.hi_le
      replace o_w := o_w.below h_6 o_w.hi_le
      replace box_w := box_w.below h_6 box_w.hi_le
      replace hB := hB.trans (h_6.mono hB.size)
      go_wp2_with fail
      go_ret
      exact ⟨ret_b (by first | rfl | simp), hB⟩
    have he : elB sec = true := elB_iff.2 (by omega)
    by_cases hse : sec = s
    · obtain ⟨h1, h2, h3, h4⟩ := epoch_d HR.out HM.out he hse
      subst h1 h2 h3 h4 hse
      clear he
      obtain ⟨q_g0, q_g1, q_g2⟩ := box_g.three
      obtain ⟨q_w0, q_w1, q_w2⟩ := box_w.three
      go_wp2_with fail
      refine (sameMix_t _ _ _ _ _ _ _ _ _ _ _ _ _ _ _ _ _ _ _ _ o_g.read o_w.read (by omega) (by omega) HRB.out).mono ?_
      rintro e w_4 ⟨rfl, h_4⟩
      clear q_g0 q_g1 q_g2 q_w0 q_w1 q_w2
      have z_4 := h_4.size
      replace o_m := o_m.below h_4 o_m.hi_le
      replace box_m := box_m.below h_4 box_m.hi_le
      replace o_g := o_g.below h_4 o_g.hi_le
      replace box_g := box_g.below h_4 box_g.hi_le
      replace o_w := o_w.below h_4 o_w.hi_le
      replace box_w := box_w.below h_4 box_w.hi_le
      replace hB := hB.trans (h_4.mono hB.size)
      obtain ⟨q_m0, q_m1, q_m2⟩ := box_m.three
      go_wp2_with fail
      refine ((sMixValid_c _ _ _ _ _ _ _ _ _ _ _ _ o_m (by omega) (by omega) HPL.out).mono fun _ _ h => (show Tells true _ _ _ by rw [HM.out] at h; exact h)).mono ?_
      rintro e w_5 ⟨rfl, h_5⟩
      clear q_m0 q_m1 q_m2
      have z_5 := h_5.size
      replace o_m := o_m.below h_5 o_m.hi_le
      replace box_m := box_m.below h_5 box_m.hi_le
      replace o_g := o_g.below h_5 o_g.hi_le
      replace box_g := box_g.below h_5 box_g.hi_le
      replace o_w := o_w.below h_5 o_w.hi_le
      replace box_w := box_w.below h_5 box_w.hi_le
      replace hB := hB.trans (h_5.mono hB.size)
      obtain ⟨q_g0, q_g1, q_g2⟩ := box_g.three
      obtain ⟨q_m0, q_m1, q_m2⟩ := box_m.three
      go_wp2_with fail
      refine (sameMix_t _ _ _ _ _ _ _ _ _ _ _ _ _ _ _ _ _ _ _ _ o_g.read o_m (by omega) (by omega) HRB.out).mono ?_
      rintro e w_6 ⟨rfl, h_6⟩
      clear q_g0 q_g1 q_g2 q_m0 q_m1 q_m2
      have z_6 := h_6.size
      replace o_m := o_m.below h_6 o_m.hi_le
      replace box_m := box_m.below h_6 box_m.hi_le
      replace o_g := o_g.below h_6 o_g.hi_le
      replace box_g := box_g.below h_6 box_g.hi_le
      replace o_w := o_w.below h_6 o_w.hi_le
      replace box_w := box_w.below h_6 box_w.hi_le
      replace hB := hB.trans (h_6.mono hB.size)
      go_wp2_with fail
      go_ret
      exact ⟨ret_b (by first | rfl | simp), hB⟩
    have h4 := epoch_e HR.out HM.out he hse
    subst h4
    clear he
    have hse1 : (sec == s) = false := by simpa using hse
    have hse2 : (sec != s) = true := by simpa using hse
    obtain ⟨q_g0, q_g1, q_g2⟩ := box_g.three
    obtain ⟨q_w0, q_w1, q_w2⟩ := box_w.three
    go_wp2_with fail
    refine (sameMix_t _ _ _ _ _ _ _ _ _ _ _ _ _ _ _ _ _ _ _ _ o_g.read o_w.read (by omega) (by omega) HRB.out).mono ?_
    rintro e w_4 ⟨rfl, h_4⟩
    clear q_g0 q_g1 q_g2 q_w0 q_w1 q_w2
    have z_4 := h_4.size
    replace o_m := o_m.below h_4 o_m.hi_le
    replace box_m := box_m.below h_4 box_m.hi_le
    replace o_g := o_g.below h_4 o_g.hi_le
    replace box_g := box_g.below h_4 box_g.hi_le
    replace o_w := o_w.below h_4 o_w.hi_le
    replace box_w := box_w.below h_4 box_w.hi_le
    replace hB := hB.trans (h_4.mono hB.size)
    obtain ⟨q_m0, q_m1, q_m2⟩ := box_m.three
    go_wp2_with fail
    refine ((sMixValid_c _ _ _ _ _ _ _ _ _ _ _ _ o_m (by omega) (by omega) HPL.out).mono fun _ _ h => (show Tells true _ _ _ by rw [HM.out] at h; exact h)).mono ?_
    rintro e w_5 ⟨rfl, h_5⟩
    clear q_m0 q_m1 q_m2
    have z_5 := h_5.size
    replace o_m := o_m.below h_5 o_m.hi_le
    replace box_m := box_m.below h_5 box_m.hi_le
    replace o_g := o_g.below h_5 o_g.hi_le
    replace box_g := box_g.below h_5 box_g.hi_le
    replace o_w := o_w.below h_5 o_w.hi_le
    replace box_w := box_w.below h_5 box_w.hi_le
    replace hB := hB.trans (h_5.mono hB.size)
    obtain ⟨q_m0, q_m1, q_m2⟩ := box_m.three
    go_wp2_with fail
    go_ret
    exact ⟨ret_b (by first | rfl | simp [hse]), hB⟩
end Go.Proofs.Ytoocjalhcliebaa
