/-
  The walks of the statements on packets that are peeled.
  Conditions: the arguments read as lists of bytes.
-/
import Derived.Test.YtbkecimhbibnjaaDrawU
import Derived.Test.YtbkecimhbibnjaaExactG
import Derived.IntWalk
namespace Go.Proofs.Ytbkecimhbibnjaa
open Go Go.RowKit

theorem TwoR.read' {w : World} {lo hi : Nat} {P : Pkt} {A : Option Addr} {n c : Nat} {A2 : Option Addr} {n2 c2 : Nat} (t : TwoR w lo hi P.h P.b A n c A2 n2 c2) : TwoR w lo hi P.h P.b A n c A2 n2 c2 := t
theorem peel_tagged {s : Int} {p : Pkt} (h : peelB s p = true) : checkP (mulP s p.e) p.h p.t = true := by
  obtain ⟨hs, hv, ht, _, _⟩ := peelB_iff.1 h
  obtain ⟨he, hh, _, _, _, h0, _⟩ := validB_iff.1 hv
  exact checkP_iff.2 ⟨h0, by rw [tagP_eq (mulP_el hs he) hh, ht]⟩
theorem plain_at {k : Int} {h : List Int} (h9 : h.length = 9) {i : Nat} (hi : i < 9) : (plainL k h).getD i 0 = (offL h k).getD i 0 := by
  have e := offL_app h [0, 0, 0] k
  have e2 : (offL h k).getD i 0 = ((offL (h ++ [0, 0, 0]) k).take h.length).getD i 0 := by rw [e]
  rw [e2]
  simp [plainL, List.getD_eq_getElem?_getD, h9, hi]
theorem plain_take {k : Int} {h : List Int} (h9 : h.length = 9) : ((plainL k h).drop 3).take 6 = (offL h k).drop 3 := by
  have e := offL_app h [0, 0, 0] k
  rw [← e, h9, List.drop_take]
  rfl
set_option maxRecDepth 100000 in
set_option maxHeartbeats 1600000 in
theorem wFnPeelOther (A : Option Addr) (n c : Nat) (xs : List Int) (w : World) (hs : SlR .u8 w 0 w.heap.size A n xs) (hl : n ≤ c) (hc : c ≤ 9223372036854775807) (hb : ∀ x ∈ xs, 0 ≤ x ∧ x ≤ 255) : Calls Try.prog 9 #[.slice A n c] w fun e w' => e = .returned (.bool true) ∧ Below w.heap.size w w' := by
  by_cases hbig : 1048576 < n
  · go_enter Try.func9, Try.ntmps9
    go_wp2
    go_ret
    exact ⟨rfl, Below.refl _ _⟩
  go_enter Try.func9, Try.ntmps9
  go_wp2_with fail
  refine (drawPacketPeel_c A n c xs w hs hb hl hc).mono ?_
  rintro e w_1 ⟨s, P, A_d, n_d, c_d, A_d', n_d', c_d', rfl, o_d, b_d, b_d', h_1⟩
  have z_1 := h_1.size
  have hB := h_1
  replace o_d := o_d.alloc (.cells #[.int .i64 P.e, .slice A_d n_d c_d, .int .i64 P.t, .slice A_d' n_d' c_d'] 42)
  replace hB := hB.alloc hB.size (.cells #[.int .i64 P.e, .slice A_d n_d c_d, .int .i64 P.t, .slice A_d' n_d' c_d'] 42)
  have box_d := BoxAt.new w_1 #[.int .i64 P.e, .slice A_d n_d c_d, .int .i64 P.t, .slice A_d' n_d' c_d'] 42
  obtain ⟨s_d1, s_d2⟩ := alloc_size w_1 (.cells #[.int .i64 P.e, .slice A_d n_d c_d, .int .i64 P.t, .slice A_d' n_d' c_d'] 42)
  obtain ⟨X, hX⟩ : ∃ X, X = peelP s P := ⟨_, rfl⟩
  have hlen := peelP_len s P
  rw [← hX] at hlen
  have HX := Lib.hid hX
  obtain ⟨ok, hok⟩ : ∃ b', b' = peelB s P := ⟨_, rfl⟩
  have HOK := Lib.hid hok
  clear hX hok
  obtain ⟨q_d0, q_d1, q_d2, q_d3⟩ := box_d.four
  go_wp2_with fail
  refine (packetPeel_p _ _ _ _ _ _ _ _ _ _ _ _ _ _ _ _ o_d.read' HX.out HOK.out).mono ?_
  rintro e w_2 ⟨A_out, n_out, c_out, A_out', n_out', c_out', rfl, o_out, h_2⟩
  clear q_d0 q_d1 q_d2 q_d3
  have z_2 := h_2.size
  replace o_d := o_d.below h_2 o_d.hi_le
  replace box_d := box_d.below h_2 box_d.hi_le
  replace hB := hB.trans (h_2.mono hB.size)
  have b_out : n_out ≤ 9 ∧ n_out' ≤ 6 := by have h1 := o_out.len; have h2 := hlen; omega
  replace o_d := o_d.alloc (.cells #[.int .i64 (X).kind, .int .i64 (X).next, .int .i64 (X).p.e, .slice A_out n_out c_out, .int .i64 (X).p.t, .slice A_out' n_out' c_out'] 46)
  replace box_d := box_d.alloc (.cells #[.int .i64 (X).kind, .int .i64 (X).next, .int .i64 (X).p.e, .slice A_out n_out c_out, .int .i64 (X).p.t, .slice A_out' n_out' c_out'] 46)
  replace o_out := o_out.alloc (.cells #[.int .i64 (X).kind, .int .i64 (X).next, .int .i64 (X).p.e, .slice A_out n_out c_out, .int .i64 (X).p.t, .slice A_out' n_out' c_out'] 46)
  replace hB := hB.alloc hB.size (.cells #[.int .i64 (X).kind, .int .i64 (X).next, .int .i64 (X).p.e, .slice A_out n_out c_out, .int .i64 (X).p.t, .slice A_out' n_out' c_out'] 46)
  have box_out := BoxAt.new w_2 #[.int .i64 (X).kind, .int .i64 (X).next, .int .i64 (X).p.e, .slice A_out n_out c_out, .int .i64 (X).p.t, .slice A_out' n_out' c_out'] 46
  obtain ⟨s_out1, s_out2⟩ := alloc_size w_2 (.cells #[.int .i64 (X).kind, .int .i64 (X).next, .int .i64 (X).p.e, .slice A_out n_out c_out, .int .i64 (X).p.t, .slice A_out' n_out' c_out'] 46)
  obtain ⟨q_d0, q_d1, q_d2, q_d3⟩ := box_d.four
  go_wp2_with fail
  refine (sPacketPeel_p _ _ _ _ _ _ _ _ _ _ _ _ _ _ _ _ o_d.read' HX.out HOK.out (by omega) (by omega)).mono ?_
  rintro e w_3 ⟨A_want, n_want, c_want, A_want', n_want', c_want', rfl, o_want, h_3⟩
  clear q_d0 q_d1 q_d2 q_d3
  have z_3 := h_3.size
  replace o_d := o_d.below h_3 o_d.hi_le
  replace box_d := box_d.below h_3 box_d.hi_le
  replace o_out := o_out.below h_3 o_out.hi_le
  replace box_out := box_out.below h_3 box_out.hi_le
  replace hB := hB.trans (h_3.mono hB.size)
  have b_want : n_want ≤ 9 ∧ n_want' ≤ 6 := by have h1 := o_want.len; have h2 := hlen; omega
  replace o_d := o_d.alloc (.cells #[.int .i64 (X).kind, .int .i64 (X).next, .int .i64 (X).p.e, .slice A_want n_want c_want, .int .i64 (X).p.t, .slice A_want' n_want' c_want'] 46)
  replace box_d := box_d.alloc (.cells #[.int .i64 (X).kind, .int .i64 (X).next, .int .i64 (X).p.e, .slice A_want n_want c_want, .int .i64 (X).p.t, .slice A_want' n_want' c_want'] 46)
  replace o_out := o_out.alloc (.cells #[.int .i64 (X).kind, .int .i64 (X).next, .int .i64 (X).p.e, .slice A_want n_want c_want, .int .i64 (X).p.t, .slice A_want' n_want' c_want'] 46)
  replace box_out := box_out.alloc (.cells #[.int .i64 (X).kind, .int .i64 (X).next, .int .i64 (X).p.e, .slice A_want n_want c_want, .int .i64 (X).p.t, .slice A_want' n_want' c_want'] 46)
  replace o_want := o_want.alloc (.cells #[.int .i64 (X).kind, .int .i64 (X).next, .int .i64 (X).p.e, .slice A_want n_want c_want, .int .i64 (X).p.t, .slice A_want' n_want' c_want'] 46)
  replace hB := hB.alloc hB.size (.cells #[.int .i64 (X).kind, .int .i64 (X).next, .int .i64 (X).p.e, .slice A_want n_want c_want, .int .i64 (X).p.t, .slice A_want' n_want' c_want'] 46)
  have box_want := BoxAt.new w_3 #[.int .i64 (X).kind, .int .i64 (X).next, .int .i64 (X).p.e, .slice A_want n_want c_want, .int .i64 (X).p.t, .slice A_want' n_want' c_want'] 46
  obtain ⟨s_want1, s_want2⟩ := alloc_size w_3 (.cells #[.int .i64 (X).kind, .int .i64 (X).next, .int .i64 (X).p.e, .slice A_want n_want c_want, .int .i64 (X).p.t, .slice A_want' n_want' c_want'] 46)
  cases ok with
  | false =>
    obtain ⟨q_out0, q_out1, q_out2, q_out3, q_out4, q_out5⟩ := box_out.six
    obtain ⟨q_want0, q_want1, q_want2, q_want3, q_want4, q_want5⟩ := box_want.six
    go_wp2_with fail
    refine (samePeeled_t _ _ _ _ _ _ _ _ _ _ _ _ _ _ _ _ _ _ _ _ _ _ _ o_out.read o_want.read (by omega) (by omega)).mono ?_
    rintro e w_4 ⟨rfl, h_4⟩
    clear q_out0 q_out1 q_out2 q_out3 q_out4 q_out5 q_want0 q_want1 q_want2 q_want3 q_want4 q_want5
    have z_4 := h_4.size
    replace o_d := o_d.below h_4 o_d.hi_le
    replace box_d := box_d.below h_4 box_d.hi_le
    replace o_out := o_out.below h_4 o_out.hi_le
    replace box_out := box_out.below h_4 box_out.hi_le
    replace o_want := o_want.below h_4 o_want.hi_le
    replace box_want := box_want.below h_4 box_want.hi_le
    replace hB := hB.trans (h_4.mono hB.size)
    obtain ⟨q_out0, q_out1, q_out2, q_out3, q_out4, q_out5⟩ := box_out.six
    obtain ⟨q_want0, q_want1, q_want2, q_want3, q_want4, q_want5⟩ := box_want.six
    go_wp2_with fail
    refine (samePeeled_t _ _ _ _ _ _ _ _ _ _ _ _ _ _ _ _ _ _ _ _ _ _ _ o_out.read o_want.read (by omega) (by omega)).mono ?_
    rintro e w_5 ⟨rfl, h_5⟩
    clear q_out0 q_out1 q_out2 q_out3 q_out4 q_out5 q_want0 q_want1 q_want2 q_want3 q_want4 q_want5
    have z_5 := h_5.size
    replace o_d := o_d.below h_5 o_d.hi_le
    replace box_d := box_d.below h_5 box_d.hi_le
    replace o_out := o_out.below h_5 o_out.hi_le
    replace box_out := box_out.below h_5 box_out.hi_le
    replace o_want := o_want.below h_5 o_want.hi_le
    replace box_want := box_want.below h_5 box_want.hi_le
    replace hB := hB.trans (h_5.mono hB.size)
    go_wp2_with fail
    go_ret
    exact ⟨ret_b (by first | rfl | simp), hB⟩
  | true =>
    obtain ⟨q_out0, q_out1, q_out2, q_out3, q_out4, q_out5⟩ := box_out.six
    obtain ⟨q_want0, q_want1, q_want2, q_want3, q_want4, q_want5⟩ := box_want.six
    go_wp2_with fail
    refine (samePeeled_t _ _ _ _ _ _ _ _ _ _ _ _ _ _ _ _ _ _ _ _ _ _ _ o_out.read o_want.read (by omega) (by omega)).mono ?_
    rintro e w_4 ⟨rfl, h_4⟩
    clear q_out0 q_out1 q_out2 q_out3 q_out4 q_out5 q_want0 q_want1 q_want2 q_want3 q_want4 q_want5
    have z_4 := h_4.size
    replace o_d := o_d.below h_4 o_d.hi_le
    replace box_d := box_d.below h_4 box_d.hi_le
    replace o_out := o_out.below h_4 o_out.hi_le
    replace box_out := box_out.below h_4 box_out.hi_le
    replace o_want := o_want.below h_4 o_want.hi_le
    replace box_want := box_want.below h_4 box_want.hi_le
    replace hB := hB.trans (h_4.mono hB.size)
    have hpb := HOK.out.symm
    have hxl := HX.out.trans (peelP_yes hpb)
    obtain ⟨hse, hv, htg, hkd, hnm⟩ := peelB_iff.1 hpb
    obtain ⟨hve, hvh, hv9, hvb, hv6, hvt⟩ := validB_iff.1 hv
    have hxv := peelL_valid hpb
    rw [← hxl] at hxv
    obtain ⟨_, _, hx9, _, hx6, _⟩ := validB_iff.1 hxv
    obtain ⟨rfl, rfl⟩ : n_d = 9 ∧ n_d' = 6 := by have := o_d.len; omega
    obtain ⟨rfl, rfl⟩ : n_out = 9 ∧ n_out' = 6 := by have := o_out.len; omega
    have hke : elB (mulP s P.e) = true := mulP_el hse hve
    have HPB := Lib.hid hpb
    have HXL := Lib.hid hxl
    have HXV := Lib.hid hxv
    have HTG := Lib.hid htg
    have HVH := Lib.hid hvh
    have HVB := Lib.hid hvb
    have HV9 := Lib.hid hv9
    have HV6 := Lib.hid hv6
    have HVT := Lib.hid hvt
    have HKE := Lib.hid hke
    have HX9 := Lib.hid hx9
    clear hpb hxl hse hv htg hkd hnm hve hvh hv9 hvb hv6 hvt hxv hx9 hx6 hke HX HOK
    have htc := peel_tagged HPB.out
    have HTC := Lib.hid htc
    have HDR := Lib.hid o_d.1.drew
    clear htc
    have kk : ∀ w', Below w_4.heap.size w_4 w' → w'.cell? ⟨w_1.heap.size, 0, none⟩ = some (.int .i64 P.e) ∧ w'.cell? ⟨w_1.heap.size, 1, none⟩ = some (.slice A_d 9 c_d) ∧ w'.cell? ⟨w_1.heap.size, 2, none⟩ = some (.int .i64 P.t) := fun w' hb => ⟨(box_d.below hb box_d.hi_le).four.1, (box_d.below hb box_d.hi_le).four.2.1, (box_d.below hb box_d.hi_le).four.2.2.1⟩
    have HKK := Lib.hid kk
    clear kk
    have HD0 := Lib.hid ((Below.refl w_4.heap.size w_4).drew)
    obtain ⟨q_d0, q_d1, q_d2, q_d3⟩ := box_d.four
    go_wp2_with fail
    go_region_held3 (fun w' => w'.cell? ⟨w_1.heap.size, 0, none⟩ = some (.int .i64 P.e) ∧ w'.cell? ⟨w_1.heap.size, 1, none⟩ = some (.slice A_d 9 c_d) ∧ w'.cell? ⟨w_1.heap.size, 2, none⟩ = some (.int .i64 P.t))
      (exact HKK.out _ (by first | with_reducible exact HD0.out))
      ((first | (go_at_call 31; refine (shared_c _ _ _).mono ?_; rintro e w' ⟨rfl, rfl⟩) | (go_at_call 35; refine (tagCheck_c _ _ _ _ _ _ _ _ _ HDR.out).mono ?_; rintro e w' ⟨rfl, rfl⟩)))
    clear q_d0 q_d1 q_d2 q_d3
    have hBd := hB.drew
    clear hB
    go_wp2_with fail
    go_ret
    exact ⟨ret_b (by rw [HTC.out]), hBd⟩
set_option maxRecDepth 100000 in
set_option maxHeartbeats 1600000 in
theorem wFnPeelBody (A : Option Addr) (n c : Nat) (xs : List Int) (w : World) (hs : SlR .u8 w 0 w.heap.size A n xs) (hl : n ≤ c) (hc : c ≤ 9223372036854775807) (hb : ∀ x ∈ xs, 0 ≤ x ∧ x ≤ 255) : Calls Try.prog 6 #[.slice A n c] w fun e w' => e = .returned (.bool true) ∧ Below w.heap.size w w' := by
  by_cases hbig : 1048576 < n
  · go_enter Try.func6, Try.ntmps6
    go_wp2
    go_ret
    exact ⟨rfl, Below.refl _ _⟩
  go_enter Try.func6, Try.ntmps6
  go_wp2_with fail
  refine (drawPacketPeel_c A n c xs w hs hb hl hc).mono ?_
  rintro e w_1 ⟨s, P, A_d, n_d, c_d, A_d', n_d', c_d', rfl, o_d, b_d, b_d', h_1⟩
  have z_1 := h_1.size
  have hB := h_1
  replace o_d := o_d.alloc (.cells #[.int .i64 P.e, .slice A_d n_d c_d, .int .i64 P.t, .slice A_d' n_d' c_d'] 42)
  replace hB := hB.alloc hB.size (.cells #[.int .i64 P.e, .slice A_d n_d c_d, .int .i64 P.t, .slice A_d' n_d' c_d'] 42)
  have box_d := BoxAt.new w_1 #[.int .i64 P.e, .slice A_d n_d c_d, .int .i64 P.t, .slice A_d' n_d' c_d'] 42
  obtain ⟨s_d1, s_d2⟩ := alloc_size w_1 (.cells #[.int .i64 P.e, .slice A_d n_d c_d, .int .i64 P.t, .slice A_d' n_d' c_d'] 42)
  obtain ⟨X, hX⟩ : ∃ X, X = peelP s P := ⟨_, rfl⟩
  have hlen := peelP_len s P
  rw [← hX] at hlen
  have HX := Lib.hid hX
  obtain ⟨ok, hok⟩ : ∃ b', b' = peelB s P := ⟨_, rfl⟩
  have HOK := Lib.hid hok
  clear hX hok
  obtain ⟨q_d0, q_d1, q_d2, q_d3⟩ := box_d.four
  go_wp2_with fail
  refine (packetPeel_p _ _ _ _ _ _ _ _ _ _ _ _ _ _ _ _ o_d.read' HX.out HOK.out).mono ?_
  rintro e w_2 ⟨A_out, n_out, c_out, A_out', n_out', c_out', rfl, o_out, h_2⟩
  clear q_d0 q_d1 q_d2 q_d3
  have z_2 := h_2.size
  replace o_d := o_d.below h_2 o_d.hi_le
  replace box_d := box_d.below h_2 box_d.hi_le
  replace hB := hB.trans (h_2.mono hB.size)
  have b_out : n_out ≤ 9 ∧ n_out' ≤ 6 := by have h1 := o_out.len; have h2 := hlen; omega
  replace o_d := o_d.alloc (.cells #[.int .i64 (X).kind, .int .i64 (X).next, .int .i64 (X).p.e, .slice A_out n_out c_out, .int .i64 (X).p.t, .slice A_out' n_out' c_out'] 46)
  replace box_d := box_d.alloc (.cells #[.int .i64 (X).kind, .int .i64 (X).next, .int .i64 (X).p.e, .slice A_out n_out c_out, .int .i64 (X).p.t, .slice A_out' n_out' c_out'] 46)
  replace o_out := o_out.alloc (.cells #[.int .i64 (X).kind, .int .i64 (X).next, .int .i64 (X).p.e, .slice A_out n_out c_out, .int .i64 (X).p.t, .slice A_out' n_out' c_out'] 46)
  replace hB := hB.alloc hB.size (.cells #[.int .i64 (X).kind, .int .i64 (X).next, .int .i64 (X).p.e, .slice A_out n_out c_out, .int .i64 (X).p.t, .slice A_out' n_out' c_out'] 46)
  have box_out := BoxAt.new w_2 #[.int .i64 (X).kind, .int .i64 (X).next, .int .i64 (X).p.e, .slice A_out n_out c_out, .int .i64 (X).p.t, .slice A_out' n_out' c_out'] 46
  obtain ⟨s_out1, s_out2⟩ := alloc_size w_2 (.cells #[.int .i64 (X).kind, .int .i64 (X).next, .int .i64 (X).p.e, .slice A_out n_out c_out, .int .i64 (X).p.t, .slice A_out' n_out' c_out'] 46)
  obtain ⟨q_d0, q_d1, q_d2, q_d3⟩ := box_d.four
  go_wp2_with fail
  refine (sPacketPeel_p _ _ _ _ _ _ _ _ _ _ _ _ _ _ _ _ o_d.read' HX.out HOK.out (by omega) (by omega)).mono ?_
  rintro e w_3 ⟨A_want, n_want, c_want, A_want', n_want', c_want', rfl, o_want, h_3⟩
  clear q_d0 q_d1 q_d2 q_d3
  have z_3 := h_3.size
  replace o_d := o_d.below h_3 o_d.hi_le
  replace box_d := box_d.below h_3 box_d.hi_le
  replace o_out := o_out.below h_3 o_out.hi_le
  replace box_out := box_out.below h_3 box_out.hi_le
  replace hB := hB.trans (h_3.mono hB.size)
  have b_want : n_want ≤ 9 ∧ n_want' ≤ 6 := by have h1 := o_want.len; have h2 := hlen; omega
  replace o_d := o_d.alloc (.cells #[.int .i64 (X).kind, .int .i64 (X).next, .int .i64 (X).p.e, .slice A_want n_want c_want, .int .i64 (X).p.t, .slice A_want' n_want' c_want'] 46)
  replace box_d := box_d.alloc (.cells #[.int .i64 (X).kind, .int .i64 (X).next, .int .i64 (X).p.e, .slice A_want n_want c_want, .int .i64 (X).p.t, .slice A_want' n_want' c_want'] 46)
  replace o_out := o_out.alloc (.cells #[.int .i64 (X).kind, .int .i64 (X).next, .int .i64 (X).p.e, .slice A_want n_want c_want, .int .i64 (X).p.t, .slice A_want' n_want' c_want'] 46)
  replace box_out := box_out.alloc (.cells #[.int .i64 (X).kind, .int .i64 (X).next, .int .i64 (X).p.e, .slice A_want n_want c_want, .int .i64 (X).p.t, .slice A_want' n_want' c_want'] 46)
  replace o_want := o_want.alloc (.cells #[.int .i64 (X).kind, .int .i64 (X).next, .int .i64 (X).p.e, .slice A_want n_want c_want, .int .i64 (X).p.t, .slice A_want' n_want' c_want'] 46)
  replace hB := hB.alloc hB.size (.cells #[.int .i64 (X).kind, .int .i64 (X).next, .int .i64 (X).p.e, .slice A_want n_want c_want, .int .i64 (X).p.t, .slice A_want' n_want' c_want'] 46)
  have box_want := BoxAt.new w_3 #[.int .i64 (X).kind, .int .i64 (X).next, .int .i64 (X).p.e, .slice A_want n_want c_want, .int .i64 (X).p.t, .slice A_want' n_want' c_want'] 46
  obtain ⟨s_want1, s_want2⟩ := alloc_size w_3 (.cells #[.int .i64 (X).kind, .int .i64 (X).next, .int .i64 (X).p.e, .slice A_want n_want c_want, .int .i64 (X).p.t, .slice A_want' n_want' c_want'] 46)
  cases ok with
  | false =>
    obtain ⟨q_out0, q_out1, q_out2, q_out3, q_out4, q_out5⟩ := box_out.six
    obtain ⟨q_want0, q_want1, q_want2, q_want3, q_want4, q_want5⟩ := box_want.six
    go_wp2_with fail
    refine (samePeeled_t _ _ _ _ _ _ _ _ _ _ _ _ _ _ _ _ _ _ _ _ _ _ _ o_out.read o_want.read (by omega) (by omega)).mono ?_
    rintro e w_4 ⟨rfl, h_4⟩
    clear q_out0 q_out1 q_out2 q_out3 q_out4 q_out5 q_want0 q_want1 q_want2 q_want3 q_want4 q_want5
    have z_4 := h_4.size
    replace o_d := o_d.below h_4 o_d.hi_le
    replace box_d := box_d.below h_4 box_d.hi_le
    replace o_out := o_out.below h_4 o_out.hi_le
    replace box_out := box_out.below h_4 box_out.hi_le
    replace o_want := o_want.below h_4 o_want.hi_le
    replace box_want := box_want.below h_4 box_want.hi_le
    replace hB := hB.trans (h_4.mono hB.size)
    obtain ⟨q_out0, q_out1, q_out2, q_out3, q_out4, q_out5⟩ := box_out.six
    obtain ⟨q_want0, q_want1, q_want2, q_want3, q_want4, q_want5⟩ := box_want.six
    go_wp2_with fail
    refine (samePeeled_t _ _ _ _ _ _ _ _ _ _ _ _ _ _ _ _ _ _ _ _ _ _ _ o_out.read o_want.read (by omega) (by omega)).mono ?_
    rintro e w_5 ⟨rfl, h_5⟩
    clear q_out0 q_out1 q_out2 q_out3 q_out4 q_out5 q_want0 q_want1 q_want2 q_want3 q_want4 q_want5
    have z_5 := h_5.size
    replace o_d := o_d.below h_5 o_d.hi_le
    replace box_d := box_d.below h_5 box_d.hi_le
    replace o_out := o_out.below h_5 o_out.hi_le
    replace box_out := box_out.below h_5 box_out.hi_le
    replace o_want := o_want.below h_5 o_want.hi_le
    replace box_want := box_want.below h_5 box_want.hi_le
    replace hB := hB.trans (h_5.mono hB.size)
    go_wp2_with fail
    go_ret
    exact ⟨ret_b (by first | rfl | simp), hB⟩
  | true =>
    obtain ⟨q_out0, q_out1, q_out2, q_out3, q_out4, q_out5⟩ := box_out.six
    obtain ⟨q_want0, q_want1, q_want2, q_want3, q_want4, q_want5⟩ := box_want.six
    go_wp2_with fail
    refine (samePeeled_t _ _ _ _ _ _ _ _ _ _ _ _ _ _ _ _ _ _ _ _ _ _ _ o_out.read o_want.read (by omega) (by omega)).mono ?_
    rintro e w_4 ⟨rfl, h_4⟩
    clear q_out0 q_out1 q_out2 q_out3 q_out4 q_out5 q_want0 q_want1 q_want2 q_want3 q_want4 q_want5
    have z_4 := h_4.size
    replace o_d := o_d.below h_4 o_d.hi_le
    replace box_d := box_d.below h_4 box_d.hi_le
    replace o_out := o_out.below h_4 o_out.hi_le
    replace box_out := box_out.below h_4 box_out.hi_le
    replace o_want := o_want.below h_4 o_want.hi_le
    replace box_want := box_want.below h_4 box_want.hi_le
    replace hB := hB.trans (h_4.mono hB.size)
    have hpb := HOK.out.symm
    have hxl := HX.out.trans (peelP_yes hpb)
    obtain ⟨hse, hv, htg, hkd, hnm⟩ := peelB_iff.1 hpb
    obtain ⟨hve, hvh, hv9, hvb, hv6, hvt⟩ := validB_iff.1 hv
    have hxv := peelL_valid hpb
    rw [← hxl] at hxv
    obtain ⟨_, _, hx9, _, hx6, _⟩ := validB_iff.1 hxv
    obtain ⟨rfl, rfl⟩ : n_d = 9 ∧ n_d' = 6 := by have := o_d.len; omega
    obtain ⟨rfl, rfl⟩ : n_out = 9 ∧ n_out' = 6 := by have := o_out.len; omega
    have hke : elB (mulP s P.e) = true := mulP_el hse hve
    have HPB := Lib.hid hpb
    have HXL := Lib.hid hxl
    have HXV := Lib.hid hxv
    have HTG := Lib.hid htg
    have HVH := Lib.hid hvh
    have HVB := Lib.hid hvb
    have HV9 := Lib.hid hv9
    have HV6 := Lib.hid hv6
    have HVT := Lib.hid hvt
    have HKE := Lib.hid hke
    have HX9 := Lib.hid hx9
    clear hpb hxl hse hv htg hkd hnm hve hvh hv9 hvb hv6 hvt hxv hx9 hx6 hke HX HOK
    have hbb : X.p.b = offP P.b (mulP s P.e) := by rw [offP_eq HVB.out HKE.out, HXL.out]; rfl
    have HBB := Lib.hid hbb
    have HDR := Lib.hid o_d.2.1.drew
    have HOO := Lib.hid o_out.read.2.1.drew
    clear hbb
    have kk : ∀ w', Below w_4.heap.size w_4 w' → w'.cell? ⟨w_1.heap.size, 0, none⟩ = some (.int .i64 P.e) ∧ w'.cell? ⟨w_1.heap.size, 3, none⟩ = some (.slice A_d' 6 c_d') ∧ w'.cell? ⟨w_2.heap.size, 5, none⟩ = some (.slice A_out' 6 c_out') := fun w' hb => ⟨(box_d.below hb box_d.hi_le).four.1, (box_d.below hb box_d.hi_le).four.2.2.2, (box_out.below hb box_out.hi_le).six.2.2.2.2.2⟩
    have HKK := Lib.hid kk
    clear kk
    have HD0 := Lib.hid ((Below.refl w_4.heap.size w_4).drew)
    obtain ⟨q_d0, q_d1, q_d2, q_d3⟩ := box_d.four
    obtain ⟨q_out0, q_out1, q_out2, q_out3, q_out4, q_out5⟩ := box_out.six
    go_wp2_with fail
    go_region_held3 (fun w' => w'.cell? ⟨w_1.heap.size, 0, none⟩ = some (.int .i64 P.e) ∧ w'.cell? ⟨w_1.heap.size, 3, none⟩ = some (.slice A_d' 6 c_d') ∧ w'.cell? ⟨w_2.heap.size, 5, none⟩ = some (.slice A_out' 6 c_out'))
      (exact HKK.out _ (by first | with_reducible exact HD0.out | with_reducible exact hB8 | with_reducible exact hB7))
      ((first | (go_at_call 31; refine (shared_c _ _ _).mono ?_; rintro e w' ⟨rfl, rfl⟩) | (go_at_call 30; refine (maskOff_c _ _ _ _ _ _ _ _ HDR.out).mono ?_; rintro e w7 ⟨A7, n7, c7, rfl, o7, hb7⟩; have hB7 : Below w_4.heap.size w_4 w7 := HD0.out.trans hb7) | (go_at_call 29; refine (sameInts_t _ _ _ _ _ _ _ _ _ _ _ _ (HOO.out.below hb7 HOO.out.hi_le) (by rw [HBB.out]; exact o7.read) (by omega)).mono ?_; rintro e w8 ⟨rfl, hb8⟩; have hB8 := hB7.trans (hb8.mono hB7.size))))
    clear q_d0 q_d1 q_d2 q_d3 q_out0 q_out1 q_out2 q_out3 q_out4 q_out5
    have hBd := hB.trans (hB8.mono hB.size)
    clear hB hB8 hB7 hb7 hb8
    go_wp2_with fail
    go_ret
    exact ⟨ret_b (by first | rfl | simp), hBd⟩
set_option maxRecDepth 100000 in
set_option maxHeartbeats 1600000 in
theorem wFnPeelElement (A : Option Addr) (n c : Nat) (xs : List Int) (w : World) (hs : SlR .u8 w 0 w.heap.size A n xs) (hl : n ≤ c) (hc : c ≤ 9223372036854775807) (hb : ∀ x ∈ xs, 0 ≤ x ∧ x ≤ 255) : Calls Try.prog 7 #[.slice A n c] w fun e w' => e = .returned (.bool true) ∧ Below w.heap.size w w' := by
  by_cases hbig : 1048576 < n
  · go_enter Try.func7, Try.ntmps7
    go_wp2
    go_ret
    exact ⟨rfl, Below.refl _ _⟩
  go_enter Try.func7, Try.ntmps7
  go_wp2_with fail
  refine (drawPacketPeel_c A n c xs w hs hb hl hc).mono ?_
  rintro e w_1 ⟨s, P, A_d, n_d, c_d, A_d', n_d', c_d', rfl, o_d, b_d, b_d', h_1⟩
  have z_1 := h_1.size
  have hB := h_1
  replace o_d := o_d.alloc (.cells #[.int .i64 P.e, .slice A_d n_d c_d, .int .i64 P.t, .slice A_d' n_d' c_d'] 42)
  replace hB := hB.alloc hB.size (.cells #[.int .i64 P.e, .slice A_d n_d c_d, .int .i64 P.t, .slice A_d' n_d' c_d'] 42)
  have box_d := BoxAt.new w_1 #[.int .i64 P.e, .slice A_d n_d c_d, .int .i64 P.t, .slice A_d' n_d' c_d'] 42
  obtain ⟨s_d1, s_d2⟩ := alloc_size w_1 (.cells #[.int .i64 P.e, .slice A_d n_d c_d, .int .i64 P.t, .slice A_d' n_d' c_d'] 42)
  obtain ⟨X, hX⟩ : ∃ X, X = peelP s P := ⟨_, rfl⟩
  have hlen := peelP_len s P
  rw [← hX] at hlen
  have HX := Lib.hid hX
  obtain ⟨ok, hok⟩ : ∃ b', b' = peelB s P := ⟨_, rfl⟩
  have HOK := Lib.hid hok
  clear hX hok
  obtain ⟨q_d0, q_d1, q_d2, q_d3⟩ := box_d.four
  go_wp2_with fail
  refine (packetPeel_p _ _ _ _ _ _ _ _ _ _ _ _ _ _ _ _ o_d.read' HX.out HOK.out).mono ?_
  rintro e w_2 ⟨A_out, n_out, c_out, A_out', n_out', c_out', rfl, o_out, h_2⟩
  clear q_d0 q_d1 q_d2 q_d3
  have z_2 := h_2.size
  replace o_d := o_d.below h_2 o_d.hi_le
  replace box_d := box_d.below h_2 box_d.hi_le
  replace hB := hB.trans (h_2.mono hB.size)
  have b_out : n_out ≤ 9 ∧ n_out' ≤ 6 := by have h1 := o_out.len; have h2 := hlen; omega
  replace o_d := o_d.alloc (.cells #[.int .i64 (X).kind, .int .i64 (X).next, .int .i64 (X).p.e, .slice A_out n_out c_out, .int .i64 (X).p.t, .slice A_out' n_out' c_out'] 46)
  replace box_d := box_d.alloc (.cells #[.int .i64 (X).kind, .int .i64 (X).next, .int .i64 (X).p.e, .slice A_out n_out c_out, .int .i64 (X).p.t, .slice A_out' n_out' c_out'] 46)
  replace o_out := o_out.alloc (.cells #[.int .i64 (X).kind, .int .i64 (X).next, .int .i64 (X).p.e, .slice A_out n_out c_out, .int .i64 (X).p.t, .slice A_out' n_out' c_out'] 46)
  replace hB := hB.alloc hB.size (.cells #[.int .i64 (X).kind, .int .i64 (X).next, .int .i64 (X).p.e, .slice A_out n_out c_out, .int .i64 (X).p.t, .slice A_out' n_out' c_out'] 46)
  have box_out := BoxAt.new w_2 #[.int .i64 (X).kind, .int .i64 (X).next, .int .i64 (X).p.e, .slice A_out n_out c_out, .int .i64 (X).p.t, .slice A_out' n_out' c_out'] 46
  obtain ⟨s_out1, s_out2⟩ := alloc_size w_2 (.cells #[.int .i64 (X).kind, .int .i64 (X).next, .int .i64 (X).p.e, .slice A_out n_out c_out, .int .i64 (X).p.t, .slice A_out' n_out' c_out'] 46)
  obtain ⟨q_d0, q_d1, q_d2, q_d3⟩ := box_d.four
  go_wp2_with fail
  refine (sPacketPeel_p _ _ _ _ _ _ _ _ _ _ _ _ _ _ _ _ o_d.read' HX.out HOK.out (by omega) (by omega)).mono ?_
  rintro e w_3 ⟨A_want, n_want, c_want, A_want', n_want', c_want', rfl, o_want, h_3⟩
  clear q_d0 q_d1 q_d2 q_d3
  have z_3 := h_3.size
  replace o_d := o_d.below h_3 o_d.hi_le
  replace box_d := box_d.below h_3 box_d.hi_le
  replace o_out := o_out.below h_3 o_out.hi_le
  replace box_out := box_out.below h_3 box_out.hi_le
  replace hB := hB.trans (h_3.mono hB.size)
  have b_want : n_want ≤ 9 ∧ n_want' ≤ 6 := by have h1 := o_want.len; have h2 := hlen; omega
  replace o_d := o_d.alloc (.cells #[.int .i64 (X).kind, .int .i64 (X).next, .int .i64 (X).p.e, .slice A_want n_want c_want, .int .i64 (X).p.t, .slice A_want' n_want' c_want'] 46)
  replace box_d := box_d.alloc (.cells #[.int .i64 (X).kind, .int .i64 (X).next, .int .i64 (X).p.e, .slice A_want n_want c_want, .int .i64 (X).p.t, .slice A_want' n_want' c_want'] 46)
  replace o_out := o_out.alloc (.cells #[.int .i64 (X).kind, .int .i64 (X).next, .int .i64 (X).p.e, .slice A_want n_want c_want, .int .i64 (X).p.t, .slice A_want' n_want' c_want'] 46)
  replace box_out := box_out.alloc (.cells #[.int .i64 (X).kind, .int .i64 (X).next, .int .i64 (X).p.e, .slice A_want n_want c_want, .int .i64 (X).p.t, .slice A_want' n_want' c_want'] 46)
  replace o_want := o_want.alloc (.cells #[.int .i64 (X).kind, .int .i64 (X).next, .int .i64 (X).p.e, .slice A_want n_want c_want, .int .i64 (X).p.t, .slice A_want' n_want' c_want'] 46)
  replace hB := hB.alloc hB.size (.cells #[.int .i64 (X).kind, .int .i64 (X).next, .int .i64 (X).p.e, .slice A_want n_want c_want, .int .i64 (X).p.t, .slice A_want' n_want' c_want'] 46)
  have box_want := BoxAt.new w_3 #[.int .i64 (X).kind, .int .i64 (X).next, .int .i64 (X).p.e, .slice A_want n_want c_want, .int .i64 (X).p.t, .slice A_want' n_want' c_want'] 46
  obtain ⟨s_want1, s_want2⟩ := alloc_size w_3 (.cells #[.int .i64 (X).kind, .int .i64 (X).next, .int .i64 (X).p.e, .slice A_want n_want c_want, .int .i64 (X).p.t, .slice A_want' n_want' c_want'] 46)
  cases ok with
  | false =>
    obtain ⟨q_out0, q_out1, q_out2, q_out3, q_out4, q_out5⟩ := box_out.six
    obtain ⟨q_want0, q_want1, q_want2, q_want3, q_want4, q_want5⟩ := box_want.six
    go_wp2_with fail
    refine (samePeeled_t _ _ _ _ _ _ _ _ _ _ _ _ _ _ _ _ _ _ _ _ _ _ _ o_out.read o_want.read (by omega) (by omega)).mono ?_
    rintro e w_4 ⟨rfl, h_4⟩
    clear q_out0 q_out1 q_out2 q_out3 q_out4 q_out5 q_want0 q_want1 q_want2 q_want3 q_want4 q_want5
    have z_4 := h_4.size
    replace o_d := o_d.below h_4 o_d.hi_le
    replace box_d := box_d.below h_4 box_d.hi_le
    replace o_out := o_out.below h_4 o_out.hi_le
    replace box_out := box_out.below h_4 box_out.hi_le
    replace o_want := o_want.below h_4 o_want.hi_le
    replace box_want := box_want.below h_4 box_want.hi_le
    replace hB := hB.trans (h_4.mono hB.size)
    obtain ⟨q_out0, q_out1, q_out2, q_out3, q_out4, q_out5⟩ := box_out.six
    obtain ⟨q_want0, q_want1, q_want2, q_want3, q_want4, q_want5⟩ := box_want.six
    go_wp2_with fail
    refine (samePeeled_t _ _ _ _ _ _ _ _ _ _ _ _ _ _ _ _ _ _ _ _ _ _ _ o_out.read o_want.read (by omega) (by omega)).mono ?_
    rintro e w_5 ⟨rfl, h_5⟩
    clear q_out0 q_out1 q_out2 q_out3 q_out4 q_out5 q_want0 q_want1 q_want2 q_want3 q_want4 q_want5
    have z_5 := h_5.size
    replace o_d := o_d.below h_5 o_d.hi_le
    replace box_d := box_d.below h_5 box_d.hi_le
    replace o_out := o_out.below h_5 o_out.hi_le
    replace box_out := box_out.below h_5 box_out.hi_le
    replace o_want := o_want.below h_5 o_want.hi_le
    replace box_want := box_want.below h_5 box_want.hi_le
    replace hB := hB.trans (h_5.mono hB.size)
    go_wp2_with fail
    go_ret
    exact ⟨ret_b (by first | rfl | simp), hB⟩
  | true =>
    obtain ⟨q_out0, q_out1, q_out2, q_out3, q_out4, q_out5⟩ := box_out.six
    obtain ⟨q_want0, q_want1, q_want2, q_want3, q_want4, q_want5⟩ := box_want.six
    go_wp2_with fail
    refine (samePeeled_t _ _ _ _ _ _ _ _ _ _ _ _ _ _ _ _ _ _ _ _ _ _ _ o_out.read o_want.read (by omega) (by omega)).mono ?_
    rintro e w_4 ⟨rfl, h_4⟩
    clear q_out0 q_out1 q_out2 q_out3 q_out4 q_out5 q_want0 q_want1 q_want2 q_want3 q_want4 q_want5
    have z_4 := h_4.size
    replace o_d := o_d.below h_4 o_d.hi_le
    replace box_d := box_d.below h_4 box_d.hi_le
    replace o_out := o_out.below h_4 o_out.hi_le
    replace box_out := box_out.below h_4 box_out.hi_le
    replace o_want := o_want.below h_4 o_want.hi_le
    replace box_want := box_want.below h_4 box_want.hi_le
    replace hB := hB.trans (h_4.mono hB.size)
    have hpb := HOK.out.symm
    have hxl := HX.out.trans (peelP_yes hpb)
    obtain ⟨hse, hv, htg, hkd, hnm⟩ := peelB_iff.1 hpb
    obtain ⟨hve, hvh, hv9, hvb, hv6, hvt⟩ := validB_iff.1 hv
    have hxv := peelL_valid hpb
    rw [← hxl] at hxv
    obtain ⟨_, _, hx9, _, hx6, _⟩ := validB_iff.1 hxv
    obtain ⟨rfl, rfl⟩ : n_d = 9 ∧ n_d' = 6 := by have := o_d.len; omega
    obtain ⟨rfl, rfl⟩ : n_out = 9 ∧ n_out' = 6 := by have := o_out.len; omega
    have hke : elB (mulP s P.e) = true := mulP_el hse hve
    have HPB := Lib.hid hpb
    have HXL := Lib.hid hxl
    have HXV := Lib.hid hxv
    have HTG := Lib.hid htg
    have HVH := Lib.hid hvh
    have HVB := Lib.hid hvb
    have HV9 := Lib.hid hv9
    have HV6 := Lib.hid hv6
    have HVT := Lib.hid hvt
    have HKE := Lib.hid hke
    have HX9 := Lib.hid hx9
    clear hpb hxl hse hv htg hkd hnm hve hvh hv9 hvb hv6 hvt hxv hx9 hx6 hke HX HOK
    have hee : X.p.e = mulP P.e (facP (mulP s P.e)) := by rw [HXL.out]; rfl
    have hed : (X.p.e == mulP P.e (facP (mulP s P.e))) = true := by simpa using hee
    have hpv := packetValid_c X.p.e X.p.t _ _ _ _ _ _ _ _ _ _ _ o_out.read.drew
    rw [show validB ⟨X.p.e, X.p.h, X.p.t, X.p.b⟩ = true from HXV.out] at hpv
    have HPV := Lib.hid hpv
    clear hee hpv
    obtain ⟨q_d0, q_d1, q_d2, q_d3⟩ := box_d.four
    go_wp2_with (first | (go_at_call 31; refine (shared_c _ _ _).mono ?_; rintro e w' ⟨rfl, rfl⟩) | (go_at_call 32; refine (factor_c _ _).mono ?_; rintro e w' ⟨rfl, rfl⟩))
    clear q_d0 q_d1 q_d2 q_d3
    have kk : ∀ w', Below w_4.heap.size w_4 w' → w'.cell? ⟨w_1.heap.size, 0, none⟩ = some (.int .i64 P.e) ∧ w'.cell? ⟨w_2.heap.size, 2, none⟩ = some (.int .i64 X.p.e) ∧ w'.cell? ⟨w_2.heap.size, 3, none⟩ = some (.slice A_out 9 c_out) ∧ w'.cell? ⟨w_2.heap.size, 4, none⟩ = some (.int .i64 X.p.t) ∧ w'.cell? ⟨w_2.heap.size, 5, none⟩ = some (.slice A_out' 6 c_out') := fun w' hb => ⟨(box_d.below hb box_d.hi_le).four.1, (box_out.below hb box_out.hi_le).six.2.2.1, (box_out.below hb box_out.hi_le).six.2.2.2.1, (box_out.below hb box_out.hi_le).six.2.2.2.2.1, (box_out.below hb box_out.hi_le).six.2.2.2.2.2⟩
    have HKK := Lib.hid kk
    clear kk
    have HD0 := Lib.hid ((Below.refl w_4.heap.size w_4).drew)
    obtain ⟨q_d0, q_d1, q_d2, q_d3⟩ := box_d.four
    obtain ⟨q_out0, q_out1, q_out2, q_out3, q_out4, q_out5⟩ := box_out.six
    go_wp2_with fail
    go_region_held3 (fun w' => w'.cell? ⟨w_1.heap.size, 0, none⟩ = some (.int .i64 P.e) ∧ w'.cell? ⟨w_2.heap.size, 2, none⟩ = some (.int .i64 X.p.e) ∧ w'.cell? ⟨w_2.heap.size, 3, none⟩ = some (.slice A_out 9 c_out) ∧ w'.cell? ⟨w_2.heap.size, 4, none⟩ = some (.int .i64 X.p.t) ∧ w'.cell? ⟨w_2.heap.size, 5, none⟩ = some (.slice A_out' 6 c_out'))
      (exact HKK.out _ (by first | with_reducible exact HD0.out | with_reducible exact hB7))
      ((first | (go_at_call 33; refine (blind_c _ _ _).mono ?_; rintro e w' ⟨rfl, rfl⟩) | (go_at_call 34; refine HPV.out.mono ?_; rintro e w7 ⟨rfl, hb7⟩; have hB7 : Below w_4.heap.size w_4 w7 := HD0.out.trans hb7)))
    clear q_d0 q_d1 q_d2 q_d3 q_out0 q_out1 q_out2 q_out3 q_out4 q_out5
    have hBd := hB.trans (hB7.mono hB.size)
    clear hB hB7 hb7
    go_wp2_with fail
    go_ret
    exact ⟨ret_b (by first | rfl | simp), hBd⟩
end Go.Proofs.Ytbkecimhbibnjaa
