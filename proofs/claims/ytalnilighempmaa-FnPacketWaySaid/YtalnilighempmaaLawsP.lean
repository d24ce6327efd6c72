/-
  The walks of the statements on packets that are made.
  Conditions: the arguments read as lists of bytes.
-/
import Derived.Test.YtalnilighempmaaLawsC
import Derived.Test.YtalnilighempmaaBox
namespace Go.Proofs.Ytalnilighempmaa
open Go Go.RowKit

theorem makeP_len (s to : Int) (ps ns ls : List Int) : (makeP s ps ns to ls).h.length ≤ 9 ∧ (makeP s ps ns to ls).b.length ≤ 6 := by
  cases h : makeB s ps ns to ls with
  | false => rw [makeP_no h]; simp [zeroPkt]
  | true =>
    rw [makeP_yes h]
    obtain ⟨_, _, h3, _, h5, _⟩ := validB_iff.1 (makeL_valid h)
    omega
theorem make_valid {s to : Int} {ps ns ls : List Int} {P : Pkt} (h : P = makeL s ps ns to ls) (hb : makeB s ps ns to ls = true) : validB ⟨P.e, P.h, P.t, P.b⟩ = true := by
  rw [h]; exact makeL_valid hb

theorem packetMake_p (s : Int) (A : Option Addr) (n c lo hi : Nat) (ps : List Int) (A2 : Option Addr) (n2 c2 lo2 hi2 : Nat) (ns : List Int) (to : Int) (A3 : Option Addr) (n3 c3 lo3 hi3 : Nat) (ls : List Int) (w : World) (P : Pkt) (hs : SlR .i64 w lo hi A n ps) (ht : SlR .i64 w lo2 hi2 A2 n2 ns) (hu : SlR .i64 w lo3 hi3 A3 n3 ls) (hn : n ≤ 4194304) (hn2 : n2 ≤ 4194304) (hP : P = makeP s ps ns to ls) : Calls Try.prog 29 #[.int .i64 s, .slice A n c, .slice A2 n2 c2, .int .i64 to, .slice A3 n3 c3] w (NewPkt P (makeB s ps ns to ls) w) := by
  subst hP
  exact packetMake_c s A n c lo hi ps A2 n2 c2 lo2 hi2 ns to A3 n3 c3 lo3 hi3 ls w hs ht hu hn hn2
theorem sPacketMake_p (s : Int) (A : Option Addr) (n c lo hi : Nat) (ps : List Int) (A2 : Option Addr) (n2 c2 lo2 hi2 : Nat) (ns : List Int) (to : Int) (A3 : Option Addr) (n3 c3 lo3 hi3 : Nat) (ls : List Int) (w : World) (P : Pkt) (hs : SlR .i64 w lo hi A n ps) (ht : SlR .i64 w lo2 hi2 A2 n2 ns) (hu : SlR .i64 w lo3 hi3 A3 n3 ls) (hn : n ≤ 4194304) (hn2 : n2 ≤ 4194304) (hn3 : n3 ≤ 4194304) (hP : P = makeP s ps ns to ls) : Calls Try.prog 30 #[.int .i64 s, .slice A n c, .slice A2 n2 c2, .int .i64 to, .slice A3 n3 c3] w (NewPkt P (makeB s ps ns to ls) w) := by
  subst hP
  exact sPacketMake_c s A n c lo hi ps A2 n2 c2 lo2 hi2 ns to A3 n3 c3 lo3 hi3 ls w hs ht hu hn hn2 hn3

set_option maxRecDepth 100000 in
set_option maxHeartbeats 1600000 in
theorem wFnPacket (A : Option Addr) (n c : Nat) (xs : List Int) (w : World) (hs : SlR .u8 w 0 w.heap.size A n xs) (hl : n ≤ c) (hc : c ≤ 9223372036854775807) (hb : ∀ x ∈ xs, 0 ≤ x ∧ x ≤ 255) : Calls Try.prog 24 #[.slice A n c] w fun e w' => e = .returned (.bool true) ∧ Below w.heap.size w w' := by
  by_cases hbig : 1048576 < n
  · go_enter Try.func24, Try.ntmps24
    go_wp2
    go_ret
    exact ⟨rfl, Below.refl _ _⟩
  go_enter Try.func24, Try.ntmps24
  go_wp2_with fail
  refine (drawPacketMake_c A n c xs w hs hb hl hc).mono ?_
  rintro e w_1 ⟨s, A_l, n_l, c_l, ps, A_n, n_n, c_n, ns, to, A_t, n_t, c_t, ls, rfl, o_l, o_n, o_t, b_l, b_n, b_t, h_1⟩
  have z_1 := h_1.size
  have hB := h_1
  obtain ⟨P, hP⟩ : ∃ P, P = makeP s ps ns to ls := ⟨_, rfl⟩
  have hlen := makeP_len s to ps ns ls
  rw [← hP] at hlen
  have HP := Lib.hid hP
  clear hP
  go_wp2_with fail
  refine (packetMake_p _ _ _ _ _ _ _ _ _ _ _ _ _ _ _ _ _ _ _ _ _ _ o_l.read o_n.read o_t.read (by omega) (by omega) HP.out).mono ?_
  rintro e w_2 ⟨A_out, n_out, c_out, A_out', n_out', c_out', rfl, o_out, h_2⟩
  have z_2 := h_2.size
  replace o_l := o_l.below h_2 o_l.2.1
  replace o_n := o_n.below h_2 o_n.2.1
  replace o_t := o_t.below h_2 o_t.2.1
  replace hB := hB.trans (h_2.mono hB.size)
  have b_out : n_out ≤ 9 ∧ n_out' ≤ 6 := by have h1 := o_out.len; have h2 := hlen; omega
  replace o_l := o_l.alloc (.cells #[.int .i64 (P).e, .slice A_out n_out c_out, .int .i64 (P).t, .slice A_out' n_out' c_out'] 27)
  replace o_n := o_n.alloc (.cells #[.int .i64 (P).e, .slice A_out n_out c_out, .int .i64 (P).t, .slice A_out' n_out' c_out'] 27)
  replace o_t := o_t.alloc (.cells #[.int .i64 (P).e, .slice A_out n_out c_out, .int .i64 (P).t, .slice A_out' n_out' c_out'] 27)
  replace o_out := o_out.alloc (.cells #[.int .i64 (P).e, .slice A_out n_out c_out, .int .i64 (P).t, .slice A_out' n_out' c_out'] 27)
  replace hB := hB.alloc hB.size (.cells #[.int .i64 (P).e, .slice A_out n_out c_out, .int .i64 (P).t, .slice A_out' n_out' c_out'] 27)
  have box_out := BoxAt.new w_2 #[.int .i64 (P).e, .slice A_out n_out c_out, .int .i64 (P).t, .slice A_out' n_out' c_out'] 27
  obtain ⟨s_out1, s_out2⟩ := alloc_size w_2 (.cells #[.int .i64 (P).e, .slice A_out n_out c_out, .int .i64 (P).t, .slice A_out' n_out' c_out'] 27)
  go_wp2_with fail
  refine (sPacketMake_p _ _ _ _ _ _ _ _ _ _ _ _ _ _ _ _ _ _ _ _ _ _ o_l.read o_n.read o_t.read (by omega) (by omega) (by omega) HP.out).mono ?_
  rintro e w_3 ⟨A_want, n_want, c_want, A_want', n_want', c_want', rfl, o_want, h_3⟩
  have z_3 := h_3.size
  replace o_l := o_l.below h_3 o_l.2.1
  replace o_n := o_n.below h_3 o_n.2.1
  replace o_t := o_t.below h_3 o_t.2.1
  replace o_out := o_out.below h_3 o_out.hi_le
  replace box_out := box_out.below h_3 box_out.hi_le
  replace hB := hB.trans (h_3.mono hB.size)
  have b_want : n_want ≤ 9 ∧ n_want' ≤ 6 := by have h1 := o_want.len; have h2 := hlen; omega
  replace o_l := o_l.alloc (.cells #[.int .i64 (P).e, .slice A_want n_want c_want, .int .i64 (P).t, .slice A_want' n_want' c_want'] 27)
  replace o_n := o_n.alloc (.cells #[.int .i64 (P).e, .slice A_want n_want c_want, .int .i64 (P).t, .slice A_want' n_want' c_want'] 27)
  replace o_t := o_t.alloc (.cells #[.int .i64 (P).e, .slice A_want n_want c_want, .int .i64 (P).t, .slice A_want' n_want' c_want'] 27)
  replace o_out := o_out.alloc (.cells #[.int .i64 (P).e, .slice A_want n_want c_want, .int .i64 (P).t, .slice A_want' n_want' c_want'] 27)
  replace box_out := box_out.alloc (.cells #[.int .i64 (P).e, .slice A_want n_want c_want, .int .i64 (P).t, .slice A_want' n_want' c_want'] 27)
  replace o_want := o_want.alloc (.cells #[.int .i64 (P).e, .slice A_want n_want c_want, .int .i64 (P).t, .slice A_want' n_want' c_want'] 27)
  replace hB := hB.alloc hB.size (.cells #[.int .i64 (P).e, .slice A_want n_want c_want, .int .i64 (P).t, .slice A_want' n_want' c_want'] 27)
  have box_want := BoxAt.new w_3 #[.int .i64 (P).e, .slice A_want n_want c_want, .int .i64 (P).t, .slice A_want' n_want' c_want'] 27
  obtain ⟨s_want1, s_want2⟩ := alloc_size w_3 (.cells #[.int .i64 (P).e, .slice A_want n_want c_want, .int .i64 (P).t, .slice A_want' n_want' c_want'] 27)
  cases hok : makeB s ps ns to ls with
  | false =>
    obtain ⟨q_out0, q_out1, q_out2, q_out3⟩ := box_out.four
    obtain ⟨q_want0, q_want1, q_want2, q_want3⟩ := box_want.four
    go_wp2_with fail
    refine (samePacket_t _ _ _ _ _ _ _ _ _ _ _ _ _ _ _ _ _ _ _ _ _ o_out.read o_want.read (by omega) (by omega)).mono ?_
    rintro e w_4 ⟨rfl, h_4⟩
    clear q_out0 q_out1 q_out2 q_out3 q_want0 q_want1 q_want2 q_want3
    have z_4 := h_4.size
    replace o_l := o_l.below h_4 o_l.2.1
    replace o_n := o_n.below h_4 o_n.2.1
    replace o_t := o_t.below h_4 o_t.2.1
    replace o_out := o_out.below h_4 o_out.hi_le
    replace box_out := box_out.below h_4 box_out.hi_le
    replace o_want := o_want.below h_4 o_want.hi_le
    replace box_want := box_want.below h_4 box_want.hi_le
    replace hB := hB.trans (h_4.mono hB.size)
    obtain ⟨q_out0, q_out1, q_out2, q_out3⟩ := box_out.four
    obtain ⟨q_want0, q_want1, q_want2, q_want3⟩ := box_want.four
    go_wp2_with fail
    refine (samePacket_t _ _ _ _ _ _ _ _ _ _ _ _ _ _ _ _ _ _ _ _ _ o_out.read o_want.read (by omega) (by omega)).mono ?_
    rintro e w_5 ⟨rfl, h_5⟩
    clear q_out0 q_out1 q_out2 q_out3 q_want0 q_want1 q_want2 q_want3
    have z_5 := h_5.size
    replace o_l := o_l.below h_5 o_l.2.1
    replace o_n := o_n.below h_5 o_n.2.1
    replace o_t := o_t.below h_5 o_t.2.1
    replace o_out := o_out.below h_5 o_out.hi_le
    replace box_out := box_out.below h_5 box_out.hi_le
    replace o_want := o_want.below h_5 o_want.hi_le
    replace box_want := box_want.below h_5 box_want.hi_le
    replace hB := hB.trans (h_5.mono hB.size)
    go_wp2_with fail
    go_ret
    exact ⟨ret_b (by first | rfl | simp), hB⟩
  | true =>
    have hmp := HP.out.trans (makeP_yes hok)
    have HOK := Lib.hid hok
    have HMP := Lib.hid hmp
    clear hok hmp
    obtain ⟨q_out0, q_out1, q_out2, q_out3⟩ := box_out.four
    obtain ⟨q_want0, q_want1, q_want2, q_want3⟩ := box_want.four
    go_wp2_with fail
    refine (samePacket_t _ _ _ _ _ _ _ _ _ _ _ _ _ _ _ _ _ _ _ _ _ o_out.read o_want.read (by omega) (by omega)).mono ?_
    rintro e w_4 ⟨rfl, h_4⟩
    clear q_out0 q_out1 q_out2 q_out3 q_want0 q_want1 q_want2 q_want3
    have z_4 := h_4.size
    replace o_l := o_l.below h_4 o_l.2.1
    replace o_n := o_n.below h_4 o_n.2.1
    replace o_t := o_t.below h_4 o_t.2.1
    replace o_out := o_out.below h_4 o_out.hi_le
    replace box_out := box_out.below h_4 box_out.hi_le
    replace o_want := o_want.below h_4 o_want.hi_le
    replace box_want := box_want.below h_4 box_want.hi_le
    replace hB := hB.trans (h_4.mono hB.size)
    have hv := make_valid HMP.out HOK.out
    have he : P.e = mulP s 5 := by rw [HMP.out]; rfl
    have HE := Lib.hid he
    have hpv := packetValid_c P.e P.t _ _ _ _ _ _ _ _ _ _ _ o_out.read.drew
    rw [hv] at hpv
    have HPV := Lib.hid hpv
    obtain ⟨q_out0, q_out1, q_out2, q_out3⟩ := box_out.four
    have hg := box_out.hi_le
    clear hv he hpv
    go_wp2_with fail
    go_region_held3 (fun w' => w'.cell? ⟨w_2.heap.size, 0, none⟩ = some (.int .i64 P.e) ∧ w'.cell? ⟨w_2.heap.size, 1, none⟩ = some (.slice A_out n_out c_out) ∧ w'.cell? ⟨w_2.heap.size, 2, none⟩ = some (.int .i64 P.t) ∧ w'.cell? ⟨w_2.heap.size, 3, none⟩ = some (.slice A_out' n_out' c_out'))
      (first | go_keep | exact (box_out.drew.below h_5 hg).four)
      ((first
        | (go_at_call 45; refine HPV.out.mono ?_; rintro e w_5 ⟨rfl, h_5⟩)
        | (go_at_call 78; refine (public_c _ _).mono ?_; rintro e w' ⟨rfl, rfl⟩)))
    clear q_out0 q_out1 q_out2 q_out3
    have hB5 := hB.drew.trans (h_5.mono hB.size)
    clear hB h_5
    go_wp2_with fail
    go_ret
    exact ⟨ret_b (by rw [HE.out]; simp), hB5⟩
set_option maxRecDepth 100000 in
set_option maxHeartbeats 1600000 in
theorem wFnPacketLetter (A : Option Addr) (n c : Nat) (xs : List Int) (A2 : Option Addr) (n2 c2 : Nat) (xs2 : List Int) (w : World) (hs : SlR .u8 w 0 w.heap.size A n xs) (hl : n ≤ c) (hc : c ≤ 9223372036854775807) (hb : ∀ x ∈ xs, 0 ≤ x ∧ x ≤ 255) (_hs2 : SlR .u8 w 0 w.heap.size A2 n2 xs2) (_hl2 : n2 ≤ c2) (_hc2 : c2 ≤ 9223372036854775807) (_hb2 : ∀ x ∈ xs2, 0 ≤ x ∧ x ≤ 255) : Calls Try.prog 22 #[.slice A n c, .slice A2 n2 c2] w fun e w' => e = .returned (.bool true) ∧ Below w.heap.size w w' := by
  by_cases hbig : 1048576 < n
  · go_enter Try.func22, Try.ntmps22
    go_wp2
    go_ret
    exact ⟨rfl, Below.refl _ _⟩
  by_cases hbig2 : 1048576 < n2
  · go_enter Try.func22, Try.ntmps22
    go_wp2
    go_ret
    exact ⟨rfl, Below.refl _ _⟩
  go_enter Try.func22, Try.ntmps22
  go_wp2_with fail
  refine (drawPacketMake_c A n c xs w hs hb hl hc).mono ?_
  rintro e w_1 ⟨s, A_l, n_l, c_l, ps, A_n, n_n, c_n, ns, to, A_t, n_t, c_t, ls, rfl, o_l, o_n, o_t, b_l, b_n, b_t, h_1⟩
  have z_1 := h_1.size
  have hB := h_1
  obtain ⟨P, hP⟩ : ∃ P, P = makeP s ps ns to ls := ⟨_, rfl⟩
  have hlen := makeP_len s to ps ns ls
  rw [← hP] at hlen
  have HP := Lib.hid hP
  clear hP
  go_wp2_with fail
  refine (packetMake_p _ _ _ _ _ _ _ _ _ _ _ _ _ _ _ _ _ _ _ _ _ _ o_l.read o_n.read o_t.read (by omega) (by omega) HP.out).mono ?_
  rintro e w_2 ⟨A_out, n_out, c_out, A_out', n_out', c_out', rfl, o_out, h_2⟩
  have z_2 := h_2.size
  replace o_l := o_l.below h_2 o_l.2.1
  replace o_n := o_n.below h_2 o_n.2.1
  replace o_t := o_t.below h_2 o_t.2.1
  replace hB := hB.trans (h_2.mono hB.size)
  have b_out : n_out ≤ 9 ∧ n_out' ≤ 6 := by have h1 := o_out.len; have h2 := hlen; omega
  replace o_l := o_l.alloc (.cells #[.int .i64 (P).e, .slice A_out n_out c_out, .int .i64 (P).t, .slice A_out' n_out' c_out'] 27)
  replace o_n := o_n.alloc (.cells #[.int .i64 (P).e, .slice A_out n_out c_out, .int .i64 (P).t, .slice A_out' n_out' c_out'] 27)
  replace o_t := o_t.alloc (.cells #[.int .i64 (P).e, .slice A_out n_out c_out, .int .i64 (P).t, .slice A_out' n_out' c_out'] 27)
  replace o_out := o_out.alloc (.cells #[.int .i64 (P).e, .slice A_out n_out c_out, .int .i64 (P).t, .slice A_out' n_out' c_out'] 27)
  replace hB := hB.alloc hB.size (.cells #[.int .i64 (P).e, .slice A_out n_out c_out, .int .i64 (P).t, .slice A_out' n_out' c_out'] 27)
  have box_out := BoxAt.new w_2 #[.int .i64 (P).e, .slice A_out n_out c_out, .int .i64 (P).t, .slice A_out' n_out' c_out'] 27
  obtain ⟨s_out1, s_out2⟩ := alloc_size w_2 (.cells #[.int .i64 (P).e, .slice A_out n_out c_out, .int .i64 (P).t, .slice A_out' n_out' c_out'] 27)
  go_wp2_with fail
  refine (sPacketMake_p _ _ _ _ _ _ _ _ _ _ _ _ _ _ _ _ _ _ _ _ _ _ o_l.read o_n.read o_t.read (by omega) (by omega) (by omega) HP.out).mono ?_
  rintro e w_3 ⟨A_want, n_want, c_want, A_want', n_want', c_want', rfl, o_want, h_3⟩
  have z_3 := h_3.size
  replace o_l := o_l.below h_3 o_l.2.1
  replace o_n := o_n.below h_3 o_n.2.1
  replace o_t := o_t.below h_3 o_t.2.1
  replace o_out := o_out.below h_3 o_out.hi_le
  replace box_out := box_out.below h_3 box_out.hi_le
  replace hB := hB.trans (h_3.mono hB.size)
  have b_want : n_want ≤ 9 ∧ n_want' ≤ 6 := by have h1 := o_want.len; have h2 := hlen; omega
  replace o_l := o_l.alloc (.cells #[.int .i64 (P).e, .slice A_want n_want c_want, .int .i64 (P).t, .slice A_want' n_want' c_want'] 27)
  replace o_n := o_n.alloc (.cells #[.int .i64 (P).e, .slice A_want n_want c_want, .int .i64 (P).t, .slice A_want' n_want' c_want'] 27)
  replace o_t := o_t.alloc (.cells #[.int .i64 (P).e, .slice A_want n_want c_want, .int .i64 (P).t, .slice A_want' n_want' c_want'] 27)
  replace o_out := o_out.alloc (.cells #[.int .i64 (P).e, .slice A_want n_want c_want, .int .i64 (P).t, .slice A_want' n_want' c_want'] 27)
  replace box_out := box_out.alloc (.cells #[.int .i64 (P).e, .slice A_want n_want c_want, .int .i64 (P).t, .slice A_want' n_want' c_want'] 27)
  replace o_want := o_want.alloc (.cells #[.int .i64 (P).e, .slice A_want n_want c_want, .int .i64 (P).t, .slice A_want' n_want' c_want'] 27)
  replace hB := hB.alloc hB.size (.cells #[.int .i64 (P).e, .slice A_want n_want c_want, .int .i64 (P).t, .slice A_want' n_want' c_want'] 27)
  have box_want := BoxAt.new w_3 #[.int .i64 (P).e, .slice A_want n_want c_want, .int .i64 (P).t, .slice A_want' n_want' c_want'] 27
  obtain ⟨s_want1, s_want2⟩ := alloc_size w_3 (.cells #[.int .i64 (P).e, .slice A_want n_want c_want, .int .i64 (P).t, .slice A_want' n_want' c_want'] 27)
  cases hok : makeB s ps ns to ls with
  | false =>
    obtain ⟨q_out0, q_out1, q_out2, q_out3⟩ := box_out.four
    obtain ⟨q_want0, q_want1, q_want2, q_want3⟩ := box_want.four
    go_wp2_with fail
    refine (samePacket_t _ _ _ _ _ _ _ _ _ _ _ _ _ _ _ _ _ _ _ _ _ o_out.read o_want.read (by omega) (by omega)).mono ?_
    rintro e w_4 ⟨rfl, h_4⟩
    clear q_out0 q_out1 q_out2 q_out3 q_want0 q_want1 q_want2 q_want3
    have z_4 := h_4.size
    replace o_l := o_l.below h_4 o_l.2.1
    replace o_n := o_n.below h_4 o_n.2.1
    replace o_t := o_t.below h_4 o_t.2.1
    replace o_out := o_out.below h_4 o_out.hi_le
    replace box_out := box_out.below h_4 box_out.hi_le
    replace o_want := o_want.below h_4 o_want.hi_le
    replace box_want := box_want.below h_4 box_want.hi_le
    replace hB := hB.trans (h_4.mono hB.size)
    obtain ⟨q_out0, q_out1, q_out2, q_out3⟩ := box_out.four
    obtain ⟨q_want0, q_want1, q_want2, q_want3⟩ := box_want.four
    go_wp2_with fail
    refine (samePacket_t _ _ _ _ _ _ _ _ _ _ _ _ _ _ _ _ _ _ _ _ _ o_out.read o_want.read (by omega) (by omega)).mono ?_
    rintro e w_5 ⟨rfl, h_5⟩
    clear q_out0 q_out1 q_out2 q_out3 q_want0 q_want1 q_want2 q_want3
    have z_5 := h_5.size
    replace o_l := o_l.below h_5 o_l.2.1
    replace o_n := o_n.below h_5 o_n.2.1
    replace o_t := o_t.below h_5 o_t.2.1
    replace o_out := o_out.below h_5 o_out.hi_le
    replace box_out := box_out.below h_5 box_out.hi_le
    replace o_want := o_want.below h_5 o_want.hi_le
    replace box_want := box_want.below h_5 box_want.hi_le
    replace hB := hB.trans (h_5.mono hB.size)
    go_wp2_with fail
    go_ret
    exact ⟨ret_b (by first | rfl | simp), hB⟩
  | true =>
    have hmp := HP.out.trans (makeP_yes hok)
    have HOK := Lib.hid hok
    have HMP := Lib.hid hmp
    clear hok hmp
    obtain ⟨q_out0, q_out1, q_out2, q_out3⟩ := box_out.four
    obtain ⟨q_want0, q_want1, q_want2, q_want3⟩ := box_want.four
    go_wp2_with fail
    refine (samePacket_t _ _ _ _ _ _ _ _ _ _ _ _ _ _ _ _ _ _ _ _ _ o_out.read o_want.read (by omega) (by omega)).mono ?_
    rintro e w_4 ⟨rfl, h_4⟩
    clear q_out0 q_out1 q_out2 q_out3 q_want0 q_want1 q_want2 q_want3
    have z_4 := h_4.size
    replace o_l := o_l.below h_4 o_l.2.1
    replace o_n := o_n.below h_4 o_n.2.1
    replace o_t := o_t.below h_4 o_t.2.1
    replace o_out := o_out.below h_4 o_out.hi_le
    replace box_out := box_out.below h_4 box_out.hi_le
    replace o_want := o_want.below h_4 o_want.hi_le
    replace box_want := box_want.below h_4 box_want.hi_le
    replace hB := hB.trans (h_4.mono hB.size)
    have hx0 : (0 : Int) ≤ (n2 : Int) % 900 := Int.emod_nonneg _ (by omega)
    have hx1 : (n2 : Int) % 900 < 900 := Int.emod_lt_of_pos _ (by omega)
    obtain ⟨LB, hLB⟩ : ∃ b, b = masksL (packL [(n2 : Int) % 900]) (keysL s ps) := ⟨_, rfl⟩
    have hq : (⟨P.e, P.h, P.t, LB⟩ : Pkt) = makeP s ps ns to [(n2 : Int) % 900] := by
      obtain ⟨hse, hpb, hlb, hlen, hns, hto⟩ := makeB_iff.1 HOK.out
      have hb2 : makeB s ps ns to [(n2 : Int) % 900] = true := makeB_iff.2 ⟨hse, hpb, packB_iff.2 ⟨listB_iff.2 ⟨by simp, fun x hx => by simp at hx; omega⟩, by simp⟩, hlen, hns, hto⟩
      rw [makeP_yes hb2, HMP.out, hLB]; rfl
    have hb2 : makeB s ps ns to [(n2 : Int) % 900] = true := by
      obtain ⟨hse, hpb, hlb, hlen, hns, hto⟩ := makeB_iff.1 HOK.out
      exact makeB_iff.2 ⟨hse, hpb, packB_iff.2 ⟨listB_iff.2 ⟨by simp, fun x hx => by simp at hx; omega⟩, by simp⟩, hlen, hns, hto⟩
    have hl2 := makeP_len s to ps ns [(n2 : Int) % 900]
    rw [← hq] at hl2
    dsimp only at hl2
    have HQ := Lib.hid hq
    have HB2 := Lib.hid hb2
    clear hLB hq hb2
    replace o_l := o_l.alloc (.cells #[.int .i64 ((n2 : Int) % 900)] 3)
    replace o_n := o_n.alloc (.cells #[.int .i64 ((n2 : Int) % 900)] 3)
    replace o_t := o_t.alloc (.cells #[.int .i64 ((n2 : Int) % 900)] 3)
    replace o_out := o_out.alloc (.cells #[.int .i64 ((n2 : Int) % 900)] 3)
    replace box_out := box_out.alloc (.cells #[.int .i64 ((n2 : Int) % 900)] 3)
    replace o_want := o_want.alloc (.cells #[.int .i64 ((n2 : Int) % 900)] 3)
    replace box_want := box_want.alloc (.cells #[.int .i64 ((n2 : Int) % 900)] 3)
    replace hB := hB.alloc hB.size (.cells #[.int .i64 ((n2 : Int) % 900)] 3)
    have o_y := one_read w_4 ((n2 : Int) % 900)
    obtain ⟨s_y1, s_y2⟩ := alloc_size w_4 (.cells #[.int .i64 ((n2 : Int) % 900)] 3)
    go_wp2_with fail
    refine (packetMake_p _ _ _ _ _ _ _ _ _ _ _ _ _ _ _ _ _ _ _ _ _ _ o_l.read o_n.read (o_y.wider (Nat.le_refl _) (by omega) (Nat.le_refl _)) (by omega) (by omega) HQ.out).mono ?_
    rintro e w_5 ⟨A_x, n_x, c_x, A_x', n_x', c_x', rfl, o_x, h_5⟩
    have z_5 := h_5.size
    replace o_l := o_l.below h_5 o_l.2.1
    replace o_n := o_n.below h_5 o_n.2.1
    replace o_t := o_t.below h_5 o_t.2.1
    replace o_out := o_out.below h_5 o_out.hi_le
    replace box_out := box_out.below h_5 box_out.hi_le
    replace o_want := o_want.below h_5 o_want.hi_le
    replace box_want := box_want.below h_5 box_want.hi_le
    replace o_y := o_y.below h_5 o_y.hi_le
    replace hB := hB.trans (h_5.mono hB.size)
    dsimp only at o_x
    have b_x : n_x ≤ 9 ∧ n_x' ≤ 6 := by have h1 := o_x.len; have h2 := hl2; omega
    replace o_l := o_l.alloc (.cells #[.int .i64 P.e, .slice A_x n_x c_x, .int .i64 P.t, .slice A_x' n_x' c_x'] 27)
    replace o_n := o_n.alloc (.cells #[.int .i64 P.e, .slice A_x n_x c_x, .int .i64 P.t, .slice A_x' n_x' c_x'] 27)
    replace o_t := o_t.alloc (.cells #[.int .i64 P.e, .slice A_x n_x c_x, .int .i64 P.t, .slice A_x' n_x' c_x'] 27)
    replace o_out := o_out.alloc (.cells #[.int .i64 P.e, .slice A_x n_x c_x, .int .i64 P.t, .slice A_x' n_x' c_x'] 27)
    replace box_out := box_out.alloc (.cells #[.int .i64 P.e, .slice A_x n_x c_x, .int .i64 P.t, .slice A_x' n_x' c_x'] 27)
    replace o_want := o_want.alloc (.cells #[.int .i64 P.e, .slice A_x n_x c_x, .int .i64 P.t, .slice A_x' n_x' c_x'] 27)
    replace box_want := box_want.alloc (.cells #[.int .i64 P.e, .slice A_x n_x c_x, .int .i64 P.t, .slice A_x' n_x' c_x'] 27)
    replace o_y := o_y.alloc (.cells #[.int .i64 P.e, .slice A_x n_x c_x, .int .i64 P.t, .slice A_x' n_x' c_x'] 27)
    replace o_x := o_x.alloc (.cells #[.int .i64 P.e, .slice A_x n_x c_x, .int .i64 P.t, .slice A_x' n_x' c_x'] 27)
    replace hB := hB.alloc hB.size (.cells #[.int .i64 P.e, .slice A_x n_x c_x, .int .i64 P.t, .slice A_x' n_x' c_x'] 27)
    have box_x := BoxAt.new w_5 #[.int .i64 P.e, .slice A_x n_x c_x, .int .i64 P.t, .slice A_x' n_x' c_x'] 27
    obtain ⟨s_x1, s_x2⟩ := alloc_size w_5 (.cells #[.int .i64 P.e, .slice A_x n_x c_x, .int .i64 P.t, .slice A_x' n_x' c_x'] 27)
    rw [HB2.out]
    obtain ⟨q_x0, q_x1, q_x2, q_x3⟩ := box_x.four
    obtain ⟨q_out0, q_out1, q_out2, q_out3⟩ := box_out.four
    go_wp2_with fail
    refine (sameInts_t _ _ _ _ _ _ _ _ _ _ _ _ o_x.1.read o_out.1.read (by omega)).mono ?_
    rintro e w_6 ⟨rfl, h_6⟩
    clear q_x0 q_x1 q_x2 q_x3 q_out0 q_out1 q_out2 q_out3
    have z_6 := h_6.size
    replace o_l := o_l.below h_6 o_l.2.1
    replace o_n := o_n.below h_6 o_n.2.1
    replace o_t := o_t.below h_6 o_t.2.1
    replace o_out := o_out.below h_6 o_out.hi_le
    replace box_out := box_out.below h_6 box_out.hi_le
    replace o_want := o_want.below h_6 o_want.hi_le
    replace box_want := box_want.below h_6 box_want.hi_le
    replace o_y := o_y.below h_6 o_y.hi_le
    replace o_x := o_x.below h_6 o_x.hi_le
    replace box_x := box_x.below h_6 box_x.hi_le
    replace hB := hB.trans (h_6.mono hB.size)
    go_wp2_with fail
    go_ret
    exact ⟨ret_b (by first | rfl | simp), hB⟩
set_option maxRecDepth 100000 in
set_option maxHeartbeats 1600000 in
theorem wFnPacketSecret (A : Option Addr) (n c : Nat) (xs : List Int) (A2 : Option Addr) (n2 c2 : Nat) (xs2 : List Int) (w : World) (hs : SlR .u8 w 0 w.heap.size A n xs) (hl : n ≤ c) (hc : c ≤ 9223372036854775807) (hb : ∀ x ∈ xs, 0 ≤ x ∧ x ≤ 255) (_hs2 : SlR .u8 w 0 w.heap.size A2 n2 xs2) (_hl2 : n2 ≤ c2) (_hc2 : c2 ≤ 9223372036854775807) (_hb2 : ∀ x ∈ xs2, 0 ≤ x ∧ x ≤ 255) : Calls Try.prog 23 #[.slice A n c, .slice A2 n2 c2] w fun e w' => e = .returned (.bool true) ∧ Below w.heap.size w w' := by
  by_cases hbig : 1048576 < n
  · go_enter Try.func23, Try.ntmps23
    go_wp2
    go_ret
    exact ⟨rfl, Below.refl _ _⟩
  by_cases hbig2 : 1048576 < n2
  · go_enter Try.func23, Try.ntmps23
    go_wp2
    go_ret
    exact ⟨rfl, Below.refl _ _⟩
  go_enter Try.func23, Try.ntmps23
  go_wp2_with fail
  refine (drawPacketMake_c A n c xs w hs hb hl hc).mono ?_
  rintro e w_1 ⟨s, A_l, n_l, c_l, ps, A_n, n_n, c_n, ns, to, A_t, n_t, c_t, ls, rfl, o_l, o_n, o_t, b_l, b_n, b_t, h_1⟩
  have z_1 := h_1.size
  have hB := h_1
  obtain ⟨P, hP⟩ : ∃ P, P = makeP s ps ns to ls := ⟨_, rfl⟩
  have hlen := makeP_len s to ps ns ls
  rw [← hP] at hlen
  have HP := Lib.hid hP
  clear hP
  go_wp2_with fail
  refine (packetMake_p _ _ _ _ _ _ _ _ _ _ _ _ _ _ _ _ _ _ _ _ _ _ o_l.read o_n.read o_t.read (by omega) (by omega) HP.out).mono ?_
  rintro e w_2 ⟨A_out, n_out, c_out, A_out', n_out', c_out', rfl, o_out, h_2⟩
  have z_2 := h_2.size
  replace o_l := o_l.below h_2 o_l.2.1
  replace o_n := o_n.below h_2 o_n.2.1
  replace o_t := o_t.below h_2 o_t.2.1
  replace hB := hB.trans (h_2.mono hB.size)
  have b_out : n_out ≤ 9 ∧ n_out' ≤ 6 := by have h1 := o_out.len; have h2 := hlen; omega
  replace o_l := o_l.alloc (.cells #[.int .i64 (P).e, .slice A_out n_out c_out, .int .i64 (P).t, .slice A_out' n_out' c_out'] 27)
  replace o_n := o_n.alloc (.cells #[.int .i64 (P).e, .slice A_out n_out c_out, .int .i64 (P).t, .slice A_out' n_out' c_out'] 27)
  replace o_t := o_t.alloc (.cells #[.int .i64 (P).e, .slice A_out n_out c_out, .int .i64 (P).t, .slice A_out' n_out' c_out'] 27)
  replace o_out := o_out.alloc (.cells #[.int .i64 (P).e, .slice A_out n_out c_out, .int .i64 (P).t, .slice A_out' n_out' c_out'] 27)
  replace hB := hB.alloc hB.size (.cells #[.int .i64 (P).e, .slice A_out n_out c_out, .int .i64 (P).t, .slice A_out' n_out' c_out'] 27)
  have box_out := BoxAt.new w_2 #[.int .i64 (P).e, .slice A_out n_out c_out, .int .i64 (P).t, .slice A_out' n_out' c_out'] 27
  obtain ⟨s_out1, s_out2⟩ := alloc_size w_2 (.cells #[.int .i64 (P).e, .slice A_out n_out c_out, .int .i64 (P).t, .slice A_out' n_out' c_out'] 27)
  go_wp2_with fail
  refine (sPacketMake_p _ _ _ _ _ _ _ _ _ _ _ _ _ _ _ _ _ _ _ _ _ _ o_l.read o_n.read o_t.read (by omega) (by omega) (by omega) HP.out).mono ?_
  rintro e w_3 ⟨A_want, n_want, c_want, A_want', n_want', c_want', rfl, o_want, h_3⟩
  have z_3 := h_3.size
  replace o_l := o_l.below h_3 o_l.2.1
  replace o_n := o_n.below h_3 o_n.2.1
  replace o_t := o_t.below h_3 o_t.2.1
  replace o_out := o_out.below h_3 o_out.hi_le
  replace box_out := box_out.below h_3 box_out.hi_le
  replace hB := hB.trans (h_3.mono hB.size)
  have b_want : n_want ≤ 9 ∧ n_want' ≤ 6 := by have h1 := o_want.len; have h2 := hlen; omega
  replace o_l := o_l.alloc (.cells #[.int .i64 (P).e, .slice A_want n_want c_want, .int .i64 (P).t, .slice A_want' n_want' c_want'] 27)
  replace o_n := o_n.alloc (.cells #[.int .i64 (P).e, .slice A_want n_want c_want, .int .i64 (P).t, .slice A_want' n_want' c_want'] 27)
  replace o_t := o_t.alloc (.cells #[.int .i64 (P).e, .slice A_want n_want c_want, .int .i64 (P).t, .slice A_want' n_want' c_want'] 27)
  replace o_out := o_out.alloc (.cells #[.int .i64 (P).e, .slice A_want n_want c_want, .int .i64 (P).t, .slice A_want' n_want' c_want'] 27)
  replace box_out := box_out.alloc (.cells #[.int .i64 (P).e, .slice A_want n_want c_want, .int .i64 (P).t, .slice A_want' n_want' c_want'] 27)
  replace o_want := o_want.alloc (.cells #[.int .i64 (P).e, .slice A_want n_want c_want, .int .i64 (P).t, .slice A_want' n_want' c_want'] 27)
  replace hB := hB.alloc hB.size (.cells #[.int .i64 (P).e, .slice A_want n_want c_want, .int .i64 (P).t, .slice A_want' n_want' c_want'] 27)
  have box_want := BoxAt.new w_3 #[.int .i64 (P).e, .slice A_want n_want c_want, .int .i64 (P).t, .slice A_want' n_want' c_want'] 27
  obtain ⟨s_want1, s_want2⟩ := alloc_size w_3 (.cells #[.int .i64 (P).e, .slice A_want n_want c_want, .int .i64 (P).t, .slice A_want' n_want' c_want'] 27)
  cases hok : makeB s ps ns to ls with
  | false =>
    obtain ⟨q_out0, q_out1, q_out2, q_out3⟩ := box_out.four
    obtain ⟨q_want0, q_want1, q_want2, q_want3⟩ := box_want.four
    go_wp2_with fail
    refine (samePacket_t _ _ _ _ _ _ _ _ _ _ _ _ _ _ _ _ _ _ _ _ _ o_out.read o_want.read (by omega) (by omega)).mono ?_
    rintro e w_4 ⟨rfl, h_4⟩
    clear q_out0 q_out1 q_out2 q_out3 q_want0 q_want1 q_want2 q_want3
    have z_4 := h_4.size
    replace o_l := o_l.below h_4 o_l.2.1
    replace o_n := o_n.below h_4 o_n.2.1
    replace o_t := o_t.below h_4 o_t.2.1
    replace o_out := o_out.below h_4 o_out.hi_le
    replace box_out := box_out.below h_4 box_out.hi_le
    replace o_want := o_want.below h_4 o_want.hi_le
    replace box_want := box_want.below h_4 box_want.hi_le
    replace hB := hB.trans (h_4.mono hB.size)
    obtain ⟨q_out0, q_out1, q_out2, q_out3⟩ := box_out.four
    obtain ⟨q_want0, q_want1, q_want2, q_want3⟩ := box_want.four
    go_wp2_with fail
    refine (samePacket_t _ _ _ _ _ _ _ _ _ _ _ _ _ _ _ _ _ _ _ _ _ o_out.read o_want.read (by omega) (by omega)).mono ?_
    rintro e w_5 ⟨rfl, h_5⟩
    clear q_out0 q_out1 q_out2 q_out3 q_want0 q_want1 q_want2 q_want3
    have z_5 := h_5.size
    replace o_l := o_l.below h_5 o_l.2.1
    replace o_n := o_n.below h_5 o_n.2.1
    replace o_t := o_t.below h_5 o_t.2.1
    replace o_out := o_out.below h_5 o_out.hi_le
    replace box_out := box_out.below h_5 box_out.hi_le
    replace o_want := o_want.below h_5 o_want.hi_le
    replace box_want := box_want.below h_5 box_want.hi_le
    replace hB := hB.trans (h_5.mono hB.size)
    go_wp2_with fail
    go_ret
    exact ⟨ret_b (by first | rfl | simp), hB⟩
  | true =>
    have hmp := HP.out.trans (makeP_yes hok)
    have HOK := Lib.hid hok
    have HMP := Lib.hid hmp
    clear hok hmp
    obtain ⟨q_out0, q_out1, q_out2, q_out3⟩ := box_out.four
    obtain ⟨q_want0, q_want1, q_want2, q_want3⟩ := box_want.four
    go_wp2_with fail
    refine (samePacket_t _ _ _ _ _ _ _ _ _ _ _ _ _ _ _ _ _ _ _ _ _ o_out.read o_want.read (by omega) (by omega)).mono ?_
    rintro e w_4 ⟨rfl, h_4⟩
    clear q_out0 q_out1 q_out2 q_out3 q_want0 q_want1 q_want2 q_want3
    have z_4 := h_4.size
    replace o_l := o_l.below h_4 o_l.2.1
    replace o_n := o_n.below h_4 o_n.2.1
    replace o_t := o_t.below h_4 o_t.2.1
    replace o_out := o_out.below h_4 o_out.hi_le
    replace box_out := box_out.below h_4 box_out.hi_le
    replace o_want := o_want.below h_4 o_want.hi_le
    replace box_want := box_want.below h_4 box_want.hi_le
    replace hB := hB.trans (h_4.mono hB.size)
    obtain ⟨hse, hpb, hlb, hlen, hns, hto⟩ := makeB_iff.1 HOK.out
    have hsb := elB_iff.1 hse
    have hx0 : (0 : Int) ≤ (n2 : Int) % 990 := Int.emod_nonneg _ (by omega)
    have hx1 : (n2 : Int) % 990 < 990 := Int.emod_lt_of_pos _ (by omega)
    obtain ⟨hsb1, hsb2⟩ := hsb
    have HSE := Lib.hid hse
    have HPB := Lib.hid hpb
    have HLB := Lib.hid hlb
    have HLEN := Lib.hid hlen
    have HNS := Lib.hid hns
    have HTO := Lib.hid hto
    clear hse hpb hlb hlen hns hto
    go_wp2_with fail
    refine (element_c _ _ (by omega) (by omega)).mono ?_
    rintro e w' ⟨s2, rfl, hs2, rfl⟩
    have hb2 : makeB s2 ps ns to ls = true := makeB_iff.2 ⟨hs2, HPB.out, HLB.out, HLEN.out, HNS.out, HTO.out⟩
    obtain ⟨P2, hP2⟩ : ∃ p, p = makeP s2 ps ns to ls := ⟨_, rfl⟩
    have hl2 := makeP_len s2 to ps ns ls
    rw [← hP2] at hl2
    have he : P2.e = mulP s2 5 := by rw [hP2, makeP_yes hb2]; rfl
    have he1 : P.e = mulP s 5 := by rw [HMP.out]; rfl
    have hinj : P2.e = P.e → s2 = s := fun h => by
      rw [he, he1, mulP_comm, mulP_comm s 5] at h
      exact (mulP_inj el5 hs2 HSE.out).1 h
    have HQ := Lib.hid hP2
    have HB2 := Lib.hid hb2
    have HINJ := Lib.hid hinj
    clear hP2 hb2 he he1 hs2 hinj
    go_wp2_with fail
    refine (packetMake_p _ _ _ _ _ _ _ _ _ _ _ _ _ _ _ _ _ _ _ _ _ _ o_l.read o_n.read o_t.read (by omega) (by omega) HQ.out).mono ?_
    rintro e w_5 ⟨A_x, n_x, c_x, A_x', n_x', c_x', rfl, o_x, h_5⟩
    have z_5 := h_5.size
    replace o_l := o_l.below h_5 o_l.2.1
    replace o_n := o_n.below h_5 o_n.2.1
    replace o_t := o_t.below h_5 o_t.2.1
    replace o_out := o_out.below h_5 o_out.hi_le
    replace box_out := box_out.below h_5 box_out.hi_le
    replace o_want := o_want.below h_5 o_want.hi_le
    replace box_want := box_want.below h_5 box_want.hi_le
    replace hB := hB.trans (h_5.mono hB.size)
    have b_x : n_x ≤ 9 ∧ n_x' ≤ 6 := by have h1 := o_x.len; have h2 := hl2; omega
    replace o_l := o_l.alloc (.cells #[.int .i64 (P2).e, .slice A_x n_x c_x, .int .i64 (P2).t, .slice A_x' n_x' c_x'] 27)
    replace o_n := o_n.alloc (.cells #[.int .i64 (P2).e, .slice A_x n_x c_x, .int .i64 (P2).t, .slice A_x' n_x' c_x'] 27)
    replace o_t := o_t.alloc (.cells #[.int .i64 (P2).e, .slice A_x n_x c_x, .int .i64 (P2).t, .slice A_x' n_x' c_x'] 27)
    replace o_out := o_out.alloc (.cells #[.int .i64 (P2).e, .slice A_x n_x c_x, .int .i64 (P2).t, .slice A_x' n_x' c_x'] 27)
    replace box_out := box_out.alloc (.cells #[.int .i64 (P2).e, .slice A_x n_x c_x, .int .i64 (P2).t, .slice A_x' n_x' c_x'] 27)
    replace o_want := o_want.alloc (.cells #[.int .i64 (P2).e, .slice A_x n_x c_x, .int .i64 (P2).t, .slice A_x' n_x' c_x'] 27)
    replace box_want := box_want.alloc (.cells #[.int .i64 (P2).e, .slice A_x n_x c_x, .int .i64 (P2).t, .slice A_x' n_x' c_x'] 27)
    replace o_x := o_x.alloc (.cells #[.int .i64 (P2).e, .slice A_x n_x c_x, .int .i64 (P2).t, .slice A_x' n_x' c_x'] 27)
    replace hB := hB.alloc hB.size (.cells #[.int .i64 (P2).e, .slice A_x n_x c_x, .int .i64 (P2).t, .slice A_x' n_x' c_x'] 27)
    have box_x := BoxAt.new w_5 #[.int .i64 (P2).e, .slice A_x n_x c_x, .int .i64 (P2).t, .slice A_x' n_x' c_x'] 27
    obtain ⟨s_x1, s_x2⟩ := alloc_size w_5 (.cells #[.int .i64 (P2).e, .slice A_x n_x c_x, .int .i64 (P2).t, .slice A_x' n_x' c_x'] 27)
    rw [HB2.out]
    by_cases h2 : s2 = s
    · subst h2
      obtain ⟨q_x0, q_x1, q_x2, q_x3⟩ := box_x.four
      obtain ⟨q_out0, q_out1, q_out2, q_out3⟩ := box_out.four
      go_wp2_with fail
      go_ret
      exact ⟨ret_b (by first | rfl | simp), hB⟩
    · have hn0 : (s2 == s) = false := by simpa using h2
      have hn1 : ¬ P2.e = P.e := fun h => h2 (HINJ.out h)
      have hn2 : (P2.e == P.e) = false := by simpa using hn1
      have hn3 : (P2.e != P.e) = true := by simpa using hn1
      have H2 := Lib.hid h2
      have HN1 := Lib.hid hn1
      clear h2 hn1
      obtain ⟨q_x0, q_x1, q_x2, q_x3⟩ := box_x.four
      obtain ⟨q_out0, q_out1, q_out2, q_out3⟩ := box_out.four
      go_wp2_with fail
      go_ret
      exact ⟨ret_b (by first | rfl | simp [HN1.out]), hB⟩
end Go.Proofs.Ytalnilighempmaa
