/-
  The walk of the statement that a letter is masked by all mixes.
  Conditions: the arguments read as lists of bytes.
-/
import Derived.Test.YtalnilighempmaaLawsP
namespace Go.Proofs.Ytalnilighempmaa
open Go Go.RowKit

set_option maxRecDepth 100000 in
set_option maxHeartbeats 1600000 in
theorem wFnPacketHidden (A : Option Addr) (n c : Nat) (xs : List Int) (A2 : Option Addr) (n2 c2 : Nat) (xs2 : List Int) (w : World) (hs : SlR .u8 w 0 w.heap.size A n xs) (hl : n ≤ c) (hc : c ≤ 9223372036854775807) (hb : ∀ x ∈ xs, 0 ≤ x ∧ x ≤ 255) (_hs2 : SlR .u8 w 0 w.heap.size A2 n2 xs2) (_hl2 : n2 ≤ c2) (_hc2 : c2 ≤ 9223372036854775807) (_hb2 : ∀ x ∈ xs2, 0 ≤ x ∧ x ≤ 255) : Calls Try.prog 25 #[.slice A n c, .slice A2 n2 c2] w fun e w' => e = .returned (.bool true) ∧ Below w.heap.size w w' := by
  by_cases hbig : 1048576 < n
  · go_enter Try.func25, Try.ntmps25
    go_wp2
    go_ret
    exact ⟨rfl, Below.refl _ _⟩
  by_cases hbig2 : 1048576 < n2
  · go_enter Try.func25, Try.ntmps25
    go_wp2
    go_ret
    exact ⟨rfl, Below.refl _ _⟩
  go_enter Try.func25, Try.ntmps25
  go_wp2_with fail
  refine (drawPacketMake_c A n c xs w hs hb hl hc).mono ?_
  rintro e w_1 ⟨s, A_l, n_l, c_l, ps, A_n, n_n, c_n, ns, to, A_t, n_t, c_t, ls, rfl, o_l, o_n, o_t, b_l, b_n, b_t, h_1⟩
  have z_1 := h_1.size
  have hB := h_1
  obtain ⟨P, hP⟩ : ∃ P, P = makeP s ps ns to ls := ⟨_, rfl⟩
  have hlen := makeP_len s to ps ns ls
  rw [← hP] at hlen
  have HP := Lib.hid hP
  clear hP
  go_wp2_with fail
  refine (packetMake_p _ _ _ _ _ _ _ _ _ _ _ _ _ _ _ _ _ _ _ _ _ _ o_l.read o_n.read o_t.read (by omega) (by omega) HP.out).mono ?_
  rintro e w_2 ⟨A_out, n_out, c_out, A_out', n_out', c_out', rfl, o_out, h_2⟩
  have z_2 := h_2.size
  replace o_l := o_l.below h_2 o_l.2.1
  replace o_n := o_n.below h_2 o_n.2.1
  replace o_t := o_t.below h_2 o_t.2.1
  replace hB := hB.trans (h_2.mono hB.size)
  have b_out : n_out ≤ 9 ∧ n_out' ≤ 6 := by have h1 := o_out.len; have h2 := hlen; omega
  replace o_l := o_l.alloc (.cells #[.int .i64 (P).e, .slice A_out n_out c_out, .int .i64 (P).t, .slice A_out' n_out' c_out'] 27)
  replace o_n := o_n.alloc (.cells #[.int .i64 (P).e, .slice A_out n_out c_out, .int .i64 (P).t, .slice A_out' n_out' c_out'] 27)
  replace o_t := o_t.alloc (.cells #[.int .i64 (P).e, .slice A_out n_out c_out, .int .i64 (P).t, .slice A_out' n_out' c_out'] 27)
  replace o_out := o_out.alloc (.cells #[.int .i64 (P).e, .slice A_out n_out c_out, .int .i64 (P).t, .slice A_out' n_out' c_out'] 27)
  replace hB := hB.alloc hB.size (.cells #[.int .i64 (P).e, .slice A_out n_out c_out, .int .i64 (P).t, .slice A_out' n_out' c_out'] 27)
  have box_out := BoxAt.new w_2 #[.int .i64 (P).e, .slice A_out n_out c_out, .int .i64 (P).t, .slice A_out' n_out' c_out'] 27
  obtain ⟨s_out1, s_out2⟩ := alloc_size w_2 (.cells #[.int .i64 (P).e, .slice A_out n_out c_out, .int .i64 (P).t, .slice A_out' n_out' c_out'] 27)
  go_wp2_with fail
  refine (sPacketMake_p _ _ _ _ _ _ _ _ _ _ _ _ _ _ _ _ _ _ _ _ _ _ o_l.read o_n.read o_t.read (by omega) (by omega) (by omega) HP.out).mono ?_
  rintro e w_3 ⟨A_want, n_want, c_want, A_want', n_want', c_want', rfl, o_want, h_3⟩
  have z_3 := h_3.size
  replace o_l := o_l.below h_3 o_l.2.1
  replace o_n := o_n.below h_3 o_n.2.1
  replace o_t := o_t.below h_3 o_t.2.1
  replace o_out := o_out.below h_3 o_out.hi_le
  replace box_out := box_out.below h_3 box_out.hi_le
  replace hB := hB.trans (h_3.mono hB.size)
  have b_want : n_want ≤ 9 ∧ n_want' ≤ 6 := by have h1 := o_want.len; have h2 := hlen; omega
  replace o_l := o_l.alloc (.cells #[.int .i64 (P).e, .slice A_want n_want c_want, .int .i64 (P).t, .slice A_want' n_want' c_want'] 27)
  replace o_n := o_n.alloc (.cells #[.int .i64 (P).e, .slice A_want n_want c_want, .int .i64 (P).t, .slice A_want' n_want' c_want'] 27)
  replace o_t := o_t.alloc (.cells #[.int .i64 (P).e, .slice A_want n_want c_want, .int .i64 (P).t, .slice A_want' n_want' c_want'] 27)
  replace o_out := o_out.alloc (.cells #[.int .i64 (P).e, .slice A_want n_want c_want, .int .i64 (P).t, .slice A_want' n_want' c_want'] 27)
  replace box_out := box_out.alloc (.cells #[.int .i64 (P).e, .slice A_want n_want c_want, .int .i64 (P).t, .slice A_want' n_want' c_want'] 27)
  replace o_want := o_want.alloc (.cells #[.int .i64 (P).e, .slice A_want n_want c_want, .int .i64 (P).t, .slice A_want' n_want' c_want'] 27)
  replace hB := hB.alloc hB.size (.cells #[.int .i64 (P).e, .slice A_want n_want c_want, .int .i64 (P).t, .slice A_want' n_want' c_want'] 27)
  have box_want := BoxAt.new w_3 #[.int .i64 (P).e, .slice A_want n_want c_want, .int .i64 (P).t, .slice A_want' n_want' c_want'] 27
  obtain ⟨s_want1, s_want2⟩ := alloc_size w_3 (.cells #[.int .i64 (P).e, .slice A_want n_want c_want, .int .i64 (P).t, .slice A_want' n_want' c_want'] 27)
  cases hok : makeB s ps ns to ls with
  | false =>
    obtain ⟨q_out0, q_out1, q_out2, q_out3⟩ := box_out.four
    obtain ⟨q_want0, q_want1, q_want2, q_want3⟩ := box_want.four
    go_wp2_with fail
    refine (samePacket_t _ _ _ _ _ _ _ _ _ _ _ _ _ _ _ _ _ _ _ _ _ o_out.read o_want.read (by omega) (by omega)).mono ?_
    rintro e w_4 ⟨rfl, h_4⟩
    clear q_out0 q_out1 q_out2 q_out3 q_want0 q_want1 q_want2 q_want3
    have z_4 := h_4.size
    replace o_l := o_l.below h_4 o_l.2.1
    replace o_n := o_n.below h_4 o_n.2.1
    replace o_t := o_t.below h_4 o_t.2.1
    replace o_out := o_out.below h_4 o_out.hi_le
    replace box_out := box_out.below h_4 box_out.hi_le
    replace o_want := o_want.below h_4 o_want.hi_le
    replace box_want := box_want.below h_4 box_want.hi_le
    replace hB := hB.trans (h_4.mono hB.size)
    obtain ⟨q_out0, q_out1, q_out2, q_out3⟩ := box_out.four
    obtain ⟨q_want0, q_want1, q_want2, q_want3⟩ := box_want.four
    go_wp2_with fail
    refine (samePacket_t _ _ _ _ _ _ _ _ _ _ _ _ _ _ _ _ _ _ _ _ _ o_out.read o_want.read (by omega) (by omega)).mono ?_
    rintro e w_5 ⟨rfl, h_5⟩
    clear q_out0 q_out1 q_out2 q_out3 q_want0 q_want1 q_want2 q_want3
    have z_5 := h_5.size
    replace o_l := o_l.below h_5 o_l.2.1
    replace o_n := o_n.below h_5 o_n.2.1
    replace o_t := o_t.below h_5 o_t.2.1
    replace o_out := o_out.below h_5 o_out.hi_le
    replace box_out := box_out.below h_5 box_out.hi_le
    replace o_want := o_want.below h_5 o_want.hi_le
    replace box_want := box_want.below h_5 box_want.hi_le
    replace hB := hB.trans (h_5.mono hB.size)
    go_wp2_with fail
    go_ret
    exact ⟨ret_b (by first | rfl | simp), hB⟩
  | true =>
    have hmp := HP.out.trans (makeP_yes hok)
    have HOK := Lib.hid hok
    have HMP := Lib.hid hmp
    clear hok hmp
    obtain ⟨q_out0, q_out1, q_out2, q_out3⟩ := box_out.four
    obtain ⟨q_want0, q_want1, q_want2, q_want3⟩ := box_want.four
    go_wp2_with fail
    refine (samePacket_t _ _ _ _ _ _ _ _ _ _ _ _ _ _ _ _ _ _ _ _ _ o_out.read o_want.read (by omega) (by omega)).mono ?_
    rintro e w_4 ⟨rfl, h_4⟩
    clear q_out0 q_out1 q_out2 q_out3 q_want0 q_want1 q_want2 q_want3
    have z_4 := h_4.size
    replace o_l := o_l.below h_4 o_l.2.1
    replace o_n := o_n.below h_4 o_n.2.1
    replace o_t := o_t.below h_4 o_t.2.1
    replace o_out := o_out.below h_4 o_out.hi_le
    replace box_out := box_out.below h_4 box_out.hi_le
    replace o_want := o_want.below h_4 o_want.hi_le
    replace box_want := box_want.below h_4 box_want.hi_le
    replace hB := hB.trans (h_4.mono hB.size)
    obtain ⟨hse, hpb, hlb, hlen, hns, hto⟩ := makeB_iff.1 HOK.out
    have hp13 := pathB_iff.1 hpb
    have hnn : n_n = n_l := by rw [← o_l.len, ← o_n.len]; exact hlen
    have hn13 : 1 ≤ n_n ∧ n_n ≤ 3 := by have := o_l.len; omega
    have HSE := Lib.hid hse
    have HLB := Lib.hid hlb
    have HNS := Lib.hid hns
    have HTO := Lib.hid hto
    obtain ⟨hn1, hn3⟩ := hn13
    clear hse hpb hlb hlen hns hto hp13 hnn
    go_wp2_with fail
    refine (secrets_c n_n n2 _ hn3 (by omega)).mono ?_
    rintro e w_5 ⟨A_a, c_a, A_b, c_b, ss, rfl, hss, o_s, h_5⟩
    have z_5 := h_5.size
    replace o_l := o_l.below h_5 o_l.2.1
    replace o_n := o_n.below h_5 o_n.2.1
    replace o_t := o_t.below h_5 o_t.2.1
    replace o_out := o_out.below h_5 o_out.hi_le
    replace box_out := box_out.below h_5 box_out.hi_le
    replace o_want := o_want.below h_5 o_want.hi_le
    replace box_want := box_want.below h_5 box_want.hi_le
    replace hB := hB.trans (h_5.mono hB.size)
    have hsl := o_s.len.1
    have hpb2 : pathB (ss.map (mulP · 5)) = true := pathB_iff.2 ⟨fun p hp => by obtain ⟨a, ha, rfl⟩ := List.mem_map.1 hp; exact mulP_el (hss a ha) el5, by simp; omega, by simp; omega⟩
    have hb2 : makeB s (ss.map (mulP · 5)) ns to ls = true := makeB_iff.2 ⟨HSE.out, hpb2, HLB.out, by rw [o_n.len]; simp [hsl], HNS.out, HTO.out⟩
    obtain ⟨P2, hP2⟩ : ∃ p, p = makeP s (ss.map (mulP · 5)) ns to ls := ⟨_, rfl⟩
    have hl2 := makeP_len s to (ss.map (mulP · 5)) ns ls
    rw [← hP2] at hl2
    have HQ := Lib.hid hP2
    have HB2 := Lib.hid hb2
    have HPB2 := Lib.hid hpb2
    have HSS := Lib.hid hss
    have HSL := Lib.hid hsl
    clear hP2 hb2 hpb2 hss hsl
    go_wp2_with fail
    refine (packetMake_p _ _ _ _ _ _ _ _ _ _ _ _ _ _ _ _ _ _ _ _ _ _ o_s.2.1.read o_n.read o_t.read (by omega) (by omega) HQ.out).mono ?_
    rintro e w_6 ⟨A_x, n_x, c_x, A_x', n_x', c_x', rfl, o_x, h_6⟩
    have z_6 := h_6.size
    replace o_l := o_l.below h_6 o_l.2.1
    replace o_n := o_n.below h_6 o_n.2.1
    replace o_t := o_t.below h_6 o_t.2.1
    replace o_out := o_out.below h_6 o_out.hi_le
    replace box_out := box_out.below h_6 box_out.hi_le
    replace o_want := o_want.below h_6 o_want.hi_le
    replace box_want := box_want.below h_6 box_want.hi_le
    replace o_s := o_s.below h_6 o_s.hi_le
    replace hB := hB.trans (h_6.mono hB.size)
    have b_x : n_x ≤ 9 ∧ n_x' ≤ 6 := by have h1 := o_x.len; have h2 := hl2; omega
    replace o_l := o_l.alloc (.cells #[.int .i64 (P2).e, .slice A_x n_x c_x, .int .i64 (P2).t, .slice A_x' n_x' c_x'] 27)
    replace o_n := o_n.alloc (.cells #[.int .i64 (P2).e, .slice A_x n_x c_x, .int .i64 (P2).t, .slice A_x' n_x' c_x'] 27)
    replace o_t := o_t.alloc (.cells #[.int .i64 (P2).e, .slice A_x n_x c_x, .int .i64 (P2).t, .slice A_x' n_x' c_x'] 27)
    replace o_out := o_out.alloc (.cells #[.int .i64 (P2).e, .slice A_x n_x c_x, .int .i64 (P2).t, .slice A_x' n_x' c_x'] 27)
    replace box_out := box_out.alloc (.cells #[.int .i64 (P2).e, .slice A_x n_x c_x, .int .i64 (P2).t, .slice A_x' n_x' c_x'] 27)
    replace o_want := o_want.alloc (.cells #[.int .i64 (P2).e, .slice A_x n_x c_x, .int .i64 (P2).t, .slice A_x' n_x' c_x'] 27)
    replace box_want := box_want.alloc (.cells #[.int .i64 (P2).e, .slice A_x n_x c_x, .int .i64 (P2).t, .slice A_x' n_x' c_x'] 27)
    replace o_s := o_s.alloc (.cells #[.int .i64 (P2).e, .slice A_x n_x c_x, .int .i64 (P2).t, .slice A_x' n_x' c_x'] 27)
    replace o_x := o_x.alloc (.cells #[.int .i64 (P2).e, .slice A_x n_x c_x, .int .i64 (P2).t, .slice A_x' n_x' c_x'] 27)
    replace hB := hB.alloc hB.size (.cells #[.int .i64 (P2).e, .slice A_x n_x c_x, .int .i64 (P2).t, .slice A_x' n_x' c_x'] 27)
    have box_x := BoxAt.new w_6 #[.int .i64 (P2).e, .slice A_x n_x c_x, .int .i64 (P2).t, .slice A_x' n_x' c_x'] 27
    obtain ⟨s_x1, s_x2⟩ := alloc_size w_6 (.cells #[.int .i64 (P2).e, .slice A_x n_x c_x, .int .i64 (P2).t, .slice A_x' n_x' c_x'] 27)
    rw [HB2.out]
    go_wp2_with fail
    refine (pathKeys_c _ _ _ _ _ _ _ _ o_s.2.1.read (by omega)).mono ?_
    rintro e w_7 ⟨A_k, n_k, c_k, rfl, o_k, h_7⟩
    have z_7 := h_7.size
    replace o_l := o_l.below h_7 o_l.2.1
    replace o_n := o_n.below h_7 o_n.2.1
    replace o_t := o_t.below h_7 o_t.2.1
    replace o_out := o_out.below h_7 o_out.hi_le
    replace box_out := box_out.below h_7 box_out.hi_le
    replace o_want := o_want.below h_7 o_want.hi_le
    replace box_want := box_want.below h_7 box_want.hi_le
    replace o_s := o_s.below h_7 o_s.hi_le
    replace o_x := o_x.below h_7 o_x.hi_le
    replace box_x := box_x.below h_7 box_x.hi_le
    replace hB := hB.trans (h_7.mono hB.size)
    have b_k : n_k ≤ 4194304 := by have := o_k.len; have := keysP_len s (ss.map (mulP · 5)); omega
    have hok2 : pathOk s (ss.map (mulP · 5)) = true := by simp [pathOk, HSE.out, HPB2.out]
    obtain ⟨K, hK⟩ : ∃ k, k = keysL s (ss.map (mulP · 5)) := ⟨_, rfl⟩
    rw [show keysP s (ss.map (mulP · 5)) = K by rw [hK]; simp [keysP, hok2]] at o_k
    rw [hok2]
    have hkn : n_k = n_n := by have h1 := o_k.len; rw [hK, keysL_len, List.length_map, HSL.out] at h1; exact h1.symm
    subst hkn
    have hpx : P2.b = masksL (packL ls) K := by rw [HQ.out, makeP_yes HB2.out, hK]; rfl
    have hke : ∀ k ∈ K, elB k = true := by rw [hK]; exact keysL_el HSE.out (pathB_iff.1 HPB2.out).1
    have HKE := Lib.hid hke
    have HKL := Lib.hid o_k.len
    have HPX := Lib.hid hpx
    clear hK hok2 hpx hke
    go_wp2_with fail
    refine (letterPack_c _ _ _ _ _ _ _ o_t.read).mono ?_
    rintro e w_8 ⟨A_body, n_body, c_body, rfl, o_body, h_8⟩
    have z_8 := h_8.size
    replace o_l := o_l.below h_8 o_l.2.1
    replace o_n := o_n.below h_8 o_n.2.1
    replace o_t := o_t.below h_8 o_t.2.1
    replace o_out := o_out.below h_8 o_out.hi_le
    replace box_out := box_out.below h_8 box_out.hi_le
    replace o_want := o_want.below h_8 o_want.hi_le
    replace box_want := box_want.below h_8 box_want.hi_le
    replace o_s := o_s.below h_8 o_s.hi_le
    replace o_x := o_x.below h_8 o_x.hi_le
    replace box_x := box_x.below h_8 box_x.hi_le
    replace o_k := o_k.below h_8 o_k.2.1
    replace hB := hB.trans (h_8.mono hB.size)
    have b_body : n_body ≤ 4194304 := by have := o_body.len; have := packP_len ls; omega
    have hpp := packP_yes HLB.out
    rw [hpp] at o_body
    rw [HLB.out]
    have HP6 := Lib.hid (packL_len (packB_iff.1 HLB.out).2)
    have HPL := Lib.hid (packL_listB HLB.out)
    have hnb : n_body = 6 := by have := o_body.len; rw [HP6.out] at this; exact this.symm
    subst hnb
    clear hpp
    go_wp2_with fail
    go_loopw [21, 23] (fun v i wr => MaskRel (packL ls) K w.heap.size n_k w_8 v i wr) (fun _ i _ => n_k - (intOf i).toNat)
    case atStart => exact ⟨0, A_body, c_body, Nat.zero_le _, rfl, rfl, o_body.wider (by omega) o_body.hi_le (Nat.le_refl _), Below.refl _ _⟩
    case round =>
      obtain ⟨k, Am, cm, hk, rfl, rfl, om, hnx⟩ := hrel
      have okr := o_k.below hnx o_k.hi_le
      have hzr := hnx.size
      by_cases hlt : k < n_k
      · obtain ⟨b, ob, rfl, -, -, hcc⟩ := okr.read.at_ (by omega)
        have hck := hcc k hlt
        obtain ⟨v, hv⟩ : ∃ v, v = K.getD k 0 := ⟨_, rfl⟩
        rw [← hv] at hck
        have hve : elB v = true := by rw [hv]; exact HKE.out _ (getD_mem (by rw [HKL.out]; exact hlt))
        have hmg := masksL_take_good HPL.out K k
        have hon : onP (masksL (packL ls) (K.take k)) v = masksL (packL ls) (K.take (k + 1)) := by
          rw [show onP (masksL (packL ls) (K.take k)) v = onL (masksL (packL ls) (K.take k)) v from if_pos ⟨hmg.1, hve⟩]
          exact masksL_next (by rw [HKL.out]; exact hlt) hv
        have hmg2 := masksL_take_good HPL.out K (k + 1)
        have HON := Lib.hid hon
        have HG2 := Lib.hid (hmg2.2.trans HP6.out)
        have OM := Lib.hid om
        have HNX := Lib.hid hnx
        clear hcc hv hve hmg hon hmg2 om hnx okr
        go_wp2_with fail
        refine (maskOn_c _ _ _ _ _ _ v _ OM.out.read).mono ?_
        rintro e w5 ⟨A5, n5, c5, rfl, o5, hb5⟩
        rw [HON.out] at o5
        have hn5 : n5 = 6 := by have := o5.len; rw [HG2.out] at this; exact this.symm
        subst hn5
        have O5 := Lib.hid (o5.wider (lo' := w.heap.size) (by omega) (Nat.le_refl _) (Nat.le_refl _))
        have HB5 := Lib.hid (HNX.out.trans (hb5.mono hzr))
        clear o5 hb5
        go_wp2_with fail
        go_roundw
        case rel => exact ⟨k + 1, A5, c5, by omega, by go_num, rfl, O5.out, HB5.out⟩
        case measure => simp [intOf]; omega
      · have hkn : k = n_k := by omega
        have hall : K.take k = K := List.take_of_length_le (by rw [HKL.out]; omega)
        rw [hall] at om
        replace o_x := o_x.below hnx o_x.hi_le
        replace box_x := box_x.below hnx box_x.hi_le
        replace hB := hB.trans (hnx.mono hB.size)
        have hxb := o_x.2.1.read
        rw [HPX.out] at hxb
        have OM := Lib.hid om
        have HXB := Lib.hid hxb
        obtain ⟨q_x0, q_x1, q_x2, q_x3⟩ := box_x.four
        have hqq : ((n_k : Int) == (n_k : Int)) = true := by simp
        clear hkn hall om hnx okr hxb
        go_wp2_with fail
        refine (sameInts_t _ _ _ _ _ _ _ _ _ _ _ _ HXB.out OM.out.read (by omega)).mono ?_
        rintro e w9 ⟨rfl, h9⟩
        have hB9 := hB.trans (h9.mono hB.size)
        clear q_x0 q_x1 q_x2 q_x3 h9 hB
        go_wp2_with fail
        go_ret
        exact ⟨ret_b (by first | rfl | simp), hB9⟩
end Go.Proofs.Ytalnilighempmaa
