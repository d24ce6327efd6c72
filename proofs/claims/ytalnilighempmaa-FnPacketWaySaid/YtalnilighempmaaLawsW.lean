/-
  The walk of the statement that a packet goes its way and arrives.
  Conditions: the arguments read as lists of bytes.
-/
import Derived.Test.YtalnilighempmaaLawsQ
import Derived.Test.YtalnilighempmaaPeel
import Derived.Test.YtalnilighempmaaPktV
import Derived.IntWalk
namespace Go.Proofs.Ytalnilighempmaa
open Go Go.RowKit

/-- A packet that is peeled: what the owner of the secret makes of it. -/
theorem packetPeel_t (s e t : Int) (A : Option Addr) (n c : Nat) (A2 : Option Addr) (n2 c2 : Nat) (lo hi : Nat) (h b : List Int) (w : World) (hs : TwoR w lo hi h b A n c A2 n2 c2) (X : Peel) (hp : peelB s ⟨e, h, t, b⟩ = true) (hX : X = peelL s ⟨e, h, t, b⟩) : Calls Try.prog 33 #[.int .i64 s, .agg #[.int .i64 e, .slice A n c, .int .i64 t, .slice A2 n2 c2]] w (NewPeel X true w) := by
  have hc := packetPeel_c s e t A n c A2 n2 c2 lo hi h b w hs
  rw [peelP_yes hp, hp, ← hX] at hc
  exact hc
/-- A peeled packet kept in a block of the call's own. -/
def PeelOk (w WF : World) (gb : Nat) (X : Peel) (A3 : Option Addr) (n3 c3 : Nat) (A4 : Option Addr) (n4 c4 : Nat) : Prop :=
  BoxAt WF gb #[.int .i64 X.kind, .int .i64 X.next, .int .i64 X.p.e, .slice A3 n3 c3, .int .i64 X.p.t, .slice A4 n4 c4] 34 ∧ w.heap.size ≤ gb ∧ TwoO WF w.heap.size WF.heap.size X.p.h X.p.b A3 n3 c3 A4 n4 c4 ∧ Below w.heap.size w WF
theorem peelBox_last {w w2 : World} {X : Peel} {A3 : Option Addr} {n3 c3 : Nat} {A4 : Option Addr} {n4 c4 : Nat} (hb : Below w.drew.heap.size w.drew w2) (o : TwoO w2 w.drew.heap.size w2.heap.size X.p.h X.p.b A3 n3 c3 A4 n4 c4) :
    PeelOk w (w2.alloc (.cells #[.int .i64 X.kind, .int .i64 X.next, .int .i64 X.p.e, .slice A3 n3 c3, .int .i64 X.p.t, .slice A4 n4 c4] 34)) w2.heap.size X A3 n3 c3 A4 n4 c4 := by
  have z : w.heap.size ≤ w2.heap.size := hb.size
  exact ⟨BoxAt.new _ _ _, z, (o.alloc _).wider (Nat.le_refl _) (by simp) (Nat.le_refl _), (((Below.refl w.heap.size w).drew).trans hb).alloc z _⟩
theorem set6_box {w : World} {gb : Nat} {y0 y1 y2 y3 y4 y5 : Value} {T : TypeId} (hb : BoxAt w gb #[y0, y1, y2, y3, y4, y5] T) (x0 x1 x2 x3 x4 x5 : Value) : BoxAt ((((((w.setCell ⟨gb, 0, none⟩ x0).setCell ⟨gb, 1, none⟩ x1).setCell ⟨gb, 2, none⟩ x2).setCell ⟨gb, 3, none⟩ x3).setCell ⟨gb, 4, none⟩ x4).setCell ⟨gb, 5, none⟩ x5) gb #[x0, x1, x2, x3, x4, x5] T :=
  (((((hb.set 0 x0).set 1 x1).set 2 x2).set 3 x3).set 4 x4).set 5 x5
theorem peelBox_first {w w2 : World} {X : Peel} {A3 : Option Addr} {n3 c3 : Nat} {A4 : Option Addr} {n4 c4 : Nat} (hb : Below (w.alloc (.cells #[.int .i64 0, .int .i64 0, .int .i64 0, .slice none 0 0, .int .i64 0, .slice none 0 0] 34)).drew.heap.size (w.alloc (.cells #[.int .i64 0, .int .i64 0, .int .i64 0, .slice none 0 0, .int .i64 0, .slice none 0 0] 34)).drew w2) (o : TwoO w2 (w.alloc (.cells #[.int .i64 0, .int .i64 0, .int .i64 0, .slice none 0 0, .int .i64 0, .slice none 0 0] 34)).drew.heap.size w2.heap.size X.p.h X.p.b A3 n3 c3 A4 n4 c4) :
    PeelOk w ((((((w2.setCell ⟨w.heap.size, 0, none⟩ (.int .i64 X.kind)).setCell ⟨w.heap.size, 1, none⟩ (.int .i64 X.next)).setCell ⟨w.heap.size, 2, none⟩ (.int .i64 X.p.e)).setCell ⟨w.heap.size, 3, none⟩ (.slice A3 n3 c3)).setCell ⟨w.heap.size, 4, none⟩ (.int .i64 X.p.t)).setCell ⟨w.heap.size, 5, none⟩ (.slice A4 n4 c4)) w.heap.size X A3 n3 c3 A4 n4 c4 := by
  have zz : (w.alloc (.cells #[.int .i64 0, .int .i64 0, .int .i64 0, .slice none 0 0, .int .i64 0, .slice none 0 0] 34)).drew.heap.size = w.heap.size + 1 := by show (w.alloc (.cells #[.int .i64 0, .int .i64 0, .int .i64 0, .slice none 0 0, .int .i64 0, .slice none 0 0] 34)).heap.size = _; simp
  have z := hb.size
  rw [zz] at z
  have hbw : Below w.heap.size w w2 := (((Below.refl w.heap.size w).alloc (Nat.le_refl _) (.cells #[.int .i64 0, .int .i64 0, .int .i64 0, .slice none 0 0, .int .i64 0, .slice none 0 0] 34)).drew).trans (hb.mono (by rw [zz]; omega))
  have bx : BoxAt w2 w.heap.size #[.int .i64 0, .int .i64 0, .int .i64 0, .slice none 0 0, .int .i64 0, .slice none 0 0] 34 := (BoxAt.new w #[.int .i64 0, .int .i64 0, .int .i64 0, .slice none 0 0, .int .i64 0, .slice none 0 0] 34).drew.below hb (by rw [zz]; omega)
  refine ⟨set6_box bx _ _ _ _ _ _, Nat.le_refl _, ?_, set6_below hbw (Nat.le_refl _) _ _ _ _ _ _⟩
  exact (set6_twoO o (by rw [zz]; omega) _ _ _ _ _ _).wider (by rw [zz]; omega) (by rw [set6_size]; exact Nat.le_refl _) (Nat.le_refl _)
/-- The packet on its way, ahead of mix k. -/
def WayRel (to : Int) (ls ss ns : List Int) (N g : Nat) (w : World) (i : Value) (wr : World) : Prop :=
  ∃ (k : Nat) (P : Pkt) (lo hi : Nat) (A : Option Addr) (n c : Nat) (A2 : Option Addr) (n2 c2 : Nat), k ≤ N ∧ i = .int .i64 (k : Int) ∧ Goes to ls (ss.drop k) (ns.drop k) P ∧
    BoxAt wr g #[.int .i64 P.e, .slice A n c, .int .i64 P.t, .slice A2 n2 c2] 27 ∧ TwoR wr lo hi P.h P.b A n c A2 n2 c2 ∧ (g < lo ∨ hi ≤ g) ∧ Only g (g + 1) w wr
theorem WayRel.drewN {to : Int} {ls ss ns : List Int} {N g : Nat} {w wr : World} {i : Value} (h : WayRel to ls ss ns N g w i wr) (n : Nat) : WayRel to ls ss ns N g w i (wr.drewN n) := by
  obtain ⟨k, P, lo, hi, A, m, c, A2, n2, c2, h1, h2, h3, h4, h5, h6, h7⟩ := h
  exact ⟨k, P, lo, hi, A, m, c, A2, n2, c2, h1, h2, h3, h4, h5, h6, ⟨h7.os, h7.tape, h7.output, h7.size, h7.block⟩⟩
/-- What becomes of a packet at one mix. -/
theorem goes_step {to : Int} {ls ss ns : List Int} {k : Nat} {P : Pkt} (h : Goes to ls (ss.drop k) (ns.drop k) P) (hk : k < ss.length) :
    peelB (ss.getD k 0) P = true ∧ (k + 1 < ss.length → (peelL (ss.getD k 0) P).kind = 0 ∧ (peelL (ss.getD k 0) P).next = ns.getD (k + 1) 0) ∧ (k + 1 = ss.length → (peelL (ss.getD k 0) P).kind = 1 ∧ (peelL (ss.getD k 0) P).next = to) ∧ Goes to ls (ss.drop (k + 1)) (ns.drop (k + 1)) (peelL (ss.getD k 0) P).p := by
  rw [drop_at hk] at h
  obtain ⟨h1, h2, h3, h4⟩ := h
  have hd : (ns.drop k).drop 1 = ns.drop (k + 1) := by rw [List.drop_drop]
  rw [hd] at h2 h4
  have hg : (ns.drop (k + 1)).getD 0 0 = ns.getD (k + 1) 0 := by simp [List.getD_eq_getElem?_getD]
  rw [hg] at h2
  refine ⟨h1, fun g => h2 ?_, fun g => h3 ?_, h4⟩
  · intro e
    have := congrArg List.length e
    simp at this
    omega
  · exact List.drop_of_length_le (by omega)
set_option maxRecDepth 100000 in
set_option maxHeartbeats 1600000 in
theorem wFnPacketWay (A : Option Addr) (n c : Nat) (xs : List Int) (A2 : Option Addr) (n2 c2 : Nat) (xs2 : List Int) (w : World) (hs : SlR .u8 w 0 w.heap.size A n xs) (hl : n ≤ c) (hc : c ≤ 9223372036854775807) (hb : ∀ x ∈ xs, 0 ≤ x ∧ x ≤ 255) (_hs2 : SlR .u8 w 0 w.heap.size A2 n2 xs2) (_hl2 : n2 ≤ c2) (_hc2 : c2 ≤ 9223372036854775807) (_hb2 : ∀ x ∈ xs2, 0 ≤ x ∧ x ≤ 255) : Calls Try.prog 3 #[.slice A n c, .slice A2 n2 c2] w fun e w' => e = .returned (.bool true) ∧ Below w.heap.size w w' := by
  by_cases hbig : 1048576 < n
  · go_enter Try.func3, Try.ntmps3
    go_wp2
    go_ret
    exact ⟨rfl, Below.refl _ _⟩
  by_cases hbig2 : 1048576 < n2
  · go_enter Try.func3, Try.ntmps3
    go_wp2
    go_ret
    exact ⟨rfl, Below.refl _ _⟩
  go_enter Try.func3, Try.ntmps3
  go_wp2_with fail
  refine (drawPacketMake_c A n c xs w hs hb hl hc).mono ?_
  rintro e w_1 ⟨s, A_l, n_l, c_l, ps, A_n, n_n, c_n, ns, to, A_t, n_t, c_t, ls, rfl, o_l, o_n, o_t, b_l, b_n, b_t, h_1⟩
  have z_1 := h_1.size
  have hB := h_1
  obtain ⟨P, hP⟩ : ∃ P, P = makeP s ps ns to ls := ⟨_, rfl⟩
  have hlen := makeP_len s to ps ns ls
  rw [← hP] at hlen
  have HP := Lib.hid hP
  clear hP
  go_wp2_with fail
  refine (packetMake_p _ _ _ _ _ _ _ _ _ _ _ _ _ _ _ _ _ _ _ _ _ _ o_l.read o_n.read o_t.read (by omega) (by omega) HP.out).mono ?_
  rintro e w_2 ⟨A_out, n_out, c_out, A_out', n_out', c_out', rfl, o_out, h_2⟩
  have z_2 := h_2.size
  replace o_l := o_l.below h_2 o_l.2.1
  replace o_n := o_n.below h_2 o_n.2.1
  replace o_t := o_t.below h_2 o_t.2.1
  replace hB := hB.trans (h_2.mono hB.size)
  have b_out : n_out ≤ 9 ∧ n_out' ≤ 6 := by have h1 := o_out.len; have h2 := hlen; omega
  replace o_l := o_l.alloc (.cells #[.int .i64 (P).e, .slice A_out n_out c_out, .int .i64 (P).t, .slice A_out' n_out' c_out'] 27)
  replace o_n := o_n.alloc (.cells #[.int .i64 (P).e, .slice A_out n_out c_out, .int .i64 (P).t, .slice A_out' n_out' c_out'] 27)
  replace o_t := o_t.alloc (.cells #[.int .i64 (P).e, .slice A_out n_out c_out, .int .i64 (P).t, .slice A_out' n_out' c_out'] 27)
  replace o_out := o_out.alloc (.cells #[.int .i64 (P).e, .slice A_out n_out c_out, .int .i64 (P).t, .slice A_out' n_out' c_out'] 27)
  replace hB := hB.alloc hB.size (.cells #[.int .i64 (P).e, .slice A_out n_out c_out, .int .i64 (P).t, .slice A_out' n_out' c_out'] 27)
  have box_out := BoxAt.new w_2 #[.int .i64 (P).e, .slice A_out n_out c_out, .int .i64 (P).t, .slice A_out' n_out' c_out'] 27
  obtain ⟨s_out1, s_out2⟩ := alloc_size w_2 (.cells #[.int .i64 (P).e, .slice A_out n_out c_out, .int .i64 (P).t, .slice A_out' n_out' c_out'] 27)
  go_wp2_with fail
  refine (sPacketMake_p _ _ _ _ _ _ _ _ _ _ _ _ _ _ _ _ _ _ _ _ _ _ o_l.read o_n.read o_t.read (by omega) (by omega) (by omega) HP.out).mono ?_
  rintro e w_3 ⟨A_want, n_want, c_want, A_want', n_want', c_want', rfl, o_want, h_3⟩
  have z_3 := h_3.size
  replace o_l := o_l.below h_3 o_l.2.1
  replace o_n := o_n.below h_3 o_n.2.1
  replace o_t := o_t.below h_3 o_t.2.1
  replace o_out := o_out.below h_3 o_out.hi_le
  replace box_out := box_out.below h_3 box_out.hi_le
  replace hB := hB.trans (h_3.mono hB.size)
  have b_want : n_want ≤ 9 ∧ n_want' ≤ 6 := by have h1 := o_want.len; have h2 := hlen; omega
  replace o_l := o_l.alloc (.cells #[.int .i64 (P).e, .slice A_want n_want c_want, .int .i64 (P).t, .slice A_want' n_want' c_want'] 27)
  replace o_n := o_n.alloc (.cells #[.int .i64 (P).e, .slice A_want n_want c_want, .int .i64 (P).t, .slice A_want' n_want' c_want'] 27)
  replace o_t := o_t.alloc (.cells #[.int .i64 (P).e, .slice A_want n_want c_want, .int .i64 (P).t, .slice A_want' n_want' c_want'] 27)
  replace o_out := o_out.alloc (.cells #[.int .i64 (P).e, .slice A_want n_want c_want, .int .i64 (P).t, .slice A_want' n_want' c_want'] 27)
  replace box_out := box_out.alloc (.cells #[.int .i64 (P).e, .slice A_want n_want c_want, .int .i64 (P).t, .slice A_want' n_want' c_want'] 27)
  replace o_want := o_want.alloc (.cells #[.int .i64 (P).e, .slice A_want n_want c_want, .int .i64 (P).t, .slice A_want' n_want' c_want'] 27)
  replace hB := hB.alloc hB.size (.cells #[.int .i64 (P).e, .slice A_want n_want c_want, .int .i64 (P).t, .slice A_want' n_want' c_want'] 27)
  have box_want := BoxAt.new w_3 #[.int .i64 (P).e, .slice A_want n_want c_want, .int .i64 (P).t, .slice A_want' n_want' c_want'] 27
  obtain ⟨s_want1, s_want2⟩ := alloc_size w_3 (.cells #[.int .i64 (P).e, .slice A_want n_want c_want, .int .i64 (P).t, .slice A_want' n_want' c_want'] 27)
  cases hok : makeB s ps ns to ls with
  | false =>
    obtain ⟨q_out0, q_out1, q_out2, q_out3⟩ := box_out.four
    obtain ⟨q_want0, q_want1, q_want2, q_want3⟩ := box_want.four
    go_wp2_with fail
    refine (samePacket_t _ _ _ _ _ _ _ _ _ _ _ _ _ _ _ _ _ _ _ _ _ o_out.read o_want.read (by omega) (by omega)).mono ?_
    rintro e w_4 ⟨rfl, h_4⟩
    clear q_out0 q_out1 q_out2 q_out3 q_want0 q_want1 q_want2 q_want3
    have z_4 := h_4.size
    replace o_l := o_l.below h_4 o_l.2.1
    replace o_n := o_n.below h_4 o_n.2.1
    replace o_t := o_t.below h_4 o_t.2.1
    replace o_out := o_out.below h_4 o_out.hi_le
    replace box_out := box_out.below h_4 box_out.hi_le
    replace o_want := o_want.below h_4 o_want.hi_le
    replace box_want := box_want.below h_4 box_want.hi_le
    replace hB := hB.trans (h_4.mono hB.size)
    obtain ⟨q_out0, q_out1, q_out2, q_out3⟩ := box_out.four
    obtain ⟨q_want0, q_want1, q_want2, q_want3⟩ := box_want.four
    go_wp2_with fail
    refine (samePacket_t _ _ _ _ _ _ _ _ _ _ _ _ _ _ _ _ _ _ _ _ _ o_out.read o_want.read (by omega) (by omega)).mono ?_
    rintro e w_5 ⟨rfl, h_5⟩
    clear q_out0 q_out1 q_out2 q_out3 q_want0 q_want1 q_want2 q_want3
    have z_5 := h_5.size
    replace o_l := o_l.below h_5 o_l.2.1
    replace o_n := o_n.below h_5 o_n.2.1
    replace o_t := o_t.below h_5 o_t.2.1
    replace o_out := o_out.below h_5 o_out.hi_le
    replace box_out := box_out.below h_5 box_out.hi_le
    replace o_want := o_want.below h_5 o_want.hi_le
    replace box_want := box_want.below h_5 box_want.hi_le
    replace hB := hB.trans (h_5.mono hB.size)
    go_wp2_with fail
    go_ret
    exact ⟨ret_b (by first | rfl | simp), hB⟩
  | true =>
    have hmp := HP.out.trans (makeP_yes hok)
    have HOK := Lib.hid hok
    have HMP := Lib.hid hmp
    clear hok hmp
    obtain ⟨q_out0, q_out1, q_out2, q_out3⟩ := box_out.four
    obtain ⟨q_want0, q_want1, q_want2, q_want3⟩ := box_want.four
    go_wp2_with fail
    refine (samePacket_t _ _ _ _ _ _ _ _ _ _ _ _ _ _ _ _ _ _ _ _ _ o_out.read o_want.read (by omega) (by omega)).mono ?_
    rintro e w_4 ⟨rfl, h_4⟩
    clear q_out0 q_out1 q_out2 q_out3 q_want0 q_want1 q_want2 q_want3
    have z_4 := h_4.size
    replace o_l := o_l.below h_4 o_l.2.1
    replace o_n := o_n.below h_4 o_n.2.1
    replace o_t := o_t.below h_4 o_t.2.1
    replace o_out := o_out.below h_4 o_out.hi_le
    replace box_out := box_out.below h_4 box_out.hi_le
    replace o_want := o_want.below h_4 o_want.hi_le
    replace box_want := box_want.below h_4 box_want.hi_le
    replace hB := hB.trans (h_4.mono hB.size)
    obtain ⟨hse, hpb, hlb, hlen, hns, hto⟩ := makeB_iff.1 HOK.out
    have hp13 := pathB_iff.1 hpb
    have hnn : n_n = n_l := by rw [← o_l.len, ← o_n.len]; exact hlen
    have hn13 : 1 ≤ n_n ∧ n_n ≤ 3 := by have := o_l.len; omega
    have HSE := Lib.hid hse
    have HLB := Lib.hid hlb
    have HNS := Lib.hid hns
    have HTO := Lib.hid hto
    obtain ⟨hn1, hn3⟩ := hn13
    clear hse hpb hlb hlen hns hto hp13 hnn
    go_wp2_with fail
    refine (secrets_c n_n n2 _ hn3 (by omega)).mono ?_
    rintro e w_5 ⟨A_a, c_a, A_b, c_b, ss, rfl, hss, o_s, h_5⟩
    have z_5 := h_5.size
    replace o_l := o_l.below h_5 o_l.2.1
    replace o_n := o_n.below h_5 o_n.2.1
    replace o_t := o_t.below h_5 o_t.2.1
    replace o_out := o_out.below h_5 o_out.hi_le
    replace box_out := box_out.below h_5 box_out.hi_le
    replace o_want := o_want.below h_5 o_want.hi_le
    replace box_want := box_want.below h_5 box_want.hi_le
    replace hB := hB.trans (h_5.mono hB.size)
    have hsl := o_s.len.1
    have hpb2 : pathB (ss.map (mulP · 5)) = true := pathB_iff.2 ⟨fun p hp => by obtain ⟨a, ha, rfl⟩ := List.mem_map.1 hp; exact mulP_el (hss a ha) el5, by simp; omega, by simp; omega⟩
    have hb2 : makeB s (ss.map (mulP · 5)) ns to ls = true := makeB_iff.2 ⟨HSE.out, hpb2, HLB.out, by rw [o_n.len]; simp [hsl], HNS.out, HTO.out⟩
    obtain ⟨P2, hP2⟩ : ∃ p, p = makeP s (ss.map (mulP · 5)) ns to ls := ⟨_, rfl⟩
    have hl2 := makeP_len s to (ss.map (mulP · 5)) ns ls
    rw [← hP2] at hl2
    have HQ := Lib.hid hP2
    have HB2 := Lib.hid hb2
    have HPB2 := Lib.hid hpb2
    have HSS := Lib.hid hss
    have HSL := Lib.hid hsl
    clear hP2 hb2 hpb2 hss hsl
    go_wp2_with fail
    refine (packetMake_p _ _ _ _ _ _ _ _ _ _ _ _ _ _ _ _ _ _ _ _ _ _ o_s.2.1.read o_n.read o_t.read (by omega) (by omega) HQ.out).mono ?_
    rintro e w_6 ⟨A_x, n_x, c_x, A_x', n_x', c_x', rfl, o_x, h_6⟩
    have z_6 := h_6.size
    replace o_l := o_l.below h_6 o_l.2.1
    replace o_n := o_n.below h_6 o_n.2.1
    replace o_t := o_t.below h_6 o_t.2.1
    replace o_out := o_out.below h_6 o_out.hi_le
    replace box_out := box_out.below h_6 box_out.hi_le
    replace o_want := o_want.below h_6 o_want.hi_le
    replace box_want := box_want.below h_6 box_want.hi_le
    replace o_s := o_s.below h_6 o_s.hi_le
    replace hB := hB.trans (h_6.mono hB.size)
    have b_x : n_x ≤ 9 ∧ n_x' ≤ 6 := by have h1 := o_x.len; have h2 := hl2; omega
    replace o_l := o_l.alloc (.cells #[.int .i64 (P2).e, .slice A_x n_x c_x, .int .i64 (P2).t, .slice A_x' n_x' c_x'] 27)
    replace o_n := o_n.alloc (.cells #[.int .i64 (P2).e, .slice A_x n_x c_x, .int .i64 (P2).t, .slice A_x' n_x' c_x'] 27)
    replace o_t := o_t.alloc (.cells #[.int .i64 (P2).e, .slice A_x n_x c_x, .int .i64 (P2).t, .slice A_x' n_x' c_x'] 27)
    replace o_out := o_out.alloc (.cells #[.int .i64 (P2).e, .slice A_x n_x c_x, .int .i64 (P2).t, .slice A_x' n_x' c_x'] 27)
    replace box_out := box_out.alloc (.cells #[.int .i64 (P2).e, .slice A_x n_x c_x, .int .i64 (P2).t, .slice A_x' n_x' c_x'] 27)
    replace o_want := o_want.alloc (.cells #[.int .i64 (P2).e, .slice A_x n_x c_x, .int .i64 (P2).t, .slice A_x' n_x' c_x'] 27)
    replace box_want := box_want.alloc (.cells #[.int .i64 (P2).e, .slice A_x n_x c_x, .int .i64 (P2).t, .slice A_x' n_x' c_x'] 27)
    replace o_s := o_s.alloc (.cells #[.int .i64 (P2).e, .slice A_x n_x c_x, .int .i64 (P2).t, .slice A_x' n_x' c_x'] 27)
    replace o_x := o_x.alloc (.cells #[.int .i64 (P2).e, .slice A_x n_x c_x, .int .i64 (P2).t, .slice A_x' n_x' c_x'] 27)
    replace hB := hB.alloc hB.size (.cells #[.int .i64 (P2).e, .slice A_x n_x c_x, .int .i64 (P2).t, .slice A_x' n_x' c_x'] 27)
    have box_x := BoxAt.new w_6 #[.int .i64 (P2).e, .slice A_x n_x c_x, .int .i64 (P2).t, .slice A_x' n_x' c_x'] 27
    obtain ⟨s_x1, s_x2⟩ := alloc_size w_6 (.cells #[.int .i64 (P2).e, .slice A_x n_x c_x, .int .i64 (P2).t, .slice A_x' n_x' c_x'] 27)
    rw [HB2.out]
    have hgo : Goes to ls ss ns P2 := by
      have hm : P2 = makeL s (ss.map (mulP · 5)) ns to ls := HQ.out.trans (makeP_yes HB2.out)
      rw [hm]
      exact goes_make HSE.out HSS.out (by rw [HSL.out]; exact hn1) (by rw [HSL.out]; exact hn3) HLB.out (by rw [o_n.len, HSL.out]) HNS.out HTO.out
    have HGO := Lib.hid hgo
    have HNL := Lib.hid o_n.len
    have hgs : w_6.heap.size < (w_6.alloc (.cells #[.int .i64 (P2).e, .slice A_x n_x c_x, .int .i64 (P2).t, .slice A_x' n_x' c_x'] 27)).heap.size := box_x.hi_le
    clear hgo
    go_wp2_with fail
    go_loopw [19] (fun i wr => WayRel to ls ss ns n_n w_6.heap.size (w_6.alloc (.cells #[.int .i64 (P2).e, .slice A_x n_x c_x, .int .i64 (P2).t, .slice A_x' n_x' c_x'] 27)) i wr) (fun i _ => n_n - (intOf i).toNat)
    case atStart => exact ⟨0, P2, _, _, _, _, _, _, _, _, Nat.zero_le _, rfl, HGO.out, box_x, o_x.read, .inr (Nat.le_refl _), Only.refl _ _ _⟩
    case round =>
      obtain ⟨k, P, plo, phi, Ap, np, cp, Ap', np', cp', hk, rfl, hgoes, bp, tp, hdis, hon⟩ := hrel
      have hzr := hon.size
      by_cases hlt : k < n_n
      · have hst := goes_step hgoes (by rw [HSL.out]; exact hlt)
        have osr := o_s.only hon (.inl (by omega))
        obtain ⟨ba, oa, rfl, hba1, hba2, hca⟩ := osr.1.read.at_ (by omega)
        have ca := hca k hlt
        obtain ⟨a, ha⟩ : ∃ v, v = ss.getD k 0 := ⟨_, rfl⟩
        rw [← ha] at ca hst
        obtain ⟨X, hX⟩ : ∃ x, x = peelL a P := ⟨_, rfl⟩
        rw [← hX] at hst
        obtain ⟨hp, hk0, hk1, hg1⟩ := hst
        have hbaw : ba < wr.heap.size := Nat.lt_of_lt_of_le hba2 osr.hi_le
        have hgw : w_6.heap.size < wr.heap.size := bp.hi_le
        have k5 : ∀ w', Below wr.heap.size wr w' → w'.cell? ⟨ba, oa + k, none⟩ = some (.int .i64 a) ∧ w'.cell? ⟨w_6.heap.size, 0, none⟩ = some (.int .i64 P.e) ∧ w'.cell? ⟨w_6.heap.size, 1, none⟩ = some (.slice Ap np cp) ∧ w'.cell? ⟨w_6.heap.size, 2, none⟩ = some (.int .i64 P.t) ∧ w'.cell? ⟨w_6.heap.size, 3, none⟩ = some (.slice Ap' np' cp') := fun w' hb =>
          ⟨(hb.cell (p := ⟨ba, oa + k, none⟩) hbaw).trans ca, (bp.below hb hgw).four⟩
        have HK5 := Lib.hid k5
        have HD0 := Lib.hid ((Below.refl wr.heap.size wr).drew)
        have HD1 := Lib.hid (((Below.refl wr.heap.size wr).alloc (Nat.le_refl _) (.cells #[.int .i64 0, .int .i64 0, .int .i64 0, .slice none 0 0, .int .i64 0, .slice none 0 0] 34)).drew)
        have HT0 := Lib.hid tp.drew
        have HT1 := Lib.hid (tp.alloc (.cells #[.int .i64 0, .int .i64 0, .int .i64 0, .slice none 0 0, .int .i64 0, .slice none 0 0] 34)).drew
        have HPB := Lib.hid hp
        have HXX := Lib.hid hX
        have HK0 := Lib.hid hk0
        have HK1 := Lib.hid hk1
        have HG1 := Lib.hid hg1
        have HON := Lib.hid hon
        have HBP := Lib.hid bp
        obtain ⟨b0, b1, b2, b3⟩ := bp.four
        have hk00 : (0 : Int) ≤ (k : Int) := Int.natCast_nonneg _
        have hkn0 : (k : Int) < (n_n : Int) := by omega
        clear k5 tp hp hX hk0 hk1 hg1 hgoes hca ha osr hon bp
        go_wp2_with fail
        apply share8 (N := fun WF gb A3 n3 c3 A4 n4 c4 => PeelOk wr WF gb X A3 n3 c3 A4 n4 c4)
        case h1 =>
          intro main
          go_region_held3 (fun w' => w'.cell? ⟨ba, oa + k, none⟩ = some (.int .i64 a) ∧ w'.cell? ⟨w_6.heap.size, 0, none⟩ = some (.int .i64 P.e) ∧ w'.cell? ⟨w_6.heap.size, 1, none⟩ = some (.slice Ap np cp) ∧ w'.cell? ⟨w_6.heap.size, 2, none⟩ = some (.int .i64 P.t) ∧ w'.cell? ⟨w_6.heap.size, 3, none⟩ = some (.slice Ap' np' cp'))
            (exact HK5.out _ (by first | with_reducible exact HD0.out | with_reducible exact HD1.out | with_reducible exact hB2 | with_reducible exact hB2.alloc hB2.size _ | with_reducible exact set6_below hB2 (Nat.le_refl _) _ _ _ _ _ _))
            ((go_at_call 33; refine (packetPeel_t a P.e P.t Ap np cp Ap' np' cp' plo phi P.h P.b _ (by first | with_reducible exact HT0.out | with_reducible exact HT1.out) X HPB.out HXX.out).mono ?_; rintro e' w2 ⟨A3, n3, c3, A4, n4, c4, rfl, o3, hb3⟩; have hB2 : Below wr.heap.size wr w2 := (by first | exact HD0.out.trans hb3 | exact HD1.out.trans (hb3.mono (by show wr.heap.size ≤ (wr.alloc _).heap.size; simp))); try (have bz : BoxAt w2 wr.heap.size #[.int .i64 0, .int .i64 0, .int .i64 0, .slice none 0 0, .int .i64 0, .slice none 0 0] 34 := ((BoxAt.new wr _ _).drew).below hb3 (by show _ < (wr.alloc _).heap.size; simp); obtain ⟨z0, z1, z2, z3, z4, z5⟩ := bz.six; have zf := bz.frozen)))
          all_goals (
            first
            | (have nx : PeelOk wr (w2.alloc (.cells #[.int .i64 X.kind, .int .i64 X.next, .int .i64 X.p.e, .slice A3 n3 c3, .int .i64 X.p.t, .slice A4 n4 c4] 34)) w2.heap.size X A3 n3 c3 A4 n4 c4 := peelBox_last hb3 o3
               generalize hgb : w2.heap.size = gb at nx ⊢
               generalize hWF : w2.alloc (.cells #[.int .i64 X.kind, .int .i64 X.next, .int .i64 X.p.e, .slice A3 n3 c3, .int .i64 X.p.t, .slice A4 n4 c4] 34) = WF at nx ⊢
               exact main WF gb A3 n3 c3 A4 n4 c4 nx)
            | exact main _ wr.heap.size A3 n3 c3 A4 n4 c4 (peelBox_first hb3 o3))
        case h2 =>
          intro WF gb A3 n3 c3 A4 n4 c4 nx
          obtain ⟨bx, hgb, tw, hbF⟩ := nx
          have hbpF := HBP.out.below hbF hgw
          have honF : Only w_6.heap.size (w_6.heap.size + 1) (w_6.alloc (.cells #[.int .i64 (P2).e, .slice A_x n_x c_x, .int .i64 (P2).t, .slice A_x' n_x' c_x'] 27)) WF := HON.out.trans (Only.of_below hbF)
          have onF := o_n.only honF (.inl (by omega))
          have hszF := hbF.size
          obtain ⟨m0, m1, m2, m3, m4, m5⟩ := bx.six
          obtain ⟨f0, f1, f2, f3⟩ := hbpF.four
          have ff := hbpF.frozen
          have HBX := Lib.hid bx
          have HTW := Lib.hid tw
          have HBPF := Lib.hid hbpF
          have HONF := Lib.hid honF
          have hgbn : ¬ gb = w_6.heap.size := by omega
          have hgbn2 : ¬ w_6.heap.size = gb := by omega
          clear bx tw hbF hbpF honF b0 b1 b2 b3 ca
          have hrel2 : WayRel to ls ss ns n_n w_6.heap.size (w_6.alloc (.cells #[.int .i64 (P2).e, .slice A_x n_x c_x, .int .i64 (P2).t, .slice A_x' n_x' c_x'] 27)) (.int .i64 ((k + 1 : Nat) : Int)) ((((WF.setCell ⟨w_6.heap.size, 0, none⟩ (.int .i64 X.p.e)).setCell ⟨w_6.heap.size, 1, none⟩ (.slice A3 n3 c3)).setCell ⟨w_6.heap.size, 2, none⟩ (.int .i64 X.p.t)).setCell ⟨w_6.heap.size, 3, none⟩ (.slice A4 n4 c4)) := by
            refine ⟨k + 1, X.p, wr.heap.size, WF.heap.size, A3, n3, c3, A4, n4, c4, by omega, rfl, HG1.out, set4_box HBPF.out _ _ _ _, ?_, .inl hgw, ?_⟩
            · have hr := HTW.out.read
              exact ⟨(((hr.1.setCell (.inl hgw) _).setCell (.inl hgw) _).setCell (.inl hgw) _).setCell (.inl hgw) _, (((hr.2.1.setCell (.inl hgw) _).setCell (.inl hgw) _).setCell (.inl hgw) _).setCell (.inl hgw) _, hr.2.2⟩
            · have ho : ∀ (u : World) (i : Nat) (x : Value), Only w_6.heap.size (w_6.heap.size + 1) u (u.setCell ⟨w_6.heap.size, i, none⟩ x) := fun u i x => Only.of_grown (only_set x) (fun g hg => by injection hg with hg; omega)
              exact (((HONF.out.trans (ho _ _ _)).trans (ho _ _ _)).trans (ho _ _ _)).trans (ho _ _ _)
          have HREL := Lib.hid hrel2
          clear hrel2
          by_cases hl1 : k + 1 < n_n
          · have hx := HK0.out (by rw [HSL.out]; exact hl1)
            obtain ⟨bn, on, rfl, hbn1, hbn2, hcn⟩ := onF.read.at_ (by omega)
            have cn := hcn (k + 1) hl1
            rw [← hx.2] at cn
            rw [hx.1] at m0
            have hk1i : (k : Int) + 1 < (n_n : Int) := by omega
            have hk1n : ¬ ((k : Int) + 1 = (n_n : Int)) := by omega
            have hk1b : (((k : Int) + 1) == (n_n : Int)) = false := by simpa using hk1n
            have hk1p : (0 : Int) ≤ (k : Int) + 1 := by omega
            have HX0 := Lib.hid hx
            clear hcn hx onF hk1n
            go_wp2_with fail
            have e1 : IntKind.i64.wrap ((k : Int) + 1) = (k : Int) + 1 := IntWalk.i64_in _ (by omega)
            have e2 : ((k : Int) + 1).toNat = k + 1 := by omega
            go_quiet (fail)
            clear e1 e2
            go_wp2_with fail
            go_roundw
            case rel => exact HREL.out.drewN _
            case measure => simp [intOf]; omega
          · have hl2 : k + 1 = n_n := by omega
            have hx := HK1.out (by rw [HSL.out]; exact hl2)
            have HX0 := Lib.hid hx
            rw [hx.1] at m0
            rw [hx.2] at m1
            have hk1n : ¬ ((k : Int) + 1 < (n_n : Int)) := by omega
            have hk1b : (((k : Int) + 1) == (n_n : Int)) = true := by simp; omega
            have hk1d : decide ((k : Int) + 1 < (n_n : Int)) = false := by simp; omega
            have HL2 := Lib.hid hl2
            clear hx onF hl2 hl1
            go_wp2_with fail
            have e1 : IntKind.i64.wrap ((k : Int) + 1) = (k : Int) + 1 := IntWalk.i64_in _ (by omega)
            go_quiet (fail)
            clear e1
            go_wp2_with fail
            go_roundw
            case rel => exact HREL.out.drewN _
            case measure => simp [intOf]; omega
      · have hkn : k = n_n := by omega
        have hpb : P.b = packL ls := by
          rw [hkn, List.drop_of_length_le (by rw [HSL.out]; exact Nat.le_refl _)] at hgoes
          exact hgoes
        have hbr := tp.2.1
        rw [hpb] at hbr
        have hcap := tp.2.2.2
        have otr := o_t.only hon (.inl (by omega))
        have hBr := Below.only hB hon hB.size (by omega)
        obtain ⟨b0, b1, b2, b3⟩ := bp.four
        have HBR := Lib.hid hbr
        have HOT := Lib.hid otr
        have hkn2 : ¬ ((k : Int) < (n_n : Int)) := by omega
        clear hkn hpb hbr otr tp bp hon hgoes hlt
        go_wp2_with fail
        have hlo := letterOpen_c Ap' np' cp' plo phi (packL ls) wr HBR.out hcap
        rw [openP_packL HLB.out, openB_packL HLB.out] at hlo
        refine hlo.mono ?_
        rintro e' w9 ⟨A9, n9, c9, rfl, o9, hb9⟩
        have ot9 := HOT.out.below hb9 HOT.out.hi_le
        have hB9 := hBr.trans (hb9.mono hBr.size)
        have hl9 : n9 ≤ 4194304 := by have h1 := o9.len; have h2 := ot9.len; omega
        clear hlo hb9 hBr b0 b1 b2 b3
        go_wp2_with fail
        refine (sameInts_t _ _ _ _ _ _ _ _ _ _ _ _ o9.read ot9.read hl9).mono ?_
        rintro e' w10 ⟨rfl, hb10⟩
        have hB10 := hB9.trans (hb10.mono hB9.size)
        clear o9 ot9 hb10 hB9
        go_wp2_with fail
        go_ret
        exact ⟨ret_b (by first | rfl | simp), hB10⟩
end Go.Proofs.Ytalnilighempmaa
