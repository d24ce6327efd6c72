/-
  The walk of the statement that all packets look alike.
  Conditions: the arguments read as lists of bytes.
-/
import Derived.Test.YtbkecimhbibnjaaDrawR
import Derived.IntWalk
namespace Go.Proofs.Ytbkecimhbibnjaa
open Go Go.RowKit

theorem share9 {P N : World → Nat → Nat → Option Addr → Nat → Nat → Option Addr → Nat → Nat → Prop} {G : Prop} (h1 : (∀ a g b c d e f g' h, N a g b c d e f g' h → P a g b c d e f g' h) → G) (h2 : ∀ a g b c d e f g' h, N a g b c d e f g' h → P a g b c d e f g' h) : G := h1 h2
theorem next_done {w W w2 : World} {T : TypeId} {h b : List Int} {A : Option Addr} {n c : Nat} {A2 : Option Addr} {n2 c2 : Nat} (hW : Below w.heap.size w W) (hb : Below W.heap.size W w2) (o : TwoO w2 W.heap.size w2.heap.size h b A n c A2 n2 c2) (vals : Array Value) :
    NextOk w (w2.alloc (.cells vals T)) w2.heap.size vals T h b A n c A2 n2 c2 := by
  have z := hW.size; have z2 := hb.size
  exact ⟨BoxAt.new _ _ _, by omega, (o.alloc _).wider z (by simp) (Nat.le_refl _), (hW.trans (hb.mono z)).alloc (by omega) _⟩
theorem next_set {w W w2 : World} {T : TypeId} {h b : List Int} {A : Option Addr} {n c : Nat} {A2 : Option Addr} {n2 c2 gb : Nat} {y0 y1 y2 y3 : Value} (hW : Below w.heap.size w W) (hb : Below W.heap.size W w2) (o : TwoO w2 W.heap.size w2.heap.size h b A n c A2 n2 c2) (bx : BoxAt W gb #[y0, y1, y2, y3] T) (hg : w.heap.size ≤ gb) (x0 x1 x2 x3 : Value) :
    NextOk w ((((w2.setCell ⟨gb, 0, none⟩ x0).setCell ⟨gb, 1, none⟩ x1).setCell ⟨gb, 2, none⟩ x2).setCell ⟨gb, 3, none⟩ x3) gb #[x0, x1, x2, x3] T h b A n c A2 n2 c2 := by
  have z := hW.size
  have hl := bx.hi_le
  refine ⟨set4_box (bx.below hb hl) _ _ _ _, hg, ?_, Below.only (hW.trans (hb.mono z)) (set4_only _ _ _ _ _ _) (by have := hb.size; omega) hg⟩
  exact (o.only (set4_only w2 gb x0 x1 x2 x3) (.inr (by omega))).wider z (by rw [set4_sz]; exact Nat.le_refl _) (Nat.le_refl _)
theorem l3_take (W : World) (G k : Nat) (hG : W.heap.size = G) (hk : k ≤ 3) : SlR .i64 (W.alloc (.cells #[.int .i64 1, .int .i64 2, .int .i64 3] 3)) G (G + 1) (some ⟨G, 0, none⟩) k (([1, 2, 3] : List Int).take k) := by
  subst hG
  have h3 : SlR .i64 (W.alloc (.cells #[.int .i64 1, .int .i64 2, .int .i64 3] 3)) W.heap.size (W.heap.size + 1) (some ⟨W.heap.size, 0, none⟩) 3 [1, 2, 3] := by
    have bx := BoxAt.new W #[.int .i64 1, .int .i64 2, .int .i64 3] 3
    refine ⟨rfl, by simp, fun _ => ⟨W.heap.size, 0, rfl, Nat.le_refl _, by omega, fun j hj => ?_⟩⟩
    have : j = 0 ∨ j = 1 ∨ j = 2 := by omega
    rcases this with rfl | rfl | rfl
    · exact bx.cell 0
    · exact bx.cell 1
    · exact bx.cell 2
  exact h3.take_ hk
theorem names_take (k : Nat) : ∀ n ∈ (([1, 2, 3] : List Int).take k), nameB n = true := by
  intro n hn
  have := List.mem_of_mem_take hn
  simp at this
  rcases this with rfl | rfl | rfl <;> rfl
theorem take_map5 (ss : List Int) (k : Nat) : (ss.map (mulP · 5)).take k = (ss.take k).map (mulP · 5) := by rw [List.map_take]
theorem take_peel {s to a : Int} {ss ls : List Int} {k : Nat} (hs : elB s = true) (ha : ∀ a ∈ ss, elB a = true) (h3 : ss.length = 3) (hk1 : 1 ≤ k) (hk3 : k ≤ 3) (hl : packB ls = true) (hto : nameB to = true) (h0 : a = ss.getD 0 0) :
    makeB s ((ss.map (mulP · 5)).take k) (([1, 2, 3] : List Int).take k) to ls = true ∧ peelB a (makeP s ((ss.map (mulP · 5)).take k) (([1, 2, 3] : List Int).take k) to ls) = true := by
  have hm : makeB s ((ss.map (mulP · 5)).take k) (([1, 2, 3] : List Int).take k) to ls = true := makeB_iff.2 ⟨hs, pathB_iff.2 ⟨fun p hp => by
      obtain ⟨a, ha', rfl⟩ := List.mem_map.1 (List.mem_of_mem_take hp)
      exact mulP_el (ha a ha') el5, by simp; omega, by simp; omega⟩, hl, by simp; omega, names_take k, hto⟩
  refine ⟨hm, ?_⟩
  rw [makeP_yes hm]
  have hg := @goes_make s to (ss.take k) (([1, 2, 3] : List Int).take k) ls hs (fun a h => ha a (List.mem_of_mem_take h)) (by simp; omega) (by simp; omega) hl (by simp; omega) (names_take k) hto
  have hst := goes_step (ss := ss.take k) (ns := ([1, 2, 3] : List Int).take k) (k := 0) (by simpa using hg) (by simp; omega)
  have he : (ss.take k).getD 0 0 = a := by
    rw [h0]
    match ss, h3, k, hk1 with
    | x :: r, _, k + 1, _ => simp
  rw [he] at hst
  first | exact hst.1 | (rw [take_map5]; exact hst.1)
set_option maxRecDepth 100000 in
set_option maxHeartbeats 1600000 in
theorem wFnPacketSize (A : Option Addr) (n c : Nat) (xs : List Int) (A2 : Option Addr) (n2 c2 : Nat) (xs2 : List Int) (w : World) (hs : SlR .u8 w 0 w.heap.size A n xs) (hl : n ≤ c) (hc : c ≤ 9223372036854775807) (hb : ∀ x ∈ xs, 0 ≤ x ∧ x ≤ 255) (_hs2 : SlR .u8 w 0 w.heap.size A2 n2 xs2) (_hl2 : n2 ≤ c2) (_hc2 : c2 ≤ 9223372036854775807) (_hb2 : ∀ x ∈ xs2, 0 ≤ x ∧ x ≤ 255) : Calls Try.prog 14 #[.slice A n c, .slice A2 n2 c2] w fun e w' => e = .returned (.bool true) ∧ Below w.heap.size w w' := by
  by_cases hbig : 1048576 < n
  · go_enter Try.func14, Try.ntmps14
    go_wp2
    go_ret
    exact ⟨rfl, Below.refl _ _⟩
  by_cases hbig2 : 1048576 < n2
  · go_enter Try.func14, Try.ntmps14
    go_wp2
    go_ret
    exact ⟨rfl, Below.refl _ _⟩
  go_enter Try.func14, Try.ntmps14
  go_wp2_with fail
  refine (drawPacketMake_c A n c xs w hs hb hl hc).mono ?_
  rintro e w_1 ⟨s, A_l, n_l, c_l, ps, A_n, n_n, c_n, ns, to, A_t, n_t, c_t, ls, rfl, o_l, o_n, o_t, b_l, b_n, b_t, h_1⟩
  have z_1 := h_1.size
  have hB := h_1
  obtain ⟨P, hP⟩ : ∃ P, P = makeP s ps ns to ls := ⟨_, rfl⟩
  have hlen := makeP_len s to ps ns ls
  rw [← hP] at hlen
  have HP := Lib.hid hP
  clear hP
  go_wp2_with fail
  refine (packetMake_p _ _ _ _ _ _ _ _ _ _ _ _ _ _ _ _ _ _ _ _ _ _ o_l.read o_n.read o_t.read (by omega) (by omega) HP.out).mono ?_
  rintro e w_2 ⟨A_out, n_out, c_out, A_out', n_out', c_out', rfl, o_out, h_2⟩
  have z_2 := h_2.size
  replace o_l := o_l.below h_2 o_l.2.1
  replace o_n := o_n.below h_2 o_n.2.1
  replace o_t := o_t.below h_2 o_t.2.1
  replace hB := hB.trans (h_2.mono hB.size)
  have b_out : n_out ≤ 9 ∧ n_out' ≤ 6 := by have h1 := o_out.len; have h2 := hlen; omega
  replace o_l := o_l.alloc (.cells #[.int .i64 (P).e, .slice A_out n_out c_out, .int .i64 (P).t, .slice A_out' n_out' c_out'] 42)
  replace o_n := o_n.alloc (.cells #[.int .i64 (P).e, .slice A_out n_out c_out, .int .i64 (P).t, .slice A_out' n_out' c_out'] 42)
  replace o_t := o_t.alloc (.cells #[.int .i64 (P).e, .slice A_out n_out c_out, .int .i64 (P).t, .slice A_out' n_out' c_out'] 42)
  replace o_out := o_out.alloc (.cells #[.int .i64 (P).e, .slice A_out n_out c_out, .int .i64 (P).t, .slice A_out' n_out' c_out'] 42)
  replace hB := hB.alloc hB.size (.cells #[.int .i64 (P).e, .slice A_out n_out c_out, .int .i64 (P).t, .slice A_out' n_out' c_out'] 42)
  have box_out := BoxAt.new w_2 #[.int .i64 (P).e, .slice A_out n_out c_out, .int .i64 (P).t, .slice A_out' n_out' c_out'] 42
  obtain ⟨s_out1, s_out2⟩ := alloc_size w_2 (.cells #[.int .i64 (P).e, .slice A_out n_out c_out, .int .i64 (P).t, .slice A_out' n_out' c_out'] 42)
  go_wp2_with fail
  refine (sPacketMake_p _ _ _ _ _ _ _ _ _ _ _ _ _ _ _ _ _ _ _ _ _ _ o_l.read o_n.read o_t.read (by omega) (by omega) (by omega) HP.out).mono ?_
  rintro e w_3 ⟨A_want, n_want, c_want, A_want', n_want', c_want', rfl, o_want, h_3⟩
  have z_3 := h_3.size
  replace o_l := o_l.below h_3 o_l.2.1
  replace o_n := o_n.below h_3 o_n.2.1
  replace o_t := o_t.below h_3 o_t.2.1
  replace o_out := o_out.below h_3 o_out.hi_le
  replace box_out := box_out.below h_3 box_out.hi_le
  replace hB := hB.trans (h_3.mono hB.size)
  have b_want : n_want ≤ 9 ∧ n_want' ≤ 6 := by have h1 := o_want.len; have h2 := hlen; omega
  replace o_l := o_l.alloc (.cells #[.int .i64 (P).e, .slice A_want n_want c_want, .int .i64 (P).t, .slice A_want' n_want' c_want'] 42)
  replace o_n := o_n.alloc (.cells #[.int .i64 (P).e, .slice A_want n_want c_want, .int .i64 (P).t, .slice A_want' n_want' c_want'] 42)
  replace o_t := o_t.alloc (.cells #[.int .i64 (P).e, .slice A_want n_want c_want, .int .i64 (P).t, .slice A_want' n_want' c_want'] 42)
  replace o_out := o_out.alloc (.cells #[.int .i64 (P).e, .slice A_want n_want c_want, .int .i64 (P).t, .slice A_want' n_want' c_want'] 42)
  replace box_out := box_out.alloc (.cells #[.int .i64 (P).e, .slice A_want n_want c_want, .int .i64 (P).t, .slice A_want' n_want' c_want'] 42)
  replace o_want := o_want.alloc (.cells #[.int .i64 (P).e, .slice A_want n_want c_want, .int .i64 (P).t, .slice A_want' n_want' c_want'] 42)
  replace hB := hB.alloc hB.size (.cells #[.int .i64 (P).e, .slice A_want n_want c_want, .int .i64 (P).t, .slice A_want' n_want' c_want'] 42)
  have box_want := BoxAt.new w_3 #[.int .i64 (P).e, .slice A_want n_want c_want, .int .i64 (P).t, .slice A_want' n_want' c_want'] 42
  obtain ⟨s_want1, s_want2⟩ := alloc_size w_3 (.cells #[.int .i64 (P).e, .slice A_want n_want c_want, .int .i64 (P).t, .slice A_want' n_want' c_want'] 42)
  cases hok : makeB s ps ns to ls with
  | false =>
    obtain ⟨q_out0, q_out1, q_out2, q_out3⟩ := box_out.four
    obtain ⟨q_want0, q_want1, q_want2, q_want3⟩ := box_want.four
    go_wp2_with fail
    refine (samePacket_t _ _ _ _ _ _ _ _ _ _ _ _ _ _ _ _ _ _ _ _ _ o_out.read o_want.read (by omega) (by omega)).mono ?_
    rintro e w_4 ⟨rfl, h_4⟩
    clear q_out0 q_out1 q_out2 q_out3 q_want0 q_want1 q_want2 q_want3
    have z_4 := h_4.size
    replace o_l := o_l.below h_4 o_l.2.1
    replace o_n := o_n.below h_4 o_n.2.1
    replace o_t := o_t.below h_4 o_t.2.1
    replace o_out := o_out.below h_4 o_out.hi_le
    replace box_out := box_out.below h_4 box_out.hi_le
    replace o_want := o_want.below h_4 o_want.hi_le
    replace box_want := box_want.below h_4 box_want.hi_le
    replace hB := hB.trans (h_4.mono hB.size)
    obtain ⟨q_out0, q_out1, q_out2, q_out3⟩ := box_out.four
    obtain ⟨q_want0, q_want1, q_want2, q_want3⟩ := box_want.four
    go_wp2_with fail
    refine (samePacket_t _ _ _ _ _ _ _ _ _ _ _ _ _ _ _ _ _ _ _ _ _ o_out.read o_want.read (by omega) (by omega)).mono ?_
    rintro e w_5 ⟨rfl, h_5⟩
    clear q_out0 q_out1 q_out2 q_out3 q_want0 q_want1 q_want2 q_want3
    have z_5 := h_5.size
    replace o_l := o_l.below h_5 o_l.2.1
    replace o_n := o_n.below h_5 o_n.2.1
    replace o_t := o_t.below h_5 o_t.2.1
    replace o_out := o_out.below h_5 o_out.hi_le
    replace box_out := box_out.below h_5 box_out.hi_le
    replace o_want := o_want.below h_5 o_want.hi_le
    replace box_want := box_want.below h_5 box_want.hi_le
    replace hB := hB.trans (h_5.mono hB.size)
    go_wp2_with fail
    go_ret
    exact ⟨ret_b (by first | rfl | simp), hB⟩
  | true =>
    have hmp := HP.out.trans (makeP_yes hok)
    have HOK := Lib.hid hok
    have HMP := Lib.hid hmp
    clear hok hmp
    obtain ⟨q_out0, q_out1, q_out2, q_out3⟩ := box_out.four
    obtain ⟨q_want0, q_want1, q_want2, q_want3⟩ := box_want.four
    go_wp2_with fail
    refine (samePacket_t _ _ _ _ _ _ _ _ _ _ _ _ _ _ _ _ _ _ _ _ _ o_out.read o_want.read (by omega) (by omega)).mono ?_
    rintro e w_4 ⟨rfl, h_4⟩
    clear q_out0 q_out1 q_out2 q_out3 q_want0 q_want1 q_want2 q_want3
    have z_4 := h_4.size
    replace o_l := o_l.below h_4 o_l.2.1
    replace o_n := o_n.below h_4 o_n.2.1
    replace o_t := o_t.below h_4 o_t.2.1
    replace o_out := o_out.below h_4 o_out.hi_le
    replace box_out := box_out.below h_4 box_out.hi_le
    replace o_want := o_want.below h_4 o_want.hi_le
    replace box_want := box_want.below h_4 box_want.hi_le
    replace hB := hB.trans (h_4.mono hB.size)
    obtain ⟨hse, hpb, hlb, hlen', hns, hto⟩ := makeB_iff.1 HOK.out
    have hv := make_valid HMP.out HOK.out
    obtain ⟨_, _, hv9, _, hv6, _⟩ := validB_iff.1 hv
    obtain ⟨rfl, rfl⟩ : n_out = 9 ∧ n_out' = 6 := by have := o_out.len; exact ⟨this.1.symm.trans hv9, this.2.symm.trans hv6⟩
    have HSE := Lib.hid hse
    have HLB := Lib.hid hlb
    have HTO := Lib.hid hto
    clear hse hpb hlb hlen' hns hto hv hv9 hv6
    go_wp2_with fail
    refine (secrets_c 3 n2 _ (by omega) (by omega)).mono ?_
    rintro e w_5 ⟨A_a, c_a, A_b, c_b, ss, rfl, hss, o_s, h_5⟩
    have z_5 := h_5.size
    replace o_l := o_l.below h_5 o_l.2.1
    replace o_n := o_n.below h_5 o_n.2.1
    replace o_t := o_t.below h_5 o_t.2.1
    replace o_out := o_out.below h_5 o_out.hi_le
    replace box_out := box_out.below h_5 box_out.hi_le
    replace o_want := o_want.below h_5 o_want.hi_le
    replace box_want := box_want.below h_5 box_want.hi_le
    replace hB := hB.trans (h_5.mono hB.size)
    have HSS := Lib.hid hss
    have HSL := Lib.hid o_s.len.1
    clear hss
    go_wp2_with fail
    go_loopw [16] (fun i wr => ∃ k : Nat, 1 ≤ k ∧ k ≤ 4 ∧ i = .int .i64 k ∧ Below w_5.heap.size w_5 wr) (fun i _ => 4 - (intOf i).toNat)
    case atStart => exact ⟨1, by omega, by omega, rfl, Below.refl _ _⟩
    case round =>
      obtain ⟨k, hk1, hk4, rfl, hnx⟩ := hrel
      replace hB := hB.trans (hnx.mono hB.size)
      replace o_s := o_s.below hnx o_s.hi_le
      replace o_t := o_t.below hnx o_t.2.1
      replace box_out := box_out.below hnx box_out.hi_le
      by_cases hlt : k ≤ 3
      · have hki : (k : Int) ≤ 3 := by omega
        have hk0 : (0 : Int) ≤ (k : Int) := Int.natCast_nonneg _
        obtain ⟨gB, rfl, _, _, _, _⟩ := o_s.2.1.at_ (by omega)
        have hcb := o_s.2.1.cap
        have hcb1 : (k : Int) ≤ (c_b : Int) := by omega
        obtain ⟨P2, hP2⟩ : ∃ p, p = makeP s ((ss.map (mulP · 5)).take k) (([1, 2, 3] : List Int).take k) to ls := ⟨_, rfl⟩
        have HP2 := Lib.hid hP2
        clear hP2
        obtain ⟨ba, hba⟩ : ∃ v, v = ss.getD 0 0 := ⟨_, rfl⟩
        have htp := take_peel HSE.out HSS.out HSL.out hk1 hlt HLB.out HTO.out hba
        rw [← HP2.out] at htp
        have HMB := Lib.hid htp.1
        have HPP := Lib.hid htp.2
        have HBA := Lib.hid hba
        have hps := o_s.2.1.read.take_ (j := k) (by omega)
        have HPS := Lib.hid (fun w' (hb : Below wr.heap.size wr w') => hps.below hb hps.hi_le)
        have HTS := Lib.hid (fun w' (hb : Below wr.heap.size wr w') => (o_t.below hb o_t.2.1).read)
        have HN1 := Lib.hid (l3_take wr wr.heap.size k rfl hlt)
        have HN3 := Lib.hid (l3_take (wr.alloc (.cells #[.int .i64 0, .slice none 0 0, .int .i64 0, .slice none 0 0] 42)) (wr.heap.size + 1) k (by simp) hlt)
        have HD1 := Lib.hid (((Below.refl wr.heap.size wr).alloc (Nat.le_refl _) (.cells #[.int .i64 1, .int .i64 2, .int .i64 3] 3)).drew)
        have HD2 := Lib.hid ((((Below.refl wr.heap.size wr).alloc (Nat.le_refl _) (.cells #[.int .i64 1, .int .i64 2, .int .i64 3] 3)).alloc (by simp) (.cells #[.int .i64 0, .slice none 0 0, .int .i64 0, .slice none 0 0] 42)).drew)
        have HD3 := Lib.hid ((((Below.refl wr.heap.size wr).alloc (Nat.le_refl _) (.cells #[.int .i64 0, .slice none 0 0, .int .i64 0, .slice none 0 0] 42)).alloc (by simp) (.cells #[.int .i64 1, .int .i64 2, .int .i64 3] 3)).drew)
        have HX2 : Hid (BoxAt ((wr.alloc (.cells #[.int .i64 1, .int .i64 2, .int .i64 3] 3)).alloc (.cells #[.int .i64 0, .slice none 0 0, .int .i64 0, .slice none 0 0] 42)).drew (wr.heap.size + 1) #[.int .i64 0, .slice none 0 0, .int .i64 0, .slice none 0 0] 42) := Lib.hid (by have := BoxAt.new (wr.alloc (.cells #[.int .i64 1, .int .i64 2, .int .i64 3] 3)) #[.int .i64 0, .slice none 0 0, .int .i64 0, .slice none 0 0] 42; simp at this; exact this.drew)
        have HX3 : Hid (BoxAt ((wr.alloc (.cells #[.int .i64 0, .slice none 0 0, .int .i64 0, .slice none 0 0] 42)).alloc (.cells #[.int .i64 1, .int .i64 2, .int .i64 3] 3)).drew wr.heap.size #[.int .i64 0, .slice none 0 0, .int .i64 0, .slice none 0 0] 42) := Lib.hid (((BoxAt.new wr #[.int .i64 0, .slice none 0 0, .int .i64 0, .slice none 0 0] 42).alloc (.cells #[.int .i64 1, .int .i64 2, .int .i64 3] 3)).drew)
        have hszr := hnx.size
        clear hba htp hps
        go_wp2_with fail
        apply share9 (N := fun WF gb _ A3 n3 c3 A4 n4 c4 => NextOk wr WF gb #[.int .i64 P2.e, .slice A3 n3 c3, .int .i64 P2.t, .slice A4 n4 c4] 42 P2.h P2.b A3 n3 c3 A4 n4 c4)
        case h1 =>
          intro main
          go_region_held3 (fun w' => True)
            (exact trivial)
            ((go_at_call 40; first
              | ((with_reducible refine (packetMake_p s _ _ _ _ _ _ _ _ _ _ _ _ _ _ _ _ _ _ _ ((wr.alloc (.cells #[.int .i64 1, .int .i64 2, .int .i64 3] 3)).drew) P2 (HPS.out _ HD1.out) HN1.out.drew (HTS.out _ HD1.out) (by omega) (by omega) HP2.out).mono ?_); rintro e' w2 ⟨A3, n3, c3, A4, n4, c4, rfl, o3, hb3⟩; have hbd := HD1.out)
              | ((with_reducible refine (packetMake_p s _ _ _ _ _ _ _ _ _ _ _ _ _ _ _ _ _ _ _ ((wr.alloc (.cells #[.int .i64 1, .int .i64 2, .int .i64 3] 3)).alloc (.cells #[.int .i64 0, .slice none 0 0, .int .i64 0, .slice none 0 0] 42)).drew P2 (HPS.out _ HD2.out) (HN1.out.alloc _).drew (HTS.out _ HD2.out) (by omega) (by omega) HP2.out).mono ?_); rintro e' w2 ⟨A3, n3, c3, A4, n4, c4, rfl, o3, hb3⟩; have bx := HX2.out; have nx2 := next_set HD2.out hb3 o3 bx (show wr.heap.size ≤ wr.heap.size + 1 by omega) (.int .i64 P2.e) (.slice A3 n3 c3) (.int .i64 P2.t) (.slice A4 n4 c4); have bx2 := bx.below hb3 bx.hi_le; obtain ⟨z0, z1, z2, z3⟩ := bx2.four; have zf := bx2.frozen)
              | ((with_reducible refine (packetMake_p s _ _ _ _ _ _ _ _ _ _ _ _ _ _ _ _ _ _ _ ((wr.alloc (.cells #[.int .i64 0, .slice none 0 0, .int .i64 0, .slice none 0 0] 42)).alloc (.cells #[.int .i64 1, .int .i64 2, .int .i64 3] 3)).drew P2 (HPS.out _ HD3.out) HN3.out.drew (HTS.out _ HD3.out) (by omega) (by omega) HP2.out).mono ?_); rintro e' w2 ⟨A3, n3, c3, A4, n4, c4, rfl, o3, hb3⟩; have bx := HX3.out; have nx3 := next_set HD3.out hb3 o3 bx (Nat.le_refl _) (.int .i64 P2.e) (.slice A3 n3 c3) (.int .i64 P2.t) (.slice A4 n4 c4); have bx2 := bx.below hb3 bx.hi_le; obtain ⟨z0, z1, z2, z3⟩ := bx2.four; have zf := bx2.frozen)))
          all_goals (
            first
            | (have nx : NextOk wr (w2.alloc (.cells #[.int .i64 P2.e, .slice A3 n3 c3, .int .i64 P2.t, .slice A4 n4 c4] 42)) w2.heap.size #[.int .i64 P2.e, .slice A3 n3 c3, .int .i64 P2.t, .slice A4 n4 c4] 42 P2.h P2.b A3 n3 c3 A4 n4 c4 := next_done hbd hb3 o3 _
               generalize hgb : w2.heap.size = gb at nx ⊢
               generalize hWF : w2.alloc (.cells #[.int .i64 P2.e, .slice A3 n3 c3, .int .i64 P2.t, .slice A4 n4 c4] 42) = WF at nx ⊢
               generalize hgl : wr.heap.size = gl at ⊢
               exact main WF gb gl A3 n3 c3 A4 n4 c4 nx)
            | exact main _ _ wr.heap.size A3 n3 c3 A4 n4 c4 nx2
            | exact main _ _ (wr.heap.size + 1) A3 n3 c3 A4 n4 c4 nx3)
        case h2 =>
          intro WF gb gl A3 n3 c3 A4 n4 c4 nx
          obtain ⟨bx, hgb, tw, hbF⟩ := nx
          rw [HMB.out]
          have hzF := hbF.size
          obtain ⟨_, hv2, _⟩ := peelB_iff.1 HPP.out
          obtain ⟨_, _, hv9, _, hv6, _⟩ := validB_iff.1 hv2
          obtain ⟨rfl, rfl⟩ : n3 = 9 ∧ n4 = 6 := by have := tw.len; omega
          have hnF := hnx.trans (hbF.mono hnx.size)
          have osF := o_s.below hbF o_s.hi_le
          have boF := box_out.below hbF box_out.hi_le
          obtain ⟨ga, hAa, hga1, hga2, hca, _⟩ := osF.1.at_ (by omega)
          have ca := hca 0 (by omega)
          rw [← HBA.out] at ca
          subst hAa
          have hbaw : ga < WF.heap.size := Nat.lt_of_lt_of_le hga2 osF.hi_le
          obtain ⟨X, hX⟩ : ∃ x, x = peelL ba P2 := ⟨_, rfl⟩
          have hxv := peelL_valid HPP.out
          rw [← hX] at hxv
          have HXX := Lib.hid hX
          have HXV := Lib.hid hxv
          have hgbw : gb < WF.heap.size := bx.hi_le
          have k5 : ∀ w', Below WF.heap.size WF w' → w'.cell? ⟨ga, 0, none⟩ = some (.int .i64 ba) ∧ w'.cell? ⟨gb, 0, none⟩ = some (.int .i64 P2.e) ∧ w'.cell? ⟨gb, 1, none⟩ = some (.slice A3 9 c3) ∧ w'.cell? ⟨gb, 2, none⟩ = some (.int .i64 P2.t) ∧ w'.cell? ⟨gb, 3, none⟩ = some (.slice A4 6 c4) := fun w' hb =>
            ⟨(hb.cell (p := ⟨ga, 0, none⟩) hbaw).trans ca, (bx.below hb hgbw).four⟩
          have HK5 := Lib.hid k5
          have HE0 := Lib.hid ((Below.refl WF.heap.size WF).drew)
          have HE1 := Lib.hid (((Below.refl WF.heap.size WF).alloc (Nat.le_refl _) (.cells #[.int .i64 0, .int .i64 0, .int .i64 0, .slice none 0 0, .int .i64 0, .slice none 0 0] 46)).drew)
          have HT0 := Lib.hid tw.read.drew
          have HT1 := Lib.hid (tw.read.alloc (.cells #[.int .i64 0, .int .i64 0, .int .i64 0, .slice none 0 0, .int .i64 0, .slice none 0 0] 46)).drew
          obtain ⟨b0, b1, b2, b3⟩ := bx.four
          obtain ⟨f0, f1, f2, f3⟩ := boF.four
          clear k5 tw hX hxv hca hv2 hv9 hv6 bx boF o_s o_t box_out
          go_wp2_with fail
          apply share8 (N := fun WF2 gb2 A5 n5 c5 A6 n6 c6 => PeelOk WF WF2 gb2 X A5 n5 c5 A6 n6 c6)
          case h1 =>
            intro main
            go_region_held3 (fun w' => w'.cell? ⟨ga, 0, none⟩ = some (.int .i64 ba) ∧ w'.cell? ⟨gb, 0, none⟩ = some (.int .i64 P2.e) ∧ w'.cell? ⟨gb, 1, none⟩ = some (.slice A3 9 c3) ∧ w'.cell? ⟨gb, 2, none⟩ = some (.int .i64 P2.t) ∧ w'.cell? ⟨gb, 3, none⟩ = some (.slice A4 6 c4))
              (exact HK5.out _ (by first | with_reducible exact HE0.out | with_reducible exact HE1.out | with_reducible exact hB2 | with_reducible exact hB2.alloc hB2.size _ | with_reducible exact set6_below hB2 (Nat.le_refl _) _ _ _ _ _ _))
              ((go_at_call 26; refine (packetPeel_t ba P2.e P2.t A3 9 c3 A4 6 c4 _ _ P2.h P2.b _ (by first | with_reducible exact HT0.out | with_reducible exact HT1.out) X HPP.out HXX.out).mono ?_; rintro e' w2 ⟨A5, n5, c5, A6, n6, c6, rfl, o3, hb3⟩; have hB2 : Below WF.heap.size WF w2 := (by first | exact HE0.out.trans hb3 | exact HE1.out.trans (hb3.mono (by show WF.heap.size ≤ (WF.alloc _).heap.size; simp))); try (have bz : BoxAt w2 WF.heap.size #[.int .i64 0, .int .i64 0, .int .i64 0, .slice none 0 0, .int .i64 0, .slice none 0 0] 46 := ((BoxAt.new WF _ _).drew).below hb3 (by show _ < (WF.alloc _).heap.size; simp); obtain ⟨z0, z1, z2, z3, z4, z5⟩ := bz.six; have zf := bz.frozen)))
            all_goals (
              first
              | (have nx : PeelOk WF (w2.alloc (.cells #[.int .i64 X.kind, .int .i64 X.next, .int .i64 X.p.e, .slice A5 n5 c5, .int .i64 X.p.t, .slice A6 n6 c6] 46)) w2.heap.size X A5 n5 c5 A6 n6 c6 := peelBox_last hb3 o3
                 generalize hgb : w2.heap.size = gb2 at nx ⊢
                 generalize hWF : w2.alloc (.cells #[.int .i64 X.kind, .int .i64 X.next, .int .i64 X.p.e, .slice A5 n5 c5, .int .i64 X.p.t, .slice A6 n6 c6] 46) = WF2 at nx ⊢
                 exact main WF2 gb2 A5 n5 c5 A6 n6 c6 nx)
              | exact main _ WF.heap.size A5 n5 c5 A6 n6 c6 (peelBox_first hb3 o3))
          case h2 =>
            intro WF2 gb2 A5 n5 c5 A6 n6 c6 nx2
            obtain ⟨bx2, hgb2, tw2, hbF2⟩ := nx2
            have hnF2 := hnF.trans (hbF2.mono hnF.size)
            have hpv := packetValid_c X.p.e X.p.t _ _ _ _ _ _ _ _ _ _ _ tw2.read
            rw [show validB ⟨X.p.e, X.p.h, X.p.t, X.p.b⟩ = true from HXV.out] at hpv
            have HPV := Lib.hid hpv
            obtain ⟨m0, m1, m2, m3, m4, m5⟩ := bx2.six
            clear hpv tw2 bx2 b0 b1 b2 b3 f0 f1 f2 f3 ca
            go_wp2_with fail
            refine HPV.out.mono ?_
            rintro e' w9 ⟨rfl, h9⟩
            have hnF3 := hnF2.trans (h9.mono hnF2.size)
            clear m0 m1 m2 m3 m4 m5 h9
            go_wp2_with fail
            go_roundw
            case rel => exact ⟨k + 1, by omega, by omega, by go_num, hnF3⟩
            case measure => simp [intOf]; omega
      · have hki : ¬ (k : Int) ≤ 3 := by omega
        obtain ⟨f0, f1, f2, f3⟩ := box_out.four
        go_wp2_with fail
        go_ret
        exact ⟨ret_b (by first | rfl | simp), hB⟩
end Go.Proofs.Ytbkecimhbibnjaa
