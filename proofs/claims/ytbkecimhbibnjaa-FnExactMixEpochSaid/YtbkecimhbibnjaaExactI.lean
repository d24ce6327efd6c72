/-
  The walk of the statement that the program's new epochs are the reference's.
  Conditions: a slice among the arguments reads as a list of whole numbers.
-/
import Derived.Test.YtbkecimhbibnjaaMixU
import Derived.Test.YtbkecimhbibnjaaMixS
import Derived.Test.YtbkecimhbibnjaaMixE
import Derived.Test.YtbkecimhbibnjaaMixC
import Derived.Test.YtbkecimhbibnjaaMixM
import Derived.Test.YtbkecimhbibnjaaOpenM
namespace Go.Proofs.Ytbkecimhbibnjaa
open Go Go.RowKit

/-- What an epoch leaves, taken apart. -/
def EpR (s : Int) (seen : List Int) (pl : List Peel) (sec RS : Int) (RQ : List Int) (RP : List Peel) (OKV : Bool) : Prop :=
  (epochP ⟨s, seen, pl⟩ sec).secret = RS ∧ (epochP ⟨s, seen, pl⟩ sec).seen = RQ ∧ (epochP ⟨s, seen, pl⟩ sec).pool = RP ∧ epochB ⟨s, seen, pl⟩ sec = OKV
theorem epoch_bd {s sec : Int} {seen : List Int} {pl : List Peel} {N : Nat} (h1 : seen.length ≤ N) (h2 : pl.length ≤ N) (h3 : PlB N pl) :
    (epochP ⟨s, seen, pl⟩ sec).seen.length ≤ N ∧ (epochP ⟨s, seen, pl⟩ sec).pool.length ≤ N ∧ PlB N (epochP ⟨s, seen, pl⟩ sec).pool := by
  unfold epochP
  split
  · split
    · exact ⟨h1, h2, h3⟩
    · exact ⟨Nat.zero_le _, h2, h3⟩
  · exact ⟨Nat.zero_le _, Nat.zero_le _, fun x hx => by cases hx⟩
theorem epoch_open (s sec : Int) {seen : List Int} {pl : List Peel} {N : Nat} (h1 : seen.length ≤ N) (h2 : pl.length ≤ N) (h3 : PlB N pl) :
    ∃ RS RQ RP OKV, EpR s seen pl sec RS RQ RP OKV ∧ RQ.length ≤ N ∧ RP.length ≤ N ∧ PlB N RP := by
  obtain ⟨k1, k2, k3⟩ := epoch_bd (s := s) (sec := sec) h1 h2 h3
  exact ⟨_, _, _, _, ⟨rfl, rfl, rfl, rfl⟩, k1, k2, k3⟩
theorem mixEpoch_p (s : Int) (A : Option Addr) (n c : Nat) (A2 : Option Addr) (n2 c2 lo hi : Nat) (seen : List Int) (pl : List Peel) (sec : Int) (w : World) (RS : Int) (RQ : List Int) (RP : List Peel) (OKV : Bool) (hs : MixR w lo hi seen pl A n c A2 n2 c2) (hn : n ≤ 4194304) (hn2 : n2 ≤ 4194304) (hpl : PlB 4194304 pl) (hR : EpR s seen pl sec RS RQ RP OKV) : Calls Try.prog 16 #[.agg #[.int .i64 s, .slice A n c, .slice A2 n2 c2], .int .i64 sec] w (NewMixB RS RQ RP OKV w) := by
  obtain ⟨rfl, rfl, rfl, rfl⟩ := hR
  exact mixEpoch_c s A n c A2 n2 c2 lo hi seen pl sec w hs hn hn2 hpl
theorem sMixEpoch_p (s : Int) (A : Option Addr) (n c : Nat) (A2 : Option Addr) (n2 c2 lo hi : Nat) (seen : List Int) (pl : List Peel) (sec : Int) (w : World) (RS : Int) (RQ : List Int) (RP : List Peel) (OKV : Bool) (hs : MixR w lo hi seen pl A n c A2 n2 c2) (hn : n ≤ 4194304) (hn2 : n2 ≤ 4194304) (hpl : PlB 4194304 pl) (hR : EpR s seen pl sec RS RQ RP OKV) : Calls Try.prog 17 #[.agg #[.int .i64 s, .slice A n c, .slice A2 n2 c2], .int .i64 sec] w (NewMixB RS RQ RP OKV w) := by
  obtain ⟨rfl, rfl, rfl, rfl⟩ := hR
  exact sMixEpoch_c s A n c A2 n2 c2 lo hi seen pl sec w hs hn hn2 hpl
theorem markMix_p (a s : Int) (A : Option Addr) (n c : Nat) (A2 : Option Addr) (n2 c2 lo hi : Nat) (seen : List Int) (pl : List Peel) (w : World) (E : Int) (hs : MixO w lo hi seen pl A n c A2 n2 c2) (hn : n ≤ 1048576) (hn2 : n2 ≤ 1048576) (hpl : PlB 1048576 pl) (ha : 0 ≤ a ∧ a ≤ 100) (hE : endPl (a + (n : Int)) pl = E) : Calls Try.prog 37 #[.agg #[.int .i64 s, .slice A n c, .slice A2 n2 c2], .int .i64 a] w fun e w' => e = .returned (.int .i64 E) ∧ MixO w' lo hi (marks a n) (markL (a + (n : Int)) pl n2) A n c A2 n2 c2 ∧ Only lo hi w w' := by
  subst hE
  exact markMix_c a s A n c A2 n2 c2 lo hi seen pl w hs hn hn2 hpl ha
theorem heldMix_p (a s : Int) (A : Option Addr) (n c : Nat) (A2 : Option Addr) (n2 c2 lo hi : Nat) (pl : List Peel) (w : World) (E : Int) (hs : MixR w lo hi (marks a n) (markL (a + (n : Int)) pl n2) A n c A2 n2 c2) (hl : pl.length = n2) (hn : n ≤ 1048576) (hn2 : n2 ≤ 1048576) (hpl : PlB 1048576 pl) (ha : 0 ≤ a ∧ a ≤ 100) (hE : endPl (a + (n : Int)) pl = E) : Calls Try.prog 38 #[.agg #[.int .i64 s, .slice A n c, .slice A2 n2 c2], .int .i64 a] w fun e w' => e = .returned (.int .i64 E) ∧ Below w.heap.size w w' := by
  subst hE
  exact heldMix_c a s A n c A2 n2 c2 lo hi pl w hs hl hn hn2 hpl ha
theorem end_open {n : Nat} {pl : List Peel} (hb : PlB 1048576 pl) : ∃ E, endPl (1 + (n : Int)) pl = E ∧ 0 ≤ E := ⟨_, rfl, by have := (endPl_le (a := 1 + (n : Int)) hb).1; omega⟩
set_option maxRecDepth 100000 in
set_option maxHeartbeats 6400000 in
theorem wFnExactMixEpoch (s : Int) (A : Option Addr) (n c : Nat) (A2 : Option Addr) (n2 c2 : Nat) (seen : List Int) (pl : List Peel) (sec : Int) (w : World) (hs : MixR w 0 w.heap.size seen pl A n c A2 n2 c2) (hc : c ≤ 9223372036854775807) (hc2 : c2 ≤ 9223372036854775807) (hcap : ∀ x ∈ pl, x.p.h.length ≤ 9223372036854775807 ∧ x.p.b.length ≤ 9223372036854775807) : Calls Try.prog 13 #[.agg #[.int .i64 s, .slice A n c, .slice A2 n2 c2], .int .i64 sec] w fun e w' => e = .returned (.bool true) ∧ Below w.heap.size w w' := by
  go_enter Try.func13, Try.ntmps13
  have box_a := BoxAt.new w #[.int .i64 s, .slice A n c, .slice A2 n2 c2] 37
  have hB := (Below.refl w.heap.size w).alloc (Nat.le_refl _) (.cells #[.int .i64 s, .slice A n c, .slice A2 n2 c2] 37)
  replace hs := hs.alloc (.cells #[.int .i64 s, .slice A n c, .slice A2 n2 c2] 37)
  obtain ⟨s_a1, s_a2⟩ := alloc_size w (.cells #[.int .i64 s, .slice A n c, .slice A2 n2 c2] 37)
  have hnc := hs.2.2
  obtain ⟨q_a0, q_a1, q_a2⟩ := box_a.three
  go_wp2_with fail
  refine (szMix_c s A n c A2 n2 c2 _ _ pl _ hs.2.1 (by omega) (by omega) hcap).mono ?_
  rintro e w_1 ⟨r, rfl, hr, h_1⟩
  clear q_a0 q_a1 q_a2
  have z_1 := h_1.size
  replace hs := hs.below h_1 hs.hi_le
  replace box_a := box_a.below h_1 box_a.hi_le
  replace hB := hB.trans (h_1.mono hB.size)
  have HR := Lib.hid hr
  clear hr
  by_cases hneg : r < 0
  · go_wp2_with fail
    go_ret
    exact ⟨rfl, hB⟩
  obtain ⟨hn20, hn20', hpb⟩ := HR.out (by omega)
  have HPB := Lib.hid (show PlB 4194304 pl from fun x hx => by have := hpb x hx; omega)
  have HPB1 := Lib.hid (show PlB 1048576 pl from hpb)

  have hl0 := hs.len
  obtain ⟨RS, RQ, RP, OKV, hR, hrq, hrp, hrb⟩ := epoch_open s sec (seen := seen) (pl := pl) (N := 1048576) (by omega) (by omega) HPB1.out
  have HR4 := Lib.hid hR
  have HRB1 := Lib.hid hrb
  have HRB := Lib.hid (show PlB 4194304 RP from fun x hx => by have := hrb x hx; omega)
  clear hpb hR hrb hl0
  obtain ⟨q_a0, q_a1, q_a2⟩ := box_a.three
  go_wp2_with fail
  refine (toMix_c _ _ _ _ _ _ _ _ _ _ _ _ hs hn20 hn20' HPB.out).mono ?_
  rintro e w_2 ⟨A_v, n_v, c_v, A_v', n_v', c_v', rfl, o_v, h_2⟩
  clear q_a0 q_a1 q_a2
  have z_2 := h_2.size
  replace hs := hs.below h_2 hs.hi_le
  replace box_a := box_a.below h_2 box_a.hi_le
  replace hB := hB.trans (h_2.mono hB.size)
  have b_v : n_v ≤ 1048576 ∧ n_v' ≤ 1048576 := by have h1 := o_v.len; have h2 := hs.len; omega
  go_wp2_with fail
  refine (sMixEpoch_p _ _ _ _ _ _ _ _ _ _ _ _ _ _ _ _ _ o_v.read (by omega) (by omega) HPB.out HR4.out).mono ?_
  rintro e w_3 ⟨A_w, n_w, c_w, A_w', n_w', c_w', rfl, o_w, h_3⟩
  have z_3 := h_3.size
  replace hs := hs.below h_3 hs.hi_le
  replace box_a := box_a.below h_3 box_a.hi_le
  replace o_v := o_v.below h_3 o_v.hi_le
  replace hB := hB.trans (h_3.mono hB.size)
  have b_w : n_w ≤ 1048576 ∧ n_w' ≤ 1048576 := by have h1 := o_w.len; omega
  replace hs := hs.alloc (.cells #[.int .i64 RS, .slice A_w n_w c_w, .slice A_w' n_w' c_w'] 26)
  replace box_a := box_a.alloc (.cells #[.int .i64 RS, .slice A_w n_w c_w, .slice A_w' n_w' c_w'] 26)
  replace o_v := o_v.alloc (.cells #[.int .i64 RS, .slice A_w n_w c_w, .slice A_w' n_w' c_w'] 26)
  replace o_w := o_w.alloc (.cells #[.int .i64 RS, .slice A_w n_w c_w, .slice A_w' n_w' c_w'] 26)
  replace hB := hB.alloc hB.size (.cells #[.int .i64 RS, .slice A_w n_w c_w, .slice A_w' n_w' c_w'] 26)
  have box_w := BoxAt.new w_3 #[.int .i64 RS, .slice A_w n_w c_w, .slice A_w' n_w' c_w'] 26
  obtain ⟨s_w1, s_w2⟩ := alloc_size w_3 (.cells #[.int .i64 RS, .slice A_w n_w c_w, .slice A_w' n_w' c_w'] 26)
  obtain ⟨q_a0, q_a1, q_a2⟩ := box_a.three
  go_wp2_with fail
  refine (toMix_c _ _ _ _ _ _ _ _ _ _ _ _ hs hn20 hn20' HPB.out).mono ?_
  rintro e w_4 ⟨A_x, n_x, c_x, A_x', n_x', c_x', rfl, o_x, h_4⟩
  clear q_a0 q_a1 q_a2
  have z_4 := h_4.size
  replace hs := hs.below h_4 hs.hi_le
  replace box_a := box_a.below h_4 box_a.hi_le
  replace o_v := o_v.below h_4 o_v.hi_le
  replace o_w := o_w.below h_4 o_w.hi_le
  replace box_w := box_w.below h_4 box_w.hi_le
  replace hB := hB.trans (h_4.mono hB.size)
  have b_x : n_x ≤ 1048576 ∧ n_x' ≤ 1048576 := by have h1 := o_x.len; have h2 := hs.len; omega
  replace hs := hs.alloc (.cells #[.int .i64 s, .slice A_x n_x c_x, .slice A_x' n_x' c_x'] 26)
  replace box_a := box_a.alloc (.cells #[.int .i64 s, .slice A_x n_x c_x, .slice A_x' n_x' c_x'] 26)
  replace o_v := o_v.alloc (.cells #[.int .i64 s, .slice A_x n_x c_x, .slice A_x' n_x' c_x'] 26)
  replace o_w := o_w.alloc (.cells #[.int .i64 s, .slice A_x n_x c_x, .slice A_x' n_x' c_x'] 26)
  replace box_w := box_w.alloc (.cells #[.int .i64 s, .slice A_x n_x c_x, .slice A_x' n_x' c_x'] 26)
  replace o_x := o_x.alloc (.cells #[.int .i64 s, .slice A_x n_x c_x, .slice A_x' n_x' c_x'] 26)
  replace hB := hB.alloc hB.size (.cells #[.int .i64 s, .slice A_x n_x c_x, .slice A_x' n_x' c_x'] 26)
  have box_x := BoxAt.new w_4 #[.int .i64 s, .slice A_x n_x c_x, .slice A_x' n_x' c_x'] 26
  obtain ⟨s_x1, s_x2⟩ := alloc_size w_4 (.cells #[.int .i64 s, .slice A_x n_x c_x, .slice A_x' n_x' c_x'] 26)
  obtain ⟨q_x0, q_x1, q_x2⟩ := box_x.three
  go_wp2_with fail
  refine (mixEpoch_p _ _ _ _ _ _ _ _ _ _ _ _ _ _ _ _ _ o_x.read (by omega) (by omega) HPB.out HR4.out).mono ?_
  rintro e w_5 ⟨A_g, n_g, c_g, A_g', n_g', c_g', rfl, o_g, h_5⟩
  clear q_x0 q_x1 q_x2
  have z_5 := h_5.size
  replace hs := hs.below h_5 hs.hi_le
  replace box_a := box_a.below h_5 box_a.hi_le
  replace o_v := o_v.below h_5 o_v.hi_le
  replace o_w := o_w.below h_5 o_w.hi_le
  replace box_w := box_w.below h_5 box_w.hi_le
  replace o_x := o_x.below h_5 o_x.hi_le
  replace box_x := box_x.below h_5 box_x.hi_le
  replace hB := hB.trans (h_5.mono hB.size)
  have b_g : n_g ≤ 1048576 ∧ n_g' ≤ 1048576 := by have h1 := o_g.len; omega
  replace hs := hs.alloc (.cells #[.int .i64 RS, .slice A_g n_g c_g, .slice A_g' n_g' c_g'] 26)
  replace box_a := box_a.alloc (.cells #[.int .i64 RS, .slice A_g n_g c_g, .slice A_g' n_g' c_g'] 26)
  replace o_v := o_v.alloc (.cells #[.int .i64 RS, .slice A_g n_g c_g, .slice A_g' n_g' c_g'] 26)
  replace o_w := o_w.alloc (.cells #[.int .i64 RS, .slice A_g n_g c_g, .slice A_g' n_g' c_g'] 26)
  replace box_w := box_w.alloc (.cells #[.int .i64 RS, .slice A_g n_g c_g, .slice A_g' n_g' c_g'] 26)
  replace o_x := o_x.alloc (.cells #[.int .i64 RS, .slice A_g n_g c_g, .slice A_g' n_g' c_g'] 26)
  replace box_x := box_x.alloc (.cells #[.int .i64 RS, .slice A_g n_g c_g, .slice A_g' n_g' c_g'] 26)
  replace o_g := o_g.alloc (.cells #[.int .i64 RS, .slice A_g n_g c_g, .slice A_g' n_g' c_g'] 26)
  replace hB := hB.alloc hB.size (.cells #[.int .i64 RS, .slice A_g n_g c_g, .slice A_g' n_g' c_g'] 26)
  have box_g := BoxAt.new w_5 #[.int .i64 RS, .slice A_g n_g c_g, .slice A_g' n_g' c_g'] 26
  obtain ⟨s_g1, s_g2⟩ := alloc_size w_5 (.cells #[.int .i64 RS, .slice A_g n_g c_g, .slice A_g' n_g' c_g'] 26)
  have hlr : RP.length = n_g' := o_g.len.2
  obtain ⟨q_g0, q_g1, q_g2⟩ := box_g.three
  obtain ⟨q_w0, q_w1, q_w2⟩ := box_w.three
  go_wp2_with fail
  refine (eqMix_t _ _ _ _ _ _ _ _ _ _ _ _ _ _ _ _ _ _ _ _ o_g.read o_w.read (by omega) (by omega) HRB.out).mono ?_
  rintro e w_6 ⟨rfl, h_6⟩
  clear q_g0 q_g1 q_g2 q_w0 q_w1 q_w2
  have z_6 := h_6.size
  replace hs := hs.below h_6 hs.hi_le
  replace box_a := box_a.below h_6 box_a.hi_le
  replace o_v := o_v.below h_6 o_v.hi_le
  replace o_w := o_w.below h_6 o_w.hi_le
  replace box_w := box_w.below h_6 box_w.hi_le
  replace o_x := o_x.below h_6 o_x.hi_le
  replace box_x := box_x.below h_6 box_x.hi_le
  replace o_g := o_g.below h_6 o_g.hi_le
  replace box_g := box_g.below h_6 box_g.hi_le
  replace hB := hB.trans (h_6.mono hB.size)
  obtain ⟨q_x0, q_x1, q_x2⟩ := box_x.three
  obtain ⟨q_a0, q_a1, q_a2⟩ := box_a.three
  have hx_lt := box_x.hi_le
  have ha_lt := box_a.hi_le
  go_wp2_with fail
  go_region_held3 (fun w' => (w'.cell? ⟨w_4.heap.size, 0, none⟩ = some (.int .i64 s) ∧ w'.cell? ⟨w_4.heap.size, 1, none⟩ = some (.slice A_x n_x c_x) ∧ w'.cell? ⟨w_4.heap.size, 2, none⟩ = some (.slice A_x' n_x' c_x')) ∧ (w'.cell? ⟨w.heap.size, 0, none⟩ = some (.int .i64 s) ∧ w'.cell? ⟨w.heap.size, 1, none⟩ = some (.slice A n c) ∧ w'.cell? ⟨w.heap.size, 2, none⟩ = some (.slice A2 n2 c2)))
    (first
      | go_keep
      | exact ⟨((box_x.drew.below h_p hx_lt).below h_q (Nat.lt_of_lt_of_le hx_lt h_p.size)).three, ((box_a.drew.below h_p ha_lt).below h_q (Nat.lt_of_lt_of_le ha_lt h_p.size)).three⟩
      | exact ⟨(box_x.drew.below h_p hx_lt).three, (box_a.drew.below h_p ha_lt).three⟩)
    ((first
      | (go_at_call 23; refine (toMix_c _ _ _ _ _ _ _ _ _ _ _ _ hs.drew hn20 hn20' HPB.out).mono ?_; rintro e' w_p ⟨A_y, n_y, c_y, A_y', n_y', c_y', rfl, o_y, h_p⟩; have ox2 := o_x.drew.below h_p o_x.hi_le)
      | (go_at_call 24; refine (eqMix_t _ _ _ _ _ _ _ _ _ _ _ _ _ _ _ _ _ _ _ _ ox2.read o_y.read (by omega) (by omega) HPB.out).mono ?_; rintro e' w_q ⟨rfl, h_q⟩)))
  clear q_x0 q_x1 q_x2 q_a0 q_a1 q_a2
  have z_p : w_6.heap.size ≤ w_p.heap.size := h_p.size
  have z_q := h_q.size
  replace hs := (hs.drew.below h_p hs.hi_le).below h_q (by have := hs.hi_le; omega)
  replace box_a := (box_a.drew.below h_p box_a.hi_le).below h_q (by have := box_a.hi_le; omega)
  replace o_v := (o_v.drew.below h_p o_v.hi_le).below h_q (by have := o_v.hi_le; omega)
  replace o_w := (o_w.drew.below h_p o_w.hi_le).below h_q (by have := o_w.hi_le; omega)
  replace box_w := (box_w.drew.below h_p box_w.hi_le).below h_q (by have := box_w.hi_le; omega)
  replace o_x := (o_x.drew.below h_p o_x.hi_le).below h_q (by have := o_x.hi_le; omega)
  replace box_x := (box_x.drew.below h_p box_x.hi_le).below h_q (by have := box_x.hi_le; omega)
  replace o_g := (o_g.drew.below h_p o_g.hi_le).below h_q (by have := o_g.hi_le; omega)
  replace box_g := (box_g.drew.below h_p box_g.hi_le).below h_q (by have := box_g.hi_le; omega)
  replace hB := (hB.drew.trans (h_p.mono hB.size)).trans (h_q.mono (by have := hB.size; omega))
  clear h_p h_q o_y ox2 hx_lt ha_lt
  obtain ⟨E_x, hE_x, hE0_x⟩ := end_open (n := n_x) HPB1.out
  have HE_x := Lib.hid hE_x
  clear hE_x
  obtain ⟨q_x0, q_x1, q_x2⟩ := box_x.three
  go_wp2_with fail
  refine (markMix_p _ _ _ _ _ _ _ _ _ _ _ _ _ _ o_x (by omega) (by omega) HPB1.out (by omega) HE_x.out).mono ?_
  rintro e w_7 ⟨rfl, o_x', h_7⟩
  clear q_x0 q_x1 q_x2
  have z_7 := h_7.size
  replace hs := hs.only h_7 (by omega)
  replace box_a := box_a.only h_7 (by omega)
  replace o_v := o_v.only h_7 (by omega)
  replace o_w := o_w.only h_7 (by omega)
  replace box_w := box_w.only h_7 (by omega)
  replace box_x := box_x.only h_7 (by omega)
  replace o_g := o_g.only h_7 (by omega)
  replace box_g := box_g.only h_7 (by omega)
  replace hB := Below.only hB h_7 hB.size (by omega)
  clear o_x
  have o_x := o_x'
  clear o_x'
  obtain ⟨q_g0, q_g1, q_g2⟩ := box_g.three
  obtain ⟨q_w0, q_w1, q_w2⟩ := box_w.three
  go_wp2_with fail
  refine (eqMix_t _ _ _ _ _ _ _ _ _ _ _ _ _ _ _ _ _ _ _ _ o_g.read o_w.read (by omega) (by omega) HRB.out).mono ?_
  rintro e w_8 ⟨rfl, h_8⟩
  clear q_g0 q_g1 q_g2 q_w0 q_w1 q_w2
  have z_8 := h_8.size
  replace hs := hs.below h_8 hs.hi_le
  replace box_a := box_a.below h_8 box_a.hi_le
  replace o_v := o_v.below h_8 o_v.hi_le
  replace o_w := o_w.below h_8 o_w.hi_le
  replace box_w := box_w.below h_8 box_w.hi_le
  replace o_x := o_x.below h_8 o_x.hi_le
  replace box_x := box_x.below h_8 box_x.hi_le
  replace o_g := o_g.below h_8 o_g.hi_le
  replace box_g := box_g.below h_8 box_g.hi_le
  replace hB := hB.trans (h_8.mono hB.size)
  obtain ⟨E_g, hE_g, hE0_g⟩ := end_open (n := n_g) HRB1.out
  have HE_g := Lib.hid hE_g
  clear hE_g
  obtain ⟨q_g0, q_g1, q_g2⟩ := box_g.three
  go_wp2_with fail
  refine (markMix_p _ _ _ _ _ _ _ _ _ _ _ _ _ _ o_g (by omega) (by omega) HRB1.out (by omega) HE_g.out).mono ?_
  rintro e w_9 ⟨rfl, o_g', h_9⟩
  clear q_g0 q_g1 q_g2
  have z_9 := h_9.size
  replace hs := hs.only h_9 (by omega)
  replace box_a := box_a.only h_9 (by omega)
  replace o_v := o_v.only h_9 (by omega)
  replace o_w := o_w.only h_9 (by omega)
  replace box_w := box_w.only h_9 (by omega)
  replace o_x := o_x.only h_9 (by omega)
  replace box_x := box_x.only h_9 (by omega)
  replace box_g := box_g.only h_9 (by omega)
  replace hB := Below.only hB h_9 hB.size (by omega)
  clear o_g
  have o_g := o_g'
  clear o_g'
  obtain ⟨q_g0, q_g1, q_g2⟩ := box_g.three
  go_wp2_with fail
  refine (heldMix_p _ _ _ _ _ _ _ _ _ _ _ _ _ o_g.read hlr (by omega) (by omega) HRB1.out (by omega) HE_g.out).mono ?_
  rintro e w_10 ⟨rfl, h_10⟩
  clear q_g0 q_g1 q_g2
  have z_10 := h_10.size
  replace hs := hs.below h_10 hs.hi_le
  replace box_a := box_a.below h_10 box_a.hi_le
  replace o_v := o_v.below h_10 o_v.hi_le
  replace o_w := o_w.below h_10 o_w.hi_le
  replace box_w := box_w.below h_10 box_w.hi_le
  replace o_x := o_x.below h_10 o_x.hi_le
  replace box_x := box_x.below h_10 box_x.hi_le
  replace o_g := o_g.below h_10 o_g.hi_le
  replace box_g := box_g.below h_10 box_g.hi_le
  replace hB := hB.trans (h_10.mono hB.size)
  obtain ⟨q_a0, q_a1, q_a2⟩ := box_a.three
  go_wp2_with fail
  refine (toMix_c _ _ _ _ _ _ _ _ _ _ _ _ hs hn20 hn20' HPB.out).mono ?_
  rintro e w_11 ⟨A_y, n_y, c_y, A_y', n_y', c_y', rfl, o_y, h_11⟩
  clear q_a0 q_a1 q_a2
  have z_11 := h_11.size
  replace hs := hs.below h_11 hs.hi_le
  replace box_a := box_a.below h_11 box_a.hi_le
  replace o_v := o_v.below h_11 o_v.hi_le
  replace o_w := o_w.below h_11 o_w.hi_le
  replace box_w := box_w.below h_11 box_w.hi_le
  replace o_x := o_x.below h_11 o_x.hi_le
  replace box_x := box_x.below h_11 box_x.hi_le
  replace o_g := o_g.below h_11 o_g.hi_le
  replace box_g := box_g.below h_11 box_g.hi_le
  replace hB := hB.trans (h_11.mono hB.size)
  have b_y : n_y ≤ 1048576 ∧ n_y' ≤ 1048576 := by have h1 := o_y.len; have h2 := hs.len; omega
  go_wp2_with fail
  refine (mixEpoch_p _ _ _ _ _ _ _ _ _ _ _ _ _ _ _ _ _ o_y.read (by omega) (by omega) HPB.out HR4.out).mono ?_
  rintro e w_12 ⟨A_h, n_h, c_h, A_h', n_h', c_h', rfl, o_h, h_12⟩
  have z_12 := h_12.size
  replace hs := hs.below h_12 hs.hi_le
  replace box_a := box_a.below h_12 box_a.hi_le
  replace o_v := o_v.below h_12 o_v.hi_le
  replace o_w := o_w.below h_12 o_w.hi_le
  replace box_w := box_w.below h_12 box_w.hi_le
  replace o_x := o_x.below h_12 o_x.hi_le
  replace box_x := box_x.below h_12 box_x.hi_le
  replace o_g := o_g.below h_12 o_g.hi_le
  replace box_g := box_g.below h_12 box_g.hi_le
  replace o_y := o_y.below h_12 o_y.hi_le
  replace hB := hB.trans (h_12.mono hB.size)
  have b_h : n_h ≤ 1048576 ∧ n_h' ≤ 1048576 := by have h1 := o_h.len; omega
  replace hs := hs.alloc (.cells #[.int .i64 RS, .slice A_h n_h c_h, .slice A_h' n_h' c_h'] 26)
  replace box_a := box_a.alloc (.cells #[.int .i64 RS, .slice A_h n_h c_h, .slice A_h' n_h' c_h'] 26)
  replace o_v := o_v.alloc (.cells #[.int .i64 RS, .slice A_h n_h c_h, .slice A_h' n_h' c_h'] 26)
  replace o_w := o_w.alloc (.cells #[.int .i64 RS, .slice A_h n_h c_h, .slice A_h' n_h' c_h'] 26)
  replace box_w := box_w.alloc (.cells #[.int .i64 RS, .slice A_h n_h c_h, .slice A_h' n_h' c_h'] 26)
  replace o_x := o_x.alloc (.cells #[.int .i64 RS, .slice A_h n_h c_h, .slice A_h' n_h' c_h'] 26)
  replace box_x := box_x.alloc (.cells #[.int .i64 RS, .slice A_h n_h c_h, .slice A_h' n_h' c_h'] 26)
  replace o_g := o_g.alloc (.cells #[.int .i64 RS, .slice A_h n_h c_h, .slice A_h' n_h' c_h'] 26)
  replace box_g := box_g.alloc (.cells #[.int .i64 RS, .slice A_h n_h c_h, .slice A_h' n_h' c_h'] 26)
  replace o_y := o_y.alloc (.cells #[.int .i64 RS, .slice A_h n_h c_h, .slice A_h' n_h' c_h'] 26)
  replace o_h := o_h.alloc (.cells #[.int .i64 RS, .slice A_h n_h c_h, .slice A_h' n_h' c_h'] 26)
  replace hB := hB.alloc hB.size (.cells #[.int .i64 RS, .slice A_h n_h c_h, .slice A_h' n_h' c_h'] 26)
  have box_h := BoxAt.new w_12 #[.int .i64 RS, .slice A_h n_h c_h, .slice A_h' n_h' c_h'] 26
  obtain ⟨s_h1, s_h2⟩ := alloc_size w_12 (.cells #[.int .i64 RS, .slice A_h n_h c_h, .slice A_h' n_h' c_h'] 26)
  obtain ⟨q_h0, q_h1, q_h2⟩ := box_h.three
  obtain ⟨q_w0, q_w1, q_w2⟩ := box_w.three
  go_wp2_with fail
  refine (eqMix_t _ _ _ _ _ _ _ _ _ _ _ _ _ _ _ _ _ _ _ _ o_h.read o_w.read (by omega) (by omega) HRB.out).mono ?_
  rintro e w_13 ⟨rfl, h_13⟩
  clear q_h0 q_h1 q_h2 q_w0 q_w1 q_w2
  have z_13 := h_13.size
  replace hs := hs.below h_13 hs.hi_le
  replace box_a := box_a.below h_13 box_a.hi_le
  replace o_v := o_v.below h_13 o_v.hi_le
  replace o_w := o_w.below h_13 o_w.hi_le
  replace box_w := box_w.below h_13 box_w.hi_le
  replace o_x := o_x.below h_13 o_x.hi_le
  replace box_x := box_x.below h_13 box_x.hi_le
  replace o_g := o_g.below h_13 o_g.hi_le
  replace box_g := box_g.below h_13 box_g.hi_le
  replace o_y := o_y.below h_13 o_y.hi_le
  replace o_h := o_h.below h_13 o_h.hi_le
  replace box_h := box_h.below h_13 box_h.hi_le
  replace hB := hB.trans (h_13.mono hB.size)
  obtain ⟨q_g0, q_g1, q_g2⟩ := box_g.three
  go_wp2_with fail
  refine (heldMix_p _ _ _ _ _ _ _ _ _ _ _ _ _ o_g.read hlr (by omega) (by omega) HRB1.out (by omega) HE_g.out).mono ?_
  rintro e w_14 ⟨rfl, h_14⟩
  clear q_g0 q_g1 q_g2
  have z_14 := h_14.size
  replace hs := hs.below h_14 hs.hi_le
  replace box_a := box_a.below h_14 box_a.hi_le
  replace o_v := o_v.below h_14 o_v.hi_le
  replace o_w := o_w.below h_14 o_w.hi_le
  replace box_w := box_w.below h_14 box_w.hi_le
  replace o_x := o_x.below h_14 o_x.hi_le
  replace box_x := box_x.below h_14 box_x.hi_le
  replace o_g := o_g.below h_14 o_g.hi_le
  replace box_g := box_g.below h_14 box_g.hi_le
  replace o_y := o_y.below h_14 o_y.hi_le
  replace o_h := o_h.below h_14 o_h.hi_le
  replace box_h := box_h.below h_14 box_h.hi_le
  replace hB := hB.trans (h_14.mono hB.size)
  go_wp2_with fail
  go_ret
  exact ⟨rfl, hB⟩
end Go.Proofs.Ytbkecimhbibnjaa
