/-
  Words and contracts, joined: Hdr, HdrS.
  No condition.
-/
import Derived.Test.YtoocjalhcliebaaBaseF
import Derived.Test.YtoocjalhcliebaaTwo
import Derived.IntWalk
namespace Go.Proofs.Ytoocjalhcliebaa
section
open Go Go.RowKit

theorem drop_at {xs : List Int} {q : Nat} (h : q < xs.length) : xs.drop q = xs.getD q 0 :: xs.drop (q + 1) := by
  rw [List.drop_eq_getElem_cons h]; simp [List.getD_eq_getElem?_getD, h]
theorem hdr_last {fill : List Int} {to : Int} {keys names : List Int} {p : Nat} (h : keys.length = p + 1) : hdrL fill to (keys.drop p) (names.drop p) = onL ([1, to] ++ List.replicate (7 - fill.length) 0) (keys.getD p 0) ++ fill := by
  rw [drop_at (q := p) (by omega), List.drop_of_length_le (i := p + 1) (by omega)]
  exact hdrL_one _ _ _ _
theorem hdr_next {fill : List Int} {to : Int} {keys names : List Int} {q : Nat} (h : q + 1 < keys.length) (hn : names.length = keys.length) :
    hdrL fill to (keys.drop q) (names.drop q) = onL ([0, names.getD (q + 1) 0, tagL (keys.getD (q + 1) 0) (hdrL fill to (keys.drop (q + 1)) (names.drop (q + 1)))] ++ (hdrL fill to (keys.drop (q + 1)) (names.drop (q + 1))).take 6) (keys.getD q 0) := by
  rw [drop_at (xs := keys) (q := q) (by omega), drop_at (xs := names) (q := q) (by omega), drop_at (xs := keys) (q := q + 1) (by omega), drop_at (xs := names) (q := q + 1) (by omega)]
  exact hdrL_more _ _ _ _ _ _ _ _
theorem hdr_good {to : Int} {keys names : List Int} {m n : Nat} (hk : keys.length = n) (hn : names.length = n) (hm : m + 1 ≤ n) (h3 : n ≤ 3) :
    (hdrL (fillL keys) to (keys.drop m) (names.drop m)).length = 9 ∧ ∀ x ∈ hdrL (fillL keys) to (keys.drop m) (names.drop m), 0 ≤ x ∧ x ≤ 990 :=
  hdrL_good _ _ (by rw [fillL_len]; omega) (fillL_num _) _ _ (by simp; omega) (by simp; omega)
theorem plain_set {to : Int} {L : Nat} (h : 2 ≤ L) : ((List.replicate L (0 : Int)).set 0 1).set 1 to = [1, to] ++ List.replicate (L - 2) 0 := by
  obtain ⟨k, rfl⟩ : ∃ k, L = k + 2 := ⟨L - 2, by omega⟩
  simp [List.replicate_succ]
theorem plain_listB {to : Int} {L : Nat} (h : L ≤ 9) (hto : 0 ≤ to ∧ to ≤ 990) : listB ([1, to] ++ List.replicate (L - 2) 0) = true := by
  rw [listB_iff]
  refine ⟨by simp; omega, fun x hx => ?_⟩
  simp only [List.cons_append, List.nil_append, List.mem_cons, List.mem_replicate] at hx
  rcases hx with rfl | rfl | ⟨_, rfl⟩ <;> omega
theorem hdr_plain_listB {t nm : Int} {H : List Int} (hl : H.length = 9) (hH : ∀ x ∈ H, 0 ≤ x ∧ x ≤ 990) (ht : 0 ≤ t ∧ t ≤ 990) (hn : 0 ≤ nm ∧ nm ≤ 990) : listB ([0, nm, t] ++ H.take 6) = true := by
  rw [listB_iff]
  refine ⟨by simp; omega, fun x hx => ?_⟩
  simp only [List.cons_append, List.nil_append, List.mem_cons] at hx
  rcases hx with rfl | rfl | rfl | hx
  · omega
  · exact hn
  · exact ht
  · exact hH x (List.mem_of_mem_take hx)

/-- The header made so far, for the mixes from m on. -/
def HdrRel (keys names : List Int) (to : Int) (n : Nat) (w : World) (v i : Value) (wr : World) : Prop :=
  ∃ (m : Nat) (A : Option Addr) (c : Nat), m + 1 ≤ n ∧ i = .int .i64 ((m : Int) - 1) ∧ v = .slice A 9 c ∧ OwnR 3 wr w.heap.size wr.heap.size A 9 c (hdrL (fillL keys) to (keys.drop m) (names.drop m)) ∧ Below w.heap.size w wr

end
section
open Go Go.RowKit

/-- A call that returns a new slice of whole numbers and a number. -/
def NewTag (xs : List Int) (t : Int) (w : World) (e : Ending) (w' : World) : Prop :=
  ∃ A n c, e = .returned (.tuple #[.slice A n c, .int .i64 t]) ∧ OwnR 3 w' w.heap.size w'.heap.size A n c xs ∧ Below w.heap.size w w'
/-- The last layer while zeros fill it. -/
def LastTo (to : Int) (j : Nat) : List Int := [1, to, 0] ++ List.replicate j 0
theorem LastTo_len (to : Int) (j : Nat) : (LastTo to j).length = 3 + j := by simp [LastTo]; omega
theorem LastTo_next (to : Int) (j : Nat) : LastTo to j ++ [0] = LastTo to (j + 1) := by simp [LastTo, List.replicate_succ']
theorem LastTo_all (to : Int) (L : Nat) (h : 3 ≤ L) : LastTo to (L - 3) = [1, to] ++ List.replicate (L - 2) 0 := by
  obtain ⟨k, rfl⟩ : ∃ k, L = k + 3 := ⟨L - 3, by omega⟩
  simp [LastTo, List.replicate_succ, show k + 3 - 2 = k + 1 by omega]
def LastRel (to : Int) (L : Nat) (B : Nat) (w : World) (v : Value) (wr : World) : Prop := ∃ (j : Nat) (A' : Option Addr) (c' : Nat), 3 + j ≤ L ∧ v = .slice A' (3 + j) c' ∧ wr.ownsRow B 3 1 (.slice A' (3 + j) c') (3 + j) (ints (LastTo to j)) ∧ Below B w wr
/-- The header and its tag made so far, for the mixes from m on. -/
def HdrTag (keys names : List Int) (to : Int) (n : Nat) (w : World) (v tv i : Value) (wr : World) : Prop :=
  ∃ (m : Nat) (A : Option Addr) (c : Nat), m + 1 ≤ n ∧ i = .int .i64 ((m : Int) - 1) ∧ v = .slice A 9 c ∧ tv = .int .i64 (tagL (keys.getD m 0) (hdrL (fillL keys) to (keys.drop m) (names.drop m))) ∧ OwnR 3 wr w.heap.size wr.heap.size A 9 c (hdrL (fillL keys) to (keys.drop m) (names.drop m)) ∧ Below w.heap.size w wr
theorem range_of {H : List Int} {n : Nat} (hl : H.length = n) (hH : ∀ x ∈ H, 0 ≤ x ∧ x ≤ 990) : ∀ i, i < n → 0 ≤ H.getD i 0 ∧ H.getD i 0 ≤ 990 := fun i hi => hH _ (getD_mem (by rw [hl]; exact hi))

set_option maxRecDepth 100000 in
set_option maxHeartbeats 3200000 in
theorem l5Header_c (A : Option Addr) (n c lo hi : Nat) (keys : List Int) (A2 : Option Addr) (c2 lo2 hi2 : Nat) (names : List Int) (to : Int) (w : World) (hs : SlR .i64 w lo hi A n keys) (ht : SlR .i64 w lo2 hi2 A2 n names) (h1 : 1 ≤ n) (h3 : n ≤ 3) (hke : ∀ k ∈ keys, elB k = true) (hne : ∀ k ∈ names, nameB k = true) (hto : nameB to = true) :
    Calls Try.prog 60 #[.slice A n c, .slice A2 n c2, .int .i64 to] w (NewTag (hdrL (fillL keys) to keys names) (tagL (keys.getD 0 0) (hdrL (fillL keys) to keys names)) w) := by
  obtain ⟨i0, hi0, hz0, hz1, hz2⟩ := info_parts Try.infoInt
  have hto2 := nameB_iff.1 hto
  obtain ⟨t0, ht0⟩ : ∃ t, t = tagL (keys.getD 0 0) (hdrL (fillL keys) to keys names) := ⟨_, rfl⟩
  rw [← ht0]
  have HT0 := Lib.hid ht0
  clear ht0
  obtain ⟨p, rfl⟩ : ∃ p, n = p + 1 := ⟨n - 1, by omega⟩
  have HL := Lib.hid hs.len
  have HL2 := Lib.hid ht.len
  have HE := Lib.hid hke
  have HN := Lib.hid hne
  have HF := Lib.hid (l5Filler_c A (p + 1) c lo hi keys w hs h1 h3 hke)
  obtain ⟨b, o, rfl, -, hb2, -⟩ := hs.at_ (by omega)
  obtain ⟨bn, on, rfl, -, hbn2, -⟩ := ht.at_ (by omega)
  have hbw : b < w.heap.size := Nat.lt_of_lt_of_le hb2 hs.hi_le
  have hbnw : bn < w.heap.size := Nat.lt_of_lt_of_le hbn2 ht.hi_le
  have HS := Lib.hid hs
  have HT := Lib.hid ht
  clear hke hne hto hs ht
  go_enter Try.func60, Try.ntmps60
  go_wp2_with fail
  refine HF.out.mono ?_
  rintro e w1 ⟨Af, nf, cf, rfl, of, hb1⟩
  have hnf : nf = 3 * p := by have := of.len; rw [fillL_len, HL.out] at this; omega
  have hz1w := hb1.size
  obtain ⟨L, hL⟩ : ∃ L : Nat, L = 9 - nf := ⟨_, rfl⟩
  have hL2 : 3 ≤ L ∧ L ≤ 9 := by omega
  have hnL : nf + L = 9 := by omega
  have HLL := Lib.hid hL
  have HNF := Lib.hid hnf
  have hnf6 : nf ≤ 6 := by omega
  have HB1 := Lib.hid hb1
  have OF := Lib.hid of
  have HNL := Lib.hid hnL
  have hlit := World.ownsRow_lit (base := w1.heap.size) (e := 3) (size := 1) w1 #[.int .i64 1, .int .i64 to, .int .i64 0] 3 (Nat.le_refl _) (by unfold maxLen; omega) rfl
  have HLIT := Lib.hid hlit
  clear hL hnf hb1 hlit of hnL
  obtain ⟨hL3, hL9⟩ := hL2
  go_wp2_with fail
  go_loopw [9] (fun v wr => LastRel to L w1.heap.size w1 v wr) (fun v _ => 9 - lenV v)
  case atStart => exact ⟨0, _, 3, by omega, rfl, HLIT.out, (Below.refl _ _).alloc (Nat.le_refl _) _⟩
  case round =>
    obtain ⟨j, A', c', hj, rfl, hown, hnx⟩ := hrel
    by_cases hlt : 3 + j < L
    · have hsz := hnx.size
      have hcond : 3 + (j : Int) + (nf : Int) < 9 := by have := HNL.out; omega
      have hj9 : j ≤ 9 := by omega
      go_wp2_with (at_builtin; refine wpList_append_own _ rfl _ _ 23 rfl w1.heap.size 3 i0 (.int .i64 0) 1 8 Try.underlying23 hi0 hz0 hz1 hz2 rfl (by decide) _ _ _ rfl (hown.alloc _) ⟨wr.heap.size, 0, none⟩ 1 1 [.int .i64 0] rfl rfl one_new one_cell (by unfold maxLen; omega) (by omega) (by simp; omega) ?_)
      intro v' w2 hown' hgrow hq
      clear hq
      have hnx1 := made_below hnx hgrow (Nat.le_refl _) hown
      obtain ⟨A3, c3, rfl⟩ := owns_shape hown'
      have hx3 : w2.ownsRow w1.heap.size 3 1 (.slice A3 (3 + (j + 1)) c3) (3 + (j + 1)) (ints (LastTo to (j + 1))) := by
        rw [← LastTo_next, ← ints_snoc]; exact hown'
      have HX := Lib.hid hx3
      have HNX := Lib.hid hnx1
      clear hown' hgrow hown hnx hx3 hnx1
      go_wp2_with fail
      go_roundw
      case rel => exact ⟨j + 1, A3, c3, by omega, rfl, HX.out, HNX.out⟩
      case measure => simp [lenV]; omega
    · have hjL : j = L - 3 := by omega
      have hcond : ¬ (3 + (j : Int) + (nf : Int) < 9) := by have := HNL.out; omega
      have hj9 : j ≤ 9 := by omega
      have hz2w := hnx.size
      have opl := OwnR.of_owns hown
      have hll : LastTo to j = [1, to] ++ List.replicate (L - 2) 0 := by rw [hjL]; exact LastTo_all to L hL3
      rw [hll] at opl
      obtain ⟨v, hv⟩ : ∃ v, v = keys.getD p 0 := ⟨_, rfl⟩
      obtain ⟨_, _, hq, -, -, hcc⟩ := HS.out.at_ (by omega)
      injection hq with hq; injection hq with hq1 hq2; subst hq1 hq2
      have hbr : Below w.heap.size w wr := HB1.out.trans (hnx.mono hz1w)
      have hck : wr.cell? ⟨b, o + p, none⟩ = some (.int .i64 v) := by rw [hv]; exact (hbr.cell (p := ⟨b, o + p, none⟩) hbw).trans (hcc p (by omega))
      have hve : elB v = true := by rw [hv]; exact HE.out _ (getD_mem (by rw [HL.out]; omega))
      have hj3 : 3 + j = L := by omega
      have hlb := plain_listB (to := to) hL9 (by omega)
      have HLB := Lib.hid hlb
      have HV := Lib.hid hv
      have OP := Lib.hid opl
      have HBR := Lib.hid hbr
      have HVE := Lib.hid hve
      have HJ3 := Lib.hid hj3
      have ofr := Lib.hid (OF.out.below hnx (Nat.le_refl _))
      have hlol : ([1, to] ++ List.replicate (L - 2) 0).length = 3 + j := by simp; omega
      have HLO := Lib.hid hlol
      clear hll opl hcc hv hbr hve hown hnx hjL hj3 hlb hlol
      go_wp2_with fail
      refine (l2On_c _ _ _ _ _ _ v _ OP.out.read (by omega) (fun i hi => listB_at HLB.out (by rw [HLO.out]; exact hi)) HVE.out).mono ?_
      rintro e w2 ⟨Am, nm, cm, rfl, om, hb2m⟩
      have hnm : nm = L := by have := om.len; rw [onL_len, HLO.out] at this; have := HJ3.out; omega
      have ofm := ofr.out.below hb2m ofr.out.hi_le
      have hnn : nm + nf = 9 := by have := HNL.out; omega
      have hzr := HBR.out.size
      have hlo := hb2m.size
      have hb2w := HBR.out.trans (hb2m.mono hzr)
      have hck2 : w2.cell? ⟨b, o + p, none⟩ = some (.int .i64 v) := (hb2m.cell (p := ⟨b, o + p, none⟩) (by exact Nat.lt_of_lt_of_le hbw hzr)).trans hck
      have HB2W := Lib.hid hb2w
      have HNN := Lib.hid hnn
      have OM := Lib.hid om
      have OFM := Lib.hid ofm
      clear hb2m hnm om ofm hnn hck hb2w
      go_wp2_with (at_builtin; refine wpList_append_sl _ rfl _ _ 23 rfl wr.heap.size 3 i0 Try.underlying23 hi0 hz0 hz1 hz2 _ nm _ rfl OM.out.1 _ _ nf cf Af (fillL keys) rfl OFM.out.read (by have := HNN.out; omega) (by omega) ?_; intro v3 w3 hown3 hg3 hat3; have hck3 := (hg3.cell_far ⟨b, o + p, none⟩ (by exact Nat.lt_of_lt_of_le hbw (by omega)) (fun e => by have := (OM.out.1.lt b e.symm).1; omega)).trans hck2)
      obtain ⟨A3, c3, rfl⟩ := owns_shape hown3
      have hh3 : ints (onL ([1, to] ++ List.replicate (L - 2) 0) v) ++ ints (fillL keys) = ints (hdrL (fillL keys) to (keys.drop p) (names.drop p)) := by
        rw [hdr_last HL.out, ← HV.out, fillL_len, HL.out, show 7 - 3 * (p + 1 - 1) = L - 2 by have := HLL.out; have := HNF.out; omega]
        simp [ints]
      have hx3 : w3.ownsRow wr.heap.size 3 1 (.slice A3 (nm + nf) c3) (nm + nf) (ints (hdrL (fillL keys) to (keys.drop p) (names.drop p))) := by
        rw [← hh3]
        exact hown3
      have hgd := hdr_good (to := to) HL.out HL2.out (m := p) (by omega) h3
      obtain ⟨H, hH⟩ : ∃ H, H = hdrL (fillL keys) to (keys.drop p) (names.drop p) := ⟨_, rfl⟩
      rw [← hH] at hx3 hgd
      have hve := elB_iff.1 HVE.out
      have o3 := (OwnR.of_owns hx3).wider (lo' := w.heap.size) hzr (Nat.le_refl _) (Nat.le_refl _)
      have hz2x := HB2W.out.size
      have hb3 : Below w.heap.size w w3 := HB2W.out.grown hg3 hz2x (fun g e => by have := (OM.out.1.lt g e).1; omega)
      have n9 : nm + nf ≤ 9 := by rw [HNN.out]; exact Nat.le_refl _
      have HTG := Lib.hid (l3Tag_c v A3 (nm + nf) c3 _ _ H w3 o3.read (by omega) (range_of (hgd.1.trans HNN.out.symm) hgd.2) (by omega))
      have O3 := Lib.hid o3
      have HB3 := Lib.hid hb3
      have HH := Lib.hid hH
      clear hown3 hg3 hat3 hh3 hx3 o3 hb3 hck2 hck3 hgd hH hve
      refine HTG.out.mono ?_
      rintro e w' ⟨rfl, rfl⟩
      go_wp2_with fail
      go_loopw [11, 12, 13] (fun v tv i wr => HdrTag keys names to (p + 1) w v tv i wr) (fun _ _ i _ => (intOf i + 1).toNat)
      case atStart =>
        have h9 := HNN.out
        refine ⟨p, A3, c3, by omega, rfl, by rw [h9], by rw [HV.out, HH.out], ?_, HB3.out⟩
        have o3 := O3.out
        rw [HH.out, h9] at o3
        exact o3
      case round =>
        obtain ⟨m, Ah, ch, hm, rfl, rfl, rfl, oh, hnx⟩ := hrel
        by_cases h0 : m = 0
        · subst h0
          have OH := Lib.hid oh
          have HNX := Lib.hid hnx
          clear oh hnx
          go_wp2_with fail
          go_ret2
          exact ⟨_, _, _, by rw [HT0.out]; rfl, OH.out, HNX.out⟩
        · obtain ⟨q, rfl⟩ : ∃ q, m = q + 1 := ⟨m - 1, by omega⟩
          have hq1 : ((q + 1 : Nat) : Int) - 1 = (q : Int) := by omega
          rw [hq1]
          have hgd := hdr_good (to := to) HL.out HL2.out (m := q + 1) hm h3
          have hgq := hdr_good (to := to) HL.out HL2.out (m := q) (by omega) h3
          have hst := hdr_next (fill := fillL keys) (to := to) (q := q) (by rw [HL.out]; omega) (HL2.out.trans HL.out.symm)
          obtain ⟨H, hH⟩ : ∃ H, H = hdrL (fillL keys) to (keys.drop (q + 1)) (names.drop (q + 1)) := ⟨_, rfl⟩
          rw [← hH] at hgd hst oh ⊢
          obtain ⟨v1, hv1⟩ : ∃ v, v = keys.getD (q + 1) 0 := ⟨_, rfl⟩
          obtain ⟨v0, hv0⟩ : ∃ v, v = keys.getD q 0 := ⟨_, rfl⟩
          obtain ⟨nx, hn1⟩ : ∃ v, v = names.getD (q + 1) 0 := ⟨_, rfl⟩
          rw [← hv1, ← hv0, ← hn1] at hst
          rw [← hv1]
          have hv0e : elB v0 = true := by rw [hv0]; exact HE.out _ (getD_mem (by rw [HL.out]; omega))
          have hv0b := elB_iff.1 hv0e
          have hnxe := nameB_iff.1 (show nameB nx = true by rw [hn1]; exact HN.out _ (getD_mem (by rw [HL2.out]; omega)))
          have hpl2 := hdr_plain_listB (t := tagL v1 H) (nm := nx) hgd.1 hgd.2 (tagL_bd _ _) (by omega)
          obtain ⟨t1, ht1⟩ : ∃ t, t = tagL v1 H := ⟨_, rfl⟩
          rw [← ht1] at hpl2 hst ⊢
          obtain ⟨_, _, hq, -, -, hcc⟩ := HS.out.at_ (by omega)
          injection hq with hq; injection hq with hq1' hq2; subst hq1' hq2
          obtain ⟨_, _, hq, -, -, hcn⟩ := HT.out.at_ (by omega)
          injection hq with hq; injection hq with hq1' hq2; subst hq1' hq2
          have ck0 : wr.cell? ⟨b, o + q, none⟩ = some (.int .i64 v0) := by rw [hv0]; exact (hnx.cell (p := ⟨b, o + q, none⟩) hbw).trans (hcc q (by omega))
          have cn1 : wr.cell? ⟨bn, on + (q + 1), none⟩ = some (.int .i64 nx) := by rw [hn1]; exact (hnx.cell (p := ⟨bn, on + (q + 1), none⟩) hbnw).trans (hcn (q + 1) (by omega))
          have hszr := hnx.size
          have hbwr : b < wr.heap.size := by omega
          have hbnwr : bn < wr.heap.size := by omega
          have hcap := oh.cap
          have ohr := oh.read
          obtain ⟨gh, rfl, hgh1, hgh2, -, -⟩ := oh.at_ (by omega)
          have hnews : ∀ j u, (ints (H.take 6))[j]? = some u → ((wr.alloc (.cells #[.int .i64 0, .int .i64 nx, .int .i64 t1] 3)).drew).cell? (Addr.add ⟨gh, 0, none⟩ j) = some u := by
            intro j u hu
            have hj : j < 6 := by
              have := (List.getElem?_eq_some_iff.1 hu).1
              simp [ints, hgd.1] at this
              omega
            obtain ⟨_, _, hq, _, _, hcx⟩ := (ohr.alloc (.cells #[.int .i64 0, .int .i64 nx, .int .i64 t1] 3)).drew.at_ (by omega)
            injection hq with hq; injection hq with hq1' hq2; subst hq1' hq2
            have hj9 : j < H.length := by rw [hgd.1]; omega
            rw [add_off, hcx j (by omega), ← hu]
            simp [ints, List.getD_eq_getElem?_getD, hj, hj9]
          have hnl : (ints (H.take 6)).length = 6 * 1 := by simp [ints, hgd.1]
          have hn1c : ∀ u ∈ ints (H.take 6), u.oneCell' = true := by intro u hu; simp only [ints, List.mem_map] at hu; obtain ⟨x, _, rfl⟩ := hu; rfl
          have hlit := (World.ownsRow_lit (base := wr.heap.size) (e := 3) (size := 1) wr #[.int .i64 0, .int .i64 nx, .int .i64 t1] 3 (Nat.le_refl _) (by unfold maxLen; omega) rfl).drew
          have hl9 : ([0, nx, t1] ++ H.take 6).length = 9 := by simp [hgd.1]
          have hch : (6 : Int) ≤ (ch : Int) := by omega
          have hch6 : 6 ≤ ch := by omega
          have hqp : (q : Int) + 1 < (p : Int) + 1 := by omega
          have hq0 : (0 : Int) ≤ (q : Int) := Int.natCast_nonneg _
          have hqr : (0 : Int) ≤ (q : Int) + 1 := by omega
          have HM := Lib.hid hst
          have HHD := Lib.hid hH
          have HT1 := Lib.hid ht1
          have HPL := Lib.hid hpl2
          have HNW := Lib.hid hnews
          have HN1C := Lib.hid hn1c
          have HNL2 := Lib.hid hnl
          have HNX := Lib.hid hnx
          have HLIT2 := Lib.hid hlit
          have HV0 := Lib.hid hv0
          have HV0E := Lib.hid hv0e
          have HL9 := Lib.hid hl9
          have HGQ := Lib.hid hgq
          clear hcc hcn hv1 hv0 hn1 hgd hst hH ht1 hpl2 hnews hnx oh ohr hv0e hn1c hq1 hlit hnl hto2 hl9 hgq
          go_wp2_with fail
          have e1 : IntKind.i64.wrap ((q : Int) + 1) = (q : Int) + 1 := IntWalk.i64_in _ (by omega)
          have e2 : ((q : Int) + 1).toNat = q + 1 := by omega
          go_region_held3 (fun w' => w'.cell? ⟨bn, on + (q + 1), none⟩ = some (.int .i64 nx))
            (first | go_keep | (rw [hgrow.cell_far _ (by simp; omega) (by simp [Value.ownBlock]; omega)]; assumption))
            ((refine step_append_lies _ (by rfl) _ _ _ (by rfl) wr.heap.size 3 i0 _ 1 8 Try.underlying23 hi0 hz0 hz1 hz2 rfl (by omega) _ 3 _ (by rfl) HLIT2.out ⟨gh, 0, none⟩ 6 ch (ints (H.take 6)) (by rfl) HNL2.out HNW.out HN1C.out (by omega) (by unfold maxLen; omega) (by omega) (by simp) (wr.heap.size + 1) (by simp) ?_; intro gg cap w5 hown' hgrow hat hlt'))
          clear e1 e2
          have hB5 : Below wr.heap.size wr w5 := (((Below.refl _ _).alloc (Nat.le_refl _) _).drew).grown hgrow (by simp) (fun g e => by simp [Value.ownBlock] at e; omega)
          have ck5 : w5.cell? ⟨b, o + q, none⟩ = some (.int .i64 v0) := (hB5.cell (p := ⟨b, o + q, none⟩) hbwr).trans ck0
          have he5 : ints ([0, nx, t1] ++ H.take 6) = [.int .i64 0, .int .i64 nx, .int .i64 t1] ++ ints (H.take 6) := by simp [ints]
          have hx5 : w5.ownsRow wr.heap.size 3 1 (.slice (some ⟨gg, 0, none⟩) 9 cap) 9 (ints ([0, nx, t1] ++ H.take 6)) := by rw [he5]; exact hown'
          have o5 := OwnR.of_owns hx5
          have HB5 := Lib.hid hB5
          have O5 := Lib.hid o5
          have hz5 := hB5.size
          have hb5 : b < w5.heap.size := by omega
          clear hgrow hown' hat hlt' hB5 he5 hx5 o5 ck0 cn1
          go_wp2_with fail
          refine (l2On_c _ _ _ _ _ _ v0 _ O5.out.read (by omega) (fun i hi => listB_at HPL.out (by rw [HL9.out]; exact hi)) HV0E.out).mono ?_
          rintro e w6 ⟨A6, n6, c6, rfl, o6, hb6⟩
          rw [← HM.out] at o6
          have hn6 : n6 = 9 := by have := o6.len; rw [HGQ.out.1] at this; omega
          subst hn6
          have hb6w := (HNX.out.trans (HB5.out.mono hszr)).trans (hb6.mono (by omega))
          have ck6 : w6.cell? ⟨b, o + q, none⟩ = some (.int .i64 v0) := (hb6.cell (p := ⟨b, o + q, none⟩) (by exact hb5)).trans ck5
          have o6w := o6.wider (lo' := w.heap.size) (by omega) (Nat.le_refl _) (Nat.le_refl _)
          have HTG6 := Lib.hid (l3Tag_c v0 A6 9 c6 _ _ _ w6 o6w.read (by omega) (range_of HGQ.out.1 HGQ.out.2) (by omega))
          have O6 := Lib.hid o6w
          have HB6 := Lib.hid hb6w
          clear o6 hb6 hb6w ck5 o6w
          go_wp2_with fail
          refine HTG6.out.mono ?_
          rintro e w' ⟨rfl, rfl⟩
          go_wp2_with fail
          go_roundw
          case rel => exact ⟨q, _, _, by omega, rfl, rfl, by rw [HV0.out], O6.out, HB6.out⟩
          case measure => simp [intOf]
end
end Go.Proofs.Ytoocjalhcliebaa
