/-
  The header of a path: contract of the program's function.
  Conditions: one to three keys, all elements, as many names, and a receiver in range.
-/
import Derived.Test.YtbkecimhbibnjaaFillS
import Derived.Test.YtbkecimhbibnjaaTwo
import Derived.IntWalk
namespace Go.Proofs.Ytbkecimhbibnjaa
open Go Go.RowKit

theorem drop_at {xs : List Int} {q : Nat} (h : q < xs.length) : xs.drop q = xs.getD q 0 :: xs.drop (q + 1) := by
  rw [List.drop_eq_getElem_cons h]; simp [List.getD_eq_getElem?_getD, h]
theorem hdr_last {fill : List Int} {to : Int} {keys names : List Int} {p : Nat} (h : keys.length = p + 1) : hdrL fill to (keys.drop p) (names.drop p) = onL ([1, to] ++ List.replicate (7 - fill.length) 0) (keys.getD p 0) ++ fill := by
  rw [drop_at (q := p) (by omega), List.drop_of_length_le (i := p + 1) (by omega)]
  exact hdrL_one _ _ _ _
theorem hdr_next {fill : List Int} {to : Int} {keys names : List Int} {q : Nat} (h : q + 1 < keys.length) (hn : names.length = keys.length) :
    hdrL fill to (keys.drop q) (names.drop q) = onL ([0, names.getD (q + 1) 0, tagL (keys.getD (q + 1) 0) (hdrL fill to (keys.drop (q + 1)) (names.drop (q + 1)))] ++ (hdrL fill to (keys.drop (q + 1)) (names.drop (q + 1))).take 6) (keys.getD q 0) := by
  rw [drop_at (xs := keys) (q := q) (by omega), drop_at (xs := names) (q := q) (by omega), drop_at (xs := keys) (q := q + 1) (by omega), drop_at (xs := names) (q := q + 1) (by omega)]
  exact hdrL_more _ _ _ _ _ _ _ _
theorem hdr_good {to : Int} {keys names : List Int} {m n : Nat} (hk : keys.length = n) (hn : names.length = n) (hm : m + 1 ≤ n) (h3 : n ≤ 3) :
    (hdrL (fillL keys) to (keys.drop m) (names.drop m)).length = 9 ∧ ∀ x ∈ hdrL (fillL keys) to (keys.drop m) (names.drop m), 0 ≤ x ∧ x ≤ 990 :=
  hdrL_good _ _ (by rw [fillL_len]; omega) (fillL_num _) _ _ (by simp; omega) (by simp; omega)
theorem plain_set {to : Int} {L : Nat} (h : 2 ≤ L) : ((List.replicate L (0 : Int)).set 0 1).set 1 to = [1, to] ++ List.replicate (L - 2) 0 := by
  obtain ⟨k, rfl⟩ : ∃ k, L = k + 2 := ⟨L - 2, by omega⟩
  simp [List.replicate_succ]
theorem plain_listB {to : Int} {L : Nat} (h : L ≤ 9) (hto : 0 ≤ to ∧ to ≤ 990) : listB ([1, to] ++ List.replicate (L - 2) 0) = true := by
  rw [listB_iff]
  refine ⟨by simp; omega, fun x hx => ?_⟩
  simp only [List.cons_append, List.nil_append, List.mem_cons, List.mem_replicate] at hx
  rcases hx with rfl | rfl | ⟨_, rfl⟩ <;> omega
theorem hdr_plain_listB {t nm : Int} {H : List Int} (hl : H.length = 9) (hH : ∀ x ∈ H, 0 ≤ x ∧ x ≤ 990) (ht : 0 ≤ t ∧ t ≤ 990) (hn : 0 ≤ nm ∧ nm ≤ 990) : listB ([0, nm, t] ++ H.take 6) = true := by
  rw [listB_iff]
  refine ⟨by simp; omega, fun x hx => ?_⟩
  simp only [List.cons_append, List.nil_append, List.mem_cons] at hx
  rcases hx with rfl | rfl | rfl | hx
  · omega
  · exact hn
  · exact ht
  · exact hH x (List.mem_of_mem_take hx)

/-- The header made so far, for the mixes from m on. -/
def HdrRel (keys names : List Int) (to : Int) (n : Nat) (w : World) (v i : Value) (wr : World) : Prop :=
  ∃ (m : Nat) (A : Option Addr) (c : Nat), m + 1 ≤ n ∧ i = .int .i64 ((m : Int) - 1) ∧ v = .slice A 9 c ∧ OwnR 3 wr w.heap.size wr.heap.size A 9 c (hdrL (fillL keys) to (keys.drop m) (names.drop m)) ∧ Below w.heap.size w wr

set_option maxRecDepth 100000 in
set_option maxHeartbeats 3200000 in
theorem headerOf_c (A : Option Addr) (n c lo hi : Nat) (keys : List Int) (A2 : Option Addr) (c2 lo2 hi2 : Nat) (names : List Int) (to : Int) (w : World) (hs : SlR .i64 w lo hi A n keys) (ht : SlR .i64 w lo2 hi2 A2 n names) (hnc : n ≤ c) (h1 : 1 ≤ n) (h3 : n ≤ 3) (hke : ∀ k ∈ keys, elB k = true) (hne : ∀ k ∈ names, nameB k = true) (hto : nameB to = true) :
    Calls Try.prog 85 #[.slice A n c, .slice A2 n c2, .int .i64 to] w (NewInts (hdrL (fillL keys) to keys names) w) := by
  obtain ⟨i0, hi0, hz0, hz1, hz2⟩ := info_parts Try.infoInt
  have hto2 := nameB_iff.1 hto
  obtain ⟨p, rfl⟩ : ∃ p, n = p + 1 := ⟨n - 1, by omega⟩
  have HL := Lib.hid hs.len
  have HL2 := Lib.hid ht.len
  have HE := Lib.hid hke
  have HN := Lib.hid hne
  have HF := Lib.hid (fillerOf_c A (p + 1) c lo hi keys w hs hnc h1 h3 hke)
  obtain ⟨b, o, rfl, _, hb2, _⟩ := hs.at_ (by omega)
  obtain ⟨bn, on, rfl, _, hbn2, _⟩ := ht.at_ (by omega)
  have hbw : b < w.heap.size := Nat.lt_of_lt_of_le hb2 hs.hi_le
  have hbnw : bn < w.heap.size := Nat.lt_of_lt_of_le hbn2 ht.hi_le
  have HS := Lib.hid hs
  have HT := Lib.hid ht
  clear hke hne hto hs ht
  go_enter Try.func85, Try.ntmps85
  go_wp2_with fail
  refine HF.out.mono ?_
  rintro e w1 ⟨Af, nf, cf, rfl, of, hb1⟩
  have hnf : nf = 3 * p := by have := of.len; rw [fillL_len, HL.out] at this; omega
  have hz1w := hb1.size
  obtain ⟨L, hL⟩ : ∃ L : Nat, L = 9 - nf := ⟨_, rfl⟩
  have hLi : (9 : Int) - (nf : Int) = (L : Int) := by omega
  have hL2 : 3 ≤ L ∧ L ≤ 9 := by omega
  have hmk := fun W => run_make_row' (P := Try.prog) 23 3 (.int .i64 0) 8 Try.underlying23 Try.infoInt rfl .i64 .i64 L (by omega) (by omega) W
  rw [← hLi] at hmk
  have HLL := Lib.hid hL
  have HNF := Lib.hid hnf
  have hnf6 : nf ≤ 6 := by omega
  clear hL hLi hnf
  obtain ⟨hL3, hL9⟩ := hL2
  have hcs : ∀ cs : Array Value, cs.size = L → ∀ j, j < L → (w1.alloc (.cells cs 3)).cell? ⟨w1.heap.size, j, none⟩ = cs[j]? := fun cs hc j hj => World.cell?_alloc_at _ _ _ _ rfl
  have hms : (madeCells #[Value.int .i64 0] L).size = L := by rw [← Array.length_toList, toList_madeCells_one]; simp
  have hc0 : (w1.alloc (.cells (madeCells #[Value.int .i64 0] L) 3)).cell? ⟨w1.heap.size, 0, none⟩ = some (.int .i64 0) := by
    rw [hcs _ hms 0 (by omega), ← Array.getElem?_toList, toList_madeCells_one, List.getElem?_replicate, if_pos (by omega)]
  have hc1 : (w1.alloc (.cells ((madeCells #[Value.int .i64 0] L).setIfInBounds 0 (.int .i64 1)) 3)).cell? ⟨w1.heap.size, 1, none⟩ = some (.int .i64 0) := by
    rw [hcs _ (by simp [hms]) 1 (by omega), ← Array.getElem?_toList, Array.toList_setIfInBounds, toList_madeCells_one, List.getElem?_set_ne (by omega), List.getElem?_replicate, if_pos (by omega)]
  have hpl := World.ownsRow_lit (base := w1.heap.size) (e := 3) (size := 1) w1 (((madeCells #[Value.int .i64 0] L).setIfInBounds 0 (.int .i64 1)).setIfInBounds 1 (.int .i64 to)) L (Nat.le_refl _) (by unfold maxLen; omega) (by simp [hms])
  have hple : (((madeCells #[Value.int .i64 0] L).setIfInBounds 0 (.int .i64 1)).setIfInBounds 1 (.int .i64 to)).toList = ints ([1, to] ++ List.replicate (L - 2) 0) := by
    rw [Array.toList_setIfInBounds, Array.toList_setIfInBounds, toList_madeCells_one, ← plain_set (by omega)]
    simp [ints, List.map_set]
  rw [hple] at hpl
  have opl := OwnR.of_owns hpl
  obtain ⟨v, hv⟩ : ∃ v, v = keys.getD p 0 := ⟨_, rfl⟩
  obtain ⟨_, _, hq, _, _, hcc⟩ := HS.out.at_ (by omega)
  injection hq with hq; injection hq with hq1 hq2; subst hq1 hq2
  have hck : w1.cell? ⟨b, o + p, none⟩ = some (.int .i64 v) := by rw [hv]; exact (hb1.cell (p := ⟨b, o + p, none⟩) hbw).trans (hcc p (by omega))
  have hbw1 : b < w1.heap.size := by omega
  have hve : elB v = true := by rw [hv]; exact HE.out _ (getD_mem (by rw [HL.out]; omega))
  have HV := Lib.hid hv
  have OP := Lib.hid opl
  have HB1 := Lib.hid hb1
  have HVE := Lib.hid hve
  clear hcs hms hpl hple opl hcc hv hb1 hve
  go_wp2_with fail
  have hsz1 := OP.out.hi_le
  have hon : onP ([1, to] ++ List.replicate (L - 2) 0) v = onL ([1, to] ++ List.replicate (L - 2) 0) v := if_pos ⟨plain_listB hL9 (by omega), HVE.out⟩
  refine (maskOn_c _ _ _ _ _ _ v _ OP.out.read).mono ?_
  rintro e w2 ⟨Am, nm, cm, rfl, om, hb2m⟩
  rw [hon] at om
  have hbW : Below w.heap.size w (w1.alloc (.cells (((madeCells #[Value.int .i64 0] L).setIfInBounds 0 (.int .i64 1)).setIfInBounds 1 (.int .i64 to)) 3)) := HB1.out.alloc hz1w _
  have hb2w := hbW.trans (hb2m.mono hbW.size)
  have hz2w := hb2w.size
  have hnm : nm = L := by have := om.len; rw [onL_len] at this; simp at this; omega
  have ofm := (of.alloc (.cells (((madeCells #[Value.int .i64 0] L).setIfInBounds 0 (.int .i64 1)).setIfInBounds 1 (.int .i64 to)) 3)).below hb2m (by simp)
  have hnn : nm + nf = 9 := by have := HLL.out; omega
  have hzz := hbW.size
  have hlo := hb2m.size
  clear hon hb2m hbW hnm of
  go_wp2_with (at_builtin; refine wpList_append_sl _ rfl _ _ 23 rfl _ 3 i0 Try.underlying23 hi0 hz0 hz1 hz2 _ nm _ rfl om.1 _ _ nf cf Af (fillL keys) rfl ofm.read (by omega) (by omega) ?_)
  intro v3 w3 hown3 hg3 hat3
  obtain ⟨A3, c3, rfl⟩ := owns_shape hown3
  have hh3 : ints (onL ([1, to] ++ List.replicate (L - 2) 0) v) ++ ints (fillL keys) = ints (hdrL (fillL keys) to (keys.drop p) (names.drop p)) := by
    rw [hdr_last HL.out, ← HV.out, fillL_len, HL.out, show 7 - 3 * (p + 1 - 1) = L - 2 by have := HLL.out; have := HNF.out; omega]
    simp [ints]
  have hx3 : w3.ownsRow (w1.heap.size + 1) 3 1 (.slice A3 9 c3) 9 (ints (hdrL (fillL keys) to (keys.drop p) (names.drop p))) := by
    rw [← hh3]
    exact hown3
  have o3 := (OwnR.of_owns hx3).wider (lo' := w.heap.size) (by omega) (Nat.le_refl _) (Nat.le_refl _)
  have hb3 : Below w.heap.size w w3 := hb2w.grown hg3 hz2w (fun g e => by have := (om.1.lt g e).1; omega)
  have O3 := Lib.hid o3
  have HB3 := Lib.hid hb3
  clear hown3 hg3 hat3 hh3 hx3 o3 hb3 hb2w om ofm hc0 hc1 hck hnn hnf6
  go_wp2_with fail
  go_loopw [10, 11] (fun v i wr => HdrRel keys names to (p + 1) w v i wr) (fun _ i _ => (intOf i + 1).toNat)
  case atStart => exact ⟨p, A3, c3, by omega, rfl, rfl, O3.out, HB3.out⟩
  case round =>
    obtain ⟨m, Ah, ch, hm, rfl, rfl, oh, hnx⟩ := hrel
    by_cases h0 : m = 0
    · subst h0
      have OH := Lib.hid oh
      have HNX := Lib.hid hnx
      clear oh hnx
      go_wp2_with fail
      go_ret
      exact ⟨_, _, _, rfl, OH.out, HNX.out⟩
    · obtain ⟨q, rfl⟩ : ∃ q, m = q + 1 := ⟨m - 1, by omega⟩
      have hq1 : ((q + 1 : Nat) : Int) - 1 = (q : Int) := by omega
      rw [hq1]
      have hgd := hdr_good (to := to) HL.out HL2.out (m := q + 1) hm h3
      have hst := hdr_next (fill := fillL keys) (to := to) (q := q) (by rw [HL.out]; omega) (HL2.out.trans HL.out.symm)
      obtain ⟨H, hH⟩ : ∃ H, H = hdrL (fillL keys) to (keys.drop (q + 1)) (names.drop (q + 1)) := ⟨_, rfl⟩
      rw [← hH] at hgd hst oh
      obtain ⟨v1, hv1⟩ : ∃ v, v = keys.getD (q + 1) 0 := ⟨_, rfl⟩
      obtain ⟨v0, hv0⟩ : ∃ v, v = keys.getD q 0 := ⟨_, rfl⟩
      obtain ⟨nx, hn1⟩ : ∃ v, v = names.getD (q + 1) 0 := ⟨_, rfl⟩
      rw [← hv1, ← hv0, ← hn1] at hst
      have hv1e : elB v1 = true := by rw [hv1]; exact HE.out _ (getD_mem (by rw [HL.out]; omega))
      have hv0e : elB v0 = true := by rw [hv0]; exact HE.out _ (getD_mem (by rw [HL.out]; omega))
      have hnxe := nameB_iff.1 (show nameB nx = true by rw [hn1]; exact HN.out _ (getD_mem (by rw [HL2.out]; omega)))
      have hHB : listB H = true := listB_iff.2 ⟨by rw [hgd.1]; omega, hgd.2⟩
      have htg : tagP v1 H = tagL v1 H := tagP_eq hv1e hHB
      have hpl2 := hdr_plain_listB (t := tagL v1 H) (nm := nx) hgd.1 hgd.2 (tagL_bd _ _) (by omega)
      obtain ⟨t1, ht1⟩ : ∃ t, t = tagL v1 H := ⟨_, rfl⟩
      rw [← ht1] at hpl2 htg hst
      have hon2 : onP ([0, nx, t1] ++ H.take 6) v0 = onL ([0, nx, t1] ++ H.take 6) v0 := if_pos ⟨hpl2, hv0e⟩
      obtain ⟨_, _, hq, _, _, hcc⟩ := HS.out.at_ (by omega)
      injection hq with hq; injection hq with hq1' hq2; subst hq1' hq2
      obtain ⟨_, _, hq, _, _, hcn⟩ := HT.out.at_ (by omega)
      injection hq with hq; injection hq with hq1' hq2; subst hq1' hq2
      have ck1 : wr.cell? ⟨b, o + (q + 1), none⟩ = some (.int .i64 v1) := by rw [hv1]; exact (hnx.cell (p := ⟨b, o + (q + 1), none⟩) hbw).trans (hcc (q + 1) (by omega))
      have ck0 : wr.cell? ⟨b, o + q, none⟩ = some (.int .i64 v0) := by rw [hv0]; exact (hnx.cell (p := ⟨b, o + q, none⟩) hbw).trans (hcc q (by omega))
      have cn1 : wr.cell? ⟨bn, on + (q + 1), none⟩ = some (.int .i64 nx) := by rw [hn1]; exact (hnx.cell (p := ⟨bn, on + (q + 1), none⟩) hbnw).trans (hcn (q + 1) (by omega))
      have hszr := hnx.size
      have hbwr : b < wr.heap.size := by omega
      have hbnwr : bn < wr.heap.size := by omega
      have hcap := oh.cap
      have ohr := oh.read
      obtain ⟨gh, rfl, hgh1, hgh2, _, _⟩ := oh.at_ (by omega)
      have hTG := Lib.hid (tagOf_c v1 (some ⟨gh, 0, none⟩) 9 ch _ _ H wr.drew ohr.drew)
      have hnews : ∀ j u, (ints (H.take 6))[j]? = some u → ((wr.alloc (.cells #[.int .i64 0, .int .i64 nx, .int .i64 t1] 3)).drew).cell? (Addr.add ⟨gh, 0, none⟩ j) = some u := by
        intro j u hu
        have hj : j < 6 := by
          have := (List.getElem?_eq_some_iff.1 hu).1
          simp [ints, hgd.1] at this
          omega
        obtain ⟨_, _, hq, _, _, hcx⟩ := (ohr.alloc (.cells #[.int .i64 0, .int .i64 nx, .int .i64 t1] 3)).drew.at_ (by omega)
        injection hq with hq; injection hq with hq1' hq2; subst hq1' hq2
        have hj9 : j < H.length := by rw [hgd.1]; omega
        rw [add_off, hcx j (by omega), ← hu]
        simp [ints, List.getD_eq_getElem?_getD, hj, hj9]
      have hnl : (ints (H.take 6)).length = 6 * 1 := by simp [ints, hgd.1]
      have hn1c : ∀ u ∈ ints (H.take 6), u.oneCell' = true := by intro u hu; simp only [ints, List.mem_map] at hu; obtain ⟨x, _, rfl⟩ := hu; rfl
      have hlit := (World.ownsRow_lit (base := wr.heap.size) (e := 3) (size := 1) wr #[.int .i64 0, .int .i64 nx, .int .i64 t1] 3 (Nat.le_refl _) (by unfold maxLen; omega) rfl).drew
      have hch : (6 : Int) ≤ (ch : Int) := by omega
      have hch6 : 6 ≤ ch := by omega
      have hqp : (q : Int) + 1 < (p : Int) + 1 := by omega
      have hq0 : (0 : Int) ≤ (q : Int) := Int.natCast_nonneg _
      have hqr : (0 : Int) ≤ (q : Int) + 1 := by omega
      have HM := Lib.hid hst
      have HON := Lib.hid hon2
      have HHD := Lib.hid hH
      have HTT := Lib.hid htg
      have HT1 := Lib.hid ht1
      have HPL := Lib.hid hpl2
      have HNW := Lib.hid hnews
      have HN1C := Lib.hid hn1c
      have HNL := Lib.hid hnl
      have HNX := Lib.hid hnx
      have HLIT := Lib.hid hlit
      clear hcc hcn hv1 hv0 hn1 hgd hst hon2 hH htg ht1 hpl2 hnews hnx oh ohr hv1e hv0e hHB hn1c hq1 hlit hnl hto2
      go_wp2_with fail
      have e1 : IntKind.i64.wrap ((q : Int) + 1) = (q : Int) + 1 := IntWalk.i64_in _ (by omega)
      have e2 : ((q : Int) + 1).toNat = q + 1 := by omega
      go_region_held3 (fun w' => w'.cell? ⟨b, o + (q + 1), none⟩ = some (.int .i64 v1) ∧ w'.cell? ⟨bn, on + (q + 1), none⟩ = some (.int .i64 nx))
        (first
          | go_keep
          | (go_split_ands
             refine ⟨?_, ?_⟩
             · (rw [hgrow.cell_far _ (by simp; omega) (by simp [Value.ownBlock]; omega)]; assumption)
             · (rw [hgrow.cell_far _ (by simp; omega) (by simp [Value.ownBlock]; omega)]; assumption)))
        ((first
          | (refine step_append_lies _ (by rfl) _ _ _ (by rfl) wr.heap.size 3 i0 _ 1 8 Try.underlying23 hi0 hz0 hz1 hz2 rfl (by omega) _ 3 _ (by rfl) HLIT.out ⟨gh, 0, none⟩ 6 ch (ints (H.take 6)) (by rfl) HNL.out HNW.out HN1C.out (by omega) (by unfold maxLen; omega) (by omega) (by simp) (wr.heap.size + 1) (by simp) ?_; intro gg cap w5 hown' hgrow hat hlt')
          | (go_at_call 74; refine hTG.out.mono ?_; rintro e w' ⟨rfl, rfl⟩; rw [HTT.out])))
      clear e1 e2
      have hB5 : Below wr.heap.size wr w5 := (((Below.refl _ _).alloc (Nat.le_refl _) _).drew).grown hgrow (by simp) (fun g e => by simp [Value.ownBlock] at e; omega)
      have ck5 : w5.cell? ⟨b, o + q, none⟩ = some (.int .i64 v0) := (hB5.cell (p := ⟨b, o + q, none⟩) hbwr).trans ck0
      have he5 : ints ([0, nx, t1] ++ H.take 6) = [.int .i64 0, .int .i64 nx, .int .i64 t1] ++ ints (H.take 6) := by simp [ints]
      have hx5 : w5.ownsRow wr.heap.size 3 1 (.slice (some ⟨gg, 0, none⟩) 9 cap) 9 (ints ([0, nx, t1] ++ H.take 6)) := by rw [he5]; exact hown'
      have o5 := OwnR.of_owns hx5
      have HB5 := Lib.hid hB5
      have O5 := Lib.hid o5
      have hz5 := hB5.size
      clear hgrow hown' hat hlt' hB5 he5 hx5 o5 ck0 ck1 cn1
      go_wp2_with fail
      refine (maskOn_c _ _ _ _ _ _ v0 _ O5.out.read).mono ?_
      rintro e w6 ⟨A6, n6, c6, rfl, o6, hb6⟩
      rw [HON.out, ← HM.out] at o6
      have hn6 : n6 = 9 := by have := o6.len; rw [(hdr_good (to := to) HL.out HL2.out (m := q) (by omega) h3).1] at this; omega
      subst hn6
      have hb6w := (HNX.out.trans (HB5.out.mono hszr)).trans (hb6.mono (by omega))
      have O6 := Lib.hid (o6.wider (lo' := w.heap.size) (by omega) (Nat.le_refl _) (Nat.le_refl _))
      have HB6 := Lib.hid hb6w
      clear o6 hb6 hb6w ck5
      go_wp2_with fail
      go_roundw
      case rel => exact ⟨q, _, _, by omega, rfl, rfl, O6.out, HB6.out⟩
      case measure => simp [intOf]
end Go.Proofs.Ytbkecimhbibnjaa
