/-
  Words and contracts, joined: Make, MakeS.
  No condition.
-/
import Derived.Test.YtoocjalhcliebaaBaseG
namespace Go.Proofs.Ytoocjalhcliebaa
section
open Go Go.RowKit

theorem makeP_no {s to : Int} {ps ns ls : List Int} (h : makeB s ps ns to ls = false) : makeP s ps ns to ls = zeroPkt := by simp [makeP, h]
theorem makeP_yes {s to : Int} {ps ns ls : List Int} (h : makeB s ps ns to ls = true) : makeP s ps ns to ls = makeL s ps ns to ls := by simp [makeP, h]
theorem NewPkt.zero {w w' : World} (hb : Below w.heap.size w w') : NewPkt zeroPkt false w (.returned (.tuple #[.agg #[.int .i64 0, .slice none 0 0, .int .i64 0, .slice none 0 0], .bool false])) w' :=
  ⟨_, _, _, _, _, _, rfl, TwoO.none_ (Nat.le_refl _), hb⟩
theorem set4_size (w : World) (rb : Nat) (x0 x1 x2 x3 : Value) : ((((w.setCell ⟨rb, 0, none⟩ x0).setCell ⟨rb, 1, none⟩ x1).setCell ⟨rb, 2, none⟩ x2).setCell ⟨rb, 3, none⟩ x3).heap.size = w.heap.size := by simp [World.setCell]
theorem set4_two {w : World} {rb lo lo1 hi1 lo2 hi2 n c n2 c2 : Nat} {A A2 : Option Addr} {h b : List Int} (oh : OwnR 3 w lo1 hi1 A n c h) (ob : OwnR 3 w lo2 hi2 A2 n2 c2 b) (hd : hi1 ≤ lo2 ∨ hi2 ≤ lo1) (h1 : rb < lo1) (h2 : rb < lo2) (hl1 : lo ≤ lo1) (hl2 : lo ≤ lo2) (x0 x1 x2 x3 : Value) :
    TwoO ((((w.setCell ⟨rb, 0, none⟩ x0).setCell ⟨rb, 1, none⟩ x1).setCell ⟨rb, 2, none⟩ x2).setCell ⟨rb, 3, none⟩ x3) lo ((((w.setCell ⟨rb, 0, none⟩ x0).setCell ⟨rb, 1, none⟩ x1).setCell ⟨rb, 2, none⟩ x2).setCell ⟨rb, 3, none⟩ x3).heap.size h b A n c A2 n2 c2 :=
  TwoO.of_two ((((oh.setCell (.inl h1) x0).setCell (.inl h1) x1).setCell (.inl h1) x2).setCell (.inl h1) x3) ((((ob.setCell (.inl h2) x0).setCell (.inl h2) x1).setCell (.inl h2) x2).setCell (.inl h2) x3) hd hl1 hl2
    (by rw [set4_size]; exact oh.2.1) (by rw [set4_size]; exact ob.2.1) (Nat.le_refl _)
theorem ne_tests {n m : Nat} (h : n ≠ m) : ((n : Int) == (m : Int)) = false ∧ ((n : Int) != (m : Int)) = true := by
  constructor <;> simp <;> omega

theorem masksL_next {b keys : List Int} {k : Nat} {v : Int} (hk : k < keys.length) (hv : v = keys.getD k 0) : onL (masksL b (keys.take k)) v = masksL b (keys.take (k + 1)) := by
  rw [take_at hk, ← hv, masksL, masksL, List.foldl_append]; rfl
theorem masksL_take_good {b : List Int} (hb : listB b = true) (keys : List Int) (k : Nat) : listB (masksL b (keys.take k)) = true ∧ (masksL b (keys.take k)).length = b.length := masksL_good hb _
/-- The body masked with the first k keys. -/
def MaskRel (b keys : List Int) (lo n : Nat) (w : World) (v i : Value) (wr : World) : Prop :=
  ∃ (k : Nat) (A : Option Addr) (c : Nat), k ≤ n ∧ i = .int .i64 (k : Int) ∧ v = .slice A 6 c ∧ OwnR 3 wr lo wr.heap.size A 6 c (masksL b (keys.take k)) ∧ Below w.heap.size w wr

end
section
open Go Go.RowKit

set_option maxRecDepth 100000 in
set_option maxHeartbeats 6400000 in
theorem sPacketMake_no (s : Int) (A : Option Addr) (n c lo hi : Nat) (ps : List Int) (A2 : Option Addr) (n2 c2 lo2 hi2 : Nat) (ns : List Int) (to : Int) (A3 : Option Addr) (n3 c3 lo3 hi3 : Nat) (ls : List Int) (w : World) (hs : SlR .i64 w lo hi A n ps) (ht : SlR .i64 w lo2 hi2 A2 n2 ns) (hu : SlR .i64 w lo3 hi3 A3 n3 ls) (hn : n ≤ 4194304) (hn2 : n2 ≤ 4194304) (hn3 : n3 ≤ 4194304) (hno : makeB s ps ns to ls = false) :
    Calls Try.prog 44 #[.int .i64 s, .slice A n c, .slice A2 n2 c2, .int .i64 to, .slice A3 n3 c3] w (NewPkt zeroPkt false w) := by
  have HN := Lib.hid hno
  have HL := Lib.hid hs.len
  have HL2 := Lib.hid ht.len
  clear hno
  have hs1 := hs.alloc (.cells #[.int .i64 0, .slice none 0 0, .int .i64 0, .slice none 0 0] 45)
  have ht1 := ht.alloc (.cells #[.int .i64 0, .slice none 0 0, .int .i64 0, .slice none 0 0] 45)
  have hu1 := hu.alloc (.cells #[.int .i64 0, .slice none 0 0, .int .i64 0, .slice none 0 0] 45)
  have hto2 : (decide (0 ≤ to) && decide (to ≤ 7)) = nameB to := rfl
  cases h2 : packB ls with
  | false =>
    go_enter Try.func44, Try.ntmps44
    go_wp2_with fail
    refine (sLetterPack_c _ _ _ _ _ _ _ hu1 hn3).mono ?_
    rintro e w2 ⟨Ab, nb, cb, rfl, ob, hb2⟩
    have hs2 := hs1.below hb2 hs1.hi_le
    have ht2 := ht1.below hb2 ht1.hi_le
    have hz2 := hb2.size
    have hlt2 : w.heap.size < w2.heap.size := by have := hz2; simp at this; omega
    have hbw : Below w.heap.size w w2 := ((Below.refl _ _).alloc (Nat.le_refl _) _).trans (hb2.mono (by simp))
    have hr2 : w2.heap[w.heap.size]? = some (.cells #[.int .i64 0, .slice none 0 0, .int .i64 0, .slice none 0 0] 45) := (hb2.block _ (by simp)).trans (heap_alloc_new w _)
    rw [h2]
    have kc0 := cell_of_row w2 w.heap.size 0 _ _ _ hr2
    have kc1 := cell_of_row w2 w.heap.size 1 _ _ _ hr2
    have kc2 := cell_of_row w2 w.heap.size 2 _ _ _ hr2
    have kc3 := cell_of_row w2 w.heap.size 3 _ _ _ hr2
    have kf := rd_frozen hr2
    simp only [List.getElem?_toArray, List.getElem?_cons_zero, List.getElem?_cons_succ] at kc0 kc1 kc2 kc3
    clear ob hb2 hr2
    go_wp2_with (first | (go_at_call 18; refine (l1Is_c _ _).mono ?_; rintro e w' ⟨rfl, rfl⟩) | (go_at_call 56; refine (l5Publics_c _ _ _ _ _ _ _ hs2 hn).mono ?_; rintro e w' ⟨rfl, rfl⟩) | (go_at_call 57; refine (l5Names_c _ _ _ _ _ _ _ ht2 hn2).mono ?_; rintro e w' ⟨rfl, rfl⟩) | (go_at_call 34; refine (l6In_c _ _ _ _).mono ?_; rintro e w' ⟨rfl, rfl⟩; rw [hto2]))
    refine bodyPost_ret (v := .tuple #[.agg #[.int .i64 0, .slice none 0 0, .int .i64 0, .slice none 0 0], .bool false]) (by simp [results, Try.results44, go_sem, kc0, kc1, kc2, kc3]) rfl ?_
    exact NewPkt.zero ((((hbw.setCell (Nat.le_refl _) _).setCell (Nat.le_refl _) _).setCell (Nat.le_refl _) _).setCell (Nat.le_refl _) _)
  | true => cases h1 : elB s with
    | false =>
      go_enter Try.func44, Try.ntmps44
      go_wp2_with fail
      refine (sLetterPack_c _ _ _ _ _ _ _ hu1 hn3).mono ?_
      rintro e w2 ⟨Ab, nb, cb, rfl, ob, hb2⟩
      have hs2 := hs1.below hb2 hs1.hi_le
      have ht2 := ht1.below hb2 ht1.hi_le
      have hz2 := hb2.size
      have hlt2 : w.heap.size < w2.heap.size := by have := hz2; simp at this; omega
      have hbw : Below w.heap.size w w2 := ((Below.refl _ _).alloc (Nat.le_refl _) _).trans (hb2.mono (by simp))
      have hr2 : w2.heap[w.heap.size]? = some (.cells #[.int .i64 0, .slice none 0 0, .int .i64 0, .slice none 0 0] 45) := (hb2.block _ (by simp)).trans (heap_alloc_new w _)
      rw [h2]
      have kc0 := cell_of_row w2 w.heap.size 0 _ _ _ hr2
      have kc1 := cell_of_row w2 w.heap.size 1 _ _ _ hr2
      have kc2 := cell_of_row w2 w.heap.size 2 _ _ _ hr2
      have kc3 := cell_of_row w2 w.heap.size 3 _ _ _ hr2
      have kf := rd_frozen hr2
      simp only [List.getElem?_toArray, List.getElem?_cons_zero, List.getElem?_cons_succ] at kc0 kc1 kc2 kc3
      clear ob hb2 hr2
      go_wp2_with (first | (go_at_call 18; refine (l1Is_c _ _).mono ?_; rintro e w' ⟨rfl, rfl⟩) | (go_at_call 56; refine (l5Publics_c _ _ _ _ _ _ _ hs2 hn).mono ?_; rintro e w' ⟨rfl, rfl⟩) | (go_at_call 57; refine (l5Names_c _ _ _ _ _ _ _ ht2 hn2).mono ?_; rintro e w' ⟨rfl, rfl⟩) | (go_at_call 34; refine (l6In_c _ _ _ _).mono ?_; rintro e w' ⟨rfl, rfl⟩; rw [hto2]))
      refine bodyPost_ret (v := .tuple #[.agg #[.int .i64 0, .slice none 0 0, .int .i64 0, .slice none 0 0], .bool false]) (by simp [results, Try.results44, go_sem, kc0, kc1, kc2, kc3]) rfl ?_
      exact NewPkt.zero ((((hbw.setCell (Nat.le_refl _) _).setCell (Nat.le_refl _) _).setCell (Nat.le_refl _) _).setCell (Nat.le_refl _) _)
    | true => cases h0 : pathB ps with
      | false =>
        go_enter Try.func44, Try.ntmps44
        go_wp2_with fail
        refine (sLetterPack_c _ _ _ _ _ _ _ hu1 hn3).mono ?_
        rintro e w2 ⟨Ab, nb, cb, rfl, ob, hb2⟩
        have hs2 := hs1.below hb2 hs1.hi_le
        have ht2 := ht1.below hb2 ht1.hi_le
        have hz2 := hb2.size
        have hlt2 : w.heap.size < w2.heap.size := by have := hz2; simp at this; omega
        have hbw : Below w.heap.size w w2 := ((Below.refl _ _).alloc (Nat.le_refl _) _).trans (hb2.mono (by simp))
        have hr2 : w2.heap[w.heap.size]? = some (.cells #[.int .i64 0, .slice none 0 0, .int .i64 0, .slice none 0 0] 45) := (hb2.block _ (by simp)).trans (heap_alloc_new w _)
        rw [h2]
        have kc0 := cell_of_row w2 w.heap.size 0 _ _ _ hr2
        have kc1 := cell_of_row w2 w.heap.size 1 _ _ _ hr2
        have kc2 := cell_of_row w2 w.heap.size 2 _ _ _ hr2
        have kc3 := cell_of_row w2 w.heap.size 3 _ _ _ hr2
        have kf := rd_frozen hr2
        simp only [List.getElem?_toArray, List.getElem?_cons_zero, List.getElem?_cons_succ] at kc0 kc1 kc2 kc3
        clear ob hb2 hr2
        go_wp2_with (first | (go_at_call 18; refine (l1Is_c _ _).mono ?_; rintro e w' ⟨rfl, rfl⟩) | (go_at_call 56; refine (l5Publics_c _ _ _ _ _ _ _ hs2 hn).mono ?_; rintro e w' ⟨rfl, rfl⟩) | (go_at_call 57; refine (l5Names_c _ _ _ _ _ _ _ ht2 hn2).mono ?_; rintro e w' ⟨rfl, rfl⟩) | (go_at_call 34; refine (l6In_c _ _ _ _).mono ?_; rintro e w' ⟨rfl, rfl⟩; rw [hto2]))
        refine bodyPost_ret (v := .tuple #[.agg #[.int .i64 0, .slice none 0 0, .int .i64 0, .slice none 0 0], .bool false]) (by simp [results, Try.results44, go_sem, kc0, kc1, kc2, kc3]) rfl ?_
        exact NewPkt.zero ((((hbw.setCell (Nat.le_refl _) _).setCell (Nat.le_refl _) _).setCell (Nat.le_refl _) _).setCell (Nat.le_refl _) _)
      | true =>
        by_cases h3 : n2 = n
        · subst h3
          cases h4 : ns.all nameB with
          | false =>
            go_enter Try.func44, Try.ntmps44
            go_wp2_with fail
            refine (sLetterPack_c _ _ _ _ _ _ _ hu1 hn3).mono ?_
            rintro e w2 ⟨Ab, nb, cb, rfl, ob, hb2⟩
            have hs2 := hs1.below hb2 hs1.hi_le
            have ht2 := ht1.below hb2 ht1.hi_le
            have hz2 := hb2.size
            have hlt2 : w.heap.size < w2.heap.size := by have := hz2; simp at this; omega
            have hbw : Below w.heap.size w w2 := ((Below.refl _ _).alloc (Nat.le_refl _) _).trans (hb2.mono (by simp))
            have hr2 : w2.heap[w.heap.size]? = some (.cells #[.int .i64 0, .slice none 0 0, .int .i64 0, .slice none 0 0] 45) := (hb2.block _ (by simp)).trans (heap_alloc_new w _)
            rw [h2]
            have kc0 := cell_of_row w2 w.heap.size 0 _ _ _ hr2
            have kc1 := cell_of_row w2 w.heap.size 1 _ _ _ hr2
            have kc2 := cell_of_row w2 w.heap.size 2 _ _ _ hr2
            have kc3 := cell_of_row w2 w.heap.size 3 _ _ _ hr2
            have kf := rd_frozen hr2
            simp only [List.getElem?_toArray, List.getElem?_cons_zero, List.getElem?_cons_succ] at kc0 kc1 kc2 kc3
            clear ob hb2 hr2
            go_wp2_with (first | (go_at_call 18; refine (l1Is_c _ _).mono ?_; rintro e w' ⟨rfl, rfl⟩) | (go_at_call 56; refine (l5Publics_c _ _ _ _ _ _ _ hs2 hn).mono ?_; rintro e w' ⟨rfl, rfl⟩) | (go_at_call 57; refine (l5Names_c _ _ _ _ _ _ _ ht2 hn2).mono ?_; rintro e w' ⟨rfl, rfl⟩) | (go_at_call 34; refine (l6In_c _ _ _ _).mono ?_; rintro e w' ⟨rfl, rfl⟩; rw [hto2]))
            refine bodyPost_ret (v := .tuple #[.agg #[.int .i64 0, .slice none 0 0, .int .i64 0, .slice none 0 0], .bool false]) (by simp [results, Try.results44, go_sem, kc0, kc1, kc2, kc3]) rfl ?_
            exact NewPkt.zero ((((hbw.setCell (Nat.le_refl _) _).setCell (Nat.le_refl _) _).setCell (Nat.le_refl _) _).setCell (Nat.le_refl _) _)
          | true => cases h5 : nameB to with
            | false =>
              rw [h5] at hto2
              go_enter Try.func44, Try.ntmps44
              go_wp2_with fail
              refine (sLetterPack_c _ _ _ _ _ _ _ hu1 hn3).mono ?_
              rintro e w2 ⟨Ab, nb, cb, rfl, ob, hb2⟩
              have hs2 := hs1.below hb2 hs1.hi_le
              have ht2 := ht1.below hb2 ht1.hi_le
              have hz2 := hb2.size
              have hlt2 : w.heap.size < w2.heap.size := by have := hz2; simp at this; omega
              have hbw : Below w.heap.size w w2 := ((Below.refl _ _).alloc (Nat.le_refl _) _).trans (hb2.mono (by simp))
              have hr2 : w2.heap[w.heap.size]? = some (.cells #[.int .i64 0, .slice none 0 0, .int .i64 0, .slice none 0 0] 45) := (hb2.block _ (by simp)).trans (heap_alloc_new w _)
              rw [h2]
              have kc0 := cell_of_row w2 w.heap.size 0 _ _ _ hr2
              have kc1 := cell_of_row w2 w.heap.size 1 _ _ _ hr2
              have kc2 := cell_of_row w2 w.heap.size 2 _ _ _ hr2
              have kc3 := cell_of_row w2 w.heap.size 3 _ _ _ hr2
              have kf := rd_frozen hr2
              simp only [List.getElem?_toArray, List.getElem?_cons_zero, List.getElem?_cons_succ] at kc0 kc1 kc2 kc3
              clear ob hb2 hr2
              go_wp2_with (first | (go_at_call 18; refine (l1Is_c _ _).mono ?_; rintro e w' ⟨rfl, rfl⟩) | (go_at_call 56; refine (l5Publics_c _ _ _ _ _ _ _ hs2 hn).mono ?_; rintro e w' ⟨rfl, rfl⟩) | (go_at_call 57; refine (l5Names_c _ _ _ _ _ _ _ ht2 hn2).mono ?_; rintro e w' ⟨rfl, rfl⟩) | (go_at_call 34; refine (l6In_c _ _ _ _).mono ?_; rintro e w' ⟨rfl, rfl⟩; rw [hto2]))
              refine bodyPost_ret (v := .tuple #[.agg #[.int .i64 0, .slice none 0 0, .int .i64 0, .slice none 0 0], .bool false]) (by simp [results, Try.results44, go_sem, kc0, kc1, kc2, kc3]) rfl ?_
              exact NewPkt.zero ((((hbw.setCell (Nat.le_refl _) _).setCell (Nat.le_refl _) _).setCell (Nat.le_refl _) _).setCell (Nat.le_refl _) _)
            | true =>
              exfalso
              have hm : makeB s ps ns to ls = true := by simp only [makeB, pathOk, h0, h1, h2, h4, h5, HL.out, HL2.out]; simp
              rw [HN.out] at hm; cases hm
        · obtain ⟨ne1, ne2⟩ := ne_tests h3
          have H3 := Lib.hid h3
          clear h3
          go_enter Try.func44, Try.ntmps44
          go_wp2_with fail
          refine (sLetterPack_c _ _ _ _ _ _ _ hu1 hn3).mono ?_
          rintro e w2 ⟨Ab, nb, cb, rfl, ob, hb2⟩
          have hs2 := hs1.below hb2 hs1.hi_le
          have ht2 := ht1.below hb2 ht1.hi_le
          have hz2 := hb2.size
          have hlt2 : w.heap.size < w2.heap.size := by have := hz2; simp at this; omega
          have hbw : Below w.heap.size w w2 := ((Below.refl _ _).alloc (Nat.le_refl _) _).trans (hb2.mono (by simp))
          have hr2 : w2.heap[w.heap.size]? = some (.cells #[.int .i64 0, .slice none 0 0, .int .i64 0, .slice none 0 0] 45) := (hb2.block _ (by simp)).trans (heap_alloc_new w _)
          rw [h2]
          have kc0 := cell_of_row w2 w.heap.size 0 _ _ _ hr2
          have kc1 := cell_of_row w2 w.heap.size 1 _ _ _ hr2
          have kc2 := cell_of_row w2 w.heap.size 2 _ _ _ hr2
          have kc3 := cell_of_row w2 w.heap.size 3 _ _ _ hr2
          have kf := rd_frozen hr2
          simp only [List.getElem?_toArray, List.getElem?_cons_zero, List.getElem?_cons_succ] at kc0 kc1 kc2 kc3
          clear ob hb2 hr2
          go_wp2_with (first | (go_at_call 18; refine (l1Is_c _ _).mono ?_; rintro e w' ⟨rfl, rfl⟩) | (go_at_call 56; refine (l5Publics_c _ _ _ _ _ _ _ hs2 hn).mono ?_; rintro e w' ⟨rfl, rfl⟩) | (go_at_call 57; refine (l5Names_c _ _ _ _ _ _ _ ht2 hn2).mono ?_; rintro e w' ⟨rfl, rfl⟩) | (go_at_call 34; refine (l6In_c _ _ _ _).mono ?_; rintro e w' ⟨rfl, rfl⟩; rw [hto2]))
          refine bodyPost_ret (v := .tuple #[.agg #[.int .i64 0, .slice none 0 0, .int .i64 0, .slice none 0 0], .bool false]) (by simp [results, Try.results44, go_sem, kc0, kc1, kc2, kc3]) rfl ?_
          exact NewPkt.zero ((((hbw.setCell (Nat.le_refl _) _).setCell (Nat.le_refl _) _).setCell (Nat.le_refl _) _).setCell (Nat.le_refl _) _)

set_option maxRecDepth 100000 in
set_option maxHeartbeats 6400000 in
theorem sPacketMake_yes (s : Int) (A : Option Addr) (n c lo hi : Nat) (ps : List Int) (A2 : Option Addr) (n2 c2 lo2 hi2 : Nat) (ns : List Int) (to : Int) (A3 : Option Addr) (n3 c3 lo3 hi3 : Nat) (ls : List Int) (w : World) (hs : SlR .i64 w lo hi A n ps) (ht : SlR .i64 w lo2 hi2 A2 n2 ns) (hu : SlR .i64 w lo3 hi3 A3 n3 ls) (hn : n ≤ 4194304) (hn2 : n2 ≤ 4194304) (hn3 : n3 ≤ 4194304) (hyes : makeB s ps ns to ls = true) :
    Calls Try.prog 44 #[.int .i64 s, .slice A n c, .slice A2 n2 c2, .int .i64 to, .slice A3 n3 c3] w (NewPkt (makeL s ps ns to ls) true w) := by
  obtain ⟨hse, hpb, hlb, hlen, hns, hto⟩ := makeB_iff.1 hyes
  have hp13 := pathB_iff.1 hpb
  have hnn : n2 = n := by rw [← hs.len, ← ht.len]; exact hlen
  subst hnn
  have hpp := packP_yes hlb
  obtain ⟨M, hM⟩ : ∃ M, M = makeL s ps ns to ls := ⟨_, rfl⟩
  rw [← hM]
  obtain ⟨keys, hkeys⟩ : ∃ k, k = keysL s ps := ⟨_, rfl⟩
  have hke : ∀ k ∈ keys, elB k = true := by rw [hkeys]; exact keysL_el hse hp13.1
  have hkl : keys.length = n2 := by rw [hkeys, keysL_len, hs.len]
  have hn13 : 1 ≤ n2 ∧ n2 ≤ 3 := by rw [← hs.len]; exact hp13.2
  have h4 : ns.all nameB = true := List.all_eq_true.2 hns
  have hxe : ps.all elB = true := List.all_eq_true.2 hp13.1
  have hto2 : (decide (0 ≤ to) && decide (to ≤ 7)) = true := hto
  have HM := Lib.hid hM
  have HPP := Lib.hid hpp
  have HK := Lib.hid hkeys
  have HKE := Lib.hid hke
  have HKL := Lib.hid hkl
  have HNS := Lib.hid hns
  have HSE := Lib.hid hse
  have HXE := Lib.hid hxe
  have HPL := Lib.hid (packL_listB hlb)
  have HP6 := Lib.hid (packL_len (packB_iff.1 hlb).2)
  have hs1 := hs.alloc (.cells #[.int .i64 0, .slice none 0 0, .int .i64 0, .slice none 0 0] 45)
  have ht1 := ht.alloc (.cells #[.int .i64 0, .slice none 0 0, .int .i64 0, .slice none 0 0] 45)
  have hu1 := hu.alloc (.cells #[.int .i64 0, .slice none 0 0, .int .i64 0, .slice none 0 0] 45)
  obtain ⟨hn1, hn3x⟩ := hn13
  clear hyes hlen hns hp13 hpp hM hkeys hke hkl hxe
  go_enter Try.func44, Try.ntmps44
  go_wp2_with fail
  refine (sLetterPack_c _ _ _ _ _ _ _ hu1 hn3).mono ?_
  rintro e w2 ⟨Ab, nb, cb, rfl, ob, hb2⟩
  have hs2 := hs1.below hb2 hs1.hi_le
  have ht2 := ht1.below hb2 ht1.hi_le
  have hz2 := hb2.size
  have hlt2 : w.heap.size < w2.heap.size := by have := hz2; simp at this; omega
  have hbw : Below w.heap.size w w2 := ((Below.refl _ _).alloc (Nat.le_refl _) _).trans (hb2.mono (by simp))
  have hr2 : w2.heap[w.heap.size]? = some (.cells #[.int .i64 0, .slice none 0 0, .int .i64 0, .slice none 0 0] 45) := (hb2.block _ (by simp)).trans (heap_alloc_new w _)
  rw [hlb]
  rw [HPP.out] at ob
  have hnb : nb = 6 := by have := ob.len; rw [HP6.out] at this; exact this.symm
  subst hnb
  have OB := Lib.hid ob
  have HT2 := Lib.hid ht2
  have HS2 := Lib.hid hs2
  have HB := Lib.hid hbw
  have HR2 := Lib.hid hr2
  clear hb2 hs1 ht1 hu1 ob hbw hr2 hs ht hu
  go_wp2_with (first | (go_at_call 18; refine (l1Is_c _ _).mono ?_; rintro e w' ⟨rfl, rfl⟩) | (go_at_call 56; refine (l5Publics_c _ _ _ _ _ _ _ hs2 hn).mono ?_; rintro e w' ⟨rfl, rfl⟩) | (go_at_call 57; refine (l5Names_c _ _ _ _ _ _ _ ht2 hn2).mono ?_; rintro e w' ⟨rfl, rfl⟩) | (go_at_call 34; refine (l6In_c _ _ _ _).mono ?_; rintro e w' ⟨rfl, rfl⟩; rw [hto2]))
  clear hs2 ht2
  refine (l5Keys_c _ _ _ _ _ _ _ _ HS2.out HSE.out HXE.out hn).mono ?_
  rintro e w3 ⟨Ak, nk, ck, rfl, ok, hb3⟩
  rw [← HK.out] at ok
  have hnk : nk = n2 := by have := ok.len; have := HKL.out; omega
  subst hnk
  have hz3 := hb3.size
  have OK3 := Lib.hid ok
  have OB3 := Lib.hid (OB.out.below hb3 OB.out.hi_le)
  have HT3 := Lib.hid (HT2.out.below hb3 HT2.out.hi_le)
  have HR3 := Lib.hid ((hb3.block _ hlt2).trans HR2.out)
  have HB3 := Lib.hid (HB.out.trans (hb3.mono (by omega)))
  clear hb3 ok
  go_wp2_with fail
  go_loopw [12, 15] (fun v i wr => MaskRel (packL ls) keys (w.heap.size + 1) nk w3 v i wr) (fun _ i _ => nk - (intOf i).toNat)
  case atStart => exact ⟨0, Ab, cb, Nat.zero_le _, rfl, rfl, OB3.out.wider (by simp) (by omega) (Nat.le_refl _), Below.refl _ _⟩
  case round =>
    obtain ⟨k, Am, cm, hk, rfl, rfl, om, hnx⟩ := hrel
    have okr := OK3.out.below hnx OK3.out.hi_le
    have hzr := hnx.size
    by_cases hlt : k < nk
    · obtain ⟨b, o, rfl, -, -, hcc⟩ := okr.read.at_ (by omega)
      have hck := hcc k hlt
      obtain ⟨v, hv⟩ : ∃ v, v = keys.getD k 0 := ⟨_, rfl⟩
      rw [← hv] at hck
      have hve : elB v = true := by rw [hv]; exact HKE.out _ (getD_mem (by rw [HKL.out]; exact hlt))
      have hmg := masksL_take_good HPL.out keys k
      have hon : onL (masksL (packL ls) (keys.take k)) v = masksL (packL ls) (keys.take (k + 1)) := masksL_next (by rw [HKL.out]; exact hlt) hv
      have hmg2 := masksL_take_good HPL.out keys (k + 1)
      have HON := Lib.hid hon
      have HG := Lib.hid hmg
      have HG2 := Lib.hid (hmg2.2.trans HP6.out)
      have OM := Lib.hid om
      have HNX := Lib.hid hnx
      have HVE := Lib.hid hve
      clear hcc hv hve hmg hon hmg2 om hnx okr
      go_wp2_with fail
      refine (l2On_c _ _ _ _ _ _ v _ OM.out.read (by omega) (fun i hi => listB_at HG.out.1 (by rw [HG.out.2, HP6.out]; exact hi)) HVE.out).mono ?_
      rintro e w5 ⟨A5, n5, c5, rfl, o5, hb5⟩
      rw [HON.out] at o5
      have hn5 : n5 = 6 := by have := o5.len; rw [HG2.out] at this; exact this.symm
      subst hn5
      have O5 := Lib.hid (o5.wider (lo' := w.heap.size + 1) (by omega) (Nat.le_refl _) (Nat.le_refl _))
      have HB5 := Lib.hid (HNX.out.trans (hb5.mono hzr))
      clear o5 hb5
      go_wp2_with fail
      go_roundw
      case rel => exact ⟨k + 1, A5, c5, by omega, by go_num, rfl, O5.out, HB5.out⟩
      case measure => simp [intOf]; omega
    · have hkn : k = nk := by omega
      have hall : keys.take k = keys := List.take_of_length_le (by rw [HKL.out]; omega)
      rw [hall] at om
      have ht5 := HT3.out.below hnx HT3.out.hi_le
      have hr5 : wr.heap[w.heap.size]? = some (.cells #[.int .i64 0, .slice none 0 0, .int .i64 0, .slice none 0 0] 45) := (hnx.block _ (by omega)).trans HR3.out
      have hbw := HB3.out.trans (hnx.mono (by omega))
      have OM := Lib.hid om
      have OKR := Lib.hid okr
      have HT5 := Lib.hid ht5
      have HR5 := Lib.hid hr5
      have HBW := Lib.hid hbw
      clear hkn hall om okr ht5 hr5 hbw hnx
      go_wp2_with fail
      refine (l5Header_c _ _ _ _ _ _ _ _ _ _ _ _ _ OKR.out.read HT5.out hn1 hn3x HKE.out HNS.out hto).mono ?_
      rintro e w6 ⟨Ah, nh, ch, rfl, oh, hb6⟩
      have hz6 := hb6.size
      have hr6 : w6.heap[w.heap.size]? = some (.cells #[.int .i64 0, .slice none 0 0, .int .i64 0, .slice none 0 0] 45) := (hb6.block _ (by omega)).trans HR5.out
      have om6 := OM.out.below hb6 OM.out.hi_le
      have hbw := HBW.out.trans (hb6.mono (by omega))
      have kc0 := cell_of_row w6 w.heap.size 0 _ _ _ hr6
      have kc1 := cell_of_row w6 w.heap.size 1 _ _ _ hr6
      have kc2 := cell_of_row w6 w.heap.size 2 _ _ _ hr6
      have kc3 := cell_of_row w6 w.heap.size 3 _ _ _ hr6
      have kf := rd_frozen hr6
      simp only [List.getElem?_toArray, List.getElem?_cons_zero, List.getElem?_cons_succ] at kc0 kc1 kc2 kc3

      obtain ⟨H, hH⟩ : ∃ H, H = hdrL (fillL keys) to keys ns := ⟨_, rfl⟩
      rw [← hH] at oh ⊢
      obtain ⟨t0, ht0⟩ : ∃ v, v = tagL (keys.getD 0 0) H := ⟨_, rfl⟩
      rw [← ht0]
      have HHH := Lib.hid hH
      have HT0 := Lib.hid ht0
      have OH := Lib.hid oh
      have OM6 := Lib.hid om6
      have HBW6 := Lib.hid hbw
      clear hH ht0 oh om6 hr6 hbw hb6
      have hfin : NewPkt M true w (.returned (.tuple #[.agg #[.int .i64 (mulP s 5), .slice Ah nh ch, .int .i64 t0, .slice Am 6 cm], .bool true])) ((((w6.setCell ⟨w.heap.size, 0, none⟩ (.int .i64 (mulP s 5))).setCell ⟨w.heap.size, 1, none⟩ (.slice Ah nh ch)).setCell ⟨w.heap.size, 2, none⟩ (.int .i64 t0)).setCell ⟨w.heap.size, 3, none⟩ (.slice Am 6 cm)) := by
        have e1 : M.e = mulP s 5 := by rw [HM.out]; rfl
        have e2 : M.h = H := by rw [HM.out, HHH.out, HK.out]; rfl
        have e3 : M.t = t0 := by rw [HM.out, HT0.out, HHH.out, HK.out]; rfl
        have e4 : M.b = masksL (packL ls) keys := by rw [HM.out, HK.out]; rfl
        have hbw := HBW6.out
        refine ⟨Ah, nh, ch, Am, 6, cm, by rw [e1, e3], ?_, ((((hbw.setCell (Nat.le_refl _) _).setCell (Nat.le_refl _) _).setCell (Nat.le_refl _) _).setCell (Nat.le_refl _) _)⟩
        rw [e2, e4]
        exact set4_two OH.out OM6.out (.inr (Nat.le_refl _)) (by omega) (by omega) (by omega) (by omega) _ _ _ _
      have HFIN := Lib.hid hfin
      clear hfin
      go_wp2_with (first | (go_at_call 43; refine (sPublic_c _ _).mono ?_; rintro e w' ⟨rfl, rfl⟩))
      refine bodyPost_ret (v := .tuple #[.agg #[.int .i64 (mulP s 5), .slice Ah nh ch, .int .i64 t0, .slice Am 6 cm], .bool true]) (by simp [results, Try.results44, go_sem, kc0, kc1, kc2, kc3]) rfl ?_
      exact HFIN.out
theorem sPacketMake_c (s : Int) (A : Option Addr) (n c lo hi : Nat) (ps : List Int) (A2 : Option Addr) (n2 c2 lo2 hi2 : Nat) (ns : List Int) (to : Int) (A3 : Option Addr) (n3 c3 lo3 hi3 : Nat) (ls : List Int) (w : World) (hs : SlR .i64 w lo hi A n ps) (ht : SlR .i64 w lo2 hi2 A2 n2 ns) (hu : SlR .i64 w lo3 hi3 A3 n3 ls) (hn : n ≤ 4194304) (hn2 : n2 ≤ 4194304) (hn3 : n3 ≤ 4194304) : Calls Try.prog 44 #[.int .i64 s, .slice A n c, .slice A2 n2 c2, .int .i64 to, .slice A3 n3 c3] w (NewPkt (makeP s ps ns to ls) (makeB s ps ns to ls) w) := by
  cases h : makeB s ps ns to ls with
  | false => rw [makeP_no h]; exact sPacketMake_no s A n c lo hi ps A2 n2 c2 lo2 hi2 ns to A3 n3 c3 lo3 hi3 ls w hs ht hu hn hn2 hn3 h
  | true => rw [makeP_yes h]; exact sPacketMake_yes s A n c lo hi ps A2 n2 c2 lo2 hi2 ns to A3 n3 c3 lo3 hi3 ls w hs ht hu hn hn2 hn3 h
end
end Go.Proofs.Ytoocjalhcliebaa
