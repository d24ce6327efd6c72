/-
  A packet is made: contracts of the program's function and of the reference's.
  Conditions: the lists' slices read as lists of whole numbers.
-/
import Derived.Test.YtbkecimhbibnjaaHdrS
namespace Go.Proofs.Ytbkecimhbibnjaa
open Go Go.RowKit

theorem makeP_no {s to : Int} {ps ns ls : List Int} (h : makeB s ps ns to ls = false) : makeP s ps ns to ls = zeroPkt := by simp [makeP, h]
theorem makeP_yes {s to : Int} {ps ns ls : List Int} (h : makeB s ps ns to ls = true) : makeP s ps ns to ls = makeL s ps ns to ls := by simp [makeP, h]
theorem NewPkt.zero {w w' : World} (hb : Below w.heap.size w w') : NewPkt zeroPkt false w (.returned (.tuple #[.agg #[.int .i64 0, .slice none 0 0, .int .i64 0, .slice none 0 0], .bool false])) w' :=
  ⟨_, _, _, _, _, _, rfl, TwoO.none_ (Nat.le_refl _), hb⟩
theorem set4_size (w : World) (rb : Nat) (x0 x1 x2 x3 : Value) : ((((w.setCell ⟨rb, 0, none⟩ x0).setCell ⟨rb, 1, none⟩ x1).setCell ⟨rb, 2, none⟩ x2).setCell ⟨rb, 3, none⟩ x3).heap.size = w.heap.size := by simp [World.setCell]
theorem set4_two {w : World} {rb lo lo1 hi1 lo2 hi2 n c n2 c2 : Nat} {A A2 : Option Addr} {h b : List Int} (oh : OwnR 3 w lo1 hi1 A n c h) (ob : OwnR 3 w lo2 hi2 A2 n2 c2 b) (hd : hi1 ≤ lo2 ∨ hi2 ≤ lo1) (h1 : rb < lo1) (h2 : rb < lo2) (hl1 : lo ≤ lo1) (hl2 : lo ≤ lo2) (x0 x1 x2 x3 : Value) :
    TwoO ((((w.setCell ⟨rb, 0, none⟩ x0).setCell ⟨rb, 1, none⟩ x1).setCell ⟨rb, 2, none⟩ x2).setCell ⟨rb, 3, none⟩ x3) lo ((((w.setCell ⟨rb, 0, none⟩ x0).setCell ⟨rb, 1, none⟩ x1).setCell ⟨rb, 2, none⟩ x2).setCell ⟨rb, 3, none⟩ x3).heap.size h b A n c A2 n2 c2 :=
  TwoO.of_two ((((oh.setCell (.inl h1) x0).setCell (.inl h1) x1).setCell (.inl h1) x2).setCell (.inl h1) x3) ((((ob.setCell (.inl h2) x0).setCell (.inl h2) x1).setCell (.inl h2) x2).setCell (.inl h2) x3) hd hl1 hl2
    (by rw [set4_size]; exact oh.2.1) (by rw [set4_size]; exact ob.2.1) (Nat.le_refl _)
theorem ne_tests {n m : Nat} (h : n ≠ m) : ((n : Int) == (m : Int)) = false ∧ ((n : Int) != (m : Int)) = true := by
  constructor <;> simp <;> omega

set_option maxRecDepth 100000 in
set_option maxHeartbeats 3200000 in
theorem packetMake_no (s : Int) (A : Option Addr) (n c lo hi : Nat) (ps : List Int) (A2 : Option Addr) (n2 c2 lo2 hi2 : Nat) (ns : List Int) (to : Int) (A3 : Option Addr) (n3 c3 lo3 hi3 : Nat) (ls : List Int) (w : World) (hs : SlR .i64 w lo hi A n ps) (ht : SlR .i64 w lo2 hi2 A2 n2 ns) (hu : SlR .i64 w lo3 hi3 A3 n3 ls) (hn : n ≤ 4194304) (hn2 : n2 ≤ 4194304) (hno : makeB s ps ns to ls = false) :
    Calls Try.prog 40 #[.int .i64 s, .slice A n c, .slice A2 n2 c2, .int .i64 to, .slice A3 n3 c3] w (NewPkt zeroPkt false w) := by
  have HN := Lib.hid hno
  have HL := Lib.hid hs.len
  have HL2 := Lib.hid ht.len
  clear hno
  have hs1 := hs.alloc (.cells #[.int .i64 0, .slice none 0 0, .int .i64 0, .slice none 0 0] 42)
  have ht1 := ht.alloc (.cells #[.int .i64 0, .slice none 0 0, .int .i64 0, .slice none 0 0] 42)
  have hu1 := hu.alloc (.cells #[.int .i64 0, .slice none 0 0, .int .i64 0, .slice none 0 0] 42)
  cases h1 : pathOk s ps with
  | false =>
    go_enter Try.func40, Try.ntmps40
    go_wp2_with fail
    refine (pathKeys_c _ _ _ _ _ _ _ _ hs1 hn).mono ?_
    rintro e w2 ⟨Ak, nk, ck, rfl, ok, hb2⟩
    have hu2 := hu1.below hb2 hu1.hi_le
    have ht2 := ht1.below hb2 ht1.hi_le
    have hz2 := hb2.size
    have hbw : Below w.heap.size w w2 := ((Below.refl _ _).alloc (Nat.le_refl _) _).trans (hb2.mono (by simp))
    have hr2 : w2.heap[w.heap.size]? = some (.cells #[.int .i64 0, .slice none 0 0, .int .i64 0, .slice none 0 0] 42) := (hb2.block _ (by simp)).trans (heap_alloc_new w _)
    rw [h1]
    clear ok hb2
    go_wp2_with fail
    refine (letterPack_c _ _ _ _ _ _ _ hu2).mono ?_
    rintro e w3 ⟨Ab, nb, cb, rfl, ob, hb3⟩
    have ht3 := ht2.below hb3 ht2.hi_le
    have hz3 := hb3.size
    have hlt2 : w.heap.size < w2.heap.size := by have := hz2; simp at this; omega
    have hr3 : w3.heap[w.heap.size]? = some (.cells #[.int .i64 0, .slice none 0 0, .int .i64 0, .slice none 0 0] 42) := (hb3.block _ hlt2).trans hr2
    replace hbw := hbw.trans (hb3.mono (by omega))
    have kc0 := cell_of_row w3 w.heap.size 0 _ _ _ hr3
    have kc1 := cell_of_row w3 w.heap.size 1 _ _ _ hr3
    have kc2 := cell_of_row w3 w.heap.size 2 _ _ _ hr3
    have kc3 := cell_of_row w3 w.heap.size 3 _ _ _ hr3
    have kf := rd_frozen hr3
    simp only [List.getElem?_toArray, List.getElem?_cons_zero, List.getElem?_cons_succ] at kc0 kc1 kc2 kc3
    clear ob hb3 hr2 hr3
    go_wp2_with (first | (go_at_call 83; refine (areNames_c _ _ _ _ _ _ _ ht3 hn2).mono ?_; rintro e w' ⟨rfl, rfl⟩) | (go_at_call 67; refine (isName_c _ _).mono ?_; rintro e w' ⟨rfl, rfl⟩))
    refine bodyPost_ret (v := .tuple #[.agg #[.int .i64 0, .slice none 0 0, .int .i64 0, .slice none 0 0], .bool false]) (by simp [results, Try.results40, go_sem, kc0, kc1, kc2, kc3]) rfl ?_
    exact NewPkt.zero ((((hbw.setCell (Nat.le_refl _) _).setCell (Nat.le_refl _) _).setCell (Nat.le_refl _) _).setCell (Nat.le_refl _) _)
  | true => cases h2 : packB ls with
    | false =>
      go_enter Try.func40, Try.ntmps40
      go_wp2_with fail
      refine (pathKeys_c _ _ _ _ _ _ _ _ hs1 hn).mono ?_
      rintro e w2 ⟨Ak, nk, ck, rfl, ok, hb2⟩
      have hu2 := hu1.below hb2 hu1.hi_le
      have ht2 := ht1.below hb2 ht1.hi_le
      have hz2 := hb2.size
      have hbw : Below w.heap.size w w2 := ((Below.refl _ _).alloc (Nat.le_refl _) _).trans (hb2.mono (by simp))
      have hr2 : w2.heap[w.heap.size]? = some (.cells #[.int .i64 0, .slice none 0 0, .int .i64 0, .slice none 0 0] 42) := (hb2.block _ (by simp)).trans (heap_alloc_new w _)
      rw [h1]
      clear ok hb2
      go_wp2_with fail
      refine (letterPack_c _ _ _ _ _ _ _ hu2).mono ?_
      rintro e w3 ⟨Ab, nb, cb, rfl, ob, hb3⟩
      have ht3 := ht2.below hb3 ht2.hi_le
      have hz3 := hb3.size
      have hlt2 : w.heap.size < w2.heap.size := by have := hz2; simp at this; omega
      have hr3 : w3.heap[w.heap.size]? = some (.cells #[.int .i64 0, .slice none 0 0, .int .i64 0, .slice none 0 0] 42) := (hb3.block _ hlt2).trans hr2
      replace hbw := hbw.trans (hb3.mono (by omega))
      rw [h2]
      have kc0 := cell_of_row w3 w.heap.size 0 _ _ _ hr3
      have kc1 := cell_of_row w3 w.heap.size 1 _ _ _ hr3
      have kc2 := cell_of_row w3 w.heap.size 2 _ _ _ hr3
      have kc3 := cell_of_row w3 w.heap.size 3 _ _ _ hr3
      have kf := rd_frozen hr3
      simp only [List.getElem?_toArray, List.getElem?_cons_zero, List.getElem?_cons_succ] at kc0 kc1 kc2 kc3
      clear ob hb3 hr2 hr3
      go_wp2_with (first | (go_at_call 83; refine (areNames_c _ _ _ _ _ _ _ ht3 hn2).mono ?_; rintro e w' ⟨rfl, rfl⟩) | (go_at_call 67; refine (isName_c _ _).mono ?_; rintro e w' ⟨rfl, rfl⟩))
      refine bodyPost_ret (v := .tuple #[.agg #[.int .i64 0, .slice none 0 0, .int .i64 0, .slice none 0 0], .bool false]) (by simp [results, Try.results40, go_sem, kc0, kc1, kc2, kc3]) rfl ?_
      exact NewPkt.zero ((((hbw.setCell (Nat.le_refl _) _).setCell (Nat.le_refl _) _).setCell (Nat.le_refl _) _).setCell (Nat.le_refl _) _)
    | true =>
      by_cases h3 : n2 = n
      · subst h3
        cases h4 : ns.all nameB with
        | false =>
          go_enter Try.func40, Try.ntmps40
          go_wp2_with fail
          refine (pathKeys_c _ _ _ _ _ _ _ _ hs1 hn).mono ?_
          rintro e w2 ⟨Ak, nk, ck, rfl, ok, hb2⟩
          have hu2 := hu1.below hb2 hu1.hi_le
          have ht2 := ht1.below hb2 ht1.hi_le
          have hz2 := hb2.size
          have hbw : Below w.heap.size w w2 := ((Below.refl _ _).alloc (Nat.le_refl _) _).trans (hb2.mono (by simp))
          have hr2 : w2.heap[w.heap.size]? = some (.cells #[.int .i64 0, .slice none 0 0, .int .i64 0, .slice none 0 0] 42) := (hb2.block _ (by simp)).trans (heap_alloc_new w _)
          rw [h1]
          clear ok hb2
          go_wp2_with fail
          refine (letterPack_c _ _ _ _ _ _ _ hu2).mono ?_
          rintro e w3 ⟨Ab, nb, cb, rfl, ob, hb3⟩
          have ht3 := ht2.below hb3 ht2.hi_le
          have hz3 := hb3.size
          have hlt2 : w.heap.size < w2.heap.size := by have := hz2; simp at this; omega
          have hr3 : w3.heap[w.heap.size]? = some (.cells #[.int .i64 0, .slice none 0 0, .int .i64 0, .slice none 0 0] 42) := (hb3.block _ hlt2).trans hr2
          replace hbw := hbw.trans (hb3.mono (by omega))
          rw [h2]
          have kc0 := cell_of_row w3 w.heap.size 0 _ _ _ hr3
          have kc1 := cell_of_row w3 w.heap.size 1 _ _ _ hr3
          have kc2 := cell_of_row w3 w.heap.size 2 _ _ _ hr3
          have kc3 := cell_of_row w3 w.heap.size 3 _ _ _ hr3
          have kf := rd_frozen hr3
          simp only [List.getElem?_toArray, List.getElem?_cons_zero, List.getElem?_cons_succ] at kc0 kc1 kc2 kc3
          clear ob hb3 hr2 hr3
          go_wp2_with (first | (go_at_call 83; refine (areNames_c _ _ _ _ _ _ _ ht3 hn2).mono ?_; rintro e w' ⟨rfl, rfl⟩) | (go_at_call 67; refine (isName_c _ _).mono ?_; rintro e w' ⟨rfl, rfl⟩))
          refine bodyPost_ret (v := .tuple #[.agg #[.int .i64 0, .slice none 0 0, .int .i64 0, .slice none 0 0], .bool false]) (by simp [results, Try.results40, go_sem, kc0, kc1, kc2, kc3]) rfl ?_
          exact NewPkt.zero ((((hbw.setCell (Nat.le_refl _) _).setCell (Nat.le_refl _) _).setCell (Nat.le_refl _) _).setCell (Nat.le_refl _) _)
        | true => cases h5 : nameB to with
          | false =>
            go_enter Try.func40, Try.ntmps40
            go_wp2_with fail
            refine (pathKeys_c _ _ _ _ _ _ _ _ hs1 hn).mono ?_
            rintro e w2 ⟨Ak, nk, ck, rfl, ok, hb2⟩
            have hu2 := hu1.below hb2 hu1.hi_le
            have ht2 := ht1.below hb2 ht1.hi_le
            have hz2 := hb2.size
            have hbw : Below w.heap.size w w2 := ((Below.refl _ _).alloc (Nat.le_refl _) _).trans (hb2.mono (by simp))
            have hr2 : w2.heap[w.heap.size]? = some (.cells #[.int .i64 0, .slice none 0 0, .int .i64 0, .slice none 0 0] 42) := (hb2.block _ (by simp)).trans (heap_alloc_new w _)
            rw [h1]
            clear ok hb2
            go_wp2_with fail
            refine (letterPack_c _ _ _ _ _ _ _ hu2).mono ?_
            rintro e w3 ⟨Ab, nb, cb, rfl, ob, hb3⟩
            have ht3 := ht2.below hb3 ht2.hi_le
            have hz3 := hb3.size
            have hlt2 : w.heap.size < w2.heap.size := by have := hz2; simp at this; omega
            have hr3 : w3.heap[w.heap.size]? = some (.cells #[.int .i64 0, .slice none 0 0, .int .i64 0, .slice none 0 0] 42) := (hb3.block _ hlt2).trans hr2
            replace hbw := hbw.trans (hb3.mono (by omega))
            rw [h2]
            have kc0 := cell_of_row w3 w.heap.size 0 _ _ _ hr3
            have kc1 := cell_of_row w3 w.heap.size 1 _ _ _ hr3
            have kc2 := cell_of_row w3 w.heap.size 2 _ _ _ hr3
            have kc3 := cell_of_row w3 w.heap.size 3 _ _ _ hr3
            have kf := rd_frozen hr3
            simp only [List.getElem?_toArray, List.getElem?_cons_zero, List.getElem?_cons_succ] at kc0 kc1 kc2 kc3
            clear ob hb3 hr2 hr3
            go_wp2_with (first | (go_at_call 83; refine (areNames_c _ _ _ _ _ _ _ ht3 hn2).mono ?_; rintro e w' ⟨rfl, rfl⟩) | (go_at_call 67; refine (isName_c _ _).mono ?_; rintro e w' ⟨rfl, rfl⟩))
            refine bodyPost_ret (v := .tuple #[.agg #[.int .i64 0, .slice none 0 0, .int .i64 0, .slice none 0 0], .bool false]) (by simp [results, Try.results40, go_sem, kc0, kc1, kc2, kc3]) rfl ?_
            exact NewPkt.zero ((((hbw.setCell (Nat.le_refl _) _).setCell (Nat.le_refl _) _).setCell (Nat.le_refl _) _).setCell (Nat.le_refl _) _)
          | true =>
            exfalso
            have hm : makeB s ps ns to ls = true := by simp only [makeB, h1, h2, h4, h5, HL.out, HL2.out]; simp
            rw [HN.out] at hm; cases hm
      · obtain ⟨ne1, ne2⟩ := ne_tests h3
        have H3 := Lib.hid h3
        clear h3
        go_enter Try.func40, Try.ntmps40
        go_wp2_with fail
        refine (pathKeys_c _ _ _ _ _ _ _ _ hs1 hn).mono ?_
        rintro e w2 ⟨Ak, nk, ck, rfl, ok, hb2⟩
        have hu2 := hu1.below hb2 hu1.hi_le
        have ht2 := ht1.below hb2 ht1.hi_le
        have hz2 := hb2.size
        have hbw : Below w.heap.size w w2 := ((Below.refl _ _).alloc (Nat.le_refl _) _).trans (hb2.mono (by simp))
        have hr2 : w2.heap[w.heap.size]? = some (.cells #[.int .i64 0, .slice none 0 0, .int .i64 0, .slice none 0 0] 42) := (hb2.block _ (by simp)).trans (heap_alloc_new w _)
        rw [h1]
        clear ok hb2
        go_wp2_with fail
        refine (letterPack_c _ _ _ _ _ _ _ hu2).mono ?_
        rintro e w3 ⟨Ab, nb, cb, rfl, ob, hb3⟩
        have ht3 := ht2.below hb3 ht2.hi_le
        have hz3 := hb3.size
        have hlt2 : w.heap.size < w2.heap.size := by have := hz2; simp at this; omega
        have hr3 : w3.heap[w.heap.size]? = some (.cells #[.int .i64 0, .slice none 0 0, .int .i64 0, .slice none 0 0] 42) := (hb3.block _ hlt2).trans hr2
        replace hbw := hbw.trans (hb3.mono (by omega))
        rw [h2]
        have kc0 := cell_of_row w3 w.heap.size 0 _ _ _ hr3
        have kc1 := cell_of_row w3 w.heap.size 1 _ _ _ hr3
        have kc2 := cell_of_row w3 w.heap.size 2 _ _ _ hr3
        have kc3 := cell_of_row w3 w.heap.size 3 _ _ _ hr3
        have kf := rd_frozen hr3
        simp only [List.getElem?_toArray, List.getElem?_cons_zero, List.getElem?_cons_succ] at kc0 kc1 kc2 kc3
        clear ob hb3 hr2 hr3
        go_wp2_with (first | (go_at_call 83; refine (areNames_c _ _ _ _ _ _ _ ht3 hn2).mono ?_; rintro e w' ⟨rfl, rfl⟩) | (go_at_call 67; refine (isName_c _ _).mono ?_; rintro e w' ⟨rfl, rfl⟩))
        refine bodyPost_ret (v := .tuple #[.agg #[.int .i64 0, .slice none 0 0, .int .i64 0, .slice none 0 0], .bool false]) (by simp [results, Try.results40, go_sem, kc0, kc1, kc2, kc3]) rfl ?_
        exact NewPkt.zero ((((hbw.setCell (Nat.le_refl _) _).setCell (Nat.le_refl _) _).setCell (Nat.le_refl _) _).setCell (Nat.le_refl _) _)

theorem masksL_next {b keys : List Int} {k : Nat} {v : Int} (hk : k < keys.length) (hv : v = keys.getD k 0) : onL (masksL b (keys.take k)) v = masksL b (keys.take (k + 1)) := by
  rw [take_at hk, ← hv, masksL, masksL, List.foldl_append]; rfl
theorem masksL_take_good {b : List Int} (hb : listB b = true) (keys : List Int) (k : Nat) : listB (masksL b (keys.take k)) = true ∧ (masksL b (keys.take k)).length = b.length := masksL_good hb _
/-- The body masked with the first k keys. -/
def MaskRel (b keys : List Int) (lo n : Nat) (w : World) (v i : Value) (wr : World) : Prop :=
  ∃ (k : Nat) (A : Option Addr) (c : Nat), k ≤ n ∧ i = .int .i64 (k : Int) ∧ v = .slice A 6 c ∧ OwnR 3 wr lo wr.heap.size A 6 c (masksL b (keys.take k)) ∧ Below w.heap.size w wr

set_option maxRecDepth 100000 in
set_option maxHeartbeats 6400000 in
theorem packetMake_yes (s : Int) (A : Option Addr) (n c lo hi : Nat) (ps : List Int) (A2 : Option Addr) (n2 c2 lo2 hi2 : Nat) (ns : List Int) (to : Int) (A3 : Option Addr) (n3 c3 lo3 hi3 : Nat) (ls : List Int) (w : World) (hs : SlR .i64 w lo hi A n ps) (ht : SlR .i64 w lo2 hi2 A2 n2 ns) (hu : SlR .i64 w lo3 hi3 A3 n3 ls) (hn : n ≤ 4194304) (hn2 : n2 ≤ 4194304) (hyes : makeB s ps ns to ls = true) :
    Calls Try.prog 40 #[.int .i64 s, .slice A n c, .slice A2 n2 c2, .int .i64 to, .slice A3 n3 c3] w (NewPkt (makeL s ps ns to ls) true w) := by
  obtain ⟨hse, hpb, hlb, hlen, hns, hto⟩ := makeB_iff.1 hyes
  have h1 : pathOk s ps = true := by simp [pathOk, hse, hpb]
  have hp13 := pathB_iff.1 hpb
  have hnn : n2 = n := by rw [← hs.len, ← ht.len]; exact hlen
  subst hnn
  have hkp : keysP s ps = keysL s ps := by simp [keysP, h1]
  have hpp := packP_yes hlb
  obtain ⟨M, hM⟩ : ∃ M, M = makeL s ps ns to ls := ⟨_, rfl⟩
  rw [← hM]
  obtain ⟨keys, hkeys⟩ : ∃ k, k = keysL s ps := ⟨_, rfl⟩
  have hke : ∀ k ∈ keys, elB k = true := by rw [hkeys]; exact keysL_el hse hp13.1
  have hkl : keys.length = n2 := by rw [hkeys, keysL_len, hs.len]
  have hn13 : 1 ≤ n2 ∧ n2 ≤ 3 := by rw [← hs.len]; exact hp13.2
  have h4 : ns.all nameB = true := List.all_eq_true.2 hns
  have HM := Lib.hid hM
  have HKP := Lib.hid hkp
  have HPP := Lib.hid hpp
  have HK := Lib.hid hkeys
  have HKE := Lib.hid hke
  have HKL := Lib.hid hkl
  have HNS := Lib.hid hns
  have HPL := Lib.hid (packL_listB hlb)
  have HP6 := Lib.hid (packL_len (packB_iff.1 hlb).2)
  have hs1 := hs.alloc (.cells #[.int .i64 0, .slice none 0 0, .int .i64 0, .slice none 0 0] 42)
  have ht1 := ht.alloc (.cells #[.int .i64 0, .slice none 0 0, .int .i64 0, .slice none 0 0] 42)
  have hu1 := hu.alloc (.cells #[.int .i64 0, .slice none 0 0, .int .i64 0, .slice none 0 0] 42)
  obtain ⟨hn1, hn3x⟩ := hn13
  clear hyes hse hpb hlen hns hp13 hkp hpp hM hkeys hke hkl
  go_enter Try.func40, Try.ntmps40
  go_wp2_with fail
  refine (pathKeys_c _ _ _ _ _ _ _ _ hs1 hn).mono ?_
  rintro e w2 ⟨Ak, nk, ck, rfl, ok, hb2⟩
  rw [HKP.out, ← HK.out] at ok
  have hnk : nk = n2 := by have := ok.len; have := HKL.out; omega
  subst hnk
  have hu2 := hu1.below hb2 hu1.hi_le
  have ht2 := ht1.below hb2 ht1.hi_le
  have hz2 := hb2.size
  have hbw : Below w.heap.size w w2 := ((Below.refl _ _).alloc (Nat.le_refl _) _).trans (hb2.mono (by simp))
  have hr2 : w2.heap[w.heap.size]? = some (.cells #[.int .i64 0, .slice none 0 0, .int .i64 0, .slice none 0 0] 42) := (hb2.block _ (by simp)).trans (heap_alloc_new w _)
  have hlt2 : w.heap.size < w2.heap.size := by have := hz2; simp at this; omega
  rw [h1]
  clear hb2
  go_wp2_with fail
  refine (letterPack_c _ _ _ _ _ _ _ hu2).mono ?_
  rintro e w3 ⟨Ab, nb, cb, rfl, ob, hb3⟩
  rw [HPP.out] at ob
  have hnb : nb = 6 := by have := ob.len; rw [HP6.out] at this; exact this.symm
  subst hnb
  have ht3 := ht2.below hb3 ht2.hi_le
  have ok3 := ok.below hb3 ok.hi_le
  have hz3 := hb3.size
  have hr3 : w3.heap[w.heap.size]? = some (.cells #[.int .i64 0, .slice none 0 0, .int .i64 0, .slice none 0 0] 42) := (hb3.block _ hlt2).trans hr2
  replace hbw := hbw.trans (hb3.mono (by omega))
  rw [hlb]
  have OB := Lib.hid ob
  have OK3 := Lib.hid ok3
  have HT3 := Lib.hid ht3
  have HB := Lib.hid hbw
  have HR3 := Lib.hid hr3
  clear hb3 hr2 hs1 ht1 hu1 ht2 hu2 ok ok3 ob ht3 hbw hr3 hs ht hu
  go_wp2_with (first | (go_at_call 83; refine (areNames_c _ _ _ _ _ _ _ HT3.out hn2).mono ?_; rintro e w' ⟨rfl, rfl⟩) | (go_at_call 67; refine (isName_c _ _).mono ?_; rintro e w' ⟨rfl, rfl⟩))
  go_loopw [14, 56] (fun v i wr => MaskRel (packL ls) keys w2.heap.size nk w3 v i wr) (fun _ i _ => nk - (intOf i).toNat)
  case atStart => exact ⟨0, Ab, cb, Nat.zero_le _, rfl, rfl, OB.out, Below.refl _ _⟩
  case round =>
    obtain ⟨k, Am, cm, hk, rfl, rfl, om, hnx⟩ := hrel
    have okr := OK3.out.below hnx OK3.out.hi_le
    have hzr := hnx.size
    by_cases hlt : k < nk
    · obtain ⟨b, o, rfl, -, -, hcc⟩ := okr.read.at_ (by omega)
      have hck := hcc k hlt
      obtain ⟨v, hv⟩ : ∃ v, v = keys.getD k 0 := ⟨_, rfl⟩
      rw [← hv] at hck
      have hve : elB v = true := by rw [hv]; exact HKE.out _ (getD_mem (by rw [HKL.out]; exact hlt))
      have hmg := masksL_take_good HPL.out keys k
      have hon : onP (masksL (packL ls) (keys.take k)) v = masksL (packL ls) (keys.take (k + 1)) := by
        rw [show onP (masksL (packL ls) (keys.take k)) v = onL (masksL (packL ls) (keys.take k)) v from if_pos ⟨hmg.1, hve⟩]
        exact masksL_next (by rw [HKL.out]; exact hlt) hv
      have hmg2 := masksL_take_good HPL.out keys (k + 1)
      have HON := Lib.hid hon
      have HG2 := Lib.hid (hmg2.2.trans HP6.out)
      have OM := Lib.hid om
      have HNX := Lib.hid hnx
      clear hcc hv hve hmg hon hmg2 om hnx okr
      go_wp2_with fail
      refine (maskOn_c _ _ _ _ _ _ v _ OM.out.read).mono ?_
      rintro e w5 ⟨A5, n5, c5, rfl, o5, hb5⟩
      rw [HON.out] at o5
      have hn5 : n5 = 6 := by have := o5.len; rw [HG2.out] at this; exact this.symm
      subst hn5
      have O5 := Lib.hid (o5.wider (lo' := w2.heap.size) (by omega) (Nat.le_refl _) (Nat.le_refl _))
      have HB5 := Lib.hid (HNX.out.trans (hb5.mono hzr))
      clear o5 hb5
      go_wp2_with fail
      go_roundw
      case rel => exact ⟨k + 1, A5, c5, by omega, by go_num, rfl, O5.out, HB5.out⟩
      case measure => simp [intOf]; omega
    · have hkn : k = nk := by omega
      have hall : keys.take k = keys := List.take_of_length_le (by rw [HKL.out]; omega)
      rw [hall] at om
      have ht5 := HT3.out.below hnx HT3.out.hi_le
      have hr5 : wr.heap[w.heap.size]? = some (.cells #[.int .i64 0, .slice none 0 0, .int .i64 0, .slice none 0 0] 42) := (hnx.block _ (by omega)).trans HR3.out
      have hbw := HB.out.trans (hnx.mono (by omega))
      have OM := Lib.hid om
      have OKR := Lib.hid okr
      have HT5 := Lib.hid ht5
      have HR5 := Lib.hid hr5
      have HBW := Lib.hid hbw
      clear hkn hall om okr ht5 hr5 hbw hnx
      go_wp2_with fail
      refine (headerOf_c _ _ _ _ _ _ _ _ _ _ _ _ _ OKR.out.read HT5.out OKR.out.cap hn1 hn3x HKE.out HNS.out hto).mono ?_
      rintro e w6 ⟨Ah, nh, ch, rfl, oh, hb6⟩
      have hz6 := hb6.size
      have hr6 : w6.heap[w.heap.size]? = some (.cells #[.int .i64 0, .slice none 0 0, .int .i64 0, .slice none 0 0] 42) := (hb6.block _ (by omega)).trans HR5.out
      have ok6 := OKR.out.below hb6 OKR.out.hi_le
      have om6 := OM.out.below hb6 OM.out.hi_le
      have hbw := HBW.out.trans (hb6.mono (by omega))
      have kc0 := cell_of_row w6 w.heap.size 0 _ _ _ hr6
      have kc1 := cell_of_row w6 w.heap.size 1 _ _ _ hr6
      have kc2 := cell_of_row w6 w.heap.size 2 _ _ _ hr6
      have kc3 := cell_of_row w6 w.heap.size 3 _ _ _ hr6
      have kf := rd_frozen hr6
      simp only [List.getElem?_toArray, List.getElem?_cons_zero, List.getElem?_cons_succ] at kc0 kc1 kc2 kc3
      obtain ⟨H, hH⟩ : ∃ H, H = hdrL (fillL keys) to keys ns := ⟨_, rfl⟩
      rw [← hH] at oh
      obtain ⟨k0, hk0⟩ : ∃ v, v = keys.getD 0 0 := ⟨_, rfl⟩
      have hve : elB k0 = true := by rw [hk0]; exact HKE.out _ (getD_mem (by rw [HKL.out]; omega))
      have hgd := hdrL_good (fillL keys) to (by rw [fillL_len, HKL.out]; omega) (fillL_num _) keys ns (by rw [HKL.out, HT5.out.len]) (by rw [HKL.out]; exact hn1)
      rw [← hH] at hgd
      have hHB : listB H = true := listB_iff.2 ⟨by rw [hgd.1]; omega, hgd.2⟩
      obtain ⟨b, o, rfl, hbl, hbk, hcc⟩ := ok6.read.at_ (by omega)
      have hbne : ¬ b = w.heap.size := by simp at hbl; omega
      have hbne2 : ¬ w.heap.size = b := fun e => hbne e.symm
      have hn0 : 0 < nk := by omega
      have hck := hcc 0 (by omega)
      rw [← hk0, Nat.add_zero] at hck
      have hTG := Lib.hid (tagOf_c k0 Ah nh ch _ _ H w6.drew oh.read.drew)
      have htg := tagP_eq hve hHB
      have HTT := Lib.hid htg
      have HHH := Lib.hid hH
      have HK0 := Lib.hid hk0
      have OH := Lib.hid oh
      have OM6 := Lib.hid om6
      have HBW6 := Lib.hid hbw
      clear hcc hH hk0 hve hgd hHB htg oh om6 ok6 hr6 hbw hb6
      go_wp2_with fail
      go_region_held3 (fun w' => w'.cell? ⟨b, o, none⟩ = some (.int .i64 k0))
        (first | go_keep)
        ((first
          | (go_at_call 86; refine (public_c _ _).mono ?_; rintro e w' ⟨rfl, rfl⟩)
          | (go_at_call 74; refine hTG.out.mono ?_; rintro e w' ⟨rfl, rfl⟩; rw [HTT.out])))
      go_wp2_with fail
      have hfin : NewPkt M true w (.returned (.tuple #[.agg #[.int .i64 (mulP s 5), .slice Ah nh ch, .int .i64 (tagL k0 H), .slice Am 6 cm], .bool true])) ((((w6.setCell ⟨w.heap.size, 0, none⟩ (.int .i64 (mulP s 5))).setCell ⟨w.heap.size, 1, none⟩ (.slice Ah nh ch)).setCell ⟨w.heap.size, 2, none⟩ (.int .i64 (tagL k0 H))).setCell ⟨w.heap.size, 3, none⟩ (.slice Am 6 cm)).drew := by
        have e1 : M.e = mulP s 5 := by rw [HM.out]; rfl
        have e2 : M.h = H := by rw [HM.out, HHH.out, HK.out]; rfl
        have e3 : M.t = tagL k0 H := by rw [HM.out, HHH.out, HK0.out, HK.out]; rfl
        have e4 : M.b = masksL (packL ls) keys := by rw [HM.out, HK.out]; rfl
        have hbw := HBW6.out
        refine ⟨Ah, nh, ch, Am, 6, cm, by rw [e1, e3], ?_, ((((hbw.setCell (Nat.le_refl _) _).setCell (Nat.le_refl _) _).setCell (Nat.le_refl _) _).setCell (Nat.le_refl _) _).drew⟩
        rw [e2, e4]
        exact (set4_two OH.out OM6.out (.inr (Nat.le_refl _)) (by omega) (by omega) (by omega) (by omega) _ _ _ _).drew
      have HFIN := Lib.hid hfin
      clear hfin
      refine bodyPost_ret (v := .tuple #[.agg #[.int .i64 (mulP s 5), .slice Ah nh ch, .int .i64 (tagL k0 H), .slice Am 6 cm], .bool true]) (by simp [results, Try.results40, go_sem, kc0, kc1, kc2, kc3]) rfl ?_
      exact HFIN.out
end Go.Proofs.Ytbkecimhbibnjaa
