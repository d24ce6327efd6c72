/-
  Contracts of the functions that compare, mark and check packets.
  Conditions: the packets' slices read as lists of whole numbers.
-/
import Derived.Test.YtoocjalhcliebaaTwo
import Derived.Test.YtoocjalhcliebaaLawsC
namespace Go.Proofs.Ytoocjalhcliebaa
open Go Go.RowKit

theorem after_box1 {w w2 : World} {cs : Array Value} {t : TypeId} (h : Below (w.alloc (.cells cs t)).heap.size (w.alloc (.cells cs t)) w2) : w2.heap[w.heap.size]? = some (.cells cs t) :=
  (h.block _ (by simp)).trans (heap_alloc_new w _)
theorem after_box2 {w w2 : World} {cs cs2 : Array Value} {t t2 : TypeId} (h : Below ((w.alloc (.cells cs t)).alloc (.cells cs2 t2)).heap.size ((w.alloc (.cells cs t)).alloc (.cells cs2 t2)) w2) :
    w2.heap[w.heap.size]? = some (.cells cs t) ∧ w2.heap[w.heap.size + 1]? = some (.cells cs2 t2) := by
  constructor
  · exact (h.block _ (by simp <;> omega)).trans ((heap_alloc_old _ _ (by simp)).trans (heap_alloc_new w _))
  · have e : (w.alloc (.cells cs t)).heap.size = w.heap.size + 1 := by simp
    have g := heap_alloc_new (w.alloc (.cells cs t)) (.cells cs2 t2)
    rw [e] at g
    exact (h.block _ (by simp)).trans g
set_option maxRecDepth 100000 in
set_option maxHeartbeats 1600000 in
theorem samePacket_t (e t : Int) (A : Option Addr) (n c : Nat) (A2 : Option Addr) (n2 c2 : Nat) (B : Option Addr) (m d : Nat) (B2 : Option Addr) (m2 d2 : Nat) (lo hi lo2 hi2 : Nat) (h b : List Int) (w : World) (ha : TwoR w lo hi h b A n c A2 n2 c2) (hb : TwoR w lo2 hi2 h b B m d B2 m2 d2) (hn : n ≤ 4194304) (hn2 : n2 ≤ 4194304) :
    Calls Try.prog 36 #[.agg #[.int .i64 e, .slice A n c, .int .i64 t, .slice A2 n2 c2], .agg #[.int .i64 e, .slice B m d, .int .i64 t, .slice B2 m2 d2]] w (Tells true w) := by
  have hab := (ha.alloc (.cells #[.int .i64 e, .slice A n c, .int .i64 t, .slice A2 n2 c2] 45)).alloc (.cells #[.int .i64 e, .slice B m d, .int .i64 t, .slice B2 m2 d2] 45)
  have hbb := (hb.alloc (.cells #[.int .i64 e, .slice A n c, .int .i64 t, .slice A2 n2 c2] 45)).alloc (.cells #[.int .i64 e, .slice B m d, .int .i64 t, .slice B2 m2 d2] 45)
  have hbw0 : Below w.heap.size w ((w.alloc (.cells #[.int .i64 e, .slice A n c, .int .i64 t, .slice A2 n2 c2] 45)).alloc (.cells #[.int .i64 e, .slice B m d, .int .i64 t, .slice B2 m2 d2] 45)) := ((Below.refl _ _).alloc (Nat.le_refl _) _).alloc (by simp) _
  go_enter Try.func36, Try.ntmps36
  go_wp2_with fail
  refine (sameInts_t _ _ _ _ _ _ _ _ _ _ _ _ hab.1 hbb.1 hn).mono ?_
  rintro e w2 ⟨rfl, h2⟩
  obtain ⟨r1, r2⟩ := after_box2 h2
  have k2 := cell_of_row w2 w.heap.size 2 _ _ _ r1
  have k3 := cell_of_row w2 w.heap.size 3 _ _ _ r1
  simp only [List.getElem?_toArray, List.getElem?_cons_zero, List.getElem?_cons_succ] at k2 k3
  have p2 := cell_of_row w2 (w.heap.size + 1) 2 _ _ _ r2
  have p3 := cell_of_row w2 (w.heap.size + 1) 3 _ _ _ r2
  simp only [List.getElem?_toArray, List.getElem?_cons_zero, List.getElem?_cons_succ] at p2 p3
  have ha2 := hab.below h2 hab.hi_le
  have hb2 := hbb.below h2 hbb.hi_le
  have hz2 := h2.size
  have hbw := hbw0.trans (h2.mono hbw0.size)
  clear r1 r2 hab hbb h2 hbw0
  go_wp2_with fail
  refine (sameInts_t _ _ _ _ _ _ _ _ _ _ _ _ ha2.2.1 hb2.2.1 hn2).mono ?_
  rintro e w3 ⟨rfl, h3⟩
  have hbw3 := hbw.trans (h3.mono hbw.size)
  clear k2 k3 p2 p3 h3 hbw
  go_wp2_with fail
  go_ret
  exact ⟨rfl, hbw3⟩
set_option maxRecDepth 100000 in
set_option maxHeartbeats 1600000 in
theorem samePeeled_t (k x e t : Int) (A : Option Addr) (n c : Nat) (A2 : Option Addr) (n2 c2 : Nat) (B : Option Addr) (m d : Nat) (B2 : Option Addr) (m2 d2 : Nat) (lo hi lo2 hi2 : Nat) (h b : List Int) (w : World) (ha : TwoR w lo hi h b A n c A2 n2 c2) (hb : TwoR w lo2 hi2 h b B m d B2 m2 d2) (hn : n ≤ 4194304) (hn2 : n2 ≤ 4194304) :
    Calls Try.prog 21 #[.agg #[.int .i64 k, .int .i64 x, .int .i64 e, .slice A n c, .int .i64 t, .slice A2 n2 c2], .agg #[.int .i64 k, .int .i64 x, .int .i64 e, .slice B m d, .int .i64 t, .slice B2 m2 d2]] w (Tells true w) := by
  have hab := (ha.alloc (.cells #[.int .i64 k, .int .i64 x, .int .i64 e, .slice A n c, .int .i64 t, .slice A2 n2 c2] 47)).alloc (.cells #[.int .i64 k, .int .i64 x, .int .i64 e, .slice B m d, .int .i64 t, .slice B2 m2 d2] 47)
  have hbb := (hb.alloc (.cells #[.int .i64 k, .int .i64 x, .int .i64 e, .slice A n c, .int .i64 t, .slice A2 n2 c2] 47)).alloc (.cells #[.int .i64 k, .int .i64 x, .int .i64 e, .slice B m d, .int .i64 t, .slice B2 m2 d2] 47)
  have hbw0 : Below w.heap.size w ((w.alloc (.cells #[.int .i64 k, .int .i64 x, .int .i64 e, .slice A n c, .int .i64 t, .slice A2 n2 c2] 47)).alloc (.cells #[.int .i64 k, .int .i64 x, .int .i64 e, .slice B m d, .int .i64 t, .slice B2 m2 d2] 47)) := ((Below.refl _ _).alloc (Nat.le_refl _) _).alloc (by simp) _
  go_enter Try.func21, Try.ntmps21
  go_wp2_with fail
  refine (samePacket_t e t A n c A2 n2 c2 B m d B2 m2 d2 _ _ _ _ _ _ _ hab hbb hn hn2).mono ?_
  rintro e w2 ⟨rfl, h2⟩
  have hbw := hbw0.trans (h2.mono hbw0.size)
  clear hab hbb h2 hbw0
  go_wp2_with fail
  go_ret
  exact ⟨rfl, hbw⟩
/-- What marking a packet leaves. -/
def MarkTwo (a : Int) (lo hi : Nat) (A : Option Addr) (n c : Nat) (A2 : Option Addr) (n2 c2 : Nat) (w : World) (e : Ending) (w' : World) : Prop :=
  e = .returned (.int .i64 (a + (n : Int) + (n2 : Int))) ∧ TwoO w' lo hi (marks a n) (marks (a + (n : Int)) n2) A n c A2 n2 c2 ∧ Only lo hi w w'
theorem valid_parts (e : Int) (h : List Int) (t : Int) (b : List Int) {n n2 : Nat} (hn : h.length = n) (hn2 : b.length = n2) : validB ⟨e, h, t, b⟩ = (elB e && (decide ((n : Int) = 9) && listB h) && (decide ((n2 : Int) = 6) && listB b) && numB t) := by
  subst hn hn2
  have e1 : decide ((h.length : Int) = 9) = decide (h.length = 9) := by rw [Bool.eq_iff_iff]; simp; omega
  have e2 : decide ((b.length : Int) = 6) = decide (b.length = 6) := by rw [Bool.eq_iff_iff]; simp; omega
  rw [e1, e2, validB]
  cases elB e <;> cases listB h <;> cases listB b <;> cases numB t <;> simp
theorem valid_false {e : Int} {h : List Int} {t : Int} {b : List Int} (hv : ¬ (elB e = true ∧ listB h = true ∧ h.length = 9 ∧ listB b = true ∧ b.length = 6 ∧ 0 ≤ t ∧ t ≤ 990)) : validB ⟨e, h, t, b⟩ = false := by
  cases g : validB ⟨e, h, t, b⟩ with
  | false => rfl
  | true => exact absurd (validB_iff.1 g) hv
set_option maxRecDepth 100000 in
set_option maxHeartbeats 1600000 in
theorem packetValid_c (e t : Int) (A : Option Addr) (n c : Nat) (A2 : Option Addr) (n2 c2 : Nat) (lo hi : Nat) (h b : List Int) (w : World) (hs : TwoR w lo hi h b A n c A2 n2 c2) :
    Calls Try.prog 39 #[.agg #[.int .i64 e, .slice A n c, .int .i64 t, .slice A2 n2 c2]] w (Tells (validB ⟨e, h, t, b⟩) w) := by
  rw [valid_parts e h t b hs.1.len hs.2.1.len]
  have hab := hs.alloc (.cells #[.int .i64 e, .slice A n c, .int .i64 t, .slice A2 n2 c2] 45)
  have hl1 := hab.1
  have hl2 := hab.2.1
  clear hab hs
  obtain ⟨x2, hx2⟩ : ∃ x, x = (decide ((n : Int) = 9) && listB h) := ⟨_, rfl⟩
  obtain ⟨x3, hx3⟩ : ∃ x, x = (decide ((n2 : Int) = 6) && listB b) := ⟨_, rfl⟩
  rw [← hx2, ← hx3]
  have X2 := Lib.hid hx2.symm
  have X3 := Lib.hid hx3.symm
  clear hx2 hx3
  cases h1 : elB e with
  | false =>
    go_enter Try.func39, Try.ntmps39
    go_wp2_with (first | (go_at_call 16; refine (isElement_c _ _).mono ?_; rintro e w' ⟨rfl, rfl⟩) | (go_at_call 49; (with_reducible refine (listOf_c _ _ _ _ _ _ _ _ hl1).mono ?_); rintro e w' ⟨rfl, rfl⟩; rw [X2.out]) | (go_at_call 49; (with_reducible refine (listOf_c _ _ _ _ _ _ _ _ hl2).mono ?_); rintro e w' ⟨rfl, rfl⟩; rw [X3.out]) | (go_at_call 50; refine (isNumber_c _ _).mono ?_; rintro e w' ⟨rfl, rfl⟩))
    go_ret
    exact ⟨rfl, (Below.refl _ _).alloc (Nat.le_refl _) _⟩
  | true => cases x2 with
    | false =>
      go_enter Try.func39, Try.ntmps39
      go_wp2_with (first | (go_at_call 16; refine (isElement_c _ _).mono ?_; rintro e w' ⟨rfl, rfl⟩) | (go_at_call 49; (with_reducible refine (listOf_c _ _ _ _ _ _ _ _ hl1).mono ?_); rintro e w' ⟨rfl, rfl⟩; rw [X2.out]) | (go_at_call 49; (with_reducible refine (listOf_c _ _ _ _ _ _ _ _ hl2).mono ?_); rintro e w' ⟨rfl, rfl⟩; rw [X3.out]) | (go_at_call 50; refine (isNumber_c _ _).mono ?_; rintro e w' ⟨rfl, rfl⟩))
      go_ret
      exact ⟨rfl, (Below.refl _ _).alloc (Nat.le_refl _) _⟩
    | true => cases x3 with
      | false =>
        go_enter Try.func39, Try.ntmps39
        go_wp2_with (first | (go_at_call 16; refine (isElement_c _ _).mono ?_; rintro e w' ⟨rfl, rfl⟩) | (go_at_call 49; (with_reducible refine (listOf_c _ _ _ _ _ _ _ _ hl1).mono ?_); rintro e w' ⟨rfl, rfl⟩; rw [X2.out]) | (go_at_call 49; (with_reducible refine (listOf_c _ _ _ _ _ _ _ _ hl2).mono ?_); rintro e w' ⟨rfl, rfl⟩; rw [X3.out]) | (go_at_call 50; refine (isNumber_c _ _).mono ?_; rintro e w' ⟨rfl, rfl⟩))
        go_ret
        exact ⟨rfl, (Below.refl _ _).alloc (Nat.le_refl _) _⟩
      | true => cases h4 : numB t with
        | false =>
          go_enter Try.func39, Try.ntmps39
          go_wp2_with (first | (go_at_call 16; refine (isElement_c _ _).mono ?_; rintro e w' ⟨rfl, rfl⟩) | (go_at_call 49; (with_reducible refine (listOf_c _ _ _ _ _ _ _ _ hl1).mono ?_); rintro e w' ⟨rfl, rfl⟩; rw [X2.out]) | (go_at_call 49; (with_reducible refine (listOf_c _ _ _ _ _ _ _ _ hl2).mono ?_); rintro e w' ⟨rfl, rfl⟩; rw [X3.out]) | (go_at_call 50; refine (isNumber_c _ _).mono ?_; rintro e w' ⟨rfl, rfl⟩))
          go_ret
          exact ⟨rfl, (Below.refl _ _).alloc (Nat.le_refl _) _⟩
        | true =>
          go_enter Try.func39, Try.ntmps39
          go_wp2_with (first | (go_at_call 16; refine (isElement_c _ _).mono ?_; rintro e w' ⟨rfl, rfl⟩) | (go_at_call 49; (with_reducible refine (listOf_c _ _ _ _ _ _ _ _ hl1).mono ?_); rintro e w' ⟨rfl, rfl⟩; rw [X2.out]) | (go_at_call 49; (with_reducible refine (listOf_c _ _ _ _ _ _ _ _ hl2).mono ?_); rintro e w' ⟨rfl, rfl⟩; rw [X3.out]) | (go_at_call 50; refine (isNumber_c _ _).mono ?_; rintro e w' ⟨rfl, rfl⟩))
          go_ret
          exact ⟨rfl, (Below.refl _ _).alloc (Nat.le_refl _) _⟩
set_option maxRecDepth 100000 in
set_option maxHeartbeats 1600000 in
theorem sPacketValid_c (e t : Int) (A : Option Addr) (n c : Nat) (A2 : Option Addr) (n2 c2 : Nat) (lo hi : Nat) (h b : List Int) (w : World) (hs : TwoR w lo hi h b A n c A2 n2 c2) (hn : n ≤ 4194304) (hn2 : n2 ≤ 4194304) :
    Calls Try.prog 40 #[.agg #[.int .i64 e, .slice A n c, .int .i64 t, .slice A2 n2 c2]] w (Tells (validB ⟨e, h, t, b⟩) w) := by
  rw [valid_parts e h t b hs.1.len hs.2.1.len]
  have hab := hs.alloc (.cells #[.int .i64 e, .slice A n c, .int .i64 t, .slice A2 n2 c2] 45)
  have hl1 := hab.1
  have hl2 := hab.2.1
  clear hab hs
  have hnt : (decide (0 ≤ t) && decide (t ≤ 990)) = numB t := rfl
  have HNT := Lib.hid hnt
  clear hnt
  cases h1 : elB e with
  | false =>
    go_enter Try.func40, Try.ntmps40
    go_wp2_with (first | (go_at_call 18; refine (l1Is_c _ _).mono ?_; rintro e w' ⟨rfl, rfl⟩) | (go_at_call 51; (with_reducible refine (l2List_c _ _ _ _ _ _ _ hl1 (Nat.le_trans hn (by decide))).mono ?_); rintro e w' ⟨rfl, rfl⟩) | (go_at_call 51; (with_reducible refine (l2List_c _ _ _ _ _ _ _ hl2 (Nat.le_trans hn2 (by decide))).mono ?_); rintro e w' ⟨rfl, rfl⟩) | (go_at_call 34; refine (l6In_c _ _ _ _).mono ?_; rintro e w' ⟨rfl, rfl⟩; rw [HNT.out]))
    go_ret
    exact ⟨ret_b (by simp), (Below.refl _ _).alloc (Nat.le_refl _) _⟩
  | true => cases h2 : listB h with
    | false =>
      go_enter Try.func40, Try.ntmps40
      go_wp2_with (first | (go_at_call 18; refine (l1Is_c _ _).mono ?_; rintro e w' ⟨rfl, rfl⟩) | (go_at_call 51; (with_reducible refine (l2List_c _ _ _ _ _ _ _ hl1 (Nat.le_trans hn (by decide))).mono ?_); rintro e w' ⟨rfl, rfl⟩) | (go_at_call 51; (with_reducible refine (l2List_c _ _ _ _ _ _ _ hl2 (Nat.le_trans hn2 (by decide))).mono ?_); rintro e w' ⟨rfl, rfl⟩) | (go_at_call 34; refine (l6In_c _ _ _ _).mono ?_; rintro e w' ⟨rfl, rfl⟩; rw [HNT.out]))
      go_ret
      exact ⟨ret_b (by simp), (Below.refl _ _).alloc (Nat.le_refl _) _⟩
    | true =>
      by_cases h3 : (n : Int) = 9
      · have h3b : ((n : Int) == 9) = true := by simpa using h3
        have H3 := Lib.hid h3
        clear h3
        cases h4 : numB t with
        | false =>
          go_enter Try.func40, Try.ntmps40
          go_wp2_with (first | (go_at_call 18; refine (l1Is_c _ _).mono ?_; rintro e w' ⟨rfl, rfl⟩) | (go_at_call 51; (with_reducible refine (l2List_c _ _ _ _ _ _ _ hl1 (Nat.le_trans hn (by decide))).mono ?_); rintro e w' ⟨rfl, rfl⟩) | (go_at_call 51; (with_reducible refine (l2List_c _ _ _ _ _ _ _ hl2 (Nat.le_trans hn2 (by decide))).mono ?_); rintro e w' ⟨rfl, rfl⟩) | (go_at_call 34; refine (l6In_c _ _ _ _).mono ?_; rintro e w' ⟨rfl, rfl⟩; rw [HNT.out]))
          go_ret
          exact ⟨ret_b (by simp), (Below.refl _ _).alloc (Nat.le_refl _) _⟩
        | true => cases h5 : listB b with
          | false =>
            go_enter Try.func40, Try.ntmps40
            go_wp2_with (first | (go_at_call 18; refine (l1Is_c _ _).mono ?_; rintro e w' ⟨rfl, rfl⟩) | (go_at_call 51; (with_reducible refine (l2List_c _ _ _ _ _ _ _ hl1 (Nat.le_trans hn (by decide))).mono ?_); rintro e w' ⟨rfl, rfl⟩) | (go_at_call 51; (with_reducible refine (l2List_c _ _ _ _ _ _ _ hl2 (Nat.le_trans hn2 (by decide))).mono ?_); rintro e w' ⟨rfl, rfl⟩) | (go_at_call 34; refine (l6In_c _ _ _ _).mono ?_; rintro e w' ⟨rfl, rfl⟩; rw [HNT.out]))
            go_ret
            exact ⟨ret_b (by simp), (Below.refl _ _).alloc (Nat.le_refl _) _⟩
          | true =>
            by_cases h6 : (n2 : Int) = 6
            · have h6b : ((n2 : Int) == 6) = true := by simpa using h6
              have H6 := Lib.hid h6
              clear h6
              go_enter Try.func40, Try.ntmps40
              go_wp2_with (first | (go_at_call 18; refine (l1Is_c _ _).mono ?_; rintro e w' ⟨rfl, rfl⟩) | (go_at_call 51; (with_reducible refine (l2List_c _ _ _ _ _ _ _ hl1 (Nat.le_trans hn (by decide))).mono ?_); rintro e w' ⟨rfl, rfl⟩) | (go_at_call 51; (with_reducible refine (l2List_c _ _ _ _ _ _ _ hl2 (Nat.le_trans hn2 (by decide))).mono ?_); rintro e w' ⟨rfl, rfl⟩) | (go_at_call 34; refine (l6In_c _ _ _ _).mono ?_; rintro e w' ⟨rfl, rfl⟩; rw [HNT.out]))
              go_ret
              exact ⟨ret_b (by simp [H3.out, H6.out]), (Below.refl _ _).alloc (Nat.le_refl _) _⟩
            · have h6b : ((n2 : Int) == 6) = false := by simpa using h6
              have H6 := Lib.hid h6
              clear h6
              go_enter Try.func40, Try.ntmps40
              go_wp2_with (first | (go_at_call 18; refine (l1Is_c _ _).mono ?_; rintro e w' ⟨rfl, rfl⟩) | (go_at_call 51; (with_reducible refine (l2List_c _ _ _ _ _ _ _ hl1 (Nat.le_trans hn (by decide))).mono ?_); rintro e w' ⟨rfl, rfl⟩) | (go_at_call 51; (with_reducible refine (l2List_c _ _ _ _ _ _ _ hl2 (Nat.le_trans hn2 (by decide))).mono ?_); rintro e w' ⟨rfl, rfl⟩) | (go_at_call 34; refine (l6In_c _ _ _ _).mono ?_; rintro e w' ⟨rfl, rfl⟩; rw [HNT.out]))
              go_ret
              exact ⟨ret_b (by simp [H6.out]), (Below.refl _ _).alloc (Nat.le_refl _) _⟩
      · have h3b : ((n : Int) == 9) = false := by simpa using h3
        have H3 := Lib.hid h3
        clear h3
        go_enter Try.func40, Try.ntmps40
        go_wp2_with (first | (go_at_call 18; refine (l1Is_c _ _).mono ?_; rintro e w' ⟨rfl, rfl⟩) | (go_at_call 51; (with_reducible refine (l2List_c _ _ _ _ _ _ _ hl1 (Nat.le_trans hn (by decide))).mono ?_); rintro e w' ⟨rfl, rfl⟩) | (go_at_call 51; (with_reducible refine (l2List_c _ _ _ _ _ _ _ hl2 (Nat.le_trans hn2 (by decide))).mono ?_); rintro e w' ⟨rfl, rfl⟩) | (go_at_call 34; refine (l6In_c _ _ _ _).mono ?_; rintro e w' ⟨rfl, rfl⟩; rw [HNT.out]))
        go_ret
        exact ⟨ret_b (by simp [H3.out]), (Below.refl _ _).alloc (Nat.le_refl _) _⟩
end Go.Proofs.Ytoocjalhcliebaa
