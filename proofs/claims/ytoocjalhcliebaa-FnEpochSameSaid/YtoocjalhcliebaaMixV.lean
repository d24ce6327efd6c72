/-
  The functions that check a mix.
  Conditions: the slices read as lists.
-/
import Derived.Test.YtoocjalhcliebaaMixW
import Derived.Test.YtoocjalhcliebaaBaseA
import Derived.IntWalk
namespace Go.Proofs.Ytoocjalhcliebaa
open Go Go.RowKit

theorem hasB_yes {xs : List Int} {k : Nat} {v : Int} (hk : k < xs.length) (h : xs.getD k 0 = v) : hasB xs v = true := hasB_iff.2 (h ▸ getD_mem hk)
theorem hasB_none {xs : List Int} {v : Int} (h : ∀ j, j < xs.length → xs.getD j 0 ≠ v) : hasB xs v = false := by
  cases g : hasB xs v with
  | false => rfl
  | true =>
    obtain ⟨j, hj, e⟩ := List.getElem_of_mem (hasB_iff.1 g)
    exact absurd (by simpa [List.getD_eq_getElem?_getD, hj] using e) (h j hj)
def IndexPost (xs : List Int) (v : Int) (w : World) (e : Ending) (w' : World) : Prop := ∃ r : Int, e = .returned (.int .i64 r) ∧ decide (0 ≤ r) = hasB xs v ∧ w = w'
set_option maxHeartbeats 800000 in
theorem index_c (A : Option Addr) (n c lo hi : Nat) (xs : List Int) (v : Int) (w : World) (hs : SlR .i64 w lo hi A n xs) (hn : n ≤ 4194304) : Calls Try.prog 37 #[.slice A n c, .int .i64 v] w (IndexPost xs v w) := by
  have HL := Lib.hid hs.len
  go_enter Try.func37, Try.ntmps37
  go_wp2
  go_loop [8] (fun i => ∃ k : Nat, k ≤ n ∧ i = .int .i64 k ∧ ∀ j, j < k → xs.getD j 0 ≠ v) (fun i => n - (intOf i).toNat)
  case atStart => exact ⟨0, Nat.zero_le _, rfl, fun j hj => absurd hj (by omega)⟩
  case round =>
    obtain ⟨k, hk, rfl, hp⟩ := hrel
    have HP := Lib.hid hp
    clear hp
    by_cases hlt : k < n
    · obtain ⟨b, o, rfl, _, _, hc⟩ := hs.at_ (by omega)
      have hcell := hc k hlt
      obtain ⟨y, hy⟩ : ∃ y, y = xs.getD k 0 := ⟨_, rfl⟩
      rw [← hy] at hcell
      have HY := Lib.hid hy
      clear hc hy hs
      by_cases hyv : v = y
      · have hb : (v == y) = true := by simpa using hyv
        have HYV := Lib.hid hyv
        clear hyv
        go_wp2
        go_ret
        exact ⟨_, rfl, by rw [hasB_yes (by rw [HL.out]; exact hlt) (HY.out.symm.trans HYV.out.symm)]; simp, rfl⟩
      · have hb : (v == y) = false := by simpa using hyv
        have hnx : ∀ j, j < k + 1 → xs.getD j 0 ≠ v := fun j hj => by
          by_cases e : j = k
          · subst e; rw [← HY.out]; exact fun e => hyv e.symm
          · exact HP.out j (by omega)
        have HN := Lib.hid hnx
        clear hyv hnx
        go_wp2
        go_round
        case rel => exact ⟨k + 1, by omega, by go_num, HN.out⟩
        case measure => simp [intOf]; omega
    · have hno : hasB xs v = false := hasB_none (fun j hj => HP.out j (by have := HL.out; omega))
      have HN := Lib.hid hno
      clear hno hs
      go_wp2
      go_ret
      exact ⟨-1, rfl, by rw [HN.out]; rfl, rfl⟩
theorem contains_c (A : Option Addr) (n c lo hi : Nat) (xs : List Int) (v : Int) (w : World) (hs : SlR .i64 w lo hi A n xs) (hn : n ≤ 4194304) : Calls Try.prog 22 #[.slice A n c, .int .i64 v] w fun e w' => e = .returned (.bool (hasB xs v)) ∧ w = w' := by
  go_enter Try.func22, Try.ntmps22
  go_wp2_with fail
  refine (index_c _ _ _ _ _ xs v _ hs hn).mono ?_
  rintro e' w' ⟨r, rfl, hr, rfl⟩
  have HR := Lib.hid hr
  clear hr
  go_wp2_with fail
  go_ret
  exact ⟨ret_b (by rw [← HR.out]), rfl⟩
set_option maxHeartbeats 800000 in
theorem l1Has_c (A : Option Addr) (n c lo hi : Nat) (xs : List Int) (v : Int) (w : World) (hs : SlR .i64 w lo hi A n xs) (hn : n ≤ 4194304) : Calls Try.prog 24 #[.slice A n c, .int .i64 v] w fun e w' => e = .returned (.bool (hasB xs v)) ∧ w = w' := by
  have HL := Lib.hid hs.len
  go_enter Try.func24, Try.ntmps24
  go_wp2
  go_loop [5] (fun i => ∃ k : Nat, k ≤ n ∧ i = .int .i64 k ∧ ∀ j, j < k → xs.getD j 0 ≠ v) (fun i => n - (intOf i).toNat)
  case atStart => exact ⟨0, Nat.zero_le _, rfl, fun j hj => absurd hj (by omega)⟩
  case round =>
    obtain ⟨k, hk, rfl, hp⟩ := hrel
    have HP := Lib.hid hp
    clear hp
    by_cases hlt : k < n
    · obtain ⟨b, o, rfl, _, _, hc⟩ := hs.at_ (by omega)
      have hcell := hc k hlt
      obtain ⟨y, hy⟩ : ∃ y, y = xs.getD k 0 := ⟨_, rfl⟩
      rw [← hy] at hcell
      have HY := Lib.hid hy
      clear hc hy hs
      by_cases hyv : y = v
      · have hb : (y == v) = true := by simpa using hyv
        have HYV := Lib.hid hyv
        clear hyv
        go_wp2
        go_ret
        exact ⟨ret_b (hasB_yes (by rw [HL.out]; exact hlt) (HY.out.symm.trans HYV.out)).symm, rfl⟩
      · have hb : (y == v) = false := by simpa using hyv
        have hnx : ∀ j, j < k + 1 → xs.getD j 0 ≠ v := fun j hj => by
          by_cases e : j = k
          · subst e; rw [← HY.out]; exact hyv
          · exact HP.out j (by omega)
        have HN := Lib.hid hnx
        clear hyv hnx
        go_wp2
        go_round
        case rel => exact ⟨k + 1, by omega, by go_num, HN.out⟩
        case measure => simp [intOf]; omega
    · have hno : hasB xs v = false := hasB_none (fun j hj => HP.out j (by have := HL.out; omega))
      have HN := Lib.hid hno
      clear hno hs
      go_wp2
      go_ret
      exact ⟨ret_b HN.out.symm, rfl⟩
set_option maxRecDepth 100000 in
set_option maxHeartbeats 1600000 in
theorem peeledValid_c (k x e t : Int) (A : Option Addr) (n c : Nat) (A2 : Option Addr) (n2 c2 : Nat) (lo hi : Nat) (h b : List Int) (w : World) (hs : TwoR w lo hi h b A n c A2 n2 c2) :
    Calls Try.prog 23 #[.agg #[.int .i64 k, .int .i64 x, .int .i64 e, .slice A n c, .int .i64 t, .slice A2 n2 c2]] w (Tells (okPeelB ⟨k, x, ⟨e, h, t, b⟩⟩) w) := by
  have hs0 := hs.alloc (.cells #[.int .i64 k, .int .i64 x, .int .i64 e, .slice A n c, .int .i64 t, .slice A2 n2 c2] 47)
  have hb0 : Below w.heap.size w (w.alloc (.cells #[.int .i64 k, .int .i64 x, .int .i64 e, .slice A n c, .int .i64 t, .slice A2 n2 c2] 47)) := (Below.refl w.heap.size w).alloc (Nat.le_refl _) _
  have hpv := packetValid_c e t A n c A2 n2 c2 lo hi h b _ hs0
  have HPV := Lib.hid hpv
  obtain ⟨v, hv⟩ : ∃ v, v = validB ⟨e, h, t, b⟩ := ⟨_, rfl⟩
  rw [show okPeelB ⟨k, x, ⟨e, h, t, b⟩⟩ = (kindB k && nameB x && v) by rw [hv]; rfl]
  have HV := Lib.hid hv
  clear hpv hs0 hs hv
  by_cases h1 : 0 ≤ k ∧ k ≤ 1
  · obtain ⟨h11, h12⟩ := h1
    have hk : kindB k = true := by simp [kindB]; omega
    have HK := Lib.hid hk
    clear hk
    cases hn : nameB x with
    | true =>
      go_enter Try.func23, Try.ntmps23
      go_wp2_with (first | (go_at_call 31; refine (within_c _ _ _ _).mono ?_; rintro e' w' ⟨rfl, rfl⟩) | (go_at_call 38; refine (isName_c _ _).mono ?_; rintro e' w' ⟨rfl, rfl⟩))
      refine HPV.out.mono ?_
      rintro e' w2 ⟨rfl, hb⟩
      rw [← HV.out]
      have hb2 := hb0.trans (hb.mono (by simp))
      go_wp2_with fail
      go_ret
      exact ⟨ret_b (by rw [HK.out]; simp), hb2⟩
    | false =>
      go_enter Try.func23, Try.ntmps23
      go_wp2_with (first | (go_at_call 31; refine (within_c _ _ _ _).mono ?_; rintro e' w' ⟨rfl, rfl⟩) | (go_at_call 38; refine (isName_c _ _).mono ?_; rintro e' w' ⟨rfl, rfl⟩))
      go_ret
      exact ⟨ret_b (by simp), hb0⟩
  · have hk : kindB k = false := by simp [kindB]; omega
    have hkd : (decide (0 ≤ k) && decide (k ≤ 1)) = false := hk
    have HK := Lib.hid hk
    clear hk h1
    go_enter Try.func23, Try.ntmps23
    go_wp2_with (first | (go_at_call 31; refine (within_c _ _ _ _).mono ?_; rintro e' w' ⟨rfl, rfl⟩; try rw [hkd]) | (go_at_call 38; refine (isName_c _ _).mono ?_; rintro e' w' ⟨rfl, rfl⟩))
    go_ret
    exact ⟨ret_b (by rw [HK.out]; rfl), hb0⟩
set_option maxRecDepth 100000 in
set_option maxHeartbeats 1600000 in
theorem l11Peeled_c (k x e t : Int) (A : Option Addr) (n c : Nat) (A2 : Option Addr) (n2 c2 : Nat) (lo hi : Nat) (h b : List Int) (w : World) (hs : TwoR w lo hi h b A n c A2 n2 c2) (hn : n ≤ 4194304) (hn2 : n2 ≤ 4194304) :
    Calls Try.prog 25 #[.agg #[.int .i64 k, .int .i64 x, .int .i64 e, .slice A n c, .int .i64 t, .slice A2 n2 c2]] w (Tells (okPeelB ⟨k, x, ⟨e, h, t, b⟩⟩) w) := by
  have hs0 := hs.alloc (.cells #[.int .i64 k, .int .i64 x, .int .i64 e, .slice A n c, .int .i64 t, .slice A2 n2 c2] 47)
  have hb0 : Below w.heap.size w (w.alloc (.cells #[.int .i64 k, .int .i64 x, .int .i64 e, .slice A n c, .int .i64 t, .slice A2 n2 c2] 47)) := (Below.refl w.heap.size w).alloc (Nat.le_refl _) _
  have hpv := sPacketValid_c e t A n c A2 n2 c2 lo hi h b _ hs0 hn hn2
  have HPV := Lib.hid hpv
  obtain ⟨v, hv⟩ : ∃ v, v = validB ⟨e, h, t, b⟩ := ⟨_, rfl⟩
  rw [show okPeelB ⟨k, x, ⟨e, h, t, b⟩⟩ = (kindB k && nameB x && v) by rw [hv]; rfl]
  have HV := Lib.hid hv
  clear hpv hs0 hs hv
  by_cases h1 : 0 ≤ k ∧ k ≤ 1
  · obtain ⟨h11, h12⟩ := h1
    have hk : kindB k = true := by simp [kindB]; omega
    have HK := Lib.hid hk
    clear hk
    cases hn : nameB x with
    | true =>
      obtain ⟨hn1, hn2⟩ : 0 ≤ x ∧ x ≤ 7 := by simpa [nameB] using hn
      go_enter Try.func25, Try.ntmps25
      go_wp2_with (first | (go_at_call 34; refine (l6In_c _ _ _ _).mono ?_; rintro e' w' ⟨rfl, rfl⟩))
      refine HPV.out.mono ?_
      rintro e' w2 ⟨rfl, hb⟩
      rw [← HV.out]
      have hb2 := hb0.trans (hb.mono (by simp))
      go_wp2_with fail
      go_ret
      exact ⟨ret_b (by rw [HK.out]; simp), hb2⟩
    | false =>
      have hnn : ¬ (0 ≤ x ∧ x ≤ 7) := by simpa [nameB] using hn
      have hnd : (decide (0 ≤ x) && decide (x ≤ 7)) = false := by simpa [nameB] using hn
      go_enter Try.func25, Try.ntmps25
      go_wp2_with (first | (go_at_call 34; refine (l6In_c _ _ _ _).mono ?_; rintro e' w' ⟨rfl, rfl⟩))
      go_ret
      exact ⟨ret_b (by simp), hb0⟩
  · have hk : kindB k = false := by simp [kindB]; omega
    have hkd : (decide (0 ≤ k) && decide (k ≤ 1)) = false := hk
    have HK := Lib.hid hk
    clear hk h1
    go_enter Try.func25, Try.ntmps25
    go_wp2_with (first | (go_at_call 34; refine (l6In_c _ _ _ _).mono ?_; rintro e' w' ⟨rfl, rfl⟩; try rw [hkd]))
    go_ret
    exact ⟨ret_b (by rw [HK.out]; rfl), hb0⟩
theorem mixB_no {m : MixD} (h : ¬ (elB m.secret = true ∧ m.seen.length ≤ 12 ∧ m.pool.length ≤ 5 ∧ seenB m.seen = true ∧ ∀ x ∈ m.pool, okPeelB x = true)) : mixB m = false := by
  cases g : mixB m with
  | false => rfl
  | true => exact absurd (mixB_iff.1 g) h
/-- The first k peeled packets are good. -/
def OkTo (pl : List Peel) (k : Nat) : Prop := ∀ j, j < k → okPeelB (pl.getD j zeroPeel) = true
theorem OkTo.next {pl : List Peel} {k : Nat} (h : OkTo pl k) (hk : okPeelB (pl.getD k zeroPeel) = true) : OkTo pl (k + 1) := fun j hj => by
  by_cases e : j = k
  · subst e; exact hk
  · exact h j (by omega)
theorem OkTo.all {pl : List Peel} {n : Nat} (h : OkTo pl n) (hn : pl.length ≤ n) : ∀ x ∈ pl, okPeelB x = true := by
  intro x hx
  obtain ⟨j, hj, rfl⟩ := List.getElem_of_mem hx
  have := h j (by omega)
  simpa [List.getD_eq_getElem?_getD, hj] using this
theorem mix_rest {s : Int} {seen : List Int} {pl : List Peel} {n n2 : Nat} (h1 : seenB seen = true) (h2 : ∀ x ∈ pl, okPeelB x = true) (hn : seen.length = n) (hn2 : pl.length = n2) : mixB ⟨s, seen, pl⟩ = (elB s && decide ((n : Int) ≤ 12) && decide ((n2 : Int) ≤ 5)) := by
  have ha : pl.all okPeelB = true := List.all_eq_true.2 h2
  have e1 : decide ((n : Int) ≤ 12) = decide (n ≤ 12) := by rw [Bool.eq_iff_iff]; simp; omega
  have e2 : decide ((n2 : Int) ≤ 5) = decide (n2 ≤ 5) := by rw [Bool.eq_iff_iff]; simp; omega
  simp only [mixB, h1, ha, hn, hn2, e1, e2, Bool.and_true]
set_option maxRecDepth 100000 in
set_option maxHeartbeats 3200000 in
theorem mixValid_c (s : Int) (A : Option Addr) (n c : Nat) (A2 : Option Addr) (n2 c2 lo hi : Nat) (seen : List Int) (pl : List Peel) (w : World) (hs : MixR w lo hi seen pl A n c A2 n2 c2) (hn : n ≤ 4194304) (hn2 : n2 ≤ 4194304) : Calls Try.prog 10 #[.agg #[.int .i64 s, .slice A n c, .slice A2 n2 c2]] w (Tells (mixB ⟨s, seen, pl⟩) w) := by
  have hs0 := hs.alloc (.cells #[.int .i64 s, .slice A n c, .slice A2 n2 c2] 26)
  have bx := BoxAt.new w #[.int .i64 s, .slice A n c, .slice A2 n2 c2] 26
  have hb0 : Below w.heap.size w (w.alloc (.cells #[.int .i64 s, .slice A n c, .slice A2 n2 c2] 26)) := (Below.refl w.heap.size w).alloc (Nat.le_refl _) _
  have HL := Lib.hid hs.len
  have hcap := hs.2.2
  obtain ⟨hcap1, hcap2⟩ := hcap
  clear hs
  by_cases hd : elB s = true ∧ n ≤ 12 ∧ n2 ≤ 5
  case neg =>
    have hm : mixB ⟨s, seen, pl⟩ = false := mixB_no (fun g => hd ⟨g.1, by have h1 := g.2.1; rw [HL.out.1] at h1; exact h1, by have h1 := g.2.2.1; rw [HL.out.2] at h1; exact h1⟩)
    have HM := Lib.hid hm
    clear hm
    cases h1 : elB s with
    | false =>
      clear hd
      go_enter Try.func10, Try.ntmps10
      go_wp2_with (go_at_call 16; refine (isElement_c _ _).mono ?_; rintro e' w' ⟨rfl, rfl⟩)
      go_ret
      exact ⟨ret_b HM.out.symm, hb0⟩
    | true =>
      by_cases h2 : n ≤ 12
      · have h3 : ¬ n2 ≤ 5 := fun h3 => hd ⟨h1, h2, h3⟩
        clear hd
        go_enter Try.func10, Try.ntmps10
        go_wp2_with (go_at_call 16; refine (isElement_c _ _).mono ?_; rintro e' w' ⟨rfl, rfl⟩)
        go_ret
        exact ⟨ret_b HM.out.symm, hb0⟩
      · clear hd
        go_enter Try.func10, Try.ntmps10
        go_wp2_with (go_at_call 16; refine (isElement_c _ _).mono ?_; rintro e' w' ⟨rfl, rfl⟩)
        go_ret
        exact ⟨ret_b HM.out.symm, hb0⟩
  case pos =>
  obtain ⟨h1, h2, h3⟩ := hd
  have H1 := Lib.hid h1
  go_enter Try.func10, Try.ntmps10
  go_wp2_with (go_at_call 16; refine (isElement_c _ _).mono ?_; rintro e' w' ⟨rfl, rfl⟩)
  go_loop [26] (fun i => ∃ k : Nat, k ≤ n ∧ i = .int .i64 k ∧ SeenTo seen k) (fun i => n - (intOf i).toNat)
  case atStart => exact ⟨0, Nat.zero_le _, rfl, SeenTo.zero _⟩
  case round =>
    obtain ⟨k, hk, rfl, hp⟩ := hrel
    have HP := Lib.hid hp
    clear hp
    by_cases hlt : k < n
    · obtain ⟨b, o, rfl, _, _, hc⟩ := hs0.1.at_ (by omega)
      have hcell := hc k hlt
      have htk := hs0.1.take_ (j := k) (by omega)
      obtain ⟨y, hy⟩ : ∃ y, y = seen.getD k 0 := ⟨_, rfl⟩
      rw [← hy] at hcell
      have HY := Lib.hid hy
      have hk0 : (0 : Int) ≤ (k : Int) := Int.natCast_nonneg _
      have hkc : (k : Int) ≤ (c : Int) := by omega
      have hno : seenAt seen k = false → mixB ⟨s, seen, pl⟩ = false := fun g => mixB_no (fun m => by have := seenB_no (by rw [HL.out.1]; exact hlt) g; rw [m.2.2.2.1] at this; cases this)
      have HNO := Lib.hid hno
      have HT := Lib.hid htk
      have hsa : seenAt seen k = (elB y && !(hasB (seen.take k) y)) := by rw [HY.out]; rfl
      have HSA := Lib.hid hsa
      clear hc hy hs0 hno htk hsa
      cases hv : elB y with
      | false =>
        go_wp2_with (first | (go_at_call 16; refine (isElement_c _ _).mono ?_; rintro e' w' ⟨rfl, rfl⟩) | (go_at_call 22; refine (contains_c _ _ _ _ _ (seen.take k) _ _ HT.out (by omega)).mono ?_; rintro e' w' ⟨rfl, rfl⟩))
        go_ret
        exact ⟨ret_b (HNO.out (by rw [HSA.out, hv]; rfl)).symm, hb0⟩
      | true =>
        cases hh : hasB (seen.take k) y with
        | true =>
          go_wp2_with (first | (go_at_call 16; refine (isElement_c _ _).mono ?_; rintro e' w' ⟨rfl, rfl⟩) | (go_at_call 22; refine (contains_c _ _ _ _ _ (seen.take k) _ _ HT.out (by omega)).mono ?_; rintro e' w' ⟨rfl, rfl⟩))
          go_ret
          exact ⟨ret_b (HNO.out (by rw [HSA.out, hv, hh]; rfl)).symm, hb0⟩
        | false =>
          have hnx := HP.out.next (by rw [HSA.out, hv, hh]; rfl)
          have HN := Lib.hid hnx
          clear hnx
          go_wp2_with (first | (go_at_call 16; refine (isElement_c _ _).mono ?_; rintro e' w' ⟨rfl, rfl⟩) | (go_at_call 22; refine (contains_c _ _ _ _ _ (seen.take k) _ _ HT.out (by omega)).mono ?_; rintro e' w' ⟨rfl, rfl⟩))
          go_round
          case rel => exact ⟨k + 1, by omega, by go_num, HN.out⟩
          case measure => simp [intOf]; omega
    · have hsb := HP.out.all (by rw [HL.out.1]; omega)
      have HSB := Lib.hid hsb
      have hbr : Below (w.alloc (.cells #[.int .i64 s, .slice A n c, .slice A2 n2 c2] 26)).heap.size (w.alloc (.cells #[.int .i64 s, .slice A n c, .slice A2 n2 c2] 26)) (w.alloc (.cells #[.int .i64 s, .slice A n c, .slice A2 n2 c2] 26)) := Below.refl _ _
      clear hsb
      go_wp2_with fail
      go_loopw [46] (fun i wr => ∃ k : Nat, k ≤ n2 ∧ i = .int .i64 k ∧ OkTo pl k ∧ Below (w.alloc (.cells #[.int .i64 s, .slice A n c, .slice A2 n2 c2] 26)).heap.size (w.alloc (.cells #[.int .i64 s, .slice A n c, .slice A2 n2 c2] 26)) wr) (fun i _ => n2 - (intOf i).toNat)
      case atStart => exact ⟨0, Nat.zero_le _, rfl, fun j hj => absurd hj (by omega), hbr⟩
      case round =>
        clear hlt hk hbr
        obtain ⟨k2, hk2, rfl, hp, hnx⟩ := hrel
        have HP2 := Lib.hid hp
        have hbn := hb0.trans (hnx.mono hb0.size)
        clear hp
        by_cases hlt : k2 < n2
        · obtain ⟨b, o, rfl, hb1, hb2, hc⟩ := hs0.2.1.at_ (by omega)
          obtain ⟨A1, n1, c1, A3, n3, c3, ⟨q0, q1, q2, q3, q4, q5⟩, t⟩ := (hc k2 hlt).keep (w' := wr) (Nat.le_trans hs0.hi_le hnx.size) ⟨hb1, hb2⟩ (fun b' _ hb' => hnx.block b' (Nat.lt_of_lt_of_le hb' hs0.hi_le))
          obtain ⟨X, hX⟩ : ∃ X, X = pl.getD k2 zeroPeel := ⟨_, rfl⟩
          rw [← hX] at q0 q1 q2 q4 t
          have HX := Lib.hid hX
          have t2 := t.alloc (.cells #[.int .i64 X.kind, .int .i64 X.next, .int .i64 X.p.e, .slice A1 n1 c1, .int .i64 X.p.t, .slice A3 n3 c3] 47)
          have hbn2 := hbn.alloc hbn.size (.cells #[.int .i64 X.kind, .int .i64 X.next, .int .i64 X.p.e, .slice A1 n1 c1, .int .i64 X.p.t, .slice A3 n3 c3] 47)
          have hnx2 := hnx.alloc hnx.size (.cells #[.int .i64 X.kind, .int .i64 X.next, .int .i64 X.p.e, .slice A1 n1 c1, .int .i64 X.p.t, .slice A3 n3 c3] 47)
          have hno : okPeelB X = false → mixB ⟨s, seen, pl⟩ = false := fun g => mixB_no (fun m => by have := m.2.2.2.2 X (by rw [HX.out]; exact plGet (by rw [HL.out.2]; exact hlt)); rw [g] at this; cases this)
          have HNO := Lib.hid hno
          clear hc hX t hno hs0 hnx hbn
          go_wp2_with fail
          refine (peeledValid_c _ _ _ _ _ _ _ _ _ _ _ _ _ _ _ t2).mono ?_
          rintro e' w2 ⟨rfl, hb⟩
          have hbn3 := hbn2.trans (hb.mono hbn2.size)
          have hnx3 := hnx2.trans (hb.mono hnx2.size)
          clear q0 q1 q2 q3 q4 q5 hb t2
          have heta : (⟨X.kind, X.next, ⟨X.p.e, X.p.h, X.p.t, X.p.b⟩⟩ : Peel) = X := rfl
          rw [heta]
          clear heta
          cases hok : okPeelB X with
          | false =>
            go_wp2_with fail
            go_ret
            exact ⟨ret_b (HNO.out hok).symm, hbn3⟩
          | true =>
            have hp3 := OkTo.next HP2.out (by rw [← HX.out]; exact hok)
            have HP3 := Lib.hid hp3
            clear hp3
            go_wp2_with fail
            go_roundw
            case rel => exact ⟨k2 + 1, by omega, by go_num, HP3.out, hnx3⟩
            case measure => simp [intOf]; omega
        · have hm : mixB ⟨s, seen, pl⟩ = true := mixB_iff.2 ⟨H1.out, by show seen.length ≤ 12; rw [HL.out.1]; exact h2, by show pl.length ≤ 5; rw [HL.out.2]; exact h3, HSB.out, OkTo.all HP2.out (by rw [HL.out.2]; omega)⟩
          have HM := Lib.hid hm
          clear hm hs0
          go_wp2_with fail
          go_ret
          exact ⟨ret_b HM.out.symm, hbn⟩
set_option maxRecDepth 100000 in
set_option maxHeartbeats 3200000 in
theorem sMixValid_c (s : Int) (A : Option Addr) (n c : Nat) (A2 : Option Addr) (n2 c2 lo hi : Nat) (seen : List Int) (pl : List Peel) (w : World) (hs : MixR w lo hi seen pl A n c A2 n2 c2) (hn : n ≤ 4194304) (hn2 : n2 ≤ 4194304) (hpl : PlB 4194304 pl) : Calls Try.prog 11 #[.agg #[.int .i64 s, .slice A n c, .slice A2 n2 c2]] w (Tells (mixB ⟨s, seen, pl⟩) w) := by
  have hs0 := hs.alloc (.cells #[.int .i64 s, .slice A n c, .slice A2 n2 c2] 26)
  have bx := BoxAt.new w #[.int .i64 s, .slice A n c, .slice A2 n2 c2] 26
  have hb0 : Below w.heap.size w (w.alloc (.cells #[.int .i64 s, .slice A n c, .slice A2 n2 c2] 26)) := (Below.refl w.heap.size w).alloc (Nat.le_refl _) _
  have HL := Lib.hid hs.len
  have hcap := hs.2.2
  obtain ⟨hcap1, hcap2⟩ := hcap
  clear hs
  obtain ⟨p0, p1, p2⟩ := bx.three
  have HPLB := Lib.hid hpl
  have hbr : Below (w.alloc (.cells #[.int .i64 s, .slice A n c, .slice A2 n2 c2] 26)).heap.size (w.alloc (.cells #[.int .i64 s, .slice A n c, .slice A2 n2 c2] 26)) (w.alloc (.cells #[.int .i64 s, .slice A n c, .slice A2 n2 c2] 26)) := Below.refl _ _
  clear hpl
  go_enter Try.func11, Try.ntmps11
  go_wp2_with fail
  go_loopw [3] (fun i wr => ∃ k : Nat, k ≤ n ∧ i = .int .i64 k ∧ SeenTo seen k ∧ Below (w.alloc (.cells #[.int .i64 s, .slice A n c, .slice A2 n2 c2] 26)).heap.size (w.alloc (.cells #[.int .i64 s, .slice A n c, .slice A2 n2 c2] 26)) wr) (fun i _ => n - (intOf i).toNat)
  case atStart => exact ⟨0, Nat.zero_le _, rfl, SeenTo.zero _, hbr⟩
  case round =>
    clear hbr p0 p1 p2
    obtain ⟨k, hk, rfl, hp, hnx⟩ := hrel
    have HP := Lib.hid hp
    have hbn := hb0.trans (hnx.mono hb0.size)
    have bxr := bx.below hnx bx.hi_le
    obtain ⟨p0, p1, p2⟩ := bxr.three
    clear hp
    by_cases hlt : k < n
    · have hsr := hs0.1.below hnx hs0.hi_le
      obtain ⟨b, o, rfl, _, _, hc⟩ := hsr.at_ (by omega)
      have hcell := hc k hlt
      have htk := hsr.take_ (j := k) (by omega)
      obtain ⟨y, hy⟩ : ∃ y, y = seen.getD k 0 := ⟨_, rfl⟩
      rw [← hy] at hcell
      have HY := Lib.hid hy
      have hk0 : (0 : Int) ≤ (k : Int) := Int.natCast_nonneg _
      have hkn : (k : Int) < (n : Int) := by omega
      have hkc : (k : Int) ≤ (c : Int) := by omega
      have hno : seenAt seen k = false → mixB ⟨s, seen, pl⟩ = false := fun g => mixB_no (fun m => by have := seenB_no (by rw [HL.out.1]; exact hlt) g; rw [m.2.2.2.1] at this; cases this)
      have HNO := Lib.hid hno
      have HT := Lib.hid htk.drew
      have hsa : seenAt seen k = (elB y && !(hasB (seen.take k) y)) := by rw [HY.out]; rfl
      have HSA := Lib.hid hsa
      clear hc hy hno htk hsa hsr bxr
      have hkey : ∀ r : Bool, (∀ W, Calls Try.prog 24 #[.slice (some ⟨b, o, none⟩) k c, .int .i64 y] W fun e w' => e = .returned (.bool (hasB (seen.take k) y)) ∧ W = w') → True := fun _ _ => trivial
      clear hkey
      cases hv : elB y with
      | false =>
        go_wp2_with fail
        go_quiet ((go_at_call 18; exact Calls.quiet_of_same ((l1Is_c _ _).mono fun e w' h => ⟨h.1, h.2.symm⟩)))
        go_wp2_with fail
        go_ret
        exact ⟨ret_b (HNO.out (by rw [HSA.out, hv]; rfl)).symm, below_drewN hbn _⟩
      | true =>
        cases hh : hasB (seen.take k) y with
        | true =>
          go_wp2_with fail
          go_region_held3 (fun w' => w'.cell? ⟨w.heap.size, 1, none⟩ = some (.slice (some ⟨b, o, none⟩) n c) ∧ w'.cell? ⟨b, o + k, none⟩ = some (.int .i64 y))
          (exact ⟨p1, hcell⟩)
          ((first | (go_at_call 18; refine (l1Is_c _ _).mono ?_; rintro e' w' ⟨rfl, rfl⟩) | (go_at_call 24; refine (l1Has_c _ _ _ _ _ (seen.take k) _ _ HT.out (by omega)).mono ?_; rintro e' w' ⟨rfl, rfl⟩)))
          go_wp2_with fail
          go_ret
          exact ⟨ret_b (HNO.out (by rw [HSA.out, hv, hh]; rfl)).symm, hbn.drew⟩
        | false =>
          have hnx2 := HP.out.next (by rw [HSA.out, hv, hh]; rfl)
          have HN := Lib.hid hnx2
          clear hnx2
          go_wp2_with fail
          go_region_held3 (fun w' => w'.cell? ⟨w.heap.size, 1, none⟩ = some (.slice (some ⟨b, o, none⟩) n c) ∧ w'.cell? ⟨b, o + k, none⟩ = some (.int .i64 y))
          (exact ⟨p1, hcell⟩)
          ((first | (go_at_call 18; refine (l1Is_c _ _).mono ?_; rintro e' w' ⟨rfl, rfl⟩) | (go_at_call 24; refine (l1Has_c _ _ _ _ _ (seen.take k) _ _ HT.out (by omega)).mono ?_; rintro e' w' ⟨rfl, rfl⟩)))
          go_wp2_with fail
          go_roundw
          case rel => exact ⟨k + 1, by omega, by go_num, HN.out, hnx.drew⟩
          case measure => simp [intOf]; omega
    · have hsb := HP.out.all (by rw [HL.out.1]; omega)
      have HSB := Lib.hid hsb
      obtain ⟨wo, rfl⟩ : ∃ x, x = wr := ⟨_, rfl⟩
      have hs1 := hs0.below hnx hs0.hi_le
      have hbr : Below wo.heap.size wo wo := Below.refl _ _
      clear hsb
      go_wp2_with fail
      go_loopw [4] (fun i wr => ∃ k : Nat, k ≤ n2 ∧ i = .int .i64 k ∧ OkTo pl k ∧ Below wo.heap.size wo wr) (fun i _ => n2 - (intOf i).toNat)
      case atStart => exact ⟨0, Nat.zero_le _, rfl, fun j hj => absurd hj (by omega), hbr⟩
      case round =>
        clear hbr p0 p1 p2 hlt hk
        obtain ⟨k2, hk2, rfl, hp, hnx2⟩ := hrel
        have HP2 := Lib.hid hp
        have hbn2 := hbn.trans (hnx2.mono hbn.size)
        have bxr2 := bxr.below hnx2 bxr.hi_le
        obtain ⟨p0, p1, p2⟩ := bxr2.three
        clear hp
        by_cases hlt : k2 < n2
        · obtain ⟨b, o, rfl, hb1, hb2, hc⟩ := hs1.2.1.at_ (by omega)
          obtain ⟨A1, n1, c1, A3, n3, c3, ⟨q0, q1, q2, q3, q4, q5⟩, t⟩ := (hc k2 hlt).keep (w' := wr) (Nat.le_trans hs1.hi_le hnx2.size) ⟨hb1, hb2⟩ (fun b' _ hb' => hnx2.block b' (Nat.lt_of_lt_of_le hb' hs1.hi_le))
          have hxl := HPLB.out.at_ (j := k2) (by rw [HL.out.2]; exact hlt)
          obtain ⟨X, hX⟩ : ∃ X, X = pl.getD k2 zeroPeel := ⟨_, rfl⟩
          have hlx := t.len
          rw [← hX] at q0 q1 q2 q4 t hxl hlx
          have HX := Lib.hid hX
          have hc1 : n1 ≤ 4194304 ∧ n3 ≤ 4194304 := by omega
          have hk0 : (0 : Int) ≤ (k2 : Int) := Int.natCast_nonneg _
          have hkn : (k2 : Int) < (n2 : Int) := by omega
          have hno : okPeelB X = false → mixB ⟨s, seen, pl⟩ = false := fun g => mixB_no (fun m => by have := m.2.2.2.2 X (by rw [HX.out]; exact plGet (by rw [HL.out.2]; exact hlt)); rw [g] at this; cases this)
          have HNO := Lib.hid hno
          clear hc hX hno hs1 hxl hlx
          go_wp2_with fail
          refine (l11Peeled_c _ _ _ _ _ _ _ _ _ _ _ _ _ _ _ t hc1.1 hc1.2).mono ?_
          rintro e' w2 ⟨rfl, hb⟩
          have hbn3 := hbn2.trans (hb.mono hbn2.size)
          have hnx3 := hnx2.trans (hb.mono hnx2.size)
          clear q0 q1 q2 q3 q4 q5 hb t p0 p1 p2
          have heta : (⟨X.kind, X.next, ⟨X.p.e, X.p.h, X.p.t, X.p.b⟩⟩ : Peel) = X := rfl
          rw [heta]
          clear heta
          cases hok : okPeelB X with
          | false =>
            go_wp2_with fail
            go_ret
            exact ⟨ret_b (HNO.out hok).symm, hbn3⟩
          | true =>
            have hp3 := OkTo.next HP2.out (by rw [← HX.out]; exact hok)
            have HP3 := Lib.hid hp3
            clear hp3
            go_wp2_with fail
            go_roundw
            case rel => exact ⟨k2 + 1, by omega, by go_num, HP3.out, hnx3⟩
            case measure => simp [intOf]; omega
        · have hm : mixB ⟨s, seen, pl⟩ = (elB s && decide ((n : Int) ≤ 12) && decide ((n2 : Int) ≤ 5)) := mix_rest HSB.out (OkTo.all HP2.out (by rw [HL.out.2]; omega)) HL.out.1 HL.out.2
          have HM := Lib.hid hm
          clear hm hs1 hs0
          cases h1 : elB s with
          | false =>
            go_wp2_with (go_at_call 18; refine (l1Is_c _ _).mono ?_; rintro e' w' ⟨rfl, rfl⟩)
            go_ret
            exact ⟨ret_b (by rw [HM.out, h1]; rfl), hbn2⟩
          | true =>
            have h12 := h1
            by_cases h2 : n ≤ 12
            · by_cases h3 : n2 ≤ 5
              · go_wp2_with (go_at_call 18; refine (l1Is_c _ _).mono ?_; rintro e' w' ⟨rfl, rfl⟩)
                go_ret
                exact ⟨ret_b (by rw [HM.out, h12]; simp; omega), hbn2⟩
              · go_wp2_with (go_at_call 18; refine (l1Is_c _ _).mono ?_; rintro e' w' ⟨rfl, rfl⟩)
                go_ret
                exact ⟨ret_b (by rw [HM.out, h12]; simp; omega), hbn2⟩
            · go_wp2_with (go_at_call 18; refine (l1Is_c _ _).mono ?_; rintro e' w' ⟨rfl, rfl⟩)
              go_ret
              exact ⟨ret_b (by rw [HM.out, h12]; simp; omega), hbn2⟩
end Go.Proofs.Ytoocjalhcliebaa
