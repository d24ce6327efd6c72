/-
  Contracts of the functions that open letters.
  Conditions: the body's slice reads as a list of whole numbers.
-/
import Derived.Test.YtiiofcldblgmcaaLetterS
namespace Go.Proofs.Ytiiofcldblgmcaa
open Go Go.RowKit

theorem openP_no {xs : List Int} (h : openB xs = false) : openP xs = [] := by simp [openP, h]
theorem openP_yes {xs : List Int} (h : openB xs = true) : openP xs = letterL xs := by simp [openP, h]
theorem NewPair.after {xs : List Int} {b : Bool} {w w1 w' : World} {e : Ending} (hb : Below w.heap.size w w1) (h : NewPair xs b w1 e w') : NewPair xs b w e w' := by
  obtain ⟨A, n, c, he, h1, h2⟩ := h
  exact ⟨A, n, c, he, h1.wider hb.size (Nat.le_refl _) (Nat.le_refl _), hb.trans (h2.mono hb.size)⟩

set_option maxHeartbeats 1600000 in
theorem letterOpen_c (A : Option Addr) (n c lo hi : Nat) (xs : List Int) (w : World) (hs : SlR .i64 w lo hi A n xs) (hnc : n ≤ c) : Calls Try.prog 53 #[.slice A n c] w (NewPair (openP xs) (openB xs) w) := by
  have hl := hs.len
  have HL := Lib.hid hl
  cases hx : (decide ((n : Int) = 6) && listB xs) with
  | false =>
    have hp : openB xs = false := by
      cases g : openB xs with
      | false => rfl
      | true =>
        obtain ⟨g1, g2, _⟩ := openB_iff.1 g
        rw [g1] at hx; simp at hx; omega
    rw [openP_no hp, hp]
    clear hp hl
    go_enter Try.func53, Try.ntmps53
    go_wp2_with (go_at_call 72; refine (listOf_c _ _ _ _ _ _ _ _ hs).mono ?_; rintro e w' ⟨rfl, rfl⟩; rw [hx])
    go_ret2
    exact NewPair.none_ _ _
  | true =>
    have hx2 : n = 6 ∧ listB xs = true := by
      have h := hx
      simp only [Bool.and_eq_true, decide_eq_true_eq] at h
      exact ⟨by omega, h.2⟩
    obtain ⟨h6, hlx⟩ := hx2
    obtain ⟨b, o, rfl, hb1, hb2, hc⟩ := hs.at_ (by omega)
    have hv := listB_at hlx (i := 0) (by omega)
    obtain ⟨m, hm⟩ := Int.eq_ofNat_of_zero_le hv.1
    have cell0 := hc 0 (by omega)
    rw [hm, Nat.add_zero] at cell0
    have hc6 : 6 ≤ c := by omega
    by_cases h4 : 4 < m
    · have hp : openB xs = false := by
        cases g : openB xs with
        | false => rfl
        | true =>
          have := (openB_iff.1 g).2.2.1
          omega
      rw [openP_no hp, hp]
      have HX := Lib.hid hx
      have hn0 : 0 < n := by omega
      clear hp hl hc hm hv hlx h6 hx
      go_enter Try.func53, Try.ntmps53
      go_wp2_with (go_at_call 72; refine (listOf_c _ _ _ _ _ _ _ _ hs).mono ?_; rintro e w' ⟨rfl, rfl⟩; rw [HX.out])
      go_ret2
      exact NewPair.none_ _ _
    · have hsl := ((hs.drop_ (j := 1) (by omega) (A' := some ⟨b, o + 1, none⟩) (fun b' o' e _ => by injection e with e; injection e with e1 e2; rw [e1, e2])).take_ (j := m) (by omega))
      have hLe : (xs.drop 1).take m = letterL xs := by rw [letterL, hm, Int.toNat_natCast]
      rw [hLe] at hsl
      have hpk := letterL_packB hlx (by omega) (by omega)
      have hLB := Lib.hid hpk
      have HX := Lib.hid hx
      have hn0 : 0 < n := by omega
      have hm4 : m ≤ 4 := by omega
      have hopen : openB xs = sameB (packL (letterL xs)) xs := by
        rw [Bool.eq_iff_iff, openB_iff, sameB_iff]
        exact ⟨fun g => g.2.2.2, fun g => ⟨hlx, by omega, by omega, g⟩⟩
      have HO := Lib.hid hopen
      clear hLe hpk hx hl hc hm hv hlx h6 hopen h4
      go_enter Try.func53, Try.ntmps53
      go_wp2_with (go_at_call 72; refine (listOf_c _ _ _ _ _ _ _ _ hs).mono ?_; rintro e w' ⟨rfl, rfl⟩; rw [HX.out])
      refine (clone_c _ m _ _ _ (letterL xs) _ hsl (by omega)).mono ?_
      rintro e w1 ⟨A1, n1, c1, rfl, o1, h1⟩
      have b1 : n1 ≤ 4 := by have := o1.len; have := (packB_iff.1 hLB.out).2; omega
      replace hs := hs.below h1 hs.hi_le
      clear hsl cell0
      go_wp2_with fail
      refine (letterPack_c _ _ _ _ _ _ _ o1.read).mono ?_
      rintro e w2 ⟨A2, n2, c2, rfl, o2, h2⟩
      rw [hLB.out]
      have e2 := packP_yes hLB.out
      rw [e2] at o2
      replace hs := hs.below h2 hs.hi_le
      replace o1 := o1.below h2 o1.2.1
      have hB := h1.trans (h2.mono h1.size)
      have b2 : n2 ≤ 6 := by have := o2.len; have := packL_len (packB_iff.1 hLB.out).2; omega
      have hLE := Lib.hid hLB
      clear hLB e2
      cases hsame : sameB (packL (letterL xs)) xs with
      | false =>
        have HP := Lib.hid (HO.out.trans hsame)
        have HS := Lib.hid hsame
        clear hsame
        go_wp2_with (go_at_call 74; refine (iSameInts_c _ _ _ _ _ _ _ _ _ _ _ _ _ o2.read hs (by omega)).mono ?_; rintro e w3 ⟨rfl, h3⟩; rw [HS.out])
        go_ret2
        rw [openP_no HP.out, HP.out]
        exact NewPair.after (hB.trans (h3.mono hB.size)) (NewPair.none_ _ _)
      | true =>
        have HP := Lib.hid (HO.out.trans hsame)
        have HS := Lib.hid hsame
        clear hsame
        go_wp2_with (go_at_call 74; refine (iSameInts_c _ _ _ _ _ _ _ _ _ _ _ _ _ o2.read hs (by omega)).mono ?_; rintro e w3 ⟨rfl, h3⟩; rw [HS.out])
        go_ret2
        rw [openP_yes HP.out, HP.out]
        have o1' := o1.below h3 o1.2.1
        have hB' := hB.trans (h3.mono hB.size)
        exact ⟨_, _, _, rfl, o1'.wider (Nat.le_refl _) (Nat.le_trans h2.size h3.size) (Nat.le_refl _), hB'⟩
theorem q_left {P : Program} {f : FuncId} {args : Array Value} {w : World} {n : Nat} {v : Value} (h : Calls P f args (w.drewN n) fun e w' => e = .returned v ∧ w.drewN n = w') : Calls P f args (w.drewN n) fun e w'' => e = .returned v ∧ ∃ m, w'' = w.drewN m :=
  h.mono fun _ _ ⟨he, hm⟩ => ⟨he, n, hm.symm⟩
def ZeroTo (xs : List Int) (m k : Nat) : Prop := ∀ j, m < j → j < k → xs.getD j 0 = 0
theorem ZeroTo.next {xs : List Int} {m k : Nat} {v : Int} (h : ZeroTo xs m k) (hv : v = xs.getD k 0) (h0 : v = 0) : ZeroTo xs m (k + 1) := fun j h1 h2 => by
  by_cases e : j = k
  · subst e; rw [← hv, h0]
  · exact h j h1 (by omega)
theorem openB_all {xs : List Int} (h1 : listB xs = true) (h2 : xs.length = 6) (h3 : xs.getD 0 0 ≤ 4) (h4 : tagL 1 (xs.take 5) = xs.getD 5 0) (h5 : ZeroTo xs (xs.getD 0 0).toNat 5) : openB xs = true :=
  openB_iff.2 ⟨h1, h2, h3, (openB_zeros h2 h1 h3).2 ⟨h4, fun i hi hj => h5 i hi hj⟩⟩
theorem openB_tag {xs : List Int} (h4 : tagL 1 (xs.take 5) ≠ xs.getD 5 0) : openB xs = false := by
  cases g : openB xs with
  | false => rfl
  | true => obtain ⟨g1, g2, g3, g4⟩ := openB_iff.1 g; exact absurd ((openB_zeros g2 g1 g3).1 g4).1 h4
theorem openB_big {xs : List Int} (h4 : 4 < xs.getD 0 0) : openB xs = false := by
  cases g : openB xs with
  | false => rfl
  | true => have := (openB_iff.1 g).2.2.1; omega
theorem openB_bad {xs : List Int} {k : Nat} (h1 : (xs.getD 0 0).toNat < k) (h2 : k < 5) (h3 : xs.getD k 0 ≠ 0) : openB xs = false := by
  cases g : openB xs with
  | false => rfl
  | true => obtain ⟨g1, g2, g3, g4⟩ := openB_iff.1 g; exact absurd (((openB_zeros g2 g1 g3).1 g4).2 k h1 h2) h3

set_option maxHeartbeats 3200000 in
theorem sLetterOpen_no (A : Option Addr) (n c lo hi : Nat) (xs : List Int) (w : World) (hs : SlR .i64 w lo hi A n xs) (hn : n ≤ 4194304) (hnc : n ≤ c) (hp : openB xs = false) (hbad : listB xs = false ∨ n ≠ 6 ∨ tagL 1 (xs.take 5) ≠ xs.getD 5 0 ∨ 4 < xs.getD 0 0) :
    Calls Try.prog 52 #[.slice A n c] w (NewPair (openP xs) (openB xs) w) := by
  rw [openP_no hp, hp]
  have hl := hs.len
  cases hx : listB xs with
  | false =>
    clear hbad hp hl
    go_enter Try.func52, Try.ntmps52
    go_wp2_with fail
    go_quiet ((first | (go_at_call 56; exact q_left (l2List_c _ _ _ _ _ _ _ (hs.drewN _) (by omega)))))
    go_wp2
    go_ret2
    exact NewPair.after (below_drewN (Below.refl _ _) _) (NewPair.empty _ _)
  | true =>
    by_cases h6 : n = 6
    · subst h6
      obtain ⟨b, o, rfl, hb1, hb2, hc⟩ := hs.at_ (by omega)
      have cell0 := hc 0 (by omega)
      rw [Nat.add_zero] at cell0
      have cell5 := hc 5 (by omega)
      have hv0 := (listB_at hx (i := 0) (by omega)).1
      obtain ⟨v0, e0⟩ : ∃ v, v = xs.getD 0 0 := ⟨_, rfl⟩
      obtain ⟨v5, e5⟩ : ∃ v, v = xs.getD 5 0 := ⟨_, rfl⟩
      rw [← e0] at cell0 hv0
      rw [← e5] at cell5
      have hs5 := hs.take_ (j := 5) (by omega)
      have ht5 : ∀ i, i < 5 → 0 ≤ (xs.take 5).getD i 0 ∧ (xs.take 5).getD i 0 ≤ 990 := fun i hi => by
        have := listB_at hx (i := i) (by omega)
        simpa [List.getD_eq_getElem?_getD, List.getElem?_take, hi] using this
      have HT := Lib.hid (fun k => l3Tag_c 1 (some ⟨b, o, none⟩) 5 c lo hi (xs.take 5) (w.drewN k) (hs5.drewN k) (by omega) ht5 (by omega))
      clear hs5 ht5 hc
      by_cases ht : tagL 1 (xs.take 5) = v5
      · have hbig : 4 < v0 := by
          rcases hbad with h | h | h | h
          · rw [hx] at h; cases h
          · exact absurd rfl h
          · exact absurd (ht.trans e5) h
          · rw [e0]; exact h
        have htb : (tagL 1 (xs.take 5) != v5) = false := by simpa using ht
        clear hbad hp hl ht e0 e5
        go_enter Try.func52, Try.ntmps52
        go_wp2_with fail
        go_quiet ((first | (go_at_call 56; exact q_left (l2List_c _ _ _ _ _ _ _ (hs.drewN _) (by omega))) | (go_at_call 57; exact q_left (HT.out _))))
        go_wp2
        go_ret2
        exact NewPair.after (below_drewN (Below.refl _ _) _) (NewPair.empty _ _)
      · have htb : (tagL 1 (xs.take 5) != v5) = true := by simpa using ht
        clear hbad hp hl ht e0 e5
        go_enter Try.func52, Try.ntmps52
        go_wp2_with fail
        go_quiet ((first | (go_at_call 56; exact q_left (l2List_c _ _ _ _ _ _ _ (hs.drewN _) (by omega))) | (go_at_call 57; exact q_left (HT.out _))))
        go_wp2
        go_ret2
        exact NewPair.after (below_drewN (Below.refl _ _) _) (NewPair.empty _ _)
    · have hb6 : ((n : Int) != 6) = true := by simp; omega
      clear hbad hp hl
      go_enter Try.func52, Try.ntmps52
      go_wp2_with fail
      go_quiet ((first | (go_at_call 56; exact q_left (l2List_c _ _ _ _ _ _ _ (hs.drewN _) (by omega)))))
      go_wp2
      go_ret2
      exact NewPair.after (below_drewN (Below.refl _ _) _) (NewPair.empty _ _)
set_option maxHeartbeats 3200000 in
theorem sLetterOpen_yes (A : Option Addr) (c lo hi : Nat) (xs : List Int) (w : World) (hs : SlR .i64 w lo hi A 6 xs) (hnc : 6 ≤ c) (hx : listB xs = true) (htg : tagL 1 (xs.take 5) = xs.getD 5 0) (h4 : xs.getD 0 0 ≤ 4) :
    Calls Try.prog 52 #[.slice A 6 c] w (NewPair (openP xs) (openB xs) w) := by
  have hl := hs.len
  obtain ⟨i0, hi0, hz0, hz1, hz2⟩ := info_parts Try.infoInt
  obtain ⟨b, o, rfl, hb1, hb2, hc⟩ := hs.at_ (by omega)
  have cell0 := hc 0 (by omega)
  rw [Nat.add_zero] at cell0
  have cell5 := hc 5 (by omega)
  have hv0 := (listB_at hx (i := 0) (by omega)).1
  obtain ⟨m, hm⟩ := Int.eq_ofNat_of_zero_le hv0
  rw [hm] at cell0
  obtain ⟨v5, e5⟩ : ∃ v, v = xs.getD 5 0 := ⟨_, rfl⟩
  rw [← e5] at cell5
  have hm4 : m ≤ 4 := by omega
  have hs5 := hs.take_ (j := 5) (by omega)
  have ht5 : ∀ i, i < 5 → 0 ≤ (xs.take 5).getD i 0 ∧ (xs.take 5).getD i 0 ≤ 990 := fun i hi => by
    have := listB_at hx (i := i) (by omega)
    simpa [List.getD_eq_getElem?_getD, List.getElem?_take, hi] using this
  have HT := Lib.hid (fun k => l3Tag_c 1 (some ⟨b, o, none⟩) 5 c lo hi (xs.take 5) (w.drewN k) (hs5.drewN k) (by omega) ht5 (by omega))
  have htb : (tagL 1 (xs.take 5) != v5) = false := by simpa [e5] using htg
  have hsl := ((hs.drop_ (j := 1) (by omega) (A' := some ⟨b, o + 1, none⟩) (fun b' o' e _ => by injection e with e; injection e with e1 e2; rw [e1, e2])).take_ (j := m) (by omega))
  have hLe : (xs.drop 1).take m = letterL xs := by rw [letterL, hm, Int.toNat_natCast]
  rw [hLe] at hsl
  have HX := Lib.hid hx
  have HG := Lib.hid htg
  have HL := Lib.hid hl
  have HM := Lib.hid hm
  have H4 := Lib.hid h4
  have HC := Lib.hid hc
  have HE := Lib.hid hLe
  clear hs5 ht5 hc e5 hl hm htg hv0 h4 hLe
  go_enter Try.func52, Try.ntmps52
  go_wp2_with fail
  go_quiet ((first | (go_at_call 56; exact q_left (l2List_c _ _ _ _ _ _ _ (hs.drewN _) (by omega))) | (go_at_call 57; exact q_left (HT.out _))))
  clear cell5 htb HT
  go_wp2_with fail
  go_loop [5] (fun i => ∃ k : Nat, m + 1 ≤ k ∧ k ≤ 5 ∧ i = .int .i64 k ∧ ZeroTo xs m k) (fun i => 5 - (intOf i).toNat)
  case atStart => exact ⟨m + 1, Nat.le_refl _, by omega, by go_num, fun j h1 h2 => by omega⟩
  case round =>
    obtain ⟨k, hk1, hk2, rfl, hz⟩ := hrel
    by_cases hlt : k < 5
    · have hcell : w.cell? ⟨b, o + k, none⟩ = some (.int .i64 (xs.getD k 0)) := HC.out k (by omega)
      obtain ⟨v, hv⟩ : ∃ v, v = xs.getD k 0 := ⟨_, rfl⟩
      rw [← hv] at hcell
      have HV := Lib.hid hv
      clear hv
      by_cases h0 : v = 0
      · have hb0 : (v != 0) = false := by simpa using h0
        have H0 := Lib.hid h0
        clear h0
        go_wp2
        go_round
        case rel => exact ⟨k + 1, by omega, by omega, by go_num, hz.next HV.out H0.out⟩
        case measure => simp [intOf]; omega
      · have hb0 : (v != 0) = true := by simpa using h0
        have H0 := Lib.hid h0
        clear h0
        go_wp2
        go_ret2
        have hp : openB xs = false := openB_bad (k := k) (by rw [HM.out, Int.toNat_natCast]; omega) hlt (by rw [← HV.out]; exact H0.out)
        rw [openP_no hp, hp]
        exact NewPair.after (below_drewN (Below.refl _ _) _) (NewPair.empty _ _)
    · have hk5 : k = 5 := by omega
      have hz5 : ZeroTo xs m 5 := by rw [← hk5]; exact hz
      have hp : openB xs = true := openB_all HX.out HL.out H4.out HG.out (by rw [HM.out, Int.toNat_natCast]; exact hz5)
      have HP := Lib.hid hp
      clear hk5 hz5 hp hz
      have hown0 : ∀ k, ((w.drewN k).alloc (.cells #[] 3)).ownsRow w.heap.size 3 1 (.slice (some ⟨w.heap.size, 0, none⟩) 0 0) 0 [] := fun k =>
        World.ownsRow_made (w.drewN k) #[] 0 (Nat.le_refl _) (by unfold maxLen; omega) rfl
      have hsa : ∀ k, SlR .i64 ((w.drewN k).alloc (.cells #[] 3)) lo hi (some ⟨b, o + 1, none⟩) m (letterL xs) := fun k => (hsl.drewN k).alloc _
      have cellA : ((w.drewN nq).alloc (.cells #[] 3)).cell? ⟨b, o, none⟩ = some (.int .i64 (m : Int)) := (World.cell?_alloc_lt (w.drewN nq) _ ⟨b, o, none⟩ (Nat.lt_of_lt_of_le hb2 hs.hi_le)).trans cell0
      have HO := Lib.hid hown0
      have HA := Lib.hid hsa
      clear hown0 hsa hsl
      go_wp2_with (at_builtin; refine wpList_append_sl _ rfl _ _ 22 rfl w.heap.size 3 i0 Try.underlying22 hi0 hz0 hz1 hz2 _ 0 [] rfl (HO.out _) lo hi m (c - 1) (some ⟨b, o + 1, none⟩) (letterL xs) rfl (HA.out _) (by omega) (by simp) ?_)
      intro v' w1 hown1 hg1 _
      go_wp2
      go_ret2
      rw [openP_yes HP.out, HP.out]
      refine NewPair.of_owns (by simpa [ints] using hown1) (((below_drewN (Below.refl _ _) _).alloc (Nat.le_refl _) _).grown hg1 (by simp) (fun k hk => by simp [Value.ownBlock] at hk; have : (w.drewN nq).heap.size = w.heap.size := rfl; omega))
theorem sLetterOpen_c (A : Option Addr) (n c lo hi : Nat) (xs : List Int) (w : World) (hs : SlR .i64 w lo hi A n xs) (hn : n ≤ 4194304) (hnc : n ≤ c) : Calls Try.prog 52 #[.slice A n c] w (NewPair (openP xs) (openB xs) w) := by
  cases hx : listB xs with
  | false =>
    have hp : openB xs = false := by simp [openB, hx]
    exact sLetterOpen_no A n c lo hi xs w hs hn hnc hp (.inl hx)
  | true =>
    by_cases h6 : n = 6
    · subst h6
      by_cases ht : tagL 1 (xs.take 5) = xs.getD 5 0
      · by_cases h4 : xs.getD 0 0 ≤ 4
        · exact sLetterOpen_yes A c lo hi xs w hs hnc hx ht h4
        · exact sLetterOpen_no A 6 c lo hi xs w hs hn hnc (openB_big (by omega)) (.inr (.inr (.inr (by omega))))
      · exact sLetterOpen_no A 6 c lo hi xs w hs hn hnc (openB_tag ht) (.inr (.inr (.inl ht)))
    · have hp : openB xs = false := by
        cases g : openB xs with
        | false => rfl
        | true => have := (openB_iff.1 g).2.1; have := hs.len; omega
      exact sLetterOpen_no A n c lo hi xs w hs hn hnc hp (.inr (.inl h6))
end Go.Proofs.Ytiiofcldblgmcaa
