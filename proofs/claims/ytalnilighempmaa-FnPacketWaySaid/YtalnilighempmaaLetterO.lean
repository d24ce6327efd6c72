/-
  Contracts of the functions that open letters.
  Conditions: the body's slice reads as a list of whole numbers.
-/
import Derived.Test.YtalnilighempmaaLetterS
namespace Go.Proofs.Ytalnilighempmaa
open Go Go.RowKit

theorem openP_no {xs : List Int} (h : openB xs = false) : openP xs = [] := by simp [openP, h]
theorem openP_yes {xs : List Int} (h : openB xs = true) : openP xs = letterL xs := by simp [openP, h]
theorem NewPair.after {xs : List Int} {b : Bool} {w w1 w' : World} {e : Ending} (hb : Below w.heap.size w w1) (h : NewPair xs b w1 e w') : NewPair xs b w e w' := by
  obtain ⟨A, n, c, he, h1, h2⟩ := h
  exact ⟨A, n, c, he, h1.wider hb.size (Nat.le_refl _) (Nat.le_refl _), hb.trans (h2.mono hb.size)⟩

set_option maxRecDepth 100000 in
set_option maxHeartbeats 1600000 in
theorem letterOpen_c (A : Option Addr) (n c lo hi : Nat) (xs : List Int) (w : World) (hs : SlR .i64 w lo hi A n xs) (hnc : n ≤ c) : Calls Try.prog 34 #[.slice A n c] w (NewPair (openP xs) (openB xs) w) := by
  have hl := hs.len
  have HL := Lib.hid hl
  cases hx : (decide ((n : Int) = 6) && listB xs) with
  | false =>
    have hp : openB xs = false := by
      cases g : openB xs with
      | false => rfl
      | true =>
        obtain ⟨g1, g2, _⟩ := openB_iff.1 g
        rw [g1] at hx; simp at hx; omega
    rw [openP_no hp, hp]
    clear hp hl
    go_enter Try.func34, Try.ntmps34
    go_wp2_with (go_at_call 102; refine (listOf_c _ _ _ _ _ _ _ _ hs).mono ?_; rintro e w' ⟨rfl, rfl⟩; rw [hx])
    go_ret2
    exact NewPair.none_ _ _
  | true =>
    have hx2 : n = 6 ∧ listB xs = true := by
      have h := hx
      simp only [Bool.and_eq_true, decide_eq_true_eq] at h
      exact ⟨by omega, h.2⟩
    obtain ⟨h6, hlx⟩ := hx2
    obtain ⟨b, o, rfl, hb1, hb2, hc⟩ := hs.at_ (by omega)
    have hv := listB_at hlx (i := 0) (by omega)
    obtain ⟨m, hm⟩ := Int.eq_ofNat_of_zero_le hv.1
    have cell0 := hc 0 (by omega)
    rw [hm, Nat.add_zero] at cell0
    have hc6 : 6 ≤ c := by omega
    by_cases h4 : 4 < m
    · have hp : openB xs = false := by
        cases g : openB xs with
        | false => rfl
        | true =>
          have := (openB_iff.1 g).2.2.1
          omega
      rw [openP_no hp, hp]
      have HX := Lib.hid hx
      have hn0 : 0 < n := by omega
      clear hp hl hc hm hv hlx h6 hx
      go_enter Try.func34, Try.ntmps34
      go_wp2_with (go_at_call 102; refine (listOf_c _ _ _ _ _ _ _ _ hs).mono ?_; rintro e w' ⟨rfl, rfl⟩; rw [HX.out])
      go_ret2
      exact NewPair.none_ _ _
    · have hsl := ((hs.drop_ (j := 1) (by omega) (A' := some ⟨b, o + 1, none⟩) (fun b' o' e _ => by injection e with e; injection e with e1 e2; rw [e1, e2])).take_ (j := m) (by omega))
      have hLe : (xs.drop 1).take m = letterL xs := by rw [letterL, hm, Int.toNat_natCast]
      rw [hLe] at hsl
      have hpk := letterL_packB hlx (by omega) (by omega)
      have hLB := Lib.hid hpk
      have HX := Lib.hid hx
      have hn0 : 0 < n := by omega
      have hm4 : m ≤ 4 := by omega
      have hopen : openB xs = sameB (packL (letterL xs)) xs := by
        rw [Bool.eq_iff_iff, openB_iff, sameB_iff]
        exact ⟨fun g => g.2.2.2, fun g => ⟨hlx, by omega, by omega, g⟩⟩
      have HO := Lib.hid hopen
      clear hLe hpk hx hl hc hm hv hlx h6 hopen h4
      go_enter Try.func34, Try.ntmps34
      go_wp2_with (go_at_call 102; refine (listOf_c _ _ _ _ _ _ _ _ hs).mono ?_; rintro e w' ⟨rfl, rfl⟩; rw [HX.out])
      refine (clone_c _ m _ _ _ (letterL xs) _ hsl (by omega)).mono ?_
      rintro e w1 ⟨A1, n1, c1, rfl, o1, h1⟩
      have b1 : n1 ≤ 4 := by have := o1.len; have := (packB_iff.1 hLB.out).2; omega
      replace hs := hs.below h1 hs.hi_le
      clear hsl cell0
      go_wp2_with fail
      refine (letterPack_c _ _ _ _ _ _ _ o1.read).mono ?_
      rintro e w2 ⟨A2, n2, c2, rfl, o2, h2⟩
      rw [hLB.out]
      have e2 := packP_yes hLB.out
      rw [e2] at o2
      replace hs := hs.below h2 hs.hi_le
      replace o1 := o1.below h2 o1.2.1
      have hB := h1.trans (h2.mono h1.size)
      have b2 : n2 ≤ 6 := by have := o2.len; have := packL_len (packB_iff.1 hLB.out).2; omega
      have hLE := Lib.hid hLB
      clear hLB e2
      cases hsame : sameB (packL (letterL xs)) xs with
      | false =>
        have HP := Lib.hid (HO.out.trans hsame)
        have HS := Lib.hid hsame
        clear hsame
        go_wp2_with (go_at_call 103; refine (iSameInts_c _ _ _ _ _ _ _ _ _ _ _ _ _ o2.read hs (by omega)).mono ?_; rintro e w3 ⟨rfl, h3⟩; rw [HS.out])
        go_ret2
        rw [openP_no HP.out, HP.out]
        exact NewPair.after (hB.trans (h3.mono hB.size)) (NewPair.none_ _ _)
      | true =>
        have HP := Lib.hid (HO.out.trans hsame)
        have HS := Lib.hid hsame
        clear hsame
        go_wp2_with (go_at_call 103; refine (iSameInts_c _ _ _ _ _ _ _ _ _ _ _ _ _ o2.read hs (by omega)).mono ?_; rintro e w3 ⟨rfl, h3⟩; rw [HS.out])
        go_ret2
        rw [openP_yes HP.out, HP.out]
        have o1' := o1.below h3 o1.2.1
        have hB' := hB.trans (h3.mono hB.size)
        exact ⟨_, _, _, rfl, o1'.wider (Nat.le_refl _) (Nat.le_trans h2.size h3.size) (Nat.le_refl _), hB'⟩
theorem q_left {P : Program} {f : FuncId} {args : Array Value} {w : World} {n : Nat} {v : Value} (h : Calls P f args (w.drewN n) fun e w' => e = .returned v ∧ w.drewN n = w') : Calls P f args (w.drewN n) fun e w'' => e = .returned v ∧ ∃ m, w'' = w.drewN m :=
  h.mono fun _ _ ⟨he, hm⟩ => ⟨he, n, hm.symm⟩
def ZeroTo (xs : List Int) (m k : Nat) : Prop := ∀ j, m < j → j < k → xs.getD j 0 = 0
theorem ZeroTo.next {xs : List Int} {m k : Nat} {v : Int} (h : ZeroTo xs m k) (hv : v = xs.getD k 0) (h0 : v = 0) : ZeroTo xs m (k + 1) := fun j h1 h2 => by
  by_cases e : j = k
  · subst e; rw [← hv, h0]
  · exact h j h1 (by omega)
theorem openB_all {xs : List Int} (h1 : listB xs = true) (h2 : xs.length = 6) (h3 : xs.getD 0 0 ≤ 4) (h4 : tagL 1 (xs.take 5) = xs.getD 5 0) (h5 : ZeroTo xs (xs.getD 0 0).toNat 5) : openB xs = true :=
  openB_iff.2 ⟨h1, h2, h3, (openB_zeros h2 h1 h3).2 ⟨h4, fun i hi hj => h5 i hi hj⟩⟩
theorem openB_tag {xs : List Int} (h4 : tagL 1 (xs.take 5) ≠ xs.getD 5 0) : openB xs = false := by
  cases g : openB xs with
  | false => rfl
  | true => obtain ⟨g1, g2, g3, g4⟩ := openB_iff.1 g; exact absurd ((openB_zeros g2 g1 g3).1 g4).1 h4
theorem openB_big {xs : List Int} (h4 : 4 < xs.getD 0 0) : openB xs = false := by
  cases g : openB xs with
  | false => rfl
  | true => have := (openB_iff.1 g).2.2.1; omega
theorem openB_bad {xs : List Int} {k : Nat} (h1 : (xs.getD 0 0).toNat < k) (h2 : k < 5) (h3 : xs.getD k 0 ≠ 0) : openB xs = false := by
  cases g : openB xs with
  | false => rfl
  | true => obtain ⟨g1, g2, g3, g4⟩ := openB_iff.1 g; exact absurd (((openB_zeros g2 g1 g3).1 g4).2 k h1 h2) h3

end Go.Proofs.Ytalnilighempmaa
