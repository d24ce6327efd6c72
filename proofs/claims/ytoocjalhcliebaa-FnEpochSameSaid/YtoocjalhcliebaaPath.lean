/-
  Contracts of the functions on names, paths and keys, of the program and of the reference.
  Conditions: a list's slice reads as a list of whole numbers.
-/
import Derived.Test.YtoocjalhcliebaaBaseE
import Derived.Test.YtoocjalhcliebaaBaseA
namespace Go.Proofs.Ytoocjalhcliebaa
open Go Go.RowKit

theorem isName_c (n : Int) (w : World) : Calls Try.prog 38 #[.int .i64 n] w fun e w' => e = .returned (.bool (nameB n)) ∧ w = w' := by
  go_enter Try.func38, Try.ntmps38
  go_wp2_with (go_at_call 31; refine (within_c _ _ _ _).mono ?_; rintro e w' ⟨rfl, rfl⟩)
  go_ret
  exact ⟨rfl, rfl⟩
/-- The first k numbers pass. -/
def AllTo (p : Int → Bool) (xs : List Int) (k : Nat) : Prop := ∀ j, j < k → p (xs.getD j 0) = true
theorem AllTo.zero (p : Int → Bool) (xs : List Int) : AllTo p xs 0 := fun j hj => by omega
theorem AllTo.next {p : Int → Bool} {xs : List Int} {k : Nat} {v : Int} (h : AllTo p xs k) (hv : v = xs.getD k 0) (hn : p v = true) : AllTo p xs (k + 1) := fun j hj => by
  by_cases e : j = k
  · subst e; rw [← hv]; exact hn
  · exact h j (by omega)
theorem AllTo.all {p : Int → Bool} {xs : List Int} (h : AllTo p xs xs.length) : xs.all p = true := by
  rw [List.all_eq_true]
  intro x hx
  obtain ⟨j, hj, rfl⟩ := List.mem_iff_getElem.1 hx
  have := h j hj
  simpa [List.getD_eq_getElem?_getD, hj] using this
theorem all_no {p : Int → Bool} {xs : List Int} {k : Nat} {v : Int} (hk : k < xs.length) (hv : v = xs.getD k 0) (hn : p v = false) : xs.all p = false := by
  cases h : xs.all p with
  | false => rfl
  | true =>
    rw [List.all_eq_true] at h
    have := h v (by rw [hv]; exact getD_mem hk)
    rw [hn] at this; cases this
theorem all_at {p : Int → Bool} {xs : List Int} (h : xs.all p = true) {i : Nat} (hi : i < xs.length) : p (xs.getD i 0) = true := by
  rw [List.all_eq_true] at h
  exact h _ (getD_mem hi)
theorem pathB_eq (xs : List Int) (n : Nat) (h : xs.length = n) (ha : xs.all elB = true) : pathB xs = (decide ((1 : Int) ≤ (n : Int)) && decide ((n : Int) ≤ 3)) := by
  rw [pathB, ha, Bool.eq_iff_iff]; simp; omega

theorem l5Names_c (A : Option Addr) (n c lo hi : Nat) (xs : List Int) (w : World) (hs : SlR .i64 w lo hi A n xs) (hn : n ≤ 4194304) : Calls Try.prog 57 #[.slice A n c] w fun e w' => e = .returned (.bool (xs.all nameB)) ∧ w = w' := by
  have HL := Lib.hid hs.len
  go_enter Try.func57, Try.ntmps57
  go_wp2
  go_loop [3] (fun i => ∃ k : Nat, k ≤ n ∧ i = .int .i64 k ∧ AllTo nameB xs k) (fun i => n - (intOf i).toNat)
  case atStart => exact ⟨0, Nat.zero_le _, rfl, AllTo.zero _ _⟩
  case round =>
    obtain ⟨k, hk, rfl, hp⟩ := hrel
    by_cases hlt : k < n
    · obtain ⟨b, o, rfl, _, _, hc⟩ := hs.at_ (by omega)
      have hcell := hc k hlt
      obtain ⟨v, hv⟩ : ∃ v, v = xs.getD k 0 := ⟨_, rfl⟩
      rw [← hv] at hcell
      have HV := Lib.hid hv
      clear hc hv hs
      cases hnum : nameB v with
      | false =>
        have hnum2 : (decide (0 ≤ v) && decide (v ≤ 7)) = false := hnum
        go_wp2_with (go_at_call 34; refine (l6In_c _ _ _ _).mono ?_; rintro e w' ⟨rfl, rfl⟩; rw [hnum2])
        go_ret
        have hno := all_no (p := nameB) (by rw [HL.out]; exact hlt) HV.out hnum
        exact ⟨ret_b (by simp [hno]), rfl⟩
      | true =>
        have hnum2 : (decide (0 ≤ v) && decide (v ≤ 7)) = true := hnum
        go_wp2_with (go_at_call 34; refine (l6In_c _ _ _ _).mono ?_; rintro e w' ⟨rfl, rfl⟩; rw [hnum2])
        go_round
        case rel => exact ⟨k + 1, by omega, by go_num, hp.next HV.out hnum⟩
        case measure => simp [intOf]; omega
    · have hkn : k = n := by omega
      have ha : xs.all nameB = true := AllTo.all (by rw [HL.out, ← hkn]; exact hp)
      have HA := Lib.hid ha
      clear hkn hs hp ha
      go_wp2
      go_ret
      exact ⟨ret_b (HA.out.symm), rfl⟩
theorem l5Publics_c (A : Option Addr) (n c lo hi : Nat) (xs : List Int) (w : World) (hs : SlR .i64 w lo hi A n xs) (hn : n ≤ 4194304) : Calls Try.prog 56 #[.slice A n c] w fun e w' => e = .returned (.bool (pathB xs)) ∧ w = w' := by
  have HL := Lib.hid hs.len
  go_enter Try.func56, Try.ntmps56
  go_wp2
  go_loop [3] (fun i => ∃ k : Nat, k ≤ n ∧ i = .int .i64 k ∧ AllTo elB xs k) (fun i => n - (intOf i).toNat)
  case atStart => exact ⟨0, Nat.zero_le _, rfl, AllTo.zero _ _⟩
  case round =>
    obtain ⟨k, hk, rfl, hp⟩ := hrel
    by_cases hlt : k < n
    · obtain ⟨b, o, rfl, _, _, hc⟩ := hs.at_ (by omega)
      have hcell := hc k hlt
      obtain ⟨v, hv⟩ : ∃ v, v = xs.getD k 0 := ⟨_, rfl⟩
      rw [← hv] at hcell
      have HV := Lib.hid hv
      clear hc hv hs
      cases hnum : elB v with
      | false =>
        go_wp2_with (go_at_call 18; refine (l1Is_c _ _).mono ?_; rintro e w' ⟨rfl, rfl⟩)
        go_ret
        have hno := all_no (p := elB) (by rw [HL.out]; exact hlt) HV.out hnum
        exact ⟨ret_b (by simp [pathB, hno]), rfl⟩
      | true =>
        go_wp2_with (go_at_call 18; refine (l1Is_c _ _).mono ?_; rintro e w' ⟨rfl, rfl⟩)
        go_round
        case rel => exact ⟨k + 1, by omega, by go_num, hp.next HV.out hnum⟩
        case measure => simp [intOf]; omega
    · have hkn : k = n := by omega
      have ha : xs.all elB = true := AllTo.all (by rw [HL.out, ← hkn]; exact hp)
      have HA := Lib.hid ha
      clear hkn hs hp ha
      go_wp2_with (go_at_call 34; refine (l6In_c _ _ _ _).mono ?_; rintro e w' ⟨rfl, rfl⟩)
      go_ret
      exact ⟨ret_b ((pathB_eq xs n HL.out HA.out).symm), rfl⟩

/-- The keys made so far, and the secret for the next one. -/
def KeyTo (s : Int) (xs : List Int) (k : Nat) (x : Int) (acc : List Int) : Prop := elB x = true ∧ acc.length = k ∧ keysL s xs = acc ++ keysL x (xs.drop k)
theorem KeyTo.zero {s : Int} (h : elB s = true) (xs : List Int) : KeyTo s xs 0 s [] := ⟨h, rfl, by simp⟩
theorem KeyTo.next {s : Int} {xs : List Int} {k : Nat} {x v : Int} {acc : List Int} (h : KeyTo s xs k x acc) (hk : k < xs.length) (hv : v = xs.getD k 0) (he : elB v = true) : KeyTo s xs (k + 1) (mulP x (facP (mulP x v))) (acc ++ [mulP x v]) := by
  obtain ⟨h1, h2, h3⟩ := h
  refine ⟨mulP_el h1 (facP_el (mulP_el h1 he)), by simp [h2], ?_⟩
  have hd : xs.drop k = v :: xs.drop (k + 1) := by
    rw [List.drop_eq_getElem_cons hk, hv]; simp [List.getD_eq_getElem?_getD, hk]
  rw [h3, hd, keysL]
  simp
theorem KeyTo.all {s : Int} {xs : List Int} {x : Int} {acc : List Int} (h : KeyTo s xs xs.length x acc) : acc = keysL s xs := by
  rw [h.2.2, List.drop_length]; simp [keysL]
/-- The keys made so far, in memory. -/
def KeyRel (s : Int) (xs : List Int) (n : Nat) (w : World) (sv v i : Value) (wr : World) : Prop :=
  ∃ (k : Nat) (x : Int) (acc : List Int), k ≤ n ∧ i = .int .i64 (k : Int) ∧ sv = .int .i64 x ∧ KeyTo s xs k x acc ∧ wr.ownsRow w.heap.size 3 1 v k (ints acc) ∧ Below w.heap.size w wr

set_option maxRecDepth 100000 in
set_option maxHeartbeats 1600000 in
theorem l5Keys_c (s : Int) (A : Option Addr) (n c lo hi : Nat) (xs : List Int) (w : World) (hs : SlR .i64 w lo hi A n xs) (hse : elB s = true) (hxe : xs.all elB = true) (hn : n ≤ 4194304) : Calls Try.prog 58 #[.int .i64 s, .slice A n c] w (NewInts (keysL s xs) w) := by
  obtain ⟨i0, hi0, hz0, hz1, hz2⟩ := info_parts Try.infoInt
  have hh := hs.hi_le
  have HL := Lib.hid hs.len
  have HS := Lib.hid hse
  have HX := Lib.hid hxe
  clear hxe
  go_enter Try.func58, Try.ntmps58
  go_wp2_with fail
  clear hse
  go_loopw [6, 5, 7] (fun sv v i wr => KeyRel s xs n w sv v i wr) (fun _ _ i _ => n - (intOf i).toNat)
  case atStart => exact ⟨0, s, [], Nat.zero_le _, rfl, rfl, KeyTo.zero HS.out xs, World.ownsRow_made w #[] 0 (Nat.le_refl _) (by unfold maxLen; omega) rfl, (Below.refl _ _).alloc (Nat.le_refl _) _⟩
  case round =>
    obtain ⟨k, x, acc, hk, rfl, rfl, hkt, hown, hnx⟩ := hrel
    by_cases hlt : k < n
    · obtain ⟨b, o, rfl, hb1, hb2, hc⟩ := hs.at_ (by omega)
      have hcell : wr.cell? ⟨b, o + k, none⟩ = some (.int .i64 (xs.getD k 0)) := (hnx.cell (p := ⟨b, o + k, none⟩) (by exact Nat.lt_of_lt_of_le hb2 hh)).trans (hc k hlt)
      obtain ⟨v, hv⟩ : ∃ v, v = xs.getD k 0 := ⟨_, rfl⟩
      rw [← hv] at hcell
      have hve : elB v = true := by rw [hv]; exact all_at HX.out (by rw [HL.out]; exact hlt)
      have hnext := hkt.next (by rw [HL.out]; exact hlt) hv hve
      have HK := Lib.hid hnext
      have hxe := hkt.1
      have hme := mulP_el hxe hve
      have hfe := facP_el hme
      have HV := Lib.hid hv
      have hsz := hnx.size
      clear hc hv hs hkt hnext
      go_wp2_with (first
        | (go_at_call 41; refine (l1Times_c _ _ _ (by assumption) (by assumption)).mono ?_; rintro e w' ⟨rfl, rfl⟩) | (go_at_call 54; refine (l1Factor_c _ _ (by assumption)).mono ?_; rintro e w' ⟨rfl, rfl⟩)
        | (at_builtin; refine wpList_append_own _ rfl _ _ 23 rfl w.heap.size 3 i0 (.int .i64 0) 1 8 Try.underlying23 hi0 hz0 hz1 hz2 rfl (by decide) _ _ _ rfl (hown.alloc _) ⟨wr.heap.size, 0, none⟩ 1 1 [.int .i64 (mulP x v)] rfl rfl one_new one_cell (by unfold maxLen; omega) (by omega) (by simp; omega) ?_; intro v' w1 hown' hgrow _))
      have hnx1 := made_below hnx hgrow (Nat.le_refl _) hown
      rw [ints_snoc] at hown'
      clear hgrow hown hnx hcell hve hxe hme hfe
      go_roundw
      case rel => exact ⟨k + 1, _, _, by omega, by go_num, rfl, HK.out, hown', hnx1⟩
      case measure => simp [intOf]; omega
    · have hkn : k = n := by omega
      have hacc : acc = keysL s xs := KeyTo.all (x := x) (by rw [HL.out, ← hkn]; exact hkt)
      rw [hacc] at hown
      clear hacc hkn hs hkt
      go_wp2
      go_ret
      exact NewInts.of_owns hown hnx
theorem keysP_len (s : Int) (xs : List Int) : (keysP s xs).length ≤ 3 := by
  unfold keysP
  split
  · rename_i h
    rw [keysL_len]
    simp [pathOk] at h
    exact (pathB_iff.1 h.2).2.2
  · simp
end Go.Proofs.Ytoocjalhcliebaa
