/-
  Contracts of the functions of the statements that compare, copy and mark lists.
  Conditions: a list's slice reads as a list of whole numbers.
-/
import Derived.Test.YtbkecimhbibnjaaCmp
import Derived.Maps.AppendAt
namespace Go.Proofs.Ytbkecimhbibnjaa
open Go Go.RowKit

/-- Equality of lists, as the program answers it. -/
def sameB (xs ys : List Int) : Bool := decide (xs = ys)
theorem sameB_self (xs : List Int) : sameB xs xs = true := by simp [sameB]
theorem sameB_iff {xs ys : List Int} : sameB xs ys = true ↔ xs = ys := by simp [sameB]
theorem sameB_ne {xs ys : List Int} (h : xs ≠ ys) : sameB xs ys = false := by simp [sameB, h]
def SameTo (xs ys : List Int) (k : Nat) : Prop := ∀ j, j < k → xs.getD j 0 = ys.getD j 0
theorem SameTo.zero (xs ys : List Int) : SameTo xs ys 0 := fun j hj => by omega
theorem SameTo.next {xs ys : List Int} {k : Nat} {a b : Int} (h : SameTo xs ys k) (ha : a = xs.getD k 0) (hb : b = ys.getD k 0) (e : a = b) : SameTo xs ys (k + 1) := fun j hj => by
  by_cases g : j = k
  · subst g; rw [← ha, ← hb, e]
  · exact h j (by omega)
theorem SameTo.all {xs ys : List Int} {n : Nat} (h : SameTo xs ys n) (hx : xs.length = n) (hy : ys.length = n) : xs = ys := ext_getD (by omega) fun i hi => h i (by omega)
theorem below_drewN {B : Nat} {a w : World} (h : Below B a w) (n : Nat) : Below B a (w.drewN n) := ⟨h.os, h.tape, h.output, h.size, h.block⟩
/-- A call that returns a truth value and touches nothing old. -/
def Tells (b : Bool) (w : World) (e : Ending) (w' : World) : Prop := e = .returned (.bool b) ∧ Below w.heap.size w w'

set_option maxHeartbeats 800000 in
theorem sameInts_c (A : Option Addr) (n c lo hi : Nat) (xs : List Int) (A2 : Option Addr) (n2 c2 lo2 hi2 : Nat) (ys : List Int) (w : World) (hs : SlR .i64 w lo hi A n xs) (ht : SlR .i64 w lo2 hi2 A2 n2 ys) (hn : n ≤ 4611686018427387904) :
    Calls Try.prog 29 #[.slice A n c, .slice A2 n2 c2] w (Tells (sameB xs ys) w) := by
  have hl := hs.len
  have hl2 := ht.len
  by_cases hnn : n = n2
  · subst hnn
    have HL := Lib.hid hl
    have HL2 := Lib.hid hl2
    have hh := hs.hi_le
    have hh2 := ht.hi_le
    clear hl hl2
    go_enter Try.func29, Try.ntmps29
    go_wp2_with fail
    go_loopw [5] (fun i wr => ∃ k : Nat, k ≤ n ∧ i = .int .i64 k ∧ SameTo xs ys k ∧ Below w.heap.size w wr) (fun i _ => n - (intOf i).toNat)
    case atStart => exact ⟨0, Nat.zero_le _, rfl, SameTo.zero _ _, Below.refl _ _⟩
    case round =>
      obtain ⟨k, hk, rfl, hp, hnx⟩ := hrel
      by_cases hlt : k < n
      · obtain ⟨b, o, rfl, hb1, hb2, hc⟩ := hs.at_ (by omega)
        obtain ⟨b', o', rfl, hb1', hb2', hc'⟩ := ht.at_ (by omega)
        have hcell : wr.cell? ⟨b, o + k, none⟩ = some (.int .i64 (xs.getD k 0)) := (hnx.cell (p := ⟨b, o + k, none⟩) (by exact Nat.lt_of_lt_of_le hb2 hh)).trans (hc k hlt)
        have hcell' : wr.cell? ⟨b', o' + k, none⟩ = some (.int .i64 (ys.getD k 0)) := (hnx.cell (p := ⟨b', o' + k, none⟩) (by exact Nat.lt_of_lt_of_le hb2' hh2)).trans (hc' k hlt)
        obtain ⟨v, hv⟩ : ∃ v, v = xs.getD k 0 := ⟨_, rfl⟩
        obtain ⟨v', hv'⟩ : ∃ v, v = ys.getD k 0 := ⟨_, rfl⟩
        rw [← hv] at hcell
        rw [← hv'] at hcell'
        have HV := Lib.hid hv
        have HV' := Lib.hid hv'
        have hi0' : (0 : Int) ≤ (k : Int) := Int.natCast_nonneg _
        have hi1 : (k : Int) < (n : Int) := by omega
        clear hc hc' hv hv' hs ht
        by_cases he : v = v'
        · have hb : (v != v') = false := by simpa using he
          have HE := Lib.hid he
          clear he
          go_wp2_with fail
          go_quiet (fail)
          go_wp2
          go_roundw
          case rel => exact ⟨k + 1, by omega, by go_num, hp.next HV.out HV'.out HE.out, below_drewN hnx _⟩
          case measure => simp [intOf]; omega
        · have hb : (v != v') = true := by simpa using he
          have HE := Lib.hid he
          clear he
          go_wp2_with fail
          go_quiet (fail)
          go_wp2
          go_ret
          exact ⟨ret_b (sameB_ne (fun g => HE.out (by rw [HV.out, HV'.out, g]))).symm, below_drewN hnx _⟩
      · have hkn : k = n := by omega
        have hf : sameB xs ys = true := sameB_iff.2 ((by rw [← hkn]; exact hp : SameTo xs ys n).all HL.out HL2.out)
        have HF := Lib.hid hf
        clear hkn hf hs ht hp
        go_wp2
        go_ret
        exact ⟨ret_b HF.out.symm, hnx⟩
  · have hb : ((n : Int) != (n2 : Int)) = true := by simpa using (by omega : ¬ (n : Int) = (n2 : Int))
    have hf : sameB xs ys = false := sameB_ne (fun g => hnn (by rw [← hl, ← hl2, g]))
    have HF := Lib.hid hf
    clear hf hl hl2 hnn hs ht
    go_enter Try.func29, Try.ntmps29
    go_wp2
    go_ret
    exact ⟨ret_b HF.out.symm, Below.refl _ _⟩

set_option maxHeartbeats 800000 in
theorem eqIntS_c (A : Option Addr) (n c lo hi : Nat) (xs : List Int) (A2 : Option Addr) (n2 c2 lo2 hi2 : Nat) (ys : List Int) (w : World) (hs : SlR .i64 w lo hi A n xs) (ht : SlR .i64 w lo2 hi2 A2 n2 ys) (hn : n ≤ 4611686018427387904) :
    Calls Try.prog 60 #[.slice A n c, .slice A2 n2 c2] w (Tells (sameB xs ys) w) := by
  have hl := hs.len
  have hl2 := ht.len
  by_cases hnn : n = n2
  · subst hnn
    have HL := Lib.hid hl
    have HL2 := Lib.hid hl2
    have hh := hs.hi_le
    have hh2 := ht.hi_le
    clear hl hl2
    go_enter Try.func60, Try.ntmps60
    go_wp2_with fail
    go_loopw [5] (fun i wr => ∃ k : Nat, k ≤ n ∧ i = .int .i64 k ∧ SameTo xs ys k ∧ Below w.heap.size w wr) (fun i _ => n - (intOf i).toNat)
    case atStart => exact ⟨0, Nat.zero_le _, rfl, SameTo.zero _ _, Below.refl _ _⟩
    case round =>
      obtain ⟨k, hk, rfl, hp, hnx⟩ := hrel
      by_cases hlt : k < n
      · obtain ⟨b, o, rfl, hb1, hb2, hc⟩ := hs.at_ (by omega)
        obtain ⟨b', o', rfl, hb1', hb2', hc'⟩ := ht.at_ (by omega)
        have hcell : wr.cell? ⟨b, o + k, none⟩ = some (.int .i64 (xs.getD k 0)) := (hnx.cell (p := ⟨b, o + k, none⟩) (by exact Nat.lt_of_lt_of_le hb2 hh)).trans (hc k hlt)
        have hcell' : wr.cell? ⟨b', o' + k, none⟩ = some (.int .i64 (ys.getD k 0)) := (hnx.cell (p := ⟨b', o' + k, none⟩) (by exact Nat.lt_of_lt_of_le hb2' hh2)).trans (hc' k hlt)
        obtain ⟨v, hv⟩ : ∃ v, v = xs.getD k 0 := ⟨_, rfl⟩
        obtain ⟨v', hv'⟩ : ∃ v, v = ys.getD k 0 := ⟨_, rfl⟩
        rw [← hv] at hcell
        rw [← hv'] at hcell'
        have HV := Lib.hid hv
        have HV' := Lib.hid hv'
        have hi0' : (0 : Int) ≤ (k : Int) := Int.natCast_nonneg _
        have hi1 : (k : Int) < (n : Int) := by omega
        clear hc hc' hv hv' hs ht
        by_cases he : v = v'
        · have hb : (v != v') = false := by simpa using he
          have HE := Lib.hid he
          clear he
          go_wp2_with fail
          go_quiet (fail)
          go_wp2
          go_roundw
          case rel => exact ⟨k + 1, by omega, by go_num, hp.next HV.out HV'.out HE.out, below_drewN hnx _⟩
          case measure => simp [intOf]; omega
        · have hb : (v != v') = true := by simpa using he
          have HE := Lib.hid he
          clear he
          go_wp2_with fail
          go_quiet (fail)
          go_wp2
          go_ret
          exact ⟨ret_b (sameB_ne (fun g => HE.out (by rw [HV.out, HV'.out, g]))).symm, below_drewN hnx _⟩
      · have hkn : k = n := by omega
        have hf : sameB xs ys = true := sameB_iff.2 ((by rw [← hkn]; exact hp : SameTo xs ys n).all HL.out HL2.out)
        have HF := Lib.hid hf
        clear hkn hf hs ht hp
        go_wp2
        go_ret
        exact ⟨ret_b HF.out.symm, hnx⟩
  · have hb : ((n : Int) != (n2 : Int)) = true := by simpa using (by omega : ¬ (n : Int) = (n2 : Int))
    have hf : sameB xs ys = false := sameB_ne (fun g => hnn (by rw [← hl, ← hl2, g]))
    have HF := Lib.hid hf
    clear hf hl hl2 hnn hs ht
    go_enter Try.func60, Try.ntmps60
    go_wp2
    go_ret
    exact ⟨ret_b HF.out.symm, Below.refl _ _⟩

end Go.Proofs.Ytbkecimhbibnjaa
