/-
  Contracts of the functions that measure and copy the mixes that came in.
  Conditions: the slices read as lists.
-/
import Derived.Test.YtbkecimhbibnjaaPool
namespace Go.Proofs.Ytbkecimhbibnjaa
open Go Go.RowKit

set_option maxRecDepth 100000 in
set_option maxHeartbeats 800000 in
theorem szPeeled_ok (k x e t : Int) (A : Option Addr) (n c : Nat) (A2 : Option Addr) (n2 c2 : Nat) (l : Nat) (w : World) (h : n + n2 ≤ l) (hl : l ≤ 1048576) : Calls Try.prog 102 #[.agg #[.int .i64 k, .int .i64 x, .int .i64 e, .slice A n c, .int .i64 t, .slice A2 n2 c2], .int .i64 (l : Int)] w fun e w' => e = .returned (.int .i64 ((l - n - n2 : Nat) : Int)) ∧ Below w.heap.size w w' := by
  go_enter Try.func102, Try.ntmps102
  go_wp2_with fail
  refine (szPacket_ok _ _ _ _ _ _ _ _ l _ h hl).mono ?_
  rintro e' w2 ⟨rfl, hb⟩
  have hn0 : ¬ (((l - n - n2 : Nat) : Int) < 0) := by omega
  go_wp2_with fail
  go_ret
  exact ⟨rfl, ((Below.refl w.heap.size w).alloc (Nat.le_refl _) _).trans (hb.mono (by simp))⟩
set_option maxRecDepth 100000 in
set_option maxHeartbeats 800000 in
theorem szPeeled_no (k x e t : Int) (A : Option Addr) (n c : Nat) (A2 : Option Addr) (n2 c2 : Nat) (l : Nat) (w : World) (h : l < n + n2) (hn : n ≤ 9223372036854775807) (hn2 : n2 ≤ 9223372036854775807) (hl : l ≤ 1048576) : Calls Try.prog 102 #[.agg #[.int .i64 k, .int .i64 x, .int .i64 e, .slice A n c, .int .i64 t, .slice A2 n2 c2], .int .i64 (l : Int)] w fun e w' => e = .returned (.int .i64 (-1)) ∧ Below w.heap.size w w' := by
  go_enter Try.func102, Try.ntmps102
  go_wp2_with fail
  refine (szPacket_no _ _ _ _ _ _ _ _ l _ h hn hn2 hl).mono ?_
  rintro e' w2 ⟨rfl, hb⟩
  go_wp2_with fail
  go_ret
  exact ⟨rfl, ((Below.refl w.heap.size w).alloc (Nat.le_refl _) _).trans (hb.mono (by simp))⟩
/-- What measuring leaves: a number; where it is not negative, all lists are short. -/
def SzPost (l n : Nat) (pl : List Peel) (w : World) (e : Ending) (w' : World) : Prop :=
  ∃ r : Int, e = .returned (.int .i64 r) ∧ -1 ≤ r ∧ r ≤ l ∧ (0 ≤ r → n ≤ l ∧ PlB l pl) ∧ Below w.heap.size w w'
/-- The lists of the first k peeled packets are no longer than N. -/
def SzTo (N k : Nat) (pl : List Peel) : Prop := ∀ j, j < k → (pl.getD j zeroPeel).p.h.length ≤ N ∧ (pl.getD j zeroPeel).p.b.length ≤ N
theorem SzTo.next {N k : Nat} {pl : List Peel} (h : SzTo N k pl) (hk : (pl.getD k zeroPeel).p.h.length ≤ N ∧ (pl.getD k zeroPeel).p.b.length ≤ N) : SzTo N (k + 1) pl := fun j hj => by
  by_cases e : j = k
  · subst e; exact hk
  · exact h j (by omega)
set_option maxRecDepth 100000 in
set_option maxHeartbeats 1600000 in
theorem szPeeledS_c (A : Option Addr) (n c lo hi : Nat) (pl : List Peel) (l : Nat) (w : World) (hs : PoolR w lo hi A n pl) (hn : n ≤ 9223372036854775807) (hl : l ≤ 1048576) (hcap : ∀ x ∈ pl, x.p.h.length ≤ 9223372036854775807 ∧ x.p.b.length ≤ 9223372036854775807) :
    Calls Try.prog 57 #[.slice A n c, .int .i64 (l : Int)] w (SzPost l n pl w) := by
  have hlen := hs.len
  have HL := Lib.hid hlen
  by_cases hbig : l < n
  · have hneg : (l : Int) - (n : Int) < 0 := by omega
    clear hlen
    go_enter Try.func57, Try.ntmps57
    go_wp2
    go_ret
    exact ⟨-1, rfl, by omega, by omega, fun h => absurd h (by omega), Below.refl _ _⟩
  · have hneg : ¬ (l : Int) - (n : Int) < 0 := by omega
    clear hlen
    go_enter Try.func57, Try.ntmps57
    go_wp2_with fail
    go_loopw [1, 5] (fun v i wr => ∃ (k l' : Nat), k ≤ n ∧ l' ≤ l ∧ i = .int .i64 (k : Int) ∧ v = .int .i64 (l' : Int) ∧ SzTo l k pl ∧ Below w.heap.size w wr) (fun _ i _ => n - (intOf i).toNat)
    case atStart => exact ⟨0, l - n, Nat.zero_le _, by omega, rfl, by congr 1; omega, fun j hj => by omega, Below.refl _ _⟩
    case round =>
      obtain ⟨k, l', hk, hl', rfl, rfl, hsz, hnx⟩ := hrel
      by_cases hlt : k < n
      · obtain ⟨b, o, rfl, hb1, hb2, hc⟩ := hs.at_ (by omega)
        have hpk := hcap _ (plGet (by rw [HL.out]; exact hlt))
        obtain ⟨A1, n1, c1, A2, n2, c2, ⟨h0, h1, h2, h3, h4, h5⟩, t⟩ := (hc k hlt).keep (w' := wr) (Nat.le_trans hs.hi_le hnx.size) ⟨hb1, hb2⟩ (fun b' _ hb' => hnx.block b' (Nat.lt_of_lt_of_le hb' hs.hi_le))
        have HT := Lib.hid t.len
        obtain ⟨X, hX⟩ : ∃ X, X = pl.getD k zeroPeel := ⟨_, rfl⟩
        have hlx := t.len
        rw [← hX] at h0 h1 h2 h4 hpk hlx
        have HX := Lib.hid hX
        have HSZ := Lib.hid hsz
        have hc1 : n1 ≤ 9223372036854775807 ∧ n2 ≤ 9223372036854775807 := by omega
        have HLX := Lib.hid hlx
        clear hc t hsz hX hpk hlx
        by_cases hfit : n1 + n2 ≤ l'
        · have hn0 : ¬ (((l' - n1 - n2 : Nat) : Int) < 0) := by omega
          have hsz2 : SzTo l (k + 1) pl := HSZ.out.next (by rw [← HX.out]; have := HLX.out; omega)
          have HSZ2 := Lib.hid hsz2
          clear hsz2
          go_wp2_with fail
          refine (szPeeled_ok _ _ _ _ _ _ _ _ _ _ l' _ hfit (by omega)).mono ?_
          rintro e' w2 ⟨rfl, hb⟩
          have hnx2 := hnx.trans (hb.mono hnx.size)
          clear h0 h1 h2 h3 h4 h5 hb hs
          go_wp2_with fail
          go_roundw
          case rel => exact ⟨k + 1, l' - n1 - n2, by omega, by omega, by go_num, rfl, HSZ2.out, hnx2⟩
          case measure => simp [intOf]; omega
        · go_wp2_with fail
          refine (szPeeled_no _ _ _ _ _ _ _ _ _ _ l' _ (by omega) hc1.1 hc1.2 (by omega)).mono ?_
          rintro e' w2 ⟨rfl, hb⟩
          have hnx2 := hnx.trans (hb.mono hnx.size)
          clear h0 h1 h2 h3 h4 h5 hb hs
          go_wp2_with fail
          go_ret
          exact ⟨-1, rfl, by omega, by omega, fun h => absurd h (by omega), hnx2⟩
      · have hkn : k = n := by omega
        have hpb : PlB l pl := PlB.of_at HL.out (fun j hj => hsz j (by omega))
        have HPB := Lib.hid hpb
        clear hkn hpb hsz hs
        go_wp2
        go_ret
        exact ⟨l', rfl, by omega, by omega, fun _ => ⟨by omega, HPB.out⟩, hnx⟩
/-- What measuring a mix leaves. -/
def SzMix (l n n2 : Nat) (pl : List Peel) (w : World) (e : Ending) (w' : World) : Prop :=
  ∃ r : Int, e = .returned (.int .i64 r) ∧ (0 ≤ r → n ≤ l ∧ n2 ≤ l ∧ PlB l pl) ∧ Below w.heap.size w w'
set_option maxRecDepth 100000 in
set_option maxHeartbeats 1600000 in
theorem szMix_c (s : Int) (A : Option Addr) (n c : Nat) (A2 : Option Addr) (n2 c2 lo hi : Nat) (pl : List Peel) (w : World) (hs : PoolR w lo hi A2 n2 pl) (hn : n ≤ 9223372036854775807) (hn2 : n2 ≤ 9223372036854775807) (hcap : ∀ x ∈ pl, x.p.h.length ≤ 9223372036854775807 ∧ x.p.b.length ≤ 9223372036854775807) :
    Calls Try.prog 22 #[.agg #[.int .i64 s, .slice A n c, .slice A2 n2 c2], .int .i64 1048576] w (SzMix 1048576 n n2 pl w) := by
  have hs0 := hs.alloc (.cells #[.int .i64 s, .slice A n c, .slice A2 n2 c2] 37)
  have hb0 : Below w.heap.size w (w.alloc (.cells #[.int .i64 s, .slice A n c, .slice A2 n2 c2] 37)) := (Below.refl w.heap.size w).alloc (Nat.le_refl _) _
  by_cases hbig : 1048576 < n
  · go_enter Try.func22, Try.ntmps22
    go_wp2_with fail
    refine (szIntS_no _ _ _ 1048576 _ hbig hn).mono ?_
    rintro e' w' ⟨rfl, rfl⟩
    go_wp2_with fail
    go_ret
    exact ⟨-1, rfl, fun h => absurd h (by omega), hb0⟩
  · have hn0 : ¬ (((1048576 - n : Nat) : Int) < 0) := by omega
    go_enter Try.func22, Try.ntmps22
    go_wp2_with fail
    refine (szIntS_ok _ _ _ 1048576 _ (by omega) (by omega)).mono ?_
    rintro e' w' ⟨rfl, rfl⟩
    go_wp2_with fail
    refine (szPeeledS_c _ _ _ _ _ pl (1048576 - n) _ hs0 hn2 (by omega) hcap).mono ?_
    rintro e' w2 ⟨r, rfl, hr1, hr2, hr3, hb⟩
    have hb2 := hb0.trans (hb.mono (by simp))
    have HR := Lib.hid hr3
    clear hr3 hs hs0 hb0 hb
    by_cases hneg : r < 0
    · go_wp2_with fail
      go_ret
      exact ⟨-1, rfl, fun h => absurd h (by omega), hb2⟩
    · go_wp2_with fail
      go_ret
      refine ⟨r, rfl, fun h => ?_, hb2⟩
      obtain ⟨h1, h2⟩ := HR.out h
      exact ⟨by omega, by omega, fun x hx => by have := h2 x hx; omega⟩
end Go.Proofs.Ytbkecimhbibnjaa
