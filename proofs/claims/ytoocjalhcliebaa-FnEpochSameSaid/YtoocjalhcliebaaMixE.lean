/-
  Mixes that are equal are told equal.
  Conditions: the slices read as lists.
-/
import Derived.Test.YtoocjalhcliebaaMixW
import Derived.Test.YtoocjalhcliebaaMixS
import Derived.Deep.RegionHeld3
namespace Go.Proofs.Ytoocjalhcliebaa
open Go Go.RowKit

set_option maxRecDepth 100000 in
set_option maxHeartbeats 3200000 in
theorem samePool_t (A : Option Addr) (n c : Nat) (A2 : Option Addr) (n2 c2 lo hi lo2 hi2 : Nat) (pl : List Peel) (w : World) (ha : PoolR w lo hi A n pl) (hb : PoolR w lo2 hi2 A2 n2 pl) (hn : n ≤ 4194304) (hpl : PlB 4194304 pl) : Calls Try.prog 9 #[.slice A n c, .slice A2 n2 c2] w (Tells true w) := by
  have hnn : n2 = n := by rw [← hb.len, ha.len]
  subst hnn
  have HL := Lib.hid ha.len
  have HPL := Lib.hid hpl
  clear hpl
  go_enter Try.func9, Try.ntmps9
  go_wp2_with fail
  go_loopw [5] (fun i wr => ∃ k : Nat, k ≤ n2 ∧ i = .int .i64 (k : Int) ∧ Below w.heap.size w wr) (fun i _ => n2 - (intOf i).toNat)
  case atStart => exact ⟨0, Nat.zero_le _, rfl, Below.refl _ _⟩
  case round =>
    obtain ⟨k, hk, rfl, hnx⟩ := hrel
    by_cases hlt : k < n2
    · obtain ⟨b, o, rfl, hb1, hb2, hc⟩ := ha.at_ (by omega)
      obtain ⟨b2, o2, rfl, hb3, hb4, hc2⟩ := hb.at_ (by omega)
      have hxl := HPL.out.at_ (j := k) (by rw [HL.out]; exact hlt)
      have pa := (hc k hlt).keep (w' := wr) (Nat.le_trans ha.hi_le hnx.size) ⟨hb1, hb2⟩ (fun b' _ hb' => hnx.block b' (Nat.lt_of_lt_of_le hb' ha.hi_le))
      have pb := (hc2 k hlt).keep (w' := wr) (Nat.le_trans hb.hi_le hnx.size) ⟨hb3, hb4⟩ (fun b' _ hb' => hnx.block b' (Nat.lt_of_lt_of_le hb' hb.hi_le))
      have hbw : b < wr.heap.size := Nat.lt_of_lt_of_le hb2 (Nat.le_trans ha.hi_le hnx.size)
      have hbw2 : b2 < wr.heap.size := Nat.lt_of_lt_of_le hb4 (Nat.le_trans hb.hi_le hnx.size)
      obtain ⟨P1, Pn1, Pc1, P2, Pn2, Pc2, ⟨p0, p1, p2, p3, p4, p5⟩, t⟩ := pa
      obtain ⟨Q1, Qn1, Qc1, Q2, Qn2, Qc2, ⟨q0, q1, q2, q3, q4, q5⟩, u⟩ := pb
      obtain ⟨X, hX⟩ : ∃ X, X = pl.getD k zeroPeel := ⟨_, rfl⟩
      have hlx := t.len
      rw [← hX] at p0 p1 p2 p4 q0 q1 q2 q4 t u hxl hlx
      have hc1 : Pn1 ≤ 4194304 ∧ Pn2 ≤ 4194304 := by omega
      have HT := Lib.hid t.drew
      have HU := Lib.hid u.drew
      have kk : ∀ w', Below wr.heap.size wr w' → (w'.cell? ⟨b, o + k * 6, none⟩ = some (.int .i64 X.kind) ∧ w'.cell? ⟨b, o + k * 6 + 1, none⟩ = some (.int .i64 X.next) ∧ w'.cell? ⟨b, o + k * 6 + 2, none⟩ = some (.int .i64 X.p.e) ∧ w'.cell? ⟨b, o + k * 6 + 3, none⟩ = some (.slice P1 Pn1 Pc1) ∧ w'.cell? ⟨b, o + k * 6 + 4, none⟩ = some (.int .i64 X.p.t) ∧ w'.cell? ⟨b, o + k * 6 + 5, none⟩ = some (.slice P2 Pn2 Pc2)) ∧ (w'.cell? ⟨b2, o2 + k * 6, none⟩ = some (.int .i64 X.kind) ∧ w'.cell? ⟨b2, o2 + k * 6 + 1, none⟩ = some (.int .i64 X.next) ∧ w'.cell? ⟨b2, o2 + k * 6 + 2, none⟩ = some (.int .i64 X.p.e) ∧ w'.cell? ⟨b2, o2 + k * 6 + 3, none⟩ = some (.slice Q1 Qn1 Qc1) ∧ w'.cell? ⟨b2, o2 + k * 6 + 4, none⟩ = some (.int .i64 X.p.t) ∧ w'.cell? ⟨b2, o2 + k * 6 + 5, none⟩ = some (.slice Q2 Qn2 Qc2)) := fun w' h =>
        ⟨⟨(h.cell (p := ⟨b, _, none⟩) hbw).trans p0, (h.cell (p := ⟨b, _, none⟩) hbw).trans p1, (h.cell (p := ⟨b, _, none⟩) hbw).trans p2, (h.cell (p := ⟨b, _, none⟩) hbw).trans p3, (h.cell (p := ⟨b, _, none⟩) hbw).trans p4, (h.cell (p := ⟨b, _, none⟩) hbw).trans p5⟩,
         ⟨(h.cell (p := ⟨b2, _, none⟩) hbw2).trans q0, (h.cell (p := ⟨b2, _, none⟩) hbw2).trans q1, (h.cell (p := ⟨b2, _, none⟩) hbw2).trans q2, (h.cell (p := ⟨b2, _, none⟩) hbw2).trans q3, (h.cell (p := ⟨b2, _, none⟩) hbw2).trans q4, (h.cell (p := ⟨b2, _, none⟩) hbw2).trans q5⟩⟩
      have HKK := Lib.hid kk
      have HD0 := Lib.hid ((Below.refl wr.heap.size wr).drew)
      have hk0 : (0 : Int) ≤ (k : Int) := Int.natCast_nonneg _
      have hkn : (k : Int) < (n2 : Int) := by omega
      clear hc hc2 hX t u kk hxl hlx
      go_wp2_with fail
      go_region_held3 (fun w' => (w'.cell? ⟨b, o + k * 6, none⟩ = some (.int .i64 X.kind) ∧ w'.cell? ⟨b, o + k * 6 + 1, none⟩ = some (.int .i64 X.next) ∧ w'.cell? ⟨b, o + k * 6 + 2, none⟩ = some (.int .i64 X.p.e) ∧ w'.cell? ⟨b, o + k * 6 + 3, none⟩ = some (.slice P1 Pn1 Pc1) ∧ w'.cell? ⟨b, o + k * 6 + 4, none⟩ = some (.int .i64 X.p.t) ∧ w'.cell? ⟨b, o + k * 6 + 5, none⟩ = some (.slice P2 Pn2 Pc2)) ∧ (w'.cell? ⟨b2, o2 + k * 6, none⟩ = some (.int .i64 X.kind) ∧ w'.cell? ⟨b2, o2 + k * 6 + 1, none⟩ = some (.int .i64 X.next) ∧ w'.cell? ⟨b2, o2 + k * 6 + 2, none⟩ = some (.int .i64 X.p.e) ∧ w'.cell? ⟨b2, o2 + k * 6 + 3, none⟩ = some (.slice Q1 Qn1 Qc1) ∧ w'.cell? ⟨b2, o2 + k * 6 + 4, none⟩ = some (.int .i64 X.p.t) ∧ w'.cell? ⟨b2, o2 + k * 6 + 5, none⟩ = some (.slice Q2 Qn2 Qc2)))
        (exact HKK.out _ (by first | with_reducible exact HD0.out | with_reducible exact hB8))
        ((go_at_call 21; refine (samePeeled_t _ _ _ _ _ _ _ _ _ _ _ _ _ _ _ _ _ _ _ _ _ _ _ HT.out HU.out hc1.1 hc1.2).mono ?_; rintro e' w8 ⟨rfl, hb8⟩; have hB8 : Below wr.heap.size wr w8 := HD0.out.trans hb8))
      have hnx2 := hnx.trans (hB8.mono hnx.size)
      clear p0 p1 p2 p3 p4 p5 q0 q1 q2 q3 q4 q5
      go_wp2_with fail
      go_roundw
      case rel => exact ⟨k + 1, by omega, by go_num, hnx2⟩
      case measure => simp [intOf]; omega
    · go_wp2_with fail
      go_ret
      exact ⟨rfl, hnx⟩
set_option maxRecDepth 100000 in
set_option maxHeartbeats 1600000 in
theorem sameMix_t (s : Int) (A : Option Addr) (n c : Nat) (A2 : Option Addr) (n2 c2 : Nat) (B : Option Addr) (m d : Nat) (B2 : Option Addr) (m2 d2 lo hi lo2 hi2 : Nat) (seen : List Int) (pl : List Peel) (w : World) (ha : MixR w lo hi seen pl A n c A2 n2 c2) (hb : MixR w lo2 hi2 seen pl B m d B2 m2 d2) (hn : n ≤ 4194304) (hn2 : n2 ≤ 4194304) (hpl : PlB 4194304 pl) : Calls Try.prog 8 #[.agg #[.int .i64 s, .slice A n c, .slice A2 n2 c2], .agg #[.int .i64 s, .slice B m d, .slice B2 m2 d2]] w (Tells true w) := by
  have ha0 := (ha.alloc (.cells #[.int .i64 s, .slice A n c, .slice A2 n2 c2] 26)).alloc (.cells #[.int .i64 s, .slice B m d, .slice B2 m2 d2] 26)
  have hb0 := (hb.alloc (.cells #[.int .i64 s, .slice A n c, .slice A2 n2 c2] 26)).alloc (.cells #[.int .i64 s, .slice B m d, .slice B2 m2 d2] 26)
  have bx : BoxAt ((w.alloc (.cells #[.int .i64 s, .slice A n c, .slice A2 n2 c2] 26)).alloc (.cells #[.int .i64 s, .slice B m d, .slice B2 m2 d2] 26)) w.heap.size #[.int .i64 s, .slice A n c, .slice A2 n2 c2] 26 := (BoxAt.new w #[.int .i64 s, .slice A n c, .slice A2 n2 c2] 26).alloc _
  have by_ : BoxAt ((w.alloc (.cells #[.int .i64 s, .slice A n c, .slice A2 n2 c2] 26)).alloc (.cells #[.int .i64 s, .slice B m d, .slice B2 m2 d2] 26)) (w.heap.size + 1) #[.int .i64 s, .slice B m d, .slice B2 m2 d2] 26 := by
    have := BoxAt.new (w.alloc (.cells #[.int .i64 s, .slice A n c, .slice A2 n2 c2] 26)) #[.int .i64 s, .slice B m d, .slice B2 m2 d2] 26
    simpa using this
  have hB0 : Below w.heap.size w ((w.alloc (.cells #[.int .i64 s, .slice A n c, .slice A2 n2 c2] 26)).alloc (.cells #[.int .i64 s, .slice B m d, .slice B2 m2 d2] 26)) := ((Below.refl w.heap.size w).alloc (Nat.le_refl _) _).alloc (by simp) _
  have hsz : w.heap.size + 2 ≤ ((w.alloc (.cells #[.int .i64 s, .slice A n c, .slice A2 n2 c2] 26)).alloc (.cells #[.int .i64 s, .slice B m d, .slice B2 m2 d2] 26)).heap.size := by simp
  clear ha hb
  go_enter Try.func8, Try.ntmps8
  go_wp2_with fail
  refine (sameInts_t _ _ _ _ _ _ _ _ _ _ _ _ ha0.1 hb0.1 hn).mono ?_
  rintro e' w2 ⟨rfl, h2⟩
  have hz2 := h2.size
  obtain ⟨p0, p1, p2⟩ := (bx.below h2 (by omega)).three
  obtain ⟨q0, q1, q2⟩ := (by_.below h2 (by omega)).three
  have ha2 := ha0.2.1.below h2 ha0.hi_le
  have hb2 := hb0.2.1.below h2 hb0.hi_le
  have hB2 := hB0.trans (h2.mono hB0.size)
  clear ha0 hb0 bx by_ h2 hB0
  go_wp2_with fail
  refine (samePool_t _ _ _ _ _ _ _ _ _ _ pl _ ha2 hb2 hn2 hpl).mono ?_
  rintro e' w4 ⟨rfl, h4⟩
  have hB4 := hB2.trans (h4.mono hB2.size)
  clear p0 p1 p2 q0 q1 q2 ha2 hb2 h4 hB2
  go_wp2_with fail
  go_ret
  exact ⟨ret_b (by first | rfl | simp), hB4⟩
end Go.Proofs.Ytoocjalhcliebaa
