/-
  Peeled packets in order.
  Conditions: the list reads as a list.
-/
import Derived.Test.YtoocjalhcliebaaMixQ
namespace Go.Proofs.Ytoocjalhcliebaa
open Go Go.RowKit

/-- The ways out of a loop meet. -/
theorem wp_cutB {P : Program} {s : Code} {i : Nat} {K : Act → World → Prop} {Q' : Exit → Act → World → Prop} {a : Act} {w : World} (R : Act → World → Prop)
    (rest : ∀ a' w', R a' w' → K a' w')
    (first : ∀ (J K' : Act → World → Prop), (∀ a' w', R a' w' → J a' w') → (∀ a' w', Met J a' w' → K' a' w') → s.wp P (Exit.inBlock i (Exit.then K' Q')) a w) : s.wp P (Exit.inBlock i (Exit.then K Q')) a w := by
  have hs : ∀ e a' w', Exit.then R Q' e a' w' → Exit.then K Q' e a' w' := fun e a' w' hq => by
    cases e with
    | normal => exact rest _ _ hq
    | exit id => exact hq
    | goto l => exact hq
    | ret => exact hq
    | panic ch => exact hq
    | outgrown => exact hq
  refine wp_mono (first R R (fun _ _ q => q) (fun _ _ q => q)) ?_
  intro e a' w' hq
  cases e with
  | exit id =>
    simp only [Exit.inBlock] at hq ⊢
    split at hq
    · rename_i h
      rw [if_pos h]; exact hs _ _ _ hq
    · rename_i h
      rw [if_neg h]; exact hs _ _ _ hq
  | normal => exact hs (.normal) _ _ hq
  | goto l => exact hs (.goto l) _ _ hq
  | ret => exact hs (.ret) _ _ hq
  | panic ch => exact hs (.panic ch) _ _ hq
  | outgrown => exact hs (.outgrown) _ _ hq
set_option maxRecDepth 100000 in
set_option maxHeartbeats 6400000 in
theorem l11Sort_c (A : Option Addr) (n c lo hi : Nat) (pl : List Peel) (w : World) (hs : PoolR w lo hi A n pl) (hn : n ≤ 1000) (hpl : PlB 1000000 pl) : Calls Try.prog 46 #[.slice A n c] w (SomeSlice w) := by
  obtain ⟨i6, hi6, hz60, hz61, hz62⟩ := info_peel
  have hhi := hs.hi_le
  have HS := Lib.hid hs
  have HPL := Lib.hid hpl
  have h0 : SortTo w lo hi 0 (.slice (some ⟨w.heap.size, 0, none⟩) 0 0) (w.alloc (.cells #[] 47)) :=
    ⟨w.heap.size, 0, [], rfl, Nat.le_refl _, World.ownsRow_made w #[] 0 (Nat.le_refl _) (by unfold maxLen; omega) rfl, ⟨(fun u hu => by cases hu), (fun j hj => by omega)⟩, (Below.refl w.heap.size w).alloc (Nat.le_refl _) _⟩
  clear hpl hs
  go_enter Try.func46, Try.ntmps46
  go_wp2_with fail
  go_loopw [3, 4, 5] (fun v i _ wr => ∃ k : Nat, k ≤ n ∧ i = .int .i64 (k : Int) ∧ SortTo w lo hi k v wr) (fun _ i _ _ => n - (intOf i).toNat)
  case atStart => exact ⟨0, Nat.zero_le _, rfl, h0⟩
  case round =>
    obtain ⟨k, hk, rfl, g, co, vals, rfl, hkc, hown, hel, hnx⟩ := hrel
    obtain ⟨wo, hwo⟩ : ∃ wo, wo = wr := ⟨wr, rfl⟩
    subst hwo
    by_cases hlt : k < n
    · obtain ⟨b, o, rfl, hb1, hb2, hc⟩ := HS.out.at_ (by omega)
      have hglt := (hown.lt g rfl).2
      have hwr := hnx.size
      have HOWN := Lib.hid hown
      have HEL := Lib.hid hel
      have HNX := Lib.hid hnx
      have HC := Lib.hid hc
      clear hown hel hnx h0 hc
      go_wp2_with fail
      refine wp_cutB (fun a' w4 => ∃ u5 u7 u8 u9 u10 u11 u12 u13 u14 u15 u16 u17 u18 u19 u20 u21 u22 u23 u24 u25 u26 u27 u28 u29 u30 u31 u32 u33 u34 u35 u36 u37 u38 u39 u40 u41 u42 u43 u44 u45 : Value, (∃ q : Nat, q ≤ k ∧ u5 = .int .i64 (q : Int) ∧ Below wo.heap.size wo w4) ∧ a' = ⟨#[.slice (some ⟨b, o, none⟩) n c, undef, .slice none 0 0, .slice (some ⟨g, 0, none⟩) k co, .int .i64 (k : Int), u5, .slice (some ⟨w.heap.size, 0, none⟩) 0 0, u7, u8, u9, u10, u11, u12, u13, u14, u15, u16, u17, u18, u19, u20, u21, u22, u23, u24, u25, u26, u27, u28, u29, u30, u31, u32, u33, u34, u35, u36, u37, u38, u39, u40, u41, u42, u43, u44, u45, undef, undef], []⟩) ?rest ?first
      case first =>
        intro _ _ _ _
        go_loopw [5] (fun z w4 => ∃ q : Nat, q ≤ k ∧ z = .int .i64 (q : Int) ∧ Below wo.heap.size wo w4) (fun z _ => k - (intOf z).toNat)
        case atStart => exact ⟨0, Nat.zero_le _, rfl, Below.refl _ _⟩
        case round =>
          obtain ⟨q, hq, rfl, hb4⟩ := hrel
          obtain ⟨w4, hw4⟩ : ∃ w4, w4 = wr := ⟨wr, rfl⟩
          subst hw4
          by_cases hqk : q < k
          · obtain ⟨P1, Pn1, Pc1, P2, Pn2, Pc2, ⟨p0, p1, p2, p3, p4, p5⟩, _⟩ := ((HC.out k hlt).keep (w' := wo) (Nat.le_trans hhi HNX.out.size) ⟨hb1, hb2⟩ (fun b' _ hb' => HNX.out.block b' (Nat.lt_of_lt_of_le hb' hhi))).keep (w' := w4) (by have := hb4.size; omega) ⟨hb1, hb2⟩ (fun b' _ hb' => hb4.block b' (by omega))
            obtain ⟨Y, Q1, Qn1, Qc1, Q2, Qn2, Qc2, ⟨f0, f1, f2, f3, f4, f5⟩, _⟩ := HEL.out.2 q hqk
            obtain ⟨X, hX⟩ : ∃ X, X = pl.getD k zeroPeel := ⟨_, rfl⟩
            rw [← hX] at p0 p1 p2 p4
            have hce : ∀ i, i < 6 → w4.cell? ⟨g, q * 6 + i, none⟩ = vals[q * 6 + i]? := fun i hi => (hb4.cell (p := ⟨g, _, none⟩) hglt).trans (HOWN.out.cellAt (q * 6 + i) (by omega))
            have q0 := (hce 0 (by omega)).trans f0
            have q1 := (hce 1 (by omega)).trans f1
            have q2 := (hce 2 (by omega)).trans f2
            have q3 := (hce 3 (by omega)).trans f3
            have q4 := (hce 4 (by omega)).trans f4
            have q5 := (hce 5 (by omega)).trans f5
            rw [Nat.add_zero] at q0
            have hz4 := hb4.size
            have hbw : b < w4.heap.size := by omega
            have hgw : g < w4.heap.size := by omega
            have kk : ∀ w', Below w4.heap.size w4 w' → (w'.cell? ⟨b, o + k * 6, none⟩ = some (.int .i64 X.kind) ∧ w'.cell? ⟨b, o + k * 6 + 1, none⟩ = some (.int .i64 X.next) ∧ w'.cell? ⟨b, o + k * 6 + 2, none⟩ = some (.int .i64 X.p.e) ∧ w'.cell? ⟨b, o + k * 6 + 3, none⟩ = some (.slice P1 Pn1 Pc1) ∧ w'.cell? ⟨b, o + k * 6 + 4, none⟩ = some (.int .i64 X.p.t) ∧ w'.cell? ⟨b, o + k * 6 + 5, none⟩ = some (.slice P2 Pn2 Pc2)) ∧ (w'.cell? ⟨g, q * 6, none⟩ = some (.int .i64 Y.kind) ∧ w'.cell? ⟨g, q * 6 + 1, none⟩ = some (.int .i64 Y.next) ∧ w'.cell? ⟨g, q * 6 + 2, none⟩ = some (.int .i64 Y.p.e) ∧ w'.cell? ⟨g, q * 6 + 3, none⟩ = some (.slice Q1 Qn1 Qc1) ∧ w'.cell? ⟨g, q * 6 + 4, none⟩ = some (.int .i64 Y.p.t) ∧ w'.cell? ⟨g, q * 6 + 5, none⟩ = some (.slice Q2 Qn2 Qc2)) := fun w' h =>
              ⟨⟨(h.cell (p := ⟨b, _, none⟩) hbw).trans p0, (h.cell (p := ⟨b, _, none⟩) hbw).trans p1, (h.cell (p := ⟨b, _, none⟩) hbw).trans p2, (h.cell (p := ⟨b, _, none⟩) hbw).trans p3, (h.cell (p := ⟨b, _, none⟩) hbw).trans p4, (h.cell (p := ⟨b, _, none⟩) hbw).trans p5⟩,
               ⟨(h.cell (p := ⟨g, _, none⟩) hgw).trans q0, (h.cell (p := ⟨g, _, none⟩) hgw).trans q1, (h.cell (p := ⟨g, _, none⟩) hgw).trans q2, (h.cell (p := ⟨g, _, none⟩) hgw).trans q3, (h.cell (p := ⟨g, _, none⟩) hgw).trans q4, (h.cell (p := ⟨g, _, none⟩) hgw).trans q5⟩⟩
            have HKK := Lib.hid kk
            have HD0 := Lib.hid ((Below.refl w4.heap.size w4).drew)
            have hk0 : (0 : Int) ≤ (k : Int) := Int.natCast_nonneg _
            have hkn : (k : Int) < (n : Int) := by omega
            have hq0 : (0 : Int) ≤ (q : Int) := Int.natCast_nonneg _
            have hqk' : (q : Int) < (k : Int) := by omega
            have HB4 := Lib.hid hb4
            clear hX f0 f1 f2 f3 f4 f5 kk hce hb4
            go_wp2_with fail
            go_region_held3 (fun w' => (w'.cell? ⟨b, o + k * 6, none⟩ = some (.int .i64 X.kind) ∧ w'.cell? ⟨b, o + k * 6 + 1, none⟩ = some (.int .i64 X.next) ∧ w'.cell? ⟨b, o + k * 6 + 2, none⟩ = some (.int .i64 X.p.e) ∧ w'.cell? ⟨b, o + k * 6 + 3, none⟩ = some (.slice P1 Pn1 Pc1) ∧ w'.cell? ⟨b, o + k * 6 + 4, none⟩ = some (.int .i64 X.p.t) ∧ w'.cell? ⟨b, o + k * 6 + 5, none⟩ = some (.slice P2 Pn2 Pc2)) ∧ (w'.cell? ⟨g, q * 6, none⟩ = some (.int .i64 Y.kind) ∧ w'.cell? ⟨g, q * 6 + 1, none⟩ = some (.int .i64 Y.next) ∧ w'.cell? ⟨g, q * 6 + 2, none⟩ = some (.int .i64 Y.p.e) ∧ w'.cell? ⟨g, q * 6 + 3, none⟩ = some (.slice Q1 Qn1 Qc1) ∧ w'.cell? ⟨g, q * 6 + 4, none⟩ = some (.int .i64 Y.p.t) ∧ w'.cell? ⟨g, q * 6 + 5, none⟩ = some (.slice Q2 Qn2 Qc2)))
              (exact HKK.out _ (by first | with_reducible exact HD0.out | with_reducible exact hB8))
              ((go_at_call 61; refine (l11Less_c _ _ _ _ _ _ _ _ _ _ _ _ _ _ _ _ _ _ _ _ _).mono ?_; rintro e' w8 ⟨lb, rfl, hb8⟩; have hB8 : Below w4.heap.size w4 w8 := HD0.out.trans hb8))
            cases lb with
            | false =>
              go_wp2_with fail
              go_roundw
              case rel => exact ⟨q + 1, by omega, by go_num, HB4.out.trans (hB8.mono hz4)⟩
              case measure => simp [intOf]; omega
            | true =>
              go_wp2_with fail
              go_meet
              case rel => exact ⟨q, hq, rfl, HB4.out.trans (hB8.mono hz4)⟩
          · have hqe : q = k := by omega
            subst hqe
            have hq0 : (0 : Int) ≤ (q : Int) := Int.natCast_nonneg _
            have HB4 := Lib.hid hb4
            clear hb4
            go_wp2_with fail
            go_region
            go_wp2_with fail
            go_meet
            case rel => exact ⟨q, hq, rfl, HB4.out.drew⟩
      case rest =>
        intro _ w4 hinv
        obtain ⟨u5, hinv⟩ := hinv
        obtain ⟨u7, hinv⟩ := hinv
        obtain ⟨u8, hinv⟩ := hinv
        obtain ⟨u9, hinv⟩ := hinv
        obtain ⟨u10, hinv⟩ := hinv
        obtain ⟨u11, hinv⟩ := hinv
        obtain ⟨u12, hinv⟩ := hinv
        obtain ⟨u13, hinv⟩ := hinv
        obtain ⟨u14, hinv⟩ := hinv
        obtain ⟨u15, hinv⟩ := hinv
        obtain ⟨u16, hinv⟩ := hinv
        obtain ⟨u17, hinv⟩ := hinv
        obtain ⟨u18, hinv⟩ := hinv
        obtain ⟨u19, hinv⟩ := hinv
        obtain ⟨u20, hinv⟩ := hinv
        obtain ⟨u21, hinv⟩ := hinv
        obtain ⟨u22, hinv⟩ := hinv
        obtain ⟨u23, hinv⟩ := hinv
        obtain ⟨u24, hinv⟩ := hinv
        obtain ⟨u25, hinv⟩ := hinv
        obtain ⟨u26, hinv⟩ := hinv
        obtain ⟨u27, hinv⟩ := hinv
        obtain ⟨u28, hinv⟩ := hinv
        obtain ⟨u29, hinv⟩ := hinv
        obtain ⟨u30, hinv⟩ := hinv
        obtain ⟨u31, hinv⟩ := hinv
        obtain ⟨u32, hinv⟩ := hinv
        obtain ⟨u33, hinv⟩ := hinv
        obtain ⟨u34, hinv⟩ := hinv
        obtain ⟨u35, hinv⟩ := hinv
        obtain ⟨u36, hinv⟩ := hinv
        obtain ⟨u37, hinv⟩ := hinv
        obtain ⟨u38, hinv⟩ := hinv
        obtain ⟨u39, hinv⟩ := hinv
        obtain ⟨u40, hinv⟩ := hinv
        obtain ⟨u41, hinv⟩ := hinv
        obtain ⟨u42, hinv⟩ := hinv
        obtain ⟨u43, hinv⟩ := hinv
        obtain ⟨u44, hinv⟩ := hinv
        obtain ⟨u45, hinv⟩ := hinv
        obtain ⟨⟨q, hq, rfl, hb4⟩, ha⟩ := hinv
        subst ha
        obtain ⟨X, hX⟩ : ∃ X, X = pl.getD k zeroPeel := ⟨_, rfl⟩
        have hbw4 := HNX.out.trans (hb4.mono hwr)
        have hel4 := HEL.out.below hb4 (by omega)
        have hown4 : w4.ownsRow w.heap.size 47 6 (.slice (some ⟨g, 0, none⟩) k co) k vals := owns_kept HOWN.out (fun x e => hb4.block x ((HOWN.out.lt x e).2))
        have hzw := hbw4.size
        have hz4 := hb4.size
        have hgw : g < w4.heap.size := by omega
        have hbw : b < w4.heap.size := by omega
        obtain ⟨P1, Pn1, Pc1, P2, Pn2, Pc2, ⟨p0, p1, p2, p3, p4, p5⟩, tX⟩ := (HC.out k hlt).keep (w' := w4) (Nat.le_trans hhi hzw) ⟨hb1, hb2⟩ (fun b' _ hb' => hbw4.block b' (Nat.lt_of_lt_of_le hb' hhi))
        rw [← hX] at p0 p1 p2 p4 tX
        have hbd : X.p.h.length ≤ 1000000 ∧ X.p.b.length ≤ 1000000 := by rw [hX]; exact HPL.out.at_ (by rw [HS.out.len]; exact hlt)
        have hlv := hown4.1
        have HPUT := Lib.hid (fun (v7 : Value) (w7 : World) (hw7 : w7.ownsRow w4.heap.size 47 6 v7 (q + 1 + (k - q)) (vals.take (q * 6) ++ [.int .i64 X.kind, .int .i64 X.next, .int .i64 X.p.e, .slice P1 Pn1 Pc1, .int .i64 X.p.t, .slice P2 Pn2 Pc2] ++ vals.drop (q * 6))) (hb7 : Below w4.heap.size w4 w7) =>
          (sort_put hw7 hel4 hlv hq rfl (six_one _ _ _ _ _ _ _ _ _ _) ⟨rfl, rfl, rfl, rfl, rfl, rfl⟩ tX hbd hbw4 hb7 hhi : SortTo w lo hi (k + 1) v7 w7))
        have HKK := Lib.hid (fun w' (h : Below w4.heap.size w4 w') => (⟨(h.cell (p := ⟨b, _, none⟩) hbw).trans p0, (h.cell (p := ⟨b, _, none⟩) hbw).trans p1, (h.cell (p := ⟨b, _, none⟩) hbw).trans p2, (h.cell (p := ⟨b, _, none⟩) hbw).trans p3, (h.cell (p := ⟨b, _, none⟩) hbw).trans p4, (h.cell (p := ⟨b, _, none⟩) hbw).trans p5⟩ : w'.cell? ⟨b, o + k * 6, none⟩ = some (.int .i64 X.kind) ∧ w'.cell? ⟨b, o + k * 6 + 1, none⟩ = some (.int .i64 X.next) ∧ w'.cell? ⟨b, o + k * 6 + 2, none⟩ = some (.int .i64 X.p.e) ∧ w'.cell? ⟨b, o + k * 6 + 3, none⟩ = some (.slice P1 Pn1 Pc1) ∧ w'.cell? ⟨b, o + k * 6 + 4, none⟩ = some (.int .i64 X.p.t) ∧ w'.cell? ⟨b, o + k * 6 + 5, none⟩ = some (.slice P2 Pn2 Pc2)))
        have HN1 := Lib.hid (fun W (h : Below w4.heap.size w4 W) => row_part hown4 h hgw 0 (vals.take (q * 6)) (fun j u hj => by rw [Nat.zero_add]; rw [List.getElem?_take] at hj; split at hj; exact hj; cases hj))
        have HN3 := Lib.hid (fun W (h : Below w4.heap.size w4 W) => (fun j u hj => by
          split
          · rename_i he
            have : (vals.drop (q * 6)).length = 0 := by rw [List.length_drop]; omega
            rw [List.length_eq_zero_iff.1 this] at hj
            cases hj
          · exact row_part hown4 h hgw (q * 6) (vals.drop (q * 6)) (fun j u hj => by rw [List.getElem?_drop] at hj; exact hj) j u hj :
            ∀ j u, (vals.drop (q * 6))[j]? = some u → W.cell? ((if co = q then (⟨g, 0, none⟩ : Addr) else ⟨g, q * 6, none⟩).add j) = some u))
        have HL1 := Lib.hid (show (vals.take (q * 6)).length = q * 6 by rw [List.length_take]; omega)
        have HL3 := Lib.hid (show (vals.drop (q * 6)).length = (k - q) * 6 by rw [List.length_drop]; omega)
        have H11 := Lib.hid (show ∀ u ∈ vals.take (q * 6), u.oneCell' = true from fun u hu => hel4.1 u (List.mem_of_mem_take hu))
        have H13 := Lib.hid (show ∀ u ∈ vals.drop (q * 6), u.oneCell' = true from fun u hu => hel4.1 u (List.mem_of_mem_drop hu))
        clear hX p0 p1 p2 p3 p4 p5 tX hbd hel4 hown4 hbw4 hlv hz4 hzw
        have HGA0 := Lib.hid (show Below w4.heap.size w4 w4.drew from (Below.refl w4.heap.size w4).drew)
        have HGA := Lib.hid (show Below w4.heap.size w4 (w4.alloc (.cells #[] 47)).drew from ((Below.refl w4.heap.size w4).alloc (Nat.le_refl _) (.cells #[] 47)).drew)
        have HGB := Lib.hid (show Below w4.heap.size w4 ((w4.alloc (.cells #[] 47)).alloc (.cells #[.int .i64 X.kind, .int .i64 X.next, .int .i64 X.p.e, .slice P1 Pn1 Pc1, .int .i64 X.p.t, .slice P2 Pn2 Pc2] 47)).drew from (((Below.refl w4.heap.size w4).alloc (Nat.le_refl _) (.cells #[] 47)).alloc (by simp) (.cells #[.int .i64 X.kind, .int .i64 X.next, .int .i64 X.p.e, .slice P1 Pn1 Pc1, .int .i64 X.p.t, .slice P2 Pn2 Pc2] 47)).drew)
        have HGC0 := Lib.hid (show Below w4.heap.size w4 (w4.alloc (.cells #[.int .i64 X.kind, .int .i64 X.next, .int .i64 X.p.e, .slice P1 Pn1 Pc1, .int .i64 X.p.t, .slice P2 Pn2 Pc2] 47)).drew from ((Below.refl w4.heap.size w4).alloc (Nat.le_refl _) (.cells #[.int .i64 X.kind, .int .i64 X.next, .int .i64 X.p.e, .slice P1 Pn1 Pc1, .int .i64 X.p.t, .slice P2 Pn2 Pc2] 47)).drew)
        have HGC := Lib.hid (show Below w4.heap.size w4 ((w4.alloc (.cells #[.int .i64 X.kind, .int .i64 X.next, .int .i64 X.p.e, .slice P1 Pn1 Pc1, .int .i64 X.p.t, .slice P2 Pn2 Pc2] 47)).alloc (.cells #[] 47)).drew from (((Below.refl w4.heap.size w4).alloc (Nat.le_refl _) (.cells #[.int .i64 X.kind, .int .i64 X.next, .int .i64 X.p.e, .slice P1 Pn1 Pc1, .int .i64 X.p.t, .slice P2 Pn2 Pc2] 47)).alloc (by simp) (.cells #[] 47)).drew)
        have HOA := Lib.hid (show ((w4.alloc (.cells #[] 47)).drew).ownsRow w4.heap.size 47 6 (.slice (some ⟨w4.heap.size, 0, none⟩) 0 0) 0 [] from World.ownsRow_made w4 #[] 0 (Nat.le_refl _) (by unfold maxLen; omega) rfl)
        have HOB := Lib.hid (show (((w4.alloc (.cells #[] 47)).alloc (.cells #[.int .i64 X.kind, .int .i64 X.next, .int .i64 X.p.e, .slice P1 Pn1 Pc1, .int .i64 X.p.t, .slice P2 Pn2 Pc2] 47)).drew).ownsRow w4.heap.size 47 6 (.slice (some ⟨w4.heap.size, 0, none⟩) 0 0) 0 [] from World.ownsRow.alloc HOA.out (.cells #[.int .i64 X.kind, .int .i64 X.next, .int .i64 X.p.e, .slice P1 Pn1 Pc1, .int .i64 X.p.t, .slice P2 Pn2 Pc2] 47))
        have HOC := Lib.hid (show (((w4.alloc (.cells #[.int .i64 X.kind, .int .i64 X.next, .int .i64 X.p.e, .slice P1 Pn1 Pc1, .int .i64 X.p.t, .slice P2 Pn2 Pc2] 47)).alloc (.cells #[] 47)).drew).ownsRow w4.heap.size 47 6 (.slice (some ⟨w4.heap.size + 1, 0, none⟩) 0 0) 0 [] by
          have := World.ownsRow_made (base := w4.heap.size) (e := 47) (size := 6) (w4.alloc (.cells #[.int .i64 X.kind, .int .i64 X.next, .int .i64 X.p.e, .slice P1 Pn1 Pc1, .int .i64 X.p.t, .slice P2 Pn2 Pc2] 47)) #[] 0 (show w4.heap.size ≤ _ by simp) (by unfold maxLen; omega) rfl
          have e : (w4.alloc (.cells #[.int .i64 X.kind, .int .i64 X.next, .int .i64 X.p.e, .slice P1 Pn1 Pc1, .int .i64 X.p.t, .slice P2 Pn2 Pc2] 47)).heap.size = w4.heap.size + 1 := by simp
          rw [e] at this
          exact this)
        have HXB := Lib.hid (show BoxAt ((w4.alloc (.cells #[] 47)).alloc (.cells #[.int .i64 X.kind, .int .i64 X.next, .int .i64 X.p.e, .slice P1 Pn1 Pc1, .int .i64 X.p.t, .slice P2 Pn2 Pc2] 47)).drew (w4.heap.size + 1) #[.int .i64 X.kind, .int .i64 X.next, .int .i64 X.p.e, .slice P1 Pn1 Pc1, .int .i64 X.p.t, .slice P2 Pn2 Pc2] 47 by
          have := BoxAt.new (w4.alloc (.cells #[] 47)) #[.int .i64 X.kind, .int .i64 X.next, .int .i64 X.p.e, .slice P1 Pn1 Pc1, .int .i64 X.p.t, .slice P2 Pn2 Pc2] 47
          have e : (w4.alloc (.cells #[] 47)).heap.size = w4.heap.size + 1 := by simp
          rw [e] at this
          exact this)
        have HXC := Lib.hid (show BoxAt ((w4.alloc (.cells #[.int .i64 X.kind, .int .i64 X.next, .int .i64 X.p.e, .slice P1 Pn1 Pc1, .int .i64 X.p.t, .slice P2 Pn2 Pc2] 47)).alloc (.cells #[] 47)).drew w4.heap.size #[.int .i64 X.kind, .int .i64 X.next, .int .i64 X.p.e, .slice P1 Pn1 Pc1, .int .i64 X.p.t, .slice P2 Pn2 Pc2] 47 from (BoxAt.new w4 #[.int .i64 X.kind, .int .i64 X.next, .int .i64 X.p.e, .slice P1 Pn1 Pc1, .int .i64 X.p.t, .slice P2 Pn2 Pc2] 47).alloc (.cells #[] 47))
        have hk0 : (0 : Int) ≤ (k : Int) := Int.natCast_nonneg _
        have hkn : (k : Int) < (n : Int) := by omega
        have hq0 : (0 : Int) ≤ (q : Int) := Int.natCast_nonneg _
        have hqk : (q : Int) ≤ (k : Int) := by omega
        have hqco : (q : Int) ≤ (co : Int) := by omega
        have hkco : (k : Int) ≤ (co : Int) := by omega
        have HB4 := Lib.hid hb4
        clear hb4
        go_wp2_with fail
        go_region_held3 (fun w' => w'.cell? ⟨b, o + k * 6, none⟩ = some (.int .i64 X.kind) ∧ w'.cell? ⟨b, o + k * 6 + 1, none⟩ = some (.int .i64 X.next) ∧ w'.cell? ⟨b, o + k * 6 + 2, none⟩ = some (.int .i64 X.p.e) ∧ w'.cell? ⟨b, o + k * 6 + 3, none⟩ = some (.slice P1 Pn1 Pc1) ∧ w'.cell? ⟨b, o + k * 6 + 4, none⟩ = some (.int .i64 X.p.t) ∧ w'.cell? ⟨b, o + k * 6 + 5, none⟩ = some (.slice P2 Pn2 Pc2)) (first | exact HKK.out _ hB7 | exact HKK.out _ hB6 | exact HKK.out _ (hB5.alloc hB5.size _) | exact HKK.out _ hB5 | with_reducible exact HKK.out _ HGA0.out | with_reducible exact HKK.out _ HGA.out | with_reducible exact HKK.out _ HGB.out | with_reducible exact HKK.out _ HGC0.out | with_reducible exact HKK.out _ HGC.out) ((first | (refine step_append6i (by rfl) _ _ 24 (by rfl) w4.heap.size 47 i6 _ Try.underlying24 hi6 hz60 hz61 hz62 (by rfl) _ (q + 1) _ (by rfl) hown2 _ _ _ (k - q) _ (vals.drop (q * 6)) (by rfl) HL3.out (HN3.out _ hB6) H13.out (by omega) hB6.size ?_; intro v3 w7 hown3 hg3 hat3; have hB7 : Below w4.heap.size w4 w7 := hB6.grown hg3 hB6.size (fun x e => (hown2.lt x e).1)) | (refine step_append6 (by rfl) _ _ 24 (by rfl) w4.heap.size 47 i6 _ Try.underlying24 hi6 hz60 hz61 hz62 (by rfl) _ _ _ (by rfl) hown1 _ 1 1 [.int .i64 X.kind, .int .i64 X.next, .int .i64 X.p.e, .slice P1 Pn1 Pc1, .int .i64 X.p.t, .slice P2 Pn2 Pc2] (by rfl) (by rfl) (news_box hbx) (six_one _ _ _ _ _ _ _ _ _ _) (by omega) hB5.size ?_; intro v2 w6 hown2 hg2 hat2; have hB6 : Below w4.heap.size w4 w6 := hB5.grown hg2 hB5.size (fun x e => (hown1.lt x e).1)) | (refine step_append6 (by rfl) _ _ 24 (by rfl) w4.heap.size 47 i6 _ Try.underlying24 hi6 hz60 hz61 hz62 (by rfl) _ _ _ (by rfl) (hown1.alloc _) ⟨w5.heap.size, 0, none⟩ 1 1 [.int .i64 X.kind, .int .i64 X.next, .int .i64 X.p.e, .slice P1 Pn1 Pc1, .int .i64 X.p.t, .slice P2 Pn2 Pc2] (by rfl) (by rfl) (news_of w5 47 [.int .i64 X.kind, .int .i64 X.next, .int .i64 X.p.e, .slice P1 Pn1 Pc1, .int .i64 X.p.t, .slice P2 Pn2 Pc2]) (six_one _ _ _ _ _ _ _ _ _ _) (by omega) (Nat.le_trans hB5.size (by simp)) ?_; intro v2 w6 hown2 hg2 hat2; have hB6 : Below w4.heap.size w4 w6 := (hB5.alloc hB5.size _).grown hg2 (Nat.le_trans hB5.size (by simp)) (fun x e => (hown1.lt x e).1)) | (refine step_append6 (by rfl) _ _ 24 (by rfl) w4.heap.size 47 i6 _ Try.underlying24 hi6 hz60 hz61 hz62 (by rfl) _ 0 [] (by rfl) HOA.out ⟨g, 0, none⟩ q co (vals.take (q * 6)) (by rfl) HL1.out (HN1.out _ HGA.out) H11.out (by omega) HGA.out.size ?_; intro v1 w5 hown1 hg1 hat1; rw [Nat.zero_add, List.nil_append] at hown1; have hB5 : Below w4.heap.size w4 w5 := HGA.out.grown hg1 HGA.out.size (fun x e => by have e2 : w4.heap.size = x := Option.some.inj e; omega)) | (refine step_append6 (by rfl) _ _ 24 (by rfl) w4.heap.size 47 i6 _ Try.underlying24 hi6 hz60 hz61 hz62 (by rfl) _ 0 [] (by rfl) HOB.out ⟨g, 0, none⟩ q co (vals.take (q * 6)) (by rfl) HL1.out (HN1.out _ HGB.out) H11.out (by omega) HGB.out.size ?_; intro v1 w5 hown1 hg1 hat1; rw [Nat.zero_add, List.nil_append] at hown1; have hB5 : Below w4.heap.size w4 w5 := HGB.out.grown hg1 HGB.out.size (fun x e => by have e2 : w4.heap.size = x := Option.some.inj e; omega); have hbx : BoxAt w5 _ #[.int .i64 X.kind, .int .i64 X.next, .int .i64 X.p.e, .slice P1 Pn1 Pc1, .int .i64 X.p.t, .slice P2 Pn2 Pc2] 47 := HXB.out.grown hg1 (fun x e => by have e2 : w4.heap.size = x := Option.some.inj e; omega)) | (refine step_append6 (by rfl) _ _ 24 (by rfl) w4.heap.size 47 i6 _ Try.underlying24 hi6 hz60 hz61 hz62 (by rfl) _ 0 [] (by rfl) HOC.out ⟨g, 0, none⟩ q co (vals.take (q * 6)) (by rfl) HL1.out (HN1.out _ HGC.out) H11.out (by omega) HGC.out.size ?_; intro v1 w5 hown1 hg1 hat1; rw [Nat.zero_add, List.nil_append] at hown1; have hB5 : Below w4.heap.size w4 w5 := HGC.out.grown hg1 HGC.out.size (fun x e => by have e2 : w4.heap.size + 1 = x := Option.some.inj e; omega); have hbx : BoxAt w5 _ #[.int .i64 X.kind, .int .i64 X.next, .int .i64 X.p.e, .slice P1 Pn1 Pc1, .int .i64 X.p.t, .slice P2 Pn2 Pc2] 47 := HXC.out.grown hg1 (fun x e => by have e2 : w4.heap.size + 1 = x := Option.some.inj e; omega)) | fail "no arm fits"))
        all_goals
          go_wp2_with fail
          go_roundw
          case rel => exact ⟨k + 1, by omega, by go_num, HPUT.out _ _ hown3 hB7⟩
          case measure => simp [intOf]; omega
    · have hkn : k = n := by omega
      subst hkn
      obtain ⟨pl2, hp2, hb2⟩ := hel.pool hown (Nat.le_trans hhi hnx.size)
      have HNX := Lib.hid hnx
      clear hown hel hnx h0
      go_wp2_with fail
      refine (l11Pool_c _ _ _ _ _ pl2 _ hp2 (by omega) hb2).mono ?_
      rintro e' w' ⟨A3, n3, c3, rfl, o3, hb3⟩
      go_wp2_with fail
      go_ret
      exact ⟨_, _, _, rfl, HNX.out.trans (hb3.mono HNX.out.size)⟩
end Go.Proofs.Ytoocjalhcliebaa
