/-
  What the mixes of a path append, by the reference.
  Conditions: one to three keys, all elements.
-/
import Derived.Test.YtbkecimhbibnjaaFill
import Derived.Deep.RegionHeld3
import Derived.Deep.AppendLies
namespace Go.Proofs.Ytbkecimhbibnjaa
open Go Go.RowKit

theorem three_new {w : World} {T : TypeId} : ∀ j u, (ints [0, 0, 0])[j]? = some u → (w.alloc (.cells #[.int .i64 0, .int .i64 0, .int .i64 0] T)).cell? (Addr.add ⟨w.heap.size, 0, none⟩ j) = some u :=
  (World.ownsRow_lit (base := 0) (e := T) (size := 1) w #[.int .i64 0, .int .i64 0, .int .i64 0] 3 (Nat.zero_le _) (by unfold maxLen; omega) rfl).cells rfl
theorem l2At_i (k i : Int) (j : Nat) (w : World) (hk : 0 ≤ k ∧ k ≤ 996) (hi : i = (j : Int)) (hj : j ≤ 100) : Calls Try.prog 117 #[.int .i64 k, .int .i64 i] w fun e w' => e = .returned (.int .i64 (strm k j)) ∧ w = w' := by
  subst hi
  exact l2At_c k j w hk hj
theorem three_cell : ∀ u ∈ ints [0, 0, 0], u.oneCell' = true := by intro u hu; simp [ints] at hu; rw [hu]; rfl

set_option maxRecDepth 100000 in
set_option maxHeartbeats 3200000 in
theorem l5Filler_c (A : Option Addr) (n c lo hi : Nat) (keys : List Int) (w : World) (hs : SlR .i64 w lo hi A n keys) (h1 : 1 ≤ n) (h3 : n ≤ 3) (hke : ∀ k ∈ keys, elB k = true) : Calls Try.prog 118 #[.slice A n c] w (NewInts (fillL keys) w) := by
  obtain ⟨i0, hi0, hz0, hz1, hz2⟩ := info_parts Try.infoInt
  have hh := hs.hi_le
  have HL := Lib.hid hs.len
  have HE := Lib.hid hke
  clear hke
  go_enter Try.func118, Try.ntmps118
  go_wp2_with fail
  go_loopw [3, 4] (fun v i wr => FillRel keys n w v i wr) (fun _ i _ => n - (intOf i).toNat)
  case atStart => exact ⟨0, [], _, 0, Nat.zero_le _, rfl, rfl, FillAcc.zero _, OwnR.of_owns (World.ownsRow_made w #[] 0 (Nat.le_refl _) (by unfold maxLen; omega) rfl), (Below.refl _ _).alloc (Nat.le_refl _) _⟩
  case round =>
    obtain ⟨k, acc, Af, cf, hk, rfl, rfl, hacc, hown, hnx⟩ := hrel
    by_cases hlt : k < n - 1
    · obtain ⟨b, o, rfl, hb1, hb2, hc⟩ := hs.at_ (by omega)
      have hcell : wr.cell? ⟨b, o + k, none⟩ = some (.int .i64 (keys.getD k 0)) := (hnx.cell (p := ⟨b, o + k, none⟩) (by exact Nat.lt_of_lt_of_le hb2 hh)).trans (hc k (by omega))
      obtain ⟨v, hv⟩ : ∃ v, v = keys.getD k 0 := ⟨_, rfl⟩
      rw [← hv] at hcell
      have hkl : k < keys.length := by rw [HL.out]; omega
      have hve : elB v = true := by rw [hv]; exact HE.out _ (getD_mem hkl)
      have hkb := elB_iff.1 hve
      have hal := hacc.len (by omega)
      have hnum := hacc.num
      have hnext := hacc.next hkl hv
      have HK := Lib.hid hnext
      have HN := Lib.hid hnum
      have HA := Lib.hid hal
      have hk1 : k ≤ 1 := by omega
      have hsz := hnx.size
      have hk2 : (k : Int) + 1 < (n : Int) := by omega
      have hown0 := World.ownsRow_made (e := 3) (size := 1) wr #[] 0 (Nat.le_refl _) (by unfold maxLen; omega) rfl
      have hra := hown.read.alloc (.cells #[] 3)
      clear hc hv hs hnext hnum hal hacc hve
      go_wp2_with (first
        | (at_builtin; refine wpList_append_sl _ rfl _ _ 23 rfl wr.heap.size 3 i0 Try.underlying23 hi0 hz0 hz1 hz2 _ 0 [] rfl hown0 _ _ (3 * k) cf Af acc rfl hra (by omega) (by simp) ?_; intro v1 w1 hown1 hg1 hat1; have hsz1 := hg1.size; simp only [Nat.zero_add, List.nil_append] at hown1)
        | (at_builtin; refine wpList_append_own _ rfl _ _ 23 rfl wr.heap.size 3 i0 (.int .i64 0) 1 8 Try.underlying23 hi0 hz0 hz1 hz2 rfl (by decide) _ _ _ rfl (hown1.alloc _) ⟨w1.heap.size, 0, none⟩ 3 3 (ints [0, 0, 0]) rfl rfl three_new three_cell (by unfold maxLen; omega) (by omega) (by simp at hsz1 ⊢; omega) ?_; intro v2 w2 hown2 hg2 hq; clear hq; obtain ⟨A2, c2, rfl⟩ := owns_shape hown2))
      have hown2' : w2.ownsRow wr.heap.size 3 1 (.slice A2 (3 * k + 3) c2) (3 * k + 3) (ints (acc ++ [0, 0, 0])) := by simpa [ints] using hown2
      have on := OwnR.of_owns hown2'
      have hB2 : Below w.heap.size w w2 := by
        have b1 : Below wr.heap.size wr w1 := ((Below.refl _ _).alloc (Nat.le_refl _) _).grown hg1 (by simp) (fun g e => (hown0.lt g e).1)
        have b2 : Below wr.heap.size wr w2 := made_below b1 hg2 (Nat.le_refl _) hown1
        exact hnx.trans (b2.mono hsz)
      have hcell2 : w2.cell? ⟨b, o + k, none⟩ = some (.int .i64 v) := by
        have b1 : Below wr.heap.size wr w1 := ((Below.refl _ _).alloc (Nat.le_refl _) _).grown hg1 (by simp) (fun g e => (hown0.lt g e).1)
        have b2 : Below wr.heap.size wr w2 := made_below b1 hg2 (Nat.le_refl _) hown1
        exact (b2.cell (p := ⟨b, o + k, none⟩) (by exact Nat.lt_of_lt_of_le hb2 (Nat.le_trans hh hsz))).trans hcell
      have hz2w := hB2.size
      have ON := Lib.hid on
      have HB := Lib.hid hB2
      clear hB2
      clear hg1 hg2 hown0 hown1 hown2 hown2' hra hown hnx hat1 hsz1 hcell on
      obtain ⟨gn, rfl, hgn1, hgn2, -, -⟩ := ON.out.at_ (by omega)
      have hkb2 : b < w2.heap.size := by exact Nat.lt_of_lt_of_le hb2 (Nat.le_trans hh hz2w)
      obtain ⟨wo, rfl⟩ : ∃ wo : World, wo = wr := ⟨_, rfl⟩
      go_loopw [3, 7] (fun vo i wi => Made (fillS acc v) w2.heap.size w2 (3 * k + 3) vo i wi) (fun _ i _ => 3 * k + 3 - (intOf i).toNat)
      case atStart => exact ⟨0, Nat.zero_le _, rfl, World.ownsRow_made w2 #[] 0 (Nat.le_refl _) (by unfold maxLen; omega) rfl, (Below.refl _ _).alloc (Nat.le_refl _) _⟩
      case round =>
        obtain ⟨j, hj, rfl, howi, hBi⟩ := hrel
        by_cases hjl : j < 3 * k + 3
        · have hja : j < acc.length + 3 := by rw [HA.out]; exact hjl
          obtain ⟨_, hq, -, -, hcn, -⟩ := ON.out.at_ (by omega)
          injection hq with hq; injection hq with hq; subst hq
          have hcx : wr.cell? ⟨gn, j, none⟩ = some (.int .i64 ((acc ++ [0, 0, 0]).getD j 0)) := (hBi.cell (p := ⟨gn, j, none⟩) (by exact hgn2)).trans (hcn j hjl)
          have hck : wr.cell? ⟨b, o + k, none⟩ = some (.int .i64 v) := (hBi.cell (p := ⟨b, o + k, none⟩) (by exact hkb2)).trans hcell2
          have hxr := fill_range HN.out hja
          have hsr := strm_bd v (9 - 3 * k + j)
          have hyv := fillS_at (key := v) hja
          rw [HA.out] at hyv
          obtain ⟨x, hx⟩ : ∃ x, x = (acc ++ [0, 0, 0]).getD j 0 := ⟨_, rfl⟩
          rw [← hx] at hcx hxr hyv
          have HY := Lib.hid hyv
          obtain ⟨hx1, hx2⟩ := hxr
          obtain ⟨hs1, hs2⟩ := hsr
          have hszi := hBi.size
          have hnk := fun (e : Value.ownBlock u3 = some b) => Nat.lt_irrefl _ (Nat.lt_of_lt_of_le hkb2 (howi.lt b e).1)
          have hnn := fun (e : Value.ownBlock u3 = some gn) => Nat.lt_irrefl _ (Nat.lt_of_lt_of_le hgn2 (howi.lt gn e).1)
          have hj0 : (0 : Int) ≤ (j : Int) := Int.natCast_nonneg _
          have hj1 : (j : Int) < ((3 * k + 3 : Nat) : Int) := by omega
          have hk0 : (0 : Int) ≤ (k : Int) := Int.natCast_nonneg _
          have hk3 : (k : Int) < (n : Int) := by omega
          obtain ⟨s, hsv⟩ : ∃ s, s = strm v (9 - 3 * k + j) := ⟨_, rfl⟩
          have HS := Lib.hid hsv
          rw [← hsv] at hs1 hs2
          have hq := l2At_i v (12 - (3 * (k : Int) + 3) + (j : Int)) (9 - 3 * k + j)
          rw [← hsv] at hq
          have hq2 := fun W => hq W ⟨by omega, by omega⟩ (by omega) (by omega)
          have HQ := Lib.hid hq2
          clear hx hyv hcn hsv hq hq2
          go_wp2_with fail
          have ef : IntKind.i64.wrap (12 - (3 * (k : Int) + 3) + (j : Int)) = 12 - (3 * (k : Int) + 3) + (j : Int) := IntWalk.i64_in _ (by omega)
          have e0 : IntKind.i64.wrap (x + 991) = x + 991 := IntWalk.i64_in _ (by omega)
          have e1 : IntKind.i64.wrap (x + 991 - s) = x + 991 - s := IntWalk.i64_in _ (by omega)
          have e2 : (x + 991 - s).tmod 991 = (x + 991 - s) % 991 := Int.tmod_eq_emod_of_nonneg (by omega)
          go_region_held3 (fun w' => w'.cell? ⟨b, o + k, none⟩ = some (.int .i64 v) ∧ w'.cell? ⟨gn, j, none⟩ = some (.int .i64 x))
            (first
              | go_keep
              | (go_split_ands
                 refine ⟨?_, ?_⟩
                 · (rw [hgrow.cell_far _ (by simp; omega) (Ne.symm hnk)]; assumption)
                 · (rw [hgrow.cell_far _ (by simp; omega) (Ne.symm hnn)]; assumption)))
            ((first
              | (refine step_append_lies _ (by rfl) _ _ _ (by rfl) w2.heap.size 3 i0 _ 1 8 Try.underlying23 hi0 hz0 hz1 hz2 rfl (by omega) _ j _ (by rfl) ((howi.alloc _).drew) ⟨wr.heap.size, 0, none⟩ 1 1 [.int .i64 ((x + 991 - s) % 991)] (by rfl) (by rfl) (one_new (w := wr) (T := 3)) one_cell (by omega) (by unfold maxLen; omega) (by omega) (by simp; omega) (wr.heap.size + 1) (by simp) ?_; intro gg cap w5 hown' hgrow hat hlt')
              | (go_at_call 117; refine (HQ.out _).mono ?_; rintro e w' ⟨rfl, rfl⟩)))
          clear ef e0 e1 e2
          have hnx1 := made_below_drew hBi hgrow (Nat.le_refl _) howi
          have hm := made_step (R := fillS acc v) (k := j) (x := (x + 991 - s) % 991) (by rw [fillS_len]; exact hja) (by rw [HY.out, ← HS.out]) hown'
          clear hown' hgrow howi hBi hnk hnn hat hlt' hcx hck
          go_wp2
          go_roundw
          case rel => exact ⟨j + 1, by omega, by go_num, hm, hnx1⟩
          case measure => simp [intOf]; omega
        · have hjn : j = 3 * k + 3 := by omega
          have he : (fillS acc v).take j = fillS acc v := List.take_of_length_le (by rw [fillS_len, HA.out]; omega)
          rw [he, hjn] at howi
          have hB3 := HB.out.trans (hBi.mono hz2w)
          obtain ⟨A3, c3, rfl⟩ := owns_shape howi
          have OF := Lib.hid (OwnR.of_owns howi)
          have HB3 := Lib.hid hB3
          have hz3 := hB3.size
          clear he howi hBi hB3
          have hjq : ¬ (j < 3 * k + 3) := by omega
          clear hjn
          go_wp2_with fail
          go_roundw
          case rel => exact ⟨k + 1, _, _, _, by omega, by go_num, rfl, HK.out, OF.out.wider hz2w (Nat.le_refl _) (Nat.le_refl _), HB3.out⟩
          case measure => simp [intOf]; omega
    · have hkn : k = n - 1 := by omega
      have he : acc = fillL keys := FillAcc.all (by rw [HL.out, ← hkn]; exact hacc)
      rw [he] at hown
      have HO := Lib.hid hown
      have hk2 : ¬ ((k : Int) + 1 < (n : Int)) := by omega
      clear he hkn hs hown hacc
      go_wp2_with fail
      go_ret
      exact ⟨_, _, _, rfl, HO.out, hnx⟩
end Go.Proofs.Ytbkecimhbibnjaa
