/-
  A mix flushed.
  Conditions: the mix is valid.
-/
import Derived.Test.YtoocjalhcliebaaSort
import Derived.Test.YtoocjalhcliebaaMixP
namespace Go.Proofs.Ytoocjalhcliebaa
open Go Go.RowKit

/-- A call that empties a mix. -/
def FlushP (s : Int) (seen : List Int) (w : World) (e : Ending) (w' : World) : Prop :=
  ∃ A n c A2 c2 A5 n5 c5, e = .returned (.tuple #[.agg #[.int .i64 s, .slice A n c, .slice A2 0 c2], .slice A5 n5 c5]) ∧ MixO w' w.heap.size w'.heap.size seen [] A n c A2 0 c2 ∧ Below w.heap.size w w'
theorem mix_empty {s : Int} {seen : List Int} {pl : List Peel} (h : mixB ⟨s, seen, pl⟩ = true) : mixB ⟨s, seen, []⟩ = true := by
  obtain ⟨h1, h2, h3, h4, h5⟩ := mixB_iff.1 h
  exact mixB_iff.2 ⟨h1, h2, by simp, h4, fun x hx => by cases hx⟩
/-- An empty slice that was made just now. -/
theorem pool_made {w : World} {g : Nat} (h : BoxAt w g #[] 47) : PoolO w g (g + 1) (some ⟨g, 0, none⟩) 0 0 [] := by
  have hg := h.hi_le
  have hown : w.ownsRow g 47 6 (.slice (some ⟨g, 0, none⟩) 0 0) 0 [] := ⟨rfl, .inr ⟨g, 0, #[], rfl, Nat.le_refl _, h, Nat.le_refl _, by unfold maxLen; omega, rfl, rfl⟩⟩
  exact ⟨rfl, PoolK.zero hown (by omega) (fun x e => by have e2 : g = x := Option.some.inj e; omega) []⟩
set_option maxRecDepth 100000 in
set_option maxHeartbeats 6400000 in
theorem sMixFlush_c (s : Int) (A : Option Addr) (n c : Nat) (A2 : Option Addr) (n2 c2 lo hi : Nat) (seen : List Int) (pl : List Peel) (w : World) (hs : MixR w lo hi seen pl A n c A2 n2 c2) (hm : mixB ⟨s, seen, pl⟩ = true) :
    Calls Try.prog 30 #[.agg #[.int .i64 s, .slice A n c, .slice A2 n2 c2], .bool true] w (FlushP s seen w) := by
  obtain ⟨hse, hnn, hnn2, hpb⟩ := mix_bounds hm
  rw [hs.len.1] at hnn
  rw [hs.len.2] at hnn2
  have hs0 := (hs.alloc (.cells #[.int .i64 s, .slice A n c, .slice A2 n2 c2] 26)).alloc (.cells #[.int .i64 0, .slice none 0 0, .slice none 0 0] 26)
  have bx : BoxAt ((w.alloc (.cells #[.int .i64 s, .slice A n c, .slice A2 n2 c2] 26)).alloc (.cells #[.int .i64 0, .slice none 0 0, .slice none 0 0] 26)) w.heap.size #[.int .i64 s, .slice A n c, .slice A2 n2 c2] 26 := (BoxAt.new w #[.int .i64 s, .slice A n c, .slice A2 n2 c2] 26).alloc _
  have bz : BoxAt ((w.alloc (.cells #[.int .i64 s, .slice A n c, .slice A2 n2 c2] 26)).alloc (.cells #[.int .i64 0, .slice none 0 0, .slice none 0 0] 26)) (w.heap.size + 1) #[.int .i64 0, .slice none 0 0, .slice none 0 0] 26 := by
    have := BoxAt.new (w.alloc (.cells #[.int .i64 s, .slice A n c, .slice A2 n2 c2] 26)) #[.int .i64 0, .slice none 0 0, .slice none 0 0] 26
    simpa using this
  have hbw : Below w.heap.size w ((w.alloc (.cells #[.int .i64 s, .slice A n c, .slice A2 n2 c2] 26)).alloc (.cells #[.int .i64 0, .slice none 0 0, .slice none 0 0] 26)) := ((Below.refl w.heap.size w).alloc (Nat.le_refl _) _).alloc (by simp) _
  have hsz0 : w.heap.size + 2 ≤ ((w.alloc (.cells #[.int .i64 s, .slice A n c, .slice A2 n2 c2] 26)).alloc (.cells #[.int .i64 0, .slice none 0 0, .slice none 0 0] 26)).heap.size := by simp
  have hhs := hs0.hi_le
  have HM := Lib.hid hm
  have HPB := Lib.hid hpb
  have HPB4 := Lib.hid (show PlB 4194304 pl from fun x hx => by have := hpb x hx; omega)
  clear hm hpb hse hs
  obtain ⟨p0, p1, p2⟩ := bx.three
  go_enter Try.func30, Try.ntmps30
  go_wp2_with fail
  refine ((sMixValid_c _ _ _ _ _ _ _ _ _ _ _ _ hs0 (by omega) (by omega) HPB4.out).mono fun _ _ h => (show Tells true _ _ _ by rw [HM.out] at h; exact h)).mono ?_
  rintro e' w1 ⟨rfl, hb1⟩
  have hz1 := hb1.size
  have hs1 := hs0.below hb1 hhs
  have bx1 := bx.below hb1 (by omega)
  have bz1 := bz.below hb1 (by omega)
  have hbw1 := hbw.trans (hb1.mono (by omega))
  clear hs0 bx bz hbw hb1 p0 p1 p2 hhs
  obtain ⟨p0, p1, p2⟩ := bx1.three
  go_wp2_with fail
  refine (l11Copy_c _ _ _ _ _ _ _ _ _ _ _ _ hs1 (by omega) (by omega) HPB.out).mono ?_
  rintro e' w2 ⟨A3, n3, c3, A4, n4, c4, rfl, o2, hb2⟩
  have hz2 := hb2.size
  have hs2 := hs1.below hb2 hs1.hi_le
  have bx2 := bx1.below hb2 (by omega)
  have bz2 := bz1.below hb2 (by omega)
  have hbw2 := hbw1.trans (hb2.mono (by omega))
  have hs3 := (hs2.alloc (.cells #[.int .i64 s, .slice A3 n3 c3, .slice (some ⟨w2.heap.size + 1, 0, none⟩) 0 0] 26)).alloc (.cells #[] 47)
  have bx3 := (bx2.alloc (.cells #[.int .i64 s, .slice A3 n3 c3, .slice (some ⟨w2.heap.size + 1, 0, none⟩) 0 0] 26)).alloc (.cells #[] 47)
  have bz3 := (bz2.alloc (.cells #[.int .i64 s, .slice A3 n3 c3, .slice (some ⟨w2.heap.size + 1, 0, none⟩) 0 0] 26)).alloc (.cells #[] 47)
  have bo3 := (BoxAt.new w2 #[.int .i64 s, .slice A3 n3 c3, .slice (some ⟨w2.heap.size + 1, 0, none⟩) 0 0] 26).alloc (.cells #[] 47)
  have be3 : BoxAt ((w2.alloc (.cells #[.int .i64 s, .slice A3 n3 c3, .slice (some ⟨w2.heap.size + 1, 0, none⟩) 0 0] 26)).alloc (.cells #[] 47)) (w2.heap.size + 1) #[] 47 := by
    have := BoxAt.new (w2.alloc (.cells #[.int .i64 s, .slice A3 n3 c3, .slice (some ⟨w2.heap.size + 1, 0, none⟩) 0 0] 26)) #[] 47
    simpa using this
  have hbw3 := (hbw2.alloc (by omega) (.cells #[.int .i64 s, .slice A3 n3 c3, .slice (some ⟨w2.heap.size + 1, 0, none⟩) 0 0] 26)).alloc (by simp; omega) (.cells #[] 47)
  have hsz3 : ((w2.alloc (.cells #[.int .i64 s, .slice A3 n3 c3, .slice (some ⟨w2.heap.size + 1, 0, none⟩) 0 0] 26)).alloc (.cells #[] 47)).heap.size = w2.heap.size + 2 := by simp
  have o3 : MixO ((w2.alloc (.cells #[.int .i64 s, .slice A3 n3 c3, .slice (some ⟨w2.heap.size + 1, 0, none⟩) 0 0] 26)).alloc (.cells #[] 47)) w1.heap.size ((w2.alloc (.cells #[.int .i64 s, .slice A3 n3 c3, .slice (some ⟨w2.heap.size + 1, 0, none⟩) 0 0] 26)).alloc (.cells #[] 47)).heap.size seen [] A3 n3 c3 (some ⟨w2.heap.size + 1, 0, none⟩) 0 0 := by
    obtain ⟨_, a, b, a2, b2, oq, _, _, h1, _, h3, _⟩ := o2
    exact ⟨Nat.le_refl _, a, b, w2.heap.size + 1, w2.heap.size + 1 + 1, (oq.alloc (.cells #[.int .i64 s, .slice A3 n3 c3, .slice (some ⟨w2.heap.size + 1, 0, none⟩) 0 0] 26)).alloc (.cells #[] 47), pool_made be3, .inl (by omega), by omega, by omega, by omega, by omega⟩
  have o2w := (o2.alloc (.cells #[.int .i64 s, .slice A3 n3 c3, .slice A4 n4 c4] 26))
  have bx2' := bx2.alloc (.cells #[.int .i64 s, .slice A3 n3 c3, .slice A4 n4 c4] 26)
  obtain ⟨p0, p1, p2⟩ := bx2'.three
  have hne1 : ¬ w2.heap.size = w.heap.size := by omega
  have hne2 : ¬ w.heap.size = w2.heap.size := by omega
  have hne3 : ¬ w2.heap.size = w.heap.size + 1 := by omega
  have hne4 : ¬ w.heap.size + 1 = w2.heap.size := by omega
  have HSO := Lib.hid (l11Sort_c A2 n2 c2 lo hi pl _ hs3.2.1.drew (by omega) HPB.out)
  have F := Lib.hid (And.intro o3 (And.intro bx3 (And.intro bz3 (And.intro bo3 hbw3))))
  have HK := Lib.hid (fun w' (h : Below (w2.heap.size + 2) ((w2.alloc (.cells #[.int .i64 s, .slice A3 n3 c3, .slice (some ⟨w2.heap.size + 1, 0, none⟩) 0 0] 26)).alloc (.cells #[] 47)) w') => (by
    obtain ⟨r0, r1, r2⟩ := (bo3.below h (by omega)).three
    obtain ⟨p0, p1, p2⟩ := (bx3.below h (by omega)).three
    exact ⟨⟨r0, r1, r2⟩, p2⟩ : (w'.cell? ⟨w2.heap.size, 0, none⟩ = some (.int .i64 s) ∧ w'.cell? ⟨w2.heap.size, 1, none⟩ = some (.slice A3 n3 c3) ∧ w'.cell? ⟨w2.heap.size, 2, none⟩ = some (.slice (some ⟨w2.heap.size + 1, 0, none⟩) 0 0)) ∧ w'.cell? ⟨w.heap.size, 2, none⟩ = some (.slice A2 n2 c2)))
  have HKS := Lib.hid (fun w' w'' (h : Below (w2.heap.size + 2) ((w2.alloc (.cells #[.int .i64 s, .slice A3 n3 c3, .slice (some ⟨w2.heap.size + 1, 0, none⟩) 0 0] 26)).alloc (.cells #[] 47)) w') (ho : Only (w.heap.size + 1) (w.heap.size + 1 + 1) w' w'') => (by
    obtain ⟨r0, r1, r2⟩ := ((bo3.below h (by omega)).only ho (.inr (by omega))).three
    obtain ⟨p0, p1, p2⟩ := ((bx3.below h (by omega)).only ho (.inl (by omega))).three
    exact fun w' e => by rw [e]; exact ⟨⟨r0, r1, r2⟩, p2⟩ : ∀ w', w' = w'' → (w'.cell? ⟨w2.heap.size, 0, none⟩ = some (.int .i64 s) ∧ w'.cell? ⟨w2.heap.size, 1, none⟩ = some (.slice A3 n3 c3) ∧ w'.cell? ⟨w2.heap.size, 2, none⟩ = some (.slice (some ⟨w2.heap.size + 1, 0, none⟩) 0 0)) ∧ w'.cell? ⟨w.heap.size, 2, none⟩ = some (.slice A2 n2 c2)))
  clear hs2 bx2 bz2 hbw2 hs3 bx3 bz3 bo3 be3 hbw3 o3 o2 o2w bx2' hs1 bx1 bz1 hbw1 hb2
  have HG := Lib.hid ((Below.refl (w2.heap.size + 2) ((w2.alloc (.cells #[.int .i64 s, .slice A3 n3 c3, .slice (some ⟨w2.heap.size + 1, 0, none⟩) 0 0] 26)).alloc (.cells #[] 47))).drew)
  by_cases hlt : n2 < 2
  · go_wp2_with fail
    go_region_held3 (fun w' => (w'.cell? ⟨w2.heap.size, 0, none⟩ = some (.int .i64 s) ∧ w'.cell? ⟨w2.heap.size, 1, none⟩ = some (.slice A3 n3 c3) ∧ w'.cell? ⟨w2.heap.size, 2, none⟩ = some (.slice (some ⟨w2.heap.size + 1, 0, none⟩) 0 0)) ∧ w'.cell? ⟨w.heap.size, 2, none⟩ = some (.slice A2 n2 c2))
      (first | with_reducible exact HK.out _ HG.out | with_reducible exact HK.out _ hB5 | exact HKS.out _ _ hB5 (set3_only _ _ _ _ _) _ rfl)
      ((go_at_call 46; refine HSO.out.mono ?_; rintro e' w5 ⟨A5, n5, c5, rfl, hb5⟩; have hB5 : Below (w2.heap.size + 2) ((w2.alloc (.cells #[.int .i64 s, .slice A3 n3 c3, .slice (some ⟨w2.heap.size + 1, 0, none⟩) 0 0] 26)).alloc (.cells #[] 47)) w5 := HG.out.trans (hb5.mono (by simp)); have bz5 := F.out.2.2.1.below hB5 (by omega); obtain ⟨z0, z1, z2⟩ := bz5.three; have zf := bz5.frozen))
    go_wp2_with fail
    have hz5 := hB5.size
    have o5 := (F.out.1.below hB5 (by omega)).only (set3_only w5 (w.heap.size + 1) (.int .i64 s) (.slice A3 n3 c3) (.slice (some ⟨w2.heap.size + 1, 0, none⟩) 0 0)) (.inr (by omega))
    have hb5 := F.out.2.2.2.2.trans (hB5.mono (by omega))
    have hfin := Below.only hb5 (set3_only w5 (w.heap.size + 1) (.int .i64 s) (.slice A3 n3 c3) (.slice (some ⟨w2.heap.size + 1, 0, none⟩) 0 0)) hb5.size (by omega)
    refine bodyPost_ret (v := .tuple #[.agg #[.int .i64 s, .slice A3 n3 c3, .slice (some ⟨w2.heap.size + 1, 0, none⟩) 0 0], .slice A5 n5 c5]) (by simp [results, Try.results30, go_sem, z0, z1, z2]) rfl ?_
    exact ⟨A3, n3, c3, _, 0, A5, n5, c5, rfl, o5.wider (by omega) o5.hi_le (Nat.le_refl _), hfin⟩
  · go_wp2_with fail
    go_region_held3 (fun w' => (w'.cell? ⟨w2.heap.size, 0, none⟩ = some (.int .i64 s) ∧ w'.cell? ⟨w2.heap.size, 1, none⟩ = some (.slice A3 n3 c3) ∧ w'.cell? ⟨w2.heap.size, 2, none⟩ = some (.slice (some ⟨w2.heap.size + 1, 0, none⟩) 0 0)) ∧ w'.cell? ⟨w.heap.size, 2, none⟩ = some (.slice A2 n2 c2))
      (first | with_reducible exact HK.out _ HG.out | with_reducible exact HK.out _ hB5 | exact HKS.out _ _ hB5 (set3_only _ _ _ _ _) _ rfl)
      ((go_at_call 46; refine HSO.out.mono ?_; rintro e' w5 ⟨A5, n5, c5, rfl, hb5⟩; have hB5 : Below (w2.heap.size + 2) ((w2.alloc (.cells #[.int .i64 s, .slice A3 n3 c3, .slice (some ⟨w2.heap.size + 1, 0, none⟩) 0 0] 26)).alloc (.cells #[] 47)) w5 := HG.out.trans (hb5.mono (by simp)); have bz5 := F.out.2.2.1.below hB5 (by omega); obtain ⟨z0, z1, z2⟩ := bz5.three; have zf := bz5.frozen))
    go_wp2_with fail
    have hz5 := hB5.size
    have o5 := (F.out.1.below hB5 (by omega)).only (set3_only w5 (w.heap.size + 1) (.int .i64 s) (.slice A3 n3 c3) (.slice (some ⟨w2.heap.size + 1, 0, none⟩) 0 0)) (.inr (by omega))
    have hb5 := F.out.2.2.2.2.trans (hB5.mono (by omega))
    have hfin := Below.only hb5 (set3_only w5 (w.heap.size + 1) (.int .i64 s) (.slice A3 n3 c3) (.slice (some ⟨w2.heap.size + 1, 0, none⟩) 0 0)) hb5.size (by omega)
    refine bodyPost_ret (v := .tuple #[.agg #[.int .i64 s, .slice A3 n3 c3, .slice (some ⟨w2.heap.size + 1, 0, none⟩) 0 0], .slice A5 n5 c5]) (by simp [results, Try.results30, go_sem, z0, z1, z2]) rfl ?_
    exact ⟨A3, n3, c3, _, 0, A5, n5, c5, rfl, o5.wider (by omega) o5.hi_le (Nat.le_refl _), hfin⟩
end Go.Proofs.Ytoocjalhcliebaa
