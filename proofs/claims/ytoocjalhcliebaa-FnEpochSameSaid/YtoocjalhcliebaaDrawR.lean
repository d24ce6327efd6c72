/-
  A drawn packet on its way at any mix.
  Conditions: the reader is good; the secret is an element.
-/
import Derived.Test.YtoocjalhcliebaaLawsW
import Derived.Test.YtoocjalhcliebaaExactG
import Derived.IntWalk
namespace Go.Proofs.Ytoocjalhcliebaa
open Go Go.RowKit

/-- Two rows of the call's own are apart. -/
def Apart (u v : Value) : Prop := ∀ b, u.ownBlock = some b → v.ownBlock ≠ some b
theorem Apart.symm {u v : Value} (h : Apart u v) : Apart v u := fun b hb he => h b he hb
/-- The public keys, the secrets and the names drawn so far. -/
def ThreeTo (g m N : Nat) (w : World) (v1 v2 v3 i : Value) (wr : World) : Prop :=
  ∃ (k : Nat) (ss ns : List Int), k ≤ N ∧ i = .int .i64 (k : Int) ∧ (∀ a ∈ ss, elB a = true) ∧ (∀ a ∈ ns, nameB a = true) ∧ wr.ownsRow w.heap.size 3 1 v1 k (ints (ss.map (mulP · 5))) ∧ wr.ownsRow w.heap.size 3 1 v2 k (ints ss) ∧ wr.ownsRow w.heap.size 3 1 v3 k (ints ns) ∧
    Apart v1 v2 ∧ Apart v1 v3 ∧ Apart v2 v3 ∧ RdOk wr g (m + 3 * k) ∧ w.grownBy wr (some g)
/-- The letter drawn so far. -/
def LetTo (g m : Nat) (w : World) (v i : Value) (wr : World) : Prop :=
  ∃ (k : Nat) (ls : List Int), k ≤ 4 ∧ i = .int .i64 (k : Int) ∧ (∀ a ∈ ls, 0 ≤ a ∧ a ≤ 990) ∧ wr.ownsRow w.heap.size 3 1 v k (ints ls) ∧ RdOk wr g (m + 2 * k) ∧ w.grownBy wr (some g)
/-- The packet ahead of mix k, in block q. -/
def OnWay (N q B : Nat) (w : World) (i : Value) (wr : World) : Prop :=
  ∃ (k : Nat) (P : Pkt) (lo hi : Nat) (A : Option Addr) (n c : Nat) (A2 : Option Addr) (n2 c2 : Nat), k ≤ N ∧ i = .int .i64 (k : Int) ∧ validB P = true ∧ B ≤ lo ∧ (q < lo ∨ hi ≤ q) ∧
    BoxAt wr q #[.int .i64 P.e, .slice A n c, .int .i64 P.t, .slice A2 n2 c2] 45 ∧ TwoR wr lo hi P.h P.b A n c A2 n2 c2 ∧ Only q (q + 1) w wr
/-- What a drawn packet leaves. -/
def DPkt (g m : Nat) (w : World) (e : Ending) (w' : World) : Prop :=
  ∃ (P : Pkt) (A : Option Addr) (n c : Nat) (A2 : Option Addr) (n2 c2 : Nat), e = .returned (.agg #[.int .i64 P.e, .slice A n c, .int .i64 P.t, .slice A2 n2 c2]) ∧ validB P = true ∧ TwoR w' w.heap.size w'.heap.size P.h P.b A n c A2 n2 c2 ∧ RdOk w' g m ∧ w.grownBy w' (some g)
theorem mem_snoc {p : Int → Bool} {xs : List Int} {x : Int} (h : ∀ a ∈ xs, p a = true) (hx : p x = true) : ∀ a ∈ xs ++ [x], p a = true := by
  intro a ha
  rcases List.mem_append.1 ha with g | g
  · exact h a g
  · simp at g; subst g; exact hx
theorem mem_snoc' {p : Int → Prop} {xs : List Int} {x : Int} (h : ∀ a ∈ xs, p a) (hx : p x) : ∀ a ∈ xs ++ [x], p a := by
  intro a ha
  rcases List.mem_append.1 ha with g | g
  · exact h a g
  · simp at g; subst g; exact hx
theorem nameB_of {n : Int} (h0 : 0 ≤ n) (h1 : n < 8) : nameB n = true := by simp [nameB]; omega
theorem grown_only {w a b : World} {g lo hi : Nat} (h : w.grownBy a (some g)) (k : Only lo hi a b) (hlo : w.heap.size ≤ lo) : w.grownBy b (some g) :=
  ⟨k.os.trans h.os, k.tape.trans h.tape, k.output.trans h.output, Nat.le_trans h.size k.size, fun i hi hne => (k.block i (Nat.lt_of_lt_of_le hi h.size) (.inl (by omega))).trans (h.block i hi hne)⟩
theorem RdOk.only {w w' : World} {g m lo hi : Nat} (h : RdOk w g m) (k : Only lo hi w w') (hg : g < lo) : RdOk w' g m := h.keep k.size fun b hb => k.block b (by have := h.lt; omega) (.inl (by omega))
theorem set4_only (w : World) (rb : Nat) (x0 x1 x2 x3 : Value) : Only rb (rb + 1) w ((((w.setCell ⟨rb, 0, none⟩ x0).setCell ⟨rb, 1, none⟩ x1).setCell ⟨rb, 2, none⟩ x2).setCell ⟨rb, 3, none⟩ x3) := by
  have ho : ∀ (u : World) (i : Nat) (x : Value), Only rb (rb + 1) u (u.setCell ⟨rb, i, none⟩ x) := fun u i x => Only.of_grown (only_set x) (fun g hg => by injection hg with hg; omega)
  exact (((ho _ _ _).trans (ho _ _ _)).trans (ho _ _ _)).trans (ho _ _ _)
theorem set4_sz (w : World) (rb : Nat) (x0 x1 x2 x3 : Value) : ((((w.setCell ⟨rb, 0, none⟩ x0).setCell ⟨rb, 1, none⟩ x1).setCell ⟨rb, 2, none⟩ x2).setCell ⟨rb, 3, none⟩ x3).heap.size = w.heap.size := by simp [World.setCell]
theorem set4_twoR {w : World} {rb lo hi n c n2 c2 : Nat} {A A2 : Option Addr} {h b : List Int} (t : TwoR w lo hi h b A n c A2 n2 c2) (hr : rb < lo) (x0 x1 x2 x3 : Value) : TwoR ((((w.setCell ⟨rb, 0, none⟩ x0).setCell ⟨rb, 1, none⟩ x1).setCell ⟨rb, 2, none⟩ x2).setCell ⟨rb, 3, none⟩ x3) lo hi h b A n c A2 n2 c2 :=
  t.only (set4_only w rb x0 x1 x2 x3) (.inr (by omega))
theorem own_made (w : World) : (w.alloc (.cells #[] 3)).ownsRow w.heap.size 3 1 (.slice (some ⟨w.heap.size, 0, none⟩) 0 0) 0 [] := World.ownsRow_made w #[] 0 (Nat.le_refl _) (by unfold maxLen; omega) rfl
theorem three_made (w : World) : (((w.alloc (.cells #[] 3)).alloc (.cells #[] 3)).alloc (.cells #[] 3)).ownsRow w.heap.size 3 1 (.slice (some ⟨w.heap.size, 0, none⟩) 0 0) 0 [] ∧ (((w.alloc (.cells #[] 3)).alloc (.cells #[] 3)).alloc (.cells #[] 3)).ownsRow w.heap.size 3 1 (.slice (some ⟨w.heap.size + 1, 0, none⟩) 0 0) 0 [] ∧ (((w.alloc (.cells #[] 3)).alloc (.cells #[] 3)).alloc (.cells #[] 3)).ownsRow w.heap.size 3 1 (.slice (some ⟨w.heap.size + 1 + 1, 0, none⟩) 0 0) 0 [] := by
  have h1 := own_made w
  have h2 : ((w.alloc (.cells #[] 3)).alloc (.cells #[] 3)).ownsRow w.heap.size 3 1 (.slice (some ⟨w.heap.size + 1, 0, none⟩) 0 0) 0 [] := by
    have := World.ownsRow_made (base := w.heap.size) (e := 3) (size := 1) (w.alloc (.cells #[] 3)) #[] 0 (by simp) (by unfold maxLen; omega) rfl
    simpa using this
  have h3 : (((w.alloc (.cells #[] 3)).alloc (.cells #[] 3)).alloc (.cells #[] 3)).ownsRow w.heap.size 3 1 (.slice (some ⟨w.heap.size + 1 + 1, 0, none⟩) 0 0) 0 [] := by
    have := World.ownsRow_made (base := w.heap.size) (e := 3) (size := 1) ((w.alloc (.cells #[] 3)).alloc (.cells #[] 3)) #[] 0 (by simp; omega) (by unfold maxLen; omega) rfl
    simpa using this
  exact ⟨(h1.alloc _).alloc _, h2.alloc _, h3⟩
/-- What the loop over the mixes of a drawn path leaves. -/
def PathsOut (g m N : Nat) (w : World) (v1 v2 v3 : Value) (wr : World) : Prop :=
  ∃ (ss ns : List Int) (A1 : Option Addr) (c1 : Nat) (A2 : Option Addr) (c2 : Nat) (A3 : Option Addr) (c3 : Nat), v1 = .slice A1 N c1 ∧ v2 = .slice A2 N c2 ∧ v3 = .slice A3 N c3 ∧ (∀ a ∈ ss, elB a = true) ∧ (∀ a ∈ ns, nameB a = true) ∧
    OwnR 3 wr w.heap.size wr.heap.size A1 N c1 (ss.map (mulP · 5)) ∧ OwnR 3 wr w.heap.size wr.heap.size A2 N c2 ss ∧ OwnR 3 wr w.heap.size wr.heap.size A3 N c3 ns ∧ RdOk wr g m ∧ w.grownBy wr (some g)
theorem three_out {g m N : Nat} {w wr : World} {v1 v2 v3 i : Value} (h : ThreeTo g m N w v1 v2 v3 i wr) (hi : ¬ (intOf i).toNat < N) : PathsOut g (m + 3 * N) N w v1 v2 v3 wr := by
  obtain ⟨k, ss, ns, hk, rfl, hss, hns, hp, hs, hn, _, _, _, hrd, hgr⟩ := h
  have hkn : k = N := by simp [intOf] at hi; omega
  subst hkn
  obtain ⟨A1, c1, rfl⟩ := owns_shape hp
  obtain ⟨A2, c2, rfl⟩ := owns_shape hs
  obtain ⟨A3, c3, rfl⟩ := owns_shape hn
  exact ⟨ss, ns, A1, c1, A2, c2, A3, c3, rfl, rfl, rfl, hss, hns, OwnR.of_owns hp, OwnR.of_owns hs, OwnR.of_owns hn, hrd, hgr⟩
set_option maxRecDepth 100000 in
set_option maxHeartbeats 6400000 in
theorem l91Packet_c (g m : Nat) (sec : Int) (w : World) (h : RdOk w g m) (hm : m ≤ 400000) (hse : elB sec = true) : Calls Try.prog 29 #[.pointer (some ⟨g, 0, none⟩), .int .i64 sec] w (DPkt g (m + 30) w) := by
  obtain ⟨i0, hi0, hz0, hz1, hz2⟩ := info_parts Try.infoInt
  have hglt := h.lt
  have hr0 : RdOk (w.alloc (.cells #[.int .i64 0, .slice none 0 0, .int .i64 0, .slice none 0 0] 45)) g m := h.below ((Below.refl w.heap.size w).alloc (Nat.le_refl _) _) hglt
  have hg0 : w.grownBy (w.alloc (.cells #[.int .i64 0, .slice none 0 0, .int .i64 0, .slice none 0 0] 45)) (some g) := World.grownBy_alloc _ _ _
  have bxr := BoxAt.new w #[.int .i64 0, .slice none 0 0, .int .i64 0, .slice none 0 0] 45
  have HSE := Lib.hid hse
  clear h hse
  go_enter Try.func29, Try.ntmps29
  go_wp2_with fail
  refine (pick_c g m _ _ hr0 (by omega)).mono ?_
  rintro e w1 ⟨y, rfl, hy0, hy1, hr1, hg1⟩
  replace bxr := bxr.grown hg1 (fun k hk => by injection hk with hk; omega)
  replace hg1 := only_trans hg0 hg1
  obtain ⟨Y, rfl⟩ := Int.eq_ofNat_of_zero_le hy0
  have hY : Y < 3 := by have := hy1 (by omega); omega
  clear hr0 hg0 hy0 hy1
  go_wp2_with fail
  refine (pick_c g (m + 1) _ _ hr1 (by omega)).mono ?_
  rintro e w2 ⟨a, rfl, ha0, ha1, hr2, hg2⟩
  replace bxr := bxr.grown hg2 (fun k hk => by injection hk with hk; omega)
  replace hg2 := only_trans hg1 hg2
  obtain ⟨AT, rfl⟩ := Int.eq_ofNat_of_zero_le ha0
  have hAT : AT < 1 + Y := by have := ha1 (by omega); omega
  have hbl := bxr.hi_le
  have hlo : g < w2.heap.size := by omega
  clear hr1 hg1 ha0 ha1
  obtain ⟨own1, own2, own3⟩ := three_made w2
  have hr3 : RdOk (((w2.alloc (.cells #[] 3)).alloc (.cells #[] 3)).alloc (.cells #[] 3)) g (m + 2) := hr2.below ((((Below.refl w2.heap.size w2).alloc (Nat.le_refl _) _).alloc (by simp) _).alloc (by simp; omega) _) hlo
  have hg3 : w2.grownBy (((w2.alloc (.cells #[] 3)).alloc (.cells #[] 3)).alloc (.cells #[] 3)) (some g) := only_trans (only_trans (World.grownBy_alloc _ _ _) (World.grownBy_alloc _ _ _)) (World.grownBy_alloc _ _ _)
  clear hr2
  go_wp2_with fail
  go_loopw [7, 8, 9, 10] (fun v1 v2 v3 i wr => ThreeTo g (m + 2) (1 + Y) w2 v1 v2 v3 i wr) (fun _ _ _ i _ => (1 + Y) - (intOf i).toNat)
  case atStart => exact ⟨0, [], [], Nat.zero_le _, rfl, by simp, by simp, own1, own2, own3, fun b hb => by simp [Value.ownBlock] at hb ⊢; omega, fun b hb => by simp [Value.ownBlock] at hb ⊢; omega, fun b hb => by simp [Value.ownBlock] at hb ⊢; omega, hr3, hg3⟩
  case round =>
    have hrel0 := hrel
    obtain ⟨k, ss, ns, hk, rfl, hss, hns, hp, hs, hn, a12, a13, a23, hrd, hgr⟩ := hrel
    have hsz := hgr.size
    by_cases hlt : k < 1 + Y
    · have HSS := Lib.hid hss
      have HNS := Lib.hid hns
      clear hss hns own1 own2 own3 hr3 hg3 hrel0 bxr hg2
      go_wp2_with fail
      refine (l91Good_c g (m + 2 + 3 * k) _ hrd (by omega)).mono ?_
      rintro e w_5 ⟨x, rfl, hxe, hrd2, hgr2⟩
      have hp2 := hp.kept hgr2 (.inr (fun e => by have := (hp.lt g e).1; omega))
      have hs2 := hs.kept hgr2 (.inr (fun e => by have := (hs.lt g e).1; omega))
      have hn2 := hn.kept hgr2 (.inr (fun e => by have := (hn.lt g e).1; omega))
      have hgr3 := only_trans hgr hgr2
      have hsz2 := hgr3.size
      clear hp hs hn hrd hgr hgr2
      by_cases hat0 : k = AT
      · have hve := HSE.out
        clear hxe
        have hb0 : ((k : Int) == (AT : Int)) = true := by simp; omega
        have HE0 := Lib.hid hve
        clear hve hat0
        go_wp2_with (at_builtin; go_must (refine wpList_append_sl _ rfl _ _ 23 rfl w2.heap.size 3 i0 Try.underlying23 hi0 hz0 hz1 hz2 _ k (ints (ss)) rfl (hs2.alloc _) _ _ 1 1 _ [sec] rfl (one_read w_5 (sec)) (by omega) (by simp; omega) ?_); intro v2' w_6 hap hg hat)
        obtain ⟨hp3, apA⟩ := append_apart (v1' := v2') hs2 hp2 hg hat a12.symm
        obtain ⟨hn3, apB⟩ := append_apart (v1' := v2') hs2 hn2 hg hat a23
        have hrd3 := hrd2.after_append hg hs2 hlo
        have hgr4 := grown_append hgr3 hg hs2
        have hsz4 := hgr4.size
        have hpi : ints ss ++ ints [sec] = ints (ss ++ [sec]) := by simp [ints]
        rw [hpi] at hap
        have hs3 := hap
        clear hap hs2 hp2 hn2 hg hat a12 a23 hrd2 hgr3 hpi
        go_wp2_with fail
        refine (sPublic_c _ _).mono ?_
        rintro e w' ⟨rfl, rfl⟩
        go_wp2_with (at_builtin; go_must (refine wpList_append_sl _ rfl _ _ 23 rfl w2.heap.size 3 i0 Try.underlying23 hi0 hz0 hz1 hz2 _ k (ints (ss.map (mulP · 5))) rfl (hp3.alloc _) _ _ 1 1 _ [mulP sec 5] rfl (one_read w_6 (mulP sec 5)) (by omega) (by simp; omega) ?_); intro v1' w_7 hap hg hat)
        obtain ⟨hs5, apC⟩ := append_apart (v1' := v1') hp3 hs3 hg hat (Apart.symm apA)
        obtain ⟨hn5, apD⟩ := append_apart (v1' := v1') hp3 hn3 hg hat a13
        have hrd5 := hrd3.after_append hg hp3 hlo
        have hgr6 := grown_append hgr4 hg hp3
        have hsz6 := hgr6.size
        have hpi : ints (ss.map (mulP · 5)) ++ ints [mulP sec 5] = ints ((ss ++ [sec]).map (mulP · 5)) := by simp [ints]
        rw [hpi] at hap
        have hp5 := hap
        clear hap hs3 hp3 hn3 hg hat a13 apA hrd3 hgr4 hpi
        go_wp2_with fail
        refine (pick_c g (m + 2 + 3 * k + 2) _ _ hrd5 (by omega)).mono ?_
        rintro e w_8 ⟨z, rfl, z0, z1, hrd6, hgr7⟩
        have z2 := z1 (by omega)
        have hp6 := hp5.kept hgr7 (.inr (fun e => by have := (hp5.lt g e).1; omega))
        have hs6 := hs5.kept hgr7 (.inr (fun e => by have := (hs5.lt g e).1; omega))
        have hn6 := hn5.kept hgr7 (.inr (fun e => by have := (hn5.lt g e).1; omega))
        have hgr8 := only_trans hgr6 hgr7
        have hnz : nameB z = true := nameB_of z0 z2
        have HNZ := Lib.hid hnz
        have hsz8 := hgr8.size
        clear hp5 hs5 hn5 hgr6 hgr7 hrd5 hnz z1
        go_wp2_with (at_builtin; go_must (refine wpList_append_sl _ rfl _ _ 23 rfl w2.heap.size 3 i0 Try.underlying23 hi0 hz0 hz1 hz2 _ k (ints (ns)) rfl (hn6.alloc _) _ _ 1 1 _ [z] rfl (one_read w_8 (z)) (by omega) (by simp; omega) ?_); intro v3' w_9 hap hg hat)
        obtain ⟨hp7, apE⟩ := append_apart (v1' := v3') hn6 hp6 hg hat (Apart.symm apD)
        obtain ⟨hs7, apF⟩ := append_apart (v1' := v3') hn6 hs6 hg hat (Apart.symm apB)
        have hrd7 := hrd6.after_append hg hn6 hlo
        have hgr9 := grown_append hgr8 hg hn6
        have hpi : ints ns ++ ints [z] = ints (ns ++ [z]) := by simp [ints]
        rw [hpi] at hap
        have hn7 := hap
        have hss2 := mem_snoc HSS.out HE0.out
        have hns2 := mem_snoc HNS.out HNZ.out
        have H2 := Lib.hid (And.intro hss2 hns2)
        have AC := Lib.hid (And.intro apC (And.intro (Apart.symm apE) (Apart.symm apF)))
        clear hap hp6 hs6 hn6 hg hat apB apD apC apE apF hrd6 hgr8 hpi hss2 hns2
        go_wp2
        go_roundw
        case rel => exact ⟨k + 1, _, _, by omega, by go_num, H2.out.1, H2.out.2, hp7, hs7, hn7, AC.out.1, AC.out.2.1, AC.out.2.2, hrd7.mono (by omega), hgr9⟩
        case measure => simp [intOf]; omega
      · have hve := hxe
        clear hxe
        have hb0 : ((k : Int) == (AT : Int)) = false := by simp; omega
        have HE0 := Lib.hid hve
        clear hve hat0
        go_wp2_with (at_builtin; go_must (refine wpList_append_sl _ rfl _ _ 23 rfl w2.heap.size 3 i0 Try.underlying23 hi0 hz0 hz1 hz2 _ k (ints (ss)) rfl (hs2.alloc _) _ _ 1 1 _ [x] rfl (one_read w_5 (x)) (by omega) (by simp; omega) ?_); intro v2' w_6 hap hg hat)
        obtain ⟨hp3, apA⟩ := append_apart (v1' := v2') hs2 hp2 hg hat a12.symm
        obtain ⟨hn3, apB⟩ := append_apart (v1' := v2') hs2 hn2 hg hat a23
        have hrd3 := hrd2.after_append hg hs2 hlo
        have hgr4 := grown_append hgr3 hg hs2
        have hsz4 := hgr4.size
        have hpi : ints ss ++ ints [x] = ints (ss ++ [x]) := by simp [ints]
        rw [hpi] at hap
        have hs3 := hap
        clear hap hs2 hp2 hn2 hg hat a12 a23 hrd2 hgr3 hpi
        go_wp2_with fail
        refine (sPublic_c _ _).mono ?_
        rintro e w' ⟨rfl, rfl⟩
        go_wp2_with (at_builtin; go_must (refine wpList_append_sl _ rfl _ _ 23 rfl w2.heap.size 3 i0 Try.underlying23 hi0 hz0 hz1 hz2 _ k (ints (ss.map (mulP · 5))) rfl (hp3.alloc _) _ _ 1 1 _ [mulP x 5] rfl (one_read w_6 (mulP x 5)) (by omega) (by simp; omega) ?_); intro v1' w_7 hap hg hat)
        obtain ⟨hs5, apC⟩ := append_apart (v1' := v1') hp3 hs3 hg hat (Apart.symm apA)
        obtain ⟨hn5, apD⟩ := append_apart (v1' := v1') hp3 hn3 hg hat a13
        have hrd5 := hrd3.after_append hg hp3 hlo
        have hgr6 := grown_append hgr4 hg hp3
        have hsz6 := hgr6.size
        have hpi : ints (ss.map (mulP · 5)) ++ ints [mulP x 5] = ints ((ss ++ [x]).map (mulP · 5)) := by simp [ints]
        rw [hpi] at hap
        have hp5 := hap
        clear hap hs3 hp3 hn3 hg hat a13 apA hrd3 hgr4 hpi
        go_wp2_with fail
        refine (pick_c g (m + 2 + 3 * k + 2) _ _ hrd5 (by omega)).mono ?_
        rintro e w_8 ⟨z, rfl, z0, z1, hrd6, hgr7⟩
        have z2 := z1 (by omega)
        have hp6 := hp5.kept hgr7 (.inr (fun e => by have := (hp5.lt g e).1; omega))
        have hs6 := hs5.kept hgr7 (.inr (fun e => by have := (hs5.lt g e).1; omega))
        have hn6 := hn5.kept hgr7 (.inr (fun e => by have := (hn5.lt g e).1; omega))
        have hgr8 := only_trans hgr6 hgr7
        have hnz : nameB z = true := nameB_of z0 z2
        have HNZ := Lib.hid hnz
        have hsz8 := hgr8.size
        clear hp5 hs5 hn5 hgr6 hgr7 hrd5 hnz z1
        go_wp2_with (at_builtin; go_must (refine wpList_append_sl _ rfl _ _ 23 rfl w2.heap.size 3 i0 Try.underlying23 hi0 hz0 hz1 hz2 _ k (ints (ns)) rfl (hn6.alloc _) _ _ 1 1 _ [z] rfl (one_read w_8 (z)) (by omega) (by simp; omega) ?_); intro v3' w_9 hap hg hat)
        obtain ⟨hp7, apE⟩ := append_apart (v1' := v3') hn6 hp6 hg hat (Apart.symm apD)
        obtain ⟨hs7, apF⟩ := append_apart (v1' := v3') hn6 hs6 hg hat (Apart.symm apB)
        have hrd7 := hrd6.after_append hg hn6 hlo
        have hgr9 := grown_append hgr8 hg hn6
        have hpi : ints ns ++ ints [z] = ints (ns ++ [z]) := by simp [ints]
        rw [hpi] at hap
        have hn7 := hap
        have hss2 := mem_snoc HSS.out HE0.out
        have hns2 := mem_snoc HNS.out HNZ.out
        have H2 := Lib.hid (And.intro hss2 hns2)
        have AC := Lib.hid (And.intro apC (And.intro (Apart.symm apE) (Apart.symm apF)))
        clear hap hp6 hs6 hn6 hg hat apB apD apC apE apF hrd6 hgr8 hpi hss2 hns2
        go_wp2
        go_roundw
        case rel => exact ⟨k + 1, _, _, by omega, by go_num, H2.out.1, H2.out.2, hp7, hs7, hn7, AC.out.1, AC.out.2.1, AC.out.2.2, hrd7.mono (by omega), hgr9⟩
        case measure => simp [intOf]; omega
    · have hq := three_out hrel0 (by simp [intOf]; omega)
      clear hrel0 own1 own2 own3 hr3 hg3 hss hns hp hs hn a12 a13 a23 hrd hgr
      obtain ⟨ss, ns, A1, c1, A2, c2, A3, c3, rfl, rfl, rfl, hss, hns, o1, o2, o3, hrd, hgr⟩ := hq
      have HSS := Lib.hid hss
      have HNS := Lib.hid hns
      have bx2 := bxr.grown hgr (fun k hk => by injection hk with hk; omega)
      have hg4 := only_trans hg2 hgr
      have HL := Lib.hid o2.len
      clear hss hns bxr hg2
      obtain ⟨wo, rfl⟩ : ∃ x, x = wr := ⟨_, rfl⟩
      have ownl := own_made wo
      have hr4 : RdOk (wo.alloc (.cells #[] 3)) g (m + 11) := (hrd.below ((Below.refl wo.heap.size wo).alloc (Nat.le_refl _) _) (by omega)).mono (by omega)
      have hg5 : wo.grownBy (wo.alloc (.cells #[] 3)) (some g) := World.grownBy_alloc _ _ _
      clear hrd
      go_wp2_with fail
      go_loopw [12, 13] (fun v i wr2 => LetTo g (m + 11) wo v i wr2) (fun _ i _ => 4 - (intOf i).toNat)
      case atStart => exact ⟨0, [], Nat.zero_le _, rfl, by simp, ownl, hr4, hg5⟩
      case round =>
        clear hlt hk
        obtain ⟨k2, ls, hk2, rfl, hls, hl, hrd, hgrl⟩ := hrel
        have hszl := hgrl.size
        go_wp2_with fail
        refine (pick_c g (m + 11 + 2 * k2) _ _ hrd (by omega)).mono ?_
        rintro e w_5 ⟨x, rfl, x0, x1, hrd2, hgr2⟩
        have x2 := x1 (by omega)
        have hl2 := hl.kept hgr2 (.inr (fun e => by have := (hl.lt g e).1; omega))
        have hgr3 := only_trans hgrl hgr2
        have hsz3 := hgr3.size
        have hszw := hgr.size
        have HLS := Lib.hid hls
        clear hl hrd hgrl hgr2 x1 hls ownl hr4 hg5
        by_cases hlt : (k2 : Int) < x
        · clear o1 o2 o3 bx2 hg4
          go_wp2_with fail
          refine (pick_c g (m + 11 + 2 * k2 + 1) _ _ hrd2 (by omega)).mono ?_
          rintro e w_6 ⟨y, rfl, y0, y1, hrd3, hgr4⟩
          have y2 := y1 (by omega)
          have hl3 := hl2.kept hgr4 (.inr (fun e => by have := (hl2.lt g e).1; omega))
          have hgr5 := only_trans hgr3 hgr4
          have hsz5 := hgr5.size
          have hyy := mem_snoc' HLS.out (And.intro y0 (show y ≤ 990 by omega))
          have HYY := Lib.hid hyy
          clear hl2 hrd2 hgr3 hgr4 y1 hyy
          go_wp2_with (at_builtin; go_must (refine wpList_append_sl _ rfl _ _ 23 rfl wo.heap.size 3 i0 Try.underlying23 hi0 hz0 hz1 hz2 _ k2 (ints (ls)) rfl (hl3.alloc _) _ _ 1 1 _ [y] rfl (one_read w_6 (y)) (by omega) (by simp; omega) ?_); intro v' w_9 hap hg hat)
          have hrd7 := hrd3.after_append hg hl3 (by omega)
          have hgr9 := grown_append hgr5 hg hl3
          have hpi : ints ls ++ ints [y] = ints (ls ++ [y]) := by simp [ints]
          rw [hpi] at hap
          clear hg hat hl3 hrd3 hgr5 hpi
          go_wp2
          go_roundw
          case rel => exact ⟨k2 + 1, _, by omega, by go_num, HYY.out, hap, hrd7.mono (by omega), hgr9⟩
          case measure => simp [intOf]; omega
        · obtain ⟨A4, c4, rfl⟩ := owns_shape hl2
          have o4 := OwnR.of_owns (xs := ls) hl2
          replace o1 := o1.grown hgr3 (fun k hk => by injection hk with hk; omega)
          replace o2 := o2.grown hgr3 (fun k hk => by injection hk with hk; omega)
          replace o3 := o3.grown hgr3 (fun k hk => by injection hk with hk; omega)
          replace bx2 := bx2.grown hgr3 (fun k hk => by injection hk with hk; omega)
          replace hg4 := only_trans hg4 hgr3
          have hrd3 := hrd2.mono (show m + 11 + 2 * k2 + 1 ≤ m + 20 by omega)
          clear hl2 hgr3 hrd2
          go_wp2_with fail
          refine (l91Good_c g (m + 20) _ hrd3 (by omega)).mono ?_
          rintro e w_6 ⟨s, rfl, hs, hrd4, hgr4⟩
          have zz6 := hgr4.size
          replace o1 := o1.grown hgr4 (fun k hk => by injection hk with hk; omega)
          replace o2 := o2.grown hgr4 (fun k hk => by injection hk with hk; omega)
          replace o3 := o3.grown hgr4 (fun k hk => by injection hk with hk; omega)
          replace o4 := o4.grown hgr4 (fun k hk => by injection hk with hk; omega)
          replace bx2 := bx2.grown hgr4 (fun k hk => by injection hk with hk; omega)
          replace hg4 := only_trans hg4 hgr4
          have HS := Lib.hid hs
          clear hgr4 hrd3 hs
          go_wp2_with fail
          refine (pick_c g (m + 22) _ _ hrd4 (by omega)).mono ?_
          rintro e w_7 ⟨to, rfl, t0, t1, hrd5, hgr5⟩
          have t2 := t1 (by omega)
          have zz7 := hgr5.size
          replace o1 := o1.grown hgr5 (fun k hk => by injection hk with hk; omega)
          replace o2 := o2.grown hgr5 (fun k hk => by injection hk with hk; omega)
          replace o3 := o3.grown hgr5 (fun k hk => by injection hk with hk; omega)
          replace o4 := o4.grown hgr5 (fun k hk => by injection hk with hk; omega)
          replace bx2 := bx2.grown hgr5 (fun k hk => by injection hk with hk; omega)
          replace hg4 := only_trans hg4 hgr5
          clear hgr5 hrd4 t1
          obtain ⟨P, hP⟩ : ∃ P, P = makeP s (ss.map (mulP · 5)) ns to ls := ⟨_, rfl⟩
          have hmk : makeB s (ss.map (mulP · 5)) ns to ls = true := makeB_iff.2 ⟨HS.out, pathB_iff.2 ⟨fun p hp => by obtain ⟨a, ha, rfl⟩ := List.mem_map.1 hp; exact mulP_el (HSS.out a ha) el5, by rw [o1.len]; omega, by rw [o1.len]; omega⟩, packB_iff.2 ⟨listB_iff.2 ⟨by rw [o4.len]; omega, HLS.out⟩, by rw [o4.len]; omega⟩, by rw [o3.len, o1.len], HNS.out, nameB_of t0 t2⟩
          have hv : validB P = true := make_valid (hP.trans (makeP_yes hmk)) hmk
          have HP := Lib.hid hP
          have HV := Lib.hid hv
          have hlen := makeP_len s to (ss.map (mulP · 5)) ns ls
          rw [← hP] at hlen
          clear hP hv hmk
          go_wp2_with fail
          refine (sPacketMake_p _ _ _ _ _ _ _ _ _ _ _ _ _ _ _ _ _ _ _ _ _ _ o1.read o3.read o4.read (by omega) (by omega) (by omega) HP.out).mono ?_
          rintro e w_8 ⟨Ax, nx, cx, Ax', nx', cx', rfl, ox, h_8⟩
          have zz8 := h_8.size
          replace o2 := o2.below h_8 o2.hi_le
          replace bx2 := bx2.below h_8 bx2.hi_le
          replace hg4 := only_below hg4 h_8
          have hrd6 := hrd5.below h_8 hrd5.lt
          have oxr := ox.read.alloc (.cells #[.int .i64 P.e, .slice Ax nx cx, .int .i64 P.t, .slice Ax' nx' cx'] 45)
          have o2' := o2.alloc (.cells #[.int .i64 P.e, .slice Ax nx cx, .int .i64 P.t, .slice Ax' nx' cx'] 45)
          have bx3 := bx2.alloc (.cells #[.int .i64 P.e, .slice Ax nx cx, .int .i64 P.t, .slice Ax' nx' cx'] 45)
          have hg5 := only_below hg4 ((Below.refl w_8.heap.size w_8).alloc (Nat.le_refl _) (.cells #[.int .i64 P.e, .slice Ax nx cx, .int .i64 P.t, .slice Ax' nx' cx'] 45))
          have hrd7 := hrd6.below ((Below.refl w_8.heap.size w_8).alloc (Nat.le_refl _) (.cells #[.int .i64 P.e, .slice Ax nx cx, .int .i64 P.t, .slice Ax' nx' cx'] 45)) hrd6.lt
          have box := BoxAt.new w_8 #[.int .i64 P.e, .slice Ax nx cx, .int .i64 P.t, .slice Ax' nx' cx'] 45
          have hqs : w_8.heap.size < (w_8.alloc (.cells #[.int .i64 P.e, .slice Ax nx cx, .int .i64 P.t, .slice Ax' nx' cx'] 45)).heap.size := by simp
          have hst : OnWay AT w_8.heap.size (w.heap.size + 1) (w_8.alloc (.cells #[.int .i64 P.e, .slice Ax nx cx, .int .i64 P.t, .slice Ax' nx' cx'] 45)) (.int .i64 0) (w_8.alloc (.cells #[.int .i64 P.e, .slice Ax nx cx, .int .i64 P.t, .slice Ax' nx' cx'] 45)) := ⟨0, P, w_7.heap.size, w_8.heap.size, Ax, nx, cx, Ax', nx', cx', Nat.zero_le _, rfl, HV.out, by omega, .inr (Nat.le_refl _), box, oxr, Only.refl _ _ _⟩
          have HST := Lib.hid hst
          have hqg : w.heap.size < w_8.heap.size := by omega
          have HG5 := Lib.hid hg5
          have HRD := Lib.hid hrd7
          have hwow : w2.heap.size ≤ w_8.heap.size := by omega
          clear hst ox o1 o2 o3 o4 hrd5 hrd6 hg4 bx2 h_8 oxr box hlen hg5 hrd7 hlt x0 x2 t0 t2
          go_wp2_with fail
          go_loopw [16] (fun i wr => OnWay AT w_8.heap.size (w.heap.size + 1) (w_8.alloc (.cells #[.int .i64 P.e, .slice Ax nx cx, .int .i64 P.t, .slice Ax' nx' cx'] 45)) i wr) (fun i _ => AT - (intOf i).toNat)
          case atStart => exact HST.out
          case round =>
            obtain ⟨k3, Q, plo, phi, Ap, np, cp, Ap', np', cp', hk3, rfl, hvq, hpB, hdis, bp, tp, hon⟩ := hrel
            have hzr := hon.size
            have hgw : w_8.heap.size < wr.heap.size := bp.hi_le
            obtain ⟨_, _, hq9, _, hq6, _⟩ := validB_iff.1 hvq
            have hnp : np = 9 ∧ np' = 6 := by have := tp.len; omega
            obtain ⟨hnp1, hnp2⟩ := hnp
            have HVQ := Lib.hid hvq
            have hnp9 : np ≤ 9 := by omega
            have hnp6 : np' ≤ 6 := by omega
            clear hvq hq9 hq6 hnp1 hnp2
            by_cases hlt : k3 < AT
            · have osr := o2'.only hon (.inl (by omega))
              obtain ⟨ba, oa, rfl, hba1, hba2, hca⟩ := osr.read.at_ (by omega)
              have ca := hca k3 (by omega)
              obtain ⟨a, ha⟩ : ∃ v, v = ss.getD k3 0 := ⟨_, rfl⟩
              rw [← ha] at ca
              obtain ⟨X, hX⟩ : ∃ x, x = peelP a Q := ⟨_, rfl⟩
              obtain ⟨ok, hok⟩ : ∃ b, b = peelB a Q := ⟨_, rfl⟩
              have hbaw : ba < wr.heap.size := Nat.lt_of_lt_of_le hba2 osr.hi_le
              have k5 : ∀ w', Below wr.heap.size wr w' → w'.cell? ⟨ba, oa + k3, none⟩ = some (.int .i64 a) ∧ w'.cell? ⟨w_8.heap.size, 0, none⟩ = some (.int .i64 Q.e) ∧ w'.cell? ⟨w_8.heap.size, 1, none⟩ = some (.slice Ap np cp) ∧ w'.cell? ⟨w_8.heap.size, 2, none⟩ = some (.int .i64 Q.t) ∧ w'.cell? ⟨w_8.heap.size, 3, none⟩ = some (.slice Ap' np' cp') := fun w' hb =>
                ⟨(hb.cell (p := ⟨ba, oa + k3, none⟩) hbaw).trans ca, (bp.below hb hgw).four⟩
              have HK5 := Lib.hid k5
              have HD0 := Lib.hid ((Below.refl wr.heap.size wr).drew)
              have HD1 := Lib.hid (((Below.refl wr.heap.size wr).alloc (Nat.le_refl _) (.cells #[.int .i64 0, .int .i64 0, .int .i64 0, .slice none 0 0, .int .i64 0, .slice none 0 0] 47)).drew)
              have HT0 := Lib.hid tp.drew
              have HT1 := Lib.hid (tp.alloc (.cells #[.int .i64 0, .int .i64 0, .int .i64 0, .slice none 0 0, .int .i64 0, .slice none 0 0] 47)).drew
              have HTP := Lib.hid tp
              have HXX := Lib.hid hX
              have HOK := Lib.hid hok
              have HON := Lib.hid hon
              have HBP := Lib.hid bp
              obtain ⟨b0, b1, b2, b3⟩ := bp.four
              have hk00 : (0 : Int) ≤ (k3 : Int) := Int.natCast_nonneg _
              have hkn0 : (k3 : Int) < (1 + Y : Nat) := by omega
              have hkn1 : (k3 : Int) < 1 + (Y : Int) := by omega
              clear k5 tp hX hok hca ha osr hon bp
              go_wp2_with fail
              apply share8 (N := fun WF gb A3 n3 c3 A4 n4 c4 => PeelOk wr WF gb X A3 n3 c3 A4 n4 c4)
              case h1 =>
                intro main
                go_region_held3 (fun w' => w'.cell? ⟨ba, oa + k3, none⟩ = some (.int .i64 a) ∧ w'.cell? ⟨w_8.heap.size, 0, none⟩ = some (.int .i64 Q.e) ∧ w'.cell? ⟨w_8.heap.size, 1, none⟩ = some (.slice Ap np cp) ∧ w'.cell? ⟨w_8.heap.size, 2, none⟩ = some (.int .i64 Q.t) ∧ w'.cell? ⟨w_8.heap.size, 3, none⟩ = some (.slice Ap' np' cp'))
                  (exact HK5.out _ (by first | with_reducible exact HD0.out | with_reducible exact HD1.out | with_reducible exact hB2 | with_reducible exact hB2.alloc hB2.size _ | with_reducible exact set6_below hB2 (Nat.le_refl _) _ _ _ _ _ _))
                  ((go_at_call 45; refine (sPacketPeel_p a Q.e Q.t Ap np cp Ap' np' cp' plo phi Q.h Q.b _ X ok (by first | with_reducible exact HT0.out | with_reducible exact HT1.out) HXX.out HOK.out (by omega) (by omega)).mono ?_; rintro e' w2' ⟨A3, n3, c3, A4, n4, c4, rfl, o3, hb3⟩; have hB2 : Below wr.heap.size wr w2' := (by first | exact HD0.out.trans hb3 | exact HD1.out.trans (hb3.mono (by show wr.heap.size ≤ (wr.alloc _).heap.size; simp))); try (have bz : BoxAt w2' wr.heap.size #[.int .i64 0, .int .i64 0, .int .i64 0, .slice none 0 0, .int .i64 0, .slice none 0 0] 47 := ((BoxAt.new wr _ _).drew).below hb3 (by show _ < (wr.alloc _).heap.size; simp); obtain ⟨z0, z1, z2, z3, z4, z5⟩ := bz.six; have zf := bz.frozen)))
                all_goals (
                  first
                  | (have nx : PeelOk wr (w2'.alloc (.cells #[.int .i64 X.kind, .int .i64 X.next, .int .i64 X.p.e, .slice A3 n3 c3, .int .i64 X.p.t, .slice A4 n4 c4] 47)) w2'.heap.size X A3 n3 c3 A4 n4 c4 := peelBox_last hb3 o3
                     generalize hgb : w2'.heap.size = gb at nx ⊢
                     generalize hWF : w2'.alloc (.cells #[.int .i64 X.kind, .int .i64 X.next, .int .i64 X.p.e, .slice A3 n3 c3, .int .i64 X.p.t, .slice A4 n4 c4] 47) = WF at nx ⊢
                     exact main WF gb A3 n3 c3 A4 n4 c4 nx)
                  | exact main _ wr.heap.size A3 n3 c3 A4 n4 c4 (peelBox_first hb3 o3))
              case h2 =>
                intro WF gb A3 n3 c3 A4 n4 c4 nx
                obtain ⟨bx, hgb, tw, hbF⟩ := nx
                have hbpF := HBP.out.below hbF hgw
                have honF : Only w_8.heap.size (w_8.heap.size + 1) (w_8.alloc (.cells #[.int .i64 P.e, .slice Ax nx cx, .int .i64 P.t, .slice Ax' nx' cx'] 45)) WF := HON.out.trans (Only.of_below hbF)
                have hszF := hbF.size
                cases ok with
                | false =>
                  have hrel2 : OnWay AT w_8.heap.size (w.heap.size + 1) (w_8.alloc (.cells #[.int .i64 P.e, .slice Ax nx cx, .int .i64 P.t, .slice Ax' nx' cx'] 45)) (.int .i64 ((k3 + 1 : Nat) : Int)) WF := ⟨k3 + 1, Q, plo, phi, Ap, np, cp, Ap', np', cp', by omega, rfl, HVQ.out, hpB, hdis, hbpF, HTP.out.below hbF HTP.out.hi_le, honF⟩
                  have HREL := Lib.hid hrel2
                  clear bx tw hbF hbpF honF b0 b1 b2 b3 ca hrel2
                  go_wp2_with fail
                  go_roundw
                  case rel => exact HREL.out
                  case measure => simp [intOf]; omega
                | true =>
                  obtain ⟨m0, m1, m2, m3, m4, m5⟩ := bx.six
                  obtain ⟨f0, f1, f2, f3⟩ := hbpF.four
                  have ff := hbpF.frozen
                  have hxl : X = peelL a Q := HXX.out.trans (peelP_yes HOK.out.symm)
                  have hxv : validB X.p = true := by rw [hxl]; exact peelL_valid HOK.out.symm
                  have HXV := Lib.hid hxv
                  have HTW := Lib.hid tw.read
                  have HBPF := Lib.hid hbpF
                  have HONF := Lib.hid honF
                  have hgbn : ¬ gb = w_8.heap.size := by omega
                  have hgbn2 : ¬ w_8.heap.size = gb := by omega
                  clear bx tw hbF hbpF honF b0 b1 b2 b3 ca hxl hxv
                  have hrel2 : OnWay AT w_8.heap.size (w.heap.size + 1) (w_8.alloc (.cells #[.int .i64 P.e, .slice Ax nx cx, .int .i64 P.t, .slice Ax' nx' cx'] 45)) (.int .i64 ((k3 + 1 : Nat) : Int)) ((((WF.setCell ⟨w_8.heap.size, 0, none⟩ (.int .i64 X.p.e)).setCell ⟨w_8.heap.size, 1, none⟩ (.slice A3 n3 c3)).setCell ⟨w_8.heap.size, 2, none⟩ (.int .i64 X.p.t)).setCell ⟨w_8.heap.size, 3, none⟩ (.slice A4 n4 c4)) :=
                    ⟨k3 + 1, X.p, wr.heap.size, WF.heap.size, A3, n3, c3, A4, n4, c4, by omega, rfl, HXV.out, by omega, .inl hgw, set4_box HBPF.out _ _ _ _, set4_twoR HTW.out hgw _ _ _ _, HONF.out.trans (set4_only _ _ _ _ _ _)⟩
                  have HREL := Lib.hid hrel2
                  clear hrel2
                  go_wp2_with fail
                  go_roundw
                  case rel => exact HREL.out
                  case measure => simp [intOf]; omega
            · have bxr4 := bx3.only hon (.inl (by omega))
              have hrd8 := HRD.out.only hon (by omega)
              have hg8 := grown_only HG5.out hon (by omega)
              obtain ⟨kc0, kc1, kc2, kc3⟩ := bxr4.four
              have kf := bxr4.frozen
              obtain ⟨b0, b1, b2, b3⟩ := bp.four
              have hfin : DPkt g (m + 30) w (.returned (.agg #[.int .i64 Q.e, .slice Ap np cp, .int .i64 Q.t, .slice Ap' np' cp'])) ((((wr.setCell ⟨w.heap.size, 0, none⟩ (.int .i64 Q.e)).setCell ⟨w.heap.size, 1, none⟩ (.slice Ap np cp)).setCell ⟨w.heap.size, 2, none⟩ (.int .i64 Q.t)).setCell ⟨w.heap.size, 3, none⟩ (.slice Ap' np' cp')) := by
                refine ⟨Q, Ap, np, cp, Ap', np', cp', rfl, HVQ.out, (set4_twoR tp (by omega) _ _ _ _).wider (by omega) ?_ (Nat.le_refl _), (hrd8.only (set4_only _ _ _ _ _ _) (by omega)).mono (by omega), grown_only hg8 (set4_only _ _ _ _ _ _) (Nat.le_refl _)⟩
                rw [set4_sz]; exact tp.hi_le
              have HFIN := Lib.hid hfin
              clear hfin bxr4 hrd8 hg8 tp bp hon bx3 o2'
              go_wp2_with fail
              refine bodyPost_ret (v := .agg #[.int .i64 Q.e, .slice Ap np cp, .int .i64 Q.t, .slice Ap' np' cp']) (by simp [results, Try.results29, go_sem, kc0, kc1, kc2, kc3]) rfl ?_
              exact HFIN.out
end Go.Proofs.Ytoocjalhcliebaa
