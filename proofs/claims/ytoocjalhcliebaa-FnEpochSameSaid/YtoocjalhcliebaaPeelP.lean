/-
  A packet is peeled by the reference: the whole function.
  Conditions: the packet's slices read as lists of whole numbers.
-/
import Derived.Test.YtoocjalhcliebaaPeelS
namespace Go.Proofs.Ytoocjalhcliebaa
open Go Go.RowKit

set_option maxRecDepth 100000 in
set_option maxHeartbeats 3200000 in
theorem sPacketPeel_c (s e t : Int) (A : Option Addr) (n c : Nat) (A2 : Option Addr) (n2 c2 : Nat) (lo hi : Nat) (h b : List Int) (w : World) (hs : TwoR w lo hi h b A n c A2 n2 c2) (hn : n ≤ 4194304) (hn2 : n2 ≤ 4194304) : Calls Try.prog 45 #[.int .i64 s, .agg #[.int .i64 e, .slice A n c, .int .i64 t, .slice A2 n2 c2]] w (NewPeel (peelP s ⟨e, h, t, b⟩) (peelB s ⟨e, h, t, b⟩) w) := by
  have hab := (hs.alloc (.cells #[.int .i64 e, .slice A n c, .int .i64 t, .slice A2 n2 c2] 45)).alloc (.cells #[.int .i64 0, .int .i64 0, .int .i64 0, .slice none 0 0, .int .i64 0, .slice none 0 0] 47)
  have hbp0 : BoxAt ((w.alloc (.cells #[.int .i64 e, .slice A n c, .int .i64 t, .slice A2 n2 c2] 45)).alloc (.cells #[.int .i64 0, .int .i64 0, .int .i64 0, .slice none 0 0, .int .i64 0, .slice none 0 0] 47)) w.heap.size #[.int .i64 e, .slice A n c, .int .i64 t, .slice A2 n2 c2] 45 := (BoxAt.new w #[.int .i64 e, .slice A n c, .int .i64 t, .slice A2 n2 c2] 45).alloc (.cells #[.int .i64 0, .int .i64 0, .int .i64 0, .slice none 0 0, .int .i64 0, .slice none 0 0] 47)
  have hbz0 : BoxAt ((w.alloc (.cells #[.int .i64 e, .slice A n c, .int .i64 t, .slice A2 n2 c2] 45)).alloc (.cells #[.int .i64 0, .int .i64 0, .int .i64 0, .slice none 0 0, .int .i64 0, .slice none 0 0] 47)) (w.heap.size + 1) #[.int .i64 0, .int .i64 0, .int .i64 0, .slice none 0 0, .int .i64 0, .slice none 0 0] 47 := by
    have := BoxAt.new (w.alloc (.cells #[.int .i64 e, .slice A n c, .int .i64 t, .slice A2 n2 c2] 45)) #[.int .i64 0, .int .i64 0, .int .i64 0, .slice none 0 0, .int .i64 0, .slice none 0 0] 47
    simpa using this
  have hbw0 : Below w.heap.size w ((w.alloc (.cells #[.int .i64 e, .slice A n c, .int .i64 t, .slice A2 n2 c2] 45)).alloc (.cells #[.int .i64 0, .int .i64 0, .int .i64 0, .slice none 0 0, .int .i64 0, .slice none 0 0] 47)) := ((Below.refl w.heap.size w).alloc (Nat.le_refl _) (.cells #[.int .i64 e, .slice A n c, .int .i64 t, .slice A2 n2 c2] 45)).alloc (by simp) (.cells #[.int .i64 0, .int .i64 0, .int .i64 0, .slice none 0 0, .int .i64 0, .slice none 0 0] 47)
  have hsz0 : w.heap.size + 2 ≤ ((w.alloc (.cells #[.int .i64 e, .slice A n c, .int .i64 t, .slice A2 n2 c2] 45)).alloc (.cells #[.int .i64 0, .int .i64 0, .int .i64 0, .slice none 0 0, .int .i64 0, .slice none 0 0] 47)).heap.size := by simp
  have hhi := hs.hi_le

  cases he : elB s with
  | false =>
    have hp : peelB s ⟨e, h, t, b⟩ = false := by simp [peelB, he]
    rw [peelP_no hp, hp]
    clear hp
    go_enter Try.func45, Try.ntmps45
    go_wp2_with (first | (go_at_call 18; refine (l1Is_c _ _).mono ?_; rintro e w' ⟨rfl, rfl⟩))
    refine bodyPost_ret (v := .tuple #[.agg #[.int .i64 0, .int .i64 0, .int .i64 0, .slice none 0 0, .int .i64 0, .slice none 0 0], .bool false]) (by simp [results, Try.results45, go_sem]) rfl ?_
    exact NewPeel.zero hbw0
  | true => cases hv : validB ⟨e, h, t, b⟩ with
    | false =>
      have hp : peelB s ⟨e, h, t, b⟩ = false := by simp [peelB, hv]
      rw [peelP_no hp, hp]
      clear hp
      have hpv := sPacketValid_c e t A n c A2 n2 c2 _ _ h b _ hab hn hn2
      rw [hv] at hpv
      have HPV := Lib.hid hpv
      have HVV := Lib.hid hv
      clear hpv hv
      go_enter Try.func45, Try.ntmps45
      go_wp2_with (first | (go_at_call 18; refine (l1Is_c _ _).mono ?_; rintro e w' ⟨rfl, rfl⟩))
      refine HPV.out.mono ?_
      rintro e' w2 ⟨rfl, hb2⟩
      have hab2 := hab.below hb2 hab.hi_le
      have hbp2 := hbp0.below hb2 hbp0.hi_le
      have hbz2 := hbz0.below hb2 hbz0.hi_le
      have hbw2 := hbw0.trans (hb2.mono hbw0.size)
      have hsz2 := hb2.size
      clear hab hbp0 hbz0 hbw0 hb2
      obtain ⟨kr0, kr1, kr2, kr3, kr4, kr5⟩ := hbz2.six
      have kf := hbz2.frozen
      clear hab2 hbp2 hbz2
      go_wp2_with fail
      refine bodyPost_ret (v := .tuple #[.agg #[.int .i64 0, .int .i64 0, .int .i64 0, .slice none 0 0, .int .i64 0, .slice none 0 0], .bool false]) (by simp [results, Try.results45, go_sem, kr0, kr1, kr2, kr3, kr4, kr5]) rfl ?_
      exact NewPeel.zero (set6_below hbw2 (by omega) _ _ _ _ _ _)
    | true =>
      obtain ⟨X, hX⟩ : ∃ x, x = peelP s ⟨e, h, t, b⟩ := ⟨_, rfl⟩
      obtain ⟨ok, hok⟩ : ∃ x, x = peelB s ⟨e, h, t, b⟩ := ⟨_, rfl⟩
      rw [← hX, ← hok]
      have HX := Lib.hid hX
      have HO := Lib.hid hok
      have HE := Lib.hid he
      clear hX hok
      have hpv := sPacketValid_c e t A n c A2 n2 c2 _ _ h b _ hab hn hn2
      rw [hv] at hpv
      have HPV := Lib.hid hpv
      have HVV := Lib.hid hv
      clear hpv hv
      go_enter Try.func45, Try.ntmps45
      go_wp2_with (first | (go_at_call 18; refine (l1Is_c _ _).mono ?_; rintro e w' ⟨rfl, rfl⟩))
      refine HPV.out.mono ?_
      rintro e' w2 ⟨rfl, hb2⟩
      have hab2 := hab.below hb2 hab.hi_le
      have hbp2 := hbp0.below hb2 hbp0.hi_le
      have hbz2 := hbz0.below hb2 hbz0.hi_le
      have hbw2 := hbw0.trans (hb2.mono hbw0.size)
      have hsz2 := hb2.size
      clear hab hbp0 hbz0 hbw0 hb2
      obtain ⟨kr0, kr1, kr2, kr3, kr4, kr5⟩ := hbz2.six
      have kf := hbz2.frozen
      obtain ⟨q0, q1, q2, q3⟩ := hbp2.four
      go_wp2_with fail
      have hc := l5Peel_c s e t A n c A2 n2 c2 lo hi h b w2 hab2 HE.out HVV.out
      rw [← HX.out, ← HO.out] at hc
      refine hc.mono ?_
      rintro e' w3 ⟨A3, n3, c3, A4, n4, c4, rfl, o3, hb3⟩
      have hsz3 := hb3.size
      have hbz3 := hbz2.below hb3 hbz2.hi_le
      have hbw3 := hbw2.trans (hb3.mono hbw2.size)
      clear hc q0 q1 q2 q3 kr0 kr1 kr2 kr3 kr4 kr5 kf
      obtain ⟨kr0, kr1, kr2, kr3, kr4, kr5⟩ := hbz3.six
      have kf := hbz3.frozen
      have hfin : NewPeel X ok w (.returned (.tuple #[.agg #[.int .i64 X.kind, .int .i64 X.next, .int .i64 X.p.e, .slice A3 n3 c3, .int .i64 X.p.t, .slice A4 n4 c4], .bool ok])) ((((((w3.setCell ⟨w.heap.size + 1, 0, none⟩ (.int .i64 X.kind)).setCell ⟨w.heap.size + 1, 1, none⟩ (.int .i64 X.next)).setCell ⟨w.heap.size + 1, 2, none⟩ (.int .i64 X.p.e)).setCell ⟨w.heap.size + 1, 3, none⟩ (.slice A3 n3 c3)).setCell ⟨w.heap.size + 1, 4, none⟩ (.int .i64 X.p.t)).setCell ⟨w.heap.size + 1, 5, none⟩ (.slice A4 n4 c4)) :=
        ⟨A3, n3, c3, A4, n4, c4, rfl, (set6_twoO o3 (by omega) _ _ _ _ _ _).wider (by omega) (by rw [set6_size]; exact Nat.le_refl _) (Nat.le_refl _), set6_below hbw3 (by omega) _ _ _ _ _ _⟩
      have HFIN := Lib.hid hfin
      clear hfin hbz3 hbw3 hb3 o3 hab2 hbp2 hbz2 hbw2
      go_wp2_with fail
      refine bodyPost_ret (v := .tuple #[.agg #[.int .i64 X.kind, .int .i64 X.next, .int .i64 X.p.e, .slice A3 n3 c3, .int .i64 X.p.t, .slice A4 n4 c4], .bool ok]) (by simp [results, Try.results45, go_sem, kr0, kr1, kr2, kr3, kr4, kr5]) rfl ?_
      exact HFIN.out
end Go.Proofs.Ytoocjalhcliebaa
