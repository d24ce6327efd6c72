/-
  Words for drawn mixes; a new mix.
  No condition.
-/
import Derived.Test.YtoocjalhcliebaaFlush
import Derived.Test.YtoocjalhcliebaaDrawR
import Derived.Test.YtoocjalhcliebaaMixM
namespace Go.Proofs.Ytoocjalhcliebaa
open Go Go.RowKit

theorem own_madeM {w : World} {g : Nat} (h : BoxAt w g #[] 3) : OwnR 3 w g (g + 1) (some ⟨g, 0, none⟩) 0 0 [] := by
  have hg := h.hi_le
  exact ⟨⟨rfl, .inr ⟨g, 0, #[], rfl, Nat.le_refl _, h, Nat.le_refl _, by unfold maxLen; omega, rfl, rfl⟩⟩, hg, fun x e => by have e2 := Option.some.inj e; subst e2; exact Nat.lt_succ_self _⟩
set_option maxRecDepth 100000 in
theorem sMixNew_p (s : Int) (w : World) (hs : elB s = true) : Calls Try.prog 27 #[.int .i64 s] w (NewMixB s [] [] true w) := by
  have b1 : BoxAt (((w.alloc (.cells #[.int .i64 s, .slice (some ⟨w.heap.size + 1, 0, none⟩) 0 0, .slice (some ⟨w.heap.size + 2, 0, none⟩) 0 0] 26)).alloc (.cells #[] 3)).alloc (.cells #[] 47)) (w.heap.size + 1) #[] 3 := by
    have := (BoxAt.new (w.alloc (.cells #[.int .i64 s, .slice (some ⟨w.heap.size + 1, 0, none⟩) 0 0, .slice (some ⟨w.heap.size + 2, 0, none⟩) 0 0] 26)) #[] 3).alloc (.cells #[] 47)
    simpa using this
  have b2 : BoxAt (((w.alloc (.cells #[.int .i64 s, .slice (some ⟨w.heap.size + 1, 0, none⟩) 0 0, .slice (some ⟨w.heap.size + 2, 0, none⟩) 0 0] 26)).alloc (.cells #[] 3)).alloc (.cells #[] 47)) (w.heap.size + 2) #[] 47 := by
    have := BoxAt.new ((w.alloc (.cells #[.int .i64 s, .slice (some ⟨w.heap.size + 1, 0, none⟩) 0 0, .slice (some ⟨w.heap.size + 2, 0, none⟩) 0 0] 26)).alloc (.cells #[] 3)) #[] 47
    simpa using this
  have hsz : (((w.alloc (.cells #[.int .i64 s, .slice (some ⟨w.heap.size + 1, 0, none⟩) 0 0, .slice (some ⟨w.heap.size + 2, 0, none⟩) 0 0] 26)).alloc (.cells #[] 3)).alloc (.cells #[] 47)).heap.size = w.heap.size + 3 := by simp
  have hfin : NewMixB s [] [] true w (.returned (.tuple #[.agg #[.int .i64 s, .slice (some ⟨w.heap.size + 1, 0, none⟩) 0 0, .slice (some ⟨w.heap.size + 2, 0, none⟩) 0 0], .bool true])) (((w.alloc (.cells #[.int .i64 s, .slice (some ⟨w.heap.size + 1, 0, none⟩) 0 0, .slice (some ⟨w.heap.size + 2, 0, none⟩) 0 0] 26)).alloc (.cells #[] 3)).alloc (.cells #[] 47)) :=
    ⟨_, _, _, _, _, _, rfl, ⟨Nat.le_refl _, w.heap.size + 1, w.heap.size + 1 + 1, w.heap.size + 2, w.heap.size + 2 + 1, own_madeM b1, pool_made b2, .inl (Nat.le_refl _), by omega, by omega, by omega, by omega⟩, (((Below.refl w.heap.size w).alloc (Nat.le_refl _) _).alloc (by simp) _).alloc (by simp; omega) _⟩
  have HFIN := Lib.hid hfin
  clear hfin b1 b2
  go_enter Try.func27, Try.ntmps27
  go_wp2_with (go_at_call 18; refine (l1Is_c _ _).mono ?_; rintro e w' ⟨rfl, rfl⟩)
  refine bodyPost_ret (v := .tuple #[.agg #[.int .i64 s, .slice (some ⟨w.heap.size + 1, 0, none⟩) 0 0, .slice (some ⟨w.heap.size + 2, 0, none⟩) 0 0], .bool true]) (by simp [results, Try.results27, go_sem]) rfl ?_
  exact HFIN.out
theorem BoxAt.set3 {w : World} {g : Nat} {a b c : Value} {T : TypeId} (h : BoxAt w g #[a, b, c] T) (x0 x1 x2 : Value) : BoxAt (((w.setCell ⟨g, 0, none⟩ x0).setCell ⟨g, 1, none⟩ x1).setCell ⟨g, 2, none⟩ x2) g #[x0, x1, x2] T := by
  have := ((h.set 0 x0).set 1 x1).set 2 x2
  simpa using this
/-- A mix in block gm that a draw made and may write; a reader in block g. -/
def MixIn (s : Int) (g m gm : Nat) (w wr : World) : Prop :=
  ∃ seen pl A n c A2 n2 c2 L H, BoxAt wr gm #[.int .i64 s, .slice A n c, .slice A2 n2 c2] 26 ∧ MixP wr L H seen pl A n c A2 n2 c2 ∧ (gm < L ∨ H ≤ gm) ∧ w.heap.size ≤ L ∧ mixB ⟨s, seen, pl⟩ = true ∧ RdOk wr g m ∧ w.grownBy wr (some g)
theorem MixIn.grown {s : Int} {g m m2 gm : Nat} {w wr w2 : World} (h : MixIn s g m gm w wr) (hg : wr.grownBy w2 (some g)) (hr : RdOk w2 g m2) (hgg : g < w.heap.size) (hgm : w.heap.size ≤ gm) : MixIn s g m2 gm w w2 := by
  obtain ⟨seen, pl, A, n, c, A2, n2, c2, L, H, bx, o, hd, hL, hm, _, hw⟩ := h
  exact ⟨seen, pl, A, n, c, A2, n2, c2, L, H, bx.grown hg (fun x e => by have e2 := Option.some.inj e; omega), o.grown hg (fun x e => by have e2 := Option.some.inj e; omega), hd, hL, hm, hr, only_trans hw hg⟩
theorem MixIn.drew {s : Int} {g m gm : Nat} {w wr : World} (h : MixIn s g m gm w wr) : MixIn s g m gm w wr.drew := by
  obtain ⟨seen, pl, A, n, c, A2, n2, c2, L, H, bx, o, hd, hL, hm, hr, hw⟩ := h
  exact ⟨seen, pl, A, n, c, A2, n2, c2, L, H, bx.drew, o.drew, hd, hL, hm, hr.below (Below.refl wr.heap.size wr).drew hr.lt, only_below hw (Below.refl wr.heap.size wr).drew⟩
theorem MixIn.put {s : Int} {g m gm lo n c n2 c2 : Nat} {w w3 : World} {a b d : Value} {seen : List Int} {pl : List Peel} {A A2 : Option Addr} (bx : BoxAt w3 gm #[a, b, d] 26) (o : MixP w3 lo w3.heap.size seen pl A n c A2 n2 c2) (hlo : gm < lo) (hm : mixB ⟨s, seen, pl⟩ = true) (hr : RdOk w3 g m) (hw : w.grownBy w3 (some g)) (hgg : g < w.heap.size) (hgm : w.heap.size ≤ gm) :
    MixIn s g m gm w (((w3.setCell ⟨gm, 0, none⟩ (.int .i64 s)).setCell ⟨gm, 1, none⟩ (.slice A n c)).setCell ⟨gm, 2, none⟩ (.slice A2 n2 c2)) := by
  have ho := set3_only w3 gm (.int .i64 s) (.slice A n c) (.slice A2 n2 c2)
  exact ⟨seen, pl, A, n, c, A2, n2, c2, lo, w3.heap.size, bx.set3 _ _ _, o.only ho (.inr (by omega)), .inl hlo, by omega, hm, hr.only ho (by omega), grown_only hw ho hgm⟩
/-- What a drawn mix leaves. -/
def DMix (g m : Nat) (w : World) (e : Ending) (w' : World) : Prop :=
  ∃ s seen pl A n c A2 n2 c2, e = .returned (.agg #[.int .i64 s, .slice A n c, .slice A2 n2 c2]) ∧ MixR w' w.heap.size w'.heap.size seen pl A n c A2 n2 c2 ∧ n ≤ 13 ∧ n2 ≤ 5 ∧ PlB 1000000 pl ∧ RdOk w' g m ∧ w.grownBy w' (some g)
end Go.Proofs.Ytoocjalhcliebaa
