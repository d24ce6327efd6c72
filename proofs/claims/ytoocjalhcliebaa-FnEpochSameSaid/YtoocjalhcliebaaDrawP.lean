/-
  Drawn elements and paths.
  Conditions: the reader is good.
-/
import Derived.Test.YtoocjalhcliebaaBaseI
import Derived.Test.YtoocjalhcliebaaPath
namespace Go.Proofs.Ytoocjalhcliebaa
open Go Go.RowKit

/-- A drawn element. -/
def GoodPost (g m : Nat) (w : World) (e : Ending) (w' : World) : Prop := ∃ x : Int, e = .returned (.int .i64 x) ∧ elB x = true ∧ RdOk w' g m ∧ w.grownBy w' (some g)
theorem l91Good_c (g m : Nat) (w : World) (h : RdOk w g m) (hm : m ≤ 900000) : Calls Try.prog 26 #[.pointer (some ⟨g, 0, none⟩)] w (GoodPost g (m + 2) w) := by
  go_enter Try.func26, Try.ntmps26
  go_wp2_with fail
  refine (pick_c g m _ _ h (by omega)).mono ?_
  rintro e w2 ⟨y, rfl, hy0, hy1, hr2, hg2⟩
  go_wp2_with fail
  refine (pick_c g (m + 1) _ _ hr2 (by omega)).mono ?_
  rintro e w3 ⟨z, rfl, hz0, hz1, hr3, hg3⟩
  have hy2 := hy1 (by omega)
  have hz2 := hz1 (by omega)
  have hel : elB (1 + 10 * y + z) = true := elB_iff.2 ⟨by omega, by omega⟩
  have HE := Lib.hid hel
  clear hel hy1 hz1
  go_wp2
  go_ret
  exact ⟨_, rfl, HE.out, hr3, only_trans hg2 hg3⟩
theorem one_read (w : World) (x : Int) : SlR .i64 (w.alloc (.cells #[.int .i64 x] 3)) w.heap.size (w.heap.size + 1) (some ⟨w.heap.size, 0, none⟩) 1 [x] := by
  refine ⟨rfl, by simp, fun _ => ⟨w.heap.size, 0, rfl, Nat.le_refl _, Nat.lt_succ_self _, fun j hj => ?_⟩⟩
  have : j = 0 := by omega
  subst this
  simp [World.cell?_alloc_at _ _ _ _ rfl]
/-- The two lists drawn so far. -/
def PathTo (g m N : Nat) (w : World) (v1 v2 i : Value) (wr : World) : Prop :=
  ∃ (k : Nat) (ps ns : List Int), k ≤ N ∧ i = .int .i64 (k : Int) ∧ wr.ownsRow w.heap.size 3 1 v1 k (ints ps) ∧ wr.ownsRow w.heap.size 3 1 v2 k (ints ns) ∧ (∀ b, v1.ownBlock = some b → v2.ownBlock ≠ some b) ∧ RdOk wr g (m + 3 * k) ∧ w.grownBy wr (some g)
theorem append_apart {w w1 : World} {x : Int} {T : TypeId} {B n n2 : Nat} {v1 v1' v2 : Value} {xs ys : List Value} (_h1 : w.ownsRow B T 1 v1 n xs) (h2 : w.ownsRow B T 1 v2 n2 ys) (hg : (w.alloc (.cells #[.int .i64 x] T)).grownBy w1 v1.ownBlock)
    (hat : v1'.ownBlock = v1.ownBlock ∨ v1'.ownBlock = some (w.alloc (.cells #[.int .i64 x] T)).heap.size) (hap : ∀ b, v1.ownBlock = some b → v2.ownBlock ≠ some b) :
    w1.ownsRow B T 1 v2 n2 ys ∧ ∀ b, v1'.ownBlock = some b → v2.ownBlock ≠ some b := by
  refine ⟨(h2.alloc _).kept hg ?_, fun b hb he => ?_⟩
  · cases hv : v2.ownBlock with
    | none => exact .inl rfl
    | some c => exact .inr fun e => hap c e.symm hv
  · have hlt := (h2.lt b he).2
    rcases hat with e | e
    · exact hap b (by rw [← e]; exact hb) he
    · rw [e] at hb; injection hb with hb; simp at hb; omega
theorem grown_append' {w wa w1 : World} {g : Nat} {v : Value} {o : Obj} {T : TypeId} {n : Nat} {xs : List Value} (h : w.grownBy wa (some g)) (hg : (wa.alloc o).grownBy w1 v.ownBlock) (hown : wa.ownsRow w.heap.size T 1 v n xs) : w.grownBy w1 (some g) := grown_append h hg hown
theorem OwnR.cut0 {T : TypeId} {w : World} {lo hi n c : Nat} {A : Option Addr} {xs : List Int} (h : OwnR T w lo hi A n c xs) : OwnR T w lo hi A 0 c [] := by
  refine ⟨⟨by simp, ?_⟩, h.2⟩
  rcases h.1.2 with ⟨e, _⟩ | ⟨g, cap, cur, e, hb, hg, hn, hm, hs, _⟩
  · injection e with e1 e2 e3
    subst e1 e3
    exact .inl ⟨rfl, rfl⟩
  · injection e with e1 e2 e3
    subst e1 e3
    exact .inr ⟨g, c, cur, rfl, hb, hg, Nat.zero_le _, hm, hs, by simp⟩
theorem OwnR.other {T : TypeId} {w w' : World} {lo hi n c : Nat} {A : Option Addr} {xs : List Int} {row : Option Nat} (h : OwnR T w lo hi A n c xs) (hg : w.grownBy w' row) (hne : ∀ b, row = some b → Value.ownBlock (.slice A n c) ≠ some b) : OwnR T w' lo hi A n c xs := by
  refine ⟨h.1.kept hg ?_, Nat.le_trans h.2.1 hg.size, h.2.2⟩
  cases hv : Value.ownBlock (.slice A n c) with
  | none => exact .inl rfl
  | some b => exact .inr fun e => hne b e.symm hv

/-- What a drawn path leaves: two new lists; the reader further on. -/
def PathPost (g m : Nat) (w : World) (e : Ending) (w' : World) : Prop :=
  ∃ A n c ps A2 n2 c2 ns, e = .returned (.tuple #[.slice A n c, .slice A2 n2 c2]) ∧ OwnR 3 w' w.heap.size w'.heap.size A n c ps ∧ OwnR 3 w' w.heap.size w'.heap.size A2 n2 c2 ns ∧ n ≤ 4 ∧ n2 ≤ 3 ∧ RdOk w' g m ∧ w.grownBy w' (some g)
end Go.Proofs.Ytoocjalhcliebaa
