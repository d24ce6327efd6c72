/-
  The walks of the statements on masks, tags and letters: each returns true and leaves what was there as it was.
  Conditions: the arguments read as lists of bytes.
-/
import Derived.Test.YtoocjalhcliebaaBaseI
import Derived.Test.YtoocjalhcliebaaBaseJ
import Derived.Test.YtoocjalhcliebaaBaseA
namespace Go.Proofs.Ytoocjalhcliebaa
open Go Go.RowKit

def AnoPost (a : Int) (w : World) (e : Ending) (w' : World) : Prop := ∃ y : Int, e = .returned (.int .i64 y) ∧ 0 ≤ y ∧ y ≤ 990 ∧ y ≠ a ∧ w = w'
theorem sameInts_t (A : Option Addr) (n c lo hi : Nat) (xs : List Int) (A2 : Option Addr) (n2 c2 lo2 hi2 : Nat) (w : World) (hs : SlR .i64 w lo hi A n xs) (ht : SlR .i64 w lo2 hi2 A2 n2 xs) (hn : n ≤ 4194304) :
    Calls Try.prog 20 #[.slice A n c, .slice A2 n2 c2] w (Tells true w) := by
  have h := sameInts_c A n c lo hi xs A2 n2 c2 lo2 hi2 xs w hs ht (by omega)
  rw [sameB_self] at h
  exact h
theorem wpList_append_new {P : Program} (w : World) {ops : Array Oper} {rest : List Oper} {o : Oper} {a : Act} {Q : Exit → Act → World → Prop} (hgd : o.guard = none) (s x : Operand) (t : TypeId)
    (ho : o.op = .call { callee := .builtin .append, args := #[s, x], argTypes := #[t, t] })
    (e : TypeId) (i : TypeInfo) (ht : P.underlying t = some (.slice e)) (hi : P.info? e = some i) (hz : i.zero = some (.int .i64 0)) (hsize : i.size = 1) (hby : i.bytes = 8)
    (hs : a.eval s = .slice (some ⟨w.heap.size, 0, none⟩) 0 0)
    (lo hi' m c : Nat) (A : Option Addr) (ys : List Int) (hx : a.eval x = .slice A m c) (hr : SlR .i64 w lo hi' A m ys) (hn : m ≤ 1000000)
    (h : ∀ A' c' w', OwnR e w' w.heap.size w'.heap.size A' m c' ys → Below w.heap.size w w' → wpList P ops Q rest (a.put o.dst (.slice A' m c')) w') : wpList P ops Q (o :: rest) a (w.alloc (.cells #[] e)) := by
  refine wpList_append_sl (w.alloc (.cells #[] e)) hgd s x t ho w.heap.size e i ht hi hz hsize hby _ 0 [] hs (World.ownsRow_made w #[] 0 (Nat.le_refl _) (by unfold maxLen; omega) rfl) lo hi' m c A ys hx (hr.alloc _) (by omega) (by simp) fun v' w' hown hg _ => ?_
  obtain ⟨A', c', rfl⟩ := owns_shape hown
  rw [Nat.zero_add] at hown ⊢
  exact h A' c' w' (OwnR.of_owns (by simpa [ints] using hown)) (((Below.refl _ _).alloc (Nat.le_refl _) _).grown hg (by simp) (fun k hk => by simp [Value.ownBlock] at hk; omega))
theorem onP_pos {xs : List Int} {k : Int} (h : 0 < (onP xs k).length) : listB xs = true ∧ elB k = true := by
  unfold onP at h
  split at h
  · assumption
  · simp at h
theorem offP_pos {xs : List Int} {k : Int} (h : 0 < (offP xs k).length) : listB xs = true ∧ elB k = true := by
  unfold offP at h
  split at h
  · assumption
  · simp at h
theorem onP_eq {xs : List Int} {k : Int} (hx : listB xs = true) (hk : elB k = true) : onP xs k = onL xs k := if_pos ⟨hx, hk⟩
theorem offP_eq {xs : List Int} {k : Int} (hx : listB xs = true) (hk : elB k = true) : offP xs k = offL xs k := if_pos ⟨hx, hk⟩

end Go.Proofs.Ytoocjalhcliebaa
