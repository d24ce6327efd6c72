/-
  The reader of a code: how numbers are drawn. Every draw returns some number in its range; only the reader's own place changes.
  No condition.
-/
import Derived.Test.YtbkecimhbibnjaaScal
import Derived.Deep.QuietTactic
import Derived.BigQuiet
import Derived.Laws.BitsAllLaws
import Derived.Laws.BitsLemmas
namespace Go.Proofs.Ytbkecimhbibnjaa
open Go Go.RowKit

theorem getD_mem' {xs : List Int} {i : Nat} (h : i < xs.length) : xs.getD i 0 ∈ xs := by
  rw [List.getD_eq_getElem?_getD, List.getElem?_eq_getElem h]; exact List.getElem_mem h

/-- Block g is a reader whose place is p: its bytes lie below it. -/
def Rd6 (w : World) (g : Nat) (A : Option Addr) (n c : Nat) (xs : List Int) (p : Nat) : Prop :=
  w.heap[g]? = some (.cells #[.slice A n c, .int .i64 (p : Int)] 95 (0, 0)) ∧ SlR .u8 w 0 g A n xs ∧ (∀ x ∈ xs, 0 ≤ x ∧ x ≤ 255) ∧ n ≤ 2000 ∧ n ≤ c
/-- Block g is a reader whose place is at most m. -/
def RdOk (w : World) (g m : Nat) : Prop := ∃ A n c xs p, p ≤ m ∧ Rd6 w g A n c xs p

theorem rd_cell0 {w : World} {g : Nat} {t : TypeId} {x y : Value} (h : w.heap[g]? = some (.cells #[x, y] t (0, 0))) : w.cell? ⟨g, 0, none⟩ = some x := cell_of_row w g 0 _ t (0, 0) h
theorem rd_cell1 {w : World} {g : Nat} {t : TypeId} {x y : Value} (h : w.heap[g]? = some (.cells #[x, y] t (0, 0))) : w.cell? ⟨g, 1, none⟩ = some y := cell_of_row w g 1 _ t (0, 0) h
theorem rd_frozen {w : World} {g : Nat} {t : TypeId} {cs : Array Value} (h : w.heap[g]? = some (.cells cs t (0, 0))) (i : Nat) : w.frozen? ⟨g, i, none⟩ = false := by simp [World.frozen?, h]
theorem rd_lt {w : World} {g : Nat} {o : Obj} (h : w.heap[g]? = some o) : g < w.heap.size := by
  rcases Nat.lt_or_ge g w.heap.size with hlt | hge
  · exact hlt
  · rw [Array.getElem?_eq_none hge] at h; cases h
theorem RdOk.lt {w : World} {g m : Nat} (h : RdOk w g m) : g < w.heap.size := by
  obtain ⟨A, n, c, xs, p, hp, h1, _⟩ := h
  exact rd_lt h1
theorem RdOk.mono {w : World} {g m m' : Nat} (h : RdOk w g m) (hm : m ≤ m') : RdOk w g m' := by
  obtain ⟨A, n, c, xs, p, hp, h1⟩ := h
  exact ⟨A, n, c, xs, p, by omega, h1⟩
theorem RdOk.keep {w w' : World} {g m : Nat} (h : RdOk w g m) (hs : w.heap.size ≤ w'.heap.size) (hk : ∀ b, b ≤ g → w'.heap[b]? = w.heap[b]?) : RdOk w' g m := by
  obtain ⟨A, n, c, xs, p, hp, h1, h2, h3⟩ := h
  have := rd_lt h1
  exact ⟨A, n, c, xs, p, hp, (hk g (Nat.le_refl _)).trans h1, h2.keep (by omega) (fun b _ hb => hk b (by omega)), h3⟩
theorem RdOk.below {w w' : World} {g m B : Nat} (h : RdOk w g m) (hb : Below B w w') (hB : g < B) : RdOk w' g m := h.keep hb.size fun b hg => hb.block b (by omega)
theorem RdOk.grown {w w' : World} {g m : Nat} {row : Option Nat} (h : RdOk w g m) (hg : w.grownBy w' row) (hr : ∀ k, row = some k → g < k) : RdOk w' g m :=
  h.keep hg.size fun b hb => hg.block b (by have := h.lt; omega) (fun e => by have := hr b e.symm; omega)

theorem only_set {w : World} {g : Nat} {i : Nat} (u : Value) : w.grownBy (w.setCell ⟨g, i, none⟩ u) (some g) :=
  ⟨rfl, rfl, rfl, by simp [World.setCell], fun k hk hne => Below.heap_setCell w _ u k (fun e => hne (by rw [e]))⟩
theorem only_drewN {a w : World} {row : Option Nat} (h : a.grownBy w row) (n : Nat) : a.grownBy (w.drewN n) row := ⟨h.os, h.tape, h.output, h.size, h.block⟩
theorem only_trans {a b c : World} {row : Option Nat} (h : a.grownBy b row) (k : b.grownBy c row) : a.grownBy c row :=
  ⟨k.os.trans h.os, k.tape.trans h.tape, k.output.trans h.output, Nat.le_trans h.size k.size, fun i hi hne => (k.block i (Nat.lt_of_lt_of_le hi h.size) hne).trans (h.block i hi hne)⟩
theorem only_below {a b c : World} {row : Option Nat} (h : a.grownBy b row) (k : Below b.heap.size b c) : a.grownBy c row :=
  only_trans h ⟨k.os, k.tape, k.output, k.size, fun i hi _ => k.block i hi⟩
theorem below_only {B : Nat} {a b c : World} {row : Option Nat} (h : Below B a b) (k : b.grownBy c row) (hB : B ≤ b.heap.size) (hr : ∀ g, row = some g → B ≤ g) : Below B a c := h.grown k hB hr

theorem rd_next {w : World} {g : Nat} {A : Option Addr} {n c : Nat} {xs : List Int} {p : Nat} (h : Rd6 w g A n c xs p) : Rd6 (w.setCell ⟨g, 1, none⟩ (.int .i64 ((p + 1 : Nat) : Int))) g A n c xs (p + 1) := by
  obtain ⟨h1, h2, h3⟩ := h
  refine ⟨?_, h2.setCell (.inr (Nat.le_refl _)) _, h3⟩
  simp [World.setCell, Array.getElem?_modify, h1]

theorem xor_bd {a b : Int} (ha : 0 ≤ a ∧ a < 4294967296) (hb : 0 ≤ b ∧ b < 4294967296) : 0 ≤ bits .xor .i64 a b ∧ bits .xor .i64 a b < 4294967296 := by
  obtain ⟨x, rfl⟩ := Int.eq_ofNat_of_zero_le ha.1
  obtain ⟨y, rfl⟩ := Int.eq_ofNat_of_zero_le hb.1
  have hx : x < 2 ^ 32 := by omega
  have hy : y < 2 ^ 32 := by omega
  have hxy : x ^^^ y < 2 ^ 32 := Nat.xor_lt_two_pow hx hy
  have e : bits .xor .i64 (x : Int) (y : Int) = ((x ^^^ y : Nat) : Int) := by
    show IntKind.i64.wrap ((BitVec.ofInt 64 (x : Int) ^^^ BitVec.ofInt 64 (y : Int)).toNat : Int) = _
    have o : ∀ z : Nat, z < 2 ^ 32 → (BitVec.ofInt 64 (z : Int)).toNat = z := fun z hz => by
      rw [BitVec.ofInt_natCast, BitVec.toNat_ofNat]; exact Nat.mod_eq_of_lt (by omega)
    rw [BitVec.toNat_xor, o x hx, o y hy, IntKind.wrap_i64]
    omega
  rw [e]
  omega

/-- What a draw of a number below k leaves: the number, the reader one place on, nothing else touched. -/
def PickPost (g m : Nat) (k : Int) (w : World) (e : Ending) (w' : World) : Prop :=
  ∃ x : Int, e = .returned (.int .i64 x) ∧ 0 ≤ x ∧ (1 ≤ k → x < k) ∧ RdOk w' g (m + 1) ∧ w.grownBy w' (some g)

set_option maxHeartbeats 800000 in
theorem pick_c (g m : Nat) (k : Int) (w : World) (h : RdOk w g m) (hm : m ≤ 1000000) : Calls Try.prog 46 #[.pointer (some ⟨g, 0, none⟩), .int .i64 k] w (PickPost g m k w) := by
  obtain ⟨A, n, c, xs, p, hp, h6⟩ := h
  have hnx := rd_next h6
  obtain ⟨h1, h2, h3, h4, h5⟩ := h6
  have c0 := rd_cell0 h1
  have c1 := rd_cell1 h1
  have f1 := rd_frozen h1 1
  clear h1
  by_cases hk : k < 1
  · go_enter Try.func46, Try.ntmps46
    go_wp2
    go_ret
    exact ⟨0, rfl, by omega, fun _ => by omega, ⟨A, n, c, xs, p + 1, by omega, hnx⟩, only_set _⟩
  · by_cases hn : n = 0
    · subst hn
      go_enter Try.func46, Try.ntmps46
      go_wp2
      go_ret
      exact ⟨0, rfl, by omega, fun _ => by omega, ⟨A, 0, c, xs, p + 1, by omega, hnx⟩, only_set _⟩
    · obtain ⟨b, o, rfl, _, hb, hc⟩ := h2.at_ (by omega)
      have hl := h2.len
      have hn0 : ((n : Int) == 0) = false := by simp; omega
      by_cases hpn : p < n
      · have hcell : (w.setCell ⟨g, 1, none⟩ (.int .i64 ((p : Int) + 1))).cell? ⟨b, o + p, none⟩ = some (.int .u8 (xs.getD p 0)) := by
          rw [World.cell?_setCell_other _ _ _ _ (by intro e; injection e with e; omega)]; exact hc p hpn
        have hx := h3 _ (getD_mem' (i := p) (by omega))
        obtain ⟨v, hv⟩ : ∃ v, v = xs.getD p 0 := ⟨_, rfl⟩
        rw [← hv] at hcell hx
        obtain ⟨hx0, hx1⟩ := hx
        clear hc h2 h3 hl hv
        go_enter Try.func46, Try.ntmps46
        go_wp2
        go_ret
        exact ⟨_, rfl, Int.emod_nonneg _ (by omega), fun _ => Int.emod_lt_of_pos _ (by omega), ⟨_, n, c, xs, p + 1, by omega, hnx⟩, only_set _⟩
      · have hi1 : p % n < n := Nat.mod_lt _ (by omega)
        have hi2 : (p * 7 + 3) % n < n := Nat.mod_lt _ (by omega)
        have hcell1 : (w.setCell ⟨g, 1, none⟩ (.int .i64 ((p : Int) + 1))).cell? ⟨b, o + p % n, none⟩ = some (.int .u8 (xs.getD (p % n) 0)) := by
          rw [World.cell?_setCell_other _ _ _ _ (by intro e; injection e with e; omega)]; exact hc _ hi1
        have hcell2 : (w.setCell ⟨g, 1, none⟩ (.int .i64 ((p : Int) + 1))).cell? ⟨b, o + (p * 7 + 3) % n, none⟩ = some (.int .u8 (xs.getD ((p * 7 + 3) % n) 0)) := by
          rw [World.cell?_setCell_other _ _ _ _ (by intro e; injection e with e; omega)]; exact hc _ hi2
        have hx := h3 _ (getD_mem' (i := p % n) (by omega))
        have hy := h3 _ (getD_mem' (i := (p * 7 + 3) % n) (by omega))
        obtain ⟨v1, hv1⟩ : ∃ v, v = xs.getD (p % n) 0 := ⟨_, rfl⟩
        obtain ⟨v2, hv2⟩ : ∃ v, v = xs.getD ((p * 7 + 3) % n) 0 := ⟨_, rfl⟩
        rw [← hv1] at hcell1 hx
        rw [← hv2] at hcell2 hy
        obtain ⟨hx0, hx1⟩ := hx
        obtain ⟨hy0, hy1⟩ := hy
        obtain ⟨i1, hi1e⟩ : ∃ i, i = p % n := ⟨_, rfl⟩
        obtain ⟨i2, hi2e⟩ : ∃ i, i = (p * 7 + 3) % n := ⟨_, rfl⟩
        obtain ⟨q, hqe⟩ : ∃ q, q = p / n := ⟨_, rfl⟩
        have hq : q ≤ p := by rw [hqe]; exact Nat.div_le_self _ _
        rw [← hi1e] at hi1 hcell1
        rw [← hi2e] at hi2 hcell2
        have e1 : (p : Int).tmod (n : Int) = (i1 : Int) := by rw [hi1e, ← Int.ofNat_tmod]
        have e2 : ((p : Int) * 7 + 3).tmod (n : Int) = (i2 : Int) := by rw [hi2e, show ((p : Int) * 7 + 3) = ((p * 7 + 3 : Nat) : Int) from by omega, ← Int.ofNat_tmod]
        have e3 : (p : Int).tdiv (n : Int) = (q : Int) := by rw [hqe, Int.ofNat_tdiv]
        have w1 : IntKind.i64.wrap ((p : Int) * 7) = (p : Int) * 7 := IntWalk.i64_in _ (by omega)
        have w2 : IntKind.i64.wrap ((p : Int) * 7 + 3) = (p : Int) * 7 + 3 := IntWalk.i64_in _ (by omega)
        have w3 : IntKind.i64.wrap v1 = v1 := IntWalk.i64_in _ (by omega)
        have w4 : IntKind.i64.wrap v2 = v2 := IntWalk.i64_in _ (by omega)
        have w5 : IntKind.i64.wrap (v1 * 131) = v1 * 131 := IntWalk.i64_in _ (by omega)
        have w6 : IntKind.i64.wrap (v2 * 1117) = v2 * 1117 := IntWalk.i64_in _ (by omega)
        have w7 : IntKind.i64.wrap (v1 * 131 + v2 * 1117) = v1 * 131 + v2 * 1117 := IntWalk.i64_in _ (by omega)
        have w8 : IntKind.i64.wrap ((p : Int) * 29) = (p : Int) * 29 := IntWalk.i64_in _ (by omega)
        have w9 : IntKind.i64.wrap (v1 * 131 + v2 * 1117 + (p : Int) * 29) = v1 * 131 + v2 * 1117 + (p : Int) * 29 := IntWalk.i64_in _ (by omega)
        have w10 : IntKind.i64.wrap (q : Int) = (q : Int) := IntWalk.i64_in _ (by omega)
        have w11 : IntKind.i64.wrap ((q : Int) * 53) = (q : Int) * 53 := IntWalk.i64_in _ (by omega)
        have w12 : IntKind.i64.wrap (v1 * 131 + v2 * 1117 + (p : Int) * 29 + (q : Int) * 53) = v1 * 131 + v2 * 1117 + (p : Int) * 29 + (q : Int) * 53 := IntWalk.i64_in _ (by omega)
        clear hc h2 h3 hl hv1 hv2 hi1e hi2e hqe
        go_enter Try.func46, Try.ntmps46
        go_wp2
        go_quiet (fail)
        clear e1 e2 e3 w1 w2 w3 w4 w5 w6 w7 w8 w9 w10 w11 w12 hcell1 hcell2 c0 c1 f1
        have hxor := (xor_bd (a := v1 * 131 + v2 * 1117 + (p : Int) * 29 + (q : Int) * 53) (b := (v1 * 131 + v2 * 1117 + (p : Int) * 29 + (q : Int) * 53) / 64) (by omega) (by omega)).1
        go_wp2
        go_ret
        exact ⟨_, rfl, Int.emod_nonneg _ (by omega), fun _ => Int.emod_lt_of_pos _ (by omega), ⟨_, n, c, xs, p + 1, by omega, hnx⟩, only_drewN (only_set _) _⟩
end Go.Proofs.Ytbkecimhbibnjaa
