/-
  Words and contracts, joined: Scal, Draw, DrawA, List.
  No condition.
-/
import Derived.Test.YtoocjalhcliebaaRows
import Derived.Test.YtoocjalhcliebaaBaseA
import Derived.WalkKit
import Derived.Handy
import Derived.WalkLawsBesides
import Derived.WalkSpells
import Derived.Deep.QuietTactic
import Derived.BigQuiet
import Derived.Laws.BitsAllLaws
import Derived.Laws.BitsLemmas
import Derived.LoopTactic
import Derived.Lib.Hide
import Derived.StillTailTactics
namespace Go.Proofs.Ytoocjalhcliebaa
section
open Go Go.RowKit

theorem mul_bd {a b : Int} (ha : elB a = true) (hb : elB b = true) : 1 ≤ a * b ∧ a * b ≤ 992016 := by
  have h1 := elB_iff.1 ha
  have h2 := elB_iff.1 hb
  have := Int.mul_le_mul h1.2 h2.2 (by omega) (by omega)
  have := Int.mul_le_mul h1.1 h2.1 (by omega) (by omega)
  omega

theorem ret_b {a b : Bool} (h : a = b) : Ending.returned (.bool a) = .returned (.bool b) := by rw [h]
theorem ret_i {a b : Int} (h : a = b) : Ending.returned (.int .i64 a) = .returned (.int .i64 b) := by rw [h]

theorem within_c (n lo hi : Int) (w : World) : Calls Try.prog 31 #[.int .i64 n, .int .i64 lo, .int .i64 hi] w fun e w' => e = .returned (.bool (decide (lo ≤ n) && decide (n ≤ hi))) ∧ w = w' := by
  by_cases h1 : lo ≤ n
  · by_cases h2 : n ≤ hi
    · go_enter Try.func31, Try.ntmps31
      go_wp2
      go_ret
      exact ⟨ret_b (by simp <;> omega), rfl⟩
    · go_enter Try.func31, Try.ntmps31
      go_wp2
      go_ret
      exact ⟨ret_b (by simp <;> omega), rfl⟩
  · go_enter Try.func31, Try.ntmps31
    go_wp2
    go_ret
    exact ⟨ret_b (by simp <;> omega), rfl⟩
theorem isElement_c (n : Int) (w : World) : Calls Try.prog 16 #[.int .i64 n] w fun e w' => e = .returned (.bool (elB n)) ∧ w = w' := by
  go_enter Try.func16, Try.ntmps16
  go_wp2_with (go_at_call 31; refine (within_c _ _ _ _).mono ?_; rintro e w' ⟨rfl, rfl⟩)
  go_ret
  exact ⟨rfl, rfl⟩
theorem l6In_c (n lo hi : Int) (w : World) : Calls Try.prog 34 #[.int .i64 n, .int .i64 lo, .int .i64 hi] w fun e w' => e = .returned (.bool (decide (lo ≤ n) && decide (n ≤ hi))) ∧ w = w' := by
  by_cases h1 : lo ≤ n
  · by_cases h2 : n ≤ hi
    · go_enter Try.func34, Try.ntmps34
      go_wp2
      go_ret
      exact ⟨ret_b (by simp <;> omega), rfl⟩
    · go_enter Try.func34, Try.ntmps34
      go_wp2
      go_ret
      exact ⟨ret_b (by simp <;> omega), rfl⟩
  · go_enter Try.func34, Try.ntmps34
    go_wp2
    go_ret
    exact ⟨ret_b (by simp <;> omega), rfl⟩
theorem l1Is_c (n : Int) (w : World) : Calls Try.prog 18 #[.int .i64 n] w fun e w' => e = .returned (.bool (elB n)) ∧ w = w' := by
  go_enter Try.func18, Try.ntmps18
  go_wp2_with (go_at_call 34; refine (l6In_c _ _ _ _).mono ?_; rintro e w' ⟨rfl, rfl⟩)
  go_ret
  exact ⟨rfl, rfl⟩
theorem l1Times_c (a b : Int) (w : World) (ha : elB a = true) (hb : elB b = true) : Calls Try.prog 41 #[.int .i64 a, .int .i64 b] w fun e w' => e = .returned (.int .i64 (mulP a b)) ∧ w = w' := by
  have hm := mul_bd ha hb
  go_enter Try.func41, Try.ntmps41
  go_wp2
  go_ret
  exact ⟨ret_i (mulP_eq ha hb).symm, rfl⟩
theorem l1Factor_c (a : Int) (w : World) (ha : elB a = true) : Calls Try.prog 54 #[.int .i64 a] w fun e w' => e = .returned (.int .i64 (facP a)) ∧ w = w' := by
  obtain ⟨hb1, hb2⟩ := elB_iff.1 ha
  go_enter Try.func54, Try.ntmps54
  go_wp2
  go_ret
  exact ⟨ret_i (facP_eq ha).symm, rfl⟩
theorem el_five : elB 5 = true := by decide
theorem sPublic_c (a : Int) (w : World) : Calls Try.prog 43 #[.int .i64 a] w fun e w' => e = .returned (.int .i64 (mulP a 5)) ∧ w = w' := by
  cases ha : elB a with
  | false =>
    go_enter Try.func43, Try.ntmps43
    go_wp2_with (go_at_call 18; refine (l1Is_c _ _).mono ?_; rintro e w' ⟨rfl, rfl⟩)
    go_ret
    exact ⟨by simp [mulP, ha], rfl⟩
  | true =>
    have h5 := el_five
    go_enter Try.func43, Try.ntmps43
    go_wp2_with (first | (go_at_call 18; refine (l1Is_c _ _).mono ?_; rintro e w' ⟨rfl, rfl⟩) | (go_at_call 41; refine (l1Times_c _ _ _ (by assumption) (by assumption)).mono ?_; rintro e w' ⟨rfl, rfl⟩))
    go_ret
    exact ⟨rfl, rfl⟩
end
section
open Go Go.RowKit

theorem getD_mem' {xs : List Int} {i : Nat} (h : i < xs.length) : xs.getD i 0 ∈ xs := by
  rw [List.getD_eq_getElem?_getD, List.getElem?_eq_getElem h]; exact List.getElem_mem h

/-- Block g is a reader whose place is p: its bytes lie below it. -/
def Rd6 (w : World) (g : Nat) (A : Option Addr) (n c : Nat) (xs : List Int) (p : Nat) : Prop :=
  w.heap[g]? = some (.cells #[.slice A n c, .int .i64 (p : Int)] 51 (0, 0)) ∧ SlR .u8 w 0 g A n xs ∧ (∀ x ∈ xs, 0 ≤ x ∧ x ≤ 255) ∧ n ≤ 2000 ∧ n ≤ c
/-- Block g is a reader whose place is at most m. -/
def RdOk (w : World) (g m : Nat) : Prop := ∃ A n c xs p, p ≤ m ∧ Rd6 w g A n c xs p

theorem rd_cell0 {w : World} {g : Nat} {t : TypeId} {x y : Value} (h : w.heap[g]? = some (.cells #[x, y] t (0, 0))) : w.cell? ⟨g, 0, none⟩ = some x := cell_of_row w g 0 _ t (0, 0) h
theorem rd_cell1 {w : World} {g : Nat} {t : TypeId} {x y : Value} (h : w.heap[g]? = some (.cells #[x, y] t (0, 0))) : w.cell? ⟨g, 1, none⟩ = some y := cell_of_row w g 1 _ t (0, 0) h
theorem rd_frozen {w : World} {g : Nat} {t : TypeId} {cs : Array Value} (h : w.heap[g]? = some (.cells cs t (0, 0))) (i : Nat) : w.frozen? ⟨g, i, none⟩ = false := by simp [World.frozen?, h]
theorem rd_lt {w : World} {g : Nat} {o : Obj} (h : w.heap[g]? = some o) : g < w.heap.size := by
  rcases Nat.lt_or_ge g w.heap.size with hlt | hge
  · exact hlt
  · rw [Array.getElem?_eq_none hge] at h; cases h
theorem RdOk.lt {w : World} {g m : Nat} (h : RdOk w g m) : g < w.heap.size := by
  obtain ⟨A, n, c, xs, p, hp, h1, _⟩ := h
  exact rd_lt h1
theorem RdOk.mono {w : World} {g m m' : Nat} (h : RdOk w g m) (hm : m ≤ m') : RdOk w g m' := by
  obtain ⟨A, n, c, xs, p, hp, h1⟩ := h
  exact ⟨A, n, c, xs, p, by omega, h1⟩
theorem RdOk.keep {w w' : World} {g m : Nat} (h : RdOk w g m) (hs : w.heap.size ≤ w'.heap.size) (hk : ∀ b, b ≤ g → w'.heap[b]? = w.heap[b]?) : RdOk w' g m := by
  obtain ⟨A, n, c, xs, p, hp, h1, h2, h3⟩ := h
  have := rd_lt h1
  exact ⟨A, n, c, xs, p, hp, (hk g (Nat.le_refl _)).trans h1, h2.keep (by omega) (fun b _ hb => hk b (by omega)), h3⟩
theorem RdOk.below {w w' : World} {g m B : Nat} (h : RdOk w g m) (hb : Below B w w') (hB : g < B) : RdOk w' g m := h.keep hb.size fun b hg => hb.block b (by omega)
theorem RdOk.grown {w w' : World} {g m : Nat} {row : Option Nat} (h : RdOk w g m) (hg : w.grownBy w' row) (hr : ∀ k, row = some k → g < k) : RdOk w' g m :=
  h.keep hg.size fun b hb => hg.block b (by have := h.lt; omega) (fun e => by have := hr b e.symm; omega)

theorem only_set {w : World} {g : Nat} {i : Nat} (u : Value) : w.grownBy (w.setCell ⟨g, i, none⟩ u) (some g) :=
  ⟨rfl, rfl, rfl, by simp [World.setCell], fun k hk hne => Below.heap_setCell w _ u k (fun e => hne (by rw [e]))⟩
theorem only_drewN {a w : World} {row : Option Nat} (h : a.grownBy w row) (n : Nat) : a.grownBy (w.drewN n) row := ⟨h.os, h.tape, h.output, h.size, h.block⟩
theorem only_trans {a b c : World} {row : Option Nat} (h : a.grownBy b row) (k : b.grownBy c row) : a.grownBy c row :=
  ⟨k.os.trans h.os, k.tape.trans h.tape, k.output.trans h.output, Nat.le_trans h.size k.size, fun i hi hne => (k.block i (Nat.lt_of_lt_of_le hi h.size) hne).trans (h.block i hi hne)⟩
theorem only_below {a b c : World} {row : Option Nat} (h : a.grownBy b row) (k : Below b.heap.size b c) : a.grownBy c row :=
  only_trans h ⟨k.os, k.tape, k.output, k.size, fun i hi _ => k.block i hi⟩
theorem below_only {B : Nat} {a b c : World} {row : Option Nat} (h : Below B a b) (k : b.grownBy c row) (hB : B ≤ b.heap.size) (hr : ∀ g, row = some g → B ≤ g) : Below B a c := h.grown k hB hr

theorem rd_next {w : World} {g : Nat} {A : Option Addr} {n c : Nat} {xs : List Int} {p : Nat} (h : Rd6 w g A n c xs p) : Rd6 (w.setCell ⟨g, 1, none⟩ (.int .i64 ((p + 1 : Nat) : Int))) g A n c xs (p + 1) := by
  obtain ⟨h1, h2, h3⟩ := h
  refine ⟨?_, h2.setCell (.inr (Nat.le_refl _)) _, h3⟩
  simp [World.setCell, Array.getElem?_modify, h1]

theorem xor_bd {a b : Int} (ha : 0 ≤ a ∧ a < 4294967296) (hb : 0 ≤ b ∧ b < 4294967296) : 0 ≤ bits .xor .i64 a b ∧ bits .xor .i64 a b < 4294967296 := by
  obtain ⟨x, rfl⟩ := Int.eq_ofNat_of_zero_le ha.1
  obtain ⟨y, rfl⟩ := Int.eq_ofNat_of_zero_le hb.1
  have hx : x < 2 ^ 32 := by omega
  have hy : y < 2 ^ 32 := by omega
  have hxy : x ^^^ y < 2 ^ 32 := Nat.xor_lt_two_pow hx hy
  have e : bits .xor .i64 (x : Int) (y : Int) = ((x ^^^ y : Nat) : Int) := by
    show IntKind.i64.wrap ((BitVec.ofInt 64 (x : Int) ^^^ BitVec.ofInt 64 (y : Int)).toNat : Int) = _
    have o : ∀ z : Nat, z < 2 ^ 32 → (BitVec.ofInt 64 (z : Int)).toNat = z := fun z hz => by
      rw [BitVec.ofInt_natCast, BitVec.toNat_ofNat]; exact Nat.mod_eq_of_lt (by omega)
    rw [BitVec.toNat_xor, o x hx, o y hy, IntKind.wrap_i64]
    omega
  rw [e]
  omega

/-- What a draw of a number below k leaves: the number, the reader one place on, nothing else touched. -/
def PickPost (g m : Nat) (k : Int) (w : World) (e : Ending) (w' : World) : Prop :=
  ∃ x : Int, e = .returned (.int .i64 x) ∧ 0 ≤ x ∧ (1 ≤ k → x < k) ∧ RdOk w' g (m + 1) ∧ w.grownBy w' (some g)

set_option maxHeartbeats 800000 in
theorem pick_c (g m : Nat) (k : Int) (w : World) (h : RdOk w g m) (hm : m ≤ 1000000) : Calls Try.prog 14 #[.pointer (some ⟨g, 0, none⟩), .int .i64 k] w (PickPost g m k w) := by
  obtain ⟨A, n, c, xs, p, hp, h6⟩ := h
  have hnx := rd_next h6
  obtain ⟨h1, h2, h3, h4, h5⟩ := h6
  have c0 := rd_cell0 h1
  have c1 := rd_cell1 h1
  have f1 := rd_frozen h1 1
  clear h1
  by_cases hk : k < 1
  · go_enter Try.func14, Try.ntmps14
    go_wp2
    go_ret
    exact ⟨0, rfl, by omega, fun _ => by omega, ⟨A, n, c, xs, p + 1, by omega, hnx⟩, only_set _⟩
  · by_cases hn : n = 0
    · subst hn
      go_enter Try.func14, Try.ntmps14
      go_wp2
      go_ret
      exact ⟨0, rfl, by omega, fun _ => by omega, ⟨A, 0, c, xs, p + 1, by omega, hnx⟩, only_set _⟩
    · obtain ⟨b, o, rfl, _, hb, hc⟩ := h2.at_ (by omega)
      have hl := h2.len
      have hn0 : ((n : Int) == 0) = false := by simp; omega
      by_cases hpn : p < n
      · have hcell : (w.setCell ⟨g, 1, none⟩ (.int .i64 ((p : Int) + 1))).cell? ⟨b, o + p, none⟩ = some (.int .u8 (xs.getD p 0)) := by
          rw [World.cell?_setCell_other _ _ _ _ (by intro e; injection e with e; omega)]; exact hc p hpn
        have hx := h3 _ (getD_mem' (i := p) (by omega))
        obtain ⟨v, hv⟩ : ∃ v, v = xs.getD p 0 := ⟨_, rfl⟩
        rw [← hv] at hcell hx
        obtain ⟨hx0, hx1⟩ := hx
        clear hc h2 h3 hl hv
        go_enter Try.func14, Try.ntmps14
        go_wp2
        go_ret
        exact ⟨_, rfl, Int.emod_nonneg _ (by omega), fun _ => Int.emod_lt_of_pos _ (by omega), ⟨_, n, c, xs, p + 1, by omega, hnx⟩, only_set _⟩
      · have hi1 : p % n < n := Nat.mod_lt _ (by omega)
        have hi2 : (p * 7 + 3) % n < n := Nat.mod_lt _ (by omega)
        have hcell1 : (w.setCell ⟨g, 1, none⟩ (.int .i64 ((p : Int) + 1))).cell? ⟨b, o + p % n, none⟩ = some (.int .u8 (xs.getD (p % n) 0)) := by
          rw [World.cell?_setCell_other _ _ _ _ (by intro e; injection e with e; omega)]; exact hc _ hi1
        have hcell2 : (w.setCell ⟨g, 1, none⟩ (.int .i64 ((p : Int) + 1))).cell? ⟨b, o + (p * 7 + 3) % n, none⟩ = some (.int .u8 (xs.getD ((p * 7 + 3) % n) 0)) := by
          rw [World.cell?_setCell_other _ _ _ _ (by intro e; injection e with e; omega)]; exact hc _ hi2
        have hx := h3 _ (getD_mem' (i := p % n) (by omega))
        have hy := h3 _ (getD_mem' (i := (p * 7 + 3) % n) (by omega))
        obtain ⟨v1, hv1⟩ : ∃ v, v = xs.getD (p % n) 0 := ⟨_, rfl⟩
        obtain ⟨v2, hv2⟩ : ∃ v, v = xs.getD ((p * 7 + 3) % n) 0 := ⟨_, rfl⟩
        rw [← hv1] at hcell1 hx
        rw [← hv2] at hcell2 hy
        obtain ⟨hx0, hx1⟩ := hx
        obtain ⟨hy0, hy1⟩ := hy
        obtain ⟨i1, hi1e⟩ : ∃ i, i = p % n := ⟨_, rfl⟩
        obtain ⟨i2, hi2e⟩ : ∃ i, i = (p * 7 + 3) % n := ⟨_, rfl⟩
        obtain ⟨q, hqe⟩ : ∃ q, q = p / n := ⟨_, rfl⟩
        have hq : q ≤ p := by rw [hqe]; exact Nat.div_le_self _ _
        rw [← hi1e] at hi1 hcell1
        rw [← hi2e] at hi2 hcell2
        have e1 : (p : Int).tmod (n : Int) = (i1 : Int) := by rw [hi1e, ← Int.ofNat_tmod]
        have e2 : ((p : Int) * 7 + 3).tmod (n : Int) = (i2 : Int) := by rw [hi2e, show ((p : Int) * 7 + 3) = ((p * 7 + 3 : Nat) : Int) from by omega, ← Int.ofNat_tmod]
        have e3 : (p : Int).tdiv (n : Int) = (q : Int) := by rw [hqe, Int.ofNat_tdiv]
        have w1 : IntKind.i64.wrap ((p : Int) * 7) = (p : Int) * 7 := IntWalk.i64_in _ (by omega)
        have w2 : IntKind.i64.wrap ((p : Int) * 7 + 3) = (p : Int) * 7 + 3 := IntWalk.i64_in _ (by omega)
        have w3 : IntKind.i64.wrap v1 = v1 := IntWalk.i64_in _ (by omega)
        have w4 : IntKind.i64.wrap v2 = v2 := IntWalk.i64_in _ (by omega)
        have w5 : IntKind.i64.wrap (v1 * 131) = v1 * 131 := IntWalk.i64_in _ (by omega)
        have w6 : IntKind.i64.wrap (v2 * 1117) = v2 * 1117 := IntWalk.i64_in _ (by omega)
        have w7 : IntKind.i64.wrap (v1 * 131 + v2 * 1117) = v1 * 131 + v2 * 1117 := IntWalk.i64_in _ (by omega)
        have w8 : IntKind.i64.wrap ((p : Int) * 29) = (p : Int) * 29 := IntWalk.i64_in _ (by omega)
        have w9 : IntKind.i64.wrap (v1 * 131 + v2 * 1117 + (p : Int) * 29) = v1 * 131 + v2 * 1117 + (p : Int) * 29 := IntWalk.i64_in _ (by omega)
        have w10 : IntKind.i64.wrap (q : Int) = (q : Int) := IntWalk.i64_in _ (by omega)
        have w11 : IntKind.i64.wrap ((q : Int) * 53) = (q : Int) * 53 := IntWalk.i64_in _ (by omega)
        have w12 : IntKind.i64.wrap (v1 * 131 + v2 * 1117 + (p : Int) * 29 + (q : Int) * 53) = v1 * 131 + v2 * 1117 + (p : Int) * 29 + (q : Int) * 53 := IntWalk.i64_in _ (by omega)
        clear hc h2 h3 hl hv1 hv2 hi1e hi2e hqe
        go_enter Try.func14, Try.ntmps14
        go_wp2
        go_quiet (fail)
        clear e1 e2 e3 w1 w2 w3 w4 w5 w6 w7 w8 w9 w10 w11 w12 hcell1 hcell2 c0 c1 f1
        have hxor := (xor_bd (a := v1 * 131 + v2 * 1117 + (p : Int) * 29 + (q : Int) * 53) (b := (v1 * 131 + v2 * 1117 + (p : Int) * 29 + (q : Int) * 53) / 64) (by omega) (by omega)).1
        go_wp2
        go_ret
        exact ⟨_, rfl, Int.emod_nonneg _ (by omega), fun _ => Int.emod_lt_of_pos _ (by omega), ⟨_, n, c, xs, p + 1, by omega, hnx⟩, only_drewN (only_set _) _⟩
end
section
open Go Go.RowKit

/-- What a draw of some number leaves. -/
def IntPost (g m : Nat) (w : World) (e : Ending) (w' : World) : Prop := ∃ x : Int, e = .returned (.int .i64 x) ∧ RdOk w' g m ∧ w.grownBy w' (some g)

theorem four_cases {x : Int} (h0 : 0 ≤ x) (h : x < 4) : x = 0 ∨ x = 1 ∨ x = 2 ∨ x = 3 := by omega

theorem l91Is_c (g m : Nat) (w : World) (h : RdOk w g m) (hm : m ≤ 900000) : Calls Try.prog 15 #[.pointer (some ⟨g, 0, none⟩)] w (IntPost g (m + 3) w) := by
  go_enter Try.func15, Try.ntmps15
  go_wp2_with fail
  refine (pick_c g m _ _ h (by omega)).mono ?_
  rintro e w1 ⟨x, rfl, hx0, hx1, hr1, hg1⟩
  by_cases hx : x = 0
  · subst hx
    go_wp2_with fail
    have hr2 : RdOk (w1.alloc (.cells #[.int .i64 0, .int .i64 996, .int .i64 997, .int .i64 (-1)] 3)) g (m + 1) := hr1.below ((Below.refl w1.heap.size w1).alloc (Nat.le_refl _) _) hr1.lt
    refine (pick_c g (m + 1) _ _ hr2 (by omega)).mono ?_
    rintro e w2 ⟨y, rfl, hy0, hy1, hr3, hg3⟩
    have hlt := hr1.lt
    have hblk : w2.heap[w1.heap.size]? = some (.cells #[.int .i64 0, .int .i64 996, .int .i64 997, .int .i64 (-1)] 3 (0, 0)) :=
      (hg3.block _ (by simp) (by intro e; injection e with e; omega)).trans (heap_alloc_new w1 _)
    have k0 := cell_of_row w2 w1.heap.size 0 _ _ _ hblk
    have k1 := cell_of_row w2 w1.heap.size 1 _ _ _ hblk
    have k2 := cell_of_row w2 w1.heap.size 2 _ _ _ hblk
    have k3 := cell_of_row w2 w1.heap.size 3 _ _ _ hblk
    have hgr : w.grownBy w2 (some g) := only_trans (only_below hg1 ((Below.refl w1.heap.size w1).alloc (Nat.le_refl _) _)) hg3
    clear hblk hg3 hg1 h hr1 hr2
    rcases four_cases hy0 (hy1 (by omega)) with rfl | rfl | rfl | rfl
    all_goals
      go_wp2
      go_ret
      exact ⟨_, rfl, hr3.mono (by omega), hgr⟩
  · have hxf : (x == 0) = false := by simpa using hx
    go_wp2_with fail
    refine (pick_c g (m + 1) _ _ hr1 (by omega)).mono ?_
    rintro e w2 ⟨y, rfl, hy0, hy1, hr2, hg2⟩
    go_wp2_with fail
    refine (pick_c g (m + 1 + 1) _ _ hr2 (by omega)).mono ?_
    rintro e w3 ⟨z, rfl, hz0, hz1, hr3, hg3⟩
    go_wp2
    go_ret
    exact ⟨_, rfl, hr3, only_trans (only_trans hg1 hg2) hg3⟩

/-- What l6Open leaves: a new reader at place 0; nothing old is touched. -/
def OpenPost (w : World) (e : Ending) (w' : World) : Prop := e = .returned (.pointer (some ⟨w.heap.size, 0, none⟩)) ∧ RdOk w' w.heap.size 0 ∧ Below w.heap.size w w'

theorem l6Open_c (A : Option Addr) (n c : Nat) (xs : List Int) (w : World) (h : SlR .u8 w 0 w.heap.size A n xs) (hb : ∀ x ∈ xs, 0 ≤ x ∧ x ≤ 255) (hc : n ≤ c) (hc2 : c ≤ 9223372036854775807) :
    Calls Try.prog 12 #[.slice A n c] w (OpenPost w) := by
  have hgo : ∀ n' xs' c', SlR .u8 w 0 w.heap.size A n' xs' → (∀ x ∈ xs', 0 ≤ x ∧ x ≤ 255) → n' ≤ 2000 → n' ≤ c' → RdOk (w.alloc (.cells #[.slice A n' c', .int .i64 0] 51)) w.heap.size 0 := fun n' xs' c' hs hx hn hcc =>
    ⟨A, n', c', xs', 0, Nat.le_refl _, heap_alloc_new w _, hs.alloc _, hx, hn, hcc⟩
  have hgo1 := fun hn => hgo n xs c h hb hn hc
  have hgo2 := fun (hn : 2000 ≤ n) => hgo 2000 (xs.take 2000) c (h.take_ hn) (fun x hx => hb x (List.mem_of_mem_take hx)) (Nat.le_refl _) (by omega)
  clear hgo h hb
  by_cases hn : 2000 < n
  · go_enter Try.func12, Try.ntmps12
    go_wp2
    go_ret
    exact ⟨rfl, hgo2 (by omega), (Below.refl _ _).alloc (Nat.le_refl _) _⟩
  · go_enter Try.func12, Try.ntmps12
    go_wp2
    go_ret
    exact ⟨rfl, hgo1 (by omega), (Below.refl _ _).alloc (Nat.le_refl _) _⟩
end
section
open Go Go.RowKit

theorem isNumber_c (n : Int) (w : World) : Calls Try.prog 50 #[.int .i64 n] w fun e w' => e = .returned (.bool (numB n)) ∧ w = w' := by
  go_enter Try.func50, Try.ntmps50
  go_wp2_with (go_at_call 31; refine (within_c _ _ _ _).mono ?_; rintro e w' ⟨rfl, rfl⟩)
  go_ret
  exact ⟨rfl, rfl⟩

/-- The first k numbers are in range. -/
def NumTo (xs : List Int) (k : Nat) : Prop := ∀ j, j < k → numB (xs.getD j 0) = true
theorem NumTo.zero (xs : List Int) : NumTo xs 0 := fun j hj => by omega
theorem NumTo.next {xs : List Int} {k : Nat} {v : Int} (h : NumTo xs k) (hv : v = xs.getD k 0) (hn : numB v = true) : NumTo xs (k + 1) := fun j hj => by
  by_cases e : j = k
  · subst e; rw [← hv]; exact hn
  · exact h j (by omega)
theorem NumTo.all {xs : List Int} (h : NumTo xs xs.length) : xs.all numB = true := by
  rw [List.all_eq_true]
  intro x hx
  obtain ⟨j, hj, rfl⟩ := List.mem_iff_getElem.1 hx
  have := h j hj
  simpa [List.getD_eq_getElem?_getD, hj] using this
theorem NumTo.list {xs : List Int} (h : NumTo xs xs.length) (hl : xs.length ≤ 24) : listB xs = true := by
  rw [listB, h.all]; simp; omega
theorem listB_no {xs : List Int} {k : Nat} {v : Int} (hk : k < xs.length) (hv : v = xs.getD k 0) (hn : numB v = false) : listB xs = false := by
  cases h : listB xs with
  | false => rfl
  | true =>
    have := listB_at h hk
    rw [← hv] at this
    rw [numB_iff.2 this] at hn
    cases hn
theorem listB_long {xs : List Int} (h : 24 < xs.length) : listB xs = false := by
  cases g : listB xs with
  | false => rfl
  | true => have := (listB_iff.1 g).1; omega

theorem isList_c (A : Option Addr) (n c lo hi : Nat) (xs : List Int) (w : World) (h : SlR .i64 w lo hi A n xs) : Calls Try.prog 62 #[.slice A n c] w fun e w' => e = .returned (.bool (listB xs)) ∧ w = w' := by
  have hl := h.len
  by_cases hn : 24 < n
  · have hf := listB_long (xs := xs) (by omega)
    clear hl h
    go_enter Try.func62, Try.ntmps62
    go_wp2
    go_ret
    exact ⟨ret_b hf.symm, rfl⟩
  · have HL := Lib.hid hl
    clear hl
    go_enter Try.func62, Try.ntmps62
    go_wp2
    go_loop [10] (fun i => ∃ k : Nat, k ≤ n ∧ i = .int .i64 k ∧ NumTo xs k) (fun i => n - (intOf i).toNat)
    case atStart => exact ⟨0, Nat.zero_le _, rfl, NumTo.zero _⟩
    case round =>
      obtain ⟨k, hk, rfl, hp⟩ := hrel
      by_cases hlt : k < n
      · obtain ⟨b, o, rfl, _, _, hc⟩ := h.at_ (by omega)
        have hcell := hc k hlt
        obtain ⟨v, hv⟩ : ∃ v, v = xs.getD k 0 := ⟨_, rfl⟩
        rw [← hv] at hcell
        have HV := Lib.hid hv
        clear hc hv h
        cases hnum : numB v with
        | false =>
          go_wp2_with (go_at_call 50; refine (isNumber_c _ _).mono ?_; rintro e w' ⟨rfl, rfl⟩)
          go_ret
          exact ⟨ret_b (listB_no (by rw [HL.out]; exact hlt) HV.out hnum).symm, rfl⟩
        | true =>
          go_wp2_with (go_at_call 50; refine (isNumber_c _ _).mono ?_; rintro e w' ⟨rfl, rfl⟩)
          go_round
          case rel => exact ⟨k + 1, by omega, by go_num, hp.next HV.out hnum⟩
          case measure => simp [intOf]; omega
      · have hkn : k = n := by omega
        have hp' : NumTo xs xs.length := by rw [HL.out, ← hkn]; exact hp
        have hf := hp'.list (by rw [HL.out]; omega)
        have HF := Lib.hid hf
        clear hkn hp' hf h
        go_wp2
        go_ret
        exact ⟨ret_b HF.out.symm, rfl⟩
theorem listOf_c (A : Option Addr) (n c lo hi : Nat) (xs : List Int) (m : Int) (w : World) (h : SlR .i64 w lo hi A n xs) : Calls Try.prog 49 #[.slice A n c, .int .i64 m] w fun e w' => e = .returned (.bool (decide ((n : Int) = m) && listB xs)) ∧ w = w' := by
  by_cases hm : (n : Int) = m
  · have hb : ((n : Int) == m) = true := by simpa using hm
    have HM := Lib.hid hm
    clear hm
    go_enter Try.func49, Try.ntmps49
    go_wp2_with (go_at_call 62; refine (isList_c _ _ _ _ _ _ _ h).mono ?_; rintro e w' ⟨rfl, rfl⟩)
    go_ret
    exact ⟨ret_b (by simp [HM.out]), rfl⟩
  · have hb : ((n : Int) == m) = false := by simpa using hm
    have HM := Lib.hid hm
    clear hm
    go_enter Try.func49, Try.ntmps49
    go_wp2
    go_ret
    exact ⟨ret_b (by simp [HM.out]), rfl⟩

theorem l2List_c (A : Option Addr) (n c lo hi : Nat) (xs : List Int) (w : World) (h : SlR .i64 w lo hi A n xs) (hn : n ≤ 4611686018427387904) : Calls Try.prog 51 #[.slice A n c] w fun e w' => e = .returned (.bool (listB xs)) ∧ w = w' := by
  have hl := h.len
  have HL := Lib.hid hl
  clear hl
  go_enter Try.func51, Try.ntmps51
  go_wp2
  go_loop [3] (fun i => ∃ k : Nat, k ≤ n ∧ i = .int .i64 k ∧ NumTo xs k) (fun i => n - (intOf i).toNat)
  case atStart => exact ⟨0, Nat.zero_le _, rfl, NumTo.zero _⟩
  case round =>
    obtain ⟨k, hk, rfl, hp⟩ := hrel
    by_cases hlt : k < n
    · obtain ⟨b, o, rfl, _, _, hc⟩ := h.at_ (by omega)
      have hcell := hc k hlt
      obtain ⟨v, hv⟩ : ∃ v, v = xs.getD k 0 := ⟨_, rfl⟩
      rw [← hv] at hcell
      have HV := Lib.hid hv
      clear hc hv h
      cases hnum : numB v with
      | false =>
        have hnum2 : (decide (0 ≤ v) && decide (v ≤ 990)) = false := hnum
        go_wp2_with (go_at_call 34; refine (l6In_c _ _ _ _).mono ?_; rintro e w' ⟨rfl, rfl⟩; rw [hnum2])
        go_ret
        exact ⟨ret_b (listB_no (by rw [HL.out]; exact hlt) HV.out hnum).symm, rfl⟩
      | true =>
        have hnum2 : (decide (0 ≤ v) && decide (v ≤ 990)) = true := hnum
        go_wp2_with (go_at_call 34; refine (l6In_c _ _ _ _).mono ?_; rintro e w' ⟨rfl, rfl⟩; rw [hnum2])
        go_round
        case rel => exact ⟨k + 1, by omega, by go_num, hp.next HV.out hnum⟩
        case measure => simp [intOf]; omega
    · have hkn : k = n := by omega
      have hp' : NumTo xs xs.length := by rw [HL.out, ← hkn]; exact hp
      have HP := Lib.hid hp'
      clear hkn hp' h hp
      by_cases h24 : n ≤ 24
      · have hf := HP.out.list (by rw [HL.out]; exact h24)
        have HF := Lib.hid hf
        clear hf
        go_wp2
        go_ret
        exact ⟨ret_b (by rw [HF.out]; simp; omega), rfl⟩
      · have hf := listB_long (xs := xs) (by rw [HL.out]; omega)
        have HF := Lib.hid hf
        clear hf
        go_wp2
        go_ret
        exact ⟨ret_b (by rw [HF.out]; simp; omega), rfl⟩

theorem strm_arith {k : Int} {i : Nat} (hk : 0 ≤ k ∧ k ≤ 996) (hi : i ≤ 100) : 0 ≤ k * ((i : Int) + 2) ∧ k * ((i : Int) + 2) ≤ 101592 ∧ 0 ≤ 11 * (i : Int) * (i : Int) ∧ 11 * (i : Int) * (i : Int) ≤ 110000 := by
  have h1 := Int.mul_le_mul hk.2 (show (i : Int) + 2 ≤ 102 by omega) (by omega) (by omega)
  have h2 := Int.mul_nonneg hk.1 (show 0 ≤ (i : Int) + 2 by omega)
  have h3 := Int.mul_le_mul (show 11 * (i : Int) ≤ 1100 by omega) (show (i : Int) ≤ 100 by omega) (by omega) (by omega)
  have h4 := Int.mul_nonneg (show 0 ≤ 11 * (i : Int) by omega) (show 0 ≤ (i : Int) by omega)
  omega
theorem l2At_c (k : Int) (i : Nat) (w : World) (hk : 0 ≤ k ∧ k ≤ 996) (hi : i ≤ 100) : Calls Try.prog 63 #[.int .i64 k, .int .i64 i] w fun e w' => e = .returned (.int .i64 (strm k i)) ∧ w = w' := by
  obtain ⟨h1, h2, h3, h4⟩ := strm_arith hk hi
  obtain ⟨h5, h6⟩ := hk
  go_enter Try.func63, Try.ntmps63
  go_wp2
  go_ret
  exact ⟨ret_i rfl, rfl⟩
end
end Go.Proofs.Ytoocjalhcliebaa
