/-
  Marks on lists of peeled packets and on mixes.
  Conditions: the lists are the call's own.
-/
import Derived.Test.YtbkecimhbibnjaaMixW
import Derived.IntWalk
import Derived.Test.YtbkecimhbibnjaaBox
namespace Go.Proofs.Ytbkecimhbibnjaa
open Go Go.RowKit

set_option maxHeartbeats 800000 in
theorem markIntS_w (a : Int) (A : Option Addr) (n c lo hi : Nat) (xs : List Int) (w : World) (hs : OwnR 3 w lo hi A n c xs) (hn : n ≤ 4194304) (ha : 0 ≤ a ∧ a ≤ 10000000000000) :
    Calls Try.prog 75 #[.slice A n c, .int .i64 a] w (MarkPost a lo hi A n c w) := by
  have HL := Lib.hid hs.len
  obtain ⟨ha1, ha2⟩ := ha
  go_enter Try.func75, Try.ntmps75
  go_wp2_with fail
  go_loopw [1, 5] (fun m i wr => ∃ k : Nat, k ≤ n ∧ i = .int .i64 k ∧ m = .int .i64 (a + (k : Int)) ∧ OwnR 3 wr lo hi A n c (MarkTo a xs k) ∧ w.grownBy wr (Value.ownBlock (.slice A n c))) (fun _ i _ => n - (intOf i).toNat)
  case atStart => exact ⟨0, Nat.zero_le _, rfl, by simp, by simpa [MarkTo, marks] using hs, World.grownBy.refl _ _⟩
  case round =>
    obtain ⟨k, hk, rfl, rfl, hown, hgr⟩ := hrel
    by_cases hlt : k < n
    · obtain ⟨g, rfl, hg1, hg2, hc, hf⟩ := hown.at_ (by omega)
      have hcell := hc k hlt
      have hfro := hf k
      have hst := hown.stored k (a + (k : Int))
      have he : (MarkTo a xs k).set k (a + (k : Int)) = MarkTo a xs (k + 1) := set_marks (by rw [HL.out]; exact hlt) a
      rw [he] at hst
      obtain ⟨hst1, hst2⟩ := hst
      have hgr' := grow_trans hgr hst2
      have HS := Lib.hid hst1
      have HG := Lib.hid hgr'
      clear hc hf hown hgr hst1 hst2 hgr' he hs
      go_wp2
      go_roundw
      case rel => exact ⟨k + 1, by omega, by go_num, by go_num, HS.out, HG.out⟩
      case measure => simp [intOf]; omega
    · have hkn : k = n := by omega
      have he : MarkTo a xs k = marks a n := by rw [MarkTo, hkn, List.drop_of_length_le (by rw [HL.out]; exact Nat.le_refl _), List.append_nil]
      rw [he] at hown
      have HK := Lib.hid hkn
      have HO := Lib.hid hown
      have HG := Lib.hid hgr
      clear he hkn hs hown hgr
      go_wp2
      go_ret
      exact ⟨ret_i (by rw [HK.out]), HO.out, HG.out⟩
set_option maxHeartbeats 800000 in
theorem heldIntS_w (a : Int) (A : Option Addr) (n c lo hi : Nat) (w : World) (hs : SlR .i64 w lo hi A n (marks a n)) (hn : n ≤ 4194304) (ha : 0 ≤ a ∧ a ≤ 10000000000000) :
    Calls Try.prog 77 #[.slice A n c, .int .i64 a] w fun e w' => e = .returned (.int .i64 (a + (n : Int))) ∧ w = w' := by
  obtain ⟨ha1, ha2⟩ := ha
  go_enter Try.func77, Try.ntmps77
  go_wp2_with fail
  go_loop [1, 5] (fun m i => ∃ k : Nat, k ≤ n ∧ i = .int .i64 k ∧ m = .int .i64 (a + (k : Int))) (fun _ i => n - (intOf i).toNat)
  case atStart => exact ⟨0, Nat.zero_le _, rfl, by simp⟩
  case round =>
    obtain ⟨k, hk, rfl, rfl⟩ := hrel
    by_cases hlt : k < n
    · obtain ⟨b, o, rfl, _, _, hc⟩ := hs.at_ (by omega)
      have hcell := hc k hlt
      rw [marks_at a hlt] at hcell
      clear hc hs
      go_wp2
      go_round
      case rel => exact ⟨k + 1, by omega, by go_num, by go_num⟩
      case measure => simp [intOf]; omega
    · have hkn : k = n := by omega
      have HK := Lib.hid hkn
      clear hkn hs
      go_wp2
      go_ret
      exact ⟨ret_i (by rw [HK.out]), rfl⟩
/-- The number behind the marks of a list of peeled packets. -/
def endPl (a : Int) (pl : List Peel) : Int := pl.foldl (fun a x => a + 4 + (x.p.h.length : Int) + (x.p.b.length : Int)) a
def mkPeel (a : Int) (x : Peel) : Peel := ⟨a, a + 1, ⟨a + 2, marks (a + 3) x.p.h.length, a + 3 + (x.p.h.length : Int), marks (a + 4 + (x.p.h.length : Int)) x.p.b.length⟩⟩
def markAt (a : Int) (pl : List Peel) (k j : Nat) : Peel := if j < k then mkPeel (endPl a (pl.take j)) (pl.getD j zeroPeel) else pl.getD j zeroPeel
/-- The first k peeled packets marked. -/
def markL (a : Int) (pl : List Peel) (k : Nat) : List Peel := (List.range pl.length).map (markAt a pl k)
theorem markL_len (a : Int) (pl : List Peel) (k : Nat) : (markL a pl k).length = pl.length := by simp [markL]
theorem markL_at {a : Int} {pl : List Peel} {k j : Nat} (h : j < pl.length) : (markL a pl k).getD j zeroPeel = markAt a pl k j := by simp [markL, List.getD_eq_getElem?_getD, h]
theorem markL_zero (a : Int) (pl : List Peel) : markL a pl 0 = pl := by
  apply List.ext_getElem (by simp [markL])
  intro i h1 h2
  simp [markL, markAt, List.getD_eq_getElem?_getD, h2]
theorem markL_step {a : Int} {pl : List Peel} {k j : Nat} (hj : j < pl.length) (hjk : j ≠ k) : (markL a pl (k + 1)).getD j zeroPeel = (markL a pl k).getD j zeroPeel := by
  rw [markL_at hj, markL_at hj]
  simp only [markAt]
  by_cases h : j < k
  · rw [if_pos h, if_pos (by omega)]
  · rw [if_neg h, if_neg (by omega)]
theorem endPl_next {a : Int} {pl : List Peel} {k : Nat} (h : k < pl.length) : endPl a (pl.take (k + 1)) = endPl a (pl.take k) + 4 + ((pl.getD k zeroPeel).p.h.length : Int) + ((pl.getD k zeroPeel).p.b.length : Int) := by
  have e : pl.getD k zeroPeel = pl[k] := by simp [List.getD_eq_getElem?_getD, h]
  rw [e, List.take_succ_eq_append_getElem h]
  simp only [endPl, List.foldl_append, List.foldl_cons, List.foldl_nil]
theorem endPl_bd {a : Int} {pl : List Peel} (hb : PlB 1048576 pl) : ∀ k, k ≤ pl.length → a ≤ endPl a (pl.take k) ∧ endPl a (pl.take k) ≤ a + (k : Int) * 2097156
  | 0, _ => by simp [endPl]
  | k + 1, h => by
    have h1 := endPl_bd (a := a) hb k (by omega)
    have h2 := hb.at_ (j := k) (by omega)
    rw [endPl_next (by omega)]
    omega
/-- All of an own list of peeled packets but the values of the k-th. -/
def RestK (w : World) (lo hi g n c k : Nat) (F : Nat → Peel) (vals : List Value) (a b : Nat → Nat) : Prop :=
  hi ≤ w.heap.size ∧ g < hi ∧ w.ownsRow lo 46 6 (.slice (some ⟨g, 0, none⟩) n c) n vals ∧ (∀ i j, i < j → j < n → b i ≤ a j) ∧
    ∀ j, j < n → lo ≤ a j ∧ b j ≤ hi ∧ (g < a j ∨ b j ≤ g) ∧ (j ≠ k → ∃ A m d A2 m2 d2, ElAt vals (j * 6) (F j) A m d A2 m2 d2 ∧ TwoO w (a j) (b j) (F j).p.h (F j).p.b A m d A2 m2 d2)
theorem RestK.set {w : World} {lo hi g n c k : Nat} {F : Nat → Peel} {vals : List Value} {a b : Nat → Nat} (h : RestK w lo hi g n c k F vals a b) (o : Nat) (ho : k * 6 ≤ o ∧ o < k * 6 + 6) (u : Value) : RestK (w.setCell ⟨g, o, none⟩ u) lo hi g n c k F (vals.set o u) a b := by
  obtain ⟨h1, h2, hown, hab, hel⟩ := h
  refine ⟨by simpa [World.setCell] using h1, h2, (hown.stored o u).1, hab, fun j hj => ?_⟩
  obtain ⟨q1, q2, q3, q4⟩ := hel j hj
  refine ⟨q1, q2, q3, fun hjk => ?_⟩
  obtain ⟨A, m, d, A2, m2, d2, ⟨f0, f1, f2, f3, f4, f5⟩, t⟩ := q4 hjk
  have ne : ∀ i, i < 6 → (vals.set o u)[j * 6 + i]? = vals[j * 6 + i]? := fun i hi => List.getElem?_set_ne (by omega)
  exact ⟨A, m, d, A2, m2, d2, ⟨(ne 0 (by omega)).trans f0, (ne 1 (by omega)).trans f1, (ne 2 (by omega)).trans f2, (ne 3 (by omega)).trans f3, (ne 4 (by omega)).trans f4, (ne 5 (by omega)).trans f5⟩, t.only (set1_only w g o u) (by omega)⟩
theorem RestK.grown {w w' : World} {lo hi g n c k : Nat} {F : Nat → Peel} {vals : List Value} {a b : Nat → Nat} {row : Option Nat} (h : RestK w lo hi g n c k F vals a b) (hk : k < n) (hg : w.grownBy w' row) (hr : ∀ x, row = some x → a k ≤ x ∧ x < b k) : RestK w' lo hi g n c k F vals a b := by
  obtain ⟨h1, h2, hown, hab, hel⟩ := h
  have hkk := hel k hk
  refine ⟨Nat.le_trans h1 hg.size, h2, hown.kept hg (.inr fun e => ?_), hab, fun j hj => ?_⟩
  · have := hr g (by rw [← e]; rfl); omega
  obtain ⟨q1, q2, q3, q4⟩ := hel j hj
  refine ⟨q1, q2, q3, fun hjk => ?_⟩
  obtain ⟨A, m, d, A2, m2, d2, E, t⟩ := q4 hjk
  refine ⟨A, m, d, A2, m2, d2, E, t.grown hg (fun x e => ?_)⟩
  have := hr x e
  rcases Nat.lt_or_gt_of_ne hjk with h | h
  · have := hab j k h hk; omega
  · have := hab k j h hj; omega
theorem PoolO.opened {w : World} {lo hi n c k : Nat} {A : Option Addr} {pl : List Peel} (h : PoolO w lo hi A n c pl) (hk : k < n) : ∃ g vals a b A1 m d A2 m2 d2, A = some ⟨g, 0, none⟩ ∧ RestK w lo hi g n c k (fun j => pl.getD j zeroPeel) vals a b ∧ ElAt vals (k * 6) (pl.getD k zeroPeel) A1 m d A2 m2 d2 ∧ TwoO w (a k) (b k) (pl.getD k zeroPeel).p.h (pl.getD k zeroPeel).p.b A1 m d A2 m2 d2 := by
  obtain ⟨hl, h1, h2, vals, a, b, hown, hab, hel⟩ := h
  rcases hown.2 with ⟨_, h0⟩ | ⟨g, cap, cur, e, rest⟩
  · omega
  · injection e with e1 e2 e3
    subst e1 e3
    obtain ⟨q1, q2, q3, A1, m, d, A2, m2, d2, E, t⟩ := hel k hk
    refine ⟨g, vals, a, b, A1, m, d, A2, m2, d2, rfl, ⟨h1, h2 g rfl, hown, hab, fun j hj => ?_⟩, E, t⟩
    obtain ⟨r1, r2, r3, r4⟩ := hel j hj
    exact ⟨r1, r2, r3 g rfl, fun _ => r4⟩
theorem RestK.close {w : World} {lo hi g n c k : Nat} {F : Nat → Peel} {vals : List Value} {a b : Nat → Nat} {x : Peel} {A : Option Addr} {m d : Nat} {A2 : Option Addr} {m2 d2 : Nat} {pl : List Peel} (h : RestK w lo hi g n c k F vals a b) (hE : ElAt vals (k * 6) x A m d A2 m2 d2) (t : TwoO w (a k) (b k) x.p.h x.p.b A m d A2 m2 d2)
    (hpl : pl.length = n) (hk : pl.getD k zeroPeel = x) (hj : ∀ j, j < n → j ≠ k → pl.getD j zeroPeel = F j) : PoolO w lo hi (some ⟨g, 0, none⟩) n c pl := by
  obtain ⟨h1, h2, hown, hab, hel⟩ := h
  refine ⟨hpl, h1, fun x e => by have e2 : g = x := Option.some.inj e; omega, vals, a, b, hown, hab, fun j hjn => ?_⟩
  obtain ⟨r1, r2, r3, r4⟩ := hel j hjn
  refine ⟨r1, r2, fun x e => by have e2 : g = x := Option.some.inj e; omega, ?_⟩
  by_cases hjk : j = k
  · subst hjk; rw [hk]; exact ⟨A, m, d, A2, m2, d2, hE, t⟩
  · rw [hj j hjn hjk]; exact r4 hjk
theorem RestK.cell {w : World} {lo hi g n c k : Nat} {F : Nat → Peel} {vals : List Value} {a b : Nat → Nat} (h : RestK w lo hi g n c k F vals a b) (hk : k < n) (i : Nat) (hi : i < 6) : w.cell? ⟨g, k * 6 + i, none⟩ = vals[k * 6 + i]? := h.2.2.1.cellAt (k * 6 + i) (by omega)
theorem RestK.frozen {w : World} {lo hi g n c k : Nat} {F : Nat → Peel} {vals : List Value} {a b : Nat → Nat} (h : RestK w lo hi g n c k F vals a b) (i : Nat) : w.frozen? ⟨g, i, none⟩ = false := h.2.2.1.frozenAt i
/-- What marking a list of peeled packets leaves. -/
def MarkPl (a : Int) (lo hi : Nat) (A : Option Addr) (n c : Nat) (pl : List Peel) (w : World) (e : Ending) (w' : World) : Prop :=
  e = .returned (.int .i64 (endPl a pl)) ∧ PoolO w' lo hi A n c (markL a pl n) ∧ Only lo hi w w'
set_option maxRecDepth 100000 in
set_option maxHeartbeats 6400000 in
theorem markPeeledS_c (a : Int) (A : Option Addr) (n c lo hi : Nat) (pl : List Peel) (w : World) (hs : PoolO w lo hi A n c pl) (hn : n ≤ 1048576) (hpl : PlB 1048576 pl) (ha : 0 ≤ a ∧ a ≤ 2000000) : Calls Try.prog 76 #[.slice A n c, .int .i64 a] w (MarkPl a lo hi A n c pl w) := by
  have HL := Lib.hid hs.len
  have HPL := Lib.hid hpl
  obtain ⟨ha1, ha2⟩ := ha
  have hs0 : PoolO w lo hi A n c (markL a pl 0) := by rw [markL_zero]; exact hs
  clear hs hpl
  go_enter Try.func76, Try.ntmps76
  go_wp2_with fail
  go_loopw [1, 5] (fun v i wr => ∃ k : Nat, k ≤ n ∧ i = .int .i64 (k : Int) ∧ v = .int .i64 (endPl a (pl.take k)) ∧ PoolO wr lo hi A n c (markL a pl k) ∧ Only lo hi w wr) (fun _ i _ => n - (intOf i).toNat)
  case atStart => exact ⟨0, Nat.zero_le _, rfl, by simp [endPl], hs0, Only.refl _ _ _⟩
  case round =>
    obtain ⟨k, hk, rfl, rfl, hpo, hon⟩ := hrel
    by_cases hlt : k < n
    · obtain ⟨g, vals, al, bl, A1, n1, c1, A2, n2, c2, rfl, R0, E0, t0⟩ := hpo.opened hlt
      have hmk : (markL a pl k).getD k zeroPeel = pl.getD k zeroPeel := by rw [markL_at (by rw [HL.out]; exact hlt)]; simp [markAt]
      rw [hmk] at E0 t0
      have hbd := endPl_bd (a := a) HPL.out k (by rw [HL.out]; omega)
      have hnx := endPl_next (a := a) (pl := pl) (k := k) (by rw [HL.out]; exact hlt)
      have hxb := HPL.out.at_ (j := k) (by rw [HL.out]; exact hlt)
      obtain ⟨X, hX⟩ : ∃ X, X = pl.getD k zeroPeel := ⟨_, rfl⟩
      obtain ⟨s, hs⟩ : ∃ s, s = endPl a (pl.take k) := ⟨_, rfl⟩
      have hlx := t0.len
      rw [← hX] at E0 t0 hxb hlx
      rw [← hX, ← hs] at hnx
      rw [← hs] at hbd ⊢
      have HX := Lib.hid hX
      have HS := Lib.hid hs
      rw [hlx.1, hlx.2] at hnx
      have HNX := Lib.hid hnx
      have hc1 : n1 ≤ 1048576 ∧ n2 ≤ 1048576 := by omega
      obtain ⟨hc1, hc2⟩ := hc1
      have hs1 : 0 ≤ s := by omega
      have hs2 : s ≤ 2300000000000 := by omega
      have HLX := Lib.hid hlx
      obtain ⟨f0, f1, f2, f3, f4, f5⟩ := E0
      have q0 := (R0.cell hlt 0 (by omega)).trans f0
      have q1 := (R0.cell hlt 1 (by omega)).trans f1
      have q2 := (R0.cell hlt 2 (by omega)).trans f2
      have q3 := (R0.cell hlt 3 (by omega)).trans f3
      have qf := R0.frozen
      rw [Nat.add_zero] at q0
      have R3 := ((R0.set (k * 6) (by omega) (.int .i64 s)).set (k * 6 + 1) (by omega) (.int .i64 (s + 1))).set (k * 6 + 2) (by omega) (.int .i64 (s + 1 + 1))
      obtain ⟨_, hgh, _, hab0, hel0⟩ := id R0
      have hkk := hel0 k hlt
      have hg3 : g < al k ∨ bl k ≤ g := hkk.2.2.1
      have on3 : Only g (g + 1) wr (((wr.setCell ⟨g, k * 6, none⟩ (.int .i64 s)).setCell ⟨g, k * 6 + 1, none⟩ (.int .i64 (s + 1))).setCell ⟨g, k * 6 + 2, none⟩ (.int .i64 (s + 1 + 1))) := ((set1_only _ _ _ _).trans (set1_only _ _ _ _)).trans (set1_only _ _ _ _)
      have t3 := t0.only on3 (by omega)
      have ong : ∀ {u v : World}, Only g (g + 1) u v → Only lo hi u v := fun h => h.wider (by have := R0.2.2.1.lt g rfl; omega) (by omega)
      have hon3 := hon.trans (ong on3)
      have R3H := Lib.hid R3
      have T3 := Lib.hid t3
      have HON3 := Lib.hid hon3
      have HKK := Lib.hid (show lo ≤ al k ∧ bl k ≤ hi from ⟨hkk.1, hkk.2.1⟩)
      have HFV := Lib.hid (And.intro f3 (And.intro f4 f5))
      have HLV : vals.length = n * 6 := R0.2.2.1.1
      have hlv : k * 6 + 5 < vals.length := by omega
      have HAB := Lib.hid (fun j (hj : j < n) (hjk : j ≠ k) => markL_step (a := a) (pl := pl) (by rw [HL.out]; exact hj) hjk)
      clear hX hs hnx hlx hbd hxb R0 R3 t0 t3 on3 hon hon3 hab0 hel0 hkk hs0 f0 f1 f2 f3 f4 f5 hmk HLV hpo
      go_wp2_with fail
      refine (markIntS_w (s + 1 + 1 + 1) A1 n1 c1 (al k) (bl k) X.p.h _ T3.out.1 (by omega) (by omega)).mono ?_
      rintro e' w4 ⟨rfl, o1, g1⟩
      have hb1 : ∀ x, Value.ownBlock (.slice A1 n1 c1) = some x → al k ≤ x ∧ x < bl k := fun x hx => T3.out.1.block hx
      have R4 := R3H.out.grown hlt g1 hb1
      have o2 := T3.out.2.1.other g1 (fun x hx => T3.out.2.2 x hx)
      obtain ⟨f3, f4, f5⟩ := HFV.out
      have v4 : (((vals.set (k * 6) (.int .i64 s)).set (k * 6 + 1) (.int .i64 (s + 1))).set (k * 6 + 2) (.int .i64 (s + 1 + 1)))[k * 6 + 4]? = some (.int .i64 X.p.t) := by rw [List.getElem?_set_ne (by omega), List.getElem?_set_ne (by omega), List.getElem?_set_ne (by omega)]; exact f4
      have v5 : (((vals.set (k * 6) (.int .i64 s)).set (k * 6 + 1) (.int .i64 (s + 1))).set (k * 6 + 2) (.int .i64 (s + 1 + 1)))[k * 6 + 5]? = some (.slice A2 n2 c2) := by rw [List.getElem?_set_ne (by omega), List.getElem?_set_ne (by omega), List.getElem?_set_ne (by omega)]; exact f5
      have r4 := (R4.cell hlt 4 (by omega)).trans v4
      have r5 := (R4.cell hlt 5 (by omega)).trans v5
      have rf := R4.frozen
      have R5 := R4.set (k * 6 + 4) (by omega) (.int .i64 (s + 1 + 1 + 1 + (n1 : Int)))
      have o1b := o1.only (set1_only w4 g (k * 6 + 4) (.int .i64 (s + 1 + 1 + 1 + (n1 : Int)))) (by omega)
      have o2b := o2.only (set1_only w4 g (k * 6 + 4) (.int .i64 (s + 1 + 1 + 1 + (n1 : Int)))) (by omega)
      have hon5 := (HON3.out.trans ((Only.of_grown g1 hb1).wider HKK.out.1 HKK.out.2)).trans (ong (set1_only w4 g (k * 6 + 4) (.int .i64 (s + 1 + 1 + 1 + (n1 : Int)))))
      have R5H := Lib.hid R5
      have O1 := Lib.hid o1b
      have O2 := Lib.hid o2b
      have HON5 := Lib.hid hon5
      clear q0 q1 q2 q3 qf o1 g1 hb1 R4 o2 v4 v5 R5 o1b o2b hon5 f3 f4 f5
      go_wp2_with fail
      refine (markIntS_w (s + 1 + 1 + 1 + (n1 : Int) + 1) A2 n2 c2 (al k) (bl k) X.p.b _ O2.out (by omega) (by omega)).mono ?_
      rintro e' w6 ⟨rfl, o3, g2⟩
      have hb2 : ∀ x, Value.ownBlock (.slice A2 n2 c2) = some x → al k ≤ x ∧ x < bl k := fun x hx => O2.out.block hx
      have R6 := R5H.out.grown hlt g2 hb2
      have o4 := O1.out.other g2 (fun x hx e => T3.out.2.2 x e hx)
      have hon6 := HON5.out.trans ((Only.of_grown g2 hb2).wider HKK.out.1 HKK.out.2)
      have tw : TwoO w6 (al k) (bl k) (mkPeel s X).p.h (mkPeel s X).p.b A1 n1 c1 A2 n2 c2 := by
        simp only [mkPeel, HLX.out.1, HLX.out.2]
        have e1 : s + 4 + (n1 : Int) = s + 1 + 1 + 1 + (n1 : Int) + 1 := by omega
        have e2 : s + 3 = s + 1 + 1 + 1 := by omega
        rw [e1, e2]
        exact ⟨o4, o3, T3.out.2.2⟩
      have hE : ElAt ((((vals.set (k * 6) (.int .i64 s)).set (k * 6 + 1) (.int .i64 (s + 1))).set (k * 6 + 2) (.int .i64 (s + 1 + 1))).set (k * 6 + 4) (.int .i64 (s + 1 + 1 + 1 + (n1 : Int)))) (k * 6) (mkPeel s X) A1 n1 c1 A2 n2 c2 := by
        obtain ⟨f3, f4, f5⟩ := HFV.out
        refine ⟨?_, ?_, ?_, ?_, ?_, ?_⟩
        · rw [List.getElem?_set_ne (by omega), List.getElem?_set_ne (by omega), List.getElem?_set_ne (by omega), List.getElem?_set_self (by omega)]; rfl
        · rw [List.getElem?_set_ne (by omega), List.getElem?_set_ne (by omega), List.getElem?_set_self (by simp; omega)]; rfl
        · rw [List.getElem?_set_ne (by omega), List.getElem?_set_self (by simp; omega)]; simp only [mkPeel]; rw [show s + 2 = s + 1 + 1 by omega]
        · rw [List.getElem?_set_ne (by omega), List.getElem?_set_ne (by omega), List.getElem?_set_ne (by omega), List.getElem?_set_ne (by omega)]; exact f3
        · rw [List.getElem?_set_self (by simp; omega)]; simp only [mkPeel, HLX.out.1]; rw [show s + 3 = s + 1 + 1 + 1 by omega]
        · rw [List.getElem?_set_ne (by omega), List.getElem?_set_ne (by omega), List.getElem?_set_ne (by omega), List.getElem?_set_ne (by omega)]; exact f5
      have hkx : (markL a pl (k + 1)).getD k zeroPeel = mkPeel s X := by rw [markL_at (by rw [HL.out]; exact hlt), HX.out, HS.out]; simp [markAt]
      have hnew := R6.close hE tw (by rw [markL_len, HL.out]) hkx HAB.out
      have G := Lib.hid (And.intro hnew hon6)
      clear r4 r5 rf o3 g2 hb2 R6 o4 hon6 tw hE hkx hnew
      go_wp2_with fail
      go_roundw
      case rel => exact ⟨k + 1, by omega, by go_num, by rw [HNX.out]; go_num, G.out.1, G.out.2⟩
      case measure => simp [intOf]; omega
    · have hkn : k = n := by omega
      subst hkn
      have he : pl.take k = pl := List.take_of_length_le (by rw [HL.out]; exact Nat.le_refl _)
      rw [he]
      have HP := Lib.hid hpo
      clear hpo hs0 he
      go_wp2_with fail
      go_ret
      exact ⟨rfl, HP.out, hon⟩
/-- The cells of a marked peeled packet. -/
theorem PeelAt.marked {w : World} {lo hi b o : Nat} {s : Int} {X : Peel} (h : PeelAt w lo hi b o (mkPeel s X)) : ∃ A n c A2 n2 c2, (w.cell? ⟨b, o, none⟩ = some (.int .i64 s) ∧ w.cell? ⟨b, o + 1, none⟩ = some (.int .i64 (s + 1)) ∧ w.cell? ⟨b, o + 2, none⟩ = some (.int .i64 (s + 1 + 1)) ∧ w.cell? ⟨b, o + 3, none⟩ = some (.slice A n c) ∧ w.cell? ⟨b, o + 4, none⟩ = some (.int .i64 (s + 1 + 1 + 1 + (n : Int))) ∧ w.cell? ⟨b, o + 5, none⟩ = some (.slice A2 n2 c2)) ∧
    SlR .i64 w lo hi A n (marks (s + 1 + 1 + 1) n) ∧ SlR .i64 w lo hi A2 n2 (marks (s + 1 + 1 + 1 + (n : Int) + 1) n2) ∧ X.p.h.length = n ∧ X.p.b.length = n2 := by
  obtain ⟨A, n, c, A2, n2, c2, ⟨f0, f1, f2, f3, f4, f5⟩, t1, t2, _⟩ := h
  simp only [mkPeel] at f0 f1 f2 f4 t1 t2
  have l1 : X.p.h.length = n := by have := t1.1; rwa [marks_len] at this
  have l2 : X.p.b.length = n2 := by have := t2.1; rwa [marks_len] at this
  rw [l1] at f4 t1 t2
  rw [l2] at t2
  rw [show s + 2 = s + 1 + 1 by omega] at f2
  rw [show s + 3 = s + 1 + 1 + 1 by omega] at f4 t1
  rw [show s + 4 + (n : Int) = s + 1 + 1 + 1 + (n : Int) + 1 by omega] at t2
  exact ⟨A, n, c, A2, n2, c2, ⟨f0, f1, f2, f3, f4, f5⟩, t1, t2, l1, l2⟩
set_option maxRecDepth 100000 in
set_option maxHeartbeats 3200000 in
theorem heldPeeledS_c (a : Int) (A : Option Addr) (n c lo hi : Nat) (pl : List Peel) (w : World) (hs : PoolR w lo hi A n (markL a pl n)) (hl : pl.length = n) (hn : n ≤ 1048576) (hpl : PlB 1048576 pl) (ha : 0 ≤ a ∧ a ≤ 2000000) : Calls Try.prog 78 #[.slice A n c, .int .i64 a] w fun e w' => e = .returned (.int .i64 (endPl a pl)) ∧ w = w' := by
  have HL := Lib.hid hl
  have HPL := Lib.hid hpl
  obtain ⟨ha1, ha2⟩ := ha
  clear hpl hl
  go_enter Try.func78, Try.ntmps78
  go_wp2_with fail
  go_loop [1, 5] (fun v i => ∃ k : Nat, k ≤ n ∧ i = .int .i64 (k : Int) ∧ v = .int .i64 (endPl a (pl.take k))) (fun _ i => n - (intOf i).toNat)
  case atStart => exact ⟨0, Nat.zero_le _, rfl, by simp [endPl]⟩
  case round =>
    obtain ⟨k, hk, rfl, rfl⟩ := hrel
    by_cases hlt : k < n
    · obtain ⟨b, o, rfl, _, _, hc⟩ := hs.at_ (by omega)
      have hel := hc k hlt
      rw [markL_at (by rw [HL.out]; exact hlt)] at hel
      simp only [markAt, if_pos hlt] at hel
      have hbd := endPl_bd (a := a) HPL.out k (by rw [HL.out]; omega)
      have hnx := endPl_next (a := a) (pl := pl) (k := k) (by rw [HL.out]; exact hlt)
      have hxb := HPL.out.at_ (j := k) (by rw [HL.out]; exact hlt)
      obtain ⟨X, hX⟩ : ∃ X, X = pl.getD k zeroPeel := ⟨_, rfl⟩
      obtain ⟨s, hs'⟩ : ∃ s, s = endPl a (pl.take k) := ⟨_, rfl⟩
      rw [← hX] at hel hxb
      rw [← hX, ← hs'] at hnx
      rw [← hs'] at hbd hel ⊢
      obtain ⟨A1, n1, c1, A2, n2, c2, ⟨q0, q1, q2, q3, q4, q5⟩, t1, t2, l1, l2⟩ := hel.marked
      rw [l1, l2] at hnx
      have HNX := Lib.hid hnx
      have hc1 : n1 ≤ 1048576 ∧ n2 ≤ 1048576 := by omega
      obtain ⟨hc1, hc2⟩ := hc1
      have hs1 : 0 ≤ s := by omega
      have hs2 : s ≤ 2300000000000 := by omega
      have T1 := Lib.hid t1
      have T2 := Lib.hid t2
      clear hX hs' hnx l1 l2 hbd hxb hel hc hs t1 t2
      go_wp2_with fail
      refine (heldIntS_w (s + 1 + 1 + 1) A1 n1 c1 lo hi _ T1.out (by omega) (by omega)).mono ?_
      rintro e' w4 ⟨rfl, rfl⟩
      go_wp2_with fail
      refine (heldIntS_w (s + 1 + 1 + 1 + (n1 : Int) + 1) A2 n2 c2 lo hi _ T2.out (by omega) (by omega)).mono ?_
      rintro e' w6 ⟨rfl, rfl⟩
      go_wp2_with fail
      go_round
      case rel => exact ⟨k + 1, by omega, by go_num, by rw [HNX.out]; go_num⟩
      case measure => simp [intOf]; omega
    · have hkn : k = n := by omega
      subst hkn
      have he : pl.take k = pl := List.take_of_length_le (by rw [HL.out]; exact Nat.le_refl _)
      rw [he]
      clear hs he
      go_wp2_with fail
      go_ret
      exact ⟨rfl, rfl⟩
/-- What marking a mix leaves. -/
def MarkMx (a : Int) (lo hi : Nat) (A : Option Addr) (n c : Nat) (A2 : Option Addr) (n2 c2 : Nat) (pl : List Peel) (w : World) (e : Ending) (w' : World) : Prop :=
  e = .returned (.int .i64 (endPl (a + (n : Int)) pl)) ∧ MixO w' lo hi (marks a n) (markL (a + (n : Int)) pl n2) A n c A2 n2 c2 ∧ Only lo hi w w'
set_option maxRecDepth 100000 in
set_option maxHeartbeats 3200000 in
theorem markMix_c (a s : Int) (A : Option Addr) (n c : Nat) (A2 : Option Addr) (n2 c2 lo hi : Nat) (seen : List Int) (pl : List Peel) (w : World) (hs : MixO w lo hi seen pl A n c A2 n2 c2) (hn : n ≤ 1048576) (hn2 : n2 ≤ 1048576) (hpl : PlB 1048576 pl) (ha : 0 ≤ a ∧ a ≤ 100) : Calls Try.prog 37 #[.agg #[.int .i64 s, .slice A n c, .slice A2 n2 c2], .int .i64 a] w (MarkMx a lo hi A n c A2 n2 c2 pl w) := by
  obtain ⟨hh, x1, y1, x2, y2, o1, p1, hd, h1, h2, h3, h4⟩ := hs
  have bx := BoxAt.new w #[.int .i64 s, .slice A n c, .slice A2 n2 c2] 26
  have o1' := o1.alloc (.cells #[.int .i64 s, .slice A n c, .slice A2 n2 c2] 26)
  have P1 := Lib.hid (p1.alloc (.cells #[.int .i64 s, .slice A n c, .slice A2 n2 c2] 26))
  have hon : Only lo hi w (w.alloc (.cells #[.int .i64 s, .slice A n c, .slice A2 n2 c2] 26)) := Only.of_below ((Below.refl _ _).alloc (Nat.le_refl _) _)
  have HPL := Lib.hid hpl
  have hsz := alloc_size w (.cells #[.int .i64 s, .slice A n c, .slice A2 n2 c2] 26)
  have HD := Lib.hid hd
  clear o1 p1 hpl hd
  go_enter Try.func37, Try.ntmps37
  go_wp2_with fail
  refine (markIntS_w a A n c x1 y1 seen _ o1' (by omega) (by omega)).mono ?_
  rintro e w2 ⟨rfl, o2, g1⟩
  have on1 : Only x1 y1 _ w2 := Only.of_grown g1 (fun g hg => o1'.block hg)
  have b2 := bx.only on1 (by omega)
  have p2 := P1.out.only on1 (by have := HD.out; omega)
  have hon2 := hon.trans (on1.wider h1 h3)
  obtain ⟨q0, q1, q2⟩ := b2.three
  have O2 := Lib.hid o2
  have ON2 := Lib.hid hon2
  clear o1' g1 bx on1 hon o2 hon2
  go_wp2_with fail
  refine (markPeeledS_c (a + (n : Int)) A2 n2 c2 x2 y2 pl _ p2 (by omega) HPL.out (by omega)).mono ?_
  rintro e w3 ⟨rfl, p3, on2⟩
  have o3 := O2.out.only on2 (by have := HD.out; omega)
  have hon3 := ON2.out.trans (on2.wider h2 h4)
  have hz : hi ≤ w3.heap.size := Nat.le_trans hh hon3.size
  have F := Lib.hid (show MixO w3 lo hi (marks a n) (markL (a + (n : Int)) pl n2) A n c A2 n2 c2 ∧ Only lo hi w w3 from ⟨⟨hz, x1, y1, x2, y2, o3, p3, HD.out, h1, h2, h3, h4⟩, hon3⟩)
  clear p2 b2 q0 q1 q2 p3 on2 o3 hon3
  go_wp2_with fail
  go_ret
  exact ⟨rfl, F.out.1, F.out.2⟩
theorem endPl_le {a : Int} {pl : List Peel} (hb : PlB 1048576 pl) : a ≤ endPl a pl ∧ endPl a pl ≤ a + (pl.length : Int) * 2097156 := by
  have := endPl_bd (a := a) hb pl.length (Nat.le_refl _)
  rwa [List.take_length] at this
set_option maxRecDepth 100000 in
set_option maxHeartbeats 3200000 in
theorem heldMix_c (a s : Int) (A : Option Addr) (n c : Nat) (A2 : Option Addr) (n2 c2 lo hi : Nat) (pl : List Peel) (w : World) (hs : MixR w lo hi (marks a n) (markL (a + (n : Int)) pl n2) A n c A2 n2 c2) (hl : pl.length = n2) (hn : n ≤ 1048576) (hn2 : n2 ≤ 1048576) (hpl : PlB 1048576 pl) (ha : 0 ≤ a ∧ a ≤ 100) : Calls Try.prog 38 #[.agg #[.int .i64 s, .slice A n c, .slice A2 n2 c2], .int .i64 a] w fun e w' => e = .returned (.int .i64 (endPl (a + (n : Int)) pl)) ∧ Below w.heap.size w w' := by
  have hsa := hs.alloc (.cells #[.int .i64 s, .slice A n c, .slice A2 n2 c2] 26)
  have hB := (Below.refl w.heap.size w).alloc (Nat.le_refl _) (.cells #[.int .i64 s, .slice A n c, .slice A2 n2 c2] 26)
  have hend := endPl_le (a := a + (n : Int)) hpl
  rw [hl] at hend
  obtain ⟨E, hE⟩ : ∃ E, E = endPl (a + (n : Int)) pl := ⟨_, rfl⟩
  have HE := Lib.hid hE
  rw [← hE] at hend ⊢
  have hE0 : 0 ≤ E := by omega
  have hE1 : E ≤ 9000000000000 := by omega
  have HSA := Lib.hid hsa
  have HPL := Lib.hid hpl
  clear hs hsa hpl hend hE
  go_enter Try.func38, Try.ntmps38
  go_wp2_with fail
  refine (heldIntS_w a A n c lo hi _ HSA.out.1 (by omega) (by omega)).mono ?_
  rintro e w2 ⟨rfl, rfl⟩
  go_wp2_with fail
  refine (heldPeeledS_c (a + (n : Int)) A2 n2 c2 lo hi pl _ HSA.out.2.1 hl (by omega) HPL.out (by omega)).mono ?_
  rintro e w3 ⟨rfl, rfl⟩
  rw [← HE.out]
  go_wp2_with fail
  go_ret
  exact ⟨rfl, hB⟩
end Go.Proofs.Ytbkecimhbibnjaa
