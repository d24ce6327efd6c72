/-
  Peeled packets in order, and a mix flushed.
  Conditions: the lists read as lists.
-/
import Derived.Test.YtoocjalhcliebaaOwnW
import Derived.Test.YtoocjalhcliebaaOpenM
import Derived.Deep.CutRange
namespace Go.Proofs.Ytoocjalhcliebaa
open Go Go.RowKit

/-- A call that tells something and touches nothing old. -/
def TellsAny (w : World) (e : Ending) (w' : World) : Prop := ∃ b, e = .returned (.bool b) ∧ Below w.heap.size w w'
set_option maxRecDepth 100000 in
set_option maxHeartbeats 3200000 in
theorem l11Less_c (a0 a1 a2 a4 b0 b1 b2 b4 : Int) (A : Option Addr) (n c : Nat) (A2 : Option Addr) (n2 c2 : Nat) (B : Option Addr) (m d : Nat) (B2 : Option Addr) (m2 d2 : Nat) (w : World) : Calls Try.prog 61 #[.agg #[.int .i64 a0, .int .i64 a1, .int .i64 a2, .slice A n c, .int .i64 a4, .slice A2 n2 c2], .agg #[.int .i64 b0, .int .i64 b1, .int .i64 b2, .slice B m d, .int .i64 b4, .slice B2 m2 d2]] w (TellsAny w) := by
  have hB := ((Below.refl w.heap.size w).alloc (Nat.le_refl _) (.cells #[.int .i64 a0, .int .i64 a1, .int .i64 a2, .slice A n c, .int .i64 a4, .slice A2 n2 c2] 47)).alloc (by simp) (.cells #[.int .i64 b0, .int .i64 b1, .int .i64 b2, .slice B m d, .int .i64 b4, .slice B2 m2 d2] 47)
  have HB := Lib.hid hB
  clear hB
  by_cases h0 : a0 = b0
  · subst h0
    by_cases h1 : a1 = b1
    · subst h1
      by_cases h2 : a2 = b2
      · subst h2
        go_enter Try.func61, Try.ntmps61
        go_wp2_with fail
        go_ret
        exact ⟨_, rfl, HB.out⟩
      · have e2 : (a2 == b2) = false := by simpa using h2
        have e2' : (a2 != b2) = true := by simpa using h2
        go_enter Try.func61, Try.ntmps61
        go_wp2_with fail
        go_ret
        exact ⟨_, rfl, HB.out⟩
    · have e1 : (a1 == b1) = false := by simpa using h1
      have e1' : (a1 != b1) = true := by simpa using h1
      go_enter Try.func61, Try.ntmps61
      go_wp2_with fail
      go_ret
      exact ⟨_, rfl, HB.out⟩
  · have e0 : (a0 == b0) = false := by simpa using h0
    have e0' : (a0 != b0) = true := by simpa using h0
    go_enter Try.func61, Try.ntmps61
    go_wp2_with fail
    go_ret
    exact ⟨_, rfl, HB.out⟩
/-- The first i elements of a row of values are peeled packets whose lists lie in [lo, hi). -/
def Els (w : World) (lo hi : Nat) (vals : List Value) (i : Nat) : Prop :=
  (∀ u ∈ vals, u.oneCell' = true) ∧ ∀ j, j < i → ∃ x A m c A2 m2 c2, ElAt vals (j * 6) x A m c A2 m2 c2 ∧ TwoR w lo hi x.p.h x.p.b A m c A2 m2 c2 ∧ x.p.h.length ≤ 1000000 ∧ x.p.b.length ≤ 1000000
theorem Els.below {w w' : World} {lo hi i M : Nat} {vals : List Value} (h : Els w lo hi vals i) (hb : Below M w w') (hM : hi ≤ M) : Els w' lo hi vals i := by
  refine ⟨h.1, fun j hj => ?_⟩
  obtain ⟨x, A, m, c, A2, m2, c2, E, t, l⟩ := h.2 j hj
  exact ⟨x, A, m, c, A2, m2, c2, E, t.below hb hM, l⟩
theorem ElAt.left {vals ws : List Value} {o : Nat} {x : Peel} {A : Option Addr} {m c : Nat} {A2 : Option Addr} {m2 c2 : Nat} (h : ElAt vals o x A m c A2 m2 c2) : ElAt (vals ++ ws) o x A m c A2 m2 c2 := by
  obtain ⟨f0, f1, f2, f3, f4, f5⟩ := h
  have ap : ∀ i u, vals[i]? = some u → (vals ++ ws)[i]? = some u := fun i u h => by
    have hi : i < vals.length := (List.getElem?_eq_some_iff.1 h).1
    rw [List.getElem?_append_left hi]; exact h
  exact ⟨ap _ _ f0, ap _ _ f1, ap _ _ f2, ap _ _ f3, ap _ _ f4, ap _ _ f5⟩
theorem ElAt.right {vals ws : List Value} {o : Nat} {x : Peel} {A : Option Addr} {m c : Nat} {A2 : Option Addr} {m2 c2 : Nat} (h : ElAt ws o x A m c A2 m2 c2) : ElAt (vals ++ ws) (vals.length + o) x A m c A2 m2 c2 := by
  obtain ⟨f0, f1, f2, f3, f4, f5⟩ := h
  have ap : ∀ i u, ws[i]? = some u → (vals ++ ws)[vals.length + i]? = some u := fun i u h => by
    rw [List.getElem?_append_right (by omega), Nat.add_sub_cancel_left]; exact h
  exact ⟨ap _ _ f0, ap _ _ f1, ap _ _ f2, ap _ _ f3, ap _ _ f4, ap _ _ f5⟩
theorem ElAt.take {vals : List Value} {o q : Nat} {x : Peel} {A : Option Addr} {m c : Nat} {A2 : Option Addr} {m2 c2 : Nat} (h : ElAt vals o x A m c A2 m2 c2) (hq : o + 6 ≤ q) : ElAt (vals.take q) o x A m c A2 m2 c2 := by
  obtain ⟨f0, f1, f2, f3, f4, f5⟩ := h
  have ap : ∀ i u, i < q → vals[i]? = some u → (vals.take q)[i]? = some u := fun i u hi h => by rw [List.getElem?_take_of_lt hi]; exact h
  exact ⟨ap _ _ (by omega) f0, ap _ _ (by omega) f1, ap _ _ (by omega) f2, ap _ _ (by omega) f3, ap _ _ (by omega) f4, ap _ _ (by omega) f5⟩
theorem ElAt.drop {vals : List Value} {o q : Nat} {x : Peel} {A : Option Addr} {m c : Nat} {A2 : Option Addr} {m2 c2 : Nat} (h : ElAt vals (q + o) x A m c A2 m2 c2) : ElAt (vals.drop q) o x A m c A2 m2 c2 := by
  obtain ⟨f0, f1, f2, f3, f4, f5⟩ := h
  have ap : ∀ i u, vals[q + o + i]? = some u → (vals.drop q)[o + i]? = some u := fun i u h => by rw [List.getElem?_drop, ← Nat.add_assoc]; exact h
  exact ⟨ap 0 _ f0, ap _ _ f1, ap _ _ f2, ap _ _ f3, ap _ _ f4, ap _ _ f5⟩
/-- An element is put in at place k. -/
theorem Els.insert {w : World} {lo hi i k : Nat} {vals six : List Value} {X : Peel} {A : Option Addr} {m c : Nat} {A2 : Option Addr} {m2 c2 : Nat} (h : Els w lo hi vals i) (hl : vals.length = i * 6) (hk : k ≤ i) (h6 : six.length = 6) (h1 : ∀ u ∈ six, u.oneCell' = true) (hE : ElAt six 0 X A m c A2 m2 c2) (t : TwoR w lo hi X.p.h X.p.b A m c A2 m2 c2) (hb : X.p.h.length ≤ 1000000 ∧ X.p.b.length ≤ 1000000) :
    Els w lo hi (vals.take (k * 6) ++ six ++ vals.drop (k * 6)) (i + 1) := by
  refine ⟨fun u hu => ?_, fun j hj => ?_⟩
  · rcases List.mem_append.1 hu with hu | hu
    · rcases List.mem_append.1 hu with hu | hu
      · exact h.1 u (List.mem_of_mem_take hu)
      · exact h1 u hu
    · exact h.1 u (List.mem_of_mem_drop hu)
  · rcases Nat.lt_trichotomy j k with hjk | hjk | hjk
    · obtain ⟨x, A, m, c, A2, m2, c2, E, r⟩ := h.2 j (by omega)
      exact ⟨x, A, m, c, A2, m2, c2, ((E.take (by omega)).left).left, r⟩
    · subst hjk
      have e : (vals.take (j * 6)).length + 0 = j * 6 := by rw [List.length_take]; omega
      have := (hE.right (vals := vals.take (j * 6))).left (ws := vals.drop (j * 6))
      rw [e] at this
      exact ⟨X, A, m, c, A2, m2, c2, this, t, hb⟩
    · obtain ⟨x, A, m, c, A2, m2, c2, E, r⟩ := h.2 (j - 1) (by omega)
      have e1 : (j - 1) * 6 = k * 6 + (j - 1 - k) * 6 := by omega
      rw [e1] at E
      have := E.drop.right (vals := vals.take (k * 6) ++ six)
      have e2 : (vals.take (k * 6) ++ six).length + (j - 1 - k) * 6 = j * 6 := by rw [List.length_append, List.length_take, h6]; omega
      rw [e2] at this
      exact ⟨x, A, m, c, A2, m2, c2, this, r⟩
theorem step_append6 {P : Program} {w : World} {ops : Array Oper} {o : Oper} {a : Act} {K : Act → World → Prop} {Q : Exit → Act → World → Prop} {E : Prop} (hgd : o.guard = none) (s x : Operand) (t : TypeId)
    (ho : o.op = .call { callee := .builtin .append, args := #[s, x], argTypes := #[t, t] })
    (base : Nat) (e : TypeId) (i : TypeInfo) (z : Value) (ht : P.underlying t = some (.slice e)) (hi : P.info? e = some i) (hz : i.zero = some z) (hsize : i.size = 6) (hby : i.bytes = 80) (hzs : z.cells.size = 6)
    (v : Value) (n : Nat) (xs : List Value) (hs : a.eval s = v) (hown : w.ownsRow base e 6 v n xs)
    (ad : Addr) (m c : Nat) (news : List Value) (hx : a.eval x = .slice (some ad) m c) (hl : news.length = m * 6) (hnews : ∀ j u, news[j]? = some u → w.cell? (ad.add j) = some u) (h1 : ∀ u ∈ news, u.oneCell' = true) (hn : n + m ≤ 1000000000) (hbase : base ≤ w.heap.size)
    (h : ∀ v' w', w'.ownsRow base e 6 v' (n + m) (xs ++ news) → w.grownBy w' v.ownBlock → (v'.ownBlock = v.ownBlock ∨ v'.ownBlock = some w.heap.size) → K (a.put o.dst v') w') :
    if Region.wanted o (yielded ops a.tmps) = true then Oper.wp P o a w K Q else E := by
  have hw : Region.wanted o (yielded ops a.tmps) = true := by simp [Region.wanted, hgd]
  rw [if_pos hw]
  exact wp_append6 w s x t ho base e i z ht hi hz hsize hby hzs v n xs hs hown ad m c news hx hl hnews h1 hn hbase h
/-- A part of an own row, to be appended. -/
theorem row_part {W w : World} {base g k c : Nat} {vals : List Value} (hown : W.ownsRow base 47 6 (.slice (some ⟨g, 0, none⟩) k c) k vals) (hb : Below W.heap.size W w) (hg : g < W.heap.size) (o : Nat) (part : List Value) (hp : ∀ j u, part[j]? = some u → vals[o + j]? = some u) :
    ∀ j u, part[j]? = some u → w.cell? ((⟨g, o, none⟩ : Addr).add j) = some u := fun j u h => by
  rw [add_off]
  have h1 := hp j u h
  have h2 : o + j < k * 6 := by rw [← hown.1]; exact (List.getElem?_eq_some_iff.1 h1).1
  exact (hb.cell (p := ⟨g, _, none⟩) hg).trans ((hown.cellAt (o + j) h2).trans h1)
/-- A call that returns some slice and touches nothing old. -/
def SomeSlice (w : World) (e : Ending) (w' : World) : Prop := ∃ A n c, e = .returned (.slice A n c) ∧ Below w.heap.size w w'
/-- What lies in the slice so far. -/
def SortTo (w : World) (lo hi k : Nat) (v : Value) (wr : World) : Prop :=
  ∃ g c vals, v = .slice (some ⟨g, 0, none⟩) k c ∧ k ≤ c ∧ wr.ownsRow w.heap.size 47 6 (.slice (some ⟨g, 0, none⟩) k c) k vals ∧ Els wr lo hi vals k ∧ Below w.heap.size w wr
/-- An element was put in at place q. -/
theorem sort_put {w w4 w7 : World} {lo hi k q : Nat} {vals six : List Value} {v7 : Value} {X : Peel} {A : Option Addr} {m c : Nat} {A2 : Option Addr} {m2 c2 : Nat}
    (hown : w7.ownsRow w4.heap.size 47 6 v7 (q + 1 + (k - q)) (vals.take (q * 6) ++ six ++ vals.drop (q * 6))) (hel : Els w4 lo hi vals k) (hl : vals.length = k * 6) (hq : q ≤ k) (h6 : six.length = 6) (h1 : ∀ u ∈ six, u.oneCell' = true) (hE : ElAt six 0 X A m c A2 m2 c2) (t : TwoR w4 lo hi X.p.h X.p.b A m c A2 m2 c2) (hbd : X.p.h.length ≤ 1000000 ∧ X.p.b.length ≤ 1000000)
    (hb : Below w.heap.size w w4) (hb7 : Below w4.heap.size w4 w7) (hhi : hi ≤ w.heap.size) : SortTo w lo hi (k + 1) v7 w7 := by
  have e : q + 1 + (k - q) = k + 1 := by omega
  rw [e] at hown
  have hz := hb.size
  have h := (hel.insert hl hq h6 h1 hE t hbd).below hb7 (by omega)
  rcases hown.2 with ⟨_, h0⟩ | ⟨g, cap, cur, rfl, hg, _, hc, _⟩
  · omega
  · exact ⟨g, cap, _, rfl, hc, owns_base hown hz, h, hb.trans (hb7.mono hz)⟩
/-- A row of such elements reads as a list. -/
theorem Els.pool {w : World} {lo hi k B g c : Nat} {vals : List Value} (h : Els w lo hi vals k) (hown : w.ownsRow B 47 6 (.slice (some ⟨g, 0, none⟩) k c) k vals) (hhi : hi ≤ w.heap.size) : ∃ pl, PoolR w 0 w.heap.size (some ⟨g, 0, none⟩) k pl ∧ PlB 1000000 pl := by
  obtain ⟨pl, hl, hp⟩ := list_of_all (P := fun j x => ∃ A m c A2 m2 c2, ElAt vals (j * 6) x A m c A2 m2 c2 ∧ TwoR w lo hi x.p.h x.p.b A m c A2 m2 c2 ∧ x.p.h.length ≤ 1000000 ∧ x.p.b.length ≤ 1000000) k h.2
  refine ⟨pl, ⟨hl, Nat.le_refl _, fun _ => ⟨g, 0, rfl, Nat.zero_le _, (hown.lt g rfl).2, fun j hj => ?_⟩⟩, PlB.of_at hl fun j hj => ?_⟩
  · obtain ⟨A, m, c, A2, m2, c2, ⟨f0, f1, f2, f3, f4, f5⟩, t, _⟩ := hp j hj
    rw [Nat.zero_add]
    have hce : ∀ i, i < 6 → w.cell? ⟨g, j * 6 + i, none⟩ = vals[j * 6 + i]? := fun i hi => hown.cellAt (j * 6 + i) (by omega)
    exact ⟨A, m, c, A2, m2, c2, ⟨(hce 0 (by omega)).trans f0, (hce 1 (by omega)).trans f1, (hce 2 (by omega)).trans f2, (hce 3 (by omega)).trans f3, (hce 4 (by omega)).trans f4, (hce 5 (by omega)).trans f5⟩, t.wider (Nat.zero_le _) hhi (Nat.le_refl _)⟩
  · obtain ⟨A, m, c, A2, m2, c2, _, _, h9⟩ := hp j hj
    exact h9
/-- The values of a block, to be appended. -/
theorem news_box {w : World} {g : Nat} {vs : List Value} {T : TypeId} (h : BoxAt w g vs.toArray T) : ∀ j u, vs[j]? = some u → w.cell? ((⟨g, 0, none⟩ : Addr).add j) = some u := fun j u hj => by
  rw [add_off, Nat.zero_add]
  rw [h.cell j]
  simpa using hj
theorem step_append6i {P : Program} {w : World} {ops : Array Oper} {o : Oper} {a : Act} {K : Act → World → Prop} {Q : Exit → Act → World → Prop} {E : Prop} (hgd : o.guard = none) (s x : Operand) (t : TypeId)
    (ho : o.op = .call { callee := .builtin .append, args := #[s, x], argTypes := #[t, t] })
    (base : Nat) (e : TypeId) (i : TypeInfo) (z : Value) (ht : P.underlying t = some (.slice e)) (hi : P.info? e = some i) (hz : i.zero = some z) (hsize : i.size = 6) (hby : i.bytes = 80) (hzs : z.cells.size = 6)
    (v : Value) (n : Nat) (xs : List Value) (hs : a.eval s = v) (hown : w.ownsRow base e 6 v n xs)
    (c0 : Prop) [inst : Decidable c0] (a1 a2 : Addr) (m c : Nat) (news : List Value) (hx : a.eval x = .slice (if c0 then some a1 else some a2) m c) (hl : news.length = m * 6) (hnews : ∀ j u, news[j]? = some u → w.cell? ((if c0 then a1 else a2).add j) = some u) (h1 : ∀ u ∈ news, u.oneCell' = true) (hn : n + m ≤ 1000000000) (hbase : base ≤ w.heap.size)
    (h : ∀ v' w', w'.ownsRow base e 6 v' (n + m) (xs ++ news) → w.grownBy w' v.ownBlock → (v'.ownBlock = v.ownBlock ∨ v'.ownBlock = some w.heap.size) → K (a.put o.dst v') w') :
    if Region.wanted o (yielded ops a.tmps) = true then Oper.wp P o a w K Q else E :=
  step_append6 hgd s x t ho base e i z ht hi hz hsize hby hzs v n xs hs hown (if c0 then a1 else a2) m c news (by rw [hx]; split <;> rfl) hl hnews h1 hn hbase h
end Go.Proofs.Ytoocjalhcliebaa
