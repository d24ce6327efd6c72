/-
  Copies of peeled packets and mixes.
  Conditions: the slices read as lists.
-/
import Derived.Test.YtoocjalhcliebaaMixV
import Derived.Test.YtoocjalhcliebaaMixT
import Derived.Test.YtoocjalhcliebaaDrawS
import Derived.Deep.RegionHeld3
import Derived.Deep.AppendLies
namespace Go.Proofs.Ytoocjalhcliebaa
open Go Go.RowKit

theorem wp_append6 {P : Program} (w : World) {o : Oper} {a : Act} {K : Act → World → Prop} {Q : Exit → Act → World → Prop} (s x : Operand) (t : TypeId)
    (ho : o.op = .call { callee := .builtin .append, args := #[s, x], argTypes := #[t, t] })
    (base : Nat) (e : TypeId) (i : TypeInfo) (z : Value) (ht : P.underlying t = some (.slice e)) (hi : P.info? e = some i) (hz : i.zero = some z) (hsize : i.size = 6) (hby : i.bytes = 80) (hzs : z.cells.size = 6)
    (v : Value) (n : Nat) (xs : List Value) (hs : a.eval s = v) (hown : w.ownsRow base e 6 v n xs)
    (ad : Addr) (m c : Nat) (news : List Value) (hx : a.eval x = .slice (some ad) m c) (hl : news.length = m * 6) (hnews : ∀ j u, news[j]? = some u → w.cell? (ad.add j) = some u) (h1 : ∀ u ∈ news, u.oneCell' = true) (hn : n + m ≤ 1000000000) (hbase : base ≤ w.heap.size)
    (h : ∀ v' w', w'.ownsRow base e 6 v' (n + m) (xs ++ news) → w.grownBy w' v.ownBlock → (v'.ownBlock = v.ownBlock ∨ v'.ownBlock = some w.heap.size) → K (a.put o.dst v') w') : o.wp P a w K Q := by
  obtain ⟨v', w', hrun, h2, h3, _, h5⟩ := run_append_own_at (P := P) w base t o.type e i z 6 80 ht hi hz hsize hby hzs (by omega) v n xs hown ad m c news hl hnews h1 (by unfold maxLen; omega) (by omega) hbase
  unfold Oper.wp execOp
  simp only [ho, resolve, invoke, builtin, Sem.run_bind, Sem.run_pure, Result.andThen_ok, List.map_toArray, List.map_cons, List.map_nil, hs, hx, hrun]
  exact h v' w' h2 h3 h5
theorem wpList_append6 {P : Program} (w : World) {ops : Array Oper} {rest : List Oper} {o : Oper} {a : Act} {Q : Exit → Act → World → Prop} (hgd : o.guard = none) (s x : Operand) (t : TypeId)
    (ho : o.op = .call { callee := .builtin .append, args := #[s, x], argTypes := #[t, t] })
    (base : Nat) (e : TypeId) (i : TypeInfo) (z : Value) (ht : P.underlying t = some (.slice e)) (hi : P.info? e = some i) (hz : i.zero = some z) (hsize : i.size = 6) (hby : i.bytes = 80) (hzs : z.cells.size = 6)
    (v : Value) (n : Nat) (xs : List Value) (hs : a.eval s = v) (hown : w.ownsRow base e 6 v n xs)
    (ad : Addr) (m c : Nat) (news : List Value) (hx : a.eval x = .slice (some ad) m c) (hl : news.length = m * 6) (hnews : ∀ j u, news[j]? = some u → w.cell? (ad.add j) = some u) (h1 : ∀ u ∈ news, u.oneCell' = true) (hn : n + m ≤ 1000000000) (hbase : base ≤ w.heap.size)
    (h : ∀ v' w', w'.ownsRow base e 6 v' (n + m) (xs ++ news) → w.grownBy w' v.ownBlock → (v'.ownBlock = v.ownBlock ∨ v'.ownBlock = some w.heap.size) → wpList P ops Q rest (a.put o.dst v') w') : wpList P ops Q (o :: rest) a w :=
  wpList_plain hgd fun _ hK => wp_append6 w s x t ho base e i z ht hi hz hsize hby hzs v n xs hs hown ad m c news hx hl hnews h1 hn hbase fun v' w' h2 h3 h4 => hK _ _ (h v' w' h2 h3 h4)
theorem set4_onlyC (w : World) (rb : Nat) (x0 x1 x2 x3 : Value) : Only rb (rb + 1) w ((((w.setCell ⟨rb, 0, none⟩ x0).setCell ⟨rb, 1, none⟩ x1).setCell ⟨rb, 2, none⟩ x2).setCell ⟨rb, 3, none⟩ x3) :=
  (((set1_only _ _ _ _).trans (set1_only _ _ _ _)).trans (set1_only _ _ _ _)).trans (set1_only _ _ _ _)
theorem owns_shape6 {w : World} {base : Nat} {T : TypeId} {v : Value} {n : Nat} {xs : List Value} (h : w.ownsRow base T 6 v n xs) : ∃ A c, v = .slice A n c := by
  rcases h.2 with ⟨rfl, rfl⟩ | ⟨g, cap, cur, rfl, _⟩
  · exact ⟨none, 0, rfl⟩
  · exact ⟨_, _, rfl⟩
/-- The values of a block that was made just now. -/
theorem news_of (w : World) (T : TypeId) (vs : List Value) : ∀ j u, vs[j]? = some u → (w.alloc (.cells vs.toArray T)).cell? ((⟨w.heap.size, 0, none⟩ : Addr).add j) = some u := fun j u h => by
  rw [add_off, Nat.zero_add]
  exact ((BoxAt.new w vs.toArray T).cell j).trans (by simpa using h)
theorem six_one (a0 a1 a2 a4 : Int) (A : Option Addr) (n c : Nat) (A2 : Option Addr) (n2 c2 : Nat) : ∀ u ∈ [Value.int .i64 a0, .int .i64 a1, .int .i64 a2, .slice A n c, .int .i64 a4, .slice A2 n2 c2], u.oneCell' = true := by
  intro u hu
  simp only [List.mem_cons, List.not_mem_nil, or_false] at hu
  rcases hu with rfl | rfl | rfl | rfl | rfl | rfl <;> rfl
/-- An element is appended to a row of the call's own. -/
theorem PoolK.grow {w W w1 : World} {lo hi k lo1 hi1 : Nat} {v v' : Value} {pl : List Peel} {vals : List Value} {a b : Nat → Nat} {X : Peel} {A : Option Addr} {m d : Nat} {A2 : Option Addr} {m2 d2 : Nat} (h2 : ∀ g, v.ownBlock = some g → g < hi) (hlen : vals.length = k * 6) (hab : ∀ i j, i < j → j < k → b i ≤ a j)
    (hel : ∀ j, j < k → lo ≤ a j ∧ b j ≤ hi ∧ (∀ g, v.ownBlock = some g → g < a j ∨ b j ≤ g) ∧ ∃ A m c A2 m2 c2, ElAt vals (j * 6) (pl.getD j zeroPeel) A m c A2 m2 c2 ∧ TwoO w (a j) (b j) (pl.getD j zeroPeel).p.h (pl.getD j zeroPeel).p.b A m c A2 m2 c2)
    (t : TwoO w lo1 hi1 X.p.h X.p.b A m d A2 m2 d2) (hX : X = pl.getD k zeroPeel) (hl : hi ≤ lo1) (hlo : lo ≤ hi) (hh : lo1 ≤ hi1)
    (hown : w1.ownsRow lo 47 6 v' (k + 1) (vals ++ [Value.int .i64 X.kind, .int .i64 X.next, .int .i64 X.p.e, .slice A m d, .int .i64 X.p.t, .slice A2 m2 d2])) (hg : W.grownBy w1 v.ownBlock) (hW : Below w.heap.size w W) (hat : v'.ownBlock = v.ownBlock ∨ v'.ownBlock = some W.heap.size) :
    PoolK w1 lo w1.heap.size v' (k + 1) (k + 1) pl := by
  have hzW := hW.size
  have hz1 := hg.size
  have hti := t.hi_le
  have hgb : ∀ {lo2 hi2 : Nat} {h b : List Int} {A : Option Addr} {m c : Nat} {A2 : Option Addr} {m2 c2 : Nat}, TwoO w lo2 hi2 h b A m c A2 m2 c2 → (∀ g, v.ownBlock = some g → g < lo2 ∨ hi2 ≤ g) → TwoO w1 lo2 hi2 h b A m c A2 m2 c2 := fun t hr => (t.below hW t.hi_le).grown hg hr
  refine ⟨Nat.le_refl _, fun g e => ?_, _, fun i => if i < k then a i else lo1, fun i => if i < k then b i else hi1, hown, fun i j hij hj => ?_, fun j hj => ?_⟩
  · exact (hown.lt g e).2
  · have hik : i < k := by omega
    simp only [hik, if_true]
    by_cases hjk : j < k
    · simp only [hjk, if_true]; exact hab i j hij hjk
    · simp only [hjk, if_false]; have := (hel i hik).2.1; omega
  · by_cases hjk : j < k
    · simp only [hjk, if_true]
      obtain ⟨q1, q2, q3, B, m', c', B2, m2', c2', ⟨f0, f1, f2, f3, f4, f5⟩, t'⟩ := hel j hjk
      have ap : ∀ i u, vals[i]? = some u → (vals ++ [Value.int .i64 X.kind, .int .i64 X.next, .int .i64 X.p.e, .slice A m d, .int .i64 X.p.t, .slice A2 m2 d2])[i]? = some u := fun i u h => by
        have hi : i < vals.length := (List.getElem?_eq_some_iff.1 h).1
        rw [List.getElem?_append_left hi]; exact h
      refine ⟨q1, by omega, fun g e => ?_, B, m', c', B2, m2', c2', ⟨ap _ _ f0, ap _ _ f1, ap _ _ f2, ap _ _ f3, ap _ _ f4, ap _ _ f5⟩, hgb t' q3⟩
      rcases hat with h | h
      · exact q3 g (by rw [← h]; exact e)
      · rw [h] at e; injection e with e; exact .inr (by omega)
    · have hjk' : j = k := by omega
      subst hjk'
      simp only [hjk, if_false]
      refine ⟨by omega, by omega, fun g e => ?_, A, m, d, A2, m2, d2, ?_, ?_⟩
      · rcases hat with h | h
        · have := h2 g (by rw [← h]; exact e); exact .inl (by omega)
        · rw [h] at e; injection e with e; exact .inr (by omega)
      · have ap : ∀ i, i < 6 → (vals ++ [Value.int .i64 X.kind, .int .i64 X.next, .int .i64 X.p.e, .slice A m d, .int .i64 X.p.t, .slice A2 m2 d2])[j * 6 + i]? = [Value.int .i64 X.kind, .int .i64 X.next, .int .i64 X.p.e, .slice A m d, .int .i64 X.p.t, .slice A2 m2 d2][i]? := fun i hi => by
          rw [List.getElem?_append_right (by omega)]
          congr 1; omega
        rw [← hX]
        exact ⟨ap 0 (by omega), ap 1 (by omega), ap 2 (by omega), ap 3 (by omega), ap 4 (by omega), ap 5 (by omega)⟩
      · rw [← hX]
        exact hgb t (fun g e => by have := h2 g e; exact .inl (by omega))
set_option maxRecDepth 100000 in
set_option maxHeartbeats 3200000 in
theorem l11Pool_c (A : Option Addr) (n c lo hi : Nat) (pl : List Peel) (w : World) (hs : PoolR w lo hi A n pl) (hn : n ≤ 1000000) (hpl : PlB 1000000 pl) : Calls Try.prog 35 #[.slice A n c] w (NewPool pl w) := by
  obtain ⟨i0, hi0, hz0, hz1, hz2⟩ := info_peel
  have hhi := hs.hi_le
  have HL := Lib.hid hs.len
  have HPL := Lib.hid hpl
  have hown0 : (w.alloc (.cells #[] 47)).ownsRow w.heap.size 47 6 (.slice (some ⟨w.heap.size, 0, none⟩) 0 0) 0 [] := World.ownsRow_made w #[] 0 (Nat.le_refl _) (by unfold maxLen; omega) rfl
  have hb0 : Below w.heap.size w (w.alloc (.cells #[] 47)) := (Below.refl w.heap.size w).alloc (Nat.le_refl _) _
  have hk0 : PoolK (w.alloc (.cells #[] 47)) w.heap.size (w.alloc (.cells #[] 47)).heap.size (.slice (some ⟨w.heap.size, 0, none⟩) 0 0) 0 0 pl := PoolK.zero hown0 (Nat.le_refl _) (fun g e => by have e2 : w.heap.size = g := Option.some.inj e; rw [← e2]; simp) pl
  clear hpl hown0
  go_enter Try.func35, Try.ntmps35
  go_wp2_with fail
  go_loopw [3, 4] (fun v i wr => ∃ k : Nat, k ≤ n ∧ i = .int .i64 (k : Int) ∧ PoolK wr w.heap.size wr.heap.size v k k pl ∧ Below w.heap.size w wr) (fun _ i _ => n - (intOf i).toNat)
  case atStart => exact ⟨0, Nat.zero_le _, rfl, hk0, hb0⟩
  case round =>
    obtain ⟨k, hk, rfl, hpk, hnx⟩ := hrel
    by_cases hlt : k < n
    · obtain ⟨b, o, rfl, hb1, hb2, hc⟩ := hs.at_ (by omega)
      have hxl := HPL.out.at_ (j := k) (by rw [HL.out]; exact hlt)
      obtain ⟨A1, n1, c1, A2, n2, c2, ⟨h0, h1, h2, h3, h4, h5⟩, t⟩ := (hc k hlt).keep (w' := wr) (Nat.le_trans hs.hi_le hnx.size) ⟨hb1, hb2⟩ (fun b' _ hb' => hnx.block b' (Nat.lt_of_lt_of_le hb' hs.hi_le))
      obtain ⟨X, hX⟩ : ∃ X, X = pl.getD k zeroPeel := ⟨_, rfl⟩
      have hlx := t.len
      rw [← hX] at h0 h1 h2 h4 hlx hxl t
      have HX := Lib.hid hX
      have hc1 : n1 ≤ 1000000 ∧ n2 ≤ 1000000 := by omega
      have t2 := t.alloc (.cells #[.int .i64 X.kind, .int .i64 X.next, .int .i64 X.p.e, .slice A1 n1 c1, .int .i64 X.p.t, .slice A2 n2 c2] 47)
      have hnx2 := hnx.alloc hnx.size (.cells #[.int .i64 X.kind, .int .i64 X.next, .int .i64 X.p.e, .slice A1 n1 c1, .int .i64 X.p.t, .slice A2 n2 c2] 47)
      have bx := BoxAt.new wr #[.int .i64 X.kind, .int .i64 X.next, .int .i64 X.p.e, .slice A1 n1 c1, .int .i64 X.p.t, .slice A2 n2 c2] 47
      have hpk2 := hpk.alloc (.cells #[.int .i64 X.kind, .int .i64 X.next, .int .i64 X.p.e, .slice A1 n1 c1, .int .i64 X.p.t, .slice A2 n2 c2] 47)
      have hsz2 : (wr.alloc (.cells #[.int .i64 X.kind, .int .i64 X.next, .int .i64 X.p.e, .slice A1 n1 c1, .int .i64 X.p.t, .slice A2 n2 c2] 47)).heap.size = wr.heap.size + 1 := by simp
      have hwr := hnx.size
      have HSZ2 := Lib.hid hsz2
      clear hc hX hlx hxl hs hk0 t hnx hpk hsz2
      go_wp2_with fail
      refine (l11Packet_c _ _ _ _ _ _ _ _ _ _ _ _ _ t2 hc1.1 hc1.2).mono ?_
      rintro e' w2 ⟨A3, n3, c3, A4, n4, c4, rfl, o3, hb⟩
      have hz2' := hb.size
      rw [HSZ2.out] at hz2'
      have bx2 := bx.below hb bx.hi_le
      obtain ⟨p0, p1, p2, p3, p4, p5⟩ := bx2.six
      have pf := bx2.frozen
      have hon : Only wr.heap.size (wr.heap.size + 1) w2 ((((w2.setCell ⟨wr.heap.size, 2, none⟩ (.int .i64 X.p.e)).setCell ⟨wr.heap.size, 3, none⟩ (.slice A3 n3 c3)).setCell ⟨wr.heap.size, 4, none⟩ (.int .i64 X.p.t)).setCell ⟨wr.heap.size, 5, none⟩ (.slice A4 n4 c4)) := by
        have ho : ∀ (u : World) (i : Nat) (x : Value), Only wr.heap.size (wr.heap.size + 1) u (u.setCell ⟨wr.heap.size, i, none⟩ x) := fun u i x => Only.of_grown (only_set x) (fun g hg => by injection hg with hg; omega)
        exact (((ho _ _ _).trans (ho _ _ _)).trans (ho _ _ _)).trans (ho _ _ _)
      have hpk4 := (hpk2.below hb hpk2.hi_le).only hon (.inl (Nat.le_refl _))
      have o4 := o3.only hon (.inr (by rw [HSZ2.out]; exact Nat.le_refl _))
      have hnx4 := Below.only (hnx2.trans (hb.mono hnx2.size)) hon (by omega) hwr
      have hsz4 : (((((w2.setCell ⟨wr.heap.size, 2, none⟩ (.int .i64 X.p.e)).setCell ⟨wr.heap.size, 3, none⟩ (.slice A3 n3 c3)).setCell ⟨wr.heap.size, 4, none⟩ (.int .i64 X.p.t)).setCell ⟨wr.heap.size, 5, none⟩ (.slice A4 n4 c4))).heap.size = w2.heap.size := by simp [World.setCell]
      have HSZ4 := Lib.hid hsz4
      obtain ⟨_, hvb, vals, a, b', hown, hab, hel⟩ := hpk4
      have hlen : vals.length = k * 6 := hown.1
      have F := Lib.hid (And.intro o4 (And.intro hnx4 (And.intro hvb (And.intro hlen (And.intro hab hel)))))
      clear bx bx2 hpk2 hb hon o3 o4 hnx2 hnx4 hab hel hlen hvb t2 h0 h1 h2 h3 h4 h5 hsz4
      go_wp2_with (at_builtin; go_must (refine wpList_append6 _ rfl _ _ 24 rfl w.heap.size 47 i0 _ Try.underlying24 hi0 hz0 hz1 hz2 rfl _ k vals rfl (hown.alloc _) ⟨w2.heap.size, 0, none⟩ 1 1 [.int .i64 X.kind, .int .i64 X.next, .int .i64 X.p.e, .slice A3 n3 c3, .int .i64 X.p.t, .slice A4 n4 c4] rfl rfl (by have := news_of ((((w2.setCell ⟨wr.heap.size, 2, none⟩ (.int .i64 X.p.e)).setCell ⟨wr.heap.size, 3, none⟩ (.slice A3 n3 c3)).setCell ⟨wr.heap.size, 4, none⟩ (.int .i64 X.p.t)).setCell ⟨wr.heap.size, 5, none⟩ (.slice A4 n4 c4)) 47 [.int .i64 X.kind, .int .i64 X.next, .int .i64 X.p.e, .slice A3 n3 c3, .int .i64 X.p.t, .slice A4 n4 c4]; rw [HSZ4.out] at this; exact this) (six_one _ _ _ _ _ _ _ _ _ _) (by omega) (by simp [World.setCell]; omega) ?_); intro v' w5 hown' hg' hat')
      obtain ⟨o4, hnx4, hvb, hlen, hab, hel⟩ := F.out
      have hnx5 : Below w.heap.size w w5 := (hnx4.alloc hnx4.size (.cells #[.int .i64 X.kind, .int .i64 X.next, .int .i64 X.p.e, .slice A3 n3 c3, .int .i64 X.p.t, .slice A4 n4 c4] 47)).grown hg' (by simp [World.setCell]; omega) (fun g e => (hown.lt g e).1)
      have hk5 := PoolK.grow (W := ((((w2.setCell ⟨wr.heap.size, 2, none⟩ (.int .i64 X.p.e)).setCell ⟨wr.heap.size, 3, none⟩ (.slice A3 n3 c3)).setCell ⟨wr.heap.size, 4, none⟩ (.int .i64 X.p.t)).setCell ⟨wr.heap.size, 5, none⟩ (.slice A4 n4 c4)).alloc (.cells #[.int .i64 X.kind, .int .i64 X.next, .int .i64 X.p.e, .slice A3 n3 c3, .int .i64 X.p.t, .slice A4 n4 c4] 47)) hvb hlen hab hel o4 HX.out (by rw [HSZ2.out]; omega) hwr (by rw [HSZ2.out]; exact hz2') hown' hg' ((Below.refl _ _).alloc (Nat.le_refl _) _) hat'
      have G := Lib.hid (And.intro hk5 hnx5)
      clear hown' hg' hat' hown F o4 hnx4 hvb hlen hab hel hk5 hnx5 p0 p1 p2 p3 p4 p5 pf
      go_wp2
      go_roundw
      case rel => exact ⟨k + 1, by omega, by go_num, G.out.1, G.out.2⟩
      case measure => simp [intOf]; omega
    · have hkn : k = n := by omega
      subst hkn
      obtain ⟨_, _, vals, a, b', hown, _⟩ := id hpk
      obtain ⟨A1, c1, rfl⟩ := owns_shape6 hown
      have HK := Lib.hid hpk
      clear hpk hs hk0 hown
      go_wp2_with fail
      go_ret
      exact ⟨_, _, _, rfl, ⟨HL.out, HK.out⟩, hnx⟩
set_option maxRecDepth 100000 in
set_option maxHeartbeats 3200000 in
theorem copyPacket_c (e t : Int) (A : Option Addr) (n c : Nat) (A2 : Option Addr) (n2 c2 : Nat) (lo hi : Nat) (h b : List Int) (w : World) (hs : TwoR w lo hi h b A n c A2 n2 c2) (hn : n ≤ 1000000) (hn2 : n2 ≤ 1000000) :
    Calls Try.prog 47 #[.agg #[.int .i64 e, .slice A n c, .int .i64 t, .slice A2 n2 c2]] w (NewPk e t h b w) := by
  have hhi := hs.hi_le
  have hs0 := (hs.alloc (.cells #[.int .i64 e, .slice A n c, .int .i64 t, .slice A2 n2 c2] 45)).alloc (.cells #[.int .i64 0, .slice none 0 0, .int .i64 0, .slice none 0 0] 45)
  have bx : BoxAt ((w.alloc (.cells #[.int .i64 e, .slice A n c, .int .i64 t, .slice A2 n2 c2] 45)).alloc (.cells #[.int .i64 0, .slice none 0 0, .int .i64 0, .slice none 0 0] 45)) w.heap.size #[.int .i64 e, .slice A n c, .int .i64 t, .slice A2 n2 c2] 45 := (BoxAt.new w #[.int .i64 e, .slice A n c, .int .i64 t, .slice A2 n2 c2] 45).alloc _
  have bz : BoxAt ((w.alloc (.cells #[.int .i64 e, .slice A n c, .int .i64 t, .slice A2 n2 c2] 45)).alloc (.cells #[.int .i64 0, .slice none 0 0, .int .i64 0, .slice none 0 0] 45)) (w.heap.size + 1) #[.int .i64 0, .slice none 0 0, .int .i64 0, .slice none 0 0] 45 := by
    have := BoxAt.new (w.alloc (.cells #[.int .i64 e, .slice A n c, .int .i64 t, .slice A2 n2 c2] 45)) #[.int .i64 0, .slice none 0 0, .int .i64 0, .slice none 0 0] 45
    simpa using this
  have hbw : Below w.heap.size w ((w.alloc (.cells #[.int .i64 e, .slice A n c, .int .i64 t, .slice A2 n2 c2] 45)).alloc (.cells #[.int .i64 0, .slice none 0 0, .int .i64 0, .slice none 0 0] 45)) := ((Below.refl w.heap.size w).alloc (Nat.le_refl _) _).alloc (by simp) _
  have hsz0 : w.heap.size + 2 ≤ ((w.alloc (.cells #[.int .i64 e, .slice A n c, .int .i64 t, .slice A2 n2 c2] 45)).alloc (.cells #[.int .i64 0, .slice none 0 0, .int .i64 0, .slice none 0 0] 45)).heap.size := by simp
  have HH := Lib.hid hs0.1.drew
  have HB := Lib.hid hs0.2.1.drew
  have kk : ∀ w', Only (w.heap.size + 1) (w.heap.size + 1 + 1) ((w.alloc (.cells #[.int .i64 e, .slice A n c, .int .i64 t, .slice A2 n2 c2] 45)).alloc (.cells #[.int .i64 0, .slice none 0 0, .int .i64 0, .slice none 0 0] 45)) w' → w'.cell? ⟨w.heap.size, 0, none⟩ = some (.int .i64 e) ∧ w'.cell? ⟨w.heap.size, 1, none⟩ = some (.slice A n c) ∧ w'.cell? ⟨w.heap.size, 2, none⟩ = some (.int .i64 t) ∧ w'.cell? ⟨w.heap.size, 3, none⟩ = some (.slice A2 n2 c2) := fun w' ho => (bx.only ho (.inl (by omega))).four
  have HKK := Lib.hid kk
  have HO0 := Lib.hid (Only.of_below (lo := w.heap.size + 1) (hi := w.heap.size + 1 + 1) (Below.refl ((w.alloc (.cells #[.int .i64 e, .slice A n c, .int .i64 t, .slice A2 n2 c2] 45)).alloc (.cells #[.int .i64 0, .slice none 0 0, .int .i64 0, .slice none 0 0] 45)).heap.size ((w.alloc (.cells #[.int .i64 e, .slice A n c, .int .i64 t, .slice A2 n2 c2] 45)).alloc (.cells #[.int .i64 0, .slice none 0 0, .int .i64 0, .slice none 0 0] 45))).drew)
  have HD0 := Lib.hid (Below.refl ((w.alloc (.cells #[.int .i64 e, .slice A n c, .int .i64 t, .slice A2 n2 c2] 45)).alloc (.cells #[.int .i64 0, .slice none 0 0, .int .i64 0, .slice none 0 0] 45)).heap.size ((w.alloc (.cells #[.int .i64 e, .slice A n c, .int .i64 t, .slice A2 n2 c2] 45)).alloc (.cells #[.int .i64 0, .slice none 0 0, .int .i64 0, .slice none 0 0] 45))).drew
  obtain ⟨p0, p1, p2, p3⟩ := bx.four
  have HZ := Lib.hid bz
  clear hs hs0 kk bx bz
  go_enter Try.func47, Try.ntmps47
  go_wp2_with fail
  go_region_held3 (fun w' => w'.cell? ⟨w.heap.size, 0, none⟩ = some (.int .i64 e) ∧ w'.cell? ⟨w.heap.size, 1, none⟩ = some (.slice A n c) ∧ w'.cell? ⟨w.heap.size, 2, none⟩ = some (.int .i64 t) ∧ w'.cell? ⟨w.heap.size, 3, none⟩ = some (.slice A2 n2 c2))
    (exact HKK.out _ (by first | with_reducible exact HO0.out | with_reducible exact HO6 | with_reducible exact HO3 | with_reducible exact HO2))
    ((go_at_call 32; first
      | ((with_reducible refine (clone_c A n c lo hi h _ HH.out hn).mono ?_); rintro e' w2 ⟨A3, n3, c3, rfl, o3, hb2⟩; have hB2 : Below ((w.alloc (.cells #[.int .i64 e, .slice A n c, .int .i64 t, .slice A2 n2 c2] 45)).alloc (.cells #[.int .i64 0, .slice none 0 0, .int .i64 0, .slice none 0 0] 45)).heap.size ((w.alloc (.cells #[.int .i64 e, .slice A n c, .int .i64 t, .slice A2 n2 c2] 45)).alloc (.cells #[.int .i64 0, .slice none 0 0, .int .i64 0, .slice none 0 0] 45)) w2 := HD0.out.trans hb2; have HO2 := Only.of_below (lo := w.heap.size + 1) (hi := w.heap.size + 1 + 1) hB2; have hbb := HB.out.below hb2 HB.out.hi_le)
      | ((with_reducible refine (clone_c A2 n2 c2 lo hi b _ hbb hn2).mono ?_); rintro e' w3 ⟨A4, n4, c4, rfl, o4, hb3⟩; have hB3 : Below ((w.alloc (.cells #[.int .i64 e, .slice A n c, .int .i64 t, .slice A2 n2 c2] 45)).alloc (.cells #[.int .i64 0, .slice none 0 0, .int .i64 0, .slice none 0 0] 45)).heap.size ((w.alloc (.cells #[.int .i64 e, .slice A n c, .int .i64 t, .slice A2 n2 c2] 45)).alloc (.cells #[.int .i64 0, .slice none 0 0, .int .i64 0, .slice none 0 0] 45)) w3 := hB2.trans (hb3.mono hB2.size); have HO3 := Only.of_below (lo := w.heap.size + 1) (hi := w.heap.size + 1 + 1) hB3; have bz3 := HZ.out.below hB3 (by omega); obtain ⟨z0, z1, z2, z3⟩ := bz3.four; have zf := bz3.frozen; have HO6 := HO3.trans (set4_onlyC w3 (w.heap.size + 1) (.int .i64 e) (.slice A3 n3 c3) (.int .i64 t) (.slice A4 n4 c4)))))
  have hz2 := hb2.size
  have hz3 := hb3.size
  have hzd : ((w.alloc (.cells #[.int .i64 e, .slice A n c, .int .i64 t, .slice A2 n2 c2] 45)).alloc (.cells #[.int .i64 0, .slice none 0 0, .int .i64 0, .slice none 0 0] 45)).heap.size ≤ w2.heap.size := hB2.size
  have hfin : NewPk e t h b w (.returned (.agg #[.int .i64 e, .slice A3 n3 c3, .int .i64 t, .slice A4 n4 c4])) ((((w3.setCell ⟨w.heap.size + 1, 0, none⟩ (.int .i64 e)).setCell ⟨w.heap.size + 1, 1, none⟩ (.slice A3 n3 c3)).setCell ⟨w.heap.size + 1, 2, none⟩ (.int .i64 t)).setCell ⟨w.heap.size + 1, 3, none⟩ (.slice A4 n4 c4)) :=
    ⟨A3, n3, c3, A4, n4, c4, rfl, set4_two (o3.below hb3 o3.hi_le) o4 (.inl (Nat.le_refl _)) (by show w.heap.size + 1 < ((w.alloc (.cells #[.int .i64 e, .slice A n c, .int .i64 t, .slice A2 n2 c2] 45)).alloc (.cells #[.int .i64 0, .slice none 0 0, .int .i64 0, .slice none 0 0] 45)).heap.size; omega) (by omega) (by show w.heap.size ≤ ((w.alloc (.cells #[.int .i64 e, .slice A n c, .int .i64 t, .slice A2 n2 c2] 45)).alloc (.cells #[.int .i64 0, .slice none 0 0, .int .i64 0, .slice none 0 0] 45)).heap.size; omega) (by omega) _ _ _ _, Below.only (hbw.trans (hB3.mono (by omega))) (set4_onlyC _ _ _ _ _ _) (by omega) (by omega)⟩
  have HFIN := Lib.hid hfin
  clear hfin o3 o4 hb2 hb3 hB2 hB3 bz3 hbb HO2 HO3 HO6 hbw
  go_wp2_with fail
  refine bodyPost_ret (v := .agg #[.int .i64 e, .slice A3 n3 c3, .int .i64 t, .slice A4 n4 c4]) (by simp [results, Try.results47, go_sem, z0, z1, z2, z3]) rfl ?_
  exact HFIN.out
set_option maxRecDepth 100000 in
set_option maxHeartbeats 6400000 in
theorem copyPeeled_c (A : Option Addr) (n c lo hi : Nat) (pl : List Peel) (w : World) (hs : PoolR w lo hi A n pl) (hn : n ≤ 1000000) (hpl : PlB 1000000 pl) : Calls Try.prog 33 #[.slice A n c] w (NewPool pl w) := by
  obtain ⟨i0, hi0, hz0, hz1, hz2⟩ := info_peel
  have hhi := hs.hi_le
  have HL := Lib.hid hs.len
  have HPL := Lib.hid hpl
  have hmk : ∀ W, (Instr.makeSlice 24 (.int .i64 0) (.int .i64 ((n : Int) + 1))).run Try.prog W = .ok (.slice (some ⟨W.heap.size, 0, none⟩) 0 (n + 1)) (W.alloc (.cells (madeCells #[.int .i64 0, .int .i64 0, .int .i64 0, .slice none 0 0, .int .i64 0, .slice none 0 0] ((n + 1) * 6)) 47)) := fun W => by
    have := make_peels 0 (n + 1) (by omega) (by omega) W
    simpa using this
  have hown0 : (w.alloc (.cells (madeCells #[.int .i64 0, .int .i64 0, .int .i64 0, .slice none 0 0, .int .i64 0, .slice none 0 0] ((n + 1) * 6)) 47)).ownsRow w.heap.size 47 6 (.slice (some ⟨w.heap.size, 0, none⟩) 0 (n + 1)) 0 [] := World.ownsRow_made w _ (n + 1) (Nat.le_refl _) (by unfold maxLen; omega) (size_madeCells _ _)
  have hb0 : Below w.heap.size w (w.alloc (.cells (madeCells #[.int .i64 0, .int .i64 0, .int .i64 0, .slice none 0 0, .int .i64 0, .slice none 0 0] ((n + 1) * 6)) 47)) := (Below.refl w.heap.size w).alloc (Nat.le_refl _) _
  have hk0 : PoolK (w.alloc (.cells (madeCells #[.int .i64 0, .int .i64 0, .int .i64 0, .slice none 0 0, .int .i64 0, .slice none 0 0] ((n + 1) * 6)) 47)) w.heap.size (w.alloc (.cells (madeCells #[.int .i64 0, .int .i64 0, .int .i64 0, .slice none 0 0, .int .i64 0, .slice none 0 0] ((n + 1) * 6)) 47)).heap.size (.slice (some ⟨w.heap.size, 0, none⟩) 0 (n + 1)) 0 0 pl := PoolK.zero hown0 (Nat.le_refl _) (fun g e => by have e2 : w.heap.size = g := Option.some.inj e; rw [← e2]; simp) pl
  clear hpl hown0
  go_enter Try.func33, Try.ntmps33
  go_wp2_with fail
  go_loopw [3, 12] (fun v i wr => ∃ k : Nat, k ≤ n ∧ i = .int .i64 (k : Int) ∧ PoolK wr w.heap.size wr.heap.size v k k pl ∧ Below w.heap.size w wr) (fun _ i _ => n - (intOf i).toNat)
  case atStart => exact ⟨0, Nat.zero_le _, rfl, hk0, hb0⟩
  case round =>
    obtain ⟨k, hk, rfl, hpk, hnx⟩ := hrel
    by_cases hlt : k < n
    · obtain ⟨b, o, rfl, hb1, hb2, hc⟩ := hs.at_ (by omega)
      have hxl := HPL.out.at_ (j := k) (by rw [HL.out]; exact hlt)
      obtain ⟨A1, n1, c1, A2, n2, c2, ⟨h0, h1, h2, h3, h4, h5⟩, t⟩ := (hc k hlt).keep (w' := wr) (Nat.le_trans hs.hi_le hnx.size) ⟨hb1, hb2⟩ (fun b' _ hb' => hnx.block b' (Nat.lt_of_lt_of_le hb' hs.hi_le))
      obtain ⟨X, hX⟩ : ∃ X, X = pl.getD k zeroPeel := ⟨_, rfl⟩
      have hlx := t.len
      rw [← hX] at h0 h1 h2 h4 hlx hxl t
      have HX := Lib.hid hX
      have hc1 : n1 ≤ 1000000 ∧ n2 ≤ 1000000 := by omega
      have t2 := t.alloc (.cells #[.int .i64 X.kind, .int .i64 X.next, .int .i64 X.p.e, .slice A1 n1 c1, .int .i64 X.p.t, .slice A2 n2 c2] 47)
      have hnx2 := hnx.alloc hnx.size (.cells #[.int .i64 X.kind, .int .i64 X.next, .int .i64 X.p.e, .slice A1 n1 c1, .int .i64 X.p.t, .slice A2 n2 c2] 47)
      have bx := BoxAt.new wr #[.int .i64 X.kind, .int .i64 X.next, .int .i64 X.p.e, .slice A1 n1 c1, .int .i64 X.p.t, .slice A2 n2 c2] 47
      have hpk2 := hpk.alloc (.cells #[.int .i64 X.kind, .int .i64 X.next, .int .i64 X.p.e, .slice A1 n1 c1, .int .i64 X.p.t, .slice A2 n2 c2] 47)
      have hsz2 : (wr.alloc (.cells #[.int .i64 X.kind, .int .i64 X.next, .int .i64 X.p.e, .slice A1 n1 c1, .int .i64 X.p.t, .slice A2 n2 c2] 47)).heap.size = wr.heap.size + 1 := by simp
      have hwr := hnx.size
      have HSZ2 := Lib.hid hsz2
      have HROW := Lib.hid (fun g e => (.inl (hpk.2.1 g e) : g < wr.heap.size ∨ wr.heap.size < g))
      have kk : ∀ w', Only wr.heap.size wr.heap.size (wr.alloc (.cells #[.int .i64 X.kind, .int .i64 X.next, .int .i64 X.p.e, .slice A1 n1 c1, .int .i64 X.p.t, .slice A2 n2 c2] 47)) w' → w'.cell? ⟨wr.heap.size, 0, none⟩ = some (.int .i64 X.kind) ∧ w'.cell? ⟨wr.heap.size, 1, none⟩ = some (.int .i64 X.next) ∧ w'.cell? ⟨wr.heap.size, 2, none⟩ = some (.int .i64 X.p.e) ∧ w'.cell? ⟨wr.heap.size, 3, none⟩ = some (.slice A1 n1 c1) ∧ w'.cell? ⟨wr.heap.size, 4, none⟩ = some (.int .i64 X.p.t) ∧ w'.cell? ⟨wr.heap.size, 5, none⟩ = some (.slice A2 n2 c2) := fun w' ho => (bx.only ho (.inr (Nat.le_refl _))).six
      have HKK := Lib.hid kk
      have HO0 := Lib.hid (Only.of_below (lo := wr.heap.size) (hi := wr.heap.size) (Below.refl (wr.alloc (.cells #[.int .i64 X.kind, .int .i64 X.next, .int .i64 X.p.e, .slice A1 n1 c1, .int .i64 X.p.t, .slice A2 n2 c2] 47)).heap.size (wr.alloc (.cells #[.int .i64 X.kind, .int .i64 X.next, .int .i64 X.p.e, .slice A1 n1 c1, .int .i64 X.p.t, .slice A2 n2 c2] 47))).drew)
      have HT2 := Lib.hid t2.drew
      have HPK2 := Lib.hid hpk2.drew
      have HNX2 := Lib.hid hnx2.drew
      obtain ⟨p0, p1, p2, p3, p4, p5⟩ := bx.six
      have HBX := Lib.hid bx.drew
      have hwa : w.heap.size ≤ (wr.alloc (.cells #[.int .i64 X.kind, .int .i64 X.next, .int .i64 X.p.e, .slice A1 n1 c1, .int .i64 X.p.t, .slice A2 n2 c2] 47)).drew.heap.size := hnx2.size
      have HSZD := Lib.hid (show (wr.alloc (.cells #[.int .i64 X.kind, .int .i64 X.next, .int .i64 X.p.e, .slice A1 n1 c1, .int .i64 X.p.t, .slice A2 n2 c2] 47)).drew.heap.size = wr.heap.size + 1 from hsz2)
      clear hc hX hlx hxl hs hk0 t hnx hpk hsz2 t2 hnx2 bx hpk2 kk hwa
      go_wp2_with fail
      go_region_held3 (fun w' => w'.cell? ⟨wr.heap.size, 0, none⟩ = some (.int .i64 X.kind) ∧ w'.cell? ⟨wr.heap.size, 1, none⟩ = some (.int .i64 X.next) ∧ w'.cell? ⟨wr.heap.size, 2, none⟩ = some (.int .i64 X.p.e) ∧ w'.cell? ⟨wr.heap.size, 3, none⟩ = some (.slice A1 n1 c1) ∧ w'.cell? ⟨wr.heap.size, 4, none⟩ = some (.int .i64 X.p.t) ∧ w'.cell? ⟨wr.heap.size, 5, none⟩ = some (.slice A2 n2 c2))
        (first | exact HKK.out _ HO0.out | exact bx2.six | exact (bx2.alloc _).six | exact bx5.six)
        ((first
          | (refine step_append_lies _ (by rfl) _ _ _ (by rfl) w.heap.size 47 i0 _ 6 80 Try.underlying24 hi0 hz0 hz1 hz2 rfl (by omega) _ k vals (by rfl) (hown.alloc _) ⟨w2.heap.size, 0, none⟩ 1 1 [.int .i64 X.kind, .int .i64 X.next, .int .i64 X.p.e, .slice A3 n3 c3, .int .i64 X.p.t, .slice A4 n4 c4] (by rfl) (by rfl) (news_of w2 47 [.int .i64 X.kind, .int .i64 X.next, .int .i64 X.p.e, .slice A3 n3 c3, .int .i64 X.p.t, .slice A4 n4 c4]) (six_one _ _ _ _ _ _ _ _ _ _) (by omega) (by unfold maxLen; omega) (by omega) (by simp; omega) (w2.heap.size + 1) (by simp) ?_; intro gg cap w5 hown' hgrow hat hlt'; have bx5 := (bx2.alloc (.cells #[.int .i64 X.kind, .int .i64 X.next, .int .i64 X.p.e, .slice A3 n3 c3, .int .i64 X.p.t, .slice A4 n4 c4] 47)).grown hgrow (fun g e => by have := hrow g e; omega))
          | (go_at_call 47; refine (copyPacket_c _ _ _ _ _ _ _ _ _ _ _ _ _ HT2.out hc1.1 hc1.2).mono ?_; rintro e' w2 ⟨A3, n3, c3, A4, n4, c4, rfl, o3, hb2⟩; have hz2' := hb2.size; have bx2 := HBX.out.below hb2 (by rw [HSZD.out]; omega); have hpk3 := HPK2.out.below hb2 HPK2.out.hi_le; have hnx3 := HNX2.out.trans (hb2.mono HNX2.out.size); obtain ⟨_, hvb, vals, a, b', hown, hab, hel⟩ := hpk3; have hlen : vals.length = k * 6 := hown.1; have hrow : ∀ g, Value.ownBlock u3 = some g → g < wr.heap.size ∨ wr.heap.size < g := fun g e => HROW.out g e; rw [HSZD.out] at hz2'; have hw2 : w.heap.size ≤ w2.heap.size := by omega)))
      have hnx5 : Below w.heap.size w w5 := (hnx3.alloc hnx3.size (.cells #[.int .i64 X.kind, .int .i64 X.next, .int .i64 X.p.e, .slice A3 n3 c3, .int .i64 X.p.t, .slice A4 n4 c4] 47)).grown hgrow (by simp; omega) (fun g e => (hown.lt g e).1)
      have hk5 := PoolK.grow (W := w2.alloc (.cells #[.int .i64 X.kind, .int .i64 X.next, .int .i64 X.p.e, .slice A3 n3 c3, .int .i64 X.p.t, .slice A4 n4 c4] 47)) hvb hlen hab hel o3 HX.out (by rw [HSZD.out]; omega) hwr (by rw [HSZD.out]; exact hz2') hown' hgrow ((Below.refl _ _).alloc (Nat.le_refl _) _) (hat.elim (fun h => .inl h.symm) (fun h => .inr (by rw [h]; simp [Value.ownBlock])))
      have G := Lib.hid (And.intro hk5 hnx5)
      clear hown' hgrow hat hlt' hown hnx3 hvb hlen hab hel hk5 hnx5 p0 p1 p2 p3 p4 p5 bx2 bx5 o3 hb2
      go_wp2
      go_roundw
      case rel => exact ⟨k + 1, by omega, by go_num, G.out.1, G.out.2⟩
      case measure => simp [intOf]; omega
    · have hkn : k = n := by omega
      subst hkn
      obtain ⟨_, _, vals, a, b', hown, _⟩ := id hpk
      obtain ⟨A1, c1, rfl⟩ := owns_shape6 hown
      have HK := Lib.hid hpk
      clear hpk hs hk0 hown
      go_wp2_with fail
      go_ret
      exact ⟨_, _, _, rfl, ⟨HL.out, HK.out⟩, hnx⟩
set_option maxRecDepth 100000 in
set_option maxHeartbeats 3200000 in
theorem copyMix_c (s : Int) (A : Option Addr) (n c : Nat) (A2 : Option Addr) (n2 c2 lo hi : Nat) (seen : List Int) (pl : List Peel) (w : World) (hs : MixR w lo hi seen pl A n c A2 n2 c2) (hn : n ≤ 1000000) (hn2 : n2 ≤ 1000000) (hpl : PlB 1000000 pl) : Calls Try.prog 17 #[.agg #[.int .i64 s, .slice A n c, .slice A2 n2 c2]] w (NewMix s seen pl w) := by
  have hhi := hs.hi_le
  have hs0 := (hs.alloc (.cells #[.int .i64 s, .slice A n c, .slice A2 n2 c2] 26)).alloc (.cells #[.int .i64 0, .slice none 0 0, .slice none 0 0] 26)
  have bx : BoxAt ((w.alloc (.cells #[.int .i64 s, .slice A n c, .slice A2 n2 c2] 26)).alloc (.cells #[.int .i64 0, .slice none 0 0, .slice none 0 0] 26)) w.heap.size #[.int .i64 s, .slice A n c, .slice A2 n2 c2] 26 := (BoxAt.new w #[.int .i64 s, .slice A n c, .slice A2 n2 c2] 26).alloc _
  have bz : BoxAt ((w.alloc (.cells #[.int .i64 s, .slice A n c, .slice A2 n2 c2] 26)).alloc (.cells #[.int .i64 0, .slice none 0 0, .slice none 0 0] 26)) (w.heap.size + 1) #[.int .i64 0, .slice none 0 0, .slice none 0 0] 26 := by
    have := BoxAt.new (w.alloc (.cells #[.int .i64 s, .slice A n c, .slice A2 n2 c2] 26)) #[.int .i64 0, .slice none 0 0, .slice none 0 0] 26
    simpa using this
  have hbw : Below w.heap.size w ((w.alloc (.cells #[.int .i64 s, .slice A n c, .slice A2 n2 c2] 26)).alloc (.cells #[.int .i64 0, .slice none 0 0, .slice none 0 0] 26)) := ((Below.refl w.heap.size w).alloc (Nat.le_refl _) _).alloc (by simp) _
  have hsz0 : w.heap.size + 2 ≤ ((w.alloc (.cells #[.int .i64 s, .slice A n c, .slice A2 n2 c2] 26)).alloc (.cells #[.int .i64 0, .slice none 0 0, .slice none 0 0] 26)).heap.size := by simp
  have HH := Lib.hid hs0.1.drew
  have HB := Lib.hid hs0.2.1.drew
  have HPL := Lib.hid hpl
  have kk : ∀ w', Only (w.heap.size + 1) (w.heap.size + 1 + 1) ((w.alloc (.cells #[.int .i64 s, .slice A n c, .slice A2 n2 c2] 26)).alloc (.cells #[.int .i64 0, .slice none 0 0, .slice none 0 0] 26)) w' → w'.cell? ⟨w.heap.size, 0, none⟩ = some (.int .i64 s) ∧ w'.cell? ⟨w.heap.size, 1, none⟩ = some (.slice A n c) ∧ w'.cell? ⟨w.heap.size, 2, none⟩ = some (.slice A2 n2 c2) := fun w' ho => (bx.only ho (.inl (by omega))).three
  have HKK := Lib.hid kk
  have HO0 := Lib.hid (Only.of_below (lo := w.heap.size + 1) (hi := w.heap.size + 1 + 1) (Below.refl ((w.alloc (.cells #[.int .i64 s, .slice A n c, .slice A2 n2 c2] 26)).alloc (.cells #[.int .i64 0, .slice none 0 0, .slice none 0 0] 26)).heap.size ((w.alloc (.cells #[.int .i64 s, .slice A n c, .slice A2 n2 c2] 26)).alloc (.cells #[.int .i64 0, .slice none 0 0, .slice none 0 0] 26))).drew)
  have HD0 := Lib.hid (Below.refl ((w.alloc (.cells #[.int .i64 s, .slice A n c, .slice A2 n2 c2] 26)).alloc (.cells #[.int .i64 0, .slice none 0 0, .slice none 0 0] 26)).heap.size ((w.alloc (.cells #[.int .i64 s, .slice A n c, .slice A2 n2 c2] 26)).alloc (.cells #[.int .i64 0, .slice none 0 0, .slice none 0 0] 26))).drew
  obtain ⟨p0, p1, p2⟩ := bx.three
  have HZ := Lib.hid bz
  clear hs hs0 kk bx bz hpl
  go_enter Try.func17, Try.ntmps17
  go_wp2_with fail
  go_region_held3 (fun w' => w'.cell? ⟨w.heap.size, 0, none⟩ = some (.int .i64 s) ∧ w'.cell? ⟨w.heap.size, 1, none⟩ = some (.slice A n c) ∧ w'.cell? ⟨w.heap.size, 2, none⟩ = some (.slice A2 n2 c2))
    (exact HKK.out _ (by first | with_reducible exact HO0.out | with_reducible exact HO6 | with_reducible exact HO3 | with_reducible exact HO2))
    ((first
      | (go_at_call 32; (with_reducible refine (clone_c A n c lo hi seen _ HH.out hn).mono ?_); rintro e' w2 ⟨A3, n3, c3, rfl, o3, hb2⟩; have hB2 : Below ((w.alloc (.cells #[.int .i64 s, .slice A n c, .slice A2 n2 c2] 26)).alloc (.cells #[.int .i64 0, .slice none 0 0, .slice none 0 0] 26)).heap.size ((w.alloc (.cells #[.int .i64 s, .slice A n c, .slice A2 n2 c2] 26)).alloc (.cells #[.int .i64 0, .slice none 0 0, .slice none 0 0] 26)) w2 := HD0.out.trans hb2; have HO2 := Only.of_below (lo := w.heap.size + 1) (hi := w.heap.size + 1 + 1) hB2; have hbb := HB.out.below hb2 HB.out.hi_le)
      | (go_at_call 33; (with_reducible refine (copyPeeled_c A2 n2 c2 lo hi pl _ hbb hn2 HPL.out).mono ?_); rintro e' w3 ⟨A4, n4, c4, rfl, o4, hb3⟩; have hB3 : Below ((w.alloc (.cells #[.int .i64 s, .slice A n c, .slice A2 n2 c2] 26)).alloc (.cells #[.int .i64 0, .slice none 0 0, .slice none 0 0] 26)).heap.size ((w.alloc (.cells #[.int .i64 s, .slice A n c, .slice A2 n2 c2] 26)).alloc (.cells #[.int .i64 0, .slice none 0 0, .slice none 0 0] 26)) w3 := hB2.trans (hb3.mono hB2.size); have HO3 := Only.of_below (lo := w.heap.size + 1) (hi := w.heap.size + 1 + 1) hB3; have bz3 := HZ.out.below hB3 (by omega); obtain ⟨z0, z1, z2⟩ := bz3.three; have zf := bz3.frozen; have HO6 := HO3.trans (set3_only w3 (w.heap.size + 1) (.int .i64 s) (.slice A3 n3 c3) (.slice A4 n4 c4)))))
  have hz2 := hb2.size
  have hz3 := hb3.size
  have hzd : ((w.alloc (.cells #[.int .i64 s, .slice A n c, .slice A2 n2 c2] 26)).alloc (.cells #[.int .i64 0, .slice none 0 0, .slice none 0 0] 26)).heap.size ≤ w2.heap.size := hB2.size
  have hzd0 : w.heap.size + 2 ≤ ((w.alloc (.cells #[.int .i64 s, .slice A n c, .slice A2 n2 c2] 26)).alloc (.cells #[.int .i64 0, .slice none 0 0, .slice none 0 0] 26)).drew.heap.size := hsz0
  have hfin : NewMix s seen pl w (.returned (.agg #[.int .i64 s, .slice A3 n3 c3, .slice A4 n4 c4])) (((w3.setCell ⟨w.heap.size + 1, 0, none⟩ (.int .i64 s)).setCell ⟨w.heap.size + 1, 1, none⟩ (.slice A3 n3 c3)).setCell ⟨w.heap.size + 1, 2, none⟩ (.slice A4 n4 c4)) := by
    have o5 := (o3.below hb3 o3.hi_le).only (set3_only w3 (w.heap.size + 1) (.int .i64 s) (.slice A3 n3 c3) (.slice A4 n4 c4)) (.inr (by omega))
    have o6 := o4.only (set3_only w3 (w.heap.size + 1) (.int .i64 s) (.slice A3 n3 c3) (.slice A4 n4 c4)) (.inr (by omega))
    exact ⟨A3, n3, c3, A4, n4, c4, rfl, ⟨Nat.le_refl _, _, _, _, _, o5, o6, .inl (Nat.le_refl _), by omega, by omega, o5.hi_le, o6.hi_le⟩, Below.only (hbw.trans (hB3.mono (by omega))) (set3_only _ _ _ _ _) (by omega) (by omega)⟩
  have HFIN := Lib.hid hfin
  clear hfin o3 o4 hb2 hb3 hB2 hB3 bz3 hbb HO2 HO3 HO6 hbw
  go_wp2_with fail
  refine bodyPost_ret (v := .agg #[.int .i64 s, .slice A3 n3 c3, .slice A4 n4 c4]) (by simp [results, Try.results17, go_sem, z0, z1, z2]) rfl ?_
  exact HFIN.out
theorem step_append_sl {P : Program} {w : World} {ops : Array Oper} {o : Oper} {a : Act} {K : Act → World → Prop} {Q : Exit → Act → World → Prop} {E : Prop} (hgd : o.guard = none) (s x : Operand) (t : TypeId)
    (ho : o.op = .call { callee := .builtin .append, args := #[s, x], argTypes := #[t, t] })
    (base : Nat) (e : TypeId) (i : TypeInfo) (ht : P.underlying t = some (.slice e)) (hi : P.info? e = some i) (hz : i.zero = some (.int .i64 0)) (hsize : i.size = 1) (hby : i.bytes = 8)
    (v : Value) (n : Nat) (xs : List Value) (hs : a.eval s = v) (hown : w.ownsRow base e 1 v n xs)
    (lo hi' m c : Nat) (A : Option Addr) (ys : List Int) (hx : a.eval x = .slice A m c) (hr : SlR .i64 w lo hi' A m ys) (hn : n + m ≤ 1000000) (hbase : base ≤ w.heap.size)
    (h : ∀ v' w', w'.ownsRow base e 1 v' (n + m) (xs ++ ints ys) → w.grownBy w' v.ownBlock → (v'.ownBlock = v.ownBlock ∨ v'.ownBlock = some w.heap.size) → K (a.put o.dst v') w') :
    if Region.wanted o (yielded ops a.tmps) = true then Oper.wp P o a w K Q else E := by
  have hw : Region.wanted o (yielded ops a.tmps) = true := by simp [Region.wanted, hgd]
  rw [if_pos hw]
  exact wp_append_sl w s x t ho base e i ht hi hz hsize hby v n xs hs hown lo hi' m c A ys hx hr hn hbase h
theorem own_madeC (w : World) (G : Nat) (hG : w.heap.size = G) : OwnR 3 (w.alloc (.cells #[] 3)) G (G + 1) (some ⟨G, 0, none⟩) 0 0 [] := by
  subst hG
  exact ⟨World.ownsRow_made w #[] 0 (Nat.le_refl _) (by unfold maxLen; omega) rfl, by simp, fun a e => by injection e with e; subst e; simp⟩
set_option maxRecDepth 100000 in
set_option maxHeartbeats 12800000 in
theorem l11Copy_c (s : Int) (A : Option Addr) (n c : Nat) (A2 : Option Addr) (n2 c2 lo hi : Nat) (seen : List Int) (pl : List Peel) (w : World) (hs : MixR w lo hi seen pl A n c A2 n2 c2) (hn : n ≤ 1000000) (hn2 : n2 ≤ 1000000) (hpl : PlB 1000000 pl) : Calls Try.prog 19 #[.agg #[.int .i64 s, .slice A n c, .slice A2 n2 c2]] w (NewMix s seen pl w) := by
  obtain ⟨i0, hi0, hz0, hz1, hz2⟩ := info_parts Try.infoInt
  have hhi := hs.hi_le
  have hs0 := (hs.alloc (.cells #[.int .i64 s, .slice A n c, .slice A2 n2 c2] 26)).alloc (.cells #[.int .i64 0, .slice none 0 0, .slice none 0 0] 26)
  have bx : BoxAt ((w.alloc (.cells #[.int .i64 s, .slice A n c, .slice A2 n2 c2] 26)).alloc (.cells #[.int .i64 0, .slice none 0 0, .slice none 0 0] 26)) w.heap.size #[.int .i64 s, .slice A n c, .slice A2 n2 c2] 26 := (BoxAt.new w #[.int .i64 s, .slice A n c, .slice A2 n2 c2] 26).alloc _
  have bz : BoxAt ((w.alloc (.cells #[.int .i64 s, .slice A n c, .slice A2 n2 c2] 26)).alloc (.cells #[.int .i64 0, .slice none 0 0, .slice none 0 0] 26)) (w.heap.size + 1) #[.int .i64 0, .slice none 0 0, .slice none 0 0] 26 := by
    have := BoxAt.new (w.alloc (.cells #[.int .i64 s, .slice A n c, .slice A2 n2 c2] 26)) #[.int .i64 0, .slice none 0 0, .slice none 0 0] 26
    simpa using this
  have hbw : Below w.heap.size w ((w.alloc (.cells #[.int .i64 s, .slice A n c, .slice A2 n2 c2] 26)).alloc (.cells #[.int .i64 0, .slice none 0 0, .slice none 0 0] 26)) := ((Below.refl w.heap.size w).alloc (Nat.le_refl _) _).alloc (by simp) _
  have hsz0 : w.heap.size + 2 ≤ ((w.alloc (.cells #[.int .i64 s, .slice A n c, .slice A2 n2 c2] 26)).alloc (.cells #[.int .i64 0, .slice none 0 0, .slice none 0 0] 26)).heap.size := by simp
  have HHp := Lib.hid (fun w' (hb : Below ((w.alloc (.cells #[.int .i64 s, .slice A n c, .slice A2 n2 c2] 26)).alloc (.cells #[.int .i64 0, .slice none 0 0, .slice none 0 0] 26)).heap.size ((w.alloc (.cells #[.int .i64 s, .slice A n c, .slice A2 n2 c2] 26)).alloc (.cells #[.int .i64 0, .slice none 0 0, .slice none 0 0] 26)) w') => hs0.1.below hb hs0.1.hi_le)
  have HBp := Lib.hid (fun w' (hb : Below ((w.alloc (.cells #[.int .i64 s, .slice A n c, .slice A2 n2 c2] 26)).alloc (.cells #[.int .i64 0, .slice none 0 0, .slice none 0 0] 26)).heap.size ((w.alloc (.cells #[.int .i64 s, .slice A n c, .slice A2 n2 c2] 26)).alloc (.cells #[.int .i64 0, .slice none 0 0, .slice none 0 0] 26)) w') => hs0.2.1.below hb hs0.2.1.hi_le)
  have HPL := Lib.hid hpl
  have kk : ∀ w', Only (w.heap.size + 1) (w.heap.size + 1 + 1) ((w.alloc (.cells #[.int .i64 s, .slice A n c, .slice A2 n2 c2] 26)).alloc (.cells #[.int .i64 0, .slice none 0 0, .slice none 0 0] 26)) w' → w'.cell? ⟨w.heap.size, 0, none⟩ = some (.int .i64 s) ∧ w'.cell? ⟨w.heap.size, 1, none⟩ = some (.slice A n c) ∧ w'.cell? ⟨w.heap.size, 2, none⟩ = some (.slice A2 n2 c2) := fun w' ho => (bx.only ho (.inl (by omega))).three
  have HKK := Lib.hid kk
  have HO0 := Lib.hid (Only.of_below (lo := w.heap.size + 1) (hi := w.heap.size + 1 + 1) (Below.refl ((w.alloc (.cells #[.int .i64 s, .slice A n c, .slice A2 n2 c2] 26)).alloc (.cells #[.int .i64 0, .slice none 0 0, .slice none 0 0] 26)).heap.size ((w.alloc (.cells #[.int .i64 s, .slice A n c, .slice A2 n2 c2] 26)).alloc (.cells #[.int .i64 0, .slice none 0 0, .slice none 0 0] 26))).drew)
  have HD0 := Lib.hid (Below.refl ((w.alloc (.cells #[.int .i64 s, .slice A n c, .slice A2 n2 c2] 26)).alloc (.cells #[.int .i64 0, .slice none 0 0, .slice none 0 0] 26)).heap.size ((w.alloc (.cells #[.int .i64 s, .slice A n c, .slice A2 n2 c2] 26)).alloc (.cells #[.int .i64 0, .slice none 0 0, .slice none 0 0] 26))).drew
  obtain ⟨p0, p1, p2⟩ := bx.three
  have HZ := Lib.hid bz
  clear hs hs0 kk bx bz hpl
  have hG : ((w.alloc (.cells #[.int .i64 s, .slice A n c, .slice A2 n2 c2] 26)).alloc (.cells #[.int .i64 0, .slice none 0 0, .slice none 0 0] 26)).heap.size = w.heap.size + 1 + 1 := by simp
  have HE1 := Lib.hid (own_madeC ((w.alloc (.cells #[.int .i64 s, .slice A n c, .slice A2 n2 c2] 26)).alloc (.cells #[.int .i64 0, .slice none 0 0, .slice none 0 0] 26)) (w.heap.size + 1 + 1) hG).drew
  have hGE : (((w.alloc (.cells #[.int .i64 s, .slice A n c, .slice A2 n2 c2] 26)).alloc (.cells #[.int .i64 0, .slice none 0 0, .slice none 0 0] 26)).alloc (.cells #[] 3)).drew.heap.size = w.heap.size + 1 + 1 + 1 := by show (((w.alloc (.cells #[.int .i64 s, .slice A n c, .slice A2 n2 c2] 26)).alloc (.cells #[.int .i64 0, .slice none 0 0, .slice none 0 0] 26)).alloc (.cells #[] 3)).heap.size = _; simp
  have HDE := Lib.hid ((Below.refl ((w.alloc (.cells #[.int .i64 s, .slice A n c, .slice A2 n2 c2] 26)).alloc (.cells #[.int .i64 0, .slice none 0 0, .slice none 0 0] 26)).heap.size ((w.alloc (.cells #[.int .i64 s, .slice A n c, .slice A2 n2 c2] 26)).alloc (.cells #[.int .i64 0, .slice none 0 0, .slice none 0 0] 26))).alloc (Nat.le_refl _) (.cells #[] 3)).drew
  have HOE := Lib.hid (Only.of_below (lo := w.heap.size + 1) (hi := w.heap.size + 1 + 1) HDE.out)
  have HGN := Lib.hid hG
  have HGE := Lib.hid hGE
  clear hG hGE
  go_enter Try.func19, Try.ntmps19
  go_wp2_with fail
  go_region_held3 (fun w' => w'.cell? ⟨w.heap.size, 0, none⟩ = some (.int .i64 s) ∧ w'.cell? ⟨w.heap.size, 1, none⟩ = some (.slice A n c) ∧ w'.cell? ⟨w.heap.size, 2, none⟩ = some (.slice A2 n2 c2))
    (exact HKK.out _ (by first | with_reducible exact HO0.out | with_reducible exact HOE.out | with_reducible exact hO4 | with_reducible exact hO2 | with_reducible exact hO3))
    ((first
      | (go_at_call 35; ((with_reducible refine (l11Pool_c A2 n2 c2 lo hi pl _ (HBp.out _ hB3) hn2 HPL.out).mono ?_); rintro e' w2 ⟨A4, n4, c4, rfl, o4, hb2⟩; have hB2 : Below ((w.alloc (.cells #[.int .i64 s, .slice A n c, .slice A2 n2 c2] 26)).alloc (.cells #[.int .i64 0, .slice none 0 0, .slice none 0 0] 26)).heap.size ((w.alloc (.cells #[.int .i64 s, .slice A n c, .slice A2 n2 c2] 26)).alloc (.cells #[.int .i64 0, .slice none 0 0, .slice none 0 0] 26)) w2 := hB3.trans (hb2.mono hB3.size); have hO2 := Only.of_below (lo := w.heap.size + 1) (hi := w.heap.size + 1 + 1) hB2; clear z0 z1 z2 zf bz3; have bz3 := HZ.out.below hB2 (by rw [HGN.out]; omega); obtain ⟨z0, z1, z2⟩ := bz3.three; have zf := bz3.frozen; have hO4 := hO2.trans (set3_only w2 (w.heap.size + 1) (.int .i64 s) (.slice A3 n c3) (.slice A4 n4 c4))))
      | (refine step_append_sl (by rfl) _ _ 23 (by rfl) (w.heap.size + 1 + 1) 3 i0 Try.underlying23 hi0 hz0 hz1 hz2 _ 0 [] (by rfl) HE1.out.1 lo hi n c A seen (by rfl) (HHp.out _ HDE.out) (by omega) (by rw [HGE.out]; omega) ?_; intro v' w3 hown' hg' hat'; obtain ⟨A3, c3, rfl⟩ := owns_shape hown'; rw [Nat.zero_add] at hown'; have hB3 : Below ((w.alloc (.cells #[.int .i64 s, .slice A n c, .slice A2 n2 c2] 26)).alloc (.cells #[.int .i64 0, .slice none 0 0, .slice none 0 0] 26)).heap.size ((w.alloc (.cells #[.int .i64 s, .slice A n c, .slice A2 n2 c2] 26)).alloc (.cells #[.int .i64 0, .slice none 0 0, .slice none 0 0] 26)) w3 := HDE.out.grown hg' HDE.out.size (fun g e => by have e2 : w.heap.size + 1 + 1 = g := Option.some.inj e; rw [HGN.out]; omega); have hO3 := Only.of_below (lo := w.heap.size + 1) (hi := w.heap.size + 1 + 1) hB3; have bz3 := HZ.out.below hB3 (by rw [HGN.out]; omega); obtain ⟨z0, z1, z2⟩ := bz3.three; have zf := bz3.frozen; have hz3 := hg'.size; rw [HGE.out] at hz3)))
  have hz2' := hb2.size
  have o3 : OwnR 3 w3 (w.heap.size + 1 + 1) w3.heap.size A3 n c3 seen := OwnR.of_owns (by simpa [ints] using hown')
  have hzb : w.heap.size ≤ w2.heap.size := by omega
  have hfin : NewMix s seen pl w (.returned (.agg #[.int .i64 s, .slice A3 n c3, .slice A4 n4 c4])) (((w2.setCell ⟨w.heap.size + 1, 0, none⟩ (.int .i64 s)).setCell ⟨w.heap.size + 1, 1, none⟩ (.slice A3 n c3)).setCell ⟨w.heap.size + 1, 2, none⟩ (.slice A4 n4 c4)) := by
    have o5 := (o3.below hb2 (Nat.le_refl _)).only (set3_only w2 (w.heap.size + 1) (.int .i64 s) (.slice A3 n c3) (.slice A4 n4 c4)) (.inr (by omega))
    have o6 := o4.only (set3_only w2 (w.heap.size + 1) (.int .i64 s) (.slice A3 n c3) (.slice A4 n4 c4)) (.inr (by omega))
    exact ⟨A3, n, c3, A4, n4, c4, rfl, ⟨Nat.le_refl _, _, _, _, _, o5, o6, .inl (Nat.le_refl _), by omega, by omega, o5.hi_le, o6.hi_le⟩, Below.only (hbw.trans (hB2.mono (by rw [HGN.out]; omega))) (set3_only _ _ _ _ _) (by omega) (by omega)⟩
  have HFIN := Lib.hid hfin
  clear hfin o3 o4 hb2 hB2 hB3 bz3 hO2 hO3 hO4 hbw hown' hg' hat'
  go_wp2_with fail
  refine bodyPost_ret (v := .agg #[.int .i64 s, .slice A3 n c3, .slice A4 n4 c4]) (by simp [results, Try.results19, go_sem, z0, z1, z2]) rfl ?_
  exact HFIN.out
theorem epoch_no {s : Int} {seen : List Int} {pl : List Peel} {sec : Int} (h : ¬ (mixB ⟨s, seen, pl⟩ = true ∧ elB sec = true)) : epochP ⟨s, seen, pl⟩ sec = zeroMix := if_neg h
theorem epoch_noB {s : Int} {seen : List Int} {pl : List Peel} {sec : Int} (h : mixB ⟨s, seen, pl⟩ = false ∨ elB sec = false) : ¬ (mixB ⟨s, seen, pl⟩ = true ∧ elB sec = true) ∧ epochB ⟨s, seen, pl⟩ sec = false := by
  rcases h with h | h
  · exact ⟨(fun g => by rw [h] at g; exact absurd g.1 (by simp)), by simp [epochB, h]⟩
  · exact ⟨(fun g => by rw [h] at g; exact absurd g.2 (by simp)), by simp [epochB, h]⟩
theorem epoch_same {s : Int} {seen : List Int} {pl : List Peel} {sec : Int} (h : mixB ⟨s, seen, pl⟩ = true) (he : elB sec = true) (e : sec = s) : epochP ⟨s, seen, pl⟩ sec = ⟨s, seen, pl⟩ := by
  subst e; simp [epochP, h, he]
theorem epoch_sameB {s : Int} {seen : List Int} {pl : List Peel} {sec : Int} (e : sec = s) : epochB ⟨s, seen, pl⟩ sec = false := by simp [epochB, e]
theorem epoch_other {s : Int} {seen : List Int} {pl : List Peel} {sec : Int} (h : mixB ⟨s, seen, pl⟩ = true) (he : elB sec = true) (e : ¬ sec = s) : epochP ⟨s, seen, pl⟩ sec = ⟨sec, [], pl⟩ := by
  simp [epochP, h, he, e]
theorem epoch_otherB {s : Int} {seen : List Int} {pl : List Peel} {sec : Int} (h : mixB ⟨s, seen, pl⟩ = true) (he : elB sec = true) (e : ¬ sec = s) : epochB ⟨s, seen, pl⟩ sec = true := by simp [epochB, h, he, e]
set_option maxRecDepth 100000 in
set_option maxHeartbeats 6400000 in
theorem mixEpoch_c (s : Int) (A : Option Addr) (n c : Nat) (A2 : Option Addr) (n2 c2 lo hi : Nat) (seen : List Int) (pl : List Peel) (sec : Int) (w : World) (hs : MixR w lo hi seen pl A n c A2 n2 c2) (hn : n ≤ 4194304) (hn2 : n2 ≤ 4194304) (_hpl : PlB 4194304 pl) : Calls Try.prog 6 #[.agg #[.int .i64 s, .slice A n c, .slice A2 n2 c2], .int .i64 sec] w (NewMixB (epochP ⟨s, seen, pl⟩ sec).secret (epochP ⟨s, seen, pl⟩ sec).seen (epochP ⟨s, seen, pl⟩ sec).pool (epochB ⟨s, seen, pl⟩ sec) w) := by
  have hhi := hs.hi_le
  have hs0 := (hs.alloc (.cells #[.int .i64 s, .slice A n c, .slice A2 n2 c2] 26)).alloc (.cells #[.int .i64 0, .slice none 0 0, .slice none 0 0] 26)
  have bx : BoxAt ((w.alloc (.cells #[.int .i64 s, .slice A n c, .slice A2 n2 c2] 26)).alloc (.cells #[.int .i64 0, .slice none 0 0, .slice none 0 0] 26)) w.heap.size #[.int .i64 s, .slice A n c, .slice A2 n2 c2] 26 := (BoxAt.new w #[.int .i64 s, .slice A n c, .slice A2 n2 c2] 26).alloc _
  have bz : BoxAt ((w.alloc (.cells #[.int .i64 s, .slice A n c, .slice A2 n2 c2] 26)).alloc (.cells #[.int .i64 0, .slice none 0 0, .slice none 0 0] 26)) (w.heap.size + 1) #[.int .i64 0, .slice none 0 0, .slice none 0 0] 26 := by
    have := BoxAt.new (w.alloc (.cells #[.int .i64 s, .slice A n c, .slice A2 n2 c2] 26)) #[.int .i64 0, .slice none 0 0, .slice none 0 0] 26
    simpa using this
  have hbw : Below w.heap.size w ((w.alloc (.cells #[.int .i64 s, .slice A n c, .slice A2 n2 c2] 26)).alloc (.cells #[.int .i64 0, .slice none 0 0, .slice none 0 0] 26)) := ((Below.refl w.heap.size w).alloc (Nat.le_refl _) _).alloc (by simp) _
  have hsz0 : w.heap.size + 2 ≤ ((w.alloc (.cells #[.int .i64 s, .slice A n c, .slice A2 n2 c2] 26)).alloc (.cells #[.int .i64 0, .slice none 0 0, .slice none 0 0] 26)).heap.size := by simp
  obtain ⟨mb, hmb⟩ : ∃ b', b' = mixB ⟨s, seen, pl⟩ := ⟨_, rfl⟩
  have HMB := Lib.hid hmb
  clear hs hmb
  go_enter Try.func6, Try.ntmps6
  go_wp2_with fail
  refine ((mixValid_c _ _ _ _ _ _ _ _ _ _ _ _ hs0 (by omega) (by omega)).mono fun _ _ h => (show Tells mb _ _ _ by rw [HMB.out]; exact h)).mono ?_
  rintro e' w2 ⟨rfl, hb⟩
  have hz2 := hb.size
  have hs2 := hs0.below hb hs0.hi_le
  have bx2 := bx.below hb (by omega)
  have bz2 := bz.below hb (by omega)
  have hb2 := hbw.trans (hb.mono (by omega))
  obtain ⟨p0, p1, p2⟩ := bx2.three
  obtain ⟨z0, z1, z2⟩ := bz2.three
  have zf := bz2.frozen
  clear hs0 bx bz hbw hb
  cases mb with
  | false =>
    have HNO := Lib.hid (epoch_noB (s := s) (seen := seen) (pl := pl) (sec := sec) (.inl HMB.out.symm))
    clear bx2 bz2
    have hfin : NewMixB (epochP ⟨s, seen, pl⟩ sec).secret (epochP ⟨s, seen, pl⟩ sec).seen (epochP ⟨s, seen, pl⟩ sec).pool (epochB ⟨s, seen, pl⟩ sec) w (.returned (.tuple #[.agg #[.int .i64 0, .slice none 0 0, .slice none 0 0], .bool false])) (((w2.setCell ⟨w.heap.size + 1, 0, none⟩ (.int .i64 0)).setCell ⟨w.heap.size + 1, 1, none⟩ (.slice none 0 0)).setCell ⟨w.heap.size + 1, 2, none⟩ (.slice none 0 0)) := by
      have hon := set3_only w2 (w.heap.size + 1) (.int .i64 0) (.slice none 0 0) (.slice none 0 0)
      rw [epoch_no HNO.out.1, HNO.out.2]
      exact ⟨none, 0, 0, none, 0, 0, rfl, MixO.none_ (Nat.le_refl _), Below.only hb2 hon hb2.size (by omega)⟩
    have HFIN := Lib.hid hfin
    clear hfin hb2 hs2
    go_wp2_with (go_at_call 16; refine (isElement_c _ _).mono ?_; rintro e' w' ⟨rfl, rfl⟩)
    refine bodyPost_ret (v := .tuple #[.agg #[.int .i64 0, .slice none 0 0, .slice none 0 0], .bool false]) (by simp [results, Try.results6, go_sem, z0, z1, z2]) rfl ?_
    exact HFIN.out
  | true =>
    cases hse : elB sec with
    | false =>
      have HNO := Lib.hid (epoch_noB (s := s) (seen := seen) (pl := pl) (sec := sec) (.inr hse))
      clear bx2 bz2
      have hfin : NewMixB (epochP ⟨s, seen, pl⟩ sec).secret (epochP ⟨s, seen, pl⟩ sec).seen (epochP ⟨s, seen, pl⟩ sec).pool (epochB ⟨s, seen, pl⟩ sec) w (.returned (.tuple #[.agg #[.int .i64 0, .slice none 0 0, .slice none 0 0], .bool false])) (((w2.setCell ⟨w.heap.size + 1, 0, none⟩ (.int .i64 0)).setCell ⟨w.heap.size + 1, 1, none⟩ (.slice none 0 0)).setCell ⟨w.heap.size + 1, 2, none⟩ (.slice none 0 0)) := by
        have hon := set3_only w2 (w.heap.size + 1) (.int .i64 0) (.slice none 0 0) (.slice none 0 0)
        rw [epoch_no HNO.out.1, HNO.out.2]
        exact ⟨none, 0, 0, none, 0, 0, rfl, MixO.none_ (Nat.le_refl _), Below.only hb2 hon hb2.size (by omega)⟩
      have HFIN := Lib.hid hfin
      clear hfin hb2 hs2
      go_wp2_with (go_at_call 16; refine (isElement_c _ _).mono ?_; rintro e' w' ⟨rfl, rfl⟩)
      refine bodyPost_ret (v := .tuple #[.agg #[.int .i64 0, .slice none 0 0, .slice none 0 0], .bool false]) (by simp [results, Try.results6, go_sem, z0, z1, z2]) rfl ?_
      exact HFIN.out
    | true =>
      have HM := Lib.hid HMB.out.symm
      have HSE := Lib.hid hse
      obtain ⟨hm1, hm2, hm3, _, hm5⟩ := mixB_iff.1 HMB.out.symm
      have hnn : n ≤ 12 := by rw [← hs2.len.1]; exact hm2
      have hnn2 : n2 ≤ 5 := by rw [← hs2.len.2]; exact hm3
      have hpb : PlB 1000000 pl := fun x hx => by
        have h1 := hm5 x hx
        simp only [okPeelB, Bool.and_eq_true] at h1
        obtain ⟨_, _, h9, _, h6, _⟩ := validB_iff.1 h1.2
        omega
      have HPB := Lib.hid hpb
      clear hm1 hm2 hm3 hm5 hpb
      go_wp2_with (go_at_call 16; refine (isElement_c _ _).mono ?_; rintro e' w' ⟨rfl, rfl⟩)
      refine (copyMix_c _ _ _ _ _ _ _ _ _ _ _ _ hs2 (by omega) (by omega) HPB.out).mono ?_
      rintro e' w3 ⟨A3, n3, c3, A4, n4, c4, rfl, o3, hb3⟩
      have hz3 := hb3.size
      have bx3 := (bx2.below hb3 (by omega)).alloc (.cells #[.int .i64 s, .slice A3 n3 c3, .slice A4 n4 c4] 26)
      have bz3 := bz2.below hb3 (by omega)
      have bz4 := bz3.alloc (.cells #[.int .i64 s, .slice A3 n3 c3, .slice A4 n4 c4] 26)
      have bo := BoxAt.new w3 #[.int .i64 s, .slice A3 n3 c3, .slice A4 n4 c4] 26
      have oF := o3.alloc (.cells #[.int .i64 s, .slice A3 n3 c3, .slice A4 n4 c4] 26)
      have hbF := (hb2.trans (hb3.mono (by omega))).alloc (by omega) (.cells #[.int .i64 s, .slice A3 n3 c3, .slice A4 n4 c4] 26)
      have hsF : (w3.alloc (.cells #[.int .i64 s, .slice A3 n3 c3, .slice A4 n4 c4] 26)).heap.size = w3.heap.size + 1 := by simp
      clear p0 p1 p2 z0 z1 z2 zf
      obtain ⟨p0, p1, p2⟩ := bx3.three
      obtain ⟨z0, z1, z2⟩ := bz4.three
      obtain ⟨r0, r1, r2⟩ := bo.three
      have rf := bo.frozen
      have zf := bz4.frozen
      have hne1 : ¬ w3.heap.size = w.heap.size + 1 := by omega
      have hne2 : ¬ w.heap.size + 1 = w3.heap.size := by omega
      by_cases heq : sec = s
      · have hbq : (s == sec) = true := by simp [heq]
        have HEQ := Lib.hid heq
        clear heq
        have hfin : NewMixB (epochP ⟨s, seen, pl⟩ sec).secret (epochP ⟨s, seen, pl⟩ sec).seen (epochP ⟨s, seen, pl⟩ sec).pool (epochB ⟨s, seen, pl⟩ sec) w (.returned (.tuple #[.agg #[.int .i64 s, .slice A3 n3 c3, .slice A4 n4 c4], .bool false])) ((((w3.alloc (.cells #[.int .i64 s, .slice A3 n3 c3, .slice A4 n4 c4] 26)).setCell ⟨w.heap.size + 1, 0, none⟩ (.int .i64 s)).setCell ⟨w.heap.size + 1, 1, none⟩ (.slice A3 n3 c3)).setCell ⟨w.heap.size + 1, 2, none⟩ (.slice A4 n4 c4)) := by
          have hon := set3_only (w3.alloc (.cells #[.int .i64 s, .slice A3 n3 c3, .slice A4 n4 c4] 26)) (w.heap.size + 1) (.int .i64 s) (.slice A3 n3 c3) (.slice A4 n4 c4)
          rw [epoch_same HM.out HSE.out HEQ.out, epoch_sameB HEQ.out]
          exact ⟨A3, n3, c3, A4, n4, c4, rfl, (oF.only hon (.inr (by omega))).wider (by omega) (by rw [set3_size]; exact oF.hi_le) (Nat.le_refl _), Below.only hbF hon hbF.size (by omega)⟩
        have HFIN := Lib.hid hfin
        clear hfin oF hbF o3 hb3 bz3 bz4 bx3 bo
        go_wp2_with (go_at_call 16; refine (isElement_c _ _).mono ?_; rintro e' w' ⟨rfl, rfl⟩)
        refine bodyPost_ret (v := .tuple #[.agg #[.int .i64 s, .slice A3 n3 c3, .slice A4 n4 c4], .bool false]) (by simp [results, Try.results6, go_sem, z0, z1, z2]) rfl ?_
        exact HFIN.out
      · have hbq : (s == sec) = false := by simp; omega
        have HEQ := Lib.hid heq
        have hzw3 : w.heap.size + 2 ≤ w3.heap.size := by omega
        clear heq
        obtain ⟨_, qa, qb, pa, pb, oq, pF, _, _, hpa, _, hpb⟩ := o3
        have hpb3 : pb ≤ w3.heap.size := hpb
        have hpa3 : w2.heap.size ≤ pa := hpa
        have hle3 : w.heap.size ≤ w3.heap.size := by omega
        have bz5 := (bz3.alloc (.cells #[.int .i64 sec, .slice none 0 0, .slice A4 n4 c4] 26))
        clear z0 z1 z2 zf
        obtain ⟨z0, z1, z2⟩ := bz5.three
        have zf := bz5.frozen
        have hfin : NewMixB (epochP ⟨s, seen, pl⟩ sec).secret (epochP ⟨s, seen, pl⟩ sec).seen (epochP ⟨s, seen, pl⟩ sec).pool (epochB ⟨s, seen, pl⟩ sec) w (.returned (.tuple #[.agg #[.int .i64 sec, .slice none 0 0, .slice A4 n4 c4], .bool true])) ((((w3.alloc (.cells #[.int .i64 sec, .slice none 0 0, .slice A4 n4 c4] 26)).setCell ⟨w.heap.size + 1, 0, none⟩ (.int .i64 sec)).setCell ⟨w.heap.size + 1, 1, none⟩ (.slice none 0 0)).setCell ⟨w.heap.size + 1, 2, none⟩ (.slice A4 n4 c4)) := by
          have hon := set3_only (w3.alloc (.cells #[.int .i64 sec, .slice none 0 0, .slice A4 n4 c4] 26)) (w.heap.size + 1) (.int .i64 sec) (.slice none 0 0) (.slice A4 n4 c4)
          rw [epoch_other HM.out HSE.out HEQ.out, epoch_otherB HM.out HSE.out HEQ.out]
          have e1 : (w3.alloc (.cells #[.int .i64 sec, .slice none 0 0, .slice A4 n4 c4] 26)).heap.size = w3.heap.size + 1 := by simp
          have p6 := ((pF.alloc (.cells #[.int .i64 sec, .slice none 0 0, .slice A4 n4 c4] 26))).only hon (.inr (by omega))
          have hb6 := Below.only ((hb2.trans (hb3.mono (by omega))).alloc hle3 (.cells #[.int .i64 sec, .slice none 0 0, .slice A4 n4 c4] 26)) hon (by simp; omega) (by omega)
          exact ⟨none, 0, 0, A4, n4, c4, rfl, ⟨Nat.le_refl _, _, _, _, _, OwnR.nil (Nat.le_refl _), p6, .inr p6.hi_le, hb6.size, by omega, Nat.le_refl _, p6.hi_le⟩, hb6⟩
        have HFIN := Lib.hid hfin
        clear hfin
        go_wp2_with (go_at_call 16; refine (isElement_c _ _).mono ?_; rintro e' w' ⟨rfl, rfl⟩)
        refine bodyPost_ret (v := .tuple #[.agg #[.int .i64 sec, .slice none 0 0, .slice A4 n4 c4], .bool true]) (by simp [results, Try.results6, go_sem, z0, z1, z2]) rfl ?_
        exact HFIN.out
set_option maxRecDepth 100000 in
set_option maxHeartbeats 6400000 in
theorem sMixEpoch_c (s : Int) (A : Option Addr) (n c : Nat) (A2 : Option Addr) (n2 c2 lo hi : Nat) (seen : List Int) (pl : List Peel) (sec : Int) (w : World) (hs : MixR w lo hi seen pl A n c A2 n2 c2) (hn : n ≤ 4194304) (hn2 : n2 ≤ 4194304) (hpl : PlB 4194304 pl) : Calls Try.prog 7 #[.agg #[.int .i64 s, .slice A n c, .slice A2 n2 c2], .int .i64 sec] w (NewMixB (epochP ⟨s, seen, pl⟩ sec).secret (epochP ⟨s, seen, pl⟩ sec).seen (epochP ⟨s, seen, pl⟩ sec).pool (epochB ⟨s, seen, pl⟩ sec) w) := by
  have hhi := hs.hi_le
  have hs0 := (hs.alloc (.cells #[.int .i64 s, .slice A n c, .slice A2 n2 c2] 26)).alloc (.cells #[.int .i64 0, .slice none 0 0, .slice none 0 0] 26)
  have bx : BoxAt ((w.alloc (.cells #[.int .i64 s, .slice A n c, .slice A2 n2 c2] 26)).alloc (.cells #[.int .i64 0, .slice none 0 0, .slice none 0 0] 26)) w.heap.size #[.int .i64 s, .slice A n c, .slice A2 n2 c2] 26 := (BoxAt.new w #[.int .i64 s, .slice A n c, .slice A2 n2 c2] 26).alloc _
  have bz : BoxAt ((w.alloc (.cells #[.int .i64 s, .slice A n c, .slice A2 n2 c2] 26)).alloc (.cells #[.int .i64 0, .slice none 0 0, .slice none 0 0] 26)) (w.heap.size + 1) #[.int .i64 0, .slice none 0 0, .slice none 0 0] 26 := by
    have := BoxAt.new (w.alloc (.cells #[.int .i64 s, .slice A n c, .slice A2 n2 c2] 26)) #[.int .i64 0, .slice none 0 0, .slice none 0 0] 26
    simpa using this
  have hbw : Below w.heap.size w ((w.alloc (.cells #[.int .i64 s, .slice A n c, .slice A2 n2 c2] 26)).alloc (.cells #[.int .i64 0, .slice none 0 0, .slice none 0 0] 26)) := ((Below.refl w.heap.size w).alloc (Nat.le_refl _) _).alloc (by simp) _
  have hsz0 : w.heap.size + 2 ≤ ((w.alloc (.cells #[.int .i64 s, .slice A n c, .slice A2 n2 c2] 26)).alloc (.cells #[.int .i64 0, .slice none 0 0, .slice none 0 0] 26)).heap.size := by simp
  obtain ⟨mb, hmb⟩ : ∃ b', b' = mixB ⟨s, seen, pl⟩ := ⟨_, rfl⟩
  have HMB := Lib.hid hmb
  clear hs hmb
  go_enter Try.func7, Try.ntmps7
  go_wp2_with fail
  refine ((sMixValid_c _ _ _ _ _ _ _ _ _ _ _ _ hs0 (by omega) (by omega) hpl).mono fun _ _ h => (show Tells mb _ _ _ by rw [HMB.out]; exact h)).mono ?_
  rintro e' w2 ⟨rfl, hb⟩
  have hz2 := hb.size
  have hs2 := hs0.below hb hs0.hi_le
  have bx2 := bx.below hb (by omega)
  have bz2 := bz.below hb (by omega)
  have hb2 := hbw.trans (hb.mono (by omega))
  obtain ⟨p0, p1, p2⟩ := bx2.three
  obtain ⟨z0, z1, z2⟩ := bz2.three
  have zf := bz2.frozen
  clear hs0 bx bz hbw hb
  cases mb with
  | false =>
    have HNO := Lib.hid (epoch_noB (s := s) (seen := seen) (pl := pl) (sec := sec) (.inl HMB.out.symm))
    clear bx2 bz2
    have hfin : NewMixB (epochP ⟨s, seen, pl⟩ sec).secret (epochP ⟨s, seen, pl⟩ sec).seen (epochP ⟨s, seen, pl⟩ sec).pool (epochB ⟨s, seen, pl⟩ sec) w (.returned (.tuple #[.agg #[.int .i64 0, .slice none 0 0, .slice none 0 0], .bool false])) (((w2.setCell ⟨w.heap.size + 1, 0, none⟩ (.int .i64 0)).setCell ⟨w.heap.size + 1, 1, none⟩ (.slice none 0 0)).setCell ⟨w.heap.size + 1, 2, none⟩ (.slice none 0 0)) := by
      have hon := set3_only w2 (w.heap.size + 1) (.int .i64 0) (.slice none 0 0) (.slice none 0 0)
      rw [epoch_no HNO.out.1, HNO.out.2]
      exact ⟨none, 0, 0, none, 0, 0, rfl, MixO.none_ (Nat.le_refl _), Below.only hb2 hon hb2.size (by omega)⟩
    have HFIN := Lib.hid hfin
    clear hfin hb2 hs2
    go_wp2_with (go_at_call 18; refine (l1Is_c _ _).mono ?_; rintro e' w' ⟨rfl, rfl⟩)
    refine bodyPost_ret (v := .tuple #[.agg #[.int .i64 0, .slice none 0 0, .slice none 0 0], .bool false]) (by simp [results, Try.results7, go_sem, z0, z1, z2]) rfl ?_
    exact HFIN.out
  | true =>
    cases hse : elB sec with
    | false =>
      have HNO := Lib.hid (epoch_noB (s := s) (seen := seen) (pl := pl) (sec := sec) (.inr hse))
      clear bx2 bz2
      have hfin : NewMixB (epochP ⟨s, seen, pl⟩ sec).secret (epochP ⟨s, seen, pl⟩ sec).seen (epochP ⟨s, seen, pl⟩ sec).pool (epochB ⟨s, seen, pl⟩ sec) w (.returned (.tuple #[.agg #[.int .i64 0, .slice none 0 0, .slice none 0 0], .bool false])) (((w2.setCell ⟨w.heap.size + 1, 0, none⟩ (.int .i64 0)).setCell ⟨w.heap.size + 1, 1, none⟩ (.slice none 0 0)).setCell ⟨w.heap.size + 1, 2, none⟩ (.slice none 0 0)) := by
        have hon := set3_only w2 (w.heap.size + 1) (.int .i64 0) (.slice none 0 0) (.slice none 0 0)
        rw [epoch_no HNO.out.1, HNO.out.2]
        exact ⟨none, 0, 0, none, 0, 0, rfl, MixO.none_ (Nat.le_refl _), Below.only hb2 hon hb2.size (by omega)⟩
      have HFIN := Lib.hid hfin
      clear hfin hb2 hs2
      go_wp2_with (go_at_call 18; refine (l1Is_c _ _).mono ?_; rintro e' w' ⟨rfl, rfl⟩)
      refine bodyPost_ret (v := .tuple #[.agg #[.int .i64 0, .slice none 0 0, .slice none 0 0], .bool false]) (by simp [results, Try.results7, go_sem, z0, z1, z2]) rfl ?_
      exact HFIN.out
    | true =>
      have HM := Lib.hid HMB.out.symm
      have HSE := Lib.hid hse
      obtain ⟨hm1, hm2, hm3, _, hm5⟩ := mixB_iff.1 HMB.out.symm
      have hnn : n ≤ 12 := by rw [← hs2.len.1]; exact hm2
      have hnn2 : n2 ≤ 5 := by rw [← hs2.len.2]; exact hm3
      have hpb : PlB 1000000 pl := fun x hx => by
        have h1 := hm5 x hx
        simp only [okPeelB, Bool.and_eq_true] at h1
        obtain ⟨_, _, h9, _, h6, _⟩ := validB_iff.1 h1.2
        omega
      have HPB := Lib.hid hpb
      clear hm1 hm2 hm3 hm5 hpb
      go_wp2_with (go_at_call 18; refine (l1Is_c _ _).mono ?_; rintro e' w' ⟨rfl, rfl⟩)
      refine (l11Copy_c _ _ _ _ _ _ _ _ _ _ _ _ hs2 (by omega) (by omega) HPB.out).mono ?_
      rintro e' w3 ⟨A3, n3, c3, A4, n4, c4, rfl, o3, hb3⟩
      have hz3 := hb3.size
      have bx3 := (bx2.below hb3 (by omega)).alloc (.cells #[.int .i64 s, .slice A3 n3 c3, .slice A4 n4 c4] 26)
      have bz3 := bz2.below hb3 (by omega)
      have bz4 := bz3.alloc (.cells #[.int .i64 s, .slice A3 n3 c3, .slice A4 n4 c4] 26)
      have bo := BoxAt.new w3 #[.int .i64 s, .slice A3 n3 c3, .slice A4 n4 c4] 26
      have oF := o3.alloc (.cells #[.int .i64 s, .slice A3 n3 c3, .slice A4 n4 c4] 26)
      have hbF := (hb2.trans (hb3.mono (by omega))).alloc (by omega) (.cells #[.int .i64 s, .slice A3 n3 c3, .slice A4 n4 c4] 26)
      have hsF : (w3.alloc (.cells #[.int .i64 s, .slice A3 n3 c3, .slice A4 n4 c4] 26)).heap.size = w3.heap.size + 1 := by simp
      clear p0 p1 p2 z0 z1 z2 zf
      obtain ⟨p0, p1, p2⟩ := bx3.three
      obtain ⟨z0, z1, z2⟩ := bz4.three
      obtain ⟨r0, r1, r2⟩ := bo.three
      have rf := bo.frozen
      have zf := bz4.frozen
      have hne1 : ¬ w3.heap.size = w.heap.size + 1 := by omega
      have hne2 : ¬ w.heap.size + 1 = w3.heap.size := by omega
      by_cases heq : sec = s
      · have hbq : (sec == s) = true := by simp [heq]
        have HEQ := Lib.hid heq
        clear heq
        have hfin : NewMixB (epochP ⟨s, seen, pl⟩ sec).secret (epochP ⟨s, seen, pl⟩ sec).seen (epochP ⟨s, seen, pl⟩ sec).pool (epochB ⟨s, seen, pl⟩ sec) w (.returned (.tuple #[.agg #[.int .i64 s, .slice A3 n3 c3, .slice A4 n4 c4], .bool false])) ((((w3.alloc (.cells #[.int .i64 s, .slice A3 n3 c3, .slice A4 n4 c4] 26)).setCell ⟨w.heap.size + 1, 0, none⟩ (.int .i64 s)).setCell ⟨w.heap.size + 1, 1, none⟩ (.slice A3 n3 c3)).setCell ⟨w.heap.size + 1, 2, none⟩ (.slice A4 n4 c4)) := by
          have hon := set3_only (w3.alloc (.cells #[.int .i64 s, .slice A3 n3 c3, .slice A4 n4 c4] 26)) (w.heap.size + 1) (.int .i64 s) (.slice A3 n3 c3) (.slice A4 n4 c4)
          rw [epoch_same HM.out HSE.out HEQ.out, epoch_sameB HEQ.out]
          exact ⟨A3, n3, c3, A4, n4, c4, rfl, (oF.only hon (.inr (by omega))).wider (by omega) (by rw [set3_size]; exact oF.hi_le) (Nat.le_refl _), Below.only hbF hon hbF.size (by omega)⟩
        have HFIN := Lib.hid hfin
        clear hfin oF hbF o3 hb3 bz3 bz4 bx3 bo
        go_wp2_with (go_at_call 18; refine (l1Is_c _ _).mono ?_; rintro e' w' ⟨rfl, rfl⟩)
        refine bodyPost_ret (v := .tuple #[.agg #[.int .i64 s, .slice A3 n3 c3, .slice A4 n4 c4], .bool false]) (by simp [results, Try.results7, go_sem, z0, z1, z2]) rfl ?_
        exact HFIN.out
      · have hbq : (sec == s) = false := by simp; omega
        have HEQ := Lib.hid heq
        have hzw3 : w.heap.size + 2 ≤ w3.heap.size := by omega
        clear heq
        obtain ⟨_, qa, qb, pa, pb, oq, pF, _, _, hpa, _, hpb⟩ := o3
        have hpb3 : pb ≤ w3.heap.size := hpb
        have hpa3 : w2.heap.size ≤ pa := hpa
        have hle3 : w.heap.size ≤ w3.heap.size := by omega
        have bz5 := (bz3.alloc (.cells #[.int .i64 sec, .slice (some ⟨w3.heap.size + 1, 0, none⟩) 0 0, .slice A4 n4 c4] 26)).alloc (.cells #[] 3)
        clear z0 z1 z2 zf
        obtain ⟨z0, z1, z2⟩ := bz5.three
        have zf := bz5.frozen
        have hfin : NewMixB (epochP ⟨s, seen, pl⟩ sec).secret (epochP ⟨s, seen, pl⟩ sec).seen (epochP ⟨s, seen, pl⟩ sec).pool (epochB ⟨s, seen, pl⟩ sec) w (.returned (.tuple #[.agg #[.int .i64 sec, .slice (some ⟨w3.heap.size + 1, 0, none⟩) 0 0, .slice A4 n4 c4], .bool true])) (((((w3.alloc (.cells #[.int .i64 sec, .slice (some ⟨w3.heap.size + 1, 0, none⟩) 0 0, .slice A4 n4 c4] 26)).alloc (.cells #[] 3)).setCell ⟨w.heap.size + 1, 0, none⟩ (.int .i64 sec)).setCell ⟨w.heap.size + 1, 1, none⟩ (.slice (some ⟨w3.heap.size + 1, 0, none⟩) 0 0)).setCell ⟨w.heap.size + 1, 2, none⟩ (.slice A4 n4 c4)) := by
          have hon := set3_only ((w3.alloc (.cells #[.int .i64 sec, .slice (some ⟨w3.heap.size + 1, 0, none⟩) 0 0, .slice A4 n4 c4] 26)).alloc (.cells #[] 3)) (w.heap.size + 1) (.int .i64 sec) (.slice (some ⟨w3.heap.size + 1, 0, none⟩) 0 0) (.slice A4 n4 c4)
          rw [epoch_other HM.out HSE.out HEQ.out, epoch_otherB HM.out HSE.out HEQ.out]
          have e1 : (w3.alloc (.cells #[.int .i64 sec, .slice (some ⟨w3.heap.size + 1, 0, none⟩) 0 0, .slice A4 n4 c4] 26)).heap.size = w3.heap.size + 1 := by simp
          have p6 := ((pF.alloc (.cells #[.int .i64 sec, .slice (some ⟨w3.heap.size + 1, 0, none⟩) 0 0, .slice A4 n4 c4] 26)).alloc (.cells #[] 3)).only hon (.inr (by omega))
          have hE := (own_madeC (w3.alloc (.cells #[.int .i64 sec, .slice (some ⟨w3.heap.size + 1, 0, none⟩) 0 0, .slice A4 n4 c4] 26)) (w3.heap.size + 1) e1).only hon (.inr (by omega))
          have hb6 := Below.only (((hb2.trans (hb3.mono (by omega))).alloc hle3 (.cells #[.int .i64 sec, .slice (some ⟨w3.heap.size + 1, 0, none⟩) 0 0, .slice A4 n4 c4] 26)).alloc (by rw [e1]; omega) (.cells #[] 3)) hon (by simp; omega) (by omega)
          exact ⟨_, 0, 0, A4, n4, c4, rfl, ⟨Nat.le_refl _, _, _, _, _, hE, p6, .inr (by omega), by omega, by omega, hE.hi_le, p6.hi_le⟩, hb6⟩
        have HFIN := Lib.hid hfin
        clear hfin
        go_wp2_with (go_at_call 18; refine (l1Is_c _ _).mono ?_; rintro e' w' ⟨rfl, rfl⟩)
        refine bodyPost_ret (v := .tuple #[.agg #[.int .i64 sec, .slice (some ⟨w3.heap.size + 1, 0, none⟩) 0 0, .slice A4 n4 c4], .bool true]) (by simp [results, Try.results7, go_sem, z0, z1, z2]) rfl ?_
        exact HFIN.out
end Go.Proofs.Ytoocjalhcliebaa
