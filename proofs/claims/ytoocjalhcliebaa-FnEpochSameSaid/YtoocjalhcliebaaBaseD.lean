/-
  Words and contracts, joined: Cmp, CmpB, Copy.
  No condition.
-/
import Derived.Test.YtoocjalhcliebaaBaseC
import Derived.Maps.AppendAt
namespace Go.Proofs.Ytoocjalhcliebaa
section
open Go Go.RowKit

theorem tagP_eq' {k : Int} {xs : List Int} (hk : elB k = true) (hx : listB xs = true) : tagP k xs = tagF (tag0 k xs.length) xs := if_pos ⟨hk, hx⟩

end
section
open Go Go.RowKit

/-- Equality of lists, as the program answers it. -/
def sameB (xs ys : List Int) : Bool := decide (xs = ys)
theorem sameB_self (xs : List Int) : sameB xs xs = true := by simp [sameB]
theorem sameB_iff {xs ys : List Int} : sameB xs ys = true ↔ xs = ys := by simp [sameB]
theorem sameB_ne {xs ys : List Int} (h : xs ≠ ys) : sameB xs ys = false := by simp [sameB, h]
def SameTo (xs ys : List Int) (k : Nat) : Prop := ∀ j, j < k → xs.getD j 0 = ys.getD j 0
theorem SameTo.zero (xs ys : List Int) : SameTo xs ys 0 := fun j hj => by omega
theorem SameTo.next {xs ys : List Int} {k : Nat} {a b : Int} (h : SameTo xs ys k) (ha : a = xs.getD k 0) (hb : b = ys.getD k 0) (e : a = b) : SameTo xs ys (k + 1) := fun j hj => by
  by_cases g : j = k
  · subst g; rw [← ha, ← hb, e]
  · exact h j (by omega)
theorem SameTo.all {xs ys : List Int} {n : Nat} (h : SameTo xs ys n) (hx : xs.length = n) (hy : ys.length = n) : xs = ys := ext_getD (by omega) fun i hi => h i (by omega)
theorem below_drewN {B : Nat} {a w : World} (h : Below B a w) (n : Nat) : Below B a (w.drewN n) := ⟨h.os, h.tape, h.output, h.size, h.block⟩
/-- A call that returns a truth value and touches nothing old. -/
def Tells (b : Bool) (w : World) (e : Ending) (w' : World) : Prop := e = .returned (.bool b) ∧ Below w.heap.size w w'

set_option maxHeartbeats 800000 in
theorem sameInts_c (A : Option Addr) (n c lo hi : Nat) (xs : List Int) (A2 : Option Addr) (n2 c2 lo2 hi2 : Nat) (ys : List Int) (w : World) (hs : SlR .i64 w lo hi A n xs) (ht : SlR .i64 w lo2 hi2 A2 n2 ys) (hn : n ≤ 4611686018427387904) :
    Calls Try.prog 20 #[.slice A n c, .slice A2 n2 c2] w (Tells (sameB xs ys) w) := by
  have hl := hs.len
  have hl2 := ht.len
  by_cases hnn : n = n2
  · subst hnn
    have HL := Lib.hid hl
    have HL2 := Lib.hid hl2
    have hh := hs.hi_le
    have hh2 := ht.hi_le
    clear hl hl2
    go_enter Try.func20, Try.ntmps20
    go_wp2_with fail
    go_loopw [5] (fun i wr => ∃ k : Nat, k ≤ n ∧ i = .int .i64 k ∧ SameTo xs ys k ∧ Below w.heap.size w wr) (fun i _ => n - (intOf i).toNat)
    case atStart => exact ⟨0, Nat.zero_le _, rfl, SameTo.zero _ _, Below.refl _ _⟩
    case round =>
      obtain ⟨k, hk, rfl, hp, hnx⟩ := hrel
      by_cases hlt : k < n
      · obtain ⟨b, o, rfl, hb1, hb2, hc⟩ := hs.at_ (by omega)
        obtain ⟨b', o', rfl, hb1', hb2', hc'⟩ := ht.at_ (by omega)
        have hcell : wr.cell? ⟨b, o + k, none⟩ = some (.int .i64 (xs.getD k 0)) := (hnx.cell (p := ⟨b, o + k, none⟩) (by exact Nat.lt_of_lt_of_le hb2 hh)).trans (hc k hlt)
        have hcell' : wr.cell? ⟨b', o' + k, none⟩ = some (.int .i64 (ys.getD k 0)) := (hnx.cell (p := ⟨b', o' + k, none⟩) (by exact Nat.lt_of_lt_of_le hb2' hh2)).trans (hc' k hlt)
        obtain ⟨v, hv⟩ : ∃ v, v = xs.getD k 0 := ⟨_, rfl⟩
        obtain ⟨v', hv'⟩ : ∃ v, v = ys.getD k 0 := ⟨_, rfl⟩
        rw [← hv] at hcell
        rw [← hv'] at hcell'
        have HV := Lib.hid hv
        have HV' := Lib.hid hv'
        have hi0' : (0 : Int) ≤ (k : Int) := Int.natCast_nonneg _
        have hi1 : (k : Int) < (n : Int) := by omega
        clear hc hc' hv hv' hs ht
        by_cases he : v = v'
        · have hb : (v != v') = false := by simpa using he
          have HE := Lib.hid he
          clear he
          go_wp2_with fail
          go_quiet (fail)
          go_wp2
          go_roundw
          case rel => exact ⟨k + 1, by omega, by go_num, hp.next HV.out HV'.out HE.out, below_drewN hnx _⟩
          case measure => simp [intOf]; omega
        · have hb : (v != v') = true := by simpa using he
          have HE := Lib.hid he
          clear he
          go_wp2_with fail
          go_quiet (fail)
          go_wp2
          go_ret
          exact ⟨ret_b (sameB_ne (fun g => HE.out (by rw [HV.out, HV'.out, g]))).symm, below_drewN hnx _⟩
      · have hkn : k = n := by omega
        have hf : sameB xs ys = true := sameB_iff.2 ((by rw [← hkn]; exact hp : SameTo xs ys n).all HL.out HL2.out)
        have HF := Lib.hid hf
        clear hkn hf hs ht hp
        go_wp2
        go_ret
        exact ⟨ret_b HF.out.symm, hnx⟩
  · have hb : ((n : Int) != (n2 : Int)) = true := by simpa using (by omega : ¬ (n : Int) = (n2 : Int))
    have hf : sameB xs ys = false := sameB_ne (fun g => hnn (by rw [← hl, ← hl2, g]))
    have HF := Lib.hid hf
    clear hf hl hl2 hnn hs ht
    go_enter Try.func20, Try.ntmps20
    go_wp2
    go_ret
    exact ⟨ret_b HF.out.symm, Below.refl _ _⟩

end
section
open Go Go.RowKit

theorem add_off (b o j : Nat) : Addr.add ⟨b, o, none⟩ j = ⟨b, o + j, none⟩ := by
  unfold Addr.add
  split
  · subst_vars; simp
  · rfl
theorem run_append_none {P : Program} (w : World) (base : Nat) (t ty e : TypeId) (i : TypeInfo) (size : Nat) (ht : P.underlying t = some (.slice e)) (hi : P.info? e = some i)
    (v : Value) (n : Nat) (xs : List Value) (hown : w.ownsRow base e size v n xs) (c : Nat) : (Builtin.append_ #[t, t] ty #[v, .slice none 0 c]).run P w = .ok v w := by
  rcases hown.2 with ⟨rfl, rfl⟩ | ⟨g, cap, cur, rfl, _, _, hnc, _⟩
  · simp [Builtin.append_, run_underlying ht, sizeOf, typeInfo, hi, Builtin.lenOf, Builtin.firstCells]
  · simp [Builtin.append_, run_underlying ht, sizeOf, typeInfo, hi, Builtin.lenOf, Builtin.firstCells, hnc, storeCells]
/-- 'append(v, ys...)', v the call's own, ys whatever slice that reads as a list. -/
theorem run_append_sl {P : Program} (w : World) (base : Nat) (t ty e : TypeId) (i : TypeInfo) (ht : P.underlying t = some (.slice e)) (hi : P.info? e = some i) (hz : i.zero = some (.int .i64 0))
    (hsize : i.size = 1) (hby : i.bytes = 8) (v : Value) (n : Nat) (xs : List Value) (hown : w.ownsRow base e 1 v n xs)
    (lo hi' m c : Nat) (A : Option Addr) (ys : List Int) (hr : SlR .i64 w lo hi' A m ys) (hn : n + m ≤ 1000000) (hbase : base ≤ w.heap.size) :
    ∃ v' w', (Builtin.append_ #[t, t] ty #[v, .slice A m c]).run P w = .ok v' w' ∧ w'.ownsRow base e 1 v' (n + m) (xs ++ ints ys) ∧ w.grownBy w' v.ownBlock ∧ (v'.ownBlock = v.ownBlock ∨ v'.ownBlock = some w.heap.size) := by
  have hl := hr.len
  rcases A with _ | ad
  · have hm : m = 0 := by
      rcases Nat.eq_zero_or_pos m with h0 | h0
      · exact h0
      · obtain ⟨b, o, h, _⟩ := hr.2.2 h0; cases h
    subst hm
    have hy : ys = [] := List.eq_nil_of_length_eq_zero hl
    subst hy
    exact ⟨v, w, run_append_none w base t ty e i 1 ht hi v n xs hown c, by simpa [ints] using hown, World.grownBy.refl w _, .inl rfl⟩
  · have hcells : ∀ j u, (ints ys)[j]? = some u → w.cell? (ad.add j) = some u := by
      intro j u hu
      have hj : j < m := by
        have := (List.getElem?_eq_some_iff.1 hu).1
        simpa [ints, hl] using this
      obtain ⟨b, o, h, _, _, hc⟩ := hr.2.2 (by omega)
      injection h with h
      subst h
      rw [add_off, hc j hj, ← hu]
      simp [ints, List.getD_eq_getElem?_getD, hl, hj]
    obtain ⟨v', w', hrun, h2, h3, _, h5⟩ := run_append_own_at (P := P) w base t ty e i _ 1 8 ht hi hz hsize hby rfl (by omega) v n xs hown ad m c (ints ys) (by simp [ints, hl]) hcells
      (by intro u hu; simp only [ints, List.mem_map] at hu; obtain ⟨x, _, rfl⟩ := hu; rfl) (by unfold maxLen; omega) (by omega) hbase
    exact ⟨v', w', hrun, h2, h3, h5⟩
theorem wp_append_sl {P : Program} (w : World) {o : Oper} {a : Act} {K : Act → World → Prop} {Q : Exit → Act → World → Prop} (s x : Operand) (t : TypeId)
    (ho : o.op = .call { callee := .builtin .append, args := #[s, x], argTypes := #[t, t] })
    (base : Nat) (e : TypeId) (i : TypeInfo) (ht : P.underlying t = some (.slice e)) (hi : P.info? e = some i) (hz : i.zero = some (.int .i64 0)) (hsize : i.size = 1) (hby : i.bytes = 8)
    (v : Value) (n : Nat) (xs : List Value) (hs : a.eval s = v) (hown : w.ownsRow base e 1 v n xs)
    (lo hi' m c : Nat) (A : Option Addr) (ys : List Int) (hx : a.eval x = .slice A m c) (hr : SlR .i64 w lo hi' A m ys) (hn : n + m ≤ 1000000) (hbase : base ≤ w.heap.size)
    (h : ∀ v' w', w'.ownsRow base e 1 v' (n + m) (xs ++ ints ys) → w.grownBy w' v.ownBlock → (v'.ownBlock = v.ownBlock ∨ v'.ownBlock = some w.heap.size) → K (a.put o.dst v') w') : o.wp P a w K Q := by
  obtain ⟨v', w', hrun, h2, h3, h4⟩ := run_append_sl (P := P) w base t o.type e i ht hi hz hsize hby v n xs hown lo hi' m c A ys hr hn hbase
  unfold Oper.wp execOp
  simp only [ho, resolve, invoke, builtin, Sem.run_bind, Sem.run_pure, Result.andThen_ok, List.map_toArray, List.map_cons, List.map_nil, hs, hx, hrun]
  exact h v' w' h2 h3 h4
theorem wpList_append_sl {P : Program} (w : World) {ops : Array Oper} {rest : List Oper} {o : Oper} {a : Act} {Q : Exit → Act → World → Prop} (hgd : o.guard = none) (s x : Operand) (t : TypeId)
    (ho : o.op = .call { callee := .builtin .append, args := #[s, x], argTypes := #[t, t] })
    (base : Nat) (e : TypeId) (i : TypeInfo) (ht : P.underlying t = some (.slice e)) (hi : P.info? e = some i) (hz : i.zero = some (.int .i64 0)) (hsize : i.size = 1) (hby : i.bytes = 8)
    (v : Value) (n : Nat) (xs : List Value) (hs : a.eval s = v) (hown : w.ownsRow base e 1 v n xs)
    (lo hi' m c : Nat) (A : Option Addr) (ys : List Int) (hx : a.eval x = .slice A m c) (hr : SlR .i64 w lo hi' A m ys) (hn : n + m ≤ 1000000) (hbase : base ≤ w.heap.size)
    (h : ∀ v' w', w'.ownsRow base e 1 v' (n + m) (xs ++ ints ys) → w.grownBy w' v.ownBlock → (v'.ownBlock = v.ownBlock ∨ v'.ownBlock = some w.heap.size) → wpList P ops Q rest (a.put o.dst v') w') : wpList P ops Q (o :: rest) a w :=
  wpList_plain hgd fun _ hK => wp_append_sl w s x t ho base e i ht hi hz hsize hby v n xs hs hown lo hi' m c A ys hx hr hn hbase fun v' w' h2 h3 h4 => hK _ _ (h v' w' h2 h3 h4)

/-- What 'make([]int, 0, n)' leaves. -/
theorem run_make_zero {P : Program} (t e : TypeId) (i : TypeInfo) (ht : P.underlying t = some (.slice e)) (hi : P.info? e = some i) (hz : i.zero = some (.int .i64 0)) (hsz : i.size = 1) (hby : i.bytes = 8)
    (n : Nat) (hn : n ≤ 1000000) (w : World) :
    (Instr.makeSlice t (.int .i64 0) (.int .i64 (n : Int))).run P w = .ok (.slice (some ⟨w.heap.size, 0, none⟩) 0 n) (w.alloc (.cells (madeCells #[.int .i64 0] n) e)) := by
  have hr := run_make (P := P) w t e i (.int .i64 0) ht hi hz .i64 .i64 0 n (by omega) (by omega) (by rw [hby]; omega) (by omega)
  simpa [hsz, Value.cells] using hr
theorem clone_c (A : Option Addr) (n c lo hi : Nat) (xs : List Int) (w : World) (hs : SlR .i64 w lo hi A n xs) (hn : n ≤ 1000000) : Calls Try.prog 32 #[.slice A n c] w (NewInts xs w) := by
  obtain ⟨i0, hi0, hz0, hz1, hz2⟩ := info_parts Try.infoInt
  have hmk := fun W => run_make_zero (P := Try.prog) 23 3 i0 Try.underlying23 hi0 hz0 hz1 hz2 n hn W
  have hown0 : (w.alloc (.cells (madeCells #[.int .i64 0] n) 3)).ownsRow w.heap.size 3 1 (.slice (some ⟨w.heap.size, 0, none⟩) 0 n) 0 [] :=
    World.ownsRow_made w _ n (Nat.le_refl _) (by unfold maxLen; omega) (by rw [← Array.length_toList, toList_madeCells_one]; simp)
  have hsa := hs.alloc (.cells (madeCells #[.int .i64 0] n) 3)
  go_enter Try.func32, Try.ntmps32
  go_wp2_with (at_builtin; refine wpList_append_sl _ rfl _ _ 23 rfl w.heap.size 3 i0 Try.underlying23 hi0 hz0 hz1 hz2 _ 0 [] rfl hown0 lo hi n c A xs rfl hsa (by omega) (by simp) ?_)
  intro v' w1 hown1 hg1 _
  go_wp2
  go_ret
  exact NewInts.of_owns (by simpa [ints] using hown1) (((Below.refl _ _).alloc (Nat.le_refl _) _).grown hg1 (by simp) (fun k hk => by simp [Value.ownBlock] at hk; omega))

/-- The list of the marks: a, a + 1, .. -/
def marks (a : Int) (n : Nat) : List Int := (List.range n).map fun j : Nat => a + (j : Int)
theorem marks_len (a : Int) (n : Nat) : (marks a n).length = n := by simp [marks]
theorem marks_at (a : Int) {n j : Nat} (h : j < n) : (marks a n).getD j 0 = a + j := by simp [marks, h]
theorem set_marks {xs : List Int} {k : Nat} (hk : k < xs.length) (a : Int) : (marks a k ++ xs.drop k).set k (a + k) = marks a (k + 1) ++ xs.drop (k + 1) := by
  rw [List.set_append_right _ _ (by rw [marks_len]; exact Nat.le_refl _), marks_len, Nat.sub_self, List.drop_eq_getElem_cons hk]
  rw [List.set_cons_zero]
  simp [marks, List.range_succ]
theorem set_copy {xs : List Int} {k : Nat} (hk : k < xs.length) {v : Int} (hv : v = xs.getD k 0) : (xs.take k ++ List.replicate (xs.length - k) 0).set k v = xs.take (k + 1) ++ List.replicate (xs.length - (k + 1)) 0 := by
  rw [List.set_append_right _ _ (by simp; omega), List.length_take, Nat.min_eq_left (by omega), Nat.sub_self, take_at hk, hv]
  have : xs.length - k = (xs.length - (k + 1)) + 1 := by omega
  rw [this, List.replicate_succ]
  simp
theorem ints_set (xs : List Int) (k : Nat) (v : Int) : (ints xs).set k (.int .i64 v) = ints (xs.set k v) := by simp [ints, List.map_set]
theorem OwnR.stored {T : TypeId} {w : World} {lo hi g n c : Nat} {xs : List Int} (h : OwnR T w lo hi (some ⟨g, 0, none⟩) n c xs) (j : Nat) (v : Int) :
    OwnR T (w.setCell ⟨g, j, none⟩ (.int .i64 v)) lo hi (some ⟨g, 0, none⟩) n c (xs.set j v) ∧ w.grownBy (w.setCell ⟨g, j, none⟩ (.int .i64 v)) (some g) := by
  have hst := h.1.stored j (.int .i64 v)
  refine ⟨⟨?_, by simpa [World.setCell] using h.2.1, h.2.2⟩, hst.2⟩
  have he : (xs.map (Value.int .i64)).set j (.int .i64 v) = (xs.set j v).map (Value.int .i64) := ints_set xs j v
  rw [← he]
  exact hst.1
theorem grow_trans {a b c : World} {row : Option Nat} (h : a.grownBy b row) (k : b.grownBy c row) : a.grownBy c row :=
  ⟨k.os.trans h.os, k.tape.trans h.tape, k.output.trans h.output, Nat.le_trans h.size k.size, fun i hi hne => (k.block i (Nat.lt_of_lt_of_le hi h.size) hne).trans (h.block i hi hne)⟩

/-- A list of the call's own with its first k numbers replaced by marks. -/
def MarkTo (a : Int) (xs : List Int) (k : Nat) : List Int := marks a k ++ xs.drop k
/-- What marking leaves: the number behind the last mark; only the marked slice has changed. -/
def MarkPost (a : Int) (lo hi : Nat) (A : Option Addr) (n c : Nat) (w : World) (e : Ending) (w' : World) : Prop :=
  e = .returned (.int .i64 (a + (n : Int))) ∧ OwnR 3 w' lo hi A n c (marks a n) ∧ w.grownBy w' (Value.ownBlock (.slice A n c))

/-- A list copied up to place k; zeros behind. -/
def CopyTo (xs : List Int) (k : Nat) : List Int := xs.take k ++ List.replicate (xs.length - k) 0
end
end Go.Proofs.Ytoocjalhcliebaa
