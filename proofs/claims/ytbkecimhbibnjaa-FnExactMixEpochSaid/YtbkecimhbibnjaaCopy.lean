/-
  Contracts of the functions that copy and mark lists, and an append of a whole list to a slice of the call's own.
  Conditions: a list's slice reads as a list of whole numbers.
-/
import Derived.Test.YtbkecimhbibnjaaCmpB
namespace Go.Proofs.Ytbkecimhbibnjaa
open Go Go.RowKit

theorem add_off (b o j : Nat) : Addr.add ⟨b, o, none⟩ j = ⟨b, o + j, none⟩ := by
  unfold Addr.add
  split
  · subst_vars; simp
  · rfl
theorem run_append_none {P : Program} (w : World) (base : Nat) (t ty e : TypeId) (i : TypeInfo) (size : Nat) (ht : P.underlying t = some (.slice e)) (hi : P.info? e = some i)
    (v : Value) (n : Nat) (xs : List Value) (hown : w.ownsRow base e size v n xs) (c : Nat) : (Builtin.append_ #[t, t] ty #[v, .slice none 0 c]).run P w = .ok v w := by
  rcases hown.2 with ⟨rfl, rfl⟩ | ⟨g, cap, cur, rfl, _, _, hnc, _⟩
  · simp [Builtin.append_, run_underlying ht, sizeOf, typeInfo, hi, Builtin.lenOf, Builtin.firstCells]
  · simp [Builtin.append_, run_underlying ht, sizeOf, typeInfo, hi, Builtin.lenOf, Builtin.firstCells, hnc, storeCells]
/-- 'append(v, ys...)', v the call's own, ys whatever slice that reads as a list. -/
theorem run_append_sl {P : Program} (w : World) (base : Nat) (t ty e : TypeId) (i : TypeInfo) (ht : P.underlying t = some (.slice e)) (hi : P.info? e = some i) (hz : i.zero = some (.int .i64 0))
    (hsize : i.size = 1) (hby : i.bytes = 8) (v : Value) (n : Nat) (xs : List Value) (hown : w.ownsRow base e 1 v n xs)
    (lo hi' m c : Nat) (A : Option Addr) (ys : List Int) (hr : SlR .i64 w lo hi' A m ys) (hn : n + m ≤ 1000000) (hbase : base ≤ w.heap.size) :
    ∃ v' w', (Builtin.append_ #[t, t] ty #[v, .slice A m c]).run P w = .ok v' w' ∧ w'.ownsRow base e 1 v' (n + m) (xs ++ ints ys) ∧ w.grownBy w' v.ownBlock ∧ (v'.ownBlock = v.ownBlock ∨ v'.ownBlock = some w.heap.size) := by
  have hl := hr.len
  rcases A with _ | ad
  · have hm : m = 0 := by
      rcases Nat.eq_zero_or_pos m with h0 | h0
      · exact h0
      · obtain ⟨b, o, h, _⟩ := hr.2.2 h0; cases h
    subst hm
    have hy : ys = [] := List.eq_nil_of_length_eq_zero hl
    subst hy
    exact ⟨v, w, run_append_none w base t ty e i 1 ht hi v n xs hown c, by simpa [ints] using hown, World.grownBy.refl w _, .inl rfl⟩
  · have hcells : ∀ j u, (ints ys)[j]? = some u → w.cell? (ad.add j) = some u := by
      intro j u hu
      have hj : j < m := by
        have := (List.getElem?_eq_some_iff.1 hu).1
        simpa [ints, hl] using this
      obtain ⟨b, o, h, _, _, hc⟩ := hr.2.2 (by omega)
      injection h with h
      subst h
      rw [add_off, hc j hj, ← hu]
      simp [ints, List.getD_eq_getElem?_getD, hl, hj]
    obtain ⟨v', w', hrun, h2, h3, _, h5⟩ := run_append_own_at (P := P) w base t ty e i _ 1 8 ht hi hz hsize hby rfl (by omega) v n xs hown ad m c (ints ys) (by simp [ints, hl]) hcells
      (by intro u hu; simp only [ints, List.mem_map] at hu; obtain ⟨x, _, rfl⟩ := hu; rfl) (by unfold maxLen; omega) (by omega) hbase
    exact ⟨v', w', hrun, h2, h3, h5⟩
theorem wp_append_sl {P : Program} (w : World) {o : Oper} {a : Act} {K : Act → World → Prop} {Q : Exit → Act → World → Prop} (s x : Operand) (t : TypeId)
    (ho : o.op = .call { callee := .builtin .append, args := #[s, x], argTypes := #[t, t] })
    (base : Nat) (e : TypeId) (i : TypeInfo) (ht : P.underlying t = some (.slice e)) (hi : P.info? e = some i) (hz : i.zero = some (.int .i64 0)) (hsize : i.size = 1) (hby : i.bytes = 8)
    (v : Value) (n : Nat) (xs : List Value) (hs : a.eval s = v) (hown : w.ownsRow base e 1 v n xs)
    (lo hi' m c : Nat) (A : Option Addr) (ys : List Int) (hx : a.eval x = .slice A m c) (hr : SlR .i64 w lo hi' A m ys) (hn : n + m ≤ 1000000) (hbase : base ≤ w.heap.size)
    (h : ∀ v' w', w'.ownsRow base e 1 v' (n + m) (xs ++ ints ys) → w.grownBy w' v.ownBlock → (v'.ownBlock = v.ownBlock ∨ v'.ownBlock = some w.heap.size) → K (a.put o.dst v') w') : o.wp P a w K Q := by
  obtain ⟨v', w', hrun, h2, h3, h4⟩ := run_append_sl (P := P) w base t o.type e i ht hi hz hsize hby v n xs hown lo hi' m c A ys hr hn hbase
  unfold Oper.wp execOp
  simp only [ho, resolve, invoke, builtin, Sem.run_bind, Sem.run_pure, Result.andThen_ok, List.map_toArray, List.map_cons, List.map_nil, hs, hx, hrun]
  exact h v' w' h2 h3 h4
theorem wpList_append_sl {P : Program} (w : World) {ops : Array Oper} {rest : List Oper} {o : Oper} {a : Act} {Q : Exit → Act → World → Prop} (hgd : o.guard = none) (s x : Operand) (t : TypeId)
    (ho : o.op = .call { callee := .builtin .append, args := #[s, x], argTypes := #[t, t] })
    (base : Nat) (e : TypeId) (i : TypeInfo) (ht : P.underlying t = some (.slice e)) (hi : P.info? e = some i) (hz : i.zero = some (.int .i64 0)) (hsize : i.size = 1) (hby : i.bytes = 8)
    (v : Value) (n : Nat) (xs : List Value) (hs : a.eval s = v) (hown : w.ownsRow base e 1 v n xs)
    (lo hi' m c : Nat) (A : Option Addr) (ys : List Int) (hx : a.eval x = .slice A m c) (hr : SlR .i64 w lo hi' A m ys) (hn : n + m ≤ 1000000) (hbase : base ≤ w.heap.size)
    (h : ∀ v' w', w'.ownsRow base e 1 v' (n + m) (xs ++ ints ys) → w.grownBy w' v.ownBlock → (v'.ownBlock = v.ownBlock ∨ v'.ownBlock = some w.heap.size) → wpList P ops Q rest (a.put o.dst v') w') : wpList P ops Q (o :: rest) a w :=
  wpList_plain hgd fun _ hK => wp_append_sl w s x t ho base e i ht hi hz hsize hby v n xs hs hown lo hi' m c A ys hx hr hn hbase fun v' w' h2 h3 h4 => hK _ _ (h v' w' h2 h3 h4)

/-- What 'make([]int, 0, n)' leaves. -/
theorem run_make_zero {P : Program} (t e : TypeId) (i : TypeInfo) (ht : P.underlying t = some (.slice e)) (hi : P.info? e = some i) (hz : i.zero = some (.int .i64 0)) (hsz : i.size = 1) (hby : i.bytes = 8)
    (n : Nat) (hn : n ≤ 1000000) (w : World) :
    (Instr.makeSlice t (.int .i64 0) (.int .i64 (n : Int))).run P w = .ok (.slice (some ⟨w.heap.size, 0, none⟩) 0 n) (w.alloc (.cells (madeCells #[.int .i64 0] n) e)) := by
  have hr := run_make (P := P) w t e i (.int .i64 0) ht hi hz .i64 .i64 0 n (by omega) (by omega) (by rw [hby]; omega) (by omega)
  simpa [hsz, Value.cells] using hr
theorem clone_c (A : Option Addr) (n c lo hi : Nat) (xs : List Int) (w : World) (hs : SlR .i64 w lo hi A n xs) (hn : n ≤ 1000000) : Calls Try.prog 65 #[.slice A n c] w (NewInts xs w) := by
  obtain ⟨i0, hi0, hz0, hz1, hz2⟩ := info_parts Try.infoInt
  have hmk := fun W => run_make_zero (P := Try.prog) 23 3 i0 Try.underlying23 hi0 hz0 hz1 hz2 n hn W
  have hown0 : (w.alloc (.cells (madeCells #[.int .i64 0] n) 3)).ownsRow w.heap.size 3 1 (.slice (some ⟨w.heap.size, 0, none⟩) 0 n) 0 [] :=
    World.ownsRow_made w _ n (Nat.le_refl _) (by unfold maxLen; omega) (by rw [← Array.length_toList, toList_madeCells_one]; simp)
  have hsa := hs.alloc (.cells (madeCells #[.int .i64 0] n) 3)
  go_enter Try.func65, Try.ntmps65
  go_wp2_with (at_builtin; refine wpList_append_sl _ rfl _ _ 23 rfl w.heap.size 3 i0 Try.underlying23 hi0 hz0 hz1 hz2 _ 0 [] rfl hown0 lo hi n c A xs rfl hsa (by omega) (by simp) ?_)
  intro v' w1 hown1 hg1 _
  go_wp2
  go_ret
  exact NewInts.of_owns (by simpa [ints] using hown1) (((Below.refl _ _).alloc (Nat.le_refl _) _).grown hg1 (by simp) (fun k hk => by simp [Value.ownBlock] at hk; omega))

/-- The list of the marks: a, a + 1, .. -/
def marks (a : Int) (n : Nat) : List Int := (List.range n).map fun j : Nat => a + (j : Int)
theorem marks_len (a : Int) (n : Nat) : (marks a n).length = n := by simp [marks]
theorem marks_at (a : Int) {n j : Nat} (h : j < n) : (marks a n).getD j 0 = a + j := by simp [marks, h]
theorem set_marks {xs : List Int} {k : Nat} (hk : k < xs.length) (a : Int) : (marks a k ++ xs.drop k).set k (a + k) = marks a (k + 1) ++ xs.drop (k + 1) := by
  rw [List.set_append_right _ _ (by rw [marks_len]; exact Nat.le_refl _), marks_len, Nat.sub_self, List.drop_eq_getElem_cons hk]
  rw [List.set_cons_zero]
  simp [marks, List.range_succ]
theorem set_copy {xs : List Int} {k : Nat} (hk : k < xs.length) {v : Int} (hv : v = xs.getD k 0) : (xs.take k ++ List.replicate (xs.length - k) 0).set k v = xs.take (k + 1) ++ List.replicate (xs.length - (k + 1)) 0 := by
  rw [List.set_append_right _ _ (by simp; omega), List.length_take, Nat.min_eq_left (by omega), Nat.sub_self, take_at hk, hv]
  have : xs.length - k = (xs.length - (k + 1)) + 1 := by omega
  rw [this, List.replicate_succ]
  simp
theorem ints_set (xs : List Int) (k : Nat) (v : Int) : (ints xs).set k (.int .i64 v) = ints (xs.set k v) := by simp [ints, List.map_set]
theorem OwnR.stored {T : TypeId} {w : World} {lo hi g n c : Nat} {xs : List Int} (h : OwnR T w lo hi (some ⟨g, 0, none⟩) n c xs) (j : Nat) (v : Int) :
    OwnR T (w.setCell ⟨g, j, none⟩ (.int .i64 v)) lo hi (some ⟨g, 0, none⟩) n c (xs.set j v) ∧ w.grownBy (w.setCell ⟨g, j, none⟩ (.int .i64 v)) (some g) := by
  have hst := h.1.stored j (.int .i64 v)
  refine ⟨⟨?_, by simpa [World.setCell] using h.2.1, h.2.2⟩, hst.2⟩
  have he : (xs.map (Value.int .i64)).set j (.int .i64 v) = (xs.set j v).map (Value.int .i64) := ints_set xs j v
  rw [← he]
  exact hst.1
theorem grow_trans {a b c : World} {row : Option Nat} (h : a.grownBy b row) (k : b.grownBy c row) : a.grownBy c row :=
  ⟨k.os.trans h.os, k.tape.trans h.tape, k.output.trans h.output, Nat.le_trans h.size k.size, fun i hi hne => (k.block i (Nat.lt_of_lt_of_le hi h.size) hne).trans (h.block i hi hne)⟩

/-- A list of the call's own with its first k numbers replaced by marks. -/
def MarkTo (a : Int) (xs : List Int) (k : Nat) : List Int := marks a k ++ xs.drop k
/-- What marking leaves: the number behind the last mark; only the marked slice has changed. -/
def MarkPost (a : Int) (lo hi : Nat) (A : Option Addr) (n c : Nat) (w : World) (e : Ending) (w' : World) : Prop :=
  e = .returned (.int .i64 (a + (n : Int))) ∧ OwnR 3 w' lo hi A n c (marks a n) ∧ w.grownBy w' (Value.ownBlock (.slice A n c))

set_option maxHeartbeats 800000 in
theorem markIntS_c (a : Int) (A : Option Addr) (n c lo hi : Nat) (xs : List Int) (w : World) (hs : OwnR 3 w lo hi A n c xs) (hn : n ≤ 4194304) (ha : 0 ≤ a ∧ a ≤ 1000000000) :
    Calls Try.prog 75 #[.slice A n c, .int .i64 a] w (MarkPost a lo hi A n c w) := by
  have HL := Lib.hid hs.len
  obtain ⟨ha1, ha2⟩ := ha
  go_enter Try.func75, Try.ntmps75
  go_wp2_with fail
  go_loopw [1, 5] (fun m i wr => ∃ k : Nat, k ≤ n ∧ i = .int .i64 k ∧ m = .int .i64 (a + (k : Int)) ∧ OwnR 3 wr lo hi A n c (MarkTo a xs k) ∧ w.grownBy wr (Value.ownBlock (.slice A n c))) (fun _ i _ => n - (intOf i).toNat)
  case atStart => exact ⟨0, Nat.zero_le _, rfl, by simp, by simpa [MarkTo, marks] using hs, World.grownBy.refl _ _⟩
  case round =>
    obtain ⟨k, hk, rfl, rfl, hown, hgr⟩ := hrel
    by_cases hlt : k < n
    · obtain ⟨g, rfl, hg1, hg2, hc, hf⟩ := hown.at_ (by omega)
      have hcell := hc k hlt
      have hfro := hf k
      have hst := hown.stored k (a + (k : Int))
      have he : (MarkTo a xs k).set k (a + (k : Int)) = MarkTo a xs (k + 1) := set_marks (by rw [HL.out]; exact hlt) a
      rw [he] at hst
      obtain ⟨hst1, hst2⟩ := hst
      have hgr' := grow_trans hgr hst2
      have HS := Lib.hid hst1
      have HG := Lib.hid hgr'
      clear hc hf hown hgr hst1 hst2 hgr' he hs
      go_wp2
      go_roundw
      case rel => exact ⟨k + 1, by omega, by go_num, by go_num, HS.out, HG.out⟩
      case measure => simp [intOf]; omega
    · have hkn : k = n := by omega
      have he : MarkTo a xs k = marks a n := by rw [MarkTo, hkn, List.drop_of_length_le (by rw [HL.out]; exact Nat.le_refl _), List.append_nil]
      rw [he] at hown
      have HK := Lib.hid hkn
      have HO := Lib.hid hown
      have HG := Lib.hid hgr
      clear he hkn hs hown hgr
      go_wp2
      go_ret
      exact ⟨ret_i (by rw [HK.out]), HO.out, HG.out⟩
set_option maxHeartbeats 800000 in
theorem heldIntS_c (a : Int) (A : Option Addr) (n c lo hi : Nat) (w : World) (hs : SlR .i64 w lo hi A n (marks a n)) (hn : n ≤ 4194304) (ha : 0 ≤ a ∧ a ≤ 1000000000) :
    Calls Try.prog 77 #[.slice A n c, .int .i64 a] w fun e w' => e = .returned (.int .i64 (a + (n : Int))) ∧ w = w' := by
  obtain ⟨ha1, ha2⟩ := ha
  go_enter Try.func77, Try.ntmps77
  go_wp2_with fail
  go_loop [1, 5] (fun m i => ∃ k : Nat, k ≤ n ∧ i = .int .i64 k ∧ m = .int .i64 (a + (k : Int))) (fun _ i => n - (intOf i).toNat)
  case atStart => exact ⟨0, Nat.zero_le _, rfl, by simp⟩
  case round =>
    obtain ⟨k, hk, rfl, rfl⟩ := hrel
    by_cases hlt : k < n
    · obtain ⟨b, o, rfl, _, _, hc⟩ := hs.at_ (by omega)
      have hcell := hc k hlt
      rw [marks_at a hlt] at hcell
      clear hc hs
      go_wp2
      go_round
      case rel => exact ⟨k + 1, by omega, by go_num, by go_num⟩
      case measure => simp [intOf]; omega
    · have hkn : k = n := by omega
      have HK := Lib.hid hkn
      clear hkn hs
      go_wp2
      go_ret
      exact ⟨ret_i (by rw [HK.out]), rfl⟩
/-- A list copied up to place k; zeros behind. -/
def CopyTo (xs : List Int) (k : Nat) : List Int := xs.take k ++ List.replicate (xs.length - k) 0
set_option maxHeartbeats 800000 in
theorem toIntS_c (A : Option Addr) (n c lo hi : Nat) (xs : List Int) (w : World) (hs : SlR .i64 w lo hi A n xs) (hn : n ≤ 4194304) : Calls Try.prog 58 #[.slice A n c] w (NewInts xs w) := by
  have hh := hs.hi_le
  have HL := Lib.hid hs.len
  have hmk := fun W => run_make_row' (P := Try.prog) 23 3 (.int .i64 0) 8 Try.underlying23 Try.infoInt rfl .i64 .i64 n (by omega) (by omega) W
  have h0 := OwnR.of_owns (own_zeros w n (by omega))
  go_enter Try.func58, Try.ntmps58
  go_wp2_with fail
  go_loopw [4] (fun i wr => ∃ k : Nat, k ≤ n ∧ i = .int .i64 k ∧ OwnR 3 wr w.heap.size (w.heap.size + 1) (some ⟨w.heap.size, 0, none⟩) n n (CopyTo xs k) ∧ Below w.heap.size w wr) (fun i _ => n - (intOf i).toNat)
  case atStart =>
    refine ⟨0, Nat.zero_le _, rfl, ?_, (Below.refl _ _).alloc (Nat.le_refl _) _⟩
    have : CopyTo xs 0 = List.replicate n 0 := by simp [CopyTo, HL.out]
    rw [this]
    simpa using h0
  case round =>
    obtain ⟨k, hk, rfl, hown, hnx⟩ := hrel
    by_cases hlt : k < n
    · obtain ⟨b, o, rfl, hb1, hb2, hc⟩ := hs.at_ (by omega)
      have hsrc : wr.cell? ⟨b, o + k, none⟩ = some (.int .i64 (xs.getD k 0)) := (hnx.cell (p := ⟨b, o + k, none⟩) (by exact Nat.lt_of_lt_of_le hb2 hh)).trans (hc k hlt)
      obtain ⟨v, hv⟩ : ∃ v, v = xs.getD k 0 := ⟨_, rfl⟩
      rw [← hv] at hsrc
      obtain ⟨g, hg, hg1, hg2, hc', hf⟩ := hown.at_ (by omega)
      have hcell : wr.cell? ⟨w.heap.size, k, none⟩ = some (.int .i64 ((CopyTo xs k).getD k 0)) := by
        injection hg with hg; injection hg with hg; subst hg; exact hc' k hlt
      have hfro : wr.frozen? ⟨w.heap.size, k, none⟩ = false := by
        injection hg with hg; injection hg with hg; subst hg; exact hf k
      have hst := (hown.stored k v).1
      have he : (CopyTo xs k).set k v = CopyTo xs (k + 1) := set_copy (by rw [HL.out]; exact hlt) hv
      rw [he] at hst
      have hnx' : Below w.heap.size w (wr.setCell ⟨w.heap.size, k, none⟩ (.int .i64 v)) := hnx.setCell (Nat.le_refl _) _
      have HS := Lib.hid hst
      have HN := Lib.hid hnx'
      clear hc hc' hf hown hnx hst hnx' he hs hg hv h0
      go_wp2
      go_roundw
      case rel => exact ⟨k + 1, by omega, by go_num, HS.out, HN.out⟩
      case measure => simp [intOf]; omega
    · have hkn : k = n := by omega
      have he : CopyTo xs k = xs := by rw [CopyTo, hkn, HL.out, Nat.sub_self, List.take_of_length_le (by rw [HL.out]; exact Nat.le_refl _)]; simp
      rw [he] at hown
      have HO := Lib.hid hown
      clear he hkn hs hown h0
      go_wp2
      go_ret
      exact ⟨_, n, n, rfl, HO.out.wider (Nat.le_refl _) HO.out.2.1 (Nat.le_refl _), hnx⟩
end Go.Proofs.Ytbkecimhbibnjaa
