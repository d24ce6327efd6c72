/-
  Words and contracts, joined: Zeros, Fill, FillS.
  No condition.
-/
import Derived.Test.YtoocjalhcliebaaBaseD
import Derived.Lib.AppendZerosOnto
import Derived.Test.YtoocjalhcliebaaPath
import Derived.RegionTactic
import Derived.ChangeAlike
import Derived.BigRegion
import Derived.Deep.RegionHeld3
import Derived.Deep.AppendLies
namespace Go.Proofs.Ytoocjalhcliebaa
section
open Go Go.RowKit

theorem zeroCells_toList (k : Nat) : (Builtin.zeroCells (Value.int .i64 0).cells k).toList = ints (List.replicate k 0) := by
  simp [Builtin.zeroCells, Value.cells, ints, Nat.mod_one, List.map_const']
theorem zeroCells_size1 (k : Nat) : (Builtin.zeroCells (Value.int .i64 0).cells k).size = k := by
  simp [Builtin.zeroCells, Value.cells]
theorem run_append_room_zeros {P : Program} (w : World) (t tn ty e : TypeId) (i : TypeInfo) (kq kn : IntKind) (ht : P.underlying t = some (.slice e)) (htn : P.underlying tn = some (.int kn)) (hi : P.info? e = some i) (hz : i.zero = some (.int .i64 0))
    (hsize : i.size = 1) (hby : i.bytes = 8) (g sLen sCap : Nat) (cur : Array Value) (hg : w.heap[g]? = some (.cells cur e (0, 0))) (k : Nat) (h0 : 0 < k) (hk6 : k ≤ 1000000)
    (hroom : sLen + k ≤ sCap) (hfit : sLen + k ≤ cur.size) :
    (Builtin.append_ #[t, tn] ty #[.slice (some ⟨g, 0, none⟩) sLen sCap, .int kq k]).run P w =
      .ok (.slice (some ⟨g, 0, none⟩) (sLen + k) sCap) (w.setRow g (cur.toList.take sLen ++ ints (List.replicate k 0) ++ cur.toList.drop (sLen + k)).toArray) := by
  have hk : k ≠ 0 := by omega
  have hw : IntKind.i64.wrap (k : Int) = k := by rw [IntKind.wrap_i64]; omega
  have hneg : ¬ ((k : Int) < 0) := by omega
  have h48i : ¬ (281474976710656 < (k : Int) * 8) := by omega
  have hst := run_storeCells_at P g sLen e (ints (List.replicate k 0)) 0 cur w hg (by simpa [ints] using hfit) (by intro u hu; simp [ints] at hu; rw [hu.2]; rfl)
  simp only [Nat.add_zero] at hst
  have hlen : (ints (List.replicate k 0)).length = k := by simp [ints]
  rw [hlen] at hst
  simp [Builtin.append_, run_underlying ht, run_underlying htn, sizeOf, typeInfo, zeroValue, hi, hz, hsize, hby, asInt, asIntOf, hw, hneg, hk, h48i, hroom, Addr.add_lit, zeroCells_toList, hst]
theorem run_append_zeros_own {P : Program} (w : World) (base : Nat) (t tn ty e : TypeId) (i : TypeInfo) (kq kn : IntKind) (ht : P.underlying t = some (.slice e)) (htn : P.underlying tn = some (.int kn)) (hi : P.info? e = some i) (hz : i.zero = some (.int .i64 0))
    (hsize : i.size = 1) (hby : i.bytes = 8) (v : Value) (n : Nat) (xs : List Value) (hown : w.ownsRow base e 1 v n xs) (k : Nat) (h0 : 0 < k) (hn : n + k ≤ 1000000) (hbase : base ≤ w.heap.size) :
    ∃ v' w', (Builtin.append_ #[t, tn] ty #[v, .int kq k]).run P w = .ok v' w' ∧ w'.ownsRow base e 1 v' (n + k) (xs ++ ints (List.replicate k 0)) ∧ w.grownBy w' v.ownBlock ∧ (v'.ownBlock = v.ownBlock ∨ v'.ownBlock = some w.heap.size) := by
  have hzl : (ints (List.replicate k 0)).length = k := by simp [ints]
  have hlx : xs.length = n := by simpa using hown.1
  have hlen : (xs ++ ints (List.replicate k 0)).length = (n + k) * 1 := by rw [List.length_append, hlx, hzl]; omega
  have grown : ∀ (old : Nat), old < n + k → ∀ (row : Option Nat),
      (w.drew.alloc (.cells (xs.toArray ++ Builtin.zeroCells (Value.int .i64 0).cells k ++ Builtin.zeroCells (Value.int .i64 0).cells (grownCap w (n + k) old e - (n + k))) e)).ownsRow base e 1
        (.slice (some ⟨w.heap.size, 0, none⟩) (n + k) (grownCap w (n + k) old e)) (n + k) (xs ++ ints (List.replicate k 0)) ∧
      w.grownBy (w.drew.alloc (.cells (xs.toArray ++ Builtin.zeroCells (Value.int .i64 0).cells k ++ Builtin.zeroCells (Value.int .i64 0).cells (grownCap w (n + k) old e - (n + k))) e)) row := by
    intro old ho row
    have hge := grownCap_ge w (n + k) old e
    have hcm : grownCap w (n + k) old e ≤ maxLen := grownCap_le_maxLen w (n + k) old e (by unfold maxLen; omega)
    refine ⟨⟨hlen, .inr ⟨w.heap.size, _, _, rfl, hbase, heap_alloc_new w.drew _, hge, hcm, ?_, ?_⟩⟩, ⟨rfl, rfl, rfl, by simp, fun b hb _ => heap_alloc_old w.drew _ hb⟩⟩
    · simp only [Array.size_append, List.size_toArray, zeroCells_size1, hlx]
      omega
    · simp only [Array.toList_append, List.append_assoc, zeroCells_toList]
      rw [← List.append_assoc, ← hlen]
      exact List.take_left
  rcases hown.2 with ⟨rfl, rfl⟩ | ⟨g, cap, cur, rfl, hbg, hg, hnc, hcm, hcs, htake⟩
  · have hx : xs = [] := List.eq_nil_of_length_eq_zero hlx
    subst hx
    have hr := Lib.run_append_grow_zeros (P := P) w t tn ty e i _ kq kn ht htn hi hz none 0 0 [] (by simp [Builtin.firstCells]) k h0 (by omega) (by omega) (by omega) (by rw [hby]; omega)
      (by rw [hby]; have := growslice_fits (need := 0 + k) (old := 0) (bytes := 8) (by omega) (by omega); simpa using this)
    have hgr := grown 0 (by omega) (Value.ownBlock (.slice none 0 0))
    exact ⟨_, _, hr, hgr.1, hgr.2, .inr rfl⟩
  · by_cases hroom : n + k ≤ cap
    · have hr := run_append_room_zeros (P := P) w t tn ty e i kq kn ht htn hi hz hsize hby g n cap cur hg k h0 (by omega) hroom (by omega)
      refine ⟨_, _, hr, ⟨hlen, .inr ⟨g, cap, _, rfl, hbg, setRow_heap w g cur _ e _ hg, hroom, hcm, ?_, ?_⟩⟩, ⟨rfl, rfl, rfl, by simp, fun k _ hk => setRow_other w g k _ (fun e => hk (by simp [Value.ownBlock, e]))⟩, .inl rfl⟩
      · simp only [List.size_toArray, List.length_append, List.length_take, List.length_drop, Array.length_toList, hzl]
        omega
      · have hx : cur.toList.take n = xs := by simpa using htake
        rw [hx, ← hlen]
        exact List.take_left
    · have holds : ∀ j u, xs[j]? = some u → w.cell? ((⟨g, 0, none⟩ : Addr).add j) = some u := hown.cells (g := g) rfl
      have hfc := run_firstCells_some (P := P) w.drew i.size n ⟨g, 0, none⟩ n cap xs (by rw [hsize, hlx, Nat.mul_one]) (fun j u hu => holds j u hu)
      have hr := Lib.run_append_grow_zeros (P := P) w t tn ty e i _ kq kn ht htn hi hz (some ⟨g, 0, none⟩) n cap xs hfc k h0 (by omega) (by omega) (by omega) (by rw [hby]; omega)
        (by rw [hby]; exact growslice_fits (by omega) (by omega))
      have hgr := grown cap (by omega) (Value.ownBlock (.slice (some ⟨g, 0, none⟩) n cap))
      exact ⟨_, _, hr, hgr.1, hgr.2, .inr rfl⟩
theorem wp_append_zeros {P : Program} (w : World) {o : Oper} {a : Act} {K : Act → World → Prop} {Q : Exit → Act → World → Prop} (s x : Operand) (t tn : TypeId)
    (ho : o.op = .call { callee := .builtin .append, args := #[s, x], argTypes := #[t, tn] })
    (base : Nat) (e : TypeId) (i : TypeInfo) (kq kn : IntKind) (ht : P.underlying t = some (.slice e)) (htn : P.underlying tn = some (.int kn)) (hi : P.info? e = some i) (hz : i.zero = some (.int .i64 0)) (hsize : i.size = 1) (hby : i.bytes = 8)
    (v : Value) (n : Nat) (xs : List Value) (hs : a.eval s = v) (hown : w.ownsRow base e 1 v n xs) (k : Nat) (hx : a.eval x = .int kq k) (h0 : 0 < k) (hn : n + k ≤ 1000000) (hbase : base ≤ w.heap.size)
    (h : ∀ v' w', w'.ownsRow base e 1 v' (n + k) (xs ++ ints (List.replicate k 0)) → w.grownBy w' v.ownBlock → (v'.ownBlock = v.ownBlock ∨ v'.ownBlock = some w.heap.size) → K (a.put o.dst v') w') : o.wp P a w K Q := by
  obtain ⟨v', w', hrun, h2, h3, h4⟩ := run_append_zeros_own (P := P) w base t tn o.type e i kq kn ht htn hi hz hsize hby v n xs hown k h0 hn hbase
  unfold Oper.wp execOp
  simp only [ho, resolve, invoke, builtin, Sem.run_bind, Sem.run_pure, Result.andThen_ok, List.map_toArray, List.map_cons, List.map_nil, hs, hx, hrun]
  exact h v' w' h2 h3 h4
theorem wpList_append_zeros {P : Program} (w : World) {ops : Array Oper} {rest : List Oper} {o : Oper} {a : Act} {Q : Exit → Act → World → Prop} (hgd : o.guard = none) (s x : Operand) (t tn : TypeId)
    (ho : o.op = .call { callee := .builtin .append, args := #[s, x], argTypes := #[t, tn] })
    (base : Nat) (e : TypeId) (i : TypeInfo) (kq kn : IntKind) (ht : P.underlying t = some (.slice e)) (htn : P.underlying tn = some (.int kn)) (hi : P.info? e = some i) (hz : i.zero = some (.int .i64 0)) (hsize : i.size = 1) (hby : i.bytes = 8)
    (v : Value) (n : Nat) (xs : List Value) (hs : a.eval s = v) (hown : w.ownsRow base e 1 v n xs) (k : Nat) (hx : a.eval x = .int kq k) (h0 : 0 < k) (hn : n + k ≤ 1000000) (hbase : base ≤ w.heap.size)
    (h : ∀ v' w', w'.ownsRow base e 1 v' (n + k) (xs ++ ints (List.replicate k 0)) → w.grownBy w' v.ownBlock → (v'.ownBlock = v.ownBlock ∨ v'.ownBlock = some w.heap.size) → wpList P ops Q rest (a.put o.dst v') w') : wpList P ops Q (o :: rest) a w :=
  wpList_plain hgd fun _ hK => wp_append_zeros w s x t tn ho base e i kq kn ht htn hi hz hsize hby v n xs hs hown k hx h0 hn hbase fun v' w' h2 h3 h4 => hK _ _ (h v' w' h2 h3 h4)
end
section
open Go Go.RowKit

/-- The filler after k numbers of a step. -/
def FillTo (acc : List Int) (key : Int) (k : Nat) : List Int := (fillS acc key).take k ++ (acc ++ [0, 0, 0]).drop k
theorem FillTo_zero (acc : List Int) (key : Int) : FillTo acc key 0 = acc ++ [0, 0, 0] := by simp [FillTo]
theorem FillTo_all (acc : List Int) (key : Int) : FillTo acc key (acc.length + 3) = fillS acc key := by
  rw [FillTo, List.take_of_length_le (by rw [fillS_len]; exact Nat.le_refl _), List.drop_of_length_le (by simp), List.append_nil]
theorem FillTo_at {acc : List Int} {key : Int} {k : Nat} (h : k < acc.length + 3) : (FillTo acc key k).getD k 0 = (acc ++ [0, 0, 0]).getD k 0 := by
  rw [FillTo, List.getD_eq_getElem?_getD, List.getElem?_append_right (by rw [List.length_take, fillS_len]; omega), List.length_take, fillS_len, Nat.min_eq_left (by omega), Nat.sub_self]
  simp [List.getD_eq_getElem?_getD]
theorem drop_set0 {l : List Int} {k : Nat} (h : k < l.length) (v : Int) : (l.drop k).set 0 v = v :: l.drop (k + 1) := by
  rw [List.drop_eq_getElem_cons h]; rfl
theorem FillTo_set {acc : List Int} {key : Int} {k : Nat} (h : k < acc.length + 3) {v : Int} (hv : v = (fillS acc key).getD k 0) : (FillTo acc key k).set k v = FillTo acc key (k + 1) := by
  have hl : (acc ++ [0, 0, 0]).length = acc.length + 3 := by simp
  rw [FillTo, List.set_append_right _ _ (by rw [List.length_take, fillS_len]; omega), List.length_take, fillS_len, Nat.min_eq_left (by omega), Nat.sub_self, FillTo, take_at (by rw [fillS_len]; exact h), ← hv]
  rw [drop_set0 (by rw [hl]; exact h)]
  simp
theorem fillS_at {acc : List Int} {key : Int} {k : Nat} (h : k < acc.length + 3) : (fillS acc key).getD k 0 = ((acc ++ [0, 0, 0]).getD k 0 + 991 - strm key (9 - acc.length + k)) % 991 := by
  have hl : k < (acc ++ [0, 0, 0]).length := by simp; omega
  simp only [fillS, List.getD_eq_getElem?_getD, List.getElem?_mapIdx, List.getElem?_eq_getElem hl]
  rfl
theorem fill_range {acc : List Int} (h : ∀ x ∈ acc, 0 ≤ x ∧ x ≤ 990) {k : Nat} (hk : k < acc.length + 3) : 0 ≤ (acc ++ [0, 0, 0]).getD k 0 ∧ (acc ++ [0, 0, 0]).getD k 0 ≤ 990 := by
  have hm := getD_mem (xs := acc ++ [0, 0, 0]) (i := k) (by simp; omega)
  rcases List.mem_append.1 hm with g | g
  · exact h _ g
  · simp at g; rw [List.getD_eq_getElem?_getD, g]; omega
/-- The filler of the first k keys. -/
def FillAcc (keys : List Int) (k : Nat) (acc : List Int) : Prop := acc = (keys.take k).foldl fillS []
theorem FillAcc.zero (keys : List Int) : FillAcc keys 0 [] := by simp [FillAcc]
theorem FillAcc.len {keys : List Int} {k : Nat} {acc : List Int} (h : FillAcc keys k acc) (hk : k ≤ keys.length) : acc.length = 3 * k := by
  rw [h, fold_len, List.length_take, Nat.min_eq_left hk]; simp
theorem FillAcc.num {keys : List Int} {k : Nat} {acc : List Int} (h : FillAcc keys k acc) : ∀ x ∈ acc, 0 ≤ x ∧ x ≤ 990 := by
  rw [h]; exact fold_num _ (by simp)
theorem FillAcc.next {keys : List Int} {k : Nat} {acc : List Int} {v : Int} (h : FillAcc keys k acc) (hk : k < keys.length) (hv : v = keys.getD k 0) : FillAcc keys (k + 1) (fillS acc v) := by
  rw [FillAcc, take_at hk, List.foldl_append, ← h, ← hv]; rfl
theorem FillAcc.all {keys : List Int} {acc : List Int} (h : FillAcc keys (keys.length - 1) acc) : acc = fillL keys := by
  rw [h, fillL, List.dropLast_eq_take]
def FillRel (keys : List Int) (n : Nat) (w : World) (v i : Value) (wr : World) : Prop :=
  ∃ (k : Nat) (acc : List Int) (A : Option Addr) (c : Nat), k ≤ n - 1 ∧ i = .int .i64 (k : Int) ∧ v = .slice A (3 * k) c ∧ FillAcc keys k acc ∧ OwnR 3 wr w.heap.size wr.heap.size A (3 * k) c acc ∧ Below w.heap.size w wr

end
section
open Go Go.RowKit

theorem three_new {w : World} {T : TypeId} : ∀ j u, (ints [0, 0, 0])[j]? = some u → (w.alloc (.cells #[.int .i64 0, .int .i64 0, .int .i64 0] T)).cell? (Addr.add ⟨w.heap.size, 0, none⟩ j) = some u :=
  (World.ownsRow_lit (base := 0) (e := T) (size := 1) w #[.int .i64 0, .int .i64 0, .int .i64 0] 3 (Nat.zero_le _) (by unfold maxLen; omega) rfl).cells rfl
theorem l2At_i (k i : Int) (j : Nat) (w : World) (hk : 0 ≤ k ∧ k ≤ 996) (hi : i = (j : Int)) (hj : j ≤ 100) : Calls Try.prog 63 #[.int .i64 k, .int .i64 i] w fun e w' => e = .returned (.int .i64 (strm k j)) ∧ w = w' := by
  subst hi
  exact l2At_c k j w hk hj
theorem three_cell : ∀ u ∈ ints [0, 0, 0], u.oneCell' = true := by intro u hu; simp [ints] at hu; rw [hu]; rfl

set_option maxRecDepth 100000 in
set_option maxHeartbeats 3200000 in
theorem l5Filler_c (A : Option Addr) (n c lo hi : Nat) (keys : List Int) (w : World) (hs : SlR .i64 w lo hi A n keys) (h1 : 1 ≤ n) (h3 : n ≤ 3) (hke : ∀ k ∈ keys, elB k = true) : Calls Try.prog 64 #[.slice A n c] w (NewInts (fillL keys) w) := by
  obtain ⟨i0, hi0, hz0, hz1, hz2⟩ := info_parts Try.infoInt
  have hh := hs.hi_le
  have HL := Lib.hid hs.len
  have HE := Lib.hid hke
  clear hke
  go_enter Try.func64, Try.ntmps64
  go_wp2_with fail
  go_loopw [3, 4] (fun v i wr => FillRel keys n w v i wr) (fun _ i _ => n - (intOf i).toNat)
  case atStart => exact ⟨0, [], _, 0, Nat.zero_le _, rfl, rfl, FillAcc.zero _, OwnR.of_owns (World.ownsRow_made w #[] 0 (Nat.le_refl _) (by unfold maxLen; omega) rfl), (Below.refl _ _).alloc (Nat.le_refl _) _⟩
  case round =>
    obtain ⟨k, acc, Af, cf, hk, rfl, rfl, hacc, hown, hnx⟩ := hrel
    by_cases hlt : k < n - 1
    · obtain ⟨b, o, rfl, hb1, hb2, hc⟩ := hs.at_ (by omega)
      have hcell : wr.cell? ⟨b, o + k, none⟩ = some (.int .i64 (keys.getD k 0)) := (hnx.cell (p := ⟨b, o + k, none⟩) (by exact Nat.lt_of_lt_of_le hb2 hh)).trans (hc k (by omega))
      obtain ⟨v, hv⟩ : ∃ v, v = keys.getD k 0 := ⟨_, rfl⟩
      rw [← hv] at hcell
      have hkl : k < keys.length := by rw [HL.out]; omega
      have hve : elB v = true := by rw [hv]; exact HE.out _ (getD_mem hkl)
      have hkb := elB_iff.1 hve
      have hal := hacc.len (by omega)
      have hnum := hacc.num
      have hnext := hacc.next hkl hv
      have HK := Lib.hid hnext
      have HN := Lib.hid hnum
      have HA := Lib.hid hal
      have hk1 : k ≤ 1 := by omega
      have hsz := hnx.size
      have hk2 : (k : Int) + 1 < (n : Int) := by omega
      have hown0 := World.ownsRow_made (e := 3) (size := 1) wr #[] 0 (Nat.le_refl _) (by unfold maxLen; omega) rfl
      have hra := hown.read.alloc (.cells #[] 3)
      clear hc hv hs hnext hnum hal hacc hve
      go_wp2_with (first
        | (at_builtin; refine wpList_append_sl _ rfl _ _ 23 rfl wr.heap.size 3 i0 Try.underlying23 hi0 hz0 hz1 hz2 _ 0 [] rfl hown0 _ _ (3 * k) cf Af acc rfl hra (by omega) (by simp) ?_; intro v1 w1 hown1 hg1 hat1; have hsz1 := hg1.size; simp only [Nat.zero_add, List.nil_append] at hown1)
        | (at_builtin; refine wpList_append_own _ rfl _ _ 23 rfl wr.heap.size 3 i0 (.int .i64 0) 1 8 Try.underlying23 hi0 hz0 hz1 hz2 rfl (by decide) _ _ _ rfl (hown1.alloc _) ⟨w1.heap.size, 0, none⟩ 3 3 (ints [0, 0, 0]) rfl rfl three_new three_cell (by unfold maxLen; omega) (by omega) (by simp at hsz1 ⊢; omega) ?_; intro v2 w2 hown2 hg2 hq; clear hq; obtain ⟨A2, c2, rfl⟩ := owns_shape hown2))
      have hown2' : w2.ownsRow wr.heap.size 3 1 (.slice A2 (3 * k + 3) c2) (3 * k + 3) (ints (acc ++ [0, 0, 0])) := by simpa [ints] using hown2
      have on := OwnR.of_owns hown2'
      have hB2 : Below w.heap.size w w2 := by
        have b1 : Below wr.heap.size wr w1 := ((Below.refl _ _).alloc (Nat.le_refl _) _).grown hg1 (by simp) (fun g e => (hown0.lt g e).1)
        have b2 : Below wr.heap.size wr w2 := made_below b1 hg2 (Nat.le_refl _) hown1
        exact hnx.trans (b2.mono hsz)
      have hcell2 : w2.cell? ⟨b, o + k, none⟩ = some (.int .i64 v) := by
        have b1 : Below wr.heap.size wr w1 := ((Below.refl _ _).alloc (Nat.le_refl _) _).grown hg1 (by simp) (fun g e => (hown0.lt g e).1)
        have b2 : Below wr.heap.size wr w2 := made_below b1 hg2 (Nat.le_refl _) hown1
        exact (b2.cell (p := ⟨b, o + k, none⟩) (by exact Nat.lt_of_lt_of_le hb2 (Nat.le_trans hh hsz))).trans hcell
      have hz2w := hB2.size
      have ON := Lib.hid on
      have HB := Lib.hid hB2
      clear hB2
      clear hg1 hg2 hown0 hown1 hown2 hown2' hra hown hnx hat1 hsz1 hcell on
      obtain ⟨gn, rfl, hgn1, hgn2, -, -⟩ := ON.out.at_ (by omega)
      have hkb2 : b < w2.heap.size := by exact Nat.lt_of_lt_of_le hb2 (Nat.le_trans hh hz2w)
      obtain ⟨wo, rfl⟩ : ∃ wo : World, wo = wr := ⟨_, rfl⟩
      go_loopw [3, 7] (fun vo i wi => Made (fillS acc v) w2.heap.size w2 (3 * k + 3) vo i wi) (fun _ i _ => 3 * k + 3 - (intOf i).toNat)
      case atStart => exact ⟨0, Nat.zero_le _, rfl, World.ownsRow_made w2 #[] 0 (Nat.le_refl _) (by unfold maxLen; omega) rfl, (Below.refl _ _).alloc (Nat.le_refl _) _⟩
      case round =>
        obtain ⟨j, hj, rfl, howi, hBi⟩ := hrel
        by_cases hjl : j < 3 * k + 3
        · have hja : j < acc.length + 3 := by rw [HA.out]; exact hjl
          obtain ⟨_, hq, -, -, hcn, -⟩ := ON.out.at_ (by omega)
          injection hq with hq; injection hq with hq; subst hq
          have hcx : wr.cell? ⟨gn, j, none⟩ = some (.int .i64 ((acc ++ [0, 0, 0]).getD j 0)) := (hBi.cell (p := ⟨gn, j, none⟩) (by exact hgn2)).trans (hcn j hjl)
          have hck : wr.cell? ⟨b, o + k, none⟩ = some (.int .i64 v) := (hBi.cell (p := ⟨b, o + k, none⟩) (by exact hkb2)).trans hcell2
          have hxr := fill_range HN.out hja
          have hsr := strm_bd v (9 - 3 * k + j)
          have hyv := fillS_at (key := v) hja
          rw [HA.out] at hyv
          obtain ⟨x, hx⟩ : ∃ x, x = (acc ++ [0, 0, 0]).getD j 0 := ⟨_, rfl⟩
          rw [← hx] at hcx hxr hyv
          have HY := Lib.hid hyv
          obtain ⟨hx1, hx2⟩ := hxr
          obtain ⟨hs1, hs2⟩ := hsr
          have hszi := hBi.size
          have hnk := fun (e : Value.ownBlock u3 = some b) => Nat.lt_irrefl _ (Nat.lt_of_lt_of_le hkb2 (howi.lt b e).1)
          have hnn := fun (e : Value.ownBlock u3 = some gn) => Nat.lt_irrefl _ (Nat.lt_of_lt_of_le hgn2 (howi.lt gn e).1)
          have hj0 : (0 : Int) ≤ (j : Int) := Int.natCast_nonneg _
          have hj1 : (j : Int) < ((3 * k + 3 : Nat) : Int) := by omega
          have hk0 : (0 : Int) ≤ (k : Int) := Int.natCast_nonneg _
          have hk3 : (k : Int) < (n : Int) := by omega
          obtain ⟨s, hsv⟩ : ∃ s, s = strm v (9 - 3 * k + j) := ⟨_, rfl⟩
          have HS := Lib.hid hsv
          rw [← hsv] at hs1 hs2
          have hq := l2At_i v (12 - (3 * (k : Int) + 3) + (j : Int)) (9 - 3 * k + j)
          rw [← hsv] at hq
          have hq2 := fun W => hq W ⟨by omega, by omega⟩ (by omega) (by omega)
          have HQ := Lib.hid hq2
          clear hx hyv hcn hsv hq hq2
          go_wp2_with fail
          have ef : IntKind.i64.wrap (12 - (3 * (k : Int) + 3) + (j : Int)) = 12 - (3 * (k : Int) + 3) + (j : Int) := IntWalk.i64_in _ (by omega)
          have e0 : IntKind.i64.wrap (x + 991) = x + 991 := IntWalk.i64_in _ (by omega)
          have e1 : IntKind.i64.wrap (x + 991 - s) = x + 991 - s := IntWalk.i64_in _ (by omega)
          have e2 : (x + 991 - s).tmod 991 = (x + 991 - s) % 991 := Int.tmod_eq_emod_of_nonneg (by omega)
          go_region_held3 (fun w' => w'.cell? ⟨b, o + k, none⟩ = some (.int .i64 v) ∧ w'.cell? ⟨gn, j, none⟩ = some (.int .i64 x))
            (first
              | go_keep
              | (go_split_ands
                 refine ⟨?_, ?_⟩
                 · (rw [hgrow.cell_far _ (by simp; omega) (Ne.symm hnk)]; assumption)
                 · (rw [hgrow.cell_far _ (by simp; omega) (Ne.symm hnn)]; assumption)))
            ((first
              | (refine step_append_lies _ (by rfl) _ _ _ (by rfl) w2.heap.size 3 i0 _ 1 8 Try.underlying23 hi0 hz0 hz1 hz2 rfl (by omega) _ j _ (by rfl) ((howi.alloc _).drew) ⟨wr.heap.size, 0, none⟩ 1 1 [.int .i64 ((x + 991 - s) % 991)] (by rfl) (by rfl) (one_new (w := wr) (T := 3)) one_cell (by omega) (by unfold maxLen; omega) (by omega) (by simp; omega) (wr.heap.size + 1) (by simp) ?_; intro gg cap w5 hown' hgrow hat hlt')
              | (go_at_call 63; refine (HQ.out _).mono ?_; rintro e w' ⟨rfl, rfl⟩)))
          clear ef e0 e1 e2
          have hnx1 := made_below_drew hBi hgrow (Nat.le_refl _) howi
          have hm := made_step (R := fillS acc v) (k := j) (x := (x + 991 - s) % 991) (by rw [fillS_len]; exact hja) (by rw [HY.out, ← HS.out]) hown'
          clear hown' hgrow howi hBi hnk hnn hat hlt' hcx hck
          go_wp2
          go_roundw
          case rel => exact ⟨j + 1, by omega, by go_num, hm, hnx1⟩
          case measure => simp [intOf]; omega
        · have hjn : j = 3 * k + 3 := by omega
          have he : (fillS acc v).take j = fillS acc v := List.take_of_length_le (by rw [fillS_len, HA.out]; omega)
          rw [he, hjn] at howi
          have hB3 := HB.out.trans (hBi.mono hz2w)
          obtain ⟨A3, c3, rfl⟩ := owns_shape howi
          have OF := Lib.hid (OwnR.of_owns howi)
          have HB3 := Lib.hid hB3
          have hz3 := hB3.size
          clear he howi hBi hB3
          have hjq : ¬ (j < 3 * k + 3) := by omega
          clear hjn
          go_wp2_with fail
          go_roundw
          case rel => exact ⟨k + 1, _, _, _, by omega, by go_num, rfl, HK.out, OF.out.wider hz2w (Nat.le_refl _) (Nat.le_refl _), HB3.out⟩
          case measure => simp [intOf]; omega
    · have hkn : k = n - 1 := by omega
      have he : acc = fillL keys := FillAcc.all (by rw [HL.out, ← hkn]; exact hacc)
      rw [he] at hown
      have HO := Lib.hid hown
      have hk2 : ¬ ((k : Int) + 1 < (n : Int)) := by omega
      clear he hkn hs hown hacc
      go_wp2_with fail
      go_ret
      exact ⟨_, _, _, rfl, HO.out, hnx⟩
end
end Go.Proofs.Ytoocjalhcliebaa
