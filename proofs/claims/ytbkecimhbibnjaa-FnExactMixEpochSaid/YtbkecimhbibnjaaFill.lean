/-
  What the mixes of a path append: contracts of the program's function and of the reference's.
  Conditions: one to three keys, all elements.
-/
import Derived.Test.YtbkecimhbibnjaaZeros
import Derived.Test.YtbkecimhbibnjaaPath
import Derived.RegionTactic
import Derived.ChangeAlike
import Derived.BigRegion
namespace Go.Proofs.Ytbkecimhbibnjaa
open Go Go.RowKit

/-- The filler after k numbers of a step. -/
def FillTo (acc : List Int) (key : Int) (k : Nat) : List Int := (fillS acc key).take k ++ (acc ++ [0, 0, 0]).drop k
theorem FillTo_zero (acc : List Int) (key : Int) : FillTo acc key 0 = acc ++ [0, 0, 0] := by simp [FillTo]
theorem FillTo_all (acc : List Int) (key : Int) : FillTo acc key (acc.length + 3) = fillS acc key := by
  rw [FillTo, List.take_of_length_le (by rw [fillS_len]; exact Nat.le_refl _), List.drop_of_length_le (by simp), List.append_nil]
theorem FillTo_at {acc : List Int} {key : Int} {k : Nat} (h : k < acc.length + 3) : (FillTo acc key k).getD k 0 = (acc ++ [0, 0, 0]).getD k 0 := by
  rw [FillTo, List.getD_eq_getElem?_getD, List.getElem?_append_right (by rw [List.length_take, fillS_len]; omega), List.length_take, fillS_len, Nat.min_eq_left (by omega), Nat.sub_self]
  simp [List.getD_eq_getElem?_getD]
theorem drop_set0 {l : List Int} {k : Nat} (h : k < l.length) (v : Int) : (l.drop k).set 0 v = v :: l.drop (k + 1) := by
  rw [List.drop_eq_getElem_cons h]; rfl
theorem FillTo_set {acc : List Int} {key : Int} {k : Nat} (h : k < acc.length + 3) {v : Int} (hv : v = (fillS acc key).getD k 0) : (FillTo acc key k).set k v = FillTo acc key (k + 1) := by
  have hl : (acc ++ [0, 0, 0]).length = acc.length + 3 := by simp
  rw [FillTo, List.set_append_right _ _ (by rw [List.length_take, fillS_len]; omega), List.length_take, fillS_len, Nat.min_eq_left (by omega), Nat.sub_self, FillTo, take_at (by rw [fillS_len]; exact h), ← hv]
  rw [drop_set0 (by rw [hl]; exact h)]
  simp
theorem fillS_at {acc : List Int} {key : Int} {k : Nat} (h : k < acc.length + 3) : (fillS acc key).getD k 0 = ((acc ++ [0, 0, 0]).getD k 0 + 991 - strm key (9 - acc.length + k)) % 991 := by
  have hl : k < (acc ++ [0, 0, 0]).length := by simp; omega
  simp only [fillS, List.getD_eq_getElem?_getD, List.getElem?_mapIdx, List.getElem?_eq_getElem hl]
  rfl
theorem fill_range {acc : List Int} (h : ∀ x ∈ acc, 0 ≤ x ∧ x ≤ 990) {k : Nat} (hk : k < acc.length + 3) : 0 ≤ (acc ++ [0, 0, 0]).getD k 0 ∧ (acc ++ [0, 0, 0]).getD k 0 ≤ 990 := by
  have hm := getD_mem (xs := acc ++ [0, 0, 0]) (i := k) (by simp; omega)
  rcases List.mem_append.1 hm with g | g
  · exact h _ g
  · simp at g; rw [List.getD_eq_getElem?_getD, g]; omega
/-- The filler of the first k keys. -/
def FillAcc (keys : List Int) (k : Nat) (acc : List Int) : Prop := acc = (keys.take k).foldl fillS []
theorem FillAcc.zero (keys : List Int) : FillAcc keys 0 [] := by simp [FillAcc]
theorem FillAcc.len {keys : List Int} {k : Nat} {acc : List Int} (h : FillAcc keys k acc) (hk : k ≤ keys.length) : acc.length = 3 * k := by
  rw [h, fold_len, List.length_take, Nat.min_eq_left hk]; simp
theorem FillAcc.num {keys : List Int} {k : Nat} {acc : List Int} (h : FillAcc keys k acc) : ∀ x ∈ acc, 0 ≤ x ∧ x ≤ 990 := by
  rw [h]; exact fold_num _ (by simp)
theorem FillAcc.next {keys : List Int} {k : Nat} {acc : List Int} {v : Int} (h : FillAcc keys k acc) (hk : k < keys.length) (hv : v = keys.getD k 0) : FillAcc keys (k + 1) (fillS acc v) := by
  rw [FillAcc, take_at hk, List.foldl_append, ← h, ← hv]; rfl
theorem FillAcc.all {keys : List Int} {acc : List Int} (h : FillAcc keys (keys.length - 1) acc) : acc = fillL keys := by
  rw [h, fillL, List.dropLast_eq_take]
def FillRel (keys : List Int) (n : Nat) (w : World) (v i : Value) (wr : World) : Prop :=
  ∃ (k : Nat) (acc : List Int) (A : Option Addr) (c : Nat), k ≤ n - 1 ∧ i = .int .i64 (k : Int) ∧ v = .slice A (3 * k) c ∧ FillAcc keys k acc ∧ OwnR 3 wr w.heap.size wr.heap.size A (3 * k) c acc ∧ Below w.heap.size w wr

set_option maxRecDepth 100000 in
set_option maxHeartbeats 3200000 in
theorem fillerOf_c (A : Option Addr) (n c lo hi : Nat) (keys : List Int) (w : World) (hs : SlR .i64 w lo hi A n keys) (hnc : n ≤ c) (h1 : 1 ≤ n) (h3 : n ≤ 3) (hke : ∀ k ∈ keys, elB k = true) : Calls Try.prog 116 #[.slice A n c] w (NewInts (fillL keys) w) := by
  obtain ⟨i0, hi0, hz0, hz1, hz2⟩ := info_parts Try.infoInt
  have hh := hs.hi_le
  have HL := Lib.hid hs.len
  have HE := Lib.hid hke
  clear hke
  go_enter Try.func116, Try.ntmps116
  go_wp2_with fail
  go_loopw [3, 15] (fun v i wr => FillRel keys n w v i wr) (fun _ i _ => n - (intOf i).toNat)
  case atStart => exact ⟨0, [], _, 0, Nat.zero_le _, rfl, rfl, FillAcc.zero _, OwnR.of_owns (World.ownsRow_made w #[] 0 (Nat.le_refl _) (by unfold maxLen; omega) rfl), (Below.refl _ _).alloc (Nat.le_refl _) _⟩
  case round =>
    obtain ⟨k, acc, Af, cf, hk, rfl, rfl, hacc, hown, hnx⟩ := hrel
    by_cases hlt : k < n - 1
    · obtain ⟨b, o, rfl, hb1, hb2, hc⟩ := hs.at_ (by omega)
      have hcell : wr.cell? ⟨b, o + k, none⟩ = some (.int .i64 (keys.getD k 0)) := (hnx.cell (p := ⟨b, o + k, none⟩) (by exact Nat.lt_of_lt_of_le hb2 hh)).trans (hc k (by omega))
      obtain ⟨v, hv⟩ : ∃ v, v = keys.getD k 0 := ⟨_, rfl⟩
      rw [← hv] at hcell
      have hkl : k < keys.length := by rw [HL.out]; omega
      have hve : elB v = true := by rw [hv]; exact HE.out _ (getD_mem hkl)
      have hsp : strP v 12 = strL v 12 := if_pos ⟨hve, by decide, by decide⟩
      have hal := hacc.len (by omega)
      have hnum := hacc.num
      have hnext := hacc.next hkl hv
      have HK := Lib.hid hnext
      have HN := Lib.hid hnum
      have HA := Lib.hid hal
      have HV := Lib.hid hve
      have hk1 : k ≤ 1 := by omega
      have hsz := hnx.size
      clear hc hv hs hnext hnum hal hacc hve
      go_wp2_with (first | (at_builtin; refine wpList_append_zeros _ rfl _ _ 23 3 rfl w.heap.size 3 i0 .i64 .i64 Try.underlying23 Try.underlying3 hi0 hz0 hz1 hz2 _ _ _ rfl hown.1 3 rfl (by omega) (by omega) (by omega) ?_; intro v' w1 hown' hg _))
      obtain ⟨A1, c1, rfl⟩ := owns_shape hown'
      have o1 : OwnR 3 w1 w.heap.size w1.heap.size A1 (3 * k + 3) c1 (FillTo acc v 0) := by rw [FillTo_zero]; exact OwnR.of_owns (by simpa [ints, List.replicate] using hown')
      have hB1 : Below w.heap.size w w1 := hnx.grown hg hsz (fun g e => (hown.1.lt g e).1)
      have hz1w := hB1.size
      clear hown' hg hown hnx
      refine (streamOf_c _ _ _).mono ?_
      rintro e w2 ⟨Am, nm, cm, rfl, om, h2⟩
      rw [hsp] at om
      have hnm : nm = 12 := by have := om.len; rw [strL_len] at this; exact this.symm
      subst hnm
      replace o1 := o1.below h2 o1.2.1
      have hB2 := hB1.trans (h2.mono hB1.size)
      have hcm := om.cap
      have hz2w := h2.size
      obtain ⟨gm, rfl, hgm1, hgm2, _, _⟩ := om.at_ (by omega)
      obtain ⟨gf, rfl, hgf1, hgf2, _, _⟩ := o1.at_ (by omega)
      clear hB1 h2 hsp
      go_wp2_with fail
      generalize hM : 12 - (3 * k + 3) = M
      have hM2 : 9 - 3 * k = M := by omega
      go_loopw [32] (fun i wi => ∃ j : Nat, j ≤ 3 * k + 3 ∧ i = .int .i64 (j : Int) ∧ OwnR 3 wi w.heap.size w1.heap.size (some ⟨gf, 0, none⟩) (3 * k + 3) c1 (FillTo acc v j) ∧ Below w.heap.size w wi ∧ OwnR 3 wi w1.heap.size w2.heap.size (some ⟨gm, 0, none⟩) 12 cm (strL v 12)) (fun i _ => 3 * k + 3 - (intOf i).toNat)
      case atStart => exact ⟨0, Nat.zero_le _, rfl, o1, hB2, om⟩
      case round =>
        obtain ⟨j, hj, rfl, of, hBi, omi⟩ := hrel
        by_cases hjl : j < 3 * k + 3
        · obtain ⟨_, hq, _, _, hcf, hff⟩ := of.at_ (by omega)
          injection hq with hq; injection hq with hq; subst hq
          obtain ⟨_, hq, _, _, hcm', _⟩ := omi.at_ (by omega)
          injection hq with hq; injection hq with hq; subst hq
          have hja : j < acc.length + 3 := by rw [HA.out]; exact hjl
          have cf1 := hcf j hjl
          have ff1 := hff j
          have cm1 := hcm' (M + j) (by omega)
          rw [FillTo_at hja] at cf1
          rw [strL_at _ (by omega)] at cm1
          have hxr := fill_range HN.out hja
          have hsr := strm_bd v (M + j)
          have hyv := fillS_at (key := v) hja
          rw [HA.out, hM2] at hyv
          obtain ⟨x, hx⟩ : ∃ x, x = (acc ++ [0, 0, 0]).getD j 0 := ⟨_, rfl⟩
          obtain ⟨s, hsv⟩ : ∃ s, s = strm v (M + j) := ⟨_, rfl⟩
          rw [← hx] at cf1 hxr hyv
          rw [← hsv] at cm1 hsr hyv
          obtain ⟨y, hy⟩ : ∃ y, y = (x + 991 - s) % 991 := ⟨_, rfl⟩
          have hy2 : (x - s + 991) % 991 = y := by rw [hy]; congr 1; omega
          have hset := FillTo_set hja (v := y) (by rw [hyv, hy])
          have st := (of.stored j y).1
          rw [hset] at st
          have hBs := hBi.setCell (p := ⟨gf, j, none⟩) hgf1 (.int .i64 y)
          have oms := omi.setCell (p := ⟨gf, j, none⟩) (by simp only []; omega) (.int .i64 y)
          have ST := Lib.hid st
          have BS := Lib.hid hBs
          have OM := Lib.hid oms
          clear hx hsv hy hyv hset st hBs oms of omi hcf hff hcm' hja hBi
          go_wp2_with fail
          have hj0 : (0 : Int) ≤ (j : Int) := Int.natCast_nonneg _
          have hj1 : j < 12 - M := by omega
          have hw1 : IntKind.i64.wrap (x - s) = x - s := by rw [IntKind.wrap_i64]; omega
          have hw2 : IntKind.i64.wrap (x - s + 991) = x - s + 991 := by rw [IntKind.wrap_i64]; omega
          have htm : (x - s + 991).tmod 991 = y := by rw [Int.tmod_eq_emod_of_nonneg (by omega), hy2]
          clear hy2
          go_region
          all_goals (
            go_wp2
            go_roundw
            case rel => exact ⟨j + 1, by omega, by go_num, ST.out.drew, BS.out.drew, OM.out.drew⟩
            case measure => simp [intOf]; omega)
        · have hjn : j = 3 * k + 3 := by omega
          have he : FillTo acc v j = fillS acc v := by rw [hjn, ← HA.out]; exact FillTo_all acc v
          rw [he] at of
          have OF := Lib.hid of
          have hszi := hBi.size
          have hszm := omi.2.1
          clear he hjn of omi
          go_wp2_with fail
          go_roundw
          case rel => exact ⟨k + 1, _, _, _, by omega, by go_num, rfl, HK.out, OF.out.wider (Nat.le_refl _) (by omega) (Nat.le_refl _), hBi⟩
          case measure => simp [intOf]; omega
    · have hkn : k = n - 1 := by omega
      have he : acc = fillL keys := FillAcc.all (by rw [HL.out, ← hkn]; exact hacc)
      rw [he] at hown
      have HO := Lib.hid hown
      clear he hkn hs hown hacc
      go_wp2_with fail
      go_ret
      exact ⟨_, _, _, rfl, HO.out, hnx⟩
end Go.Proofs.Ytbkecimhbibnjaa
