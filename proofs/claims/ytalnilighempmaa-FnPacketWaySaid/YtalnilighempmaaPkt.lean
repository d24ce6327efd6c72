/-
  Contracts of the functions that compare, mark and check packets.
  Conditions: the packets' slices read as lists of whole numbers.
-/
import Derived.Test.YtalnilighempmaaTwo
import Derived.Test.YtalnilighempmaaLawsC
namespace Go.Proofs.Ytalnilighempmaa
open Go Go.RowKit

theorem after_box1 {w w2 : World} {cs : Array Value} {t : TypeId} (h : Below (w.alloc (.cells cs t)).heap.size (w.alloc (.cells cs t)) w2) : w2.heap[w.heap.size]? = some (.cells cs t) :=
  (h.block _ (by simp)).trans (heap_alloc_new w _)
theorem after_box2 {w w2 : World} {cs cs2 : Array Value} {t t2 : TypeId} (h : Below ((w.alloc (.cells cs t)).alloc (.cells cs2 t2)).heap.size ((w.alloc (.cells cs t)).alloc (.cells cs2 t2)) w2) :
    w2.heap[w.heap.size]? = some (.cells cs t) ∧ w2.heap[w.heap.size + 1]? = some (.cells cs2 t2) := by
  constructor
  · exact (h.block _ (by simp <;> omega)).trans ((heap_alloc_old _ _ (by simp)).trans (heap_alloc_new w _))
  · have e : (w.alloc (.cells cs t)).heap.size = w.heap.size + 1 := by simp
    have g := heap_alloc_new (w.alloc (.cells cs t)) (.cells cs2 t2)
    rw [e] at g
    exact (h.block _ (by simp)).trans g
set_option maxRecDepth 100000 in
set_option maxHeartbeats 1600000 in
theorem samePacket_t (e t : Int) (A : Option Addr) (n c : Nat) (A2 : Option Addr) (n2 c2 : Nat) (B : Option Addr) (m d : Nat) (B2 : Option Addr) (m2 d2 : Nat) (lo hi lo2 hi2 : Nat) (h b : List Int) (w : World) (ha : TwoR w lo hi h b A n c A2 n2 c2) (hb : TwoR w lo2 hi2 h b B m d B2 m2 d2) (hn : n ≤ 4194304) (hn2 : n2 ≤ 4194304) :
    Calls Try.prog 31 #[.agg #[.int .i64 e, .slice A n c, .int .i64 t, .slice A2 n2 c2], .agg #[.int .i64 e, .slice B m d, .int .i64 t, .slice B2 m2 d2]] w (Tells true w) := by
  have hab := (ha.alloc (.cells #[.int .i64 e, .slice A n c, .int .i64 t, .slice A2 n2 c2] 27)).alloc (.cells #[.int .i64 e, .slice B m d, .int .i64 t, .slice B2 m2 d2] 27)
  have hbb := (hb.alloc (.cells #[.int .i64 e, .slice A n c, .int .i64 t, .slice A2 n2 c2] 27)).alloc (.cells #[.int .i64 e, .slice B m d, .int .i64 t, .slice B2 m2 d2] 27)
  have hbw0 : Below w.heap.size w ((w.alloc (.cells #[.int .i64 e, .slice A n c, .int .i64 t, .slice A2 n2 c2] 27)).alloc (.cells #[.int .i64 e, .slice B m d, .int .i64 t, .slice B2 m2 d2] 27)) := ((Below.refl _ _).alloc (Nat.le_refl _) _).alloc (by simp) _
  go_enter Try.func31, Try.ntmps31
  go_wp2_with fail
  refine (sameInts_t _ _ _ _ _ _ _ _ _ _ _ _ hab.1 hbb.1 hn).mono ?_
  rintro e w2 ⟨rfl, h2⟩
  obtain ⟨r1, r2⟩ := after_box2 h2
  have k2 := cell_of_row w2 w.heap.size 2 _ _ _ r1
  have k3 := cell_of_row w2 w.heap.size 3 _ _ _ r1
  simp only [List.getElem?_toArray, List.getElem?_cons_zero, List.getElem?_cons_succ] at k2 k3
  have p2 := cell_of_row w2 (w.heap.size + 1) 2 _ _ _ r2
  have p3 := cell_of_row w2 (w.heap.size + 1) 3 _ _ _ r2
  simp only [List.getElem?_toArray, List.getElem?_cons_zero, List.getElem?_cons_succ] at p2 p3
  have ha2 := hab.below h2 hab.hi_le
  have hb2 := hbb.below h2 hbb.hi_le
  have hz2 := h2.size
  have hbw := hbw0.trans (h2.mono hbw0.size)
  clear r1 r2 hab hbb h2 hbw0
  go_wp2_with fail
  refine (sameInts_t _ _ _ _ _ _ _ _ _ _ _ _ ha2.2.1 hb2.2.1 hn2).mono ?_
  rintro e w3 ⟨rfl, h3⟩
  have hbw3 := hbw.trans (h3.mono hbw.size)
  clear k2 k3 p2 p3 h3 hbw
  go_wp2_with fail
  go_ret
  exact ⟨rfl, hbw3⟩
set_option maxRecDepth 100000 in
set_option maxHeartbeats 1600000 in
theorem eqPacket_t (e t : Int) (A : Option Addr) (n c : Nat) (A2 : Option Addr) (n2 c2 : Nat) (B : Option Addr) (m d : Nat) (B2 : Option Addr) (m2 d2 : Nat) (lo hi lo2 hi2 : Nat) (h b : List Int) (w : World) (ha : TwoR w lo hi h b A n c A2 n2 c2) (hb : TwoR w lo2 hi2 h b B m d B2 m2 d2) (hn : n ≤ 4194304) (hn2 : n2 ≤ 4194304) :
    Calls Try.prog 46 #[.agg #[.int .i64 e, .slice A n c, .int .i64 t, .slice A2 n2 c2], .agg #[.int .i64 e, .slice B m d, .int .i64 t, .slice B2 m2 d2]] w (Tells true w) := by
  have hab := (ha.alloc (.cells #[.int .i64 e, .slice A n c, .int .i64 t, .slice A2 n2 c2] 27)).alloc (.cells #[.int .i64 e, .slice B m d, .int .i64 t, .slice B2 m2 d2] 27)
  have hbb := (hb.alloc (.cells #[.int .i64 e, .slice A n c, .int .i64 t, .slice A2 n2 c2] 27)).alloc (.cells #[.int .i64 e, .slice B m d, .int .i64 t, .slice B2 m2 d2] 27)
  have hbw0 : Below w.heap.size w ((w.alloc (.cells #[.int .i64 e, .slice A n c, .int .i64 t, .slice A2 n2 c2] 27)).alloc (.cells #[.int .i64 e, .slice B m d, .int .i64 t, .slice B2 m2 d2] 27)) := ((Below.refl _ _).alloc (Nat.le_refl _) _).alloc (by simp) _
  go_enter Try.func46, Try.ntmps46
  go_wp2_with fail
  refine (eqIntS_t _ _ _ _ _ _ _ _ _ _ _ _ hab.1 hbb.1 hn).mono ?_
  rintro e w2 ⟨rfl, h2⟩
  obtain ⟨r1, r2⟩ := after_box2 h2
  have k2 := cell_of_row w2 w.heap.size 2 _ _ _ r1
  have k3 := cell_of_row w2 w.heap.size 3 _ _ _ r1
  simp only [List.getElem?_toArray, List.getElem?_cons_zero, List.getElem?_cons_succ] at k2 k3
  have p2 := cell_of_row w2 (w.heap.size + 1) 2 _ _ _ r2
  have p3 := cell_of_row w2 (w.heap.size + 1) 3 _ _ _ r2
  simp only [List.getElem?_toArray, List.getElem?_cons_zero, List.getElem?_cons_succ] at p2 p3
  have ha2 := hab.below h2 hab.hi_le
  have hb2 := hbb.below h2 hbb.hi_le
  have hz2 := h2.size
  have hbw := hbw0.trans (h2.mono hbw0.size)
  clear r1 r2 hab hbb h2 hbw0
  go_wp2_with fail
  refine (eqIntS_t _ _ _ _ _ _ _ _ _ _ _ _ ha2.2.1 hb2.2.1 hn2).mono ?_
  rintro e w3 ⟨rfl, h3⟩
  have hbw3 := hbw.trans (h3.mono hbw.size)
  clear k2 k3 p2 p3 h3 hbw
  go_wp2_with fail
  go_ret
  exact ⟨rfl, hbw3⟩
set_option maxRecDepth 100000 in
set_option maxHeartbeats 1600000 in
theorem samePeeled_t (k x e t : Int) (A : Option Addr) (n c : Nat) (A2 : Option Addr) (n2 c2 : Nat) (B : Option Addr) (m d : Nat) (B2 : Option Addr) (m2 d2 : Nat) (lo hi lo2 hi2 : Nat) (h b : List Int) (w : World) (ha : TwoR w lo hi h b A n c A2 n2 c2) (hb : TwoR w lo2 hi2 h b B m d B2 m2 d2) (hn : n ≤ 4194304) (hn2 : n2 ≤ 4194304) :
    Calls Try.prog 73 #[.agg #[.int .i64 k, .int .i64 x, .int .i64 e, .slice A n c, .int .i64 t, .slice A2 n2 c2], .agg #[.int .i64 k, .int .i64 x, .int .i64 e, .slice B m d, .int .i64 t, .slice B2 m2 d2]] w (Tells true w) := by
  have hab := (ha.alloc (.cells #[.int .i64 k, .int .i64 x, .int .i64 e, .slice A n c, .int .i64 t, .slice A2 n2 c2] 34)).alloc (.cells #[.int .i64 k, .int .i64 x, .int .i64 e, .slice B m d, .int .i64 t, .slice B2 m2 d2] 34)
  have hbb := (hb.alloc (.cells #[.int .i64 k, .int .i64 x, .int .i64 e, .slice A n c, .int .i64 t, .slice A2 n2 c2] 34)).alloc (.cells #[.int .i64 k, .int .i64 x, .int .i64 e, .slice B m d, .int .i64 t, .slice B2 m2 d2] 34)
  have hbw0 : Below w.heap.size w ((w.alloc (.cells #[.int .i64 k, .int .i64 x, .int .i64 e, .slice A n c, .int .i64 t, .slice A2 n2 c2] 34)).alloc (.cells #[.int .i64 k, .int .i64 x, .int .i64 e, .slice B m d, .int .i64 t, .slice B2 m2 d2] 34)) := ((Below.refl _ _).alloc (Nat.le_refl _) _).alloc (by simp) _
  go_enter Try.func73, Try.ntmps73
  go_wp2_with fail
  refine (samePacket_t e t A n c A2 n2 c2 B m d B2 m2 d2 _ _ _ _ _ _ _ hab hbb hn hn2).mono ?_
  rintro e w2 ⟨rfl, h2⟩
  have hbw := hbw0.trans (h2.mono hbw0.size)
  clear hab hbb h2 hbw0
  go_wp2_with fail
  go_ret
  exact ⟨rfl, hbw⟩
set_option maxRecDepth 100000 in
set_option maxHeartbeats 1600000 in
theorem eqPeeled_t (k x e t : Int) (A : Option Addr) (n c : Nat) (A2 : Option Addr) (n2 c2 : Nat) (B : Option Addr) (m d : Nat) (B2 : Option Addr) (m2 d2 : Nat) (lo hi lo2 hi2 : Nat) (h b : List Int) (w : World) (ha : TwoR w lo hi h b A n c A2 n2 c2) (hb : TwoR w lo2 hi2 h b B m d B2 m2 d2) (hn : n ≤ 4194304) (hn2 : n2 ≤ 4194304) :
    Calls Try.prog 67 #[.agg #[.int .i64 k, .int .i64 x, .int .i64 e, .slice A n c, .int .i64 t, .slice A2 n2 c2], .agg #[.int .i64 k, .int .i64 x, .int .i64 e, .slice B m d, .int .i64 t, .slice B2 m2 d2]] w (Tells true w) := by
  have hab := (ha.alloc (.cells #[.int .i64 k, .int .i64 x, .int .i64 e, .slice A n c, .int .i64 t, .slice A2 n2 c2] 34)).alloc (.cells #[.int .i64 k, .int .i64 x, .int .i64 e, .slice B m d, .int .i64 t, .slice B2 m2 d2] 34)
  have hbb := (hb.alloc (.cells #[.int .i64 k, .int .i64 x, .int .i64 e, .slice A n c, .int .i64 t, .slice A2 n2 c2] 34)).alloc (.cells #[.int .i64 k, .int .i64 x, .int .i64 e, .slice B m d, .int .i64 t, .slice B2 m2 d2] 34)
  have hbw0 : Below w.heap.size w ((w.alloc (.cells #[.int .i64 k, .int .i64 x, .int .i64 e, .slice A n c, .int .i64 t, .slice A2 n2 c2] 34)).alloc (.cells #[.int .i64 k, .int .i64 x, .int .i64 e, .slice B m d, .int .i64 t, .slice B2 m2 d2] 34)) := ((Below.refl _ _).alloc (Nat.le_refl _) _).alloc (by simp) _
  go_enter Try.func67, Try.ntmps67
  go_wp2_with fail
  refine (eqPacket_t e t A n c A2 n2 c2 B m d B2 m2 d2 _ _ _ _ _ _ _ hab hbb hn hn2).mono ?_
  rintro e w2 ⟨rfl, h2⟩
  have hbw := hbw0.trans (h2.mono hbw0.size)
  clear hab hbb h2 hbw0
  go_wp2_with fail
  go_ret
  exact ⟨rfl, hbw⟩
/-- What marking a packet leaves. -/
def MarkTwo (a : Int) (lo hi : Nat) (A : Option Addr) (n c : Nat) (A2 : Option Addr) (n2 c2 : Nat) (w : World) (e : Ending) (w' : World) : Prop :=
  e = .returned (.int .i64 (a + (n : Int) + (n2 : Int))) ∧ TwoO w' lo hi (marks a n) (marks (a + (n : Int)) n2) A n c A2 n2 c2 ∧ Only lo hi w w'
set_option maxRecDepth 100000 in
set_option maxHeartbeats 1600000 in
theorem markPacket_c (a e t : Int) (A : Option Addr) (n c : Nat) (A2 : Option Addr) (n2 c2 : Nat) (lo hi : Nat) (h b : List Int) (w : World) (hs : TwoO w lo hi h b A n c A2 n2 c2) (hn : n ≤ 4194304) (hn2 : n2 ≤ 4194304) (ha : 0 ≤ a ∧ a ≤ 500000000) :
    Calls Try.prog 68 #[.agg #[.int .i64 e, .slice A n c, .int .i64 t, .slice A2 n2 c2], .int .i64 a] w (MarkTwo a lo hi A n c A2 n2 c2 w) := by
  have hab := hs.alloc (.cells #[.int .i64 e, .slice A n c, .int .i64 t, .slice A2 n2 c2] 27)
  have hwh := hs.hi_le
  have HS := Lib.hid hs
  clear hs
  go_enter Try.func68, Try.ntmps68
  go_wp2_with fail
  refine (markIntS_c a A n c lo hi h _ hab.1 hn (by omega)).mono ?_
  rintro e w2 ⟨rfl, o1, g1⟩
  have hb1 : ∀ g, Value.ownBlock (.slice A n c) = some g → lo ≤ g ∧ g < hi := fun g hg => hab.1.block hg
  have o2 := hab.2.1.other g1 (fun g hg => HS.out.2.2 g hg)
  have r2 : w2.heap[w.heap.size]? = some (.cells #[.int .i64 e, .slice A n c, .int .i64 t, .slice A2 n2 c2] 27) := (g1.block _ (by simp) (fun e => by have := hb1 _ e.symm; omega)).trans (heap_alloc_new w _)
  have k3 := cell_of_row w2 w.heap.size 3 _ _ _ r2
  simp only [List.getElem?_toArray, List.getElem?_cons_zero, List.getElem?_cons_succ] at k3
  have hz2 := g1.size
  have hon : Only lo hi w w2 := (Only.of_below ((Below.refl _ _).alloc (Nat.le_refl _) _)).trans (Only.of_grown g1 hb1)
  have O1 := Lib.hid o1
  have G1 := Lib.hid g1
  have ON := Lib.hid hon
  have HAB := Lib.hid hab
  clear o1 g1 hb1 r2 hon hab
  go_wp2_with fail
  refine (markIntS_c (a + (n : Int)) A2 n2 c2 lo hi b _ o2 hn2 (by omega)).mono ?_
  rintro e w3 ⟨rfl, o3, g3⟩
  have o1' := O1.out.other g3 (fun g hg e => HS.out.2.2 g e hg)
  have hon3 := ON.out.trans (Only.of_grown g3 (fun g hg => o2.block hg))
  have hfin : TwoO w3 lo hi (marks a n) (marks (a + (n : Int)) n2) A n c A2 n2 c2 := ⟨o1', o3, HS.out.2.2⟩
  have HF := Lib.hid hfin
  have HO := Lib.hid hon3
  clear o2 o3 g3 o1' hon3 hfin k3
  go_wp2_with fail
  go_ret
  exact ⟨rfl, HF.out, HO.out⟩
set_option maxRecDepth 100000 in
set_option maxHeartbeats 1600000 in
theorem heldPacket_c (a e t : Int) (A : Option Addr) (n c : Nat) (A2 : Option Addr) (n2 c2 : Nat) (lo hi : Nat) (w : World) (hs : TwoR w lo hi (marks a n) (marks (a + (n : Int)) n2) A n c A2 n2 c2) (hn : n ≤ 4194304) (hn2 : n2 ≤ 4194304) (ha : 0 ≤ a ∧ a ≤ 500000000) :
    Calls Try.prog 71 #[.agg #[.int .i64 e, .slice A n c, .int .i64 t, .slice A2 n2 c2], .int .i64 a] w fun e w' => e = .returned (.int .i64 (a + (n : Int) + (n2 : Int))) ∧ Below w.heap.size w w' := by
  have hab := hs.alloc (.cells #[.int .i64 e, .slice A n c, .int .i64 t, .slice A2 n2 c2] 27)
  have hp1 : ¬ a + (n : Int) < 0 := by omega
  have hp2 : ¬ a + (n : Int) + (n2 : Int) < 0 := by omega
  obtain ⟨ha1, ha2⟩ := ha
  clear hs
  go_enter Try.func71, Try.ntmps71
  go_wp2_with fail
  refine (heldIntS_c a A n c lo hi _ hab.1 hn (by omega)).mono ?_
  rintro e w' ⟨rfl, rfl⟩
  go_wp2_with fail
  refine (heldIntS_c (a + (n : Int)) A2 n2 c2 lo hi _ hab.2.1 hn2 (by omega)).mono ?_
  rintro e w' ⟨rfl, rfl⟩
  go_wp2_with fail
  go_ret
  exact ⟨rfl, (Below.refl _ _).alloc (Nat.le_refl _) _⟩
set_option maxRecDepth 100000 in
set_option maxHeartbeats 1600000 in
theorem markPeeled_c (a k x e t : Int) (A : Option Addr) (n c : Nat) (A2 : Option Addr) (n2 c2 : Nat) (lo hi : Nat) (h b : List Int) (w : World) (hs : TwoO w lo hi h b A n c A2 n2 c2) (hn : n ≤ 4194304) (hn2 : n2 ≤ 4194304) (ha : 0 ≤ a ∧ a ≤ 500000000) :
    Calls Try.prog 69 #[.agg #[.int .i64 k, .int .i64 x, .int .i64 e, .slice A n c, .int .i64 t, .slice A2 n2 c2], .int .i64 a] w (MarkTwo a lo hi A n c A2 n2 c2 w) := by
  have hab := hs.alloc (.cells #[.int .i64 k, .int .i64 x, .int .i64 e, .slice A n c, .int .i64 t, .slice A2 n2 c2] 34)
  have hwh := hs.hi_le
  clear hs
  go_enter Try.func69, Try.ntmps69
  go_wp2_with fail
  refine (markPacket_c a e t A n c A2 n2 c2 lo hi h b _ hab hn hn2 ha).mono ?_
  rintro e' w2 ⟨rfl, o1, g1⟩
  have hon := (Only.of_below (lo := lo) (hi := hi) ((Below.refl w.heap.size w).alloc (Nat.le_refl _) (.cells #[.int .i64 k, .int .i64 x, .int .i64 e, .slice A n c, .int .i64 t, .slice A2 n2 c2] 34))).trans g1
  have O1 := Lib.hid o1
  have ON := Lib.hid hon
  clear o1 g1 hon hab
  go_wp2_with fail
  go_ret
  exact ⟨rfl, O1.out, ON.out⟩
set_option maxRecDepth 100000 in
set_option maxHeartbeats 1600000 in
theorem heldPeeled_c (a k x e t : Int) (A : Option Addr) (n c : Nat) (A2 : Option Addr) (n2 c2 : Nat) (lo hi : Nat) (w : World) (hs : TwoR w lo hi (marks a n) (marks (a + (n : Int)) n2) A n c A2 n2 c2) (hn : n ≤ 4194304) (hn2 : n2 ≤ 4194304) (ha : 0 ≤ a ∧ a ≤ 500000000) :
    Calls Try.prog 70 #[.agg #[.int .i64 k, .int .i64 x, .int .i64 e, .slice A n c, .int .i64 t, .slice A2 n2 c2], .int .i64 a] w fun e w' => e = .returned (.int .i64 (a + (n : Int) + (n2 : Int))) ∧ Below w.heap.size w w' := by
  have hab := hs.alloc (.cells #[.int .i64 k, .int .i64 x, .int .i64 e, .slice A n c, .int .i64 t, .slice A2 n2 c2] 34)
  have hp2 : ¬ a + (n : Int) + (n2 : Int) < 0 := by omega
  clear hs
  go_enter Try.func70, Try.ntmps70
  go_wp2_with fail
  refine (heldPacket_c a e t A n c A2 n2 c2 lo hi _ hab hn hn2 ha).mono ?_
  rintro e' w2 ⟨rfl, h2⟩
  have hbw : Below w.heap.size w w2 := ((Below.refl w.heap.size w).alloc (Nat.le_refl _) (.cells #[.int .i64 k, .int .i64 x, .int .i64 e, .slice A n c, .int .i64 t, .slice A2 n2 c2] 34)).trans (h2.mono (by simp))
  clear h2 hab
  obtain ⟨ha1, ha2⟩ := ha
  go_wp2_with fail
  go_ret
  exact ⟨rfl, hbw⟩
theorem valid_parts (e : Int) (h : List Int) (t : Int) (b : List Int) {n n2 : Nat} (hn : h.length = n) (hn2 : b.length = n2) : validB ⟨e, h, t, b⟩ = (elB e && (decide ((n : Int) = 9) && listB h) && (decide ((n2 : Int) = 6) && listB b) && numB t) := by
  subst hn hn2
  have e1 : decide ((h.length : Int) = 9) = decide (h.length = 9) := by rw [Bool.eq_iff_iff]; simp; omega
  have e2 : decide ((b.length : Int) = 6) = decide (b.length = 6) := by rw [Bool.eq_iff_iff]; simp; omega
  rw [e1, e2, validB]
  cases elB e <;> cases listB h <;> cases listB b <;> cases numB t <;> simp
theorem valid_false {e : Int} {h : List Int} {t : Int} {b : List Int} (hv : ¬ (elB e = true ∧ listB h = true ∧ h.length = 9 ∧ listB b = true ∧ b.length = 6 ∧ 0 ≤ t ∧ t ≤ 990)) : validB ⟨e, h, t, b⟩ = false := by
  cases g : validB ⟨e, h, t, b⟩ with
  | false => rfl
  | true => exact absurd (validB_iff.1 g) hv
set_option maxRecDepth 100000 in
set_option maxHeartbeats 1600000 in
theorem packetValid_c (e t : Int) (A : Option Addr) (n c : Nat) (A2 : Option Addr) (n2 c2 : Nat) (lo hi : Nat) (h b : List Int) (w : World) (hs : TwoR w lo hi h b A n c A2 n2 c2) :
    Calls Try.prog 45 #[.agg #[.int .i64 e, .slice A n c, .int .i64 t, .slice A2 n2 c2]] w (Tells (validB ⟨e, h, t, b⟩) w) := by
  rw [valid_parts e h t b hs.1.len hs.2.1.len]
  have hab := hs.alloc (.cells #[.int .i64 e, .slice A n c, .int .i64 t, .slice A2 n2 c2] 27)
  have hl1 := hab.1
  have hl2 := hab.2.1
  clear hab hs
  obtain ⟨x2, hx2⟩ : ∃ x, x = (decide ((n : Int) = 9) && listB h) := ⟨_, rfl⟩
  obtain ⟨x3, hx3⟩ : ∃ x, x = (decide ((n2 : Int) = 6) && listB b) := ⟨_, rfl⟩
  rw [← hx2, ← hx3]
  have X2 := Lib.hid hx2.symm
  have X3 := Lib.hid hx3.symm
  clear hx2 hx3
  cases h1 : elB e with
  | false =>
    go_enter Try.func45, Try.ntmps45
    go_wp2_with (first | (go_at_call 99; refine (isElement_c _ _).mono ?_; rintro e w' ⟨rfl, rfl⟩) | (go_at_call 102; (with_reducible refine (listOf_c _ _ _ _ _ _ _ _ hl1).mono ?_); rintro e w' ⟨rfl, rfl⟩; rw [X2.out]) | (go_at_call 102; (with_reducible refine (listOf_c _ _ _ _ _ _ _ _ hl2).mono ?_); rintro e w' ⟨rfl, rfl⟩; rw [X3.out]) | (go_at_call 111; refine (isNumber_c _ _).mono ?_; rintro e w' ⟨rfl, rfl⟩))
    go_ret
    exact ⟨rfl, (Below.refl _ _).alloc (Nat.le_refl _) _⟩
  | true => cases x2 with
    | false =>
      go_enter Try.func45, Try.ntmps45
      go_wp2_with (first | (go_at_call 99; refine (isElement_c _ _).mono ?_; rintro e w' ⟨rfl, rfl⟩) | (go_at_call 102; (with_reducible refine (listOf_c _ _ _ _ _ _ _ _ hl1).mono ?_); rintro e w' ⟨rfl, rfl⟩; rw [X2.out]) | (go_at_call 102; (with_reducible refine (listOf_c _ _ _ _ _ _ _ _ hl2).mono ?_); rintro e w' ⟨rfl, rfl⟩; rw [X3.out]) | (go_at_call 111; refine (isNumber_c _ _).mono ?_; rintro e w' ⟨rfl, rfl⟩))
      go_ret
      exact ⟨rfl, (Below.refl _ _).alloc (Nat.le_refl _) _⟩
    | true => cases x3 with
      | false =>
        go_enter Try.func45, Try.ntmps45
        go_wp2_with (first | (go_at_call 99; refine (isElement_c _ _).mono ?_; rintro e w' ⟨rfl, rfl⟩) | (go_at_call 102; (with_reducible refine (listOf_c _ _ _ _ _ _ _ _ hl1).mono ?_); rintro e w' ⟨rfl, rfl⟩; rw [X2.out]) | (go_at_call 102; (with_reducible refine (listOf_c _ _ _ _ _ _ _ _ hl2).mono ?_); rintro e w' ⟨rfl, rfl⟩; rw [X3.out]) | (go_at_call 111; refine (isNumber_c _ _).mono ?_; rintro e w' ⟨rfl, rfl⟩))
        go_ret
        exact ⟨rfl, (Below.refl _ _).alloc (Nat.le_refl _) _⟩
      | true => cases h4 : numB t with
        | false =>
          go_enter Try.func45, Try.ntmps45
          go_wp2_with (first | (go_at_call 99; refine (isElement_c _ _).mono ?_; rintro e w' ⟨rfl, rfl⟩) | (go_at_call 102; (with_reducible refine (listOf_c _ _ _ _ _ _ _ _ hl1).mono ?_); rintro e w' ⟨rfl, rfl⟩; rw [X2.out]) | (go_at_call 102; (with_reducible refine (listOf_c _ _ _ _ _ _ _ _ hl2).mono ?_); rintro e w' ⟨rfl, rfl⟩; rw [X3.out]) | (go_at_call 111; refine (isNumber_c _ _).mono ?_; rintro e w' ⟨rfl, rfl⟩))
          go_ret
          exact ⟨rfl, (Below.refl _ _).alloc (Nat.le_refl _) _⟩
        | true =>
          go_enter Try.func45, Try.ntmps45
          go_wp2_with (first | (go_at_call 99; refine (isElement_c _ _).mono ?_; rintro e w' ⟨rfl, rfl⟩) | (go_at_call 102; (with_reducible refine (listOf_c _ _ _ _ _ _ _ _ hl1).mono ?_); rintro e w' ⟨rfl, rfl⟩; rw [X2.out]) | (go_at_call 102; (with_reducible refine (listOf_c _ _ _ _ _ _ _ _ hl2).mono ?_); rintro e w' ⟨rfl, rfl⟩; rw [X3.out]) | (go_at_call 111; refine (isNumber_c _ _).mono ?_; rintro e w' ⟨rfl, rfl⟩))
          go_ret
          exact ⟨rfl, (Below.refl _ _).alloc (Nat.le_refl _) _⟩
set_option maxRecDepth 100000 in
set_option maxHeartbeats 1600000 in
theorem sPacketValid_c (e t : Int) (A : Option Addr) (n c : Nat) (A2 : Option Addr) (n2 c2 : Nat) (lo hi : Nat) (h b : List Int) (w : World) (hs : TwoR w lo hi h b A n c A2 n2 c2) (hn : n ≤ 4194304) (hn2 : n2 ≤ 4194304) :
    Calls Try.prog 43 #[.agg #[.int .i64 e, .slice A n c, .int .i64 t, .slice A2 n2 c2]] w (Tells (validB ⟨e, h, t, b⟩) w) := by
  rw [valid_parts e h t b hs.1.len hs.2.1.len]
  have hab := hs.alloc (.cells #[.int .i64 e, .slice A n c, .int .i64 t, .slice A2 n2 c2] 27)
  have hl1 := hab.1
  have hl2 := hab.2.1
  clear hab hs
  have hnt : (decide (0 ≤ t) && decide (t ≤ 990)) = numB t := rfl
  have HNT := Lib.hid hnt
  clear hnt
  cases h1 : elB e with
  | false =>
    go_enter Try.func43, Try.ntmps43
    go_wp2_with (first | (go_at_call 91; refine (l1Is_c _ _).mono ?_; rintro e w' ⟨rfl, rfl⟩) | (go_at_call 110; (with_reducible refine (l2List_c _ _ _ _ _ _ _ hl1 (Nat.le_trans hn (by decide))).mono ?_); rintro e w' ⟨rfl, rfl⟩) | (go_at_call 110; (with_reducible refine (l2List_c _ _ _ _ _ _ _ hl2 (Nat.le_trans hn2 (by decide))).mono ?_); rintro e w' ⟨rfl, rfl⟩) | (go_at_call 94; refine (l6In_c _ _ _ _).mono ?_; rintro e w' ⟨rfl, rfl⟩; rw [HNT.out]))
    go_ret
    exact ⟨ret_b (by simp), (Below.refl _ _).alloc (Nat.le_refl _) _⟩
  | true => cases h2 : listB h with
    | false =>
      go_enter Try.func43, Try.ntmps43
      go_wp2_with (first | (go_at_call 91; refine (l1Is_c _ _).mono ?_; rintro e w' ⟨rfl, rfl⟩) | (go_at_call 110; (with_reducible refine (l2List_c _ _ _ _ _ _ _ hl1 (Nat.le_trans hn (by decide))).mono ?_); rintro e w' ⟨rfl, rfl⟩) | (go_at_call 110; (with_reducible refine (l2List_c _ _ _ _ _ _ _ hl2 (Nat.le_trans hn2 (by decide))).mono ?_); rintro e w' ⟨rfl, rfl⟩) | (go_at_call 94; refine (l6In_c _ _ _ _).mono ?_; rintro e w' ⟨rfl, rfl⟩; rw [HNT.out]))
      go_ret
      exact ⟨ret_b (by simp), (Below.refl _ _).alloc (Nat.le_refl _) _⟩
    | true =>
      by_cases h3 : (n : Int) = 9
      · have h3b : ((n : Int) == 9) = true := by simpa using h3
        have H3 := Lib.hid h3
        clear h3
        cases h4 : numB t with
        | false =>
          go_enter Try.func43, Try.ntmps43
          go_wp2_with (first | (go_at_call 91; refine (l1Is_c _ _).mono ?_; rintro e w' ⟨rfl, rfl⟩) | (go_at_call 110; (with_reducible refine (l2List_c _ _ _ _ _ _ _ hl1 (Nat.le_trans hn (by decide))).mono ?_); rintro e w' ⟨rfl, rfl⟩) | (go_at_call 110; (with_reducible refine (l2List_c _ _ _ _ _ _ _ hl2 (Nat.le_trans hn2 (by decide))).mono ?_); rintro e w' ⟨rfl, rfl⟩) | (go_at_call 94; refine (l6In_c _ _ _ _).mono ?_; rintro e w' ⟨rfl, rfl⟩; rw [HNT.out]))
          go_ret
          exact ⟨ret_b (by simp), (Below.refl _ _).alloc (Nat.le_refl _) _⟩
        | true => cases h5 : listB b with
          | false =>
            go_enter Try.func43, Try.ntmps43
            go_wp2_with (first | (go_at_call 91; refine (l1Is_c _ _).mono ?_; rintro e w' ⟨rfl, rfl⟩) | (go_at_call 110; (with_reducible refine (l2List_c _ _ _ _ _ _ _ hl1 (Nat.le_trans hn (by decide))).mono ?_); rintro e w' ⟨rfl, rfl⟩) | (go_at_call 110; (with_reducible refine (l2List_c _ _ _ _ _ _ _ hl2 (Nat.le_trans hn2 (by decide))).mono ?_); rintro e w' ⟨rfl, rfl⟩) | (go_at_call 94; refine (l6In_c _ _ _ _).mono ?_; rintro e w' ⟨rfl, rfl⟩; rw [HNT.out]))
            go_ret
            exact ⟨ret_b (by simp), (Below.refl _ _).alloc (Nat.le_refl _) _⟩
          | true =>
            by_cases h6 : (n2 : Int) = 6
            · have h6b : ((n2 : Int) == 6) = true := by simpa using h6
              have H6 := Lib.hid h6
              clear h6
              go_enter Try.func43, Try.ntmps43
              go_wp2_with (first | (go_at_call 91; refine (l1Is_c _ _).mono ?_; rintro e w' ⟨rfl, rfl⟩) | (go_at_call 110; (with_reducible refine (l2List_c _ _ _ _ _ _ _ hl1 (Nat.le_trans hn (by decide))).mono ?_); rintro e w' ⟨rfl, rfl⟩) | (go_at_call 110; (with_reducible refine (l2List_c _ _ _ _ _ _ _ hl2 (Nat.le_trans hn2 (by decide))).mono ?_); rintro e w' ⟨rfl, rfl⟩) | (go_at_call 94; refine (l6In_c _ _ _ _).mono ?_; rintro e w' ⟨rfl, rfl⟩; rw [HNT.out]))
              go_ret
              exact ⟨ret_b (by simp [H3.out, H6.out]), (Below.refl _ _).alloc (Nat.le_refl _) _⟩
            · have h6b : ((n2 : Int) == 6) = false := by simpa using h6
              have H6 := Lib.hid h6
              clear h6
              go_enter Try.func43, Try.ntmps43
              go_wp2_with (first | (go_at_call 91; refine (l1Is_c _ _).mono ?_; rintro e w' ⟨rfl, rfl⟩) | (go_at_call 110; (with_reducible refine (l2List_c _ _ _ _ _ _ _ hl1 (Nat.le_trans hn (by decide))).mono ?_); rintro e w' ⟨rfl, rfl⟩) | (go_at_call 110; (with_reducible refine (l2List_c _ _ _ _ _ _ _ hl2 (Nat.le_trans hn2 (by decide))).mono ?_); rintro e w' ⟨rfl, rfl⟩) | (go_at_call 94; refine (l6In_c _ _ _ _).mono ?_; rintro e w' ⟨rfl, rfl⟩; rw [HNT.out]))
              go_ret
              exact ⟨ret_b (by simp [H6.out]), (Below.refl _ _).alloc (Nat.le_refl _) _⟩
      · have h3b : ((n : Int) == 9) = false := by simpa using h3
        have H3 := Lib.hid h3
        clear h3
        go_enter Try.func43, Try.ntmps43
        go_wp2_with (first | (go_at_call 91; refine (l1Is_c _ _).mono ?_; rintro e w' ⟨rfl, rfl⟩) | (go_at_call 110; (with_reducible refine (l2List_c _ _ _ _ _ _ _ hl1 (Nat.le_trans hn (by decide))).mono ?_); rintro e w' ⟨rfl, rfl⟩) | (go_at_call 110; (with_reducible refine (l2List_c _ _ _ _ _ _ _ hl2 (Nat.le_trans hn2 (by decide))).mono ?_); rintro e w' ⟨rfl, rfl⟩) | (go_at_call 94; refine (l6In_c _ _ _ _).mono ?_; rintro e w' ⟨rfl, rfl⟩; rw [HNT.out]))
        go_ret
        exact ⟨ret_b (by simp [H3.out]), (Below.refl _ _).alloc (Nat.le_refl _) _⟩
end Go.Proofs.Ytalnilighempmaa
