/-
  What the statements say of packets, of the plain functions alone: a packet goes its way and arrives.
  No condition.
-/
import Derived.Test.YtbkecimhbibnjaaPureD
namespace Go.Proofs.Ytbkecimhbibnjaa

theorem list9 {l : List Int} (h : l.length = 9) : ∃ a0 a1 a2 a3 a4 a5 a6 a7 a8, l = [a0, a1, a2, a3, a4, a5, a6, a7, a8] := by
  match l, h with
  | [a0, a1, a2, a3, a4, a5, a6, a7, a8], _ => exact ⟨_, _, _, _, _, _, _, _, _, rfl⟩
theorem mask_back (x s : Int) (h : 0 ≤ x ∧ x ≤ 990) : ((x + s % 991) % 991 + 991 - s % 991) % 991 = x := by omega
/-- One layer comes off: the plain numbers, and the header for the next mix, if its last three numbers are the ends of the stream. -/
theorem plain_hdr {k a n t : Int} {h : List Int} (hl : h.length = 9) (hn : ∀ x ∈ h, 0 ≤ x ∧ x ≤ 990) (ha : 0 ≤ a ∧ a ≤ 990) (hn' : 0 ≤ n ∧ n ≤ 990) (ht : 0 ≤ t ∧ t ≤ 990)
    (hd : h.drop 6 = [(991 - strm k 9) % 991, (991 - strm k 10) % 991, (991 - strm k 11) % 991]) :
    plainL k (onL ([a, n, t] ++ h.take 6) k) = [a, n, t] ++ h := by
  obtain ⟨a0, a1, a2, a3, a4, a5, a6, a7, a8, rfl⟩ := list9 hl
  simp only [List.mem_cons, forall_eq_or_imp, List.not_mem_nil, false_imp_iff, implies_true, and_true] at hn
  have b := strm_bd k
  have b0 := b 0; have b1 := b 1; have b2 := b 2; have b3 := b 3; have b4 := b 4; have b5 := b 5; have b6 := b 6; have b7 := b 7; have b8 := b 8; have b9 := b 9; have b10 := b 10; have b11 := b 11
  clear b
  simp only [List.drop, List.cons.injEq, and_true] at hd
  simp [plainL, onL, offL, List.mapIdx_cons]
  omega
theorem drop6_one {k0 k1 to : Int} : (hdrL (fillL [k0, k1]) to [k1] []).drop 6 = [(991 - strm k0 9) % 991, (991 - strm k0 10) % 991, (991 - strm k0 11) % 991] := by
  rw [hdrL_one]
  simp [fillL, fillS, onL]
theorem hdrL_one_any (fill : List Int) (to k : Int) (ns ms : List Int) : hdrL fill to [k] ns = hdrL fill to [k] ms := by rw [hdrL_one, hdrL_one]
theorem drop6_two {k0 k1 k2 to : Int} : (hdrL (fillL [k0, k1, k2]) to [k2] []).drop 6 = [(991 - strm k1 9) % 991, (991 - strm k1 10) % 991, (991 - strm k1 11) % 991] := by
  rw [hdrL_one]
  simp [fillL, fillS, onL]
theorem drop6_mid {k0 k1 k2 to n1 n2 : Int} : (hdrL (fillL [k0, k1, k2]) to [k1, k2] [n1, n2]).drop 6 = [(991 - strm k0 9) % 991, (991 - strm k0 10) % 991, (991 - strm k0 11) % 991] := by
  rw [hdrL_more, hdrL_one]
  have b := strm_bd k1
  have b6 := b 6; have b7 := b 7; have b8 := b 8
  have c := strm_bd k0
  have c9 := c 9; have c10 := c 10; have c11 := c 11
  clear b c
  simp [fillL, fillS, onL, List.mapIdx_cons]
theorem plain_last {k to : Int} {fill : List Int} (hto : 0 ≤ to ∧ to ≤ 990) :
    (plainL k (onL ([1, to] ++ List.replicate (7 - fill.length) 0) k ++ fill)).getD 0 0 = 1 ∧ (plainL k (onL ([1, to] ++ List.replicate (7 - fill.length) 0) k ++ fill)).getD 1 0 = to := by
  have b := strm_bd k
  have b0 := b 0; have b1 := b 1
  clear b
  simp [plainL, onL, offL, List.mapIdx_cons]
  omega

theorem masksL_cons (b : List Int) (k : Int) (ks : List Int) : masksL b (k :: ks) = onL (masksL b ks) k := by
  unfold masksL
  induction ks generalizing b with
  | nil => rfl
  | cons j r ih =>
    simp only [List.foldl_cons] at ih ⊢
    rw [on_on, ih]
theorem shared_comm {s a : Int} (hs : elB s = true) (ha : elB a = true) : mulP a (mulP s 5) = mulP s (mulP a 5) := by
  rw [← mulP_assoc ha hs el5, mulP_comm a s, mulP_assoc hs ha el5]
theorem peel_step {s a n t k : Int} {h b : List Int} (hs : elB s = true) (ha : elB a = true) (hk : k = mulP s (mulP a 5)) (hl : h.length = 9) (hn : ∀ x ∈ h, 0 ≤ x ∧ x ≤ 990) (hname : nameB n = true) (ht : 0 ≤ t ∧ t ≤ 990)
    (hb : listB b = true) (hb6 : b.length = 6) (hd : h.drop 6 = [(991 - strm k 9) % 991, (991 - strm k 10) % 991, (991 - strm k 11) % 991]) :
    peelB a ⟨mulP s 5, onL ([0, n, t] ++ h.take 6) k, tagL k (onL ([0, n, t] ++ h.take 6) k), onL b k⟩ = true ∧
    peelL a ⟨mulP s 5, onL ([0, n, t] ++ h.take 6) k, tagL k (onL ([0, n, t] ++ h.take 6) k), onL b k⟩ = ⟨0, n, mulP (mulP s (facP k)) 5, h, t, b⟩ := by
  have hel : elB k = true := by rw [hk]; exact mulP_el hs (mulP_el ha el5)
  have e1 : mulP a (mulP s 5) = k := by rw [hk, shared_comm hs ha]
  have hnm := nameB_iff.1 hname
  have e2 := plain_hdr (k := k) (a := 0) (n := n) (t := t) hl hn (by omega) (by omega) ht hd
  have e3 : mulP (mulP s 5) (facP k) = mulP (mulP s (facP k)) 5 := by
    rw [mulP_assoc hs el5 (facP_el hel), mulP_comm 5, ← mulP_assoc hs (facP_el hel) el5]
  have hlen : (onL ([0, n, t] ++ h.take 6) k).length = 9 := by simp [onL_len, hl]
  constructor
  · simp only [peelB, peelIn, Bool.and_eq_true]
    refine ⟨⟨ha, validB_iff.2 ⟨mulP_el hs el5, listB_iff.2 ⟨Nat.le_trans (Nat.le_of_eq hlen) (by omega), onL_num _ _⟩, hlen, onL_listB (by omega) _, by rw [onL_len]; exact hb6, tagL_bd _ _⟩⟩, ⟨by simp [e1], ?_⟩, ?_⟩
    · rw [e1, e2]; rfl
    · rw [e1, e2]; exact hname
  · simp only [peelL, e1, e2, e3, off_on hb]
    rfl
theorem peel_last {s a to k : Int} {fill b : List Int} (hs : elB s = true) (ha : elB a = true) (hk : k = mulP s (mulP a 5)) (hto : nameB to = true) (hf : fill.length ≤ 6) (hn : ∀ x ∈ fill, 0 ≤ x ∧ x ≤ 990)
    (hb : listB b = true) (hb6 : b.length = 6) :
    peelB a ⟨mulP s 5, onL ([1, to] ++ List.replicate (7 - fill.length) 0) k ++ fill, tagL k (onL ([1, to] ++ List.replicate (7 - fill.length) 0) k ++ fill), onL b k⟩ = true ∧
    (peelL a ⟨mulP s 5, onL ([1, to] ++ List.replicate (7 - fill.length) 0) k ++ fill, tagL k (onL ([1, to] ++ List.replicate (7 - fill.length) 0) k ++ fill), onL b k⟩).kind = 1 ∧
    (peelL a ⟨mulP s 5, onL ([1, to] ++ List.replicate (7 - fill.length) 0) k ++ fill, tagL k (onL ([1, to] ++ List.replicate (7 - fill.length) 0) k ++ fill), onL b k⟩).next = to ∧
    (peelL a ⟨mulP s 5, onL ([1, to] ++ List.replicate (7 - fill.length) 0) k ++ fill, tagL k (onL ([1, to] ++ List.replicate (7 - fill.length) 0) k ++ fill), onL b k⟩).p.b = b := by
  have e1 : mulP a (mulP s 5) = k := by rw [hk, shared_comm hs ha]
  have hnm := nameB_iff.1 hto
  obtain ⟨e2, e3⟩ := plain_last (k := k) (to := to) (fill := fill) (by omega)
  have hlen : (onL ([1, to] ++ List.replicate (7 - fill.length) 0) k ++ fill).length = 9 := by simp [onL_len]; omega
  have hnum : ∀ x ∈ onL ([1, to] ++ List.replicate (7 - fill.length) 0) k ++ fill, 0 ≤ x ∧ x ≤ 990 := fun x hx => by
    rcases List.mem_append.1 hx with h | h
    · exact onL_num _ _ x h
    · exact hn x h
  refine ⟨?_, ?_, ?_, ?_⟩
  · simp only [peelB, peelIn, Bool.and_eq_true]
    refine ⟨⟨ha, validB_iff.2 ⟨mulP_el hs el5, listB_iff.2 ⟨Nat.le_trans (Nat.le_of_eq hlen) (by omega), hnum⟩, hlen, onL_listB (by omega) _, by rw [onL_len]; exact hb6, tagL_bd _ _⟩⟩, ⟨by simp [e1], ?_⟩, ?_⟩
    · rw [e1, e2]; rfl
    · rw [e1, e3]; exact hto
  · simp only [peelL, e1, e2]
  · simp only [peelL, e1, e3]
  · simp only [peelL, e1, off_on hb]

/-- Peeled by the owners of the secrets in order, the packet goes to each name and comes to the receiver with the letter's body. -/
def Goes (to : Int) (letter : List Int) : List Int → List Int → Pkt → Prop
  | [], _, p => p.b = packL letter
  | a :: as, ns, p => peelB a p = true ∧ (as ≠ [] → (peelL a p).kind = 0 ∧ (peelL a p).next = (ns.drop 1).getD 0 0) ∧ (as = [] → (peelL a p).kind = 1 ∧ (peelL a p).next = to) ∧ Goes to letter as (ns.drop 1) (peelL a p).p

theorem goes_make {s to : Int} {as ns letter : List Int} (hs : elB s = true) (ha : ∀ a ∈ as, elB a = true) (h1 : 1 ≤ as.length) (h3 : as.length ≤ 3) (hl : packB letter = true) (hn : ns.length = as.length) (hns : ∀ n ∈ ns, nameB n = true) (hto : nameB to = true) :
    Goes to letter as ns (makeL s (as.map (mulP · 5)) ns to letter) := by
  have hb := packL_listB hl
  have hb6 := packL_len (packB_iff.1 hl).2
  match as, ns, hn, h1, h3 with
  | [a], [n], _, _, _ =>
    have a0 := ha a (by simp)
    have P := peel_last (fill := []) hs a0 rfl hto (by simp) (by simp) hb hb6
    exact ⟨P.1, fun h => absurd rfl h, fun _ => ⟨P.2.1, P.2.2.1⟩, P.2.2.2⟩
  | [a, c], [n, m], _, _, _ =>
    have a0 := ha a (by simp)
    have c0 := ha c (by simp)
    have m0 := hns m (by simp)
    let k0 := mulP s (mulP a 5)
    let s1 := mulP s (facP k0)
    let k1 := mulP s1 (mulP c 5)
    have hk0 : elB k0 = true := mulP_el hs (mulP_el a0 el5)
    have hs1 : elB s1 = true := mulP_el hs (facP_el hk0)
    have F : (fillL [k0, k1]).length ≤ 6 := by rw [fillL_len]; simp
    have G := hdrL_good (fillL [k0, k1]) to F (fillL_num _) [k1] [m] rfl (by simp)
    have B1 : listB (onL (packL letter) k1) = true := onL_listB (by omega) _
    have P := peel_step (h := hdrL (fillL [k0, k1]) to [k1] [m]) (b := onL (packL letter) k1) (t := tagL k1 (hdrL (fillL [k0, k1]) to [k1] [m])) (n := m) hs a0 (k := k0) rfl G.1 G.2 m0 (tagL_bd _ _) B1 (by rw [onL_len]; exact hb6)
      (by rw [hdrL_one_any _ _ _ [m] []]; exact drop6_one)
    have E : makeL s ([a, c].map (mulP · 5)) [n, m] to letter = ⟨mulP s 5, onL ([0, m, tagL k1 (hdrL (fillL [k0, k1]) to [k1] [m])] ++ (hdrL (fillL [k0, k1]) to [k1] [m]).take 6) k0, tagL k0 (onL ([0, m, tagL k1 (hdrL (fillL [k0, k1]) to [k1] [m])] ++ (hdrL (fillL [k0, k1]) to [k1] [m]).take 6) k0), onL (onL (packL letter) k1) k0⟩ := by
      rw [on_on]
      show (⟨_, hdrL (fillL [k0, k1]) to [k0, k1] [n, m], tagL k0 (hdrL (fillL [k0, k1]) to [k0, k1] [n, m]), _⟩ : Pkt) = _
      rw [hdrL_more]
      rfl
    have L := peel_last (fill := fillL [k0, k1]) hs1 c0 (k := k1) rfl hto F (fillL_num _) hb hb6
    rw [E]
    refine ⟨P.1, fun _ => ?_, fun h => by simp at h, ?_⟩
    · rw [P.2]; exact ⟨rfl, rfl⟩
    · rw [P.2, hdrL_one]
      exact ⟨L.1, fun h => absurd rfl h, fun _ => ⟨L.2.1, L.2.2.1⟩, L.2.2.2⟩
  | [a, c, d], [n, m, q], _, _, _ =>
    have a0 := ha a (by simp)
    have c0 := ha c (by simp)
    have d0 := ha d (by simp)
    have m0 := hns m (by simp)
    have q0 := hns q (by simp)
    let k0 := mulP s (mulP a 5)
    let s1 := mulP s (facP k0)
    let k1 := mulP s1 (mulP c 5)
    let s2 := mulP s1 (facP k1)
    let k2 := mulP s2 (mulP d 5)
    have hk0 : elB k0 = true := mulP_el hs (mulP_el a0 el5)
    have hs1 : elB s1 = true := mulP_el hs (facP_el hk0)
    have hk1 : elB k1 = true := mulP_el hs1 (mulP_el c0 el5)
    have hs2 : elB s2 = true := mulP_el hs1 (facP_el hk1)
    have F : (fillL [k0, k1, k2]).length ≤ 6 := by rw [fillL_len]; simp
    have G2 := hdrL_good (fillL [k0, k1, k2]) to F (fillL_num _) [k2] [q] rfl (by simp)
    have G1 := hdrL_good (fillL [k0, k1, k2]) to F (fillL_num _) [k1, k2] [m, q] rfl (by simp)
    have B2 : listB (onL (packL letter) k2) = true := onL_listB (by omega) _
    have B1 : listB (onL (onL (packL letter) k2) k1) = true := onL_listB (by rw [onL_len]; omega) _
    have P1 := peel_step (h := hdrL (fillL [k0, k1, k2]) to [k2] [q]) (b := onL (packL letter) k2) (t := tagL k2 (hdrL (fillL [k0, k1, k2]) to [k2] [q])) (n := q) hs1 c0 (k := k1) rfl G2.1 G2.2 q0 (tagL_bd _ _) B2 (by rw [onL_len]; exact hb6)
      (by rw [hdrL_one_any _ _ _ [q] []]; exact drop6_two)
    have P0 := peel_step (h := hdrL (fillL [k0, k1, k2]) to [k1, k2] [m, q]) (b := onL (onL (packL letter) k2) k1) (t := tagL k1 (hdrL (fillL [k0, k1, k2]) to [k1, k2] [m, q])) (n := m) hs a0 (k := k0) rfl G1.1 G1.2 m0 (tagL_bd _ _) B1 (by rw [onL_len, onL_len]; exact hb6) drop6_mid
    have E : makeL s ([a, c, d].map (mulP · 5)) [n, m, q] to letter = ⟨mulP s 5, onL ([0, m, tagL k1 (hdrL (fillL [k0, k1, k2]) to [k1, k2] [m, q])] ++ (hdrL (fillL [k0, k1, k2]) to [k1, k2] [m, q]).take 6) k0, tagL k0 (onL ([0, m, tagL k1 (hdrL (fillL [k0, k1, k2]) to [k1, k2] [m, q])] ++ (hdrL (fillL [k0, k1, k2]) to [k1, k2] [m, q]).take 6) k0), onL (onL (onL (packL letter) k2) k1) k0⟩ := by
      have hm : onL (onL (onL (packL letter) k2) k1) k0 = masksL (packL letter) [k0, k1, k2] := by rw [masksL_cons, masksL_cons]; rfl
      rw [hm]
      show (⟨_, hdrL (fillL [k0, k1, k2]) to [k0, k1, k2] [n, m, q], tagL k0 (hdrL (fillL [k0, k1, k2]) to [k0, k1, k2] [n, m, q]), _⟩ : Pkt) = _
      rw [hdrL_more]
      rfl
    have L := peel_last (fill := fillL [k0, k1, k2]) hs2 d0 (k := k2) rfl hto F (fillL_num _) hb hb6
    rw [E]
    refine ⟨P0.1, fun _ => ?_, fun h => by simp at h, ?_⟩
    · rw [P0.2]; exact ⟨rfl, rfl⟩
    · rw [P0.2, hdrL_more]
      refine ⟨P1.1, fun _ => ?_, fun h => by simp at h, ?_⟩
      · rw [P1.2]; exact ⟨rfl, rfl⟩
      · rw [P1.2, hdrL_one]
        exact ⟨L.1, fun h => absurd rfl h, fun _ => ⟨L.2.1, L.2.2.1⟩, L.2.2.2⟩
end Go.Proofs.Ytbkecimhbibnjaa
