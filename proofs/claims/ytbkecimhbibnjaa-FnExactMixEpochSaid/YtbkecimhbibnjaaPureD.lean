/-
  Paths, headers, packets and mixes as plain functions.
  No condition.
-/
import Derived.Test.YtbkecimhbibnjaaPureC
namespace Go.Proofs.Ytbkecimhbibnjaa

def pathB (ps : List Int) : Bool := ps.all elB && decide (1 ≤ ps.length) && decide (ps.length ≤ 3)
def keysL (x : Int) : List Int → List Int
  | [] => []
  | p :: r => mulP x p :: keysL (mulP x (facP (mulP x p))) r
def pathOk (s : Int) (ps : List Int) : Bool := elB s && pathB ps
def keysP (s : Int) (ps : List Int) : List Int := if pathOk s ps = true then keysL s ps else []
def fillS (acc : List Int) (k : Int) : List Int := (acc ++ [0, 0, 0]).mapIdx fun i x => (x + 991 - strm k (9 - acc.length + i)) % 991
def fillL (keys : List Int) : List Int := keys.dropLast.foldl fillS []
def hdrL (fill : List Int) (to : Int) : List Int → List Int → List Int
  | k :: k2 :: ks, _ :: n2 :: ns => onL ([0, n2, tagL k2 (hdrL fill to (k2 :: ks) (n2 :: ns))] ++ (hdrL fill to (k2 :: ks) (n2 :: ns)).take 6) k
  | k :: _, _ => onL ([1, to] ++ List.replicate (7 - fill.length) 0) k ++ fill
  | [], _ => []
structure Pkt where
  e : Int
  h : List Int
  t : Int
  b : List Int
structure Peel where
  kind : Int
  next : Int
  p : Pkt
structure MixD where
  secret : Int
  seen : List Int
  pool : List Peel
def zeroPkt : Pkt := ⟨0, [], 0, []⟩
def zeroPeel : Peel := ⟨0, 0, zeroPkt⟩
def zeroMix : MixD := ⟨0, [], []⟩
def masksL (b : List Int) (keys : List Int) : List Int := keys.foldl onL b
def makeB (s : Int) (ps ns : List Int) (to : Int) (letter : List Int) : Bool := pathOk s ps && packB letter && decide (ns.length = ps.length) && ns.all nameB && nameB to
def makeL (s : Int) (ps ns : List Int) (to : Int) (letter : List Int) : Pkt :=
  ⟨mulP s 5, hdrL (fillL (keysL s ps)) to (keysL s ps) ns, tagL ((keysL s ps).getD 0 0) (hdrL (fillL (keysL s ps)) to (keysL s ps) ns), masksL (packL letter) (keysL s ps)⟩
def makeP (s : Int) (ps ns : List Int) (to : Int) (letter : List Int) : Pkt := if makeB s ps ns to letter = true then makeL s ps ns to letter else zeroPkt
def validB (p : Pkt) : Bool := elB p.e && listB p.h && decide (p.h.length = 9) && listB p.b && decide (p.b.length = 6) && numB p.t
def plainL (k : Int) (h : List Int) : List Int := offL (h ++ [0, 0, 0]) k
def kindB (n : Int) : Bool := decide (0 ≤ n) && decide (n ≤ 1)
/-- What a mix makes of a packet whose tag is right. -/
def peelL (s : Int) (p : Pkt) : Peel :=
  ⟨(plainL (mulP s p.e) p.h).getD 0 0, (plainL (mulP s p.e) p.h).getD 1 0, mulP p.e (facP (mulP s p.e)), (plainL (mulP s p.e) p.h).drop 3, (plainL (mulP s p.e) p.h).getD 2 0, offL p.b (mulP s p.e)⟩
def peelIn (s : Int) (p : Pkt) : Bool := decide (tagL (mulP s p.e) p.h = p.t) && kindB ((plainL (mulP s p.e) p.h).getD 0 0) && nameB ((plainL (mulP s p.e) p.h).getD 1 0)
def peelB (s : Int) (p : Pkt) : Bool := elB s && validB p && peelIn s p
def peelP (s : Int) (p : Pkt) : Peel := if peelB s p = true then peelL s p else zeroPeel

theorem pathB_iff {ps : List Int} : pathB ps = true ↔ (∀ p ∈ ps, elB p = true) ∧ 1 ≤ ps.length ∧ ps.length ≤ 3 := by simp [pathB, List.all_eq_true, and_assoc]
theorem keysL_len (x : Int) (ps : List Int) : (keysL x ps).length = ps.length := by
  induction ps generalizing x with
  | nil => rfl
  | cons p r ih => simp [keysL, ih]
theorem keysL_el {x : Int} {ps : List Int} (hx : elB x = true) (h : ∀ p ∈ ps, elB p = true) : ∀ k ∈ keysL x ps, elB k = true := by
  induction ps generalizing x with
  | nil => intro k hk; simp [keysL] at hk
  | cons p r ih =>
    intro k hk
    have hp := h p (by simp)
    have hm := mulP_el hx hp
    simp only [keysL, List.mem_cons] at hk
    rcases hk with rfl | hk
    · exact hm
    · exact ih (mulP_el hx (facP_el hm)) (fun q hq => h q (by simp [hq])) k hk
theorem keysL_take (x : Int) (ps : List Int) (j : Nat) : keysL x (ps.take j) = (keysL x ps).take j := by
  induction ps generalizing x j with
  | nil => simp [keysL]
  | cons p r ih => cases j with
    | zero => simp [keysL]
    | succ j => simp [keysL, ih]
theorem fillS_len (acc : List Int) (k : Int) : (fillS acc k).length = acc.length + 3 := by simp [fillS]
theorem fillS_num (acc : List Int) (k : Int) : ∀ x ∈ fillS acc k, 0 ≤ x ∧ x ≤ 990 := by
  intro x hx
  simp only [fillS, List.mem_mapIdx] at hx
  obtain ⟨i, hi, rfl⟩ := hx
  omega
theorem fold_len (ks : List Int) (acc : List Int) : (ks.foldl fillS acc).length = acc.length + 3 * ks.length := by
  induction ks generalizing acc with
  | nil => simp
  | cons k r ih => simp [ih, fillS_len]; omega
theorem fillL_len (ks : List Int) : (fillL ks).length = 3 * (ks.length - 1) := by simp [fillL, fold_len]
theorem fold_num (ks : List Int) {acc : List Int} (h : ∀ x ∈ acc, 0 ≤ x ∧ x ≤ 990) : ∀ x ∈ ks.foldl fillS acc, 0 ≤ x ∧ x ≤ 990 := by
  induction ks generalizing acc with
  | nil => simpa using h
  | cons k r ih => exact ih (fillS_num acc k)
theorem fillL_num (ks : List Int) : ∀ x ∈ fillL ks, 0 ≤ x ∧ x ≤ 990 := fold_num _ (by simp)
theorem onL_num (xs : List Int) (k : Int) : ∀ x ∈ onL xs k, 0 ≤ x ∧ x ≤ 990 := by
  intro x hx
  simp only [onL, List.mem_mapIdx] at hx
  obtain ⟨i, hi, rfl⟩ := hx
  omega
theorem hdrL_one (fill : List Int) (to k : Int) (ns : List Int) : hdrL fill to [k] ns = onL ([1, to] ++ List.replicate (7 - fill.length) 0) k ++ fill := by
  unfold hdrL; rfl
theorem hdrL_more (fill : List Int) (to k k2 : Int) (ks : List Int) (n n2 : Int) (ns : List Int) :
    hdrL fill to (k :: k2 :: ks) (n :: n2 :: ns) = onL ([0, n2, tagL k2 (hdrL fill to (k2 :: ks) (n2 :: ns))] ++ (hdrL fill to (k2 :: ks) (n2 :: ns)).take 6) k := by
  rw [hdrL]
theorem hdrL_good (fill : List Int) (to : Int) (hf : fill.length ≤ 6) (hn : ∀ x ∈ fill, 0 ≤ x ∧ x ≤ 990) :
    ∀ (ks ns : List Int), ks.length = ns.length → 1 ≤ ks.length → (hdrL fill to ks ns).length = 9 ∧ ∀ x ∈ hdrL fill to ks ns, 0 ≤ x ∧ x ≤ 990
  | [], _, _, h => by simp at h
  | [k], ns, _, _ => by
    rw [hdrL_one]
    refine ⟨by simp [onL_len]; omega, fun x hx => ?_⟩
    rcases List.mem_append.1 hx with h | h
    · exact onL_num _ _ x h
    · exact hn x h
  | k :: k2 :: ks, [], h, _ => by simp at h
  | k :: k2 :: ks, [_], h, _ => by simp at h
  | k :: k2 :: ks, n :: n2 :: ns, h, _ => by
    have ih := hdrL_good fill to hf hn (k2 :: ks) (n2 :: ns) (by simpa using h) (by simp)
    rw [hdrL_more]
    exact ⟨by simp [onL_len, ih.1], fun x hx => onL_num _ _ x hx⟩
theorem masksL_good {b : List Int} (hb : listB b = true) (ks : List Int) : listB (masksL b ks) = true ∧ (masksL b ks).length = b.length := by
  unfold masksL
  induction ks generalizing b with
  | nil => exact ⟨hb, rfl⟩
  | cons k r ih =>
    have := ih (onL_listB (listB_iff.1 hb).1 k)
    simp only [List.foldl_cons]
    exact ⟨this.1, by rw [this.2, onL_len]⟩
theorem validB_iff {p : Pkt} : validB p = true ↔ elB p.e = true ∧ listB p.h = true ∧ p.h.length = 9 ∧ listB p.b = true ∧ p.b.length = 6 ∧ 0 ≤ p.t ∧ p.t ≤ 990 := by simp [validB, numB, and_assoc]
theorem makeB_iff {s : Int} {ps ns : List Int} {to : Int} {letter : List Int} : makeB s ps ns to letter = true ↔ elB s = true ∧ pathB ps = true ∧ packB letter = true ∧ ns.length = ps.length ∧ (∀ n ∈ ns, nameB n = true) ∧ nameB to = true := by
  simp [makeB, pathOk, List.all_eq_true, and_assoc]
theorem el5 : elB 5 = true := by decide
theorem makeL_valid {s : Int} {ps ns : List Int} {to : Int} {letter : List Int} (h : makeB s ps ns to letter = true) : validB (makeL s ps ns to letter) = true := by
  obtain ⟨h1, h2, h3, h4, h5, h6⟩ := makeB_iff.1 h
  obtain ⟨p1, p2, p3⟩ := pathB_iff.1 h2
  have hh := hdrL_good (fillL (keysL s ps)) to (by rw [fillL_len, keysL_len]; omega) (fillL_num _) (keysL s ps) ns (by rw [keysL_len, h4]) (by rw [keysL_len]; omega)
  have hm := masksL_good (packL_listB h3) (keysL s ps)
  rw [validB_iff]
  refine ⟨mulP_el h1 el5, listB_iff.2 ⟨by rw [makeL, hh.1]; omega, hh.2⟩, hh.1, hm.1, ?_, tagL_bd _ _⟩
  show (masksL _ _).length = 6
  rw [hm.2, packL_len (packB_iff.1 h3).2]
end Go.Proofs.Ytbkecimhbibnjaa
