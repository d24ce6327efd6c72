/-
  Facts of the program's head, told word by word.
  No condition.
-/
import Derived.Test.YtoocjalhcliebaaRows
import Derived.WalkKit
import Derived.ProofKit
import Derived.ClosedOfChecked
namespace Go.Proofs.Ytoocjalhcliebaa
open Go

def blank : Char := Char.ofNat 32
def joinWords : List (List Char) → List Char
  | [] => []
  | [w] => w
  | w :: v :: r => w ++ blank :: joinWords (v :: r)
theorem words_word (w : List Char) (h : w.all (fun c => c != blank) = true) : wordsSigns w = [w] := by
  induction w with
  | nil => rfl
  | cons c r ih =>
    simp only [List.all_cons, Bool.and_eq_true, bne_iff_ne, ne_eq] at h
    have ih' := ih h.2
    rw [wordsSigns, ih']
    intro e
    exact h.1 e
theorem words_blank (w r : List Char) (h : w.all (fun c => c != blank) = true) : wordsSigns (w ++ blank :: r) = w :: wordsSigns r := by
  induction w with
  | nil => rfl
  | cons c v ih =>
    simp only [List.all_cons, Bool.and_eq_true, bne_iff_ne, ne_eq] at h
    have ih' := ih h.2
    rw [List.cons_append, wordsSigns, ih']
    intro e
    exact h.1 e
theorem words_join : ∀ (W : List (List Char)), W ≠ [] → W.all (fun w => w.all (fun c => c != blank)) = true → wordsSigns (joinWords W) = W
  | [], h, _ => absurd rfl h
  | [w], _, h => words_word w (by simpa using h)
  | w :: v :: r, _, h => by
    simp only [List.all_cons, Bool.and_eq_true] at h
    rw [joinWords, words_blank w _ (by simpa using h.1), words_join (v :: r) (by simp) (by simpa using h.2)]
def headWords : List (List Char) := [[104, 97, 114, 110, 101, 115, 115], [49, 97, 55, 100, 53, 98, 100, 99, 49, 51, 57, 49, 57, 57, 102, 54, 98, 99, 49, 55, 102, 54, 50, 101, 101, 99, 55, 55, 48, 53, 52, 100, 98, 98, 57, 56, 52, 101, 56, 53, 49, 54, 53, 48, 48, 99, 49, 56, 53, 48, 55, 97, 99, 98, 102, 52, 48, 99, 57, 50, 55, 48, 53, 56], [99, 117, 116], [97, 116], [108, 111, 111, 112, 46, 101, 120, 97, 109, 112, 108, 101, 47, 109, 105, 120, 114, 101, 108, 97, 121, 47, 108, 97, 119, 115, 46, 70, 110, 69, 112, 111, 99, 104], [108, 111, 111, 112, 46, 101, 120, 97, 109, 112, 108, 101, 47, 109, 105, 120, 114, 101, 108, 97, 121, 47, 108, 97, 119, 115, 46, 70, 110, 69, 112, 111, 99, 104, 83, 97, 109, 101]].map fun w => w.map Char.ofNat
theorem headIs : Try.prog.initOrder = String.ofList (joinWords headWords) := by kernel_rfl
theorem headFree : headWords.all (fun w => w.all (fun c => c != blank)) = true := by kernel_rfl
theorem headList : wordsSigns Try.prog.initOrder.toList = headWords := by
  rw [headIs, String.toList_ofList]
  exact words_join _ (by unfold headWords; simp) headFree
theorem headLifts : Try.prog.headLifts = [] := by
  unfold Program.headLifts
  rw [headList]
  kernel_rfl
def cutWord : List Char := [99, 117, 116].map Char.ofNat
def tailWords : List (List Char) := headWords.drop 3
theorem headBehind : behindMainWord (wordsSigns Try.prog.initOrder.toList) = cutWord :: tailWords := by
  rw [headList]
  kernel_rfl
theorem cutIs : (cutWord == "cut".toList) = true := by kernel_rfl
theorem cutNot : (cutWord == "gc".toList || cutWord == "spec".toList) = false := by kernel_rfl
theorem make_of {P : Program} {c : List Char} {rest : List (List Char)} (h : behindMainWord (wordsSigns P.initOrder.toList) = c :: rest) (h1 : (c == "gc".toList || c == "spec".toList) = false) (h2 : (c == "cut".toList) = true) : P.make = some .cut := by
  unfold Program.make
  rw [h]
  simp only [h1, h2, Bool.true_or, if_true, Bool.false_eq_true, if_false]
theorem may_of {P : Program} {c : List Char} {rest : List (List Char)} (h : behindMainWord (wordsSigns P.initOrder.toList) = c :: rest) (s1 : (stripLifts liftWords (c :: rest)).1 = []) (s2 : ((stripLifts liftWords (c :: rest)).2.head? == some "cut".toList) = true)
    (l1 : P.laysLater = false) (l2 : P.bearsReflect = false) (l3 : P.doorFits [] = true) : P.mayEnter = true := by
  unfold Program.mayEnter
  rw [h]
  simp only [s1, s2, l1, l2, l3, List.contains_nil, Bool.not_false, Bool.or_true, Bool.and_true]
theorem final_of {P : Program} {c : List Char} {rest : List (List Char)} (h : behindMainWord (wordsSigns P.initOrder.toList) = c :: rest) (h1 : ((c :: rest).head? == some "carried".toList) = false) (h2 : P.headLifts = []) : P.liftsFinal = false := by
  unfold Program.liftsFinal
  rw [h, h2]
  simp only [h1, Bool.false_and, List.contains_nil, Bool.or_false]
theorem headMay : Try.prog.mayEnter = true := may_of headBehind (by kernel_rfl) (by kernel_rfl) (by kernel_rfl) (by kernel_rfl) (by kernel_rfl)
theorem headFinal : Try.prog.liftsFinal = false := final_of headBehind (by kernel_rfl) headLifts
theorem headMake : Try.prog.make = some .cut := make_of headBehind cutNot cutIs
theorem headTable : laidOutB Try.prog = true ∧ mapsRowed Try.prog = true ∧ Try.prog.plainKeys = true := Go.ClosedOfChecked.closed_of_checked Try.checked (by kernel_rfl) (by kernel_rfl) (by kernel_rfl)
end Go.Proofs.Ytoocjalhcliebaa
