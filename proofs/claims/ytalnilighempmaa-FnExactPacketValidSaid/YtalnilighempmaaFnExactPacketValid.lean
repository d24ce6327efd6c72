/-
  The statement on 'FnExactPacketValid': for every input the call returns true and leaves its arguments as they were.
  No condition.
-/
import Derived.Test.YtalnilighempmaaRows
import Derived.Test.YtalnilighempmaaHead
import Derived.Test.YtalnilighempmaaExactF
import Derived.WalkKit
import Derived.ProofKit
import Derived.OpenShut
import Derived.ShutString
import Derived.ChangeOld
import Derived.Below
import Derived.Lib.SmallJoins
namespace Go.Proofs.Ytalnilighempmaa.fnExactPacketValid
open Go Go.ChangeShapes Go.WideShapes Go.ChangeAt Go.RowKit
open Go.ChangeMaps (open_string shut_string)
set_option linter.unusedVariables false

theorem own : ownKnob Try.prog.godebug = none := by kernel_rfl
theorem laidOut : laidOutB Try.prog = true := headTable.1

set_option maxRecDepth 100000 in
theorem lifted (os : Os) (started : os.Started) (H : Type) (enc : TypeId × Value → H) :
    ReturnsInHanded {} Try.checked os 5 .any (Rows.fnExactPacketValidSpec.pre6 enc Try.prog Try.f5 Rows.fnExactPacketValidRow.domain false) (Rows.fnExactPacketValidSpec.post enc Try.prog Try.f5 false true false false) := by
  refine returnsInHanded_of_change (C := Try.checked) own started (by kernel_rfl) Try.func5
    (ChangeSpec.witness6 (enc := enc) (C := Try.checked) false ⟨#[], #[.agg #[.int .i64 0, .slice none 0 0, .int .i64 0, .slice none 0 0]], []⟩ 8 (by kernel_rfl) (by kernel_rfl) (by kernel_rfl) (by kernel_rfl)) ?_
  intro W base args ds gs before hval0 hW hcnd _
  have hval : ∀ (j : Nat) t v, Try.f5.params[j]? = some t → args[j]? = some v → Value.okWide Try.prog W .any base t v := hval0
  have hW' := hW
  obtain ⟨p, q, hA0, hV, rfl, hfz, hnd⟩ := hW
  have hA : DataW.TrodAll enc Try.prog W 0 (fun _ => true) true Try.f5.params.toList args.toList ds p := hA0
  rw [Try.params5] at hA hval
  obtain ⟨v0, vs0, d0, ds0, p0, q0, hargs, rfl, rfl, h0, r0⟩ := trodAll_cons hA
  obtain ⟨rfl, rfl, rfl⟩ := trodAll_nil r0
  obtain rfl : args = #[v0] := by cases args; simp_all
  obtain ⟨rfl, rfl⟩ := trodVars_none hV
  have k0 := h0
  have lt0 : ∀ x ∈ p0, x.block < W.heap.size := by obtain ⟨m, hm⟩ := k0; exact DataW.trod_lt m _ _ _ hm
  obtain ⟨u00, u01, u02, u03, y00, y01, y02, y03, m0, rfl, rfl, rfl, e00, e01, e02, e03⟩ := Go.Joins.open_agg4 Try.underlying52 (by kernel_rfl) (by kernel_rfl) (hval 0 52 v0 rfl rfl) h0
  obtain ⟨n00, q00, _, _⟩ := DataW.trod_int Try.underlying3 e00
  obtain rfl : u00 = .int .i64 n00 := by simpa using q00
  obtain ⟨n02, q02, _, _⟩ := DataW.trod_int Try.underlying3 e02
  obtain rfl : u02 = .int .i64 n02 := by simpa using q02
  obtain ⟨a01, len01, cap01, z01, rfl, s01, l01, c01⟩ : ∃ A n c xs, u01 = .slice A n c ∧ SlR .i64 W 0 W.heap.size A n xs ∧ n ≤ c ∧ c ≤ 9223372036854775807 := by
    rcases open_ints Try.underlying23 Try.underlying3 (by kernel_rfl) e01 with ⟨hcs, _⟩ | ⟨x, l, c, zs, hcs, _, hl, hm, hz, _, hcell, hwz⟩
    · exact ⟨none, 0, 0, [], by simpa using hcs, SlR.nil (Nat.le_refl _) _, Nat.le_refl _, Nat.zero_le _⟩
    · have hz' : zs.length = c := by simpa using hz
      exact ⟨some x, l, c, zs.take l, by simpa using hcs, SlR.of_cells (by omega) hcell, hl, hm⟩
  obtain ⟨a03, len03, cap03, z03, rfl, s03, l03, c03⟩ : ∃ A n c xs, u03 = .slice A n c ∧ SlR .i64 W 0 W.heap.size A n xs ∧ n ≤ c ∧ c ≤ 9223372036854775807 := by
    rcases open_ints Try.underlying23 Try.underlying3 (by kernel_rfl) e03 with ⟨hcs, _⟩ | ⟨x, l, c, zs, hcs, _, hl, hm, hz, _, hcell, hwz⟩
    · exact ⟨none, 0, 0, [], by simpa using hcs, SlR.nil (Nat.le_refl _) _, Nat.le_refl _, Nat.zero_le _⟩
    · have hz' : zs.length = c := by simpa using hz
      exact ⟨some x, l, c, zs.take l, by simpa using hcs, SlR.of_cells (by omega) hcell, hl, hm⟩
  clear hA0 hval0
  refine (wFnExactPacketValid n00 n02 a01 len01 cap01 a03 len03 cap03 z01 z03 W ⟨s01, s03, l01, l03⟩ c01 c03).mono fun e W' ⟨he, bel⟩ => ?_
  subst he
  exact ⟨_, rfl, _, _, _, [], _, [], hW', trodAll_mk1 (shut_bool Try.underlying4 _), (trodAll_cons_mk (Below.trod laidOut (by kernel_rfl) (of_decide_eq_true (by kernel_rfl)) k0 bel lt0) trodAll_mk0), rfl, bel.frame _, fun h => by cases h⟩

theorem closed : joinedFacts Try.prog 5 Try.f5 Rows.fnExactPacketValidSpec Rows.fnExactPacketValidRow = true := by
  unfold joinedFacts
  repeat' (with_reducible refine Bool.and_eq_true_iff.2 ⟨?_, ?_⟩)
  all_goals first
    | (with_reducible exact headTable.1)
    | (with_reducible exact headTable.2.1)
    | (with_reducible exact headMay)
    | (rw [headFinal]; as_aux_lemma => kernel_rfl)
    | (rw [headMake]; as_aux_lemma => kernel_rfl)
    | (rw [headTable.2.2]; as_aux_lemma => kernel_rfl)
    | (as_aux_lemma => kernel_rfl)
theorem over : Rows.fnExactPacketValidRow.holds Try.pinned (OpenSpec.ofChange Rows.fnExactPacketValidSpec) :=
  OpenClaim.holds_of_wide 5 Try.f5 rfl rfl rfl rfl rfl rfl rfl ⟨rfl, rfl, rfl, rfl, rfl⟩ rfl rfl rfl rfl rfl (by as_aux_lemma => kernel_rfl) Try.func5 closed
    (of_decide_eq_true (by as_aux_lemma => kernel_rfl)) (by unfold Func.isWrapper; first | (rw [if_pos (by decide +kernel)]; kernel_rfl) | (rw [if_neg (by decide +kernel)]; exact ⟨rfl, rfl⟩))
    (fun os started H enc _ => lifted os started H enc)

theorem proved : Rows.FnExactPacketValidSaid := over
#print axioms proved
end Go.Proofs.Ytalnilighempmaa.fnExactPacketValid
