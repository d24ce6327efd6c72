/-
  The statement on 'FnExactPacketPeel': for every input the call returns true and leaves its arguments as they were.
  No condition.
-/
import Derived.Test.YtalnilighempmaaRows
import Derived.Test.YtalnilighempmaaHead
import Derived.Test.YtalnilighempmaaExactG
import Derived.WalkKit
import Derived.ProofKit
import Derived.OpenShut
import Derived.ShutString
import Derived.ChangeOld
import Derived.Below
import Derived.Lib.SmallJoins
namespace Go.Proofs.Ytalnilighempmaa.fnExactPacketPeel
open Go Go.ChangeShapes Go.WideShapes Go.ChangeAt Go.RowKit
open Go.ChangeMaps (open_string shut_string)
set_option linter.unusedVariables false

theorem own : ownKnob Try.prog.godebug = none := by kernel_rfl
theorem laidOut : laidOutB Try.prog = true := headTable.1

set_option maxRecDepth 100000 in
theorem lifted (os : Os) (started : os.Started) (H : Type) (enc : TypeId × Value → H) :
    ReturnsInHanded {} Try.checked os 13 .any (Rows.fnExactPacketPeelSpec.pre6 enc Try.prog Try.f13 Rows.fnExactPacketPeelRow.domain false) (Rows.fnExactPacketPeelSpec.post enc Try.prog Try.f13 false true false false) := by
  refine returnsInHanded_of_change (C := Try.checked) own started (by kernel_rfl) Try.func13
    (ChangeSpec.witness6 (enc := enc) (C := Try.checked) false ⟨#[], #[.int .i64 0, .agg #[.int .i64 0, .slice none 0 0, .int .i64 0, .slice none 0 0]], []⟩ 8 (by kernel_rfl) (by kernel_rfl) (by kernel_rfl) (by kernel_rfl)) ?_
  intro W base args ds gs before hval0 hW hcnd _
  have hval : ∀ (j : Nat) t v, Try.f13.params[j]? = some t → args[j]? = some v → Value.okWide Try.prog W .any base t v := hval0
  have hW' := hW
  obtain ⟨p, q, hA0, hV, rfl, hfz, hnd⟩ := hW
  have hA : DataW.TrodAll enc Try.prog W 0 (fun _ => true) true Try.f13.params.toList args.toList ds p := hA0
  rw [Try.params13] at hA hval
  obtain ⟨v0, vs0, d0, ds0, p0, q0, hargs, rfl, rfl, h0, r0⟩ := trodAll_cons hA
  obtain ⟨v1, vs1, d1, ds1, p1, q1, rfl, rfl, rfl, h1, r1⟩ := trodAll_cons r0
  obtain ⟨rfl, rfl, rfl⟩ := trodAll_nil r1
  obtain rfl : args = #[v0, v1] := by cases args; simp_all
  obtain ⟨rfl, rfl⟩ := trodVars_none hV
  obtain ⟨a0, rfl, rfl, rfl, w0⟩ := open_int Try.underlying3 (hval 0 3 v0 rfl rfl) h0
  have k1 := h1
  have lt1 : ∀ x ∈ p1, x.block < W.heap.size := by obtain ⟨m, hm⟩ := k1; exact DataW.trod_lt m _ _ _ hm
  obtain ⟨u10, u11, u12, u13, y10, y11, y12, y13, m1, rfl, rfl, rfl, e10, e11, e12, e13⟩ := Go.Joins.open_agg4 Try.underlying52 (by kernel_rfl) (by kernel_rfl) (hval 1 52 v1 rfl rfl) h1
  obtain ⟨n10, q10, _, _⟩ := DataW.trod_int Try.underlying3 e10
  obtain rfl : u10 = .int .i64 n10 := by simpa using q10
  obtain ⟨n12, q12, _, _⟩ := DataW.trod_int Try.underlying3 e12
  obtain rfl : u12 = .int .i64 n12 := by simpa using q12
  obtain ⟨a11, len11, cap11, z11, rfl, s11, l11, c11⟩ : ∃ A n c xs, u11 = .slice A n c ∧ SlR .i64 W 0 W.heap.size A n xs ∧ n ≤ c ∧ c ≤ 9223372036854775807 := by
    rcases open_ints Try.underlying23 Try.underlying3 (by kernel_rfl) e11 with ⟨hcs, _⟩ | ⟨x, l, c, zs, hcs, _, hl, hm, hz, _, hcell, hwz⟩
    · exact ⟨none, 0, 0, [], by simpa using hcs, SlR.nil (Nat.le_refl _) _, Nat.le_refl _, Nat.zero_le _⟩
    · have hz' : zs.length = c := by simpa using hz
      exact ⟨some x, l, c, zs.take l, by simpa using hcs, SlR.of_cells (by omega) hcell, hl, hm⟩
  obtain ⟨a13, len13, cap13, z13, rfl, s13, l13, c13⟩ : ∃ A n c xs, u13 = .slice A n c ∧ SlR .i64 W 0 W.heap.size A n xs ∧ n ≤ c ∧ c ≤ 9223372036854775807 := by
    rcases open_ints Try.underlying23 Try.underlying3 (by kernel_rfl) e13 with ⟨hcs, _⟩ | ⟨x, l, c, zs, hcs, _, hl, hm, hz, _, hcell, hwz⟩
    · exact ⟨none, 0, 0, [], by simpa using hcs, SlR.nil (Nat.le_refl _) _, Nat.le_refl _, Nat.zero_le _⟩
    · have hz' : zs.length = c := by simpa using hz
      exact ⟨some x, l, c, zs.take l, by simpa using hcs, SlR.of_cells (by omega) hcell, hl, hm⟩
  clear hA0 hval0
  refine (wFnExactPacketPeel a0 n10 n12 a11 len11 cap11 a13 len13 cap13 z11 z13 W ⟨s11, s13, l11, l13⟩ c11 c13).mono fun e W' ⟨he, bel⟩ => ?_
  subst he
  exact ⟨_, rfl, _, _, _, [], _, [], hW', trodAll_mk1 (shut_bool Try.underlying4 _), (trodAll_cons_mk (shut_int Try.underlying3 w0) (trodAll_cons_mk (Below.trod laidOut (by kernel_rfl) (of_decide_eq_true (by kernel_rfl)) k1 bel lt1) trodAll_mk0)), rfl, bel.frame _, fun h => by cases h⟩

theorem closed : joinedFacts Try.prog 13 Try.f13 Rows.fnExactPacketPeelSpec Rows.fnExactPacketPeelRow = true := by
  unfold joinedFacts
  repeat' (with_reducible refine Bool.and_eq_true_iff.2 ⟨?_, ?_⟩)
  all_goals first
    | (with_reducible exact headTable.1)
    | (with_reducible exact headTable.2.1)
    | (with_reducible exact headMay)
    | (rw [headFinal]; as_aux_lemma => kernel_rfl)
    | (rw [headMake]; as_aux_lemma => kernel_rfl)
    | (rw [headTable.2.2]; as_aux_lemma => kernel_rfl)
    | (as_aux_lemma => kernel_rfl)
theorem over : Rows.fnExactPacketPeelRow.holds Try.pinned (OpenSpec.ofChange Rows.fnExactPacketPeelSpec) :=
  OpenClaim.holds_of_wide 13 Try.f13 rfl rfl rfl rfl rfl rfl rfl ⟨rfl, rfl, rfl, rfl, rfl⟩ rfl rfl rfl rfl rfl (by as_aux_lemma => kernel_rfl) Try.func13 closed
    (of_decide_eq_true (by as_aux_lemma => kernel_rfl)) (by unfold Func.isWrapper; first | (rw [if_pos (by decide +kernel)]; kernel_rfl) | (rw [if_neg (by decide +kernel)]; exact ⟨rfl, rfl⟩))
    (fun os started H enc _ => lifted os started H enc)

theorem proved : Rows.FnExactPacketPeelSaid := over
#print axioms proved
end Go.Proofs.Ytalnilighempmaa.fnExactPacketPeel
