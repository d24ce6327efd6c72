/-
  No cell of these rows narrows 'for every input' (looked for: loops, veiled, ifaces, maps, wideKeys, modest, calm, conditions, laid).
  DERIVED. THE GIVEN ROWS OF THIS SEAT. 13 by the template 'for every input the law returns true; each argument reads behind the call as it read before'; 0 by the template 'total and deterministic' (their statements: YtkcgckpnafiggaaTotals.lean).
  GIVEN WITH THE SEED: the statements are not yours to turn. If you find one false, say at which input.
  Laid BY PROGRAM, IN A SANDBOX (cutbox-rows.mjs): the forced cells as the released guide's own fill.sh prints them over the translation d3f712763ca4b371… (all of the seat's roots in one cut). By AI agents, Wed Nov 11 2026. No macro, syntax, notation, axiom, sorry.
-/
import Derived.Test.YtkcgckpnafiggaaChecked
import GoSem.Claim
import GoSem.ClaimJoined
import GoSem.ClaimMapViews
import Derived.JoinedTies
import Derived.KernelRfl
namespace Go.Proofs.Ytkcgckpnafiggaa
/- THE CELL 'sum', in the pinned program and in every row, IS THE sha256 OF THE DUMP (.gsa) THAT YtkcgckpnafiggaaProg.lean LOADS. Nothing in Lean hashes anything: it is a label: what it is worth is what the hold of that sum in a sandbox is worth. -/
noncomputable def Try.pinned : Pinned := { name := "ytkcgckpnafiggaa", sum := "d3f712763ca4b371a668158e06263b83c6b943aa4c1b88bba21bb3ccd8cd55eb", checked := Try.checked }
namespace Rows
def none {H : Type} : Left H := { results := [], args := [] }

/-- 'laws.FnExactConstants': WHATEVER THE INPUT: true; the input reads as it did. -/
def fnExactConstantsSpec : ChangeSpec := { name := "fnExactConstants", fn := fun _ => fun
  | [] => { results := [.lit (.bool true)], args := [] }
  | _ => none }
def fnExactConstantsRow : OpenClaim := { program := "ytkcgckpnafiggaa", sum := "d3f712763ca4b371a668158e06263b83c6b943aa4c1b88bba21bb3ccd8cd55eb", func := "loop.example/mixrelay/laws.FnExactConstants", spec := "fnExactConstants", apart := false }
def FnExactConstantsSaid : Prop := fnExactConstantsRow.holds Try.pinned (OpenSpec.ofChange fnExactConstantsSpec)

/-- ITS FALSE NEIGHBOUR: 'it returns false'. Refute it at one input. -/
def fnExactConstantsWrong : ChangeSpec := { name := "fnExactConstants", fn := fun _ => fun
  | [] => { results := [.lit (.bool false)], args := [] }
  | _ => none }
def FnExactConstantsWrongFalsely : Prop := fnExactConstantsRow.holds Try.pinned (OpenSpec.ofChange fnExactConstantsWrong)

/-- 'laws.FnExactFactorOf': WHATEVER THE INPUT: true; the input reads as it did. -/
def fnExactFactorOfSpec : ChangeSpec := { name := "fnExactFactorOf", fn := fun _ => fun
  | [d] => { results := [.lit (.bool true)], args := [d] }
  | _ => none }
def fnExactFactorOfRow : OpenClaim := { program := "ytkcgckpnafiggaa", sum := "d3f712763ca4b371a668158e06263b83c6b943aa4c1b88bba21bb3ccd8cd55eb", func := "loop.example/mixrelay/laws.FnExactFactorOf", spec := "fnExactFactorOf", apart := false }
def FnExactFactorOfSaid : Prop := fnExactFactorOfRow.holds Try.pinned (OpenSpec.ofChange fnExactFactorOfSpec)

/-- ITS FALSE NEIGHBOUR: 'it returns false'. Refute it at one input. -/
def fnExactFactorOfWrong : ChangeSpec := { name := "fnExactFactorOf", fn := fun _ => fun
  | [d] => { results := [.lit (.bool false)], args := [d] }
  | _ => none }
def FnExactFactorOfWrongFalsely : Prop := fnExactFactorOfRow.holds Try.pinned (OpenSpec.ofChange fnExactFactorOfWrong)

/-- 'laws.FnExactBlindOf': WHATEVER THE INPUT: true; the input reads as it did. -/
def fnExactBlindOfSpec : ChangeSpec := { name := "fnExactBlindOf", fn := fun _ => fun
  | [d1, d2] => { results := [.lit (.bool true)], args := [d1, d2] }
  | _ => none }
def fnExactBlindOfRow : OpenClaim := { program := "ytkcgckpnafiggaa", sum := "d3f712763ca4b371a668158e06263b83c6b943aa4c1b88bba21bb3ccd8cd55eb", func := "loop.example/mixrelay/laws.FnExactBlindOf", spec := "fnExactBlindOf", apart := false }
def FnExactBlindOfSaid : Prop := fnExactBlindOfRow.holds Try.pinned (OpenSpec.ofChange fnExactBlindOfSpec)

/-- ITS FALSE NEIGHBOUR: 'it returns false'. Refute it at one input. -/
def fnExactBlindOfWrong : ChangeSpec := { name := "fnExactBlindOf", fn := fun _ => fun
  | [d1, d2] => { results := [.lit (.bool false)], args := [d1, d2] }
  | _ => none }
def FnExactBlindOfWrongFalsely : Prop := fnExactBlindOfRow.holds Try.pinned (OpenSpec.ofChange fnExactBlindOfWrong)

/-- 'laws.FnExactPublicOf': WHATEVER THE INPUT: true; the input reads as it did. -/
def fnExactPublicOfSpec : ChangeSpec := { name := "fnExactPublicOf", fn := fun _ => fun
  | [d] => { results := [.lit (.bool true)], args := [d] }
  | _ => none }
def fnExactPublicOfRow : OpenClaim := { program := "ytkcgckpnafiggaa", sum := "d3f712763ca4b371a668158e06263b83c6b943aa4c1b88bba21bb3ccd8cd55eb", func := "loop.example/mixrelay/laws.FnExactPublicOf", spec := "fnExactPublicOf", apart := false }
def FnExactPublicOfSaid : Prop := fnExactPublicOfRow.holds Try.pinned (OpenSpec.ofChange fnExactPublicOfSpec)

/-- ITS FALSE NEIGHBOUR: 'it returns false'. Refute it at one input. -/
def fnExactPublicOfWrong : ChangeSpec := { name := "fnExactPublicOf", fn := fun _ => fun
  | [d] => { results := [.lit (.bool false)], args := [d] }
  | _ => none }
def FnExactPublicOfWrongFalsely : Prop := fnExactPublicOfRow.holds Try.pinned (OpenSpec.ofChange fnExactPublicOfWrong)

/-- 'laws.FnExactSharedOf': WHATEVER THE INPUT: true; the input reads as it did. -/
def fnExactSharedOfSpec : ChangeSpec := { name := "fnExactSharedOf", fn := fun _ => fun
  | [d1, d2] => { results := [.lit (.bool true)], args := [d1, d2] }
  | _ => none }
def fnExactSharedOfRow : OpenClaim := { program := "ytkcgckpnafiggaa", sum := "d3f712763ca4b371a668158e06263b83c6b943aa4c1b88bba21bb3ccd8cd55eb", func := "loop.example/mixrelay/laws.FnExactSharedOf", spec := "fnExactSharedOf", apart := false }
def FnExactSharedOfSaid : Prop := fnExactSharedOfRow.holds Try.pinned (OpenSpec.ofChange fnExactSharedOfSpec)

/-- ITS FALSE NEIGHBOUR: 'it returns false'. Refute it at one input. -/
def fnExactSharedOfWrong : ChangeSpec := { name := "fnExactSharedOf", fn := fun _ => fun
  | [d1, d2] => { results := [.lit (.bool false)], args := [d1, d2] }
  | _ => none }
def FnExactSharedOfWrongFalsely : Prop := fnExactSharedOfRow.holds Try.pinned (OpenSpec.ofChange fnExactSharedOfWrong)

/-- 'laws.FnFactor': WHATEVER THE INPUT: true; the input reads as it did. -/
def fnFactorSpec : ChangeSpec := { name := "fnFactor", fn := fun _ => fun
  | [d] => { results := [.lit (.bool true)], args := [d] }
  | _ => none }
def fnFactorRow : OpenClaim := { program := "ytkcgckpnafiggaa", sum := "d3f712763ca4b371a668158e06263b83c6b943aa4c1b88bba21bb3ccd8cd55eb", func := "loop.example/mixrelay/laws.FnFactor", spec := "fnFactor", apart := false }
def FnFactorSaid : Prop := fnFactorRow.holds Try.pinned (OpenSpec.ofChange fnFactorSpec)

/-- ITS FALSE NEIGHBOUR: 'it returns false'. Refute it at one input. -/
def fnFactorWrong : ChangeSpec := { name := "fnFactor", fn := fun _ => fun
  | [d] => { results := [.lit (.bool false)], args := [d] }
  | _ => none }
def FnFactorWrongFalsely : Prop := fnFactorRow.holds Try.pinned (OpenSpec.ofChange fnFactorWrong)

/-- 'laws.FnFactorOther': WHATEVER THE INPUT: true; the input reads as it did. -/
def fnFactorOtherSpec : ChangeSpec := { name := "fnFactorOther", fn := fun _ => fun
  | [d1, d2] => { results := [.lit (.bool true)], args := [d1, d2] }
  | _ => none }
def fnFactorOtherRow : OpenClaim := { program := "ytkcgckpnafiggaa", sum := "d3f712763ca4b371a668158e06263b83c6b943aa4c1b88bba21bb3ccd8cd55eb", func := "loop.example/mixrelay/laws.FnFactorOther", spec := "fnFactorOther", apart := false }
def FnFactorOtherSaid : Prop := fnFactorOtherRow.holds Try.pinned (OpenSpec.ofChange fnFactorOtherSpec)

/-- ITS FALSE NEIGHBOUR: 'it returns false'. Refute it at one input. -/
def fnFactorOtherWrong : ChangeSpec := { name := "fnFactorOther", fn := fun _ => fun
  | [d1, d2] => { results := [.lit (.bool false)], args := [d1, d2] }
  | _ => none }
def FnFactorOtherWrongFalsely : Prop := fnFactorOtherRow.holds Try.pinned (OpenSpec.ofChange fnFactorOtherWrong)

/-- 'laws.FnPublic': WHATEVER THE INPUT: true; the input reads as it did. -/
def fnPublicSpec : ChangeSpec := { name := "fnPublic", fn := fun _ => fun
  | [d1, d2] => { results := [.lit (.bool true)], args := [d1, d2] }
  | _ => none }
def fnPublicRow : OpenClaim := { program := "ytkcgckpnafiggaa", sum := "d3f712763ca4b371a668158e06263b83c6b943aa4c1b88bba21bb3ccd8cd55eb", func := "loop.example/mixrelay/laws.FnPublic", spec := "fnPublic", apart := false }
def FnPublicSaid : Prop := fnPublicRow.holds Try.pinned (OpenSpec.ofChange fnPublicSpec)

/-- ITS FALSE NEIGHBOUR: 'it returns false'. Refute it at one input. -/
def fnPublicWrong : ChangeSpec := { name := "fnPublic", fn := fun _ => fun
  | [d1, d2] => { results := [.lit (.bool false)], args := [d1, d2] }
  | _ => none }
def FnPublicWrongFalsely : Prop := fnPublicRow.holds Try.pinned (OpenSpec.ofChange fnPublicWrong)

/-- 'laws.FnShared': WHATEVER THE INPUT: true; the input reads as it did. -/
def fnSharedSpec : ChangeSpec := { name := "fnShared", fn := fun _ => fun
  | [d1, d2] => { results := [.lit (.bool true)], args := [d1, d2] }
  | _ => none }
def fnSharedRow : OpenClaim := { program := "ytkcgckpnafiggaa", sum := "d3f712763ca4b371a668158e06263b83c6b943aa4c1b88bba21bb3ccd8cd55eb", func := "loop.example/mixrelay/laws.FnShared", spec := "fnShared", apart := false }
def FnSharedSaid : Prop := fnSharedRow.holds Try.pinned (OpenSpec.ofChange fnSharedSpec)

/-- ITS FALSE NEIGHBOUR: 'it returns false'. Refute it at one input. -/
def fnSharedWrong : ChangeSpec := { name := "fnShared", fn := fun _ => fun
  | [d1, d2] => { results := [.lit (.bool false)], args := [d1, d2] }
  | _ => none }
def FnSharedWrongFalsely : Prop := fnSharedRow.holds Try.pinned (OpenSpec.ofChange fnSharedWrong)

/-- 'laws.FnSharedOther': WHATEVER THE INPUT: true; the input reads as it did. -/
def fnSharedOtherSpec : ChangeSpec := { name := "fnSharedOther", fn := fun _ => fun
  | [d1, d2] => { results := [.lit (.bool true)], args := [d1, d2] }
  | _ => none }
def fnSharedOtherRow : OpenClaim := { program := "ytkcgckpnafiggaa", sum := "d3f712763ca4b371a668158e06263b83c6b943aa4c1b88bba21bb3ccd8cd55eb", func := "loop.example/mixrelay/laws.FnSharedOther", spec := "fnSharedOther", apart := false }
def FnSharedOtherSaid : Prop := fnSharedOtherRow.holds Try.pinned (OpenSpec.ofChange fnSharedOtherSpec)

/-- ITS FALSE NEIGHBOUR: 'it returns false'. Refute it at one input. -/
def fnSharedOtherWrong : ChangeSpec := { name := "fnSharedOther", fn := fun _ => fun
  | [d1, d2] => { results := [.lit (.bool false)], args := [d1, d2] }
  | _ => none }
def FnSharedOtherWrongFalsely : Prop := fnSharedOtherRow.holds Try.pinned (OpenSpec.ofChange fnSharedOtherWrong)

/-- 'laws.FnBlindOrder': WHATEVER THE INPUT: true; the input reads as it did. -/
def fnBlindOrderSpec : ChangeSpec := { name := "fnBlindOrder", fn := fun _ => fun
  | [d1, d2] => { results := [.lit (.bool true)], args := [d1, d2] }
  | _ => none }
def fnBlindOrderRow : OpenClaim := { program := "ytkcgckpnafiggaa", sum := "d3f712763ca4b371a668158e06263b83c6b943aa4c1b88bba21bb3ccd8cd55eb", func := "loop.example/mixrelay/laws.FnBlindOrder", spec := "fnBlindOrder", apart := false }
def FnBlindOrderSaid : Prop := fnBlindOrderRow.holds Try.pinned (OpenSpec.ofChange fnBlindOrderSpec)

/-- ITS FALSE NEIGHBOUR: 'it returns false'. Refute it at one input. -/
def fnBlindOrderWrong : ChangeSpec := { name := "fnBlindOrder", fn := fun _ => fun
  | [d1, d2] => { results := [.lit (.bool false)], args := [d1, d2] }
  | _ => none }
def FnBlindOrderWrongFalsely : Prop := fnBlindOrderRow.holds Try.pinned (OpenSpec.ofChange fnBlindOrderWrong)

/-- 'laws.FnBlindOther': WHATEVER THE INPUT: true; the input reads as it did. -/
def fnBlindOtherSpec : ChangeSpec := { name := "fnBlindOther", fn := fun _ => fun
  | [d1, d2] => { results := [.lit (.bool true)], args := [d1, d2] }
  | _ => none }
def fnBlindOtherRow : OpenClaim := { program := "ytkcgckpnafiggaa", sum := "d3f712763ca4b371a668158e06263b83c6b943aa4c1b88bba21bb3ccd8cd55eb", func := "loop.example/mixrelay/laws.FnBlindOther", spec := "fnBlindOther", apart := false }
def FnBlindOtherSaid : Prop := fnBlindOtherRow.holds Try.pinned (OpenSpec.ofChange fnBlindOtherSpec)

/-- ITS FALSE NEIGHBOUR: 'it returns false'. Refute it at one input. -/
def fnBlindOtherWrong : ChangeSpec := { name := "fnBlindOther", fn := fun _ => fun
  | [d1, d2] => { results := [.lit (.bool false)], args := [d1, d2] }
  | _ => none }
def FnBlindOtherWrongFalsely : Prop := fnBlindOtherRow.holds Try.pinned (OpenSpec.ofChange fnBlindOtherWrong)

/-- 'laws.FnBlindShared': WHATEVER THE INPUT: true; the input reads as it did. -/
def fnBlindSharedSpec : ChangeSpec := { name := "fnBlindShared", fn := fun _ => fun
  | [d1, d2] => { results := [.lit (.bool true)], args := [d1, d2] }
  | _ => none }
def fnBlindSharedRow : OpenClaim := { program := "ytkcgckpnafiggaa", sum := "d3f712763ca4b371a668158e06263b83c6b943aa4c1b88bba21bb3ccd8cd55eb", func := "loop.example/mixrelay/laws.FnBlindShared", spec := "fnBlindShared", apart := false }
def FnBlindSharedSaid : Prop := fnBlindSharedRow.holds Try.pinned (OpenSpec.ofChange fnBlindSharedSpec)

/-- ITS FALSE NEIGHBOUR: 'it returns false'. Refute it at one input. -/
def fnBlindSharedWrong : ChangeSpec := { name := "fnBlindShared", fn := fun _ => fun
  | [d1, d2] => { results := [.lit (.bool false)], args := [d1, d2] }
  | _ => none }
def FnBlindSharedWrongFalsely : Prop := fnBlindSharedRow.holds Try.pinned (OpenSpec.ofChange fnBlindSharedWrong)

/- THE SECOND FORM. 'bulk': how many values and letters a reading holds, each counted each time it is reached (what is shared counts as often as it is met; a slice's spare places count too). A statement '..UptoSaid' is the law's where the arguments, and the package variables that the reading takes, are together of bulk at most 1048576: NARROWER than '..Said'. Prove '..Said' where nothing that the law and all that it calls make is longer than what came in: it says more and counts as full. Else prove '..UptoSaid'. A law counts once. -/
mutual
def uptoBulk {H : Type} : DataW H → Nat
  | .lit (.string bytes) => bytes.length + 1
  | .lit _ => 1
  | .nil => 1
  | .ptr d => uptoBulk d + 1
  | .slice elems spare => uptoBulkAll elems + uptoBulkAll spare + 1
  | .agg parts => uptoBulkAll parts + 1
  | .iface _ d => uptoBulk d + 1
  | .map entries => uptoBulkEntries entries + 1
  | .held _ => 1
def uptoBulkAll {H : Type} : List (DataW H) → Nat
  | [] => 0
  | d :: r => uptoBulk d + uptoBulkAll r
def uptoBulkEntries {H : Type} : List (Lit × DataW H) → Nat
  | [] => 0
  | x :: r => uptoBulkEntry x + uptoBulkEntries r
def uptoBulkEntry {H : Type} : Lit × DataW H → Nat
  | (.string bytes, d) => bytes.length + uptoBulk d + 1
  | (_, d) => uptoBulk d + 1
 end
def uptoSmall : (H : Type) → List (DataW H) → Bool := fun _ ds => decide (uptoBulkAll ds ≤ 1048576)
def OpenSpec.upto (s : _root_.Go.ChangeSpec) : _root_.Go.OpenSpec := { _root_.Go.OpenSpec.ofChange s with cond := some uptoSmall }

/-- 'laws.FnExactConstants', WHERE WHAT IT READS IS OF BULK AT MOST 1048576: true; the input reads as it did. -/
def fnExactConstantsUptoRow : OpenClaim := { program := "ytkcgckpnafiggaa", sum := "d3f712763ca4b371a668158e06263b83c6b943aa4c1b88bba21bb3ccd8cd55eb", func := "loop.example/mixrelay/laws.FnExactConstants", spec := "fnExactConstants", apart := false, narrowed := true }
def FnExactConstantsUptoSaid : Prop := fnExactConstantsUptoRow.holds Try.pinned (OpenSpec.upto fnExactConstantsSpec)

/-- 'laws.FnExactFactorOf', WHERE WHAT IT READS IS OF BULK AT MOST 1048576: true; the input reads as it did. -/
def fnExactFactorOfUptoRow : OpenClaim := { program := "ytkcgckpnafiggaa", sum := "d3f712763ca4b371a668158e06263b83c6b943aa4c1b88bba21bb3ccd8cd55eb", func := "loop.example/mixrelay/laws.FnExactFactorOf", spec := "fnExactFactorOf", apart := false, narrowed := true }
def FnExactFactorOfUptoSaid : Prop := fnExactFactorOfUptoRow.holds Try.pinned (OpenSpec.upto fnExactFactorOfSpec)

/-- 'laws.FnExactBlindOf', WHERE WHAT IT READS IS OF BULK AT MOST 1048576: true; the input reads as it did. -/
def fnExactBlindOfUptoRow : OpenClaim := { program := "ytkcgckpnafiggaa", sum := "d3f712763ca4b371a668158e06263b83c6b943aa4c1b88bba21bb3ccd8cd55eb", func := "loop.example/mixrelay/laws.FnExactBlindOf", spec := "fnExactBlindOf", apart := false, narrowed := true }
def FnExactBlindOfUptoSaid : Prop := fnExactBlindOfUptoRow.holds Try.pinned (OpenSpec.upto fnExactBlindOfSpec)

/-- 'laws.FnExactPublicOf', WHERE WHAT IT READS IS OF BULK AT MOST 1048576: true; the input reads as it did. -/
def fnExactPublicOfUptoRow : OpenClaim := { program := "ytkcgckpnafiggaa", sum := "d3f712763ca4b371a668158e06263b83c6b943aa4c1b88bba21bb3ccd8cd55eb", func := "loop.example/mixrelay/laws.FnExactPublicOf", spec := "fnExactPublicOf", apart := false, narrowed := true }
def FnExactPublicOfUptoSaid : Prop := fnExactPublicOfUptoRow.holds Try.pinned (OpenSpec.upto fnExactPublicOfSpec)

/-- 'laws.FnExactSharedOf', WHERE WHAT IT READS IS OF BULK AT MOST 1048576: true; the input reads as it did. -/
def fnExactSharedOfUptoRow : OpenClaim := { program := "ytkcgckpnafiggaa", sum := "d3f712763ca4b371a668158e06263b83c6b943aa4c1b88bba21bb3ccd8cd55eb", func := "loop.example/mixrelay/laws.FnExactSharedOf", spec := "fnExactSharedOf", apart := false, narrowed := true }
def FnExactSharedOfUptoSaid : Prop := fnExactSharedOfUptoRow.holds Try.pinned (OpenSpec.upto fnExactSharedOfSpec)

/-- 'laws.FnFactor', WHERE WHAT IT READS IS OF BULK AT MOST 1048576: true; the input reads as it did. -/
def fnFactorUptoRow : OpenClaim := { program := "ytkcgckpnafiggaa", sum := "d3f712763ca4b371a668158e06263b83c6b943aa4c1b88bba21bb3ccd8cd55eb", func := "loop.example/mixrelay/laws.FnFactor", spec := "fnFactor", apart := false, narrowed := true }
def FnFactorUptoSaid : Prop := fnFactorUptoRow.holds Try.pinned (OpenSpec.upto fnFactorSpec)

/-- 'laws.FnFactorOther', WHERE WHAT IT READS IS OF BULK AT MOST 1048576: true; the input reads as it did. -/
def fnFactorOtherUptoRow : OpenClaim := { program := "ytkcgckpnafiggaa", sum := "d3f712763ca4b371a668158e06263b83c6b943aa4c1b88bba21bb3ccd8cd55eb", func := "loop.example/mixrelay/laws.FnFactorOther", spec := "fnFactorOther", apart := false, narrowed := true }
def FnFactorOtherUptoSaid : Prop := fnFactorOtherUptoRow.holds Try.pinned (OpenSpec.upto fnFactorOtherSpec)

/-- 'laws.FnPublic', WHERE WHAT IT READS IS OF BULK AT MOST 1048576: true; the input reads as it did. -/
def fnPublicUptoRow : OpenClaim := { program := "ytkcgckpnafiggaa", sum := "d3f712763ca4b371a668158e06263b83c6b943aa4c1b88bba21bb3ccd8cd55eb", func := "loop.example/mixrelay/laws.FnPublic", spec := "fnPublic", apart := false, narrowed := true }
def FnPublicUptoSaid : Prop := fnPublicUptoRow.holds Try.pinned (OpenSpec.upto fnPublicSpec)

/-- 'laws.FnShared', WHERE WHAT IT READS IS OF BULK AT MOST 1048576: true; the input reads as it did. -/
def fnSharedUptoRow : OpenClaim := { program := "ytkcgckpnafiggaa", sum := "d3f712763ca4b371a668158e06263b83c6b943aa4c1b88bba21bb3ccd8cd55eb", func := "loop.example/mixrelay/laws.FnShared", spec := "fnShared", apart := false, narrowed := true }
def FnSharedUptoSaid : Prop := fnSharedUptoRow.holds Try.pinned (OpenSpec.upto fnSharedSpec)

/-- 'laws.FnSharedOther', WHERE WHAT IT READS IS OF BULK AT MOST 1048576: true; the input reads as it did. -/
def fnSharedOtherUptoRow : OpenClaim := { program := "ytkcgckpnafiggaa", sum := "d3f712763ca4b371a668158e06263b83c6b943aa4c1b88bba21bb3ccd8cd55eb", func := "loop.example/mixrelay/laws.FnSharedOther", spec := "fnSharedOther", apart := false, narrowed := true }
def FnSharedOtherUptoSaid : Prop := fnSharedOtherUptoRow.holds Try.pinned (OpenSpec.upto fnSharedOtherSpec)

/-- 'laws.FnBlindOrder', WHERE WHAT IT READS IS OF BULK AT MOST 1048576: true; the input reads as it did. -/
def fnBlindOrderUptoRow : OpenClaim := { program := "ytkcgckpnafiggaa", sum := "d3f712763ca4b371a668158e06263b83c6b943aa4c1b88bba21bb3ccd8cd55eb", func := "loop.example/mixrelay/laws.FnBlindOrder", spec := "fnBlindOrder", apart := false, narrowed := true }
def FnBlindOrderUptoSaid : Prop := fnBlindOrderUptoRow.holds Try.pinned (OpenSpec.upto fnBlindOrderSpec)

/-- 'laws.FnBlindOther', WHERE WHAT IT READS IS OF BULK AT MOST 1048576: true; the input reads as it did. -/
def fnBlindOtherUptoRow : OpenClaim := { program := "ytkcgckpnafiggaa", sum := "d3f712763ca4b371a668158e06263b83c6b943aa4c1b88bba21bb3ccd8cd55eb", func := "loop.example/mixrelay/laws.FnBlindOther", spec := "fnBlindOther", apart := false, narrowed := true }
def FnBlindOtherUptoSaid : Prop := fnBlindOtherUptoRow.holds Try.pinned (OpenSpec.upto fnBlindOtherSpec)

/-- 'laws.FnBlindShared', WHERE WHAT IT READS IS OF BULK AT MOST 1048576: true; the input reads as it did. -/
def fnBlindSharedUptoRow : OpenClaim := { program := "ytkcgckpnafiggaa", sum := "d3f712763ca4b371a668158e06263b83c6b943aa4c1b88bba21bb3ccd8cd55eb", func := "loop.example/mixrelay/laws.FnBlindShared", spec := "fnBlindShared", apart := false, narrowed := true }
def FnBlindSharedUptoSaid : Prop := fnBlindSharedUptoRow.holds Try.pinned (OpenSpec.upto fnBlindSharedSpec)

end Rows
end Go.Proofs.Ytkcgckpnafiggaa
