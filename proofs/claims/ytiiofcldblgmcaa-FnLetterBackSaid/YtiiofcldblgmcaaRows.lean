/-
  No cell of these rows narrows 'for every input' (looked for: loops, veiled, ifaces, maps, wideKeys, modest, calm, conditions, laid).
  DERIVED. THE GIVEN ROWS OF THIS SEAT. 24 by the template 'for every input the law returns true; each argument reads behind the call as it read before'; 0 by the template 'total and deterministic' (their statements: YtiiofcldblgmcaaTotals.lean).
  GIVEN WITH THE SEED: the statements are not yours to turn. If you find one false, say at which input.
  Laid BY PROGRAM, IN A SANDBOX (cutbox-rows.mjs): the forced cells as the released guide's own fill.sh prints them over the translation 85eabfdea2ef354f… (all of the seat's roots in one cut). By AI agents, Wed Nov 11 2026. No macro, syntax, notation, axiom, sorry.
-/
import Derived.Test.YtiiofcldblgmcaaChecked
import GoSem.Claim
import GoSem.ClaimJoined
import GoSem.ClaimMapViews
import Derived.JoinedTies
import Derived.KernelRfl
namespace Go.Proofs.Ytiiofcldblgmcaa
/- THE CELL 'sum', in the pinned program and in every row, IS THE sha256 OF THE DUMP (.gsa) THAT YtiiofcldblgmcaaProg.lean LOADS. Nothing in Lean hashes anything: it is a label: what it is worth is what the hold of that sum in a sandbox is worth. -/
noncomputable def Try.pinned : Pinned := { name := "ytiiofcldblgmcaa", sum := "85eabfdea2ef354f8e49863a825ba76c3bd3eb685084503777f83a0181f2962b", checked := Try.checked }
namespace Rows
def none {H : Type} : Left H := { results := [], args := [] }

/-- 'laws.FnExactTagOf': WHATEVER THE INPUT: true; the input reads as it did. -/
def fnExactTagOfSpec : ChangeSpec := { name := "fnExactTagOf", fn := fun _ => fun
  | [d1, d2] => { results := [.lit (.bool true)], args := [d1, d2] }
  | _ => none }
def fnExactTagOfRow : OpenClaim := { program := "ytiiofcldblgmcaa", sum := "85eabfdea2ef354f8e49863a825ba76c3bd3eb685084503777f83a0181f2962b", func := "loop.example/mixrelay/laws.FnExactTagOf", spec := "fnExactTagOf", apart := false }
def FnExactTagOfSaid : Prop := fnExactTagOfRow.holds Try.pinned (OpenSpec.ofChange fnExactTagOfSpec)

/-- ITS FALSE NEIGHBOUR: 'it returns false'. Refute it at one input. -/
def fnExactTagOfWrong : ChangeSpec := { name := "fnExactTagOf", fn := fun _ => fun
  | [d1, d2] => { results := [.lit (.bool false)], args := [d1, d2] }
  | _ => none }
def FnExactTagOfWrongFalsely : Prop := fnExactTagOfRow.holds Try.pinned (OpenSpec.ofChange fnExactTagOfWrong)

/-- 'laws.FnExactTagCheck': WHATEVER THE INPUT: true; the input reads as it did. -/
def fnExactTagCheckSpec : ChangeSpec := { name := "fnExactTagCheck", fn := fun _ => fun
  | [d1, d2, d3] => { results := [.lit (.bool true)], args := [d1, d2, d3] }
  | _ => none }
def fnExactTagCheckRow : OpenClaim := { program := "ytiiofcldblgmcaa", sum := "85eabfdea2ef354f8e49863a825ba76c3bd3eb685084503777f83a0181f2962b", func := "loop.example/mixrelay/laws.FnExactTagCheck", spec := "fnExactTagCheck", apart := false }
def FnExactTagCheckSaid : Prop := fnExactTagCheckRow.holds Try.pinned (OpenSpec.ofChange fnExactTagCheckSpec)

/-- ITS FALSE NEIGHBOUR: 'it returns false'. Refute it at one input. -/
def fnExactTagCheckWrong : ChangeSpec := { name := "fnExactTagCheck", fn := fun _ => fun
  | [d1, d2, d3] => { results := [.lit (.bool false)], args := [d1, d2, d3] }
  | _ => none }
def FnExactTagCheckWrongFalsely : Prop := fnExactTagCheckRow.holds Try.pinned (OpenSpec.ofChange fnExactTagCheckWrong)

/-- 'laws.FnExactStreamOf': WHATEVER THE INPUT: true; the input reads as it did. -/
def fnExactStreamOfSpec : ChangeSpec := { name := "fnExactStreamOf", fn := fun _ => fun
  | [d1, d2] => { results := [.lit (.bool true)], args := [d1, d2] }
  | _ => none }
def fnExactStreamOfRow : OpenClaim := { program := "ytiiofcldblgmcaa", sum := "85eabfdea2ef354f8e49863a825ba76c3bd3eb685084503777f83a0181f2962b", func := "loop.example/mixrelay/laws.FnExactStreamOf", spec := "fnExactStreamOf", apart := false }
def FnExactStreamOfSaid : Prop := fnExactStreamOfRow.holds Try.pinned (OpenSpec.ofChange fnExactStreamOfSpec)

/-- ITS FALSE NEIGHBOUR: 'it returns false'. Refute it at one input. -/
def fnExactStreamOfWrong : ChangeSpec := { name := "fnExactStreamOf", fn := fun _ => fun
  | [d1, d2] => { results := [.lit (.bool false)], args := [d1, d2] }
  | _ => none }
def FnExactStreamOfWrongFalsely : Prop := fnExactStreamOfRow.holds Try.pinned (OpenSpec.ofChange fnExactStreamOfWrong)

/-- 'laws.FnExactMaskOff': WHATEVER THE INPUT: true; the input reads as it did. -/
def fnExactMaskOffSpec : ChangeSpec := { name := "fnExactMaskOff", fn := fun _ => fun
  | [d1, d2] => { results := [.lit (.bool true)], args := [d1, d2] }
  | _ => none }
def fnExactMaskOffRow : OpenClaim := { program := "ytiiofcldblgmcaa", sum := "85eabfdea2ef354f8e49863a825ba76c3bd3eb685084503777f83a0181f2962b", func := "loop.example/mixrelay/laws.FnExactMaskOff", spec := "fnExactMaskOff", apart := false }
def FnExactMaskOffSaid : Prop := fnExactMaskOffRow.holds Try.pinned (OpenSpec.ofChange fnExactMaskOffSpec)

/-- ITS FALSE NEIGHBOUR: 'it returns false'. Refute it at one input. -/
def fnExactMaskOffWrong : ChangeSpec := { name := "fnExactMaskOff", fn := fun _ => fun
  | [d1, d2] => { results := [.lit (.bool false)], args := [d1, d2] }
  | _ => none }
def FnExactMaskOffWrongFalsely : Prop := fnExactMaskOffRow.holds Try.pinned (OpenSpec.ofChange fnExactMaskOffWrong)

/-- 'laws.FnExactMaskOn': WHATEVER THE INPUT: true; the input reads as it did. -/
def fnExactMaskOnSpec : ChangeSpec := { name := "fnExactMaskOn", fn := fun _ => fun
  | [d1, d2] => { results := [.lit (.bool true)], args := [d1, d2] }
  | _ => none }
def fnExactMaskOnRow : OpenClaim := { program := "ytiiofcldblgmcaa", sum := "85eabfdea2ef354f8e49863a825ba76c3bd3eb685084503777f83a0181f2962b", func := "loop.example/mixrelay/laws.FnExactMaskOn", spec := "fnExactMaskOn", apart := false }
def FnExactMaskOnSaid : Prop := fnExactMaskOnRow.holds Try.pinned (OpenSpec.ofChange fnExactMaskOnSpec)

/-- ITS FALSE NEIGHBOUR: 'it returns false'. Refute it at one input. -/
def fnExactMaskOnWrong : ChangeSpec := { name := "fnExactMaskOn", fn := fun _ => fun
  | [d1, d2] => { results := [.lit (.bool false)], args := [d1, d2] }
  | _ => none }
def FnExactMaskOnWrongFalsely : Prop := fnExactMaskOnRow.holds Try.pinned (OpenSpec.ofChange fnExactMaskOnWrong)

/-- 'laws.FnStreamPart': WHATEVER THE INPUT: true; the input reads as it did. -/
def fnStreamPartSpec : ChangeSpec := { name := "fnStreamPart", fn := fun _ => fun
  | [d1, d2] => { results := [.lit (.bool true)], args := [d1, d2] }
  | _ => none }
def fnStreamPartRow : OpenClaim := { program := "ytiiofcldblgmcaa", sum := "85eabfdea2ef354f8e49863a825ba76c3bd3eb685084503777f83a0181f2962b", func := "loop.example/mixrelay/laws.FnStreamPart", spec := "fnStreamPart", apart := false }
def FnStreamPartSaid : Prop := fnStreamPartRow.holds Try.pinned (OpenSpec.ofChange fnStreamPartSpec)

/-- ITS FALSE NEIGHBOUR: 'it returns false'. Refute it at one input. -/
def fnStreamPartWrong : ChangeSpec := { name := "fnStreamPart", fn := fun _ => fun
  | [d1, d2] => { results := [.lit (.bool false)], args := [d1, d2] }
  | _ => none }
def FnStreamPartWrongFalsely : Prop := fnStreamPartRow.holds Try.pinned (OpenSpec.ofChange fnStreamPartWrong)

/-- 'laws.FnMaskZero': WHATEVER THE INPUT: true; the input reads as it did. -/
def fnMaskZeroSpec : ChangeSpec := { name := "fnMaskZero", fn := fun _ => fun
  | [d] => { results := [.lit (.bool true)], args := [d] }
  | _ => none }
def fnMaskZeroRow : OpenClaim := { program := "ytiiofcldblgmcaa", sum := "85eabfdea2ef354f8e49863a825ba76c3bd3eb685084503777f83a0181f2962b", func := "loop.example/mixrelay/laws.FnMaskZero", spec := "fnMaskZero", apart := false }
def FnMaskZeroSaid : Prop := fnMaskZeroRow.holds Try.pinned (OpenSpec.ofChange fnMaskZeroSpec)

/-- ITS FALSE NEIGHBOUR: 'it returns false'. Refute it at one input. -/
def fnMaskZeroWrong : ChangeSpec := { name := "fnMaskZero", fn := fun _ => fun
  | [d] => { results := [.lit (.bool false)], args := [d] }
  | _ => none }
def FnMaskZeroWrongFalsely : Prop := fnMaskZeroRow.holds Try.pinned (OpenSpec.ofChange fnMaskZeroWrong)

/-- 'laws.FnStreamOther': WHATEVER THE INPUT: true; the input reads as it did. -/
def fnStreamOtherSpec : ChangeSpec := { name := "fnStreamOther", fn := fun _ => fun
  | [d1, d2] => { results := [.lit (.bool true)], args := [d1, d2] }
  | _ => none }
def fnStreamOtherRow : OpenClaim := { program := "ytiiofcldblgmcaa", sum := "85eabfdea2ef354f8e49863a825ba76c3bd3eb685084503777f83a0181f2962b", func := "loop.example/mixrelay/laws.FnStreamOther", spec := "fnStreamOther", apart := false }
def FnStreamOtherSaid : Prop := fnStreamOtherRow.holds Try.pinned (OpenSpec.ofChange fnStreamOtherSpec)

/-- ITS FALSE NEIGHBOUR: 'it returns false'. Refute it at one input. -/
def fnStreamOtherWrong : ChangeSpec := { name := "fnStreamOther", fn := fun _ => fun
  | [d1, d2] => { results := [.lit (.bool false)], args := [d1, d2] }
  | _ => none }
def FnStreamOtherWrongFalsely : Prop := fnStreamOtherRow.holds Try.pinned (OpenSpec.ofChange fnStreamOtherWrong)

/-- 'laws.FnExactLetterPack': WHATEVER THE INPUT: true; the input reads as it did. -/
def fnExactLetterPackSpec : ChangeSpec := { name := "fnExactLetterPack", fn := fun _ => fun
  | [d] => { results := [.lit (.bool true)], args := [d] }
  | _ => none }
def fnExactLetterPackRow : OpenClaim := { program := "ytiiofcldblgmcaa", sum := "85eabfdea2ef354f8e49863a825ba76c3bd3eb685084503777f83a0181f2962b", func := "loop.example/mixrelay/laws.FnExactLetterPack", spec := "fnExactLetterPack", apart := false }
def FnExactLetterPackSaid : Prop := fnExactLetterPackRow.holds Try.pinned (OpenSpec.ofChange fnExactLetterPackSpec)

/-- ITS FALSE NEIGHBOUR: 'it returns false'. Refute it at one input. -/
def fnExactLetterPackWrong : ChangeSpec := { name := "fnExactLetterPack", fn := fun _ => fun
  | [d] => { results := [.lit (.bool false)], args := [d] }
  | _ => none }
def FnExactLetterPackWrongFalsely : Prop := fnExactLetterPackRow.holds Try.pinned (OpenSpec.ofChange fnExactLetterPackWrong)

/-- 'laws.FnTagEmpty': WHATEVER THE INPUT: true; the input reads as it did. -/
def fnTagEmptySpec : ChangeSpec := { name := "fnTagEmpty", fn := fun _ => fun
  | [d] => { results := [.lit (.bool true)], args := [d] }
  | _ => none }
def fnTagEmptyRow : OpenClaim := { program := "ytiiofcldblgmcaa", sum := "85eabfdea2ef354f8e49863a825ba76c3bd3eb685084503777f83a0181f2962b", func := "loop.example/mixrelay/laws.FnTagEmpty", spec := "fnTagEmpty", apart := false }
def FnTagEmptySaid : Prop := fnTagEmptyRow.holds Try.pinned (OpenSpec.ofChange fnTagEmptySpec)

/-- ITS FALSE NEIGHBOUR: 'it returns false'. Refute it at one input. -/
def fnTagEmptyWrong : ChangeSpec := { name := "fnTagEmpty", fn := fun _ => fun
  | [d] => { results := [.lit (.bool false)], args := [d] }
  | _ => none }
def FnTagEmptyWrongFalsely : Prop := fnTagEmptyRow.holds Try.pinned (OpenSpec.ofChange fnTagEmptyWrong)

/-- 'laws.FnTag': WHATEVER THE INPUT: true; the input reads as it did. -/
def fnTagSpec : ChangeSpec := { name := "fnTag", fn := fun _ => fun
  | [d] => { results := [.lit (.bool true)], args := [d] }
  | _ => none }
def fnTagRow : OpenClaim := { program := "ytiiofcldblgmcaa", sum := "85eabfdea2ef354f8e49863a825ba76c3bd3eb685084503777f83a0181f2962b", func := "loop.example/mixrelay/laws.FnTag", spec := "fnTag", apart := false }
def FnTagSaid : Prop := fnTagRow.holds Try.pinned (OpenSpec.ofChange fnTagSpec)

/-- ITS FALSE NEIGHBOUR: 'it returns false'. Refute it at one input. -/
def fnTagWrong : ChangeSpec := { name := "fnTag", fn := fun _ => fun
  | [d] => { results := [.lit (.bool false)], args := [d] }
  | _ => none }
def FnTagWrongFalsely : Prop := fnTagRow.holds Try.pinned (OpenSpec.ofChange fnTagWrong)

/-- 'laws.FnTagNext': WHATEVER THE INPUT: true; the input reads as it did. -/
def fnTagNextSpec : ChangeSpec := { name := "fnTagNext", fn := fun _ => fun
  | [d1, d2] => { results := [.lit (.bool true)], args := [d1, d2] }
  | _ => none }
def fnTagNextRow : OpenClaim := { program := "ytiiofcldblgmcaa", sum := "85eabfdea2ef354f8e49863a825ba76c3bd3eb685084503777f83a0181f2962b", func := "loop.example/mixrelay/laws.FnTagNext", spec := "fnTagNext", apart := false }
def FnTagNextSaid : Prop := fnTagNextRow.holds Try.pinned (OpenSpec.ofChange fnTagNextSpec)

/-- ITS FALSE NEIGHBOUR: 'it returns false'. Refute it at one input. -/
def fnTagNextWrong : ChangeSpec := { name := "fnTagNext", fn := fun _ => fun
  | [d1, d2] => { results := [.lit (.bool false)], args := [d1, d2] }
  | _ => none }
def FnTagNextWrongFalsely : Prop := fnTagNextRow.holds Try.pinned (OpenSpec.ofChange fnTagNextWrong)

/-- 'laws.FnTagChange': WHATEVER THE INPUT: true; the input reads as it did. -/
def fnTagChangeSpec : ChangeSpec := { name := "fnTagChange", fn := fun _ => fun
  | [d1, d2] => { results := [.lit (.bool true)], args := [d1, d2] }
  | _ => none }
def fnTagChangeRow : OpenClaim := { program := "ytiiofcldblgmcaa", sum := "85eabfdea2ef354f8e49863a825ba76c3bd3eb685084503777f83a0181f2962b", func := "loop.example/mixrelay/laws.FnTagChange", spec := "fnTagChange", apart := false }
def FnTagChangeSaid : Prop := fnTagChangeRow.holds Try.pinned (OpenSpec.ofChange fnTagChangeSpec)

/-- ITS FALSE NEIGHBOUR: 'it returns false'. Refute it at one input. -/
def fnTagChangeWrong : ChangeSpec := { name := "fnTagChange", fn := fun _ => fun
  | [d1, d2] => { results := [.lit (.bool false)], args := [d1, d2] }
  | _ => none }
def FnTagChangeWrongFalsely : Prop := fnTagChangeRow.holds Try.pinned (OpenSpec.ofChange fnTagChangeWrong)

/-- 'laws.FnTagOther': WHATEVER THE INPUT: true; the input reads as it did. -/
def fnTagOtherSpec : ChangeSpec := { name := "fnTagOther", fn := fun _ => fun
  | [d1, d2] => { results := [.lit (.bool true)], args := [d1, d2] }
  | _ => none }
def fnTagOtherRow : OpenClaim := { program := "ytiiofcldblgmcaa", sum := "85eabfdea2ef354f8e49863a825ba76c3bd3eb685084503777f83a0181f2962b", func := "loop.example/mixrelay/laws.FnTagOther", spec := "fnTagOther", apart := false }
def FnTagOtherSaid : Prop := fnTagOtherRow.holds Try.pinned (OpenSpec.ofChange fnTagOtherSpec)

/-- ITS FALSE NEIGHBOUR: 'it returns false'. Refute it at one input. -/
def fnTagOtherWrong : ChangeSpec := { name := "fnTagOther", fn := fun _ => fun
  | [d1, d2] => { results := [.lit (.bool false)], args := [d1, d2] }
  | _ => none }
def FnTagOtherWrongFalsely : Prop := fnTagOtherRow.holds Try.pinned (OpenSpec.ofChange fnTagOtherWrong)

/-- 'laws.FnLetterSize': WHATEVER THE INPUT: true; the input reads as it did. -/
def fnLetterSizeSpec : ChangeSpec := { name := "fnLetterSize", fn := fun _ => fun
  | [d] => { results := [.lit (.bool true)], args := [d] }
  | _ => none }
def fnLetterSizeRow : OpenClaim := { program := "ytiiofcldblgmcaa", sum := "85eabfdea2ef354f8e49863a825ba76c3bd3eb685084503777f83a0181f2962b", func := "loop.example/mixrelay/laws.FnLetterSize", spec := "fnLetterSize", apart := false }
def FnLetterSizeSaid : Prop := fnLetterSizeRow.holds Try.pinned (OpenSpec.ofChange fnLetterSizeSpec)

/-- ITS FALSE NEIGHBOUR: 'it returns false'. Refute it at one input. -/
def fnLetterSizeWrong : ChangeSpec := { name := "fnLetterSize", fn := fun _ => fun
  | [d] => { results := [.lit (.bool false)], args := [d] }
  | _ => none }
def FnLetterSizeWrongFalsely : Prop := fnLetterSizeRow.holds Try.pinned (OpenSpec.ofChange fnLetterSizeWrong)

/-- 'laws.FnLetterZeros': WHATEVER THE INPUT: true; the input reads as it did. -/
def fnLetterZerosSpec : ChangeSpec := { name := "fnLetterZeros", fn := fun _ => fun
  | [d] => { results := [.lit (.bool true)], args := [d] }
  | _ => none }
def fnLetterZerosRow : OpenClaim := { program := "ytiiofcldblgmcaa", sum := "85eabfdea2ef354f8e49863a825ba76c3bd3eb685084503777f83a0181f2962b", func := "loop.example/mixrelay/laws.FnLetterZeros", spec := "fnLetterZeros", apart := false }
def FnLetterZerosSaid : Prop := fnLetterZerosRow.holds Try.pinned (OpenSpec.ofChange fnLetterZerosSpec)

/-- ITS FALSE NEIGHBOUR: 'it returns false'. Refute it at one input. -/
def fnLetterZerosWrong : ChangeSpec := { name := "fnLetterZeros", fn := fun _ => fun
  | [d] => { results := [.lit (.bool false)], args := [d] }
  | _ => none }
def FnLetterZerosWrongFalsely : Prop := fnLetterZerosRow.holds Try.pinned (OpenSpec.ofChange fnLetterZerosWrong)

/-- 'laws.FnMask': WHATEVER THE INPUT: true; the input reads as it did. -/
def fnMaskSpec : ChangeSpec := { name := "fnMask", fn := fun _ => fun
  | [d] => { results := [.lit (.bool true)], args := [d] }
  | _ => none }
def fnMaskRow : OpenClaim := { program := "ytiiofcldblgmcaa", sum := "85eabfdea2ef354f8e49863a825ba76c3bd3eb685084503777f83a0181f2962b", func := "loop.example/mixrelay/laws.FnMask", spec := "fnMask", apart := false }
def FnMaskSaid : Prop := fnMaskRow.holds Try.pinned (OpenSpec.ofChange fnMaskSpec)

/-- ITS FALSE NEIGHBOUR: 'it returns false'. Refute it at one input. -/
def fnMaskWrong : ChangeSpec := { name := "fnMask", fn := fun _ => fun
  | [d] => { results := [.lit (.bool false)], args := [d] }
  | _ => none }
def FnMaskWrongFalsely : Prop := fnMaskRow.holds Try.pinned (OpenSpec.ofChange fnMaskWrong)

/-- 'laws.FnMaskOne': WHATEVER THE INPUT: true; the input reads as it did. -/
def fnMaskOneSpec : ChangeSpec := { name := "fnMaskOne", fn := fun _ => fun
  | [d1, d2] => { results := [.lit (.bool true)], args := [d1, d2] }
  | _ => none }
def fnMaskOneRow : OpenClaim := { program := "ytiiofcldblgmcaa", sum := "85eabfdea2ef354f8e49863a825ba76c3bd3eb685084503777f83a0181f2962b", func := "loop.example/mixrelay/laws.FnMaskOne", spec := "fnMaskOne", apart := false }
def FnMaskOneSaid : Prop := fnMaskOneRow.holds Try.pinned (OpenSpec.ofChange fnMaskOneSpec)

/-- ITS FALSE NEIGHBOUR: 'it returns false'. Refute it at one input. -/
def fnMaskOneWrong : ChangeSpec := { name := "fnMaskOne", fn := fun _ => fun
  | [d1, d2] => { results := [.lit (.bool false)], args := [d1, d2] }
  | _ => none }
def FnMaskOneWrongFalsely : Prop := fnMaskOneRow.holds Try.pinned (OpenSpec.ofChange fnMaskOneWrong)

/-- 'laws.FnMaskLength': WHATEVER THE INPUT: true; the input reads as it did. -/
def fnMaskLengthSpec : ChangeSpec := { name := "fnMaskLength", fn := fun _ => fun
  | [d] => { results := [.lit (.bool true)], args := [d] }
  | _ => none }
def fnMaskLengthRow : OpenClaim := { program := "ytiiofcldblgmcaa", sum := "85eabfdea2ef354f8e49863a825ba76c3bd3eb685084503777f83a0181f2962b", func := "loop.example/mixrelay/laws.FnMaskLength", spec := "fnMaskLength", apart := false }
def FnMaskLengthSaid : Prop := fnMaskLengthRow.holds Try.pinned (OpenSpec.ofChange fnMaskLengthSpec)

/-- ITS FALSE NEIGHBOUR: 'it returns false'. Refute it at one input. -/
def fnMaskLengthWrong : ChangeSpec := { name := "fnMaskLength", fn := fun _ => fun
  | [d] => { results := [.lit (.bool false)], args := [d] }
  | _ => none }
def FnMaskLengthWrongFalsely : Prop := fnMaskLengthRow.holds Try.pinned (OpenSpec.ofChange fnMaskLengthWrong)

/-- 'laws.FnMaskOrder': WHATEVER THE INPUT: true; the input reads as it did. -/
def fnMaskOrderSpec : ChangeSpec := { name := "fnMaskOrder", fn := fun _ => fun
  | [d1, d2] => { results := [.lit (.bool true)], args := [d1, d2] }
  | _ => none }
def fnMaskOrderRow : OpenClaim := { program := "ytiiofcldblgmcaa", sum := "85eabfdea2ef354f8e49863a825ba76c3bd3eb685084503777f83a0181f2962b", func := "loop.example/mixrelay/laws.FnMaskOrder", spec := "fnMaskOrder", apart := false }
def FnMaskOrderSaid : Prop := fnMaskOrderRow.holds Try.pinned (OpenSpec.ofChange fnMaskOrderSpec)

/-- ITS FALSE NEIGHBOUR: 'it returns false'. Refute it at one input. -/
def fnMaskOrderWrong : ChangeSpec := { name := "fnMaskOrder", fn := fun _ => fun
  | [d1, d2] => { results := [.lit (.bool false)], args := [d1, d2] }
  | _ => none }
def FnMaskOrderWrongFalsely : Prop := fnMaskOrderRow.holds Try.pinned (OpenSpec.ofChange fnMaskOrderWrong)

/-- 'laws.FnExactLetterOpen': WHATEVER THE INPUT: true; the input reads as it did. -/
def fnExactLetterOpenSpec : ChangeSpec := { name := "fnExactLetterOpen", fn := fun _ => fun
  | [d] => { results := [.lit (.bool true)], args := [d] }
  | _ => none }
def fnExactLetterOpenRow : OpenClaim := { program := "ytiiofcldblgmcaa", sum := "85eabfdea2ef354f8e49863a825ba76c3bd3eb685084503777f83a0181f2962b", func := "loop.example/mixrelay/laws.FnExactLetterOpen", spec := "fnExactLetterOpen", apart := false }
def FnExactLetterOpenSaid : Prop := fnExactLetterOpenRow.holds Try.pinned (OpenSpec.ofChange fnExactLetterOpenSpec)

/-- ITS FALSE NEIGHBOUR: 'it returns false'. Refute it at one input. -/
def fnExactLetterOpenWrong : ChangeSpec := { name := "fnExactLetterOpen", fn := fun _ => fun
  | [d] => { results := [.lit (.bool false)], args := [d] }
  | _ => none }
def FnExactLetterOpenWrongFalsely : Prop := fnExactLetterOpenRow.holds Try.pinned (OpenSpec.ofChange fnExactLetterOpenWrong)

/-- 'laws.FnLetter': WHATEVER THE INPUT: true; the input reads as it did. -/
def fnLetterSpec : ChangeSpec := { name := "fnLetter", fn := fun _ => fun
  | [d] => { results := [.lit (.bool true)], args := [d] }
  | _ => none }
def fnLetterRow : OpenClaim := { program := "ytiiofcldblgmcaa", sum := "85eabfdea2ef354f8e49863a825ba76c3bd3eb685084503777f83a0181f2962b", func := "loop.example/mixrelay/laws.FnLetter", spec := "fnLetter", apart := false }
def FnLetterSaid : Prop := fnLetterRow.holds Try.pinned (OpenSpec.ofChange fnLetterSpec)

/-- ITS FALSE NEIGHBOUR: 'it returns false'. Refute it at one input. -/
def fnLetterWrong : ChangeSpec := { name := "fnLetter", fn := fun _ => fun
  | [d] => { results := [.lit (.bool false)], args := [d] }
  | _ => none }
def FnLetterWrongFalsely : Prop := fnLetterRow.holds Try.pinned (OpenSpec.ofChange fnLetterWrong)

/-- 'laws.FnLetterChange': WHATEVER THE INPUT: true; the input reads as it did. -/
def fnLetterChangeSpec : ChangeSpec := { name := "fnLetterChange", fn := fun _ => fun
  | [d1, d2] => { results := [.lit (.bool true)], args := [d1, d2] }
  | _ => none }
def fnLetterChangeRow : OpenClaim := { program := "ytiiofcldblgmcaa", sum := "85eabfdea2ef354f8e49863a825ba76c3bd3eb685084503777f83a0181f2962b", func := "loop.example/mixrelay/laws.FnLetterChange", spec := "fnLetterChange", apart := false }
def FnLetterChangeSaid : Prop := fnLetterChangeRow.holds Try.pinned (OpenSpec.ofChange fnLetterChangeSpec)

/-- ITS FALSE NEIGHBOUR: 'it returns false'. Refute it at one input. -/
def fnLetterChangeWrong : ChangeSpec := { name := "fnLetterChange", fn := fun _ => fun
  | [d1, d2] => { results := [.lit (.bool false)], args := [d1, d2] }
  | _ => none }
def FnLetterChangeWrongFalsely : Prop := fnLetterChangeRow.holds Try.pinned (OpenSpec.ofChange fnLetterChangeWrong)

/-- 'laws.FnLetterBack': WHATEVER THE INPUT: true; the input reads as it did. -/
def fnLetterBackSpec : ChangeSpec := { name := "fnLetterBack", fn := fun _ => fun
  | [d] => { results := [.lit (.bool true)], args := [d] }
  | _ => none }
def fnLetterBackRow : OpenClaim := { program := "ytiiofcldblgmcaa", sum := "85eabfdea2ef354f8e49863a825ba76c3bd3eb685084503777f83a0181f2962b", func := "loop.example/mixrelay/laws.FnLetterBack", spec := "fnLetterBack", apart := false }
def FnLetterBackSaid : Prop := fnLetterBackRow.holds Try.pinned (OpenSpec.ofChange fnLetterBackSpec)

/-- ITS FALSE NEIGHBOUR: 'it returns false'. Refute it at one input. -/
def fnLetterBackWrong : ChangeSpec := { name := "fnLetterBack", fn := fun _ => fun
  | [d] => { results := [.lit (.bool false)], args := [d] }
  | _ => none }
def FnLetterBackWrongFalsely : Prop := fnLetterBackRow.holds Try.pinned (OpenSpec.ofChange fnLetterBackWrong)

/- THE SECOND FORM. 'bulk': how many values and letters a reading holds, each counted each time it is reached (what is shared counts as often as it is met; a slice's spare places count too). A statement '..UptoSaid' is the law's where the arguments, and the package variables that the reading takes, are together of bulk at most 1048576: NARROWER than '..Said'. Prove '..Said' where nothing that the law and all that it calls make is longer than what came in: it says more and counts as full. Else prove '..UptoSaid'. A law counts once. -/
mutual
def uptoBulk {H : Type} : DataW H → Nat
  | .lit (.string bytes) => bytes.length + 1
  | .lit _ => 1
  | .nil => 1
  | .ptr d => uptoBulk d + 1
  | .slice elems spare => uptoBulkAll elems + uptoBulkAll spare + 1
  | .agg parts => uptoBulkAll parts + 1
  | .iface _ d => uptoBulk d + 1
  | .map entries => uptoBulkEntries entries + 1
  | .held _ => 1
def uptoBulkAll {H : Type} : List (DataW H) → Nat
  | [] => 0
  | d :: r => uptoBulk d + uptoBulkAll r
def uptoBulkEntries {H : Type} : List (Lit × DataW H) → Nat
  | [] => 0
  | x :: r => uptoBulkEntry x + uptoBulkEntries r
def uptoBulkEntry {H : Type} : Lit × DataW H → Nat
  | (.string bytes, d) => bytes.length + uptoBulk d + 1
  | (_, d) => uptoBulk d + 1
 end
def uptoSmall : (H : Type) → List (DataW H) → Bool := fun _ ds => decide (uptoBulkAll ds ≤ 1048576)
def OpenSpec.upto (s : _root_.Go.ChangeSpec) : _root_.Go.OpenSpec := { _root_.Go.OpenSpec.ofChange s with cond := some uptoSmall }

/-- 'laws.FnExactTagOf', WHERE WHAT IT READS IS OF BULK AT MOST 1048576: true; the input reads as it did. -/
def fnExactTagOfUptoRow : OpenClaim := { program := "ytiiofcldblgmcaa", sum := "85eabfdea2ef354f8e49863a825ba76c3bd3eb685084503777f83a0181f2962b", func := "loop.example/mixrelay/laws.FnExactTagOf", spec := "fnExactTagOf", apart := false, narrowed := true }
def FnExactTagOfUptoSaid : Prop := fnExactTagOfUptoRow.holds Try.pinned (OpenSpec.upto fnExactTagOfSpec)

/-- 'laws.FnExactTagCheck', WHERE WHAT IT READS IS OF BULK AT MOST 1048576: true; the input reads as it did. -/
def fnExactTagCheckUptoRow : OpenClaim := { program := "ytiiofcldblgmcaa", sum := "85eabfdea2ef354f8e49863a825ba76c3bd3eb685084503777f83a0181f2962b", func := "loop.example/mixrelay/laws.FnExactTagCheck", spec := "fnExactTagCheck", apart := false, narrowed := true }
def FnExactTagCheckUptoSaid : Prop := fnExactTagCheckUptoRow.holds Try.pinned (OpenSpec.upto fnExactTagCheckSpec)

/-- 'laws.FnExactStreamOf', WHERE WHAT IT READS IS OF BULK AT MOST 1048576: true; the input reads as it did. -/
def fnExactStreamOfUptoRow : OpenClaim := { program := "ytiiofcldblgmcaa", sum := "85eabfdea2ef354f8e49863a825ba76c3bd3eb685084503777f83a0181f2962b", func := "loop.example/mixrelay/laws.FnExactStreamOf", spec := "fnExactStreamOf", apart := false, narrowed := true }
def FnExactStreamOfUptoSaid : Prop := fnExactStreamOfUptoRow.holds Try.pinned (OpenSpec.upto fnExactStreamOfSpec)

/-- 'laws.FnExactMaskOff', WHERE WHAT IT READS IS OF BULK AT MOST 1048576: true; the input reads as it did. -/
def fnExactMaskOffUptoRow : OpenClaim := { program := "ytiiofcldblgmcaa", sum := "85eabfdea2ef354f8e49863a825ba76c3bd3eb685084503777f83a0181f2962b", func := "loop.example/mixrelay/laws.FnExactMaskOff", spec := "fnExactMaskOff", apart := false, narrowed := true }
def FnExactMaskOffUptoSaid : Prop := fnExactMaskOffUptoRow.holds Try.pinned (OpenSpec.upto fnExactMaskOffSpec)

/-- 'laws.FnExactMaskOn', WHERE WHAT IT READS IS OF BULK AT MOST 1048576: true; the input reads as it did. -/
def fnExactMaskOnUptoRow : OpenClaim := { program := "ytiiofcldblgmcaa", sum := "85eabfdea2ef354f8e49863a825ba76c3bd3eb685084503777f83a0181f2962b", func := "loop.example/mixrelay/laws.FnExactMaskOn", spec := "fnExactMaskOn", apart := false, narrowed := true }
def FnExactMaskOnUptoSaid : Prop := fnExactMaskOnUptoRow.holds Try.pinned (OpenSpec.upto fnExactMaskOnSpec)

/-- 'laws.FnStreamPart', WHERE WHAT IT READS IS OF BULK AT MOST 1048576: true; the input reads as it did. -/
def fnStreamPartUptoRow : OpenClaim := { program := "ytiiofcldblgmcaa", sum := "85eabfdea2ef354f8e49863a825ba76c3bd3eb685084503777f83a0181f2962b", func := "loop.example/mixrelay/laws.FnStreamPart", spec := "fnStreamPart", apart := false, narrowed := true }
def FnStreamPartUptoSaid : Prop := fnStreamPartUptoRow.holds Try.pinned (OpenSpec.upto fnStreamPartSpec)

/-- 'laws.FnMaskZero', WHERE WHAT IT READS IS OF BULK AT MOST 1048576: true; the input reads as it did. -/
def fnMaskZeroUptoRow : OpenClaim := { program := "ytiiofcldblgmcaa", sum := "85eabfdea2ef354f8e49863a825ba76c3bd3eb685084503777f83a0181f2962b", func := "loop.example/mixrelay/laws.FnMaskZero", spec := "fnMaskZero", apart := false, narrowed := true }
def FnMaskZeroUptoSaid : Prop := fnMaskZeroUptoRow.holds Try.pinned (OpenSpec.upto fnMaskZeroSpec)

/-- 'laws.FnStreamOther', WHERE WHAT IT READS IS OF BULK AT MOST 1048576: true; the input reads as it did. -/
def fnStreamOtherUptoRow : OpenClaim := { program := "ytiiofcldblgmcaa", sum := "85eabfdea2ef354f8e49863a825ba76c3bd3eb685084503777f83a0181f2962b", func := "loop.example/mixrelay/laws.FnStreamOther", spec := "fnStreamOther", apart := false, narrowed := true }
def FnStreamOtherUptoSaid : Prop := fnStreamOtherUptoRow.holds Try.pinned (OpenSpec.upto fnStreamOtherSpec)

/-- 'laws.FnExactLetterPack', WHERE WHAT IT READS IS OF BULK AT MOST 1048576: true; the input reads as it did. -/
def fnExactLetterPackUptoRow : OpenClaim := { program := "ytiiofcldblgmcaa", sum := "85eabfdea2ef354f8e49863a825ba76c3bd3eb685084503777f83a0181f2962b", func := "loop.example/mixrelay/laws.FnExactLetterPack", spec := "fnExactLetterPack", apart := false, narrowed := true }
def FnExactLetterPackUptoSaid : Prop := fnExactLetterPackUptoRow.holds Try.pinned (OpenSpec.upto fnExactLetterPackSpec)

/-- 'laws.FnTagEmpty', WHERE WHAT IT READS IS OF BULK AT MOST 1048576: true; the input reads as it did. -/
def fnTagEmptyUptoRow : OpenClaim := { program := "ytiiofcldblgmcaa", sum := "85eabfdea2ef354f8e49863a825ba76c3bd3eb685084503777f83a0181f2962b", func := "loop.example/mixrelay/laws.FnTagEmpty", spec := "fnTagEmpty", apart := false, narrowed := true }
def FnTagEmptyUptoSaid : Prop := fnTagEmptyUptoRow.holds Try.pinned (OpenSpec.upto fnTagEmptySpec)

/-- 'laws.FnTag', WHERE WHAT IT READS IS OF BULK AT MOST 1048576: true; the input reads as it did. -/
def fnTagUptoRow : OpenClaim := { program := "ytiiofcldblgmcaa", sum := "85eabfdea2ef354f8e49863a825ba76c3bd3eb685084503777f83a0181f2962b", func := "loop.example/mixrelay/laws.FnTag", spec := "fnTag", apart := false, narrowed := true }
def FnTagUptoSaid : Prop := fnTagUptoRow.holds Try.pinned (OpenSpec.upto fnTagSpec)

/-- 'laws.FnTagNext', WHERE WHAT IT READS IS OF BULK AT MOST 1048576: true; the input reads as it did. -/
def fnTagNextUptoRow : OpenClaim := { program := "ytiiofcldblgmcaa", sum := "85eabfdea2ef354f8e49863a825ba76c3bd3eb685084503777f83a0181f2962b", func := "loop.example/mixrelay/laws.FnTagNext", spec := "fnTagNext", apart := false, narrowed := true }
def FnTagNextUptoSaid : Prop := fnTagNextUptoRow.holds Try.pinned (OpenSpec.upto fnTagNextSpec)

/-- 'laws.FnTagChange', WHERE WHAT IT READS IS OF BULK AT MOST 1048576: true; the input reads as it did. -/
def fnTagChangeUptoRow : OpenClaim := { program := "ytiiofcldblgmcaa", sum := "85eabfdea2ef354f8e49863a825ba76c3bd3eb685084503777f83a0181f2962b", func := "loop.example/mixrelay/laws.FnTagChange", spec := "fnTagChange", apart := false, narrowed := true }
def FnTagChangeUptoSaid : Prop := fnTagChangeUptoRow.holds Try.pinned (OpenSpec.upto fnTagChangeSpec)

/-- 'laws.FnTagOther', WHERE WHAT IT READS IS OF BULK AT MOST 1048576: true; the input reads as it did. -/
def fnTagOtherUptoRow : OpenClaim := { program := "ytiiofcldblgmcaa", sum := "85eabfdea2ef354f8e49863a825ba76c3bd3eb685084503777f83a0181f2962b", func := "loop.example/mixrelay/laws.FnTagOther", spec := "fnTagOther", apart := false, narrowed := true }
def FnTagOtherUptoSaid : Prop := fnTagOtherUptoRow.holds Try.pinned (OpenSpec.upto fnTagOtherSpec)

/-- 'laws.FnLetterSize', WHERE WHAT IT READS IS OF BULK AT MOST 1048576: true; the input reads as it did. -/
def fnLetterSizeUptoRow : OpenClaim := { program := "ytiiofcldblgmcaa", sum := "85eabfdea2ef354f8e49863a825ba76c3bd3eb685084503777f83a0181f2962b", func := "loop.example/mixrelay/laws.FnLetterSize", spec := "fnLetterSize", apart := false, narrowed := true }
def FnLetterSizeUptoSaid : Prop := fnLetterSizeUptoRow.holds Try.pinned (OpenSpec.upto fnLetterSizeSpec)

/-- 'laws.FnLetterZeros', WHERE WHAT IT READS IS OF BULK AT MOST 1048576: true; the input reads as it did. -/
def fnLetterZerosUptoRow : OpenClaim := { program := "ytiiofcldblgmcaa", sum := "85eabfdea2ef354f8e49863a825ba76c3bd3eb685084503777f83a0181f2962b", func := "loop.example/mixrelay/laws.FnLetterZeros", spec := "fnLetterZeros", apart := false, narrowed := true }
def FnLetterZerosUptoSaid : Prop := fnLetterZerosUptoRow.holds Try.pinned (OpenSpec.upto fnLetterZerosSpec)

/-- 'laws.FnMask', WHERE WHAT IT READS IS OF BULK AT MOST 1048576: true; the input reads as it did. -/
def fnMaskUptoRow : OpenClaim := { program := "ytiiofcldblgmcaa", sum := "85eabfdea2ef354f8e49863a825ba76c3bd3eb685084503777f83a0181f2962b", func := "loop.example/mixrelay/laws.FnMask", spec := "fnMask", apart := false, narrowed := true }
def FnMaskUptoSaid : Prop := fnMaskUptoRow.holds Try.pinned (OpenSpec.upto fnMaskSpec)

/-- 'laws.FnMaskOne', WHERE WHAT IT READS IS OF BULK AT MOST 1048576: true; the input reads as it did. -/
def fnMaskOneUptoRow : OpenClaim := { program := "ytiiofcldblgmcaa", sum := "85eabfdea2ef354f8e49863a825ba76c3bd3eb685084503777f83a0181f2962b", func := "loop.example/mixrelay/laws.FnMaskOne", spec := "fnMaskOne", apart := false, narrowed := true }
def FnMaskOneUptoSaid : Prop := fnMaskOneUptoRow.holds Try.pinned (OpenSpec.upto fnMaskOneSpec)

/-- 'laws.FnMaskLength', WHERE WHAT IT READS IS OF BULK AT MOST 1048576: true; the input reads as it did. -/
def fnMaskLengthUptoRow : OpenClaim := { program := "ytiiofcldblgmcaa", sum := "85eabfdea2ef354f8e49863a825ba76c3bd3eb685084503777f83a0181f2962b", func := "loop.example/mixrelay/laws.FnMaskLength", spec := "fnMaskLength", apart := false, narrowed := true }
def FnMaskLengthUptoSaid : Prop := fnMaskLengthUptoRow.holds Try.pinned (OpenSpec.upto fnMaskLengthSpec)

/-- 'laws.FnMaskOrder', WHERE WHAT IT READS IS OF BULK AT MOST 1048576: true; the input reads as it did. -/
def fnMaskOrderUptoRow : OpenClaim := { program := "ytiiofcldblgmcaa", sum := "85eabfdea2ef354f8e49863a825ba76c3bd3eb685084503777f83a0181f2962b", func := "loop.example/mixrelay/laws.FnMaskOrder", spec := "fnMaskOrder", apart := false, narrowed := true }
def FnMaskOrderUptoSaid : Prop := fnMaskOrderUptoRow.holds Try.pinned (OpenSpec.upto fnMaskOrderSpec)

/-- 'laws.FnExactLetterOpen', WHERE WHAT IT READS IS OF BULK AT MOST 1048576: true; the input reads as it did. -/
def fnExactLetterOpenUptoRow : OpenClaim := { program := "ytiiofcldblgmcaa", sum := "85eabfdea2ef354f8e49863a825ba76c3bd3eb685084503777f83a0181f2962b", func := "loop.example/mixrelay/laws.FnExactLetterOpen", spec := "fnExactLetterOpen", apart := false, narrowed := true }
def FnExactLetterOpenUptoSaid : Prop := fnExactLetterOpenUptoRow.holds Try.pinned (OpenSpec.upto fnExactLetterOpenSpec)

/-- 'laws.FnLetter', WHERE WHAT IT READS IS OF BULK AT MOST 1048576: true; the input reads as it did. -/
def fnLetterUptoRow : OpenClaim := { program := "ytiiofcldblgmcaa", sum := "85eabfdea2ef354f8e49863a825ba76c3bd3eb685084503777f83a0181f2962b", func := "loop.example/mixrelay/laws.FnLetter", spec := "fnLetter", apart := false, narrowed := true }
def FnLetterUptoSaid : Prop := fnLetterUptoRow.holds Try.pinned (OpenSpec.upto fnLetterSpec)

/-- 'laws.FnLetterChange', WHERE WHAT IT READS IS OF BULK AT MOST 1048576: true; the input reads as it did. -/
def fnLetterChangeUptoRow : OpenClaim := { program := "ytiiofcldblgmcaa", sum := "85eabfdea2ef354f8e49863a825ba76c3bd3eb685084503777f83a0181f2962b", func := "loop.example/mixrelay/laws.FnLetterChange", spec := "fnLetterChange", apart := false, narrowed := true }
def FnLetterChangeUptoSaid : Prop := fnLetterChangeUptoRow.holds Try.pinned (OpenSpec.upto fnLetterChangeSpec)

/-- 'laws.FnLetterBack', WHERE WHAT IT READS IS OF BULK AT MOST 1048576: true; the input reads as it did. -/
def fnLetterBackUptoRow : OpenClaim := { program := "ytiiofcldblgmcaa", sum := "85eabfdea2ef354f8e49863a825ba76c3bd3eb685084503777f83a0181f2962b", func := "loop.example/mixrelay/laws.FnLetterBack", spec := "fnLetterBack", apart := false, narrowed := true }
def FnLetterBackUptoSaid : Prop := fnLetterBackUptoRow.holds Try.pinned (OpenSpec.upto fnLetterBackSpec)

end Rows
end Go.Proofs.Ytiiofcldblgmcaa
