/-
  No cell of these rows narrows 'for every input' (looked for: loops, veiled, ifaces, maps, wideKeys, modest, calm, conditions, laid).
  DERIVED. THE GIVEN ROWS OF THIS SEAT. 25 by the template 'for every input the law returns true; each argument reads behind the call as it read before'; 0 by the template 'total and deterministic' (their statements: YtalnilighempmaaTotals.lean).
  GIVEN WITH THE SEED: the statements are not yours to turn. If you find one false, say at which input.
  Laid BY PROGRAM, IN A SANDBOX (cutbox-rows.mjs): the forced cells as the released guide's own fill.sh prints them over the translation 3dcbaf08498f34ac… (all of the seat's roots in one cut). By AI agents, Wed Nov 11 2026. No macro, syntax, notation, axiom, sorry.
-/
import Derived.Test.YtalnilighempmaaChecked
import GoSem.Claim
import GoSem.ClaimJoined
import GoSem.ClaimMapViews
import Derived.JoinedTies
import Derived.KernelRfl
namespace Go.Proofs.Ytalnilighempmaa
/- THE CELL 'sum', in the pinned program and in every row, IS THE sha256 OF THE DUMP (.gsa) THAT YtalnilighempmaaProg.lean LOADS. Nothing in Lean hashes anything: it is a label: what it is worth is what the hold of that sum in a sandbox is worth. -/
noncomputable def Try.pinned : Pinned := { name := "ytalnilighempmaa", sum := "3dcbaf08498f34acf346528705b97de98ebea179ad46cd78c807fd45cc88efb3", checked := Try.checked }
namespace Rows
def none {H : Type} : Left H := { results := [], args := [] }

/-- 'laws.FnPacketWay': WHATEVER THE INPUT: true; the input reads as it did. -/
def fnPacketWaySpec : ChangeSpec := { name := "fnPacketWay", fn := fun _ => fun
  | [d1, d2] => { results := [.lit (.bool true)], args := [d1, d2] }
  | _ => none }
def fnPacketWayRow : OpenClaim := { program := "ytalnilighempmaa", sum := "3dcbaf08498f34acf346528705b97de98ebea179ad46cd78c807fd45cc88efb3", func := "loop.example/mixrelay/laws.FnPacketWay", spec := "fnPacketWay", apart := false }
def FnPacketWaySaid : Prop := fnPacketWayRow.holds Try.pinned (OpenSpec.ofChange fnPacketWaySpec)

/-- ITS FALSE NEIGHBOUR: 'it returns false'. Refute it at one input. -/
def fnPacketWayWrong : ChangeSpec := { name := "fnPacketWay", fn := fun _ => fun
  | [d1, d2] => { results := [.lit (.bool false)], args := [d1, d2] }
  | _ => none }
def FnPacketWayWrongFalsely : Prop := fnPacketWayRow.holds Try.pinned (OpenSpec.ofChange fnPacketWayWrong)

/-- 'laws.FnEpoch': WHATEVER THE INPUT: true; the input reads as it did. -/
def fnEpochSpec : ChangeSpec := { name := "fnEpoch", fn := fun _ => fun
  | [d] => { results := [.lit (.bool true)], args := [d] }
  | _ => none }
def fnEpochRow : OpenClaim := { program := "ytalnilighempmaa", sum := "3dcbaf08498f34acf346528705b97de98ebea179ad46cd78c807fd45cc88efb3", func := "loop.example/mixrelay/laws.FnEpoch", spec := "fnEpoch", apart := false }
def FnEpochSaid : Prop := fnEpochRow.holds Try.pinned (OpenSpec.ofChange fnEpochSpec)

/-- ITS FALSE NEIGHBOUR: 'it returns false'. Refute it at one input. -/
def fnEpochWrong : ChangeSpec := { name := "fnEpoch", fn := fun _ => fun
  | [d] => { results := [.lit (.bool false)], args := [d] }
  | _ => none }
def FnEpochWrongFalsely : Prop := fnEpochRow.holds Try.pinned (OpenSpec.ofChange fnEpochWrong)

/-- 'laws.FnExactPacketValid': WHATEVER THE INPUT: true; the input reads as it did. -/
def fnExactPacketValidSpec : ChangeSpec := { name := "fnExactPacketValid", fn := fun _ => fun
  | [d] => { results := [.lit (.bool true)], args := [d] }
  | _ => none }
def fnExactPacketValidRow : OpenClaim := { program := "ytalnilighempmaa", sum := "3dcbaf08498f34acf346528705b97de98ebea179ad46cd78c807fd45cc88efb3", func := "loop.example/mixrelay/laws.FnExactPacketValid", spec := "fnExactPacketValid", apart := false }
def FnExactPacketValidSaid : Prop := fnExactPacketValidRow.holds Try.pinned (OpenSpec.ofChange fnExactPacketValidSpec)

/-- ITS FALSE NEIGHBOUR: 'it returns false'. Refute it at one input. -/
def fnExactPacketValidWrong : ChangeSpec := { name := "fnExactPacketValid", fn := fun _ => fun
  | [d] => { results := [.lit (.bool false)], args := [d] }
  | _ => none }
def FnExactPacketValidWrongFalsely : Prop := fnExactPacketValidRow.holds Try.pinned (OpenSpec.ofChange fnExactPacketValidWrong)

/-- 'laws.FnEpochSame': WHATEVER THE INPUT: true; the input reads as it did. -/
def fnEpochSameSpec : ChangeSpec := { name := "fnEpochSame", fn := fun _ => fun
  | [d] => { results := [.lit (.bool true)], args := [d] }
  | _ => none }
def fnEpochSameRow : OpenClaim := { program := "ytalnilighempmaa", sum := "3dcbaf08498f34acf346528705b97de98ebea179ad46cd78c807fd45cc88efb3", func := "loop.example/mixrelay/laws.FnEpochSame", spec := "fnEpochSame", apart := false }
def FnEpochSameSaid : Prop := fnEpochSameRow.holds Try.pinned (OpenSpec.ofChange fnEpochSameSpec)

/-- ITS FALSE NEIGHBOUR: 'it returns false'. Refute it at one input. -/
def fnEpochSameWrong : ChangeSpec := { name := "fnEpochSame", fn := fun _ => fun
  | [d] => { results := [.lit (.bool false)], args := [d] }
  | _ => none }
def FnEpochSameWrongFalsely : Prop := fnEpochSameRow.holds Try.pinned (OpenSpec.ofChange fnEpochSameWrong)

/-- 'laws.FnExactPathKeys': WHATEVER THE INPUT: true; the input reads as it did. -/
def fnExactPathKeysSpec : ChangeSpec := { name := "fnExactPathKeys", fn := fun _ => fun
  | [d1, d2] => { results := [.lit (.bool true)], args := [d1, d2] }
  | _ => none }
def fnExactPathKeysRow : OpenClaim := { program := "ytalnilighempmaa", sum := "3dcbaf08498f34acf346528705b97de98ebea179ad46cd78c807fd45cc88efb3", func := "loop.example/mixrelay/laws.FnExactPathKeys", spec := "fnExactPathKeys", apart := false }
def FnExactPathKeysSaid : Prop := fnExactPathKeysRow.holds Try.pinned (OpenSpec.ofChange fnExactPathKeysSpec)

/-- ITS FALSE NEIGHBOUR: 'it returns false'. Refute it at one input. -/
def fnExactPathKeysWrong : ChangeSpec := { name := "fnExactPathKeys", fn := fun _ => fun
  | [d1, d2] => { results := [.lit (.bool false)], args := [d1, d2] }
  | _ => none }
def FnExactPathKeysWrongFalsely : Prop := fnExactPathKeysRow.holds Try.pinned (OpenSpec.ofChange fnExactPathKeysWrong)

/-- 'laws.FnMixNew': WHATEVER THE INPUT: true; the input reads as it did. -/
def fnMixNewSpec : ChangeSpec := { name := "fnMixNew", fn := fun _ => fun
  | [d] => { results := [.lit (.bool true)], args := [d] }
  | _ => none }
def fnMixNewRow : OpenClaim := { program := "ytalnilighempmaa", sum := "3dcbaf08498f34acf346528705b97de98ebea179ad46cd78c807fd45cc88efb3", func := "loop.example/mixrelay/laws.FnMixNew", spec := "fnMixNew", apart := false }
def FnMixNewSaid : Prop := fnMixNewRow.holds Try.pinned (OpenSpec.ofChange fnMixNewSpec)

/-- ITS FALSE NEIGHBOUR: 'it returns false'. Refute it at one input. -/
def fnMixNewWrong : ChangeSpec := { name := "fnMixNew", fn := fun _ => fun
  | [d] => { results := [.lit (.bool false)], args := [d] }
  | _ => none }
def FnMixNewWrongFalsely : Prop := fnMixNewRow.holds Try.pinned (OpenSpec.ofChange fnMixNewWrong)

/-- 'laws.FnKeys': WHATEVER THE INPUT: true; the input reads as it did. -/
def fnKeysSpec : ChangeSpec := { name := "fnKeys", fn := fun _ => fun
  | [d] => { results := [.lit (.bool true)], args := [d] }
  | _ => none }
def fnKeysRow : OpenClaim := { program := "ytalnilighempmaa", sum := "3dcbaf08498f34acf346528705b97de98ebea179ad46cd78c807fd45cc88efb3", func := "loop.example/mixrelay/laws.FnKeys", spec := "fnKeys", apart := false }
def FnKeysSaid : Prop := fnKeysRow.holds Try.pinned (OpenSpec.ofChange fnKeysSpec)

/-- ITS FALSE NEIGHBOUR: 'it returns false'. Refute it at one input. -/
def fnKeysWrong : ChangeSpec := { name := "fnKeys", fn := fun _ => fun
  | [d] => { results := [.lit (.bool false)], args := [d] }
  | _ => none }
def FnKeysWrongFalsely : Prop := fnKeysRow.holds Try.pinned (OpenSpec.ofChange fnKeysWrong)

/-- 'laws.FnKeysPart': WHATEVER THE INPUT: true; the input reads as it did. -/
def fnKeysPartSpec : ChangeSpec := { name := "fnKeysPart", fn := fun _ => fun
  | [d1, d2] => { results := [.lit (.bool true)], args := [d1, d2] }
  | _ => none }
def fnKeysPartRow : OpenClaim := { program := "ytalnilighempmaa", sum := "3dcbaf08498f34acf346528705b97de98ebea179ad46cd78c807fd45cc88efb3", func := "loop.example/mixrelay/laws.FnKeysPart", spec := "fnKeysPart", apart := false }
def FnKeysPartSaid : Prop := fnKeysPartRow.holds Try.pinned (OpenSpec.ofChange fnKeysPartSpec)

/-- ITS FALSE NEIGHBOUR: 'it returns false'. Refute it at one input. -/
def fnKeysPartWrong : ChangeSpec := { name := "fnKeysPart", fn := fun _ => fun
  | [d1, d2] => { results := [.lit (.bool false)], args := [d1, d2] }
  | _ => none }
def FnKeysPartWrongFalsely : Prop := fnKeysPartRow.holds Try.pinned (OpenSpec.ofChange fnKeysPartWrong)

/-- 'laws.FnExactMixNew': WHATEVER THE INPUT: true; the input reads as it did. -/
def fnExactMixNewSpec : ChangeSpec := { name := "fnExactMixNew", fn := fun _ => fun
  | [d] => { results := [.lit (.bool true)], args := [d] }
  | _ => none }
def fnExactMixNewRow : OpenClaim := { program := "ytalnilighempmaa", sum := "3dcbaf08498f34acf346528705b97de98ebea179ad46cd78c807fd45cc88efb3", func := "loop.example/mixrelay/laws.FnExactMixNew", spec := "fnExactMixNew", apart := false }
def FnExactMixNewSaid : Prop := fnExactMixNewRow.holds Try.pinned (OpenSpec.ofChange fnExactMixNewSpec)

/-- ITS FALSE NEIGHBOUR: 'it returns false'. Refute it at one input. -/
def fnExactMixNewWrong : ChangeSpec := { name := "fnExactMixNew", fn := fun _ => fun
  | [d] => { results := [.lit (.bool false)], args := [d] }
  | _ => none }
def FnExactMixNewWrongFalsely : Prop := fnExactMixNewRow.holds Try.pinned (OpenSpec.ofChange fnExactMixNewWrong)

/-- 'laws.FnExactMixValid': WHATEVER THE INPUT: true; the input reads as it did. -/
def fnExactMixValidSpec : ChangeSpec := { name := "fnExactMixValid", fn := fun _ => fun
  | [d] => { results := [.lit (.bool true)], args := [d] }
  | _ => none }
def fnExactMixValidRow : OpenClaim := { program := "ytalnilighempmaa", sum := "3dcbaf08498f34acf346528705b97de98ebea179ad46cd78c807fd45cc88efb3", func := "loop.example/mixrelay/laws.FnExactMixValid", spec := "fnExactMixValid", apart := false }
def FnExactMixValidSaid : Prop := fnExactMixValidRow.holds Try.pinned (OpenSpec.ofChange fnExactMixValidSpec)

/-- ITS FALSE NEIGHBOUR: 'it returns false'. Refute it at one input. -/
def fnExactMixValidWrong : ChangeSpec := { name := "fnExactMixValid", fn := fun _ => fun
  | [d] => { results := [.lit (.bool false)], args := [d] }
  | _ => none }
def FnExactMixValidWrongFalsely : Prop := fnExactMixValidRow.holds Try.pinned (OpenSpec.ofChange fnExactMixValidWrong)

/-- 'laws.FnExactPacketPeel': WHATEVER THE INPUT: true; the input reads as it did. -/
def fnExactPacketPeelSpec : ChangeSpec := { name := "fnExactPacketPeel", fn := fun _ => fun
  | [d1, d2] => { results := [.lit (.bool true)], args := [d1, d2] }
  | _ => none }
def fnExactPacketPeelRow : OpenClaim := { program := "ytalnilighempmaa", sum := "3dcbaf08498f34acf346528705b97de98ebea179ad46cd78c807fd45cc88efb3", func := "loop.example/mixrelay/laws.FnExactPacketPeel", spec := "fnExactPacketPeel", apart := false }
def FnExactPacketPeelSaid : Prop := fnExactPacketPeelRow.holds Try.pinned (OpenSpec.ofChange fnExactPacketPeelSpec)

/-- ITS FALSE NEIGHBOUR: 'it returns false'. Refute it at one input. -/
def fnExactPacketPeelWrong : ChangeSpec := { name := "fnExactPacketPeel", fn := fun _ => fun
  | [d1, d2] => { results := [.lit (.bool false)], args := [d1, d2] }
  | _ => none }
def FnExactPacketPeelWrongFalsely : Prop := fnExactPacketPeelRow.holds Try.pinned (OpenSpec.ofChange fnExactPacketPeelWrong)

/-- 'laws.FnExactPacketMake': WHATEVER THE INPUT: true; the input reads as it did. -/
def fnExactPacketMakeSpec : ChangeSpec := { name := "fnExactPacketMake", fn := fun _ => fun
  | [d1, d2, d3, d4, d5] => { results := [.lit (.bool true)], args := [d1, d2, d3, d4, d5] }
  | _ => none }
def fnExactPacketMakeRow : OpenClaim := { program := "ytalnilighempmaa", sum := "3dcbaf08498f34acf346528705b97de98ebea179ad46cd78c807fd45cc88efb3", func := "loop.example/mixrelay/laws.FnExactPacketMake", spec := "fnExactPacketMake", apart := false }
def FnExactPacketMakeSaid : Prop := fnExactPacketMakeRow.holds Try.pinned (OpenSpec.ofChange fnExactPacketMakeSpec)

/-- ITS FALSE NEIGHBOUR: 'it returns false'. Refute it at one input. -/
def fnExactPacketMakeWrong : ChangeSpec := { name := "fnExactPacketMake", fn := fun _ => fun
  | [d1, d2, d3, d4, d5] => { results := [.lit (.bool false)], args := [d1, d2, d3, d4, d5] }
  | _ => none }
def FnExactPacketMakeWrongFalsely : Prop := fnExactPacketMakeRow.holds Try.pinned (OpenSpec.ofChange fnExactPacketMakeWrong)

/-- 'laws.FnPeelBody': WHATEVER THE INPUT: true; the input reads as it did. -/
def fnPeelBodySpec : ChangeSpec := { name := "fnPeelBody", fn := fun _ => fun
  | [d] => { results := [.lit (.bool true)], args := [d] }
  | _ => none }
def fnPeelBodyRow : OpenClaim := { program := "ytalnilighempmaa", sum := "3dcbaf08498f34acf346528705b97de98ebea179ad46cd78c807fd45cc88efb3", func := "loop.example/mixrelay/laws.FnPeelBody", spec := "fnPeelBody", apart := false }
def FnPeelBodySaid : Prop := fnPeelBodyRow.holds Try.pinned (OpenSpec.ofChange fnPeelBodySpec)

/-- ITS FALSE NEIGHBOUR: 'it returns false'. Refute it at one input. -/
def fnPeelBodyWrong : ChangeSpec := { name := "fnPeelBody", fn := fun _ => fun
  | [d] => { results := [.lit (.bool false)], args := [d] }
  | _ => none }
def FnPeelBodyWrongFalsely : Prop := fnPeelBodyRow.holds Try.pinned (OpenSpec.ofChange fnPeelBodyWrong)

/-- 'laws.FnPeelElement': WHATEVER THE INPUT: true; the input reads as it did. -/
def fnPeelElementSpec : ChangeSpec := { name := "fnPeelElement", fn := fun _ => fun
  | [d] => { results := [.lit (.bool true)], args := [d] }
  | _ => none }
def fnPeelElementRow : OpenClaim := { program := "ytalnilighempmaa", sum := "3dcbaf08498f34acf346528705b97de98ebea179ad46cd78c807fd45cc88efb3", func := "loop.example/mixrelay/laws.FnPeelElement", spec := "fnPeelElement", apart := false }
def FnPeelElementSaid : Prop := fnPeelElementRow.holds Try.pinned (OpenSpec.ofChange fnPeelElementSpec)

/-- ITS FALSE NEIGHBOUR: 'it returns false'. Refute it at one input. -/
def fnPeelElementWrong : ChangeSpec := { name := "fnPeelElement", fn := fun _ => fun
  | [d] => { results := [.lit (.bool false)], args := [d] }
  | _ => none }
def FnPeelElementWrongFalsely : Prop := fnPeelElementRow.holds Try.pinned (OpenSpec.ofChange fnPeelElementWrong)

/-- 'laws.FnPeelInfo': WHATEVER THE INPUT: true; the input reads as it did. -/
def fnPeelInfoSpec : ChangeSpec := { name := "fnPeelInfo", fn := fun _ => fun
  | [d] => { results := [.lit (.bool true)], args := [d] }
  | _ => none }
def fnPeelInfoRow : OpenClaim := { program := "ytalnilighempmaa", sum := "3dcbaf08498f34acf346528705b97de98ebea179ad46cd78c807fd45cc88efb3", func := "loop.example/mixrelay/laws.FnPeelInfo", spec := "fnPeelInfo", apart := false }
def FnPeelInfoSaid : Prop := fnPeelInfoRow.holds Try.pinned (OpenSpec.ofChange fnPeelInfoSpec)

/-- ITS FALSE NEIGHBOUR: 'it returns false'. Refute it at one input. -/
def fnPeelInfoWrong : ChangeSpec := { name := "fnPeelInfo", fn := fun _ => fun
  | [d] => { results := [.lit (.bool false)], args := [d] }
  | _ => none }
def FnPeelInfoWrongFalsely : Prop := fnPeelInfoRow.holds Try.pinned (OpenSpec.ofChange fnPeelInfoWrong)

/-- 'laws.FnPeelOther': WHATEVER THE INPUT: true; the input reads as it did. -/
def fnPeelOtherSpec : ChangeSpec := { name := "fnPeelOther", fn := fun _ => fun
  | [d] => { results := [.lit (.bool true)], args := [d] }
  | _ => none }
def fnPeelOtherRow : OpenClaim := { program := "ytalnilighempmaa", sum := "3dcbaf08498f34acf346528705b97de98ebea179ad46cd78c807fd45cc88efb3", func := "loop.example/mixrelay/laws.FnPeelOther", spec := "fnPeelOther", apart := false }
def FnPeelOtherSaid : Prop := fnPeelOtherRow.holds Try.pinned (OpenSpec.ofChange fnPeelOtherSpec)

/-- ITS FALSE NEIGHBOUR: 'it returns false'. Refute it at one input. -/
def fnPeelOtherWrong : ChangeSpec := { name := "fnPeelOther", fn := fun _ => fun
  | [d] => { results := [.lit (.bool false)], args := [d] }
  | _ => none }
def FnPeelOtherWrongFalsely : Prop := fnPeelOtherRow.holds Try.pinned (OpenSpec.ofChange fnPeelOtherWrong)

/-- 'laws.FnPeelTwice': WHATEVER THE INPUT: true; the input reads as it did. -/
def fnPeelTwiceSpec : ChangeSpec := { name := "fnPeelTwice", fn := fun _ => fun
  | [d] => { results := [.lit (.bool true)], args := [d] }
  | _ => none }
def fnPeelTwiceRow : OpenClaim := { program := "ytalnilighempmaa", sum := "3dcbaf08498f34acf346528705b97de98ebea179ad46cd78c807fd45cc88efb3", func := "loop.example/mixrelay/laws.FnPeelTwice", spec := "fnPeelTwice", apart := false }
def FnPeelTwiceSaid : Prop := fnPeelTwiceRow.holds Try.pinned (OpenSpec.ofChange fnPeelTwiceSpec)

/-- ITS FALSE NEIGHBOUR: 'it returns false'. Refute it at one input. -/
def fnPeelTwiceWrong : ChangeSpec := { name := "fnPeelTwice", fn := fun _ => fun
  | [d] => { results := [.lit (.bool false)], args := [d] }
  | _ => none }
def FnPeelTwiceWrongFalsely : Prop := fnPeelTwiceRow.holds Try.pinned (OpenSpec.ofChange fnPeelTwiceWrong)

/-- 'laws.FnPeelBodyFree': WHATEVER THE INPUT: true; the input reads as it did. -/
def fnPeelBodyFreeSpec : ChangeSpec := { name := "fnPeelBodyFree", fn := fun _ => fun
  | [d1, d2] => { results := [.lit (.bool true)], args := [d1, d2] }
  | _ => none }
def fnPeelBodyFreeRow : OpenClaim := { program := "ytalnilighempmaa", sum := "3dcbaf08498f34acf346528705b97de98ebea179ad46cd78c807fd45cc88efb3", func := "loop.example/mixrelay/laws.FnPeelBodyFree", spec := "fnPeelBodyFree", apart := false }
def FnPeelBodyFreeSaid : Prop := fnPeelBodyFreeRow.holds Try.pinned (OpenSpec.ofChange fnPeelBodyFreeSpec)

/-- ITS FALSE NEIGHBOUR: 'it returns false'. Refute it at one input. -/
def fnPeelBodyFreeWrong : ChangeSpec := { name := "fnPeelBodyFree", fn := fun _ => fun
  | [d1, d2] => { results := [.lit (.bool false)], args := [d1, d2] }
  | _ => none }
def FnPeelBodyFreeWrongFalsely : Prop := fnPeelBodyFreeRow.holds Try.pinned (OpenSpec.ofChange fnPeelBodyFreeWrong)

/-- 'laws.FnPeelHeader': WHATEVER THE INPUT: true; the input reads as it did. -/
def fnPeelHeaderSpec : ChangeSpec := { name := "fnPeelHeader", fn := fun _ => fun
  | [d1, d2] => { results := [.lit (.bool true)], args := [d1, d2] }
  | _ => none }
def fnPeelHeaderRow : OpenClaim := { program := "ytalnilighempmaa", sum := "3dcbaf08498f34acf346528705b97de98ebea179ad46cd78c807fd45cc88efb3", func := "loop.example/mixrelay/laws.FnPeelHeader", spec := "fnPeelHeader", apart := false }
def FnPeelHeaderSaid : Prop := fnPeelHeaderRow.holds Try.pinned (OpenSpec.ofChange fnPeelHeaderSpec)

/-- ITS FALSE NEIGHBOUR: 'it returns false'. Refute it at one input. -/
def fnPeelHeaderWrong : ChangeSpec := { name := "fnPeelHeader", fn := fun _ => fun
  | [d1, d2] => { results := [.lit (.bool false)], args := [d1, d2] }
  | _ => none }
def FnPeelHeaderWrongFalsely : Prop := fnPeelHeaderRow.holds Try.pinned (OpenSpec.ofChange fnPeelHeaderWrong)

/-- 'laws.FnPacketLetter': WHATEVER THE INPUT: true; the input reads as it did. -/
def fnPacketLetterSpec : ChangeSpec := { name := "fnPacketLetter", fn := fun _ => fun
  | [d1, d2] => { results := [.lit (.bool true)], args := [d1, d2] }
  | _ => none }
def fnPacketLetterRow : OpenClaim := { program := "ytalnilighempmaa", sum := "3dcbaf08498f34acf346528705b97de98ebea179ad46cd78c807fd45cc88efb3", func := "loop.example/mixrelay/laws.FnPacketLetter", spec := "fnPacketLetter", apart := false }
def FnPacketLetterSaid : Prop := fnPacketLetterRow.holds Try.pinned (OpenSpec.ofChange fnPacketLetterSpec)

/-- ITS FALSE NEIGHBOUR: 'it returns false'. Refute it at one input. -/
def fnPacketLetterWrong : ChangeSpec := { name := "fnPacketLetter", fn := fun _ => fun
  | [d1, d2] => { results := [.lit (.bool false)], args := [d1, d2] }
  | _ => none }
def FnPacketLetterWrongFalsely : Prop := fnPacketLetterRow.holds Try.pinned (OpenSpec.ofChange fnPacketLetterWrong)

/-- 'laws.FnPacketSecret': WHATEVER THE INPUT: true; the input reads as it did. -/
def fnPacketSecretSpec : ChangeSpec := { name := "fnPacketSecret", fn := fun _ => fun
  | [d1, d2] => { results := [.lit (.bool true)], args := [d1, d2] }
  | _ => none }
def fnPacketSecretRow : OpenClaim := { program := "ytalnilighempmaa", sum := "3dcbaf08498f34acf346528705b97de98ebea179ad46cd78c807fd45cc88efb3", func := "loop.example/mixrelay/laws.FnPacketSecret", spec := "fnPacketSecret", apart := false }
def FnPacketSecretSaid : Prop := fnPacketSecretRow.holds Try.pinned (OpenSpec.ofChange fnPacketSecretSpec)

/-- ITS FALSE NEIGHBOUR: 'it returns false'. Refute it at one input. -/
def fnPacketSecretWrong : ChangeSpec := { name := "fnPacketSecret", fn := fun _ => fun
  | [d1, d2] => { results := [.lit (.bool false)], args := [d1, d2] }
  | _ => none }
def FnPacketSecretWrongFalsely : Prop := fnPacketSecretRow.holds Try.pinned (OpenSpec.ofChange fnPacketSecretWrong)

/-- 'laws.FnPacket': WHATEVER THE INPUT: true; the input reads as it did. -/
def fnPacketSpec : ChangeSpec := { name := "fnPacket", fn := fun _ => fun
  | [d] => { results := [.lit (.bool true)], args := [d] }
  | _ => none }
def fnPacketRow : OpenClaim := { program := "ytalnilighempmaa", sum := "3dcbaf08498f34acf346528705b97de98ebea179ad46cd78c807fd45cc88efb3", func := "loop.example/mixrelay/laws.FnPacket", spec := "fnPacket", apart := false }
def FnPacketSaid : Prop := fnPacketRow.holds Try.pinned (OpenSpec.ofChange fnPacketSpec)

/-- ITS FALSE NEIGHBOUR: 'it returns false'. Refute it at one input. -/
def fnPacketWrong : ChangeSpec := { name := "fnPacket", fn := fun _ => fun
  | [d] => { results := [.lit (.bool false)], args := [d] }
  | _ => none }
def FnPacketWrongFalsely : Prop := fnPacketRow.holds Try.pinned (OpenSpec.ofChange fnPacketWrong)

/-- 'laws.FnPacketHidden': WHATEVER THE INPUT: true; the input reads as it did. -/
def fnPacketHiddenSpec : ChangeSpec := { name := "fnPacketHidden", fn := fun _ => fun
  | [d1, d2] => { results := [.lit (.bool true)], args := [d1, d2] }
  | _ => none }
def fnPacketHiddenRow : OpenClaim := { program := "ytalnilighempmaa", sum := "3dcbaf08498f34acf346528705b97de98ebea179ad46cd78c807fd45cc88efb3", func := "loop.example/mixrelay/laws.FnPacketHidden", spec := "fnPacketHidden", apart := false }
def FnPacketHiddenSaid : Prop := fnPacketHiddenRow.holds Try.pinned (OpenSpec.ofChange fnPacketHiddenSpec)

/-- ITS FALSE NEIGHBOUR: 'it returns false'. Refute it at one input. -/
def fnPacketHiddenWrong : ChangeSpec := { name := "fnPacketHidden", fn := fun _ => fun
  | [d1, d2] => { results := [.lit (.bool false)], args := [d1, d2] }
  | _ => none }
def FnPacketHiddenWrongFalsely : Prop := fnPacketHiddenRow.holds Try.pinned (OpenSpec.ofChange fnPacketHiddenWrong)

/-- 'laws.FnExactMixEpoch': WHATEVER THE INPUT: true; the input reads as it did. -/
def fnExactMixEpochSpec : ChangeSpec := { name := "fnExactMixEpoch", fn := fun _ => fun
  | [d1, d2] => { results := [.lit (.bool true)], args := [d1, d2] }
  | _ => none }
def fnExactMixEpochRow : OpenClaim := { program := "ytalnilighempmaa", sum := "3dcbaf08498f34acf346528705b97de98ebea179ad46cd78c807fd45cc88efb3", func := "loop.example/mixrelay/laws.FnExactMixEpoch", spec := "fnExactMixEpoch", apart := false }
def FnExactMixEpochSaid : Prop := fnExactMixEpochRow.holds Try.pinned (OpenSpec.ofChange fnExactMixEpochSpec)

/-- ITS FALSE NEIGHBOUR: 'it returns false'. Refute it at one input. -/
def fnExactMixEpochWrong : ChangeSpec := { name := "fnExactMixEpoch", fn := fun _ => fun
  | [d1, d2] => { results := [.lit (.bool false)], args := [d1, d2] }
  | _ => none }
def FnExactMixEpochWrongFalsely : Prop := fnExactMixEpochRow.holds Try.pinned (OpenSpec.ofChange fnExactMixEpochWrong)

/-- 'laws.FnPacketSize': WHATEVER THE INPUT: true; the input reads as it did. -/
def fnPacketSizeSpec : ChangeSpec := { name := "fnPacketSize", fn := fun _ => fun
  | [d1, d2] => { results := [.lit (.bool true)], args := [d1, d2] }
  | _ => none }
def fnPacketSizeRow : OpenClaim := { program := "ytalnilighempmaa", sum := "3dcbaf08498f34acf346528705b97de98ebea179ad46cd78c807fd45cc88efb3", func := "loop.example/mixrelay/laws.FnPacketSize", spec := "fnPacketSize", apart := false }
def FnPacketSizeSaid : Prop := fnPacketSizeRow.holds Try.pinned (OpenSpec.ofChange fnPacketSizeSpec)

/-- ITS FALSE NEIGHBOUR: 'it returns false'. Refute it at one input. -/
def fnPacketSizeWrong : ChangeSpec := { name := "fnPacketSize", fn := fun _ => fun
  | [d1, d2] => { results := [.lit (.bool false)], args := [d1, d2] }
  | _ => none }
def FnPacketSizeWrongFalsely : Prop := fnPacketSizeRow.holds Try.pinned (OpenSpec.ofChange fnPacketSizeWrong)

/- THE SECOND FORM. 'bulk': how many values and letters a reading holds, each counted each time it is reached (what is shared counts as often as it is met; a slice's spare places count too). A statement '..UptoSaid' is the law's where the arguments, and the package variables that the reading takes, are together of bulk at most 1048576: NARROWER than '..Said'. Prove '..Said' where nothing that the law and all that it calls make is longer than what came in: it says more and counts as full. Else prove '..UptoSaid'. A law counts once. -/
mutual
def uptoBulk {H : Type} : DataW H → Nat
  | .lit (.string bytes) => bytes.length + 1
  | .lit _ => 1
  | .nil => 1
  | .ptr d => uptoBulk d + 1
  | .slice elems spare => uptoBulkAll elems + uptoBulkAll spare + 1
  | .agg parts => uptoBulkAll parts + 1
  | .iface _ d => uptoBulk d + 1
  | .map entries => uptoBulkEntries entries + 1
  | .held _ => 1
def uptoBulkAll {H : Type} : List (DataW H) → Nat
  | [] => 0
  | d :: r => uptoBulk d + uptoBulkAll r
def uptoBulkEntries {H : Type} : List (Lit × DataW H) → Nat
  | [] => 0
  | x :: r => uptoBulkEntry x + uptoBulkEntries r
def uptoBulkEntry {H : Type} : Lit × DataW H → Nat
  | (.string bytes, d) => bytes.length + uptoBulk d + 1
  | (_, d) => uptoBulk d + 1
 end
def uptoSmall : (H : Type) → List (DataW H) → Bool := fun _ ds => decide (uptoBulkAll ds ≤ 1048576)
def OpenSpec.upto (s : _root_.Go.ChangeSpec) : _root_.Go.OpenSpec := { _root_.Go.OpenSpec.ofChange s with cond := some uptoSmall }

/-- 'laws.FnPacketWay', WHERE WHAT IT READS IS OF BULK AT MOST 1048576: true; the input reads as it did. -/
def fnPacketWayUptoRow : OpenClaim := { program := "ytalnilighempmaa", sum := "3dcbaf08498f34acf346528705b97de98ebea179ad46cd78c807fd45cc88efb3", func := "loop.example/mixrelay/laws.FnPacketWay", spec := "fnPacketWay", apart := false, narrowed := true }
def FnPacketWayUptoSaid : Prop := fnPacketWayUptoRow.holds Try.pinned (OpenSpec.upto fnPacketWaySpec)

/-- 'laws.FnEpoch', WHERE WHAT IT READS IS OF BULK AT MOST 1048576: true; the input reads as it did. -/
def fnEpochUptoRow : OpenClaim := { program := "ytalnilighempmaa", sum := "3dcbaf08498f34acf346528705b97de98ebea179ad46cd78c807fd45cc88efb3", func := "loop.example/mixrelay/laws.FnEpoch", spec := "fnEpoch", apart := false, narrowed := true }
def FnEpochUptoSaid : Prop := fnEpochUptoRow.holds Try.pinned (OpenSpec.upto fnEpochSpec)

/-- 'laws.FnExactPacketValid', WHERE WHAT IT READS IS OF BULK AT MOST 1048576: true; the input reads as it did. -/
def fnExactPacketValidUptoRow : OpenClaim := { program := "ytalnilighempmaa", sum := "3dcbaf08498f34acf346528705b97de98ebea179ad46cd78c807fd45cc88efb3", func := "loop.example/mixrelay/laws.FnExactPacketValid", spec := "fnExactPacketValid", apart := false, narrowed := true }
def FnExactPacketValidUptoSaid : Prop := fnExactPacketValidUptoRow.holds Try.pinned (OpenSpec.upto fnExactPacketValidSpec)

/-- 'laws.FnEpochSame', WHERE WHAT IT READS IS OF BULK AT MOST 1048576: true; the input reads as it did. -/
def fnEpochSameUptoRow : OpenClaim := { program := "ytalnilighempmaa", sum := "3dcbaf08498f34acf346528705b97de98ebea179ad46cd78c807fd45cc88efb3", func := "loop.example/mixrelay/laws.FnEpochSame", spec := "fnEpochSame", apart := false, narrowed := true }
def FnEpochSameUptoSaid : Prop := fnEpochSameUptoRow.holds Try.pinned (OpenSpec.upto fnEpochSameSpec)

/-- 'laws.FnExactPathKeys', WHERE WHAT IT READS IS OF BULK AT MOST 1048576: true; the input reads as it did. -/
def fnExactPathKeysUptoRow : OpenClaim := { program := "ytalnilighempmaa", sum := "3dcbaf08498f34acf346528705b97de98ebea179ad46cd78c807fd45cc88efb3", func := "loop.example/mixrelay/laws.FnExactPathKeys", spec := "fnExactPathKeys", apart := false, narrowed := true }
def FnExactPathKeysUptoSaid : Prop := fnExactPathKeysUptoRow.holds Try.pinned (OpenSpec.upto fnExactPathKeysSpec)

/-- 'laws.FnMixNew', WHERE WHAT IT READS IS OF BULK AT MOST 1048576: true; the input reads as it did. -/
def fnMixNewUptoRow : OpenClaim := { program := "ytalnilighempmaa", sum := "3dcbaf08498f34acf346528705b97de98ebea179ad46cd78c807fd45cc88efb3", func := "loop.example/mixrelay/laws.FnMixNew", spec := "fnMixNew", apart := false, narrowed := true }
def FnMixNewUptoSaid : Prop := fnMixNewUptoRow.holds Try.pinned (OpenSpec.upto fnMixNewSpec)

/-- 'laws.FnKeys', WHERE WHAT IT READS IS OF BULK AT MOST 1048576: true; the input reads as it did. -/
def fnKeysUptoRow : OpenClaim := { program := "ytalnilighempmaa", sum := "3dcbaf08498f34acf346528705b97de98ebea179ad46cd78c807fd45cc88efb3", func := "loop.example/mixrelay/laws.FnKeys", spec := "fnKeys", apart := false, narrowed := true }
def FnKeysUptoSaid : Prop := fnKeysUptoRow.holds Try.pinned (OpenSpec.upto fnKeysSpec)

/-- 'laws.FnKeysPart', WHERE WHAT IT READS IS OF BULK AT MOST 1048576: true; the input reads as it did. -/
def fnKeysPartUptoRow : OpenClaim := { program := "ytalnilighempmaa", sum := "3dcbaf08498f34acf346528705b97de98ebea179ad46cd78c807fd45cc88efb3", func := "loop.example/mixrelay/laws.FnKeysPart", spec := "fnKeysPart", apart := false, narrowed := true }
def FnKeysPartUptoSaid : Prop := fnKeysPartUptoRow.holds Try.pinned (OpenSpec.upto fnKeysPartSpec)

/-- 'laws.FnExactMixNew', WHERE WHAT IT READS IS OF BULK AT MOST 1048576: true; the input reads as it did. -/
def fnExactMixNewUptoRow : OpenClaim := { program := "ytalnilighempmaa", sum := "3dcbaf08498f34acf346528705b97de98ebea179ad46cd78c807fd45cc88efb3", func := "loop.example/mixrelay/laws.FnExactMixNew", spec := "fnExactMixNew", apart := false, narrowed := true }
def FnExactMixNewUptoSaid : Prop := fnExactMixNewUptoRow.holds Try.pinned (OpenSpec.upto fnExactMixNewSpec)

/-- 'laws.FnExactMixValid', WHERE WHAT IT READS IS OF BULK AT MOST 1048576: true; the input reads as it did. -/
def fnExactMixValidUptoRow : OpenClaim := { program := "ytalnilighempmaa", sum := "3dcbaf08498f34acf346528705b97de98ebea179ad46cd78c807fd45cc88efb3", func := "loop.example/mixrelay/laws.FnExactMixValid", spec := "fnExactMixValid", apart := false, narrowed := true }
def FnExactMixValidUptoSaid : Prop := fnExactMixValidUptoRow.holds Try.pinned (OpenSpec.upto fnExactMixValidSpec)

/-- 'laws.FnExactPacketPeel', WHERE WHAT IT READS IS OF BULK AT MOST 1048576: true; the input reads as it did. -/
def fnExactPacketPeelUptoRow : OpenClaim := { program := "ytalnilighempmaa", sum := "3dcbaf08498f34acf346528705b97de98ebea179ad46cd78c807fd45cc88efb3", func := "loop.example/mixrelay/laws.FnExactPacketPeel", spec := "fnExactPacketPeel", apart := false, narrowed := true }
def FnExactPacketPeelUptoSaid : Prop := fnExactPacketPeelUptoRow.holds Try.pinned (OpenSpec.upto fnExactPacketPeelSpec)

/-- 'laws.FnExactPacketMake', WHERE WHAT IT READS IS OF BULK AT MOST 1048576: true; the input reads as it did. -/
def fnExactPacketMakeUptoRow : OpenClaim := { program := "ytalnilighempmaa", sum := "3dcbaf08498f34acf346528705b97de98ebea179ad46cd78c807fd45cc88efb3", func := "loop.example/mixrelay/laws.FnExactPacketMake", spec := "fnExactPacketMake", apart := false, narrowed := true }
def FnExactPacketMakeUptoSaid : Prop := fnExactPacketMakeUptoRow.holds Try.pinned (OpenSpec.upto fnExactPacketMakeSpec)

/-- 'laws.FnPeelBody', WHERE WHAT IT READS IS OF BULK AT MOST 1048576: true; the input reads as it did. -/
def fnPeelBodyUptoRow : OpenClaim := { program := "ytalnilighempmaa", sum := "3dcbaf08498f34acf346528705b97de98ebea179ad46cd78c807fd45cc88efb3", func := "loop.example/mixrelay/laws.FnPeelBody", spec := "fnPeelBody", apart := false, narrowed := true }
def FnPeelBodyUptoSaid : Prop := fnPeelBodyUptoRow.holds Try.pinned (OpenSpec.upto fnPeelBodySpec)

/-- 'laws.FnPeelElement', WHERE WHAT IT READS IS OF BULK AT MOST 1048576: true; the input reads as it did. -/
def fnPeelElementUptoRow : OpenClaim := { program := "ytalnilighempmaa", sum := "3dcbaf08498f34acf346528705b97de98ebea179ad46cd78c807fd45cc88efb3", func := "loop.example/mixrelay/laws.FnPeelElement", spec := "fnPeelElement", apart := false, narrowed := true }
def FnPeelElementUptoSaid : Prop := fnPeelElementUptoRow.holds Try.pinned (OpenSpec.upto fnPeelElementSpec)

/-- 'laws.FnPeelInfo', WHERE WHAT IT READS IS OF BULK AT MOST 1048576: true; the input reads as it did. -/
def fnPeelInfoUptoRow : OpenClaim := { program := "ytalnilighempmaa", sum := "3dcbaf08498f34acf346528705b97de98ebea179ad46cd78c807fd45cc88efb3", func := "loop.example/mixrelay/laws.FnPeelInfo", spec := "fnPeelInfo", apart := false, narrowed := true }
def FnPeelInfoUptoSaid : Prop := fnPeelInfoUptoRow.holds Try.pinned (OpenSpec.upto fnPeelInfoSpec)

/-- 'laws.FnPeelOther', WHERE WHAT IT READS IS OF BULK AT MOST 1048576: true; the input reads as it did. -/
def fnPeelOtherUptoRow : OpenClaim := { program := "ytalnilighempmaa", sum := "3dcbaf08498f34acf346528705b97de98ebea179ad46cd78c807fd45cc88efb3", func := "loop.example/mixrelay/laws.FnPeelOther", spec := "fnPeelOther", apart := false, narrowed := true }
def FnPeelOtherUptoSaid : Prop := fnPeelOtherUptoRow.holds Try.pinned (OpenSpec.upto fnPeelOtherSpec)

/-- 'laws.FnPeelTwice', WHERE WHAT IT READS IS OF BULK AT MOST 1048576: true; the input reads as it did. -/
def fnPeelTwiceUptoRow : OpenClaim := { program := "ytalnilighempmaa", sum := "3dcbaf08498f34acf346528705b97de98ebea179ad46cd78c807fd45cc88efb3", func := "loop.example/mixrelay/laws.FnPeelTwice", spec := "fnPeelTwice", apart := false, narrowed := true }
def FnPeelTwiceUptoSaid : Prop := fnPeelTwiceUptoRow.holds Try.pinned (OpenSpec.upto fnPeelTwiceSpec)

/-- 'laws.FnPeelBodyFree', WHERE WHAT IT READS IS OF BULK AT MOST 1048576: true; the input reads as it did. -/
def fnPeelBodyFreeUptoRow : OpenClaim := { program := "ytalnilighempmaa", sum := "3dcbaf08498f34acf346528705b97de98ebea179ad46cd78c807fd45cc88efb3", func := "loop.example/mixrelay/laws.FnPeelBodyFree", spec := "fnPeelBodyFree", apart := false, narrowed := true }
def FnPeelBodyFreeUptoSaid : Prop := fnPeelBodyFreeUptoRow.holds Try.pinned (OpenSpec.upto fnPeelBodyFreeSpec)

/-- 'laws.FnPeelHeader', WHERE WHAT IT READS IS OF BULK AT MOST 1048576: true; the input reads as it did. -/
def fnPeelHeaderUptoRow : OpenClaim := { program := "ytalnilighempmaa", sum := "3dcbaf08498f34acf346528705b97de98ebea179ad46cd78c807fd45cc88efb3", func := "loop.example/mixrelay/laws.FnPeelHeader", spec := "fnPeelHeader", apart := false, narrowed := true }
def FnPeelHeaderUptoSaid : Prop := fnPeelHeaderUptoRow.holds Try.pinned (OpenSpec.upto fnPeelHeaderSpec)

/-- 'laws.FnPacketLetter', WHERE WHAT IT READS IS OF BULK AT MOST 1048576: true; the input reads as it did. -/
def fnPacketLetterUptoRow : OpenClaim := { program := "ytalnilighempmaa", sum := "3dcbaf08498f34acf346528705b97de98ebea179ad46cd78c807fd45cc88efb3", func := "loop.example/mixrelay/laws.FnPacketLetter", spec := "fnPacketLetter", apart := false, narrowed := true }
def FnPacketLetterUptoSaid : Prop := fnPacketLetterUptoRow.holds Try.pinned (OpenSpec.upto fnPacketLetterSpec)

/-- 'laws.FnPacketSecret', WHERE WHAT IT READS IS OF BULK AT MOST 1048576: true; the input reads as it did. -/
def fnPacketSecretUptoRow : OpenClaim := { program := "ytalnilighempmaa", sum := "3dcbaf08498f34acf346528705b97de98ebea179ad46cd78c807fd45cc88efb3", func := "loop.example/mixrelay/laws.FnPacketSecret", spec := "fnPacketSecret", apart := false, narrowed := true }
def FnPacketSecretUptoSaid : Prop := fnPacketSecretUptoRow.holds Try.pinned (OpenSpec.upto fnPacketSecretSpec)

/-- 'laws.FnPacket', WHERE WHAT IT READS IS OF BULK AT MOST 1048576: true; the input reads as it did. -/
def fnPacketUptoRow : OpenClaim := { program := "ytalnilighempmaa", sum := "3dcbaf08498f34acf346528705b97de98ebea179ad46cd78c807fd45cc88efb3", func := "loop.example/mixrelay/laws.FnPacket", spec := "fnPacket", apart := false, narrowed := true }
def FnPacketUptoSaid : Prop := fnPacketUptoRow.holds Try.pinned (OpenSpec.upto fnPacketSpec)

/-- 'laws.FnPacketHidden', WHERE WHAT IT READS IS OF BULK AT MOST 1048576: true; the input reads as it did. -/
def fnPacketHiddenUptoRow : OpenClaim := { program := "ytalnilighempmaa", sum := "3dcbaf08498f34acf346528705b97de98ebea179ad46cd78c807fd45cc88efb3", func := "loop.example/mixrelay/laws.FnPacketHidden", spec := "fnPacketHidden", apart := false, narrowed := true }
def FnPacketHiddenUptoSaid : Prop := fnPacketHiddenUptoRow.holds Try.pinned (OpenSpec.upto fnPacketHiddenSpec)

/-- 'laws.FnExactMixEpoch', WHERE WHAT IT READS IS OF BULK AT MOST 1048576: true; the input reads as it did. -/
def fnExactMixEpochUptoRow : OpenClaim := { program := "ytalnilighempmaa", sum := "3dcbaf08498f34acf346528705b97de98ebea179ad46cd78c807fd45cc88efb3", func := "loop.example/mixrelay/laws.FnExactMixEpoch", spec := "fnExactMixEpoch", apart := false, narrowed := true }
def FnExactMixEpochUptoSaid : Prop := fnExactMixEpochUptoRow.holds Try.pinned (OpenSpec.upto fnExactMixEpochSpec)

/-- 'laws.FnPacketSize', WHERE WHAT IT READS IS OF BULK AT MOST 1048576: true; the input reads as it did. -/
def fnPacketSizeUptoRow : OpenClaim := { program := "ytalnilighempmaa", sum := "3dcbaf08498f34acf346528705b97de98ebea179ad46cd78c807fd45cc88efb3", func := "loop.example/mixrelay/laws.FnPacketSize", spec := "fnPacketSize", apart := false, narrowed := true }
def FnPacketSizeUptoSaid : Prop := fnPacketSizeUptoRow.holds Try.pinned (OpenSpec.upto fnPacketSizeSpec)

end Rows
end Go.Proofs.Ytalnilighempmaa
