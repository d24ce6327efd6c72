/-
  The walk of the statement that a letter is masked by all mixes.
  Conditions: the arguments read as lists of bytes.
-/
import Derived.Test.YtoocjalhcliebaaLawsP
namespace Go.Proofs.Ytoocjalhcliebaa
open Go Go.RowKit

end Go.Proofs.Ytoocjalhcliebaa
