/-
  The contract of the function that copies a mix that came in.
  Conditions: the slices read as lists.
-/
import Derived.Test.YtoocjalhcliebaaMixT
import Derived.Test.YtoocjalhcliebaaMixW
namespace Go.Proofs.Ytoocjalhcliebaa
open Go Go.RowKit

end Go.Proofs.Ytoocjalhcliebaa
