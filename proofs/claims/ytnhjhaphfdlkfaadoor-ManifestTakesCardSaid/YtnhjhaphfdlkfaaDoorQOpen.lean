/- A manifest that came in, opened: its fields, its two slices as lists. -/
import Derived.Test.YtnhjhaphfdlkfaaDoorQLaid
import Derived.Test.YtnhjhaphfdlkfaaDoorQHMx0
import Derived.Deep.SlicePairs
import Derived.Lib.SmallJoins
import Derived.Below
set_option linter.unusedVariables false
namespace Go.Proofs.YtnhjhaphfdlkfaaDoor.LaidAt
open Go.ChangeShapes Go.WideShapes Go.ChangeAt Go.RowKit Go.Proofs.YtnhjhaphfdlkfaaDoor.HM Go.Proofs.YtnhjhaphfdlkfaaDoorW.PrintWords Go.Proofs.YtnhjhaphfdlkfaaDoorW.PrintLast Go.Proofs.YtnhjhaphfdlkfaaDoorW.PrintMore
section
variable {H : Type} {enc : TypeId × Value → H} {w : World} {base : Nat} {sp : Nat → Bool} {held : Bool}
end
end Go.Proofs.YtnhjhaphfdlkfaaDoor.LaidAt
