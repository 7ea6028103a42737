/- Opening the struct arguments of a law. -/
import Derived.Test.YtnbfjkebakaigaaRows
import Derived.Test.YtnbfjkebakaigaaOpen
namespace Go.Proofs.Ytnbfjkebakaigaa
open Go.ChangeShapes Go.WideShapes Go.ChangeAt Go.RowKit Go.Joins
set_option linter.unusedVariables false
set_option maxRecDepth 100000
section
variable {H : Type} {enc : TypeId × Value → H} {w : World} {base : Nat} {held : Bool} {r : Reach} {b0 : Nat}
end
end Go.Proofs.Ytnbfjkebakaigaa
