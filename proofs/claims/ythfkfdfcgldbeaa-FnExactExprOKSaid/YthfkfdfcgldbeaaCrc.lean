/- The walks of the two sums. -/
import Derived.Test.YthfkfdfcgldbeaaRows
import Derived.Test.YthfkfdfcgldbeaaMem
import Derived.Test.YthfkfdfcgldbeaaCrcPlain
namespace Go.Proofs.Ythfkfdfcgldbeaa
open Go.RowKit Go.Deep
set_option linter.unusedVariables false
set_option maxRecDepth 100000
end Go.Proofs.Ythfkfdfcgldbeaa
