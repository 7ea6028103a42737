/- The walks of the law file's helpers over []uint8: copy, compare. -/
import Derived.Test.YtnbfjkebakaigaaRows
import Derived.Test.YtnbfjkebakaigaaMem
namespace Go.Proofs.Ytnbfjkebakaigaa
open Go.RowKit Go.Deep
set_option linter.unusedVariables false
set_option maxRecDepth 100000
end Go.Proofs.Ytnbfjkebakaigaa
