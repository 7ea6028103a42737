/- The walks of the law file's helpers over []uint8: copy, compare. -/
import Derived.Test.YtnbfjkebakaigaaRows
import Derived.Test.YtnbfjkebakaigaaMem
namespace Go.Proofs.Ytnbfjkebakaigaa
open Go.RowKit Go.Deep
set_option linter.unusedVariables false
set_option maxRecDepth 100000
theorem info_ByteS : (Try.prog.info? 5).map (fun i => (i.zero, i.size, i.bytes)) = some (some (Value.int .u8 0), 1, 1) := by kernel_rfl
end Go.Proofs.Ytnbfjkebakaigaa
