/-
  DERIVED: THE SHELF's CONTRACTS AT THIS DUMP, IN PLAIN WORDS (tools/lay-plain.mjs out of 'YtnbfjkebakaigaaShF0.lean', which tools/lay-shelf.mjs wrote): THE SAME DECLARATIONS UNDER THE SAME NAMES: 'import', 'namespace', 'open', 'def', 'theorem' AND NOTHING ELSE: no command of the shelf's: FOR A HAND-IN. Each laying: the table of numbers ('.._ren') and one theorem, a field a fact of the dump's own or the kernel's comparison; each contract: ONE APPLICATION.
-/
import Derived.Test.YtnbfjkebakaigaaChecked
import Derived.Shelf.Spec.SearchS
import Derived.Ground.Names2Prog
namespace Go.Proofs
open Go.Shelf
def Try.laysBs_ren : Go.Shelf.Ren := ⟨fun | 26 => 124 | 33 => 164 | 34 => 165 | 38 => 191 | n => n, fun | 24 => 22 | 9 => 9 | 3 => 3 | 4 => 4 | 40 => 178 | 0 => 0 | n => n, fun | n => n⟩
theorem Try.laysBs : Go.Proofs.Lays2.n26 Try.prog Try.laysBs_ren := {
  mixed := by kernel_rfl
  f26 := Try.func124.trans (congrArg some (by kernel_rfl))
  f33 := Try.func164.trans (congrArg some (by kernel_rfl))
  f34 := Try.func165.trans (congrArg some (by kernel_rfl))
  f38 := Try.func191.trans (congrArg some (by kernel_rfl))
  t0 := Try.underlying0
  a0 := Try.isAgg0
  z0 := Try.sizeOf0
  v0 := Try.zeroValue0
  t3 := Try.underlying3
  a3 := Try.isAgg3
  z3 := Try.sizeOf3
  v3 := Try.zeroValue3
  t4 := Try.underlying4
  a4 := Try.isAgg4
  z4 := Try.sizeOf4
  v4 := Try.zeroValue4
  t9 := Try.underlying9
  a9 := Try.isAgg9
  z9 := Try.sizeOf9
  v9 := Try.zeroValue9
  t24 := Try.underlying22
  a24 := Try.isAgg22
  z24 := Try.sizeOf22
  v24 := Try.zeroValue22
  t40 := Try.underlying178
  a40 := Try.isAgg178
  z40 := Try.sizeOf178
  v40 := Try.zeroValue178 }
end Go.Proofs
