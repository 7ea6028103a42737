/-
  DERIVED: THE SHELF's CONTRACTS AT THIS DUMP, IN PLAIN WORDS (tools/lay-plain.mjs out of 'YthfkfdfcgldbeaaShQ0.lean', which tools/lay-shelf.mjs wrote): THE SAME DECLARATIONS UNDER THE SAME NAMES: 'import', 'namespace', 'open', 'def', 'theorem' AND NOTHING ELSE: no command of the shelf's: FOR A HAND-IN. Each laying: the table of numbers ('.._ren') and one theorem, a field a fact of the dump's own or the kernel's comparison; each contract: ONE APPLICATION.
-/
import Derived.Test.YthfkfdfcgldbeaaChecked
import Derived.Shelf.SlicesE.Index
import Derived.Ground.SlgnProg
namespace Go.Proofs
open Go.Shelf
def Try.laysContB_ren : Go.Shelf.Ren := ⟨fun | 31 => 144 | 29 => 165 | n => n, fun | 22 => 177 | 23 => 4 | 4 => 4 | 3 => 3 | 0 => 0 | n => n, fun | n => n⟩
theorem Try.laysContB : Go.Proofs.SlLaysE.n31 Try.prog Try.laysContB_ren := {
  mixed := by kernel_rfl
  f29 := ⟨Try.f165.name, by decide, Try.func165.trans (congrArg some (by kernel_rfl))⟩
  f31 := ⟨Try.f144.name, by decide, Try.func144.trans (congrArg some (by kernel_rfl))⟩
  t0 := Try.underlying0
  a0 := Try.isAgg0
  z0 := Try.sizeOf0
  v0 := Try.zeroValue0
  t3 := Try.underlying3
  a3 := Try.isAgg3
  z3 := Try.sizeOf3
  v3 := Try.zeroValue3
  t4 := Try.underlying4
  a4 := Try.isAgg4
  z4 := Try.sizeOf4
  v4 := Try.zeroValue4
  t22 := Try.underlying177
  a22 := Try.isAgg177
  z22 := Try.sizeOf177
  v22 := Try.zeroValue177
  a23 := Try.isAgg4
  z23 := Try.sizeOf4 }
end Go.Proofs
