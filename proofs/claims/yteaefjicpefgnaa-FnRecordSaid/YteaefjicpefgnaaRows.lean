/-
  No cell of these rows narrows 'for every input' (looked for: loops, veiled, ifaces, maps, wideKeys, modest, calm, conditions, laid).
  DERIVED. THE GIVEN ROWS OF THIS SEAT. 12 by the template 'for every input the law returns true; each argument reads behind the call as it read before'; 0 by the template 'total and deterministic' (their statements: YteaefjicpefgnaaTotals.lean).
  GIVEN WITH THE SEED: the statements are not yours to turn. If you find one false, say at which input.
  Laid BY PROGRAM, IN A SANDBOX (cutbox-rows.mjs): the forced cells as the released guide's own fill.sh prints them over the translation 157c999ea2843ae0… (all of the seat's roots in one cut). By AI agents, Wed Nov 11 2026. No macro, syntax, notation, axiom, sorry.
-/
import Derived.Test.YteaefjicpefgnaaChecked
import GoSem.Claim
import GoSem.ClaimJoined
import GoSem.ClaimMapViews
import Derived.JoinedTies
import Derived.KernelRfl
namespace Go.Proofs.Yteaefjicpefgnaa
/- THE CELL 'sum', in the pinned program and in every row, IS THE sha256 OF THE DUMP (.gsa) THAT YteaefjicpefgnaaProg.lean LOADS. Nothing in Lean hashes anything: it is a label: what it is worth is what the hold of that sum in a sandbox is worth. -/
noncomputable def Try.pinned : Pinned := { name := "yteaefjicpefgnaa", sum := "157c999ea2843ae091faf55fe5c0e720b4640d5cb18568d1c66868489be24c96", checked := Try.checked }
namespace Rows
def none {H : Type} : Left H := { results := [], args := [] }

/-- 'laws.FnExactHeaderBytes': WHATEVER THE INPUT: true; the input reads as it did. -/
def fnExactHeaderBytesSpec : ChangeSpec := { name := "fnExactHeaderBytes", fn := fun _ => fun
  | [d] => { results := [.lit (.bool true)], args := [d] }
  | _ => none }
def fnExactHeaderBytesRow : OpenClaim := { program := "yteaefjicpefgnaa", sum := "157c999ea2843ae091faf55fe5c0e720b4640d5cb18568d1c66868489be24c96", func := "loop.example/g00332/laws.FnExactHeaderBytes", spec := "fnExactHeaderBytes", apart := false }
def FnExactHeaderBytesSaid : Prop := fnExactHeaderBytesRow.holds Try.pinned (OpenSpec.ofChange fnExactHeaderBytesSpec)

/-- ITS FALSE NEIGHBOUR: 'it returns false'. Refute it at one input. -/
def fnExactHeaderBytesWrong : ChangeSpec := { name := "fnExactHeaderBytes", fn := fun _ => fun
  | [d] => { results := [.lit (.bool false)], args := [d] }
  | _ => none }
def FnExactHeaderBytesWrongFalsely : Prop := fnExactHeaderBytesRow.holds Try.pinned (OpenSpec.ofChange fnExactHeaderBytesWrong)

/-- 'laws.FnExactReadHeader': WHATEVER THE INPUT: true; the input reads as it did. -/
def fnExactReadHeaderSpec : ChangeSpec := { name := "fnExactReadHeader", fn := fun _ => fun
  | [d] => { results := [.lit (.bool true)], args := [d] }
  | _ => none }
def fnExactReadHeaderRow : OpenClaim := { program := "yteaefjicpefgnaa", sum := "157c999ea2843ae091faf55fe5c0e720b4640d5cb18568d1c66868489be24c96", func := "loop.example/g00332/laws.FnExactReadHeader", spec := "fnExactReadHeader", apart := false }
def FnExactReadHeaderSaid : Prop := fnExactReadHeaderRow.holds Try.pinned (OpenSpec.ofChange fnExactReadHeaderSpec)

/-- ITS FALSE NEIGHBOUR: 'it returns false'. Refute it at one input. -/
def fnExactReadHeaderWrong : ChangeSpec := { name := "fnExactReadHeader", fn := fun _ => fun
  | [d] => { results := [.lit (.bool false)], args := [d] }
  | _ => none }
def FnExactReadHeaderWrongFalsely : Prop := fnExactReadHeaderRow.holds Try.pinned (OpenSpec.ofChange fnExactReadHeaderWrong)

/-- 'laws.FnExactReadFields': WHATEVER THE INPUT: true; the input reads as it did. -/
def fnExactReadFieldsSpec : ChangeSpec := { name := "fnExactReadFields", fn := fun _ => fun
  | [d] => { results := [.lit (.bool true)], args := [d] }
  | _ => none }
def fnExactReadFieldsRow : OpenClaim := { program := "yteaefjicpefgnaa", sum := "157c999ea2843ae091faf55fe5c0e720b4640d5cb18568d1c66868489be24c96", func := "loop.example/g00332/laws.FnExactReadFields", spec := "fnExactReadFields", apart := false }
def FnExactReadFieldsSaid : Prop := fnExactReadFieldsRow.holds Try.pinned (OpenSpec.ofChange fnExactReadFieldsSpec)

/-- ITS FALSE NEIGHBOUR: 'it returns false'. Refute it at one input. -/
def fnExactReadFieldsWrong : ChangeSpec := { name := "fnExactReadFields", fn := fun _ => fun
  | [d] => { results := [.lit (.bool false)], args := [d] }
  | _ => none }
def FnExactReadFieldsWrongFalsely : Prop := fnExactReadFieldsRow.holds Try.pinned (OpenSpec.ofChange fnExactReadFieldsWrong)

/-- 'laws.FnExactFieldsBytes': WHATEVER THE INPUT: true; the input reads as it did. -/
def fnExactFieldsBytesSpec : ChangeSpec := { name := "fnExactFieldsBytes", fn := fun _ => fun
  | [d] => { results := [.lit (.bool true)], args := [d] }
  | _ => none }
def fnExactFieldsBytesRow : OpenClaim := { program := "yteaefjicpefgnaa", sum := "157c999ea2843ae091faf55fe5c0e720b4640d5cb18568d1c66868489be24c96", func := "loop.example/g00332/laws.FnExactFieldsBytes", spec := "fnExactFieldsBytes", unfollowed := true, recurses := true, apart := false }
def FnExactFieldsBytesSaid : Prop := fnExactFieldsBytesRow.holds Try.pinned (OpenSpec.ofChange fnExactFieldsBytesSpec)

/-- ITS FALSE NEIGHBOUR: 'it returns false'. Refute it at one input. -/
def fnExactFieldsBytesWrong : ChangeSpec := { name := "fnExactFieldsBytes", fn := fun _ => fun
  | [d] => { results := [.lit (.bool false)], args := [d] }
  | _ => none }
def FnExactFieldsBytesWrongFalsely : Prop := fnExactFieldsBytesRow.holds Try.pinned (OpenSpec.ofChange fnExactFieldsBytesWrong)

/-- 'laws.FnFields': WHATEVER THE INPUT: true; the input reads as it did. -/
def fnFieldsSpec : ChangeSpec := { name := "fnFields", fn := fun _ => fun
  | [d1, d2] => { results := [.lit (.bool true)], args := [d1, d2] }
  | _ => none }
def fnFieldsRow : OpenClaim := { program := "yteaefjicpefgnaa", sum := "157c999ea2843ae091faf55fe5c0e720b4640d5cb18568d1c66868489be24c96", func := "loop.example/g00332/laws.FnFields", spec := "fnFields", unfollowed := true, recurses := true, apart := false }
def FnFieldsSaid : Prop := fnFieldsRow.holds Try.pinned (OpenSpec.ofChange fnFieldsSpec)

/-- ITS FALSE NEIGHBOUR: 'it returns false'. Refute it at one input. -/
def fnFieldsWrong : ChangeSpec := { name := "fnFields", fn := fun _ => fun
  | [d1, d2] => { results := [.lit (.bool false)], args := [d1, d2] }
  | _ => none }
def FnFieldsWrongFalsely : Prop := fnFieldsRow.holds Try.pinned (OpenSpec.ofChange fnFieldsWrong)

/-- 'laws.FnExactPageBytes': WHATEVER THE INPUT: true; the input reads as it did. -/
def fnExactPageBytesSpec : ChangeSpec := { name := "fnExactPageBytes", fn := fun _ => fun
  | [d1, d2] => { results := [.lit (.bool true)], args := [d1, d2] }
  | _ => none }
def fnExactPageBytesRow : OpenClaim := { program := "yteaefjicpefgnaa", sum := "157c999ea2843ae091faf55fe5c0e720b4640d5cb18568d1c66868489be24c96", func := "loop.example/g00332/laws.FnExactPageBytes", spec := "fnExactPageBytes", unfollowed := true, recurses := true, apart := false }
def FnExactPageBytesSaid : Prop := fnExactPageBytesRow.holds Try.pinned (OpenSpec.ofChange fnExactPageBytesSpec)

/-- ITS FALSE NEIGHBOUR: 'it returns false'. Refute it at one input. -/
def fnExactPageBytesWrong : ChangeSpec := { name := "fnExactPageBytes", fn := fun _ => fun
  | [d1, d2] => { results := [.lit (.bool false)], args := [d1, d2] }
  | _ => none }
def FnExactPageBytesWrongFalsely : Prop := fnExactPageBytesRow.holds Try.pinned (OpenSpec.ofChange fnExactPageBytesWrong)

/-- 'laws.FnExactReadPage': WHATEVER THE INPUT: true; the input reads as it did. -/
def fnExactReadPageSpec : ChangeSpec := { name := "fnExactReadPage", fn := fun _ => fun
  | [d1, d2] => { results := [.lit (.bool true)], args := [d1, d2] }
  | _ => none }
def fnExactReadPageRow : OpenClaim := { program := "yteaefjicpefgnaa", sum := "157c999ea2843ae091faf55fe5c0e720b4640d5cb18568d1c66868489be24c96", func := "loop.example/g00332/laws.FnExactReadPage", spec := "fnExactReadPage", unfollowed := true, recurses := true, apart := false }
def FnExactReadPageSaid : Prop := fnExactReadPageRow.holds Try.pinned (OpenSpec.ofChange fnExactReadPageSpec)

/-- ITS FALSE NEIGHBOUR: 'it returns false'. Refute it at one input. -/
def fnExactReadPageWrong : ChangeSpec := { name := "fnExactReadPage", fn := fun _ => fun
  | [d1, d2] => { results := [.lit (.bool false)], args := [d1, d2] }
  | _ => none }
def FnExactReadPageWrongFalsely : Prop := fnExactReadPageRow.holds Try.pinned (OpenSpec.ofChange fnExactReadPageWrong)

/-- 'laws.FnExactRecordOK': WHATEVER THE INPUT: true; the input reads as it did. -/
def fnExactRecordOKSpec : ChangeSpec := { name := "fnExactRecordOK", fn := fun _ => fun
  | [d] => { results := [.lit (.bool true)], args := [d] }
  | _ => none }
def fnExactRecordOKRow : OpenClaim := { program := "yteaefjicpefgnaa", sum := "157c999ea2843ae091faf55fe5c0e720b4640d5cb18568d1c66868489be24c96", func := "loop.example/g00332/laws.FnExactRecordOK", spec := "fnExactRecordOK", apart := false }
def FnExactRecordOKSaid : Prop := fnExactRecordOKRow.holds Try.pinned (OpenSpec.ofChange fnExactRecordOKSpec)

/-- ITS FALSE NEIGHBOUR: 'it returns false'. Refute it at one input. -/
def fnExactRecordOKWrong : ChangeSpec := { name := "fnExactRecordOK", fn := fun _ => fun
  | [d] => { results := [.lit (.bool false)], args := [d] }
  | _ => none }
def FnExactRecordOKWrongFalsely : Prop := fnExactRecordOKRow.holds Try.pinned (OpenSpec.ofChange fnExactRecordOKWrong)

/-- 'laws.FnExactRecordBytes': WHATEVER THE INPUT: true; the input reads as it did. -/
def fnExactRecordBytesSpec : ChangeSpec := { name := "fnExactRecordBytes", fn := fun _ => fun
  | [d] => { results := [.lit (.bool true)], args := [d] }
  | _ => none }
def fnExactRecordBytesRow : OpenClaim := { program := "yteaefjicpefgnaa", sum := "157c999ea2843ae091faf55fe5c0e720b4640d5cb18568d1c66868489be24c96", func := "loop.example/g00332/laws.FnExactRecordBytes", spec := "fnExactRecordBytes", apart := false }
def FnExactRecordBytesSaid : Prop := fnExactRecordBytesRow.holds Try.pinned (OpenSpec.ofChange fnExactRecordBytesSpec)

/-- ITS FALSE NEIGHBOUR: 'it returns false'. Refute it at one input. -/
def fnExactRecordBytesWrong : ChangeSpec := { name := "fnExactRecordBytes", fn := fun _ => fun
  | [d] => { results := [.lit (.bool false)], args := [d] }
  | _ => none }
def FnExactRecordBytesWrongFalsely : Prop := fnExactRecordBytesRow.holds Try.pinned (OpenSpec.ofChange fnExactRecordBytesWrong)

/-- 'laws.FnExactReadRecord': WHATEVER THE INPUT: true; the input reads as it did. -/
def fnExactReadRecordSpec : ChangeSpec := { name := "fnExactReadRecord", fn := fun _ => fun
  | [d] => { results := [.lit (.bool true)], args := [d] }
  | _ => none }
def fnExactReadRecordRow : OpenClaim := { program := "yteaefjicpefgnaa", sum := "157c999ea2843ae091faf55fe5c0e720b4640d5cb18568d1c66868489be24c96", func := "loop.example/g00332/laws.FnExactReadRecord", spec := "fnExactReadRecord", apart := false }
def FnExactReadRecordSaid : Prop := fnExactReadRecordRow.holds Try.pinned (OpenSpec.ofChange fnExactReadRecordSpec)

/-- ITS FALSE NEIGHBOUR: 'it returns false'. Refute it at one input. -/
def fnExactReadRecordWrong : ChangeSpec := { name := "fnExactReadRecord", fn := fun _ => fun
  | [d] => { results := [.lit (.bool false)], args := [d] }
  | _ => none }
def FnExactReadRecordWrongFalsely : Prop := fnExactReadRecordRow.holds Try.pinned (OpenSpec.ofChange fnExactReadRecordWrong)

/-- 'laws.FnRecord': WHATEVER THE INPUT: true; the input reads as it did. -/
def fnRecordSpec : ChangeSpec := { name := "fnRecord", fn := fun _ => fun
  | [d1, d2] => { results := [.lit (.bool true)], args := [d1, d2] }
  | _ => none }
def fnRecordRow : OpenClaim := { program := "yteaefjicpefgnaa", sum := "157c999ea2843ae091faf55fe5c0e720b4640d5cb18568d1c66868489be24c96", func := "loop.example/g00332/laws.FnRecord", spec := "fnRecord", apart := false }
def FnRecordSaid : Prop := fnRecordRow.holds Try.pinned (OpenSpec.ofChange fnRecordSpec)

/-- ITS FALSE NEIGHBOUR: 'it returns false'. Refute it at one input. -/
def fnRecordWrong : ChangeSpec := { name := "fnRecord", fn := fun _ => fun
  | [d1, d2] => { results := [.lit (.bool false)], args := [d1, d2] }
  | _ => none }
def FnRecordWrongFalsely : Prop := fnRecordRow.holds Try.pinned (OpenSpec.ofChange fnRecordWrong)

/-- 'laws.FnExactKeyBytes': WHATEVER THE INPUT: true; the input reads as it did. -/
def fnExactKeyBytesSpec : ChangeSpec := { name := "fnExactKeyBytes", fn := fun _ => fun
  | [d] => { results := [.lit (.bool true)], args := [d] }
  | _ => none }
def fnExactKeyBytesRow : OpenClaim := { program := "yteaefjicpefgnaa", sum := "157c999ea2843ae091faf55fe5c0e720b4640d5cb18568d1c66868489be24c96", func := "loop.example/g00332/laws.FnExactKeyBytes", spec := "fnExactKeyBytes", unfollowed := true, recurses := true, apart := false }
def FnExactKeyBytesSaid : Prop := fnExactKeyBytesRow.holds Try.pinned (OpenSpec.ofChange fnExactKeyBytesSpec)

/-- ITS FALSE NEIGHBOUR: 'it returns false'. Refute it at one input. -/
def fnExactKeyBytesWrong : ChangeSpec := { name := "fnExactKeyBytes", fn := fun _ => fun
  | [d] => { results := [.lit (.bool false)], args := [d] }
  | _ => none }
def FnExactKeyBytesWrongFalsely : Prop := fnExactKeyBytesRow.holds Try.pinned (OpenSpec.ofChange fnExactKeyBytesWrong)

/- THE SECOND FORM. 'bulk': how many values and letters a reading holds, each counted each time it is reached (what is shared counts as often as it is met; a slice's spare places count too). A statement '..UptoSaid' is the law's where the arguments, and the package variables that the reading takes, are together of bulk at most 1048576: NARROWER than '..Said'. Prove '..Said' where nothing that the law and all that it calls make is longer than what came in: it says more and counts as full. Else prove '..UptoSaid'. A law counts once. -/
mutual
def uptoBulk {H : Type} : DataW H → Nat
  | .lit (.string bytes) => bytes.length + 1
  | .lit _ => 1
  | .nil => 1
  | .ptr d => uptoBulk d + 1
  | .slice elems spare => uptoBulkAll elems + uptoBulkAll spare + 1
  | .agg parts => uptoBulkAll parts + 1
  | .iface _ d => uptoBulk d + 1
  | .map entries => uptoBulkEntries entries + 1
  | .held _ => 1
def uptoBulkAll {H : Type} : List (DataW H) → Nat
  | [] => 0
  | d :: r => uptoBulk d + uptoBulkAll r
def uptoBulkEntries {H : Type} : List (Lit × DataW H) → Nat
  | [] => 0
  | x :: r => uptoBulkEntry x + uptoBulkEntries r
def uptoBulkEntry {H : Type} : Lit × DataW H → Nat
  | (.string bytes, d) => bytes.length + uptoBulk d + 1
  | (_, d) => uptoBulk d + 1
 end
def uptoSmall : (H : Type) → List (DataW H) → Bool := fun _ ds => decide (uptoBulkAll ds ≤ 1048576)
def OpenSpec.upto (s : _root_.Go.ChangeSpec) : _root_.Go.OpenSpec := { _root_.Go.OpenSpec.ofChange s with cond := some uptoSmall }

/-- 'laws.FnExactHeaderBytes', WHERE WHAT IT READS IS OF BULK AT MOST 1048576: true; the input reads as it did. -/
def fnExactHeaderBytesUptoRow : OpenClaim := { program := "yteaefjicpefgnaa", sum := "157c999ea2843ae091faf55fe5c0e720b4640d5cb18568d1c66868489be24c96", func := "loop.example/g00332/laws.FnExactHeaderBytes", spec := "fnExactHeaderBytes", apart := false, narrowed := true }
def FnExactHeaderBytesUptoSaid : Prop := fnExactHeaderBytesUptoRow.holds Try.pinned (OpenSpec.upto fnExactHeaderBytesSpec)

/-- 'laws.FnExactReadHeader', WHERE WHAT IT READS IS OF BULK AT MOST 1048576: true; the input reads as it did. -/
def fnExactReadHeaderUptoRow : OpenClaim := { program := "yteaefjicpefgnaa", sum := "157c999ea2843ae091faf55fe5c0e720b4640d5cb18568d1c66868489be24c96", func := "loop.example/g00332/laws.FnExactReadHeader", spec := "fnExactReadHeader", apart := false, narrowed := true }
def FnExactReadHeaderUptoSaid : Prop := fnExactReadHeaderUptoRow.holds Try.pinned (OpenSpec.upto fnExactReadHeaderSpec)

/-- 'laws.FnExactReadFields', WHERE WHAT IT READS IS OF BULK AT MOST 1048576: true; the input reads as it did. -/
def fnExactReadFieldsUptoRow : OpenClaim := { program := "yteaefjicpefgnaa", sum := "157c999ea2843ae091faf55fe5c0e720b4640d5cb18568d1c66868489be24c96", func := "loop.example/g00332/laws.FnExactReadFields", spec := "fnExactReadFields", apart := false, narrowed := true }
def FnExactReadFieldsUptoSaid : Prop := fnExactReadFieldsUptoRow.holds Try.pinned (OpenSpec.upto fnExactReadFieldsSpec)

/-- 'laws.FnExactFieldsBytes', WHERE WHAT IT READS IS OF BULK AT MOST 1048576: true; the input reads as it did. -/
def fnExactFieldsBytesUptoRow : OpenClaim := { program := "yteaefjicpefgnaa", sum := "157c999ea2843ae091faf55fe5c0e720b4640d5cb18568d1c66868489be24c96", func := "loop.example/g00332/laws.FnExactFieldsBytes", spec := "fnExactFieldsBytes", unfollowed := true, recurses := true, apart := false, narrowed := true }
def FnExactFieldsBytesUptoSaid : Prop := fnExactFieldsBytesUptoRow.holds Try.pinned (OpenSpec.upto fnExactFieldsBytesSpec)

/-- 'laws.FnFields', WHERE WHAT IT READS IS OF BULK AT MOST 1048576: true; the input reads as it did. -/
def fnFieldsUptoRow : OpenClaim := { program := "yteaefjicpefgnaa", sum := "157c999ea2843ae091faf55fe5c0e720b4640d5cb18568d1c66868489be24c96", func := "loop.example/g00332/laws.FnFields", spec := "fnFields", unfollowed := true, recurses := true, apart := false, narrowed := true }
def FnFieldsUptoSaid : Prop := fnFieldsUptoRow.holds Try.pinned (OpenSpec.upto fnFieldsSpec)

/-- 'laws.FnExactPageBytes', WHERE WHAT IT READS IS OF BULK AT MOST 1048576: true; the input reads as it did. -/
def fnExactPageBytesUptoRow : OpenClaim := { program := "yteaefjicpefgnaa", sum := "157c999ea2843ae091faf55fe5c0e720b4640d5cb18568d1c66868489be24c96", func := "loop.example/g00332/laws.FnExactPageBytes", spec := "fnExactPageBytes", unfollowed := true, recurses := true, apart := false, narrowed := true }
def FnExactPageBytesUptoSaid : Prop := fnExactPageBytesUptoRow.holds Try.pinned (OpenSpec.upto fnExactPageBytesSpec)

/-- 'laws.FnExactReadPage', WHERE WHAT IT READS IS OF BULK AT MOST 1048576: true; the input reads as it did. -/
def fnExactReadPageUptoRow : OpenClaim := { program := "yteaefjicpefgnaa", sum := "157c999ea2843ae091faf55fe5c0e720b4640d5cb18568d1c66868489be24c96", func := "loop.example/g00332/laws.FnExactReadPage", spec := "fnExactReadPage", unfollowed := true, recurses := true, apart := false, narrowed := true }
def FnExactReadPageUptoSaid : Prop := fnExactReadPageUptoRow.holds Try.pinned (OpenSpec.upto fnExactReadPageSpec)

/-- 'laws.FnExactRecordOK', WHERE WHAT IT READS IS OF BULK AT MOST 1048576: true; the input reads as it did. -/
def fnExactRecordOKUptoRow : OpenClaim := { program := "yteaefjicpefgnaa", sum := "157c999ea2843ae091faf55fe5c0e720b4640d5cb18568d1c66868489be24c96", func := "loop.example/g00332/laws.FnExactRecordOK", spec := "fnExactRecordOK", apart := false, narrowed := true }
def FnExactRecordOKUptoSaid : Prop := fnExactRecordOKUptoRow.holds Try.pinned (OpenSpec.upto fnExactRecordOKSpec)

/-- 'laws.FnExactRecordBytes', WHERE WHAT IT READS IS OF BULK AT MOST 1048576: true; the input reads as it did. -/
def fnExactRecordBytesUptoRow : OpenClaim := { program := "yteaefjicpefgnaa", sum := "157c999ea2843ae091faf55fe5c0e720b4640d5cb18568d1c66868489be24c96", func := "loop.example/g00332/laws.FnExactRecordBytes", spec := "fnExactRecordBytes", apart := false, narrowed := true }
def FnExactRecordBytesUptoSaid : Prop := fnExactRecordBytesUptoRow.holds Try.pinned (OpenSpec.upto fnExactRecordBytesSpec)

/-- 'laws.FnExactReadRecord', WHERE WHAT IT READS IS OF BULK AT MOST 1048576: true; the input reads as it did. -/
def fnExactReadRecordUptoRow : OpenClaim := { program := "yteaefjicpefgnaa", sum := "157c999ea2843ae091faf55fe5c0e720b4640d5cb18568d1c66868489be24c96", func := "loop.example/g00332/laws.FnExactReadRecord", spec := "fnExactReadRecord", apart := false, narrowed := true }
def FnExactReadRecordUptoSaid : Prop := fnExactReadRecordUptoRow.holds Try.pinned (OpenSpec.upto fnExactReadRecordSpec)

/-- 'laws.FnRecord', WHERE WHAT IT READS IS OF BULK AT MOST 1048576: true; the input reads as it did. -/
def fnRecordUptoRow : OpenClaim := { program := "yteaefjicpefgnaa", sum := "157c999ea2843ae091faf55fe5c0e720b4640d5cb18568d1c66868489be24c96", func := "loop.example/g00332/laws.FnRecord", spec := "fnRecord", apart := false, narrowed := true }
def FnRecordUptoSaid : Prop := fnRecordUptoRow.holds Try.pinned (OpenSpec.upto fnRecordSpec)

/-- 'laws.FnExactKeyBytes', WHERE WHAT IT READS IS OF BULK AT MOST 1048576: true; the input reads as it did. -/
def fnExactKeyBytesUptoRow : OpenClaim := { program := "yteaefjicpefgnaa", sum := "157c999ea2843ae091faf55fe5c0e720b4640d5cb18568d1c66868489be24c96", func := "loop.example/g00332/laws.FnExactKeyBytes", spec := "fnExactKeyBytes", unfollowed := true, recurses := true, apart := false, narrowed := true }
def FnExactKeyBytesUptoSaid : Prop := fnExactKeyBytesUptoRow.holds Try.pinned (OpenSpec.upto fnExactKeyBytesSpec)

end Rows
end Go.Proofs.Yteaefjicpefgnaa
