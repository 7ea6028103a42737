/-
  No cell of these rows narrows 'for every input' (looked for: loops, veiled, ifaces, maps, wideKeys, modest, calm, conditions, laid).
  DERIVED. THE GIVEN ROWS OF THIS SEAT. 11 by the template 'for every input the law returns true; each argument reads behind the call as it read before'; 0 by the template 'total and deterministic' (their statements: YthfkfdfcgldbeaaTotals.lean).
  GIVEN WITH THE SEED: the statements are not yours to turn. If you find one false, say at which input.
  Laid BY PROGRAM, IN A SANDBOX (cutbox-rows.mjs): the forced cells as the released guide's own fill.sh prints them over the translation be8f17be9b52a773… (all of the seat's roots in one cut). By AI agents, Wed Nov 11 2026. No macro, syntax, notation, axiom, sorry.
-/
import Derived.Test.YthfkfdfcgldbeaaChecked
import GoSem.Claim
import GoSem.ClaimJoined
import GoSem.ClaimMapViews
import Derived.JoinedTies
import Derived.KernelRfl
namespace Go.Proofs.Ythfkfdfcgldbeaa
/- THE CELL 'sum', in the pinned program and in every row, IS THE sha256 OF THE DUMP (.gsa) THAT YthfkfdfcgldbeaaProg.lean LOADS. Nothing in Lean hashes anything: it is a label: what it is worth is what the hold of that sum in a sandbox is worth. -/
noncomputable def Try.pinned : Pinned := { name := "ythfkfdfcgldbeaa", sum := "be8f17be9b52a773725343370c5eaa8c3a7e6565e4f8d8a23b6e4202bebaf272", checked := Try.checked }
namespace Rows
def none {H : Type} : Left H := { results := [], args := [] }

/-- 'laws.FnExactRowBytes': WHATEVER THE INPUT: true; the input reads as it did. -/
def fnExactRowBytesSpec : ChangeSpec := { name := "fnExactRowBytes", fn := fun _ => fun
  | [d1, d2] => { results := [.lit (.bool true)], args := [d1, d2] }
  | _ => none }
def fnExactRowBytesRow : OpenClaim := { program := "ythfkfdfcgldbeaa", sum := "be8f17be9b52a773725343370c5eaa8c3a7e6565e4f8d8a23b6e4202bebaf272", func := "loop.example/g00332/laws.FnExactRowBytes", spec := "fnExactRowBytes", apart := false }
def FnExactRowBytesSaid : Prop := fnExactRowBytesRow.holds Try.pinned (OpenSpec.ofChange fnExactRowBytesSpec)

/-- ITS FALSE NEIGHBOUR: 'it returns false'. Refute it at one input. -/
def fnExactRowBytesWrong : ChangeSpec := { name := "fnExactRowBytes", fn := fun _ => fun
  | [d1, d2] => { results := [.lit (.bool false)], args := [d1, d2] }
  | _ => none }
def FnExactRowBytesWrongFalsely : Prop := fnExactRowBytesRow.holds Try.pinned (OpenSpec.ofChange fnExactRowBytesWrong)

/-- 'laws.FnExactReadRow': WHATEVER THE INPUT: true; the input reads as it did. -/
def fnExactReadRowSpec : ChangeSpec := { name := "fnExactReadRow", fn := fun _ => fun
  | [d] => { results := [.lit (.bool true)], args := [d] }
  | _ => none }
def fnExactReadRowRow : OpenClaim := { program := "ythfkfdfcgldbeaa", sum := "be8f17be9b52a773725343370c5eaa8c3a7e6565e4f8d8a23b6e4202bebaf272", func := "loop.example/g00332/laws.FnExactReadRow", spec := "fnExactReadRow", apart := false }
def FnExactReadRowSaid : Prop := fnExactReadRowRow.holds Try.pinned (OpenSpec.ofChange fnExactReadRowSpec)

/-- ITS FALSE NEIGHBOUR: 'it returns false'. Refute it at one input. -/
def fnExactReadRowWrong : ChangeSpec := { name := "fnExactReadRow", fn := fun _ => fun
  | [d] => { results := [.lit (.bool false)], args := [d] }
  | _ => none }
def FnExactReadRowWrongFalsely : Prop := fnExactReadRowRow.holds Try.pinned (OpenSpec.ofChange fnExactReadRowWrong)

/-- 'laws.FnExactReadKey': WHATEVER THE INPUT: true; the input reads as it did. -/
def fnExactReadKeySpec : ChangeSpec := { name := "fnExactReadKey", fn := fun _ => fun
  | [d] => { results := [.lit (.bool true)], args := [d] }
  | _ => none }
def fnExactReadKeyRow : OpenClaim := { program := "ythfkfdfcgldbeaa", sum := "be8f17be9b52a773725343370c5eaa8c3a7e6565e4f8d8a23b6e4202bebaf272", func := "loop.example/g00332/laws.FnExactReadKey", spec := "fnExactReadKey", apart := false }
def FnExactReadKeySaid : Prop := fnExactReadKeyRow.holds Try.pinned (OpenSpec.ofChange fnExactReadKeySpec)

/-- ITS FALSE NEIGHBOUR: 'it returns false'. Refute it at one input. -/
def fnExactReadKeyWrong : ChangeSpec := { name := "fnExactReadKey", fn := fun _ => fun
  | [d] => { results := [.lit (.bool false)], args := [d] }
  | _ => none }
def FnExactReadKeyWrongFalsely : Prop := fnExactReadKeyRow.holds Try.pinned (OpenSpec.ofChange fnExactReadKeyWrong)

/-- 'laws.FnExactExprOK': WHATEVER THE INPUT: true; the input reads as it did. -/
def fnExactExprOKSpec : ChangeSpec := { name := "fnExactExprOK", fn := fun _ => fun
  | [d] => { results := [.lit (.bool true)], args := [d] }
  | _ => none }
def fnExactExprOKRow : OpenClaim := { program := "ythfkfdfcgldbeaa", sum := "be8f17be9b52a773725343370c5eaa8c3a7e6565e4f8d8a23b6e4202bebaf272", func := "loop.example/g00332/laws.FnExactExprOK", spec := "fnExactExprOK", unfollowed := true, recurses := true, apart := false }
def FnExactExprOKSaid : Prop := fnExactExprOKRow.holds Try.pinned (OpenSpec.ofChange fnExactExprOKSpec)

/-- ITS FALSE NEIGHBOUR: 'it returns false'. Refute it at one input. -/
def fnExactExprOKWrong : ChangeSpec := { name := "fnExactExprOK", fn := fun _ => fun
  | [d] => { results := [.lit (.bool false)], args := [d] }
  | _ => none }
def FnExactExprOKWrongFalsely : Prop := fnExactExprOKRow.holds Try.pinned (OpenSpec.ofChange fnExactExprOKWrong)

/-- 'laws.FnExactBinaryValue': WHATEVER THE INPUT: true; the input reads as it did. -/
def fnExactBinaryValueSpec : ChangeSpec := { name := "fnExactBinaryValue", fn := fun _ => fun
  | [d1, d2, d3] => { results := [.lit (.bool true)], args := [d1, d2, d3] }
  | _ => none }
def fnExactBinaryValueRow : OpenClaim := { program := "ythfkfdfcgldbeaa", sum := "be8f17be9b52a773725343370c5eaa8c3a7e6565e4f8d8a23b6e4202bebaf272", func := "loop.example/g00332/laws.FnExactBinaryValue", spec := "fnExactBinaryValue", apart := false }
def FnExactBinaryValueSaid : Prop := fnExactBinaryValueRow.holds Try.pinned (OpenSpec.ofChange fnExactBinaryValueSpec)

/-- ITS FALSE NEIGHBOUR: 'it returns false'. Refute it at one input. -/
def fnExactBinaryValueWrong : ChangeSpec := { name := "fnExactBinaryValue", fn := fun _ => fun
  | [d1, d2, d3] => { results := [.lit (.bool false)], args := [d1, d2, d3] }
  | _ => none }
def FnExactBinaryValueWrongFalsely : Prop := fnExactBinaryValueRow.holds Try.pinned (OpenSpec.ofChange fnExactBinaryValueWrong)

/-- 'laws.FnValues': WHATEVER THE INPUT: true; the input reads as it did. -/
def fnValuesSpec : ChangeSpec := { name := "fnValues", fn := fun _ => fun
  | [d1, d2] => { results := [.lit (.bool true)], args := [d1, d2] }
  | _ => none }
def fnValuesRow : OpenClaim := { program := "ythfkfdfcgldbeaa", sum := "be8f17be9b52a773725343370c5eaa8c3a7e6565e4f8d8a23b6e4202bebaf272", func := "loop.example/g00332/laws.FnValues", spec := "fnValues", apart := false }
def FnValuesSaid : Prop := fnValuesRow.holds Try.pinned (OpenSpec.ofChange fnValuesSpec)

/-- ITS FALSE NEIGHBOUR: 'it returns false'. Refute it at one input. -/
def fnValuesWrong : ChangeSpec := { name := "fnValues", fn := fun _ => fun
  | [d1, d2] => { results := [.lit (.bool false)], args := [d1, d2] }
  | _ => none }
def FnValuesWrongFalsely : Prop := fnValuesRow.holds Try.pinned (OpenSpec.ofChange fnValuesWrong)

/-- 'laws.FnExactLexSql': WHATEVER THE INPUT: true; the input reads as it did. -/
def fnExactLexSqlSpec : ChangeSpec := { name := "fnExactLexSql", fn := fun _ => fun
  | [d] => { results := [.lit (.bool true)], args := [d] }
  | _ => none }
def fnExactLexSqlRow : OpenClaim := { program := "ythfkfdfcgldbeaa", sum := "be8f17be9b52a773725343370c5eaa8c3a7e6565e4f8d8a23b6e4202bebaf272", func := "loop.example/g00332/laws.FnExactLexSql", spec := "fnExactLexSql", inPlace := ["internal/bytealg.IndexByteString", "internal/bytealg.IndexString"], unfollowed := true, recurses := true, named := ["internal/bytealg.MaxLen"], apart := false }
def FnExactLexSqlSaid : Prop := fnExactLexSqlRow.holds Try.pinned (OpenSpec.ofChange fnExactLexSqlSpec)

/-- ITS FALSE NEIGHBOUR: 'it returns false'. Refute it at one input. -/
def fnExactLexSqlWrong : ChangeSpec := { name := "fnExactLexSql", fn := fun _ => fun
  | [d] => { results := [.lit (.bool false)], args := [d] }
  | _ => none }
def FnExactLexSqlWrongFalsely : Prop := fnExactLexSqlRow.holds Try.pinned (OpenSpec.ofChange fnExactLexSqlWrong)

/-- 'laws.FnExactNewTree': WHATEVER THE INPUT: true; the input reads as it did. -/
def fnExactNewTreeSpec : ChangeSpec := { name := "fnExactNewTree", fn := fun _ => fun
  | [] => { results := [.lit (.bool true)], args := [] }
  | _ => none }
def fnExactNewTreeRow : OpenClaim := { program := "ythfkfdfcgldbeaa", sum := "be8f17be9b52a773725343370c5eaa8c3a7e6565e4f8d8a23b6e4202bebaf272", func := "loop.example/g00332/laws.FnExactNewTree", spec := "fnExactNewTree", apart := false }
def FnExactNewTreeSaid : Prop := fnExactNewTreeRow.holds Try.pinned (OpenSpec.ofChange fnExactNewTreeSpec)

/-- ITS FALSE NEIGHBOUR: 'it returns false'. Refute it at one input. -/
def fnExactNewTreeWrong : ChangeSpec := { name := "fnExactNewTree", fn := fun _ => fun
  | [] => { results := [.lit (.bool false)], args := [] }
  | _ => none }
def FnExactNewTreeWrongFalsely : Prop := fnExactNewTreeRow.holds Try.pinned (OpenSpec.ofChange fnExactNewTreeWrong)

/-- 'laws.FnExactTreeOK': WHATEVER THE INPUT: true; the input reads as it did. -/
def fnExactTreeOKSpec : ChangeSpec := { name := "fnExactTreeOK", fn := fun _ => fun
  | [d] => { results := [.lit (.bool true)], args := [d] }
  | _ => none }
def fnExactTreeOKRow : OpenClaim := { program := "ythfkfdfcgldbeaa", sum := "be8f17be9b52a773725343370c5eaa8c3a7e6565e4f8d8a23b6e4202bebaf272", func := "loop.example/g00332/laws.FnExactTreeOK", spec := "fnExactTreeOK", recurses := true, apart := false }
def FnExactTreeOKSaid : Prop := fnExactTreeOKRow.holds Try.pinned (OpenSpec.ofChange fnExactTreeOKSpec)

/-- ITS FALSE NEIGHBOUR: 'it returns false'. Refute it at one input. -/
def fnExactTreeOKWrong : ChangeSpec := { name := "fnExactTreeOK", fn := fun _ => fun
  | [d] => { results := [.lit (.bool false)], args := [d] }
  | _ => none }
def FnExactTreeOKWrongFalsely : Prop := fnExactTreeOKRow.holds Try.pinned (OpenSpec.ofChange fnExactTreeOKWrong)

/-- 'laws.FnExactTreeDepth': WHATEVER THE INPUT: true; the input reads as it did. -/
def fnExactTreeDepthSpec : ChangeSpec := { name := "fnExactTreeDepth", fn := fun _ => fun
  | [d] => { results := [.lit (.bool true)], args := [d] }
  | _ => none }
def fnExactTreeDepthRow : OpenClaim := { program := "ythfkfdfcgldbeaa", sum := "be8f17be9b52a773725343370c5eaa8c3a7e6565e4f8d8a23b6e4202bebaf272", func := "loop.example/g00332/laws.FnExactTreeDepth", spec := "fnExactTreeDepth", recurses := true, apart := false }
def FnExactTreeDepthSaid : Prop := fnExactTreeDepthRow.holds Try.pinned (OpenSpec.ofChange fnExactTreeDepthSpec)

/-- ITS FALSE NEIGHBOUR: 'it returns false'. Refute it at one input. -/
def fnExactTreeDepthWrong : ChangeSpec := { name := "fnExactTreeDepth", fn := fun _ => fun
  | [d] => { results := [.lit (.bool false)], args := [d] }
  | _ => none }
def FnExactTreeDepthWrongFalsely : Prop := fnExactTreeDepthRow.holds Try.pinned (OpenSpec.ofChange fnExactTreeDepthWrong)

/-- 'laws.FnExactDiskOK': WHATEVER THE INPUT: true; the input reads as it did. -/
def fnExactDiskOKSpec : ChangeSpec := { name := "fnExactDiskOK", fn := fun _ => fun
  | [d] => { results := [.lit (.bool true)], args := [d] }
  | _ => none }
def fnExactDiskOKRow : OpenClaim := { program := "ythfkfdfcgldbeaa", sum := "be8f17be9b52a773725343370c5eaa8c3a7e6565e4f8d8a23b6e4202bebaf272", func := "loop.example/g00332/laws.FnExactDiskOK", spec := "fnExactDiskOK", unfollowed := true, recurses := true, apart := false }
def FnExactDiskOKSaid : Prop := fnExactDiskOKRow.holds Try.pinned (OpenSpec.ofChange fnExactDiskOKSpec)

/-- ITS FALSE NEIGHBOUR: 'it returns false'. Refute it at one input. -/
def fnExactDiskOKWrong : ChangeSpec := { name := "fnExactDiskOK", fn := fun _ => fun
  | [d] => { results := [.lit (.bool false)], args := [d] }
  | _ => none }
def FnExactDiskOKWrongFalsely : Prop := fnExactDiskOKRow.holds Try.pinned (OpenSpec.ofChange fnExactDiskOKWrong)

/- THE SECOND FORM. 'bulk': how many values and letters a reading holds, each counted each time it is reached (what is shared counts as often as it is met; a slice's spare places count too). A statement '..UptoSaid' is the law's where the arguments, and the package variables that the reading takes, are together of bulk at most 1048576: NARROWER than '..Said'. Prove '..Said' where nothing that the law and all that it calls make is longer than what came in: it says more and counts as full. Else prove '..UptoSaid'. A law counts once. -/
mutual
def uptoBulk {H : Type} : DataW H → Nat
  | .lit (.string bytes) => bytes.length + 1
  | .lit _ => 1
  | .nil => 1
  | .ptr d => uptoBulk d + 1
  | .slice elems spare => uptoBulkAll elems + uptoBulkAll spare + 1
  | .agg parts => uptoBulkAll parts + 1
  | .iface _ d => uptoBulk d + 1
  | .map entries => uptoBulkEntries entries + 1
  | .held _ => 1
def uptoBulkAll {H : Type} : List (DataW H) → Nat
  | [] => 0
  | d :: r => uptoBulk d + uptoBulkAll r
def uptoBulkEntries {H : Type} : List (Lit × DataW H) → Nat
  | [] => 0
  | x :: r => uptoBulkEntry x + uptoBulkEntries r
def uptoBulkEntry {H : Type} : Lit × DataW H → Nat
  | (.string bytes, d) => bytes.length + uptoBulk d + 1
  | (_, d) => uptoBulk d + 1
 end
def uptoSmall : (H : Type) → List (DataW H) → Bool := fun _ ds => decide (uptoBulkAll ds ≤ 1048576)
def OpenSpec.upto (s : _root_.Go.ChangeSpec) : _root_.Go.OpenSpec := { _root_.Go.OpenSpec.ofChange s with cond := some uptoSmall }

/-- 'laws.FnExactRowBytes', WHERE WHAT IT READS IS OF BULK AT MOST 1048576: true; the input reads as it did. -/
def fnExactRowBytesUptoRow : OpenClaim := { program := "ythfkfdfcgldbeaa", sum := "be8f17be9b52a773725343370c5eaa8c3a7e6565e4f8d8a23b6e4202bebaf272", func := "loop.example/g00332/laws.FnExactRowBytes", spec := "fnExactRowBytes", apart := false, narrowed := true }
def FnExactRowBytesUptoSaid : Prop := fnExactRowBytesUptoRow.holds Try.pinned (OpenSpec.upto fnExactRowBytesSpec)

/-- 'laws.FnExactReadRow', WHERE WHAT IT READS IS OF BULK AT MOST 1048576: true; the input reads as it did. -/
def fnExactReadRowUptoRow : OpenClaim := { program := "ythfkfdfcgldbeaa", sum := "be8f17be9b52a773725343370c5eaa8c3a7e6565e4f8d8a23b6e4202bebaf272", func := "loop.example/g00332/laws.FnExactReadRow", spec := "fnExactReadRow", apart := false, narrowed := true }
def FnExactReadRowUptoSaid : Prop := fnExactReadRowUptoRow.holds Try.pinned (OpenSpec.upto fnExactReadRowSpec)

/-- 'laws.FnExactReadKey', WHERE WHAT IT READS IS OF BULK AT MOST 1048576: true; the input reads as it did. -/
def fnExactReadKeyUptoRow : OpenClaim := { program := "ythfkfdfcgldbeaa", sum := "be8f17be9b52a773725343370c5eaa8c3a7e6565e4f8d8a23b6e4202bebaf272", func := "loop.example/g00332/laws.FnExactReadKey", spec := "fnExactReadKey", apart := false, narrowed := true }
def FnExactReadKeyUptoSaid : Prop := fnExactReadKeyUptoRow.holds Try.pinned (OpenSpec.upto fnExactReadKeySpec)

/-- 'laws.FnExactExprOK', WHERE WHAT IT READS IS OF BULK AT MOST 1048576: true; the input reads as it did. -/
def fnExactExprOKUptoRow : OpenClaim := { program := "ythfkfdfcgldbeaa", sum := "be8f17be9b52a773725343370c5eaa8c3a7e6565e4f8d8a23b6e4202bebaf272", func := "loop.example/g00332/laws.FnExactExprOK", spec := "fnExactExprOK", unfollowed := true, recurses := true, apart := false, narrowed := true }
def FnExactExprOKUptoSaid : Prop := fnExactExprOKUptoRow.holds Try.pinned (OpenSpec.upto fnExactExprOKSpec)

/-- 'laws.FnExactBinaryValue', WHERE WHAT IT READS IS OF BULK AT MOST 1048576: true; the input reads as it did. -/
def fnExactBinaryValueUptoRow : OpenClaim := { program := "ythfkfdfcgldbeaa", sum := "be8f17be9b52a773725343370c5eaa8c3a7e6565e4f8d8a23b6e4202bebaf272", func := "loop.example/g00332/laws.FnExactBinaryValue", spec := "fnExactBinaryValue", apart := false, narrowed := true }
def FnExactBinaryValueUptoSaid : Prop := fnExactBinaryValueUptoRow.holds Try.pinned (OpenSpec.upto fnExactBinaryValueSpec)

/-- 'laws.FnValues', WHERE WHAT IT READS IS OF BULK AT MOST 1048576: true; the input reads as it did. -/
def fnValuesUptoRow : OpenClaim := { program := "ythfkfdfcgldbeaa", sum := "be8f17be9b52a773725343370c5eaa8c3a7e6565e4f8d8a23b6e4202bebaf272", func := "loop.example/g00332/laws.FnValues", spec := "fnValues", apart := false, narrowed := true }
def FnValuesUptoSaid : Prop := fnValuesUptoRow.holds Try.pinned (OpenSpec.upto fnValuesSpec)

/-- 'laws.FnExactLexSql', WHERE WHAT IT READS IS OF BULK AT MOST 1048576: true; the input reads as it did. -/
def fnExactLexSqlUptoRow : OpenClaim := { program := "ythfkfdfcgldbeaa", sum := "be8f17be9b52a773725343370c5eaa8c3a7e6565e4f8d8a23b6e4202bebaf272", func := "loop.example/g00332/laws.FnExactLexSql", spec := "fnExactLexSql", inPlace := ["internal/bytealg.IndexByteString", "internal/bytealg.IndexString"], unfollowed := true, recurses := true, named := ["internal/bytealg.MaxLen"], apart := false, narrowed := true }
def FnExactLexSqlUptoSaid : Prop := fnExactLexSqlUptoRow.holds Try.pinned (OpenSpec.upto fnExactLexSqlSpec)

/-- 'laws.FnExactNewTree', WHERE WHAT IT READS IS OF BULK AT MOST 1048576: true; the input reads as it did. -/
def fnExactNewTreeUptoRow : OpenClaim := { program := "ythfkfdfcgldbeaa", sum := "be8f17be9b52a773725343370c5eaa8c3a7e6565e4f8d8a23b6e4202bebaf272", func := "loop.example/g00332/laws.FnExactNewTree", spec := "fnExactNewTree", apart := false, narrowed := true }
def FnExactNewTreeUptoSaid : Prop := fnExactNewTreeUptoRow.holds Try.pinned (OpenSpec.upto fnExactNewTreeSpec)

/-- 'laws.FnExactTreeOK', WHERE WHAT IT READS IS OF BULK AT MOST 1048576: true; the input reads as it did. -/
def fnExactTreeOKUptoRow : OpenClaim := { program := "ythfkfdfcgldbeaa", sum := "be8f17be9b52a773725343370c5eaa8c3a7e6565e4f8d8a23b6e4202bebaf272", func := "loop.example/g00332/laws.FnExactTreeOK", spec := "fnExactTreeOK", recurses := true, apart := false, narrowed := true }
def FnExactTreeOKUptoSaid : Prop := fnExactTreeOKUptoRow.holds Try.pinned (OpenSpec.upto fnExactTreeOKSpec)

/-- 'laws.FnExactTreeDepth', WHERE WHAT IT READS IS OF BULK AT MOST 1048576: true; the input reads as it did. -/
def fnExactTreeDepthUptoRow : OpenClaim := { program := "ythfkfdfcgldbeaa", sum := "be8f17be9b52a773725343370c5eaa8c3a7e6565e4f8d8a23b6e4202bebaf272", func := "loop.example/g00332/laws.FnExactTreeDepth", spec := "fnExactTreeDepth", recurses := true, apart := false, narrowed := true }
def FnExactTreeDepthUptoSaid : Prop := fnExactTreeDepthUptoRow.holds Try.pinned (OpenSpec.upto fnExactTreeDepthSpec)

/-- 'laws.FnExactDiskOK', WHERE WHAT IT READS IS OF BULK AT MOST 1048576: true; the input reads as it did. -/
def fnExactDiskOKUptoRow : OpenClaim := { program := "ythfkfdfcgldbeaa", sum := "be8f17be9b52a773725343370c5eaa8c3a7e6565e4f8d8a23b6e4202bebaf272", func := "loop.example/g00332/laws.FnExactDiskOK", spec := "fnExactDiskOK", unfollowed := true, recurses := true, apart := false, narrowed := true }
def FnExactDiskOKUptoSaid : Prop := fnExactDiskOKUptoRow.holds Try.pinned (OpenSpec.upto fnExactDiskOKSpec)

end Rows
end Go.Proofs.Ythfkfdfcgldbeaa
