/-
  No cell of these rows narrows 'for every input' (looked for: loops, veiled, ifaces, maps, wideKeys, modest, calm, conditions, laid).
  DERIVED. THE GIVEN ROWS OF THIS SEAT. 10 by the template 'for every input the law returns true; each argument reads behind the call as it read before'; 0 by the template 'total and deterministic' (their statements: YtpjpkkninkpllaaTotals.lean).
  GIVEN WITH THE SEED: the statements are not yours to turn. If you find one false, say at which input.
  Laid BY PROGRAM, IN A SANDBOX (cutbox-rows.mjs): the forced cells as the released guide's own fill.sh prints them over the translation 706b66606ddd7df5… (all of the seat's roots in one cut). By AI agents, Wed Nov 11 2026. No macro, syntax, notation, axiom, sorry.
-/
import Derived.Test.YtpjpkkninkpllaaChecked
import GoSem.Claim
import GoSem.ClaimJoined
import GoSem.ClaimMapViews
import Derived.JoinedTies
import Derived.KernelRfl
namespace Go.Proofs.Ytpjpkkninkpllaa
/- THE CELL 'sum', in the pinned program and in every row, IS THE sha256 OF THE DUMP (.gsa) THAT YtpjpkkninkpllaaProg.lean LOADS. Nothing in Lean hashes anything: it is a label: what it is worth is what the hold of that sum in a sandbox is worth. -/
noncomputable def Try.pinned : Pinned := { name := "ytpjpkkninkpllaa", sum := "706b66606ddd7df5559ab18980677bcdd5316fa26323fe2964df38958ee11312", checked := Try.checked }
namespace Rows
def none {H : Type} : Left H := { results := [], args := [] }

/-- 'laws.FnExactConstants': WHATEVER THE INPUT: true; the input reads as it did. -/
def fnExactConstantsSpec : ChangeSpec := { name := "fnExactConstants", fn := fun _ => fun
  | [] => { results := [.lit (.bool true)], args := [] }
  | _ => none }
def fnExactConstantsRow : OpenClaim := { program := "ytpjpkkninkpllaa", sum := "706b66606ddd7df5559ab18980677bcdd5316fa26323fe2964df38958ee11312", func := "loop.example/g00332/laws.FnExactConstants", spec := "fnExactConstants", apart := false }
def FnExactConstantsSaid : Prop := fnExactConstantsRow.holds Try.pinned (OpenSpec.ofChange fnExactConstantsSpec)

/-- ITS FALSE NEIGHBOUR: 'it returns false'. Refute it at one input. -/
def fnExactConstantsWrong : ChangeSpec := { name := "fnExactConstants", fn := fun _ => fun
  | [] => { results := [.lit (.bool false)], args := [] }
  | _ => none }
def FnExactConstantsWrongFalsely : Prop := fnExactConstantsRow.holds Try.pinned (OpenSpec.ofChange fnExactConstantsWrong)

/-- 'laws.FnExactModesFit': WHATEVER THE INPUT: true; the input reads as it did. -/
def fnExactModesFitSpec : ChangeSpec := { name := "fnExactModesFit", fn := fun _ => fun
  | [d1, d2] => { results := [.lit (.bool true)], args := [d1, d2] }
  | _ => none }
def fnExactModesFitRow : OpenClaim := { program := "ytpjpkkninkpllaa", sum := "706b66606ddd7df5559ab18980677bcdd5316fa26323fe2964df38958ee11312", func := "loop.example/g00332/laws.FnExactModesFit", spec := "fnExactModesFit", apart := false }
def FnExactModesFitSaid : Prop := fnExactModesFitRow.holds Try.pinned (OpenSpec.ofChange fnExactModesFitSpec)

/-- ITS FALSE NEIGHBOUR: 'it returns false'. Refute it at one input. -/
def fnExactModesFitWrong : ChangeSpec := { name := "fnExactModesFit", fn := fun _ => fun
  | [d1, d2] => { results := [.lit (.bool false)], args := [d1, d2] }
  | _ => none }
def FnExactModesFitWrongFalsely : Prop := fnExactModesFitRow.holds Try.pinned (OpenSpec.ofChange fnExactModesFitWrong)

/-- 'laws.FnExactNameOK': WHATEVER THE INPUT: true; the input reads as it did. -/
def fnExactNameOKSpec : ChangeSpec := { name := "fnExactNameOK", fn := fun _ => fun
  | [d] => { results := [.lit (.bool true)], args := [d] }
  | _ => none }
def fnExactNameOKRow : OpenClaim := { program := "ytpjpkkninkpllaa", sum := "706b66606ddd7df5559ab18980677bcdd5316fa26323fe2964df38958ee11312", func := "loop.example/g00332/laws.FnExactNameOK", spec := "fnExactNameOK", apart := false }
def FnExactNameOKSaid : Prop := fnExactNameOKRow.holds Try.pinned (OpenSpec.ofChange fnExactNameOKSpec)

/-- ITS FALSE NEIGHBOUR: 'it returns false'. Refute it at one input. -/
def fnExactNameOKWrong : ChangeSpec := { name := "fnExactNameOK", fn := fun _ => fun
  | [d] => { results := [.lit (.bool false)], args := [d] }
  | _ => none }
def FnExactNameOKWrongFalsely : Prop := fnExactNameOKRow.holds Try.pinned (OpenSpec.ofChange fnExactNameOKWrong)

/-- 'laws.FnCheck': WHATEVER THE INPUT: true; the input reads as it did. -/
def fnCheckSpec : ChangeSpec := { name := "fnCheck", fn := fun _ => fun
  | [d1, d2] => { results := [.lit (.bool true)], args := [d1, d2] }
  | _ => none }
def fnCheckRow : OpenClaim := { program := "ytpjpkkninkpllaa", sum := "706b66606ddd7df5559ab18980677bcdd5316fa26323fe2964df38958ee11312", func := "loop.example/g00332/laws.FnCheck", spec := "fnCheck", apart := false }
def FnCheckSaid : Prop := fnCheckRow.holds Try.pinned (OpenSpec.ofChange fnCheckSpec)

/-- ITS FALSE NEIGHBOUR: 'it returns false'. Refute it at one input. -/
def fnCheckWrong : ChangeSpec := { name := "fnCheck", fn := fun _ => fun
  | [d1, d2] => { results := [.lit (.bool false)], args := [d1, d2] }
  | _ => none }
def FnCheckWrongFalsely : Prop := fnCheckRow.holds Try.pinned (OpenSpec.ofChange fnCheckWrong)

/-- 'laws.FnExactCheck32': WHATEVER THE INPUT: true; the input reads as it did. -/
def fnExactCheck32Spec : ChangeSpec := { name := "fnExactCheck32", fn := fun _ => fun
  | [d] => { results := [.lit (.bool true)], args := [d] }
  | _ => none }
def fnExactCheck32Row : OpenClaim := { program := "ytpjpkkninkpllaa", sum := "706b66606ddd7df5559ab18980677bcdd5316fa26323fe2964df38958ee11312", func := "loop.example/g00332/laws.FnExactCheck32", spec := "fnExactCheck32", apart := false }
def FnExactCheck32Said : Prop := fnExactCheck32Row.holds Try.pinned (OpenSpec.ofChange fnExactCheck32Spec)

/-- ITS FALSE NEIGHBOUR: 'it returns false'. Refute it at one input. -/
def fnExactCheck32Wrong : ChangeSpec := { name := "fnExactCheck32", fn := fun _ => fun
  | [d] => { results := [.lit (.bool false)], args := [d] }
  | _ => none }
def FnExactCheck32WrongFalsely : Prop := fnExactCheck32Row.holds Try.pinned (OpenSpec.ofChange fnExactCheck32Wrong)

/-- 'laws.FnExactValueOK': WHATEVER THE INPUT: true; the input reads as it did. -/
def fnExactValueOKSpec : ChangeSpec := { name := "fnExactValueOK", fn := fun _ => fun
  | [d] => { results := [.lit (.bool true)], args := [d] }
  | _ => none }
def fnExactValueOKRow : OpenClaim := { program := "ytpjpkkninkpllaa", sum := "706b66606ddd7df5559ab18980677bcdd5316fa26323fe2964df38958ee11312", func := "loop.example/g00332/laws.FnExactValueOK", spec := "fnExactValueOK", apart := false }
def FnExactValueOKSaid : Prop := fnExactValueOKRow.holds Try.pinned (OpenSpec.ofChange fnExactValueOKSpec)

/-- ITS FALSE NEIGHBOUR: 'it returns false'. Refute it at one input. -/
def fnExactValueOKWrong : ChangeSpec := { name := "fnExactValueOK", fn := fun _ => fun
  | [d] => { results := [.lit (.bool false)], args := [d] }
  | _ => none }
def FnExactValueOKWrongFalsely : Prop := fnExactValueOKRow.holds Try.pinned (OpenSpec.ofChange fnExactValueOKWrong)

/-- 'laws.FnExactNewPage': WHATEVER THE INPUT: true; the input reads as it did. -/
def fnExactNewPageSpec : ChangeSpec := { name := "fnExactNewPage", fn := fun _ => fun
  | [] => { results := [.lit (.bool true)], args := [] }
  | _ => none }
def fnExactNewPageRow : OpenClaim := { program := "ytpjpkkninkpllaa", sum := "706b66606ddd7df5559ab18980677bcdd5316fa26323fe2964df38958ee11312", func := "loop.example/g00332/laws.FnExactNewPage", spec := "fnExactNewPage", apart := false }
def FnExactNewPageSaid : Prop := fnExactNewPageRow.holds Try.pinned (OpenSpec.ofChange fnExactNewPageSpec)

/-- ITS FALSE NEIGHBOUR: 'it returns false'. Refute it at one input. -/
def fnExactNewPageWrong : ChangeSpec := { name := "fnExactNewPage", fn := fun _ => fun
  | [] => { results := [.lit (.bool false)], args := [] }
  | _ => none }
def FnExactNewPageWrongFalsely : Prop := fnExactNewPageRow.holds Try.pinned (OpenSpec.ofChange fnExactNewPageWrong)

/-- 'laws.FnExactPageOK': WHATEVER THE INPUT: true; the input reads as it did. -/
def fnExactPageOKSpec : ChangeSpec := { name := "fnExactPageOK", fn := fun _ => fun
  | [d] => { results := [.lit (.bool true)], args := [d] }
  | _ => none }
def fnExactPageOKRow : OpenClaim := { program := "ytpjpkkninkpllaa", sum := "706b66606ddd7df5559ab18980677bcdd5316fa26323fe2964df38958ee11312", func := "loop.example/g00332/laws.FnExactPageOK", spec := "fnExactPageOK", unfollowed := true, recurses := true, apart := false }
def FnExactPageOKSaid : Prop := fnExactPageOKRow.holds Try.pinned (OpenSpec.ofChange fnExactPageOKSpec)

/-- ITS FALSE NEIGHBOUR: 'it returns false'. Refute it at one input. -/
def fnExactPageOKWrong : ChangeSpec := { name := "fnExactPageOK", fn := fun _ => fun
  | [d] => { results := [.lit (.bool false)], args := [d] }
  | _ => none }
def FnExactPageOKWrongFalsely : Prop := fnExactPageOKRow.holds Try.pinned (OpenSpec.ofChange fnExactPageOKWrong)

/-- 'laws.FnExactPageUsed': WHATEVER THE INPUT: true; the input reads as it did. -/
def fnExactPageUsedSpec : ChangeSpec := { name := "fnExactPageUsed", fn := fun _ => fun
  | [d] => { results := [.lit (.bool true)], args := [d] }
  | _ => none }
def fnExactPageUsedRow : OpenClaim := { program := "ytpjpkkninkpllaa", sum := "706b66606ddd7df5559ab18980677bcdd5316fa26323fe2964df38958ee11312", func := "loop.example/g00332/laws.FnExactPageUsed", spec := "fnExactPageUsed", unfollowed := true, recurses := true, apart := false }
def FnExactPageUsedSaid : Prop := fnExactPageUsedRow.holds Try.pinned (OpenSpec.ofChange fnExactPageUsedSpec)

/-- ITS FALSE NEIGHBOUR: 'it returns false'. Refute it at one input. -/
def fnExactPageUsedWrong : ChangeSpec := { name := "fnExactPageUsed", fn := fun _ => fun
  | [d] => { results := [.lit (.bool false)], args := [d] }
  | _ => none }
def FnExactPageUsedWrongFalsely : Prop := fnExactPageUsedRow.holds Try.pinned (OpenSpec.ofChange fnExactPageUsedWrong)

/-- 'laws.FnExactCompareValues': WHATEVER THE INPUT: true; the input reads as it did. -/
def fnExactCompareValuesSpec : ChangeSpec := { name := "fnExactCompareValues", fn := fun _ => fun
  | [d1, d2] => { results := [.lit (.bool true)], args := [d1, d2] }
  | _ => none }
def fnExactCompareValuesRow : OpenClaim := { program := "ytpjpkkninkpllaa", sum := "706b66606ddd7df5559ab18980677bcdd5316fa26323fe2964df38958ee11312", func := "loop.example/g00332/laws.FnExactCompareValues", spec := "fnExactCompareValues", apart := false }
def FnExactCompareValuesSaid : Prop := fnExactCompareValuesRow.holds Try.pinned (OpenSpec.ofChange fnExactCompareValuesSpec)

/-- ITS FALSE NEIGHBOUR: 'it returns false'. Refute it at one input. -/
def fnExactCompareValuesWrong : ChangeSpec := { name := "fnExactCompareValues", fn := fun _ => fun
  | [d1, d2] => { results := [.lit (.bool false)], args := [d1, d2] }
  | _ => none }
def FnExactCompareValuesWrongFalsely : Prop := fnExactCompareValuesRow.holds Try.pinned (OpenSpec.ofChange fnExactCompareValuesWrong)

/- THE SECOND FORM. 'bulk': how many values and letters a reading holds, each counted each time it is reached (what is shared counts as often as it is met; a slice's spare places count too). A statement '..UptoSaid' is the law's where the arguments, and the package variables that the reading takes, are together of bulk at most 1048576: NARROWER than '..Said'. Prove '..Said' where nothing that the law and all that it calls make is longer than what came in: it says more and counts as full. Else prove '..UptoSaid'. A law counts once. -/
mutual
def uptoBulk {H : Type} : DataW H → Nat
  | .lit (.string bytes) => bytes.length + 1
  | .lit _ => 1
  | .nil => 1
  | .ptr d => uptoBulk d + 1
  | .slice elems spare => uptoBulkAll elems + uptoBulkAll spare + 1
  | .agg parts => uptoBulkAll parts + 1
  | .iface _ d => uptoBulk d + 1
  | .map entries => uptoBulkEntries entries + 1
  | .held _ => 1
def uptoBulkAll {H : Type} : List (DataW H) → Nat
  | [] => 0
  | d :: r => uptoBulk d + uptoBulkAll r
def uptoBulkEntries {H : Type} : List (Lit × DataW H) → Nat
  | [] => 0
  | x :: r => uptoBulkEntry x + uptoBulkEntries r
def uptoBulkEntry {H : Type} : Lit × DataW H → Nat
  | (.string bytes, d) => bytes.length + uptoBulk d + 1
  | (_, d) => uptoBulk d + 1
 end
def uptoSmall : (H : Type) → List (DataW H) → Bool := fun _ ds => decide (uptoBulkAll ds ≤ 1048576)
def OpenSpec.upto (s : _root_.Go.ChangeSpec) : _root_.Go.OpenSpec := { _root_.Go.OpenSpec.ofChange s with cond := some uptoSmall }

/-- 'laws.FnExactConstants', WHERE WHAT IT READS IS OF BULK AT MOST 1048576: true; the input reads as it did. -/
def fnExactConstantsUptoRow : OpenClaim := { program := "ytpjpkkninkpllaa", sum := "706b66606ddd7df5559ab18980677bcdd5316fa26323fe2964df38958ee11312", func := "loop.example/g00332/laws.FnExactConstants", spec := "fnExactConstants", apart := false, narrowed := true }
def FnExactConstantsUptoSaid : Prop := fnExactConstantsUptoRow.holds Try.pinned (OpenSpec.upto fnExactConstantsSpec)

/-- 'laws.FnExactModesFit', WHERE WHAT IT READS IS OF BULK AT MOST 1048576: true; the input reads as it did. -/
def fnExactModesFitUptoRow : OpenClaim := { program := "ytpjpkkninkpllaa", sum := "706b66606ddd7df5559ab18980677bcdd5316fa26323fe2964df38958ee11312", func := "loop.example/g00332/laws.FnExactModesFit", spec := "fnExactModesFit", apart := false, narrowed := true }
def FnExactModesFitUptoSaid : Prop := fnExactModesFitUptoRow.holds Try.pinned (OpenSpec.upto fnExactModesFitSpec)

/-- 'laws.FnExactNameOK', WHERE WHAT IT READS IS OF BULK AT MOST 1048576: true; the input reads as it did. -/
def fnExactNameOKUptoRow : OpenClaim := { program := "ytpjpkkninkpllaa", sum := "706b66606ddd7df5559ab18980677bcdd5316fa26323fe2964df38958ee11312", func := "loop.example/g00332/laws.FnExactNameOK", spec := "fnExactNameOK", apart := false, narrowed := true }
def FnExactNameOKUptoSaid : Prop := fnExactNameOKUptoRow.holds Try.pinned (OpenSpec.upto fnExactNameOKSpec)

/-- 'laws.FnCheck', WHERE WHAT IT READS IS OF BULK AT MOST 1048576: true; the input reads as it did. -/
def fnCheckUptoRow : OpenClaim := { program := "ytpjpkkninkpllaa", sum := "706b66606ddd7df5559ab18980677bcdd5316fa26323fe2964df38958ee11312", func := "loop.example/g00332/laws.FnCheck", spec := "fnCheck", apart := false, narrowed := true }
def FnCheckUptoSaid : Prop := fnCheckUptoRow.holds Try.pinned (OpenSpec.upto fnCheckSpec)

/-- 'laws.FnExactCheck32', WHERE WHAT IT READS IS OF BULK AT MOST 1048576: true; the input reads as it did. -/
def fnExactCheck32UptoRow : OpenClaim := { program := "ytpjpkkninkpllaa", sum := "706b66606ddd7df5559ab18980677bcdd5316fa26323fe2964df38958ee11312", func := "loop.example/g00332/laws.FnExactCheck32", spec := "fnExactCheck32", apart := false, narrowed := true }
def FnExactCheck32UptoSaid : Prop := fnExactCheck32UptoRow.holds Try.pinned (OpenSpec.upto fnExactCheck32Spec)

/-- 'laws.FnExactValueOK', WHERE WHAT IT READS IS OF BULK AT MOST 1048576: true; the input reads as it did. -/
def fnExactValueOKUptoRow : OpenClaim := { program := "ytpjpkkninkpllaa", sum := "706b66606ddd7df5559ab18980677bcdd5316fa26323fe2964df38958ee11312", func := "loop.example/g00332/laws.FnExactValueOK", spec := "fnExactValueOK", apart := false, narrowed := true }
def FnExactValueOKUptoSaid : Prop := fnExactValueOKUptoRow.holds Try.pinned (OpenSpec.upto fnExactValueOKSpec)

/-- 'laws.FnExactNewPage', WHERE WHAT IT READS IS OF BULK AT MOST 1048576: true; the input reads as it did. -/
def fnExactNewPageUptoRow : OpenClaim := { program := "ytpjpkkninkpllaa", sum := "706b66606ddd7df5559ab18980677bcdd5316fa26323fe2964df38958ee11312", func := "loop.example/g00332/laws.FnExactNewPage", spec := "fnExactNewPage", apart := false, narrowed := true }
def FnExactNewPageUptoSaid : Prop := fnExactNewPageUptoRow.holds Try.pinned (OpenSpec.upto fnExactNewPageSpec)

/-- 'laws.FnExactPageOK', WHERE WHAT IT READS IS OF BULK AT MOST 1048576: true; the input reads as it did. -/
def fnExactPageOKUptoRow : OpenClaim := { program := "ytpjpkkninkpllaa", sum := "706b66606ddd7df5559ab18980677bcdd5316fa26323fe2964df38958ee11312", func := "loop.example/g00332/laws.FnExactPageOK", spec := "fnExactPageOK", unfollowed := true, recurses := true, apart := false, narrowed := true }
def FnExactPageOKUptoSaid : Prop := fnExactPageOKUptoRow.holds Try.pinned (OpenSpec.upto fnExactPageOKSpec)

/-- 'laws.FnExactPageUsed', WHERE WHAT IT READS IS OF BULK AT MOST 1048576: true; the input reads as it did. -/
def fnExactPageUsedUptoRow : OpenClaim := { program := "ytpjpkkninkpllaa", sum := "706b66606ddd7df5559ab18980677bcdd5316fa26323fe2964df38958ee11312", func := "loop.example/g00332/laws.FnExactPageUsed", spec := "fnExactPageUsed", unfollowed := true, recurses := true, apart := false, narrowed := true }
def FnExactPageUsedUptoSaid : Prop := fnExactPageUsedUptoRow.holds Try.pinned (OpenSpec.upto fnExactPageUsedSpec)

/-- 'laws.FnExactCompareValues', WHERE WHAT IT READS IS OF BULK AT MOST 1048576: true; the input reads as it did. -/
def fnExactCompareValuesUptoRow : OpenClaim := { program := "ytpjpkkninkpllaa", sum := "706b66606ddd7df5559ab18980677bcdd5316fa26323fe2964df38958ee11312", func := "loop.example/g00332/laws.FnExactCompareValues", spec := "fnExactCompareValues", apart := false, narrowed := true }
def FnExactCompareValuesUptoSaid : Prop := fnExactCompareValuesUptoRow.holds Try.pinned (OpenSpec.upto fnExactCompareValuesSpec)

end Rows
end Go.Proofs.Ytpjpkkninkpllaa
