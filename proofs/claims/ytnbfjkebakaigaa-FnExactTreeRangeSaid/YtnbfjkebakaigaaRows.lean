/-
  No cell of these rows narrows 'for every input' (looked for: loops, veiled, ifaces, maps, wideKeys, modest, calm, conditions, laid).
  DERIVED. THE GIVEN ROWS OF THIS SEAT. 11 by the template 'for every input the law returns true; each argument reads behind the call as it read before'; 0 by the template 'total and deterministic' (their statements: YtnbfjkebakaigaaTotals.lean).
  GIVEN WITH THE SEED: the statements are not yours to turn. If you find one false, say at which input.
  Laid BY PROGRAM, IN A SANDBOX (cutbox-rows.mjs): the forced cells as the released guide's own fill.sh prints them over the translation b6f5dd95a05fba27… (all of the seat's roots in one cut). By AI agents, Wed Nov 11 2026. No macro, syntax, notation, axiom, sorry.
-/
import Derived.Test.YtnbfjkebakaigaaChecked
import GoSem.Claim
import GoSem.ClaimJoined
import GoSem.ClaimMapViews
import Derived.JoinedTies
import Derived.KernelRfl
namespace Go.Proofs.Ytnbfjkebakaigaa
/- THE CELL 'sum', in the pinned program and in every row, IS THE sha256 OF THE DUMP (.gsa) THAT YtnbfjkebakaigaaProg.lean LOADS. Nothing in Lean hashes anything: it is a label: what it is worth is what the hold of that sum in a sandbox is worth. -/
noncomputable def Try.pinned : Pinned := { name := "ytnbfjkebakaigaa", sum := "b6f5dd95a05fba27f5dd0a67231a3b582b0104795bfa932b06890a8fca987663", checked := Try.checked }
namespace Rows
def none {H : Type} : Left H := { results := [], args := [] }

/-- 'laws.FnExactNewDisk': WHATEVER THE INPUT: true; the input reads as it did. -/
def fnExactNewDiskSpec : ChangeSpec := { name := "fnExactNewDisk", fn := fun _ => fun
  | [d] => { results := [.lit (.bool true)], args := [d] }
  | _ => none }
def fnExactNewDiskRow : OpenClaim := { program := "ytnbfjkebakaigaa", sum := "b6f5dd95a05fba27f5dd0a67231a3b582b0104795bfa932b06890a8fca987663", func := "loop.example/g00332/laws.FnExactNewDisk", spec := "fnExactNewDisk", apart := false }
def FnExactNewDiskSaid : Prop := fnExactNewDiskRow.holds Try.pinned (OpenSpec.ofChange fnExactNewDiskSpec)

/-- ITS FALSE NEIGHBOUR: 'it returns false'. Refute it at one input. -/
def fnExactNewDiskWrong : ChangeSpec := { name := "fnExactNewDisk", fn := fun _ => fun
  | [d] => { results := [.lit (.bool false)], args := [d] }
  | _ => none }
def FnExactNewDiskWrongFalsely : Prop := fnExactNewDiskRow.holds Try.pinned (OpenSpec.ofChange fnExactNewDiskWrong)

/-- 'laws.FnExactDiskRead': WHATEVER THE INPUT: true; the input reads as it did. -/
def fnExactDiskReadSpec : ChangeSpec := { name := "fnExactDiskRead", fn := fun _ => fun
  | [d1, d2] => { results := [.lit (.bool true)], args := [d1, d2] }
  | _ => none }
def fnExactDiskReadRow : OpenClaim := { program := "ytnbfjkebakaigaa", sum := "b6f5dd95a05fba27f5dd0a67231a3b582b0104795bfa932b06890a8fca987663", func := "loop.example/g00332/laws.FnExactDiskRead", spec := "fnExactDiskRead", unfollowed := true, recurses := true, apart := false }
def FnExactDiskReadSaid : Prop := fnExactDiskReadRow.holds Try.pinned (OpenSpec.ofChange fnExactDiskReadSpec)

/-- ITS FALSE NEIGHBOUR: 'it returns false'. Refute it at one input. -/
def fnExactDiskReadWrong : ChangeSpec := { name := "fnExactDiskRead", fn := fun _ => fun
  | [d1, d2] => { results := [.lit (.bool false)], args := [d1, d2] }
  | _ => none }
def FnExactDiskReadWrongFalsely : Prop := fnExactDiskReadRow.holds Try.pinned (OpenSpec.ofChange fnExactDiskReadWrong)

/-- 'laws.FnExactNewStore': WHATEVER THE INPUT: true; the input reads as it did. -/
def fnExactNewStoreSpec : ChangeSpec := { name := "fnExactNewStore", fn := fun _ => fun
  | [] => { results := [.lit (.bool true)], args := [] }
  | _ => none }
def fnExactNewStoreRow : OpenClaim := { program := "ytnbfjkebakaigaa", sum := "b6f5dd95a05fba27f5dd0a67231a3b582b0104795bfa932b06890a8fca987663", func := "loop.example/g00332/laws.FnExactNewStore", spec := "fnExactNewStore", apart := false }
def FnExactNewStoreSaid : Prop := fnExactNewStoreRow.holds Try.pinned (OpenSpec.ofChange fnExactNewStoreSpec)

/-- ITS FALSE NEIGHBOUR: 'it returns false'. Refute it at one input. -/
def fnExactNewStoreWrong : ChangeSpec := { name := "fnExactNewStore", fn := fun _ => fun
  | [] => { results := [.lit (.bool false)], args := [] }
  | _ => none }
def FnExactNewStoreWrongFalsely : Prop := fnExactNewStoreRow.holds Try.pinned (OpenSpec.ofChange fnExactNewStoreWrong)

/-- 'laws.FnExactDiskPending': WHATEVER THE INPUT: true; the input reads as it did. -/
def fnExactDiskPendingSpec : ChangeSpec := { name := "fnExactDiskPending", fn := fun _ => fun
  | [d] => { results := [.lit (.bool true)], args := [d] }
  | _ => none }
def fnExactDiskPendingRow : OpenClaim := { program := "ytnbfjkebakaigaa", sum := "b6f5dd95a05fba27f5dd0a67231a3b582b0104795bfa932b06890a8fca987663", func := "loop.example/g00332/laws.FnExactDiskPending", spec := "fnExactDiskPending", unfollowed := true, recurses := true, apart := false }
def FnExactDiskPendingSaid : Prop := fnExactDiskPendingRow.holds Try.pinned (OpenSpec.ofChange fnExactDiskPendingSpec)

/-- ITS FALSE NEIGHBOUR: 'it returns false'. Refute it at one input. -/
def fnExactDiskPendingWrong : ChangeSpec := { name := "fnExactDiskPending", fn := fun _ => fun
  | [d] => { results := [.lit (.bool false)], args := [d] }
  | _ => none }
def FnExactDiskPendingWrongFalsely : Prop := fnExactDiskPendingRow.holds Try.pinned (OpenSpec.ofChange fnExactDiskPendingWrong)

/-- 'laws.FnExactNewEngine': WHATEVER THE INPUT: true; the input reads as it did. -/
def fnExactNewEngineSpec : ChangeSpec := { name := "fnExactNewEngine", fn := fun _ => fun
  | [] => { results := [.lit (.bool true)], args := [] }
  | _ => none }
def fnExactNewEngineRow : OpenClaim := { program := "ytnbfjkebakaigaa", sum := "b6f5dd95a05fba27f5dd0a67231a3b582b0104795bfa932b06890a8fca987663", func := "loop.example/g00332/laws.FnExactNewEngine", spec := "fnExactNewEngine", apart := false }
def FnExactNewEngineSaid : Prop := fnExactNewEngineRow.holds Try.pinned (OpenSpec.ofChange fnExactNewEngineSpec)

/-- ITS FALSE NEIGHBOUR: 'it returns false'. Refute it at one input. -/
def fnExactNewEngineWrong : ChangeSpec := { name := "fnExactNewEngine", fn := fun _ => fun
  | [] => { results := [.lit (.bool false)], args := [] }
  | _ => none }
def FnExactNewEngineWrongFalsely : Prop := fnExactNewEngineRow.holds Try.pinned (OpenSpec.ofChange fnExactNewEngineWrong)

/-- 'laws.FnExactLocksOK': WHATEVER THE INPUT: true; the input reads as it did. -/
def fnExactLocksOKSpec : ChangeSpec := { name := "fnExactLocksOK", fn := fun _ => fun
  | [d] => { results := [.lit (.bool true)], args := [d] }
  | _ => none }
def fnExactLocksOKRow : OpenClaim := { program := "ytnbfjkebakaigaa", sum := "b6f5dd95a05fba27f5dd0a67231a3b582b0104795bfa932b06890a8fca987663", func := "loop.example/g00332/laws.FnExactLocksOK", spec := "fnExactLocksOK", unfollowed := true, recurses := true, apart := false }
def FnExactLocksOKSaid : Prop := fnExactLocksOKRow.holds Try.pinned (OpenSpec.ofChange fnExactLocksOKSpec)

/-- ITS FALSE NEIGHBOUR: 'it returns false'. Refute it at one input. -/
def fnExactLocksOKWrong : ChangeSpec := { name := "fnExactLocksOK", fn := fun _ => fun
  | [d] => { results := [.lit (.bool false)], args := [d] }
  | _ => none }
def FnExactLocksOKWrongFalsely : Prop := fnExactLocksOKRow.holds Try.pinned (OpenSpec.ofChange fnExactLocksOKWrong)

/-- 'laws.FnExactHoldsLock': WHATEVER THE INPUT: true; the input reads as it did. -/
def fnExactHoldsLockSpec : ChangeSpec := { name := "fnExactHoldsLock", fn := fun _ => fun
  | [d1, d2, d3, d4, d5] => { results := [.lit (.bool true)], args := [d1, d2, d3, d4, d5] }
  | _ => none }
def fnExactHoldsLockRow : OpenClaim := { program := "ytnbfjkebakaigaa", sum := "b6f5dd95a05fba27f5dd0a67231a3b582b0104795bfa932b06890a8fca987663", func := "loop.example/g00332/laws.FnExactHoldsLock", spec := "fnExactHoldsLock", unfollowed := true, recurses := true, apart := false }
def FnExactHoldsLockSaid : Prop := fnExactHoldsLockRow.holds Try.pinned (OpenSpec.ofChange fnExactHoldsLockSpec)

/-- ITS FALSE NEIGHBOUR: 'it returns false'. Refute it at one input. -/
def fnExactHoldsLockWrong : ChangeSpec := { name := "fnExactHoldsLock", fn := fun _ => fun
  | [d1, d2, d3, d4, d5] => { results := [.lit (.bool false)], args := [d1, d2, d3, d4, d5] }
  | _ => none }
def FnExactHoldsLockWrongFalsely : Prop := fnExactHoldsLockRow.holds Try.pinned (OpenSpec.ofChange fnExactHoldsLockWrong)

/-- 'laws.FnExactWaitsRound': WHATEVER THE INPUT: true; the input reads as it did. -/
def fnExactWaitsRoundSpec : ChangeSpec := { name := "fnExactWaitsRound", fn := fun _ => fun
  | [d1, d2] => { results := [.lit (.bool true)], args := [d1, d2] }
  | _ => none }
def fnExactWaitsRoundRow : OpenClaim := { program := "ytnbfjkebakaigaa", sum := "b6f5dd95a05fba27f5dd0a67231a3b582b0104795bfa932b06890a8fca987663", func := "loop.example/g00332/laws.FnExactWaitsRound", spec := "fnExactWaitsRound", unfollowed := true, recurses := true, apart := false }
def FnExactWaitsRoundSaid : Prop := fnExactWaitsRoundRow.holds Try.pinned (OpenSpec.ofChange fnExactWaitsRoundSpec)

/-- ITS FALSE NEIGHBOUR: 'it returns false'. Refute it at one input. -/
def fnExactWaitsRoundWrong : ChangeSpec := { name := "fnExactWaitsRound", fn := fun _ => fun
  | [d1, d2] => { results := [.lit (.bool false)], args := [d1, d2] }
  | _ => none }
def FnExactWaitsRoundWrongFalsely : Prop := fnExactWaitsRoundRow.holds Try.pinned (OpenSpec.ofChange fnExactWaitsRoundWrong)

/-- 'laws.FnExactLocksOfTx': WHATEVER THE INPUT: true; the input reads as it did. -/
def fnExactLocksOfTxSpec : ChangeSpec := { name := "fnExactLocksOfTx", fn := fun _ => fun
  | [d1, d2] => { results := [.lit (.bool true)], args := [d1, d2] }
  | _ => none }
def fnExactLocksOfTxRow : OpenClaim := { program := "ytnbfjkebakaigaa", sum := "b6f5dd95a05fba27f5dd0a67231a3b582b0104795bfa932b06890a8fca987663", func := "loop.example/g00332/laws.FnExactLocksOfTx", spec := "fnExactLocksOfTx", unfollowed := true, recurses := true, apart := false }
def FnExactLocksOfTxSaid : Prop := fnExactLocksOfTxRow.holds Try.pinned (OpenSpec.ofChange fnExactLocksOfTxSpec)

/-- ITS FALSE NEIGHBOUR: 'it returns false'. Refute it at one input. -/
def fnExactLocksOfTxWrong : ChangeSpec := { name := "fnExactLocksOfTx", fn := fun _ => fun
  | [d1, d2] => { results := [.lit (.bool false)], args := [d1, d2] }
  | _ => none }
def FnExactLocksOfTxWrongFalsely : Prop := fnExactLocksOfTxRow.holds Try.pinned (OpenSpec.ofChange fnExactLocksOfTxWrong)

/-- 'laws.FnExactTreeFind': WHATEVER THE INPUT: true; the input reads as it did. -/
def fnExactTreeFindSpec : ChangeSpec := { name := "fnExactTreeFind", fn := fun _ => fun
  | [d1, d2] => { results := [.lit (.bool true)], args := [d1, d2] }
  | _ => none }
def fnExactTreeFindRow : OpenClaim := { program := "ytnbfjkebakaigaa", sum := "b6f5dd95a05fba27f5dd0a67231a3b582b0104795bfa932b06890a8fca987663", func := "loop.example/g00332/laws.FnExactTreeFind", spec := "fnExactTreeFind", unfollowed := true, recurses := true, apart := false }
def FnExactTreeFindSaid : Prop := fnExactTreeFindRow.holds Try.pinned (OpenSpec.ofChange fnExactTreeFindSpec)

/-- ITS FALSE NEIGHBOUR: 'it returns false'. Refute it at one input. -/
def fnExactTreeFindWrong : ChangeSpec := { name := "fnExactTreeFind", fn := fun _ => fun
  | [d1, d2] => { results := [.lit (.bool false)], args := [d1, d2] }
  | _ => none }
def FnExactTreeFindWrongFalsely : Prop := fnExactTreeFindRow.holds Try.pinned (OpenSpec.ofChange fnExactTreeFindWrong)

/-- 'laws.FnExactTreeRange': WHATEVER THE INPUT: true; the input reads as it did. -/
def fnExactTreeRangeSpec : ChangeSpec := { name := "fnExactTreeRange", fn := fun _ => fun
  | [d1, d2, d3] => { results := [.lit (.bool true)], args := [d1, d2, d3] }
  | _ => none }
def fnExactTreeRangeRow : OpenClaim := { program := "ytnbfjkebakaigaa", sum := "b6f5dd95a05fba27f5dd0a67231a3b582b0104795bfa932b06890a8fca987663", func := "loop.example/g00332/laws.FnExactTreeRange", spec := "fnExactTreeRange", unfollowed := true, recurses := true, apart := false }
def FnExactTreeRangeSaid : Prop := fnExactTreeRangeRow.holds Try.pinned (OpenSpec.ofChange fnExactTreeRangeSpec)

/-- ITS FALSE NEIGHBOUR: 'it returns false'. Refute it at one input. -/
def fnExactTreeRangeWrong : ChangeSpec := { name := "fnExactTreeRange", fn := fun _ => fun
  | [d1, d2, d3] => { results := [.lit (.bool false)], args := [d1, d2, d3] }
  | _ => none }
def FnExactTreeRangeWrongFalsely : Prop := fnExactTreeRangeRow.holds Try.pinned (OpenSpec.ofChange fnExactTreeRangeWrong)

/- THE SECOND FORM. 'bulk': how many values and letters a reading holds, each counted each time it is reached (what is shared counts as often as it is met; a slice's spare places count too). A statement '..UptoSaid' is the law's where the arguments, and the package variables that the reading takes, are together of bulk at most 1048576: NARROWER than '..Said'. Prove '..Said' where nothing that the law and all that it calls make is longer than what came in: it says more and counts as full. Else prove '..UptoSaid'. A law counts once. -/
mutual
def uptoBulk {H : Type} : DataW H → Nat
  | .lit (.string bytes) => bytes.length + 1
  | .lit _ => 1
  | .nil => 1
  | .ptr d => uptoBulk d + 1
  | .slice elems spare => uptoBulkAll elems + uptoBulkAll spare + 1
  | .agg parts => uptoBulkAll parts + 1
  | .iface _ d => uptoBulk d + 1
  | .map entries => uptoBulkEntries entries + 1
  | .held _ => 1
def uptoBulkAll {H : Type} : List (DataW H) → Nat
  | [] => 0
  | d :: r => uptoBulk d + uptoBulkAll r
def uptoBulkEntries {H : Type} : List (Lit × DataW H) → Nat
  | [] => 0
  | x :: r => uptoBulkEntry x + uptoBulkEntries r
def uptoBulkEntry {H : Type} : Lit × DataW H → Nat
  | (.string bytes, d) => bytes.length + uptoBulk d + 1
  | (_, d) => uptoBulk d + 1
 end
def uptoSmall : (H : Type) → List (DataW H) → Bool := fun _ ds => decide (uptoBulkAll ds ≤ 1048576)
def OpenSpec.upto (s : _root_.Go.ChangeSpec) : _root_.Go.OpenSpec := { _root_.Go.OpenSpec.ofChange s with cond := some uptoSmall }

/-- 'laws.FnExactNewDisk', WHERE WHAT IT READS IS OF BULK AT MOST 1048576: true; the input reads as it did. -/
def fnExactNewDiskUptoRow : OpenClaim := { program := "ytnbfjkebakaigaa", sum := "b6f5dd95a05fba27f5dd0a67231a3b582b0104795bfa932b06890a8fca987663", func := "loop.example/g00332/laws.FnExactNewDisk", spec := "fnExactNewDisk", apart := false, narrowed := true }
def FnExactNewDiskUptoSaid : Prop := fnExactNewDiskUptoRow.holds Try.pinned (OpenSpec.upto fnExactNewDiskSpec)

/-- 'laws.FnExactDiskRead', WHERE WHAT IT READS IS OF BULK AT MOST 1048576: true; the input reads as it did. -/
def fnExactDiskReadUptoRow : OpenClaim := { program := "ytnbfjkebakaigaa", sum := "b6f5dd95a05fba27f5dd0a67231a3b582b0104795bfa932b06890a8fca987663", func := "loop.example/g00332/laws.FnExactDiskRead", spec := "fnExactDiskRead", unfollowed := true, recurses := true, apart := false, narrowed := true }
def FnExactDiskReadUptoSaid : Prop := fnExactDiskReadUptoRow.holds Try.pinned (OpenSpec.upto fnExactDiskReadSpec)

/-- 'laws.FnExactNewStore', WHERE WHAT IT READS IS OF BULK AT MOST 1048576: true; the input reads as it did. -/
def fnExactNewStoreUptoRow : OpenClaim := { program := "ytnbfjkebakaigaa", sum := "b6f5dd95a05fba27f5dd0a67231a3b582b0104795bfa932b06890a8fca987663", func := "loop.example/g00332/laws.FnExactNewStore", spec := "fnExactNewStore", apart := false, narrowed := true }
def FnExactNewStoreUptoSaid : Prop := fnExactNewStoreUptoRow.holds Try.pinned (OpenSpec.upto fnExactNewStoreSpec)

/-- 'laws.FnExactDiskPending', WHERE WHAT IT READS IS OF BULK AT MOST 1048576: true; the input reads as it did. -/
def fnExactDiskPendingUptoRow : OpenClaim := { program := "ytnbfjkebakaigaa", sum := "b6f5dd95a05fba27f5dd0a67231a3b582b0104795bfa932b06890a8fca987663", func := "loop.example/g00332/laws.FnExactDiskPending", spec := "fnExactDiskPending", unfollowed := true, recurses := true, apart := false, narrowed := true }
def FnExactDiskPendingUptoSaid : Prop := fnExactDiskPendingUptoRow.holds Try.pinned (OpenSpec.upto fnExactDiskPendingSpec)

/-- 'laws.FnExactNewEngine', WHERE WHAT IT READS IS OF BULK AT MOST 1048576: true; the input reads as it did. -/
def fnExactNewEngineUptoRow : OpenClaim := { program := "ytnbfjkebakaigaa", sum := "b6f5dd95a05fba27f5dd0a67231a3b582b0104795bfa932b06890a8fca987663", func := "loop.example/g00332/laws.FnExactNewEngine", spec := "fnExactNewEngine", apart := false, narrowed := true }
def FnExactNewEngineUptoSaid : Prop := fnExactNewEngineUptoRow.holds Try.pinned (OpenSpec.upto fnExactNewEngineSpec)

/-- 'laws.FnExactLocksOK', WHERE WHAT IT READS IS OF BULK AT MOST 1048576: true; the input reads as it did. -/
def fnExactLocksOKUptoRow : OpenClaim := { program := "ytnbfjkebakaigaa", sum := "b6f5dd95a05fba27f5dd0a67231a3b582b0104795bfa932b06890a8fca987663", func := "loop.example/g00332/laws.FnExactLocksOK", spec := "fnExactLocksOK", unfollowed := true, recurses := true, apart := false, narrowed := true }
def FnExactLocksOKUptoSaid : Prop := fnExactLocksOKUptoRow.holds Try.pinned (OpenSpec.upto fnExactLocksOKSpec)

/-- 'laws.FnExactHoldsLock', WHERE WHAT IT READS IS OF BULK AT MOST 1048576: true; the input reads as it did. -/
def fnExactHoldsLockUptoRow : OpenClaim := { program := "ytnbfjkebakaigaa", sum := "b6f5dd95a05fba27f5dd0a67231a3b582b0104795bfa932b06890a8fca987663", func := "loop.example/g00332/laws.FnExactHoldsLock", spec := "fnExactHoldsLock", unfollowed := true, recurses := true, apart := false, narrowed := true }
def FnExactHoldsLockUptoSaid : Prop := fnExactHoldsLockUptoRow.holds Try.pinned (OpenSpec.upto fnExactHoldsLockSpec)

/-- 'laws.FnExactWaitsRound', WHERE WHAT IT READS IS OF BULK AT MOST 1048576: true; the input reads as it did. -/
def fnExactWaitsRoundUptoRow : OpenClaim := { program := "ytnbfjkebakaigaa", sum := "b6f5dd95a05fba27f5dd0a67231a3b582b0104795bfa932b06890a8fca987663", func := "loop.example/g00332/laws.FnExactWaitsRound", spec := "fnExactWaitsRound", unfollowed := true, recurses := true, apart := false, narrowed := true }
def FnExactWaitsRoundUptoSaid : Prop := fnExactWaitsRoundUptoRow.holds Try.pinned (OpenSpec.upto fnExactWaitsRoundSpec)

/-- 'laws.FnExactLocksOfTx', WHERE WHAT IT READS IS OF BULK AT MOST 1048576: true; the input reads as it did. -/
def fnExactLocksOfTxUptoRow : OpenClaim := { program := "ytnbfjkebakaigaa", sum := "b6f5dd95a05fba27f5dd0a67231a3b582b0104795bfa932b06890a8fca987663", func := "loop.example/g00332/laws.FnExactLocksOfTx", spec := "fnExactLocksOfTx", unfollowed := true, recurses := true, apart := false, narrowed := true }
def FnExactLocksOfTxUptoSaid : Prop := fnExactLocksOfTxUptoRow.holds Try.pinned (OpenSpec.upto fnExactLocksOfTxSpec)

/-- 'laws.FnExactTreeFind', WHERE WHAT IT READS IS OF BULK AT MOST 1048576: true; the input reads as it did. -/
def fnExactTreeFindUptoRow : OpenClaim := { program := "ytnbfjkebakaigaa", sum := "b6f5dd95a05fba27f5dd0a67231a3b582b0104795bfa932b06890a8fca987663", func := "loop.example/g00332/laws.FnExactTreeFind", spec := "fnExactTreeFind", unfollowed := true, recurses := true, apart := false, narrowed := true }
def FnExactTreeFindUptoSaid : Prop := fnExactTreeFindUptoRow.holds Try.pinned (OpenSpec.upto fnExactTreeFindSpec)

/-- 'laws.FnExactTreeRange', WHERE WHAT IT READS IS OF BULK AT MOST 1048576: true; the input reads as it did. -/
def fnExactTreeRangeUptoRow : OpenClaim := { program := "ytnbfjkebakaigaa", sum := "b6f5dd95a05fba27f5dd0a67231a3b582b0104795bfa932b06890a8fca987663", func := "loop.example/g00332/laws.FnExactTreeRange", spec := "fnExactTreeRange", unfollowed := true, recurses := true, apart := false, narrowed := true }
def FnExactTreeRangeUptoSaid : Prop := fnExactTreeRangeUptoRow.holds Try.pinned (OpenSpec.upto fnExactTreeRangeSpec)

end Rows
end Go.Proofs.Ytnbfjkebakaigaa
