/- Opening an argument that is one of Locks (printed by gen_comp.py). -/
import Derived.Test.YtnbfjkebakaigaaStructs
import Derived.Lib.SmallJoins
import Derived.Test.YtnbfjkebakaigaaOpenLock
import Derived.Test.YtnbfjkebakaigaaOpenWait
namespace Go.Proofs.Ytnbfjkebakaigaa
open Go.ChangeShapes Go.WideShapes Go.ChangeAt Go.RowKit Go.Joins
set_option linter.unusedVariables false
set_option maxRecDepth 100000
section
variable {H : Type} {enc : TypeId × Value → H} {w : World} {base : Nat} {held : Bool} {r : Reach} {b0 : Nat}
theorem cells_Locks : Try.prog.cellsOf 66 = 2 := by kernel_rfl
set_option maxRecDepth 100000 in
theorem open_Locks {v : Value} {d : DataW H} {p : List MemPlace} (hv : Value.okWide Try.prog w r b0 66 v) (h : DataW.Trod enc Try.prog w base (fun _ => true) held 66 v d p) :
    ∃ (Ah : Option Addr) (nh ph : Nat) (Aq : Option Addr) (nq pq : Nat) (lh : List CLock) (lq : List CWait), v = .agg #[.slice Ah nh ph, .slice Aq nq pq] ∧ lh.length = nh ∧ nh ≤ ph ∧ ph ≤ maxLen ∧ (∀ x ∈ lh, (Lit.int .i64 x.a).wf = true ∧ (Lit.int .i64 x.b).wf = true ∧ (Lit.int .i64 x.c).wf = true ∧ (Lit.int .i64 x.d).wf = true) ∧ Rd w Ah (lh.flatMap CLock.cs) ∧ lq.length = nq ∧ nq ≤ pq ∧ pq ≤ maxLen ∧ (∀ x ∈ lq, (Lit.int .i64 x.a).wf = true ∧ (Lit.int .i64 x.b).wf = true) ∧ Rd w Aq (lq.flatMap CWait.cs) := by
  obtain ⟨c0, c1, y0, y1, m, rfl, _, _, t0, t1⟩ := open_agg2 Try.underlying66 (by kernel_rfl) cells_Locks hv h
  obtain ⟨Ah, nh, ph, rfl⟩ := slice_of_trod Try.underlying63 t0
  obtain ⟨lh, q1h, q2h, q3h, q4h, q5h⟩ := open_LockS_f t0
  obtain ⟨Aq, nq, pq, rfl⟩ := slice_of_trod Try.underlying64 t1
  obtain ⟨lq, q1q, q2q, q3q, q4q, q5q⟩ := open_WaitS_f t1
  exact ⟨Ah, nh, ph, Aq, nq, pq, lh, lq, rfl, q1h, q2h, q3h, q4h, q5h, q1q, q2q, q3q, q4q, q5q⟩
end
end Go.Proofs.Ytnbfjkebakaigaa
