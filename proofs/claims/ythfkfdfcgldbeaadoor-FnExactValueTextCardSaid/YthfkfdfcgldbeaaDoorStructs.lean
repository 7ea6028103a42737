/- Opening the struct arguments of a law. -/
import Derived.Test.YthfkfdfcgldbeaaDoorRows
import Derived.Test.YthfkfdfcgldbeaaDoorOpen
namespace Go.Proofs.YthfkfdfcgldbeaaDoor
open Go.ChangeShapes Go.WideShapes Go.ChangeAt Go.RowKit Go.Joins
set_option linter.unusedVariables false
set_option maxRecDepth 100000
section
variable {H : Type} {enc : TypeId × Value → H} {w : World} {base : Nat} {held : Bool} {r : Reach} {b0 : Nat}
theorem cells_Value : Tryd.prog.cellsOf 23 = 3 := by kernel_rfl
set_option maxRecDepth 100000 in
theorem open_Value {v : Value} {d : DataW H} {p : List MemPlace} (hv : Value.okWide Tryd.prog w r b0 23 v) (h : DataW.Trod enc Tryd.prog w base (fun _ => true) held 23 v d p) :
    ∃ (k i : Int) (s : ByteArray), v = .agg #[.int .i64 k, .int .i64 i, .string s] ∧ (Lit.int .i64 k).wf = true ∧ (Lit.int .i64 i).wf = true ∧ s.size ≤ maxLen := by
  obtain ⟨c0, c1, c2, y0, y1, y2, m, rfl, _, _, t0, t1, t2⟩ := open_agg3 Tryd.underlying23 (by kernel_rfl) cells_Value hv h
  obtain ⟨k, e0, _, wk⟩ := DataW.trod_int Tryd.underlying3 t0
  obtain ⟨i, e1, _, wi⟩ := DataW.trod_int Tryd.underlying3 t1
  obtain ⟨s, e2, _, ws⟩ := DataW.trod_string Tryd.underlying9 t2
  simp only [List.cons.injEq, and_true] at e0 e1 e2
  subst e0; subst e1; subst e2
  exact ⟨k, i, s, rfl, wk, wi, ws⟩
end
end Go.Proofs.YthfkfdfcgldbeaaDoor
