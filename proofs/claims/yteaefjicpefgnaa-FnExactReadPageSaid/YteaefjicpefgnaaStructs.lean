/- Opening the struct arguments of a law. -/
import Derived.Test.YteaefjicpefgnaaRows
import Derived.Test.YteaefjicpefgnaaOpen
namespace Go.Proofs.Yteaefjicpefgnaa
open Go.ChangeShapes Go.WideShapes Go.ChangeAt Go.RowKit Go.Joins
set_option linter.unusedVariables false
set_option maxRecDepth 100000
section
variable {H : Type} {enc : TypeId × Value → H} {w : World} {base : Nat} {held : Bool} {r : Reach} {b0 : Nat}
theorem cells_Value : Try.prog.cellsOf 110 = 3 := by kernel_rfl
set_option maxRecDepth 100000 in
theorem open_Value {v : Value} {d : DataW H} {p : List MemPlace} (hv : Value.okWide Try.prog w r b0 110 v) (h : DataW.Trod enc Try.prog w base (fun _ => true) held 110 v d p) :
    ∃ (k i : Int) (s : ByteArray), v = .agg #[.int .i64 k, .int .i64 i, .string s] ∧ (Lit.int .i64 k).wf = true ∧ (Lit.int .i64 i).wf = true ∧ s.size ≤ maxLen := by
  obtain ⟨c0, c1, c2, y0, y1, y2, m, rfl, _, _, t0, t1, t2⟩ := open_agg3 Try.underlying110 (by kernel_rfl) cells_Value hv h
  obtain ⟨k, e0, _, wk⟩ := DataW.trod_int Try.underlying3 t0
  obtain ⟨i, e1, _, wi⟩ := DataW.trod_int Try.underlying3 t1
  obtain ⟨s, e2, _, ws⟩ := DataW.trod_string Try.underlying9 t2
  simp only [List.cons.injEq, and_true] at e0 e1 e2
  subst e0; subst e1; subst e2
  exact ⟨k, i, s, rfl, wk, wi, ws⟩
theorem cells_Page : Try.prog.cellsOf 42 = 2 := by kernel_rfl
set_option maxRecDepth 100000 in
theorem open_Page {v : Value} {d : DataW H} {p : List MemPlace} (hv : Value.okWide Try.prog w r b0 42 v) (h : DataW.Trod enc Try.prog w base (fun _ => true) held 42 v d p) :
    ∃ (k : Int) (A : Option Addr) (n cp : Nat) (l : List ByteArray), v = .agg #[.int .i64 k, .slice A n cp] ∧ (Lit.int .i64 k).wf = true ∧ l.length = n ∧ n ≤ cp ∧ cp ≤ maxLen ∧ (∀ s ∈ l, s.size ≤ maxLen) ∧ Rd w A (l.map fun c => Value.string c) := by
  obtain ⟨c0, c1, y0, y1, m, rfl, _, _, t0, t1⟩ := open_agg2 Try.underlying42 (by kernel_rfl) cells_Page hv h
  obtain ⟨k, e0, _, wk⟩ := DataW.trod_int Try.underlying3 t0
  simp only [List.cons.injEq, and_true] at e0
  subst e0
  obtain ⟨A, n, cp, rfl⟩ := slice_of_trod Try.underlying32 t1
  obtain ⟨l, h1, h2, h3, h4, h5⟩ := open_texts_f Try.underlying32 Try.underlying9 (by kernel_rfl) t1
  exact ⟨k, A, n, cp, l, rfl, wk, h1, h2, h3, h4, h5⟩
end
end Go.Proofs.Yteaefjicpefgnaa
