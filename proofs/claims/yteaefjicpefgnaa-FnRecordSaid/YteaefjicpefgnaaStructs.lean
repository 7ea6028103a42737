/- Opening the struct arguments of a law. -/
import Derived.Test.YteaefjicpefgnaaRows
import Derived.Test.YteaefjicpefgnaaOpen
namespace Go.Proofs.Yteaefjicpefgnaa
open Go.ChangeShapes Go.WideShapes Go.ChangeAt Go.RowKit Go.Joins
set_option linter.unusedVariables false
set_option maxRecDepth 100000
section
variable {H : Type} {enc : TypeId × Value → H} {w : World} {base : Nat} {held : Bool} {r : Reach} {b0 : Nat}
theorem cells_Value : Try.prog.cellsOf 110 = 3 := by kernel_rfl
set_option maxRecDepth 100000 in
theorem open_Value {v : Value} {d : DataW H} {p : List MemPlace} (hv : Value.okWide Try.prog w r b0 110 v) (h : DataW.Trod enc Try.prog w base (fun _ => true) held 110 v d p) :
    ∃ (k i : Int) (s : ByteArray), v = .agg #[.int .i64 k, .int .i64 i, .string s] ∧ (Lit.int .i64 k).wf = true ∧ (Lit.int .i64 i).wf = true ∧ s.size ≤ maxLen := by
  obtain ⟨c0, c1, c2, y0, y1, y2, m, rfl, _, _, t0, t1, t2⟩ := open_agg3 Try.underlying110 (by kernel_rfl) cells_Value hv h
  obtain ⟨k, e0, _, wk⟩ := DataW.trod_int Try.underlying3 t0
  obtain ⟨i, e1, _, wi⟩ := DataW.trod_int Try.underlying3 t1
  obtain ⟨s, e2, _, ws⟩ := DataW.trod_string Try.underlying9 t2
  simp only [List.cons.injEq, and_true] at e0 e1 e2
  subst e0; subst e1; subst e2
  exact ⟨k, i, s, rfl, wk, wi, ws⟩
theorem cells_Page : Try.prog.cellsOf 42 = 2 := by kernel_rfl
set_option maxRecDepth 100000 in
theorem open_Page {v : Value} {d : DataW H} {p : List MemPlace} (hv : Value.okWide Try.prog w r b0 42 v) (h : DataW.Trod enc Try.prog w base (fun _ => true) held 42 v d p) :
    ∃ (k : Int) (A : Option Addr) (n cp : Nat) (l : List ByteArray), v = .agg #[.int .i64 k, .slice A n cp] ∧ (Lit.int .i64 k).wf = true ∧ l.length = n ∧ n ≤ cp ∧ cp ≤ maxLen ∧ (∀ s ∈ l, s.size ≤ maxLen) ∧ Rd w A (l.map fun c => Value.string c) := by
  obtain ⟨c0, c1, y0, y1, m, rfl, _, _, t0, t1⟩ := open_agg2 Try.underlying42 (by kernel_rfl) cells_Page hv h
  obtain ⟨k, e0, _, wk⟩ := DataW.trod_int Try.underlying3 t0
  simp only [List.cons.injEq, and_true] at e0
  subst e0
  obtain ⟨A, n, cp, rfl⟩ := slice_of_trod Try.underlying32 t1
  obtain ⟨l, h1, h2, h3, h4, h5⟩ := open_texts_f Try.underlying32 Try.underlying9 (by kernel_rfl) t1
  exact ⟨k, A, n, cp, l, rfl, wk, h1, h2, h3, h4, h5⟩
set_option maxRecDepth 100000 in
theorem open_LogRecord {v : Value} {d : DataW H} {p : List MemPlace} (hv : Value.okWide Try.prog w r b0 54 v) (h : DataW.Trod enc Try.prog w base (fun _ => true) held 54 v d p) :
    ∃ (e ls tx k p nx pg sl : Int) (bf af : ByteArray), v = .agg #[.int .i64 e, .int .i64 ls, .int .i64 tx, .int .i64 k, .int .i64 p, .int .i64 nx, .int .i64 pg, .int .i64 sl, .string bf, .string af] ∧ (Lit.int .i64 ls).wf = true ∧ bf.size ≤ maxLen ∧ af.size ≤ maxLen := by
  obtain ⟨cs, rfl, hl, hf⟩ := open_agg_list Try.underlying54 (by kernel_rfl) (by kernel_rfl) hv h
  have hint : ∀ (j : Nat) (f : Field), _ → f.type = 3 → ∃ z : Int, cs[j]? = some (.int .i64 z) ∧ (Lit.int .i64 z).wf = true := fun j f hj ht => by
    obtain ⟨u, y, n, hu, hy⟩ := hf j f hj
    rw [ht] at hy
    obtain ⟨z, e0, _, wz⟩ := DataW.trod_int Try.underlying3 hy
    simp only [List.cons.injEq, and_true] at e0
    exact ⟨z, by rw [hu, e0], wz⟩
  have hstr : ∀ (j : Nat) (f : Field), _ → f.type = 9 → ∃ s : ByteArray, cs[j]? = some (.string s) ∧ s.size ≤ maxLen := fun j f hj ht => by
    obtain ⟨u, y, n, hu, hy⟩ := hf j f hj
    rw [ht] at hy
    obtain ⟨s, e0, _, ws⟩ := DataW.trod_string Try.underlying9 hy
    simp only [List.cons.injEq, and_true] at e0
    exact ⟨s, by rw [hu, e0], ws⟩
  obtain ⟨z0, a0, w0⟩ := hint 0 _ rfl rfl
  obtain ⟨z1, a1, w1⟩ := hint 1 _ rfl rfl
  obtain ⟨z2, a2, w2⟩ := hint 2 _ rfl rfl
  obtain ⟨z3, a3, w3⟩ := hint 3 _ rfl rfl
  obtain ⟨z4, a4, w4⟩ := hint 4 _ rfl rfl
  obtain ⟨z5, a5, w5⟩ := hint 5 _ rfl rfl
  obtain ⟨z6, a6, w6⟩ := hint 6 _ rfl rfl
  obtain ⟨z7, a7, w7⟩ := hint 7 _ rfl rfl
  obtain ⟨s8, a8, w8⟩ := hstr 8 _ rfl rfl
  obtain ⟨s9, a9, w9⟩ := hstr 9 _ rfl rfl
  have hl : cs.length = 10 := hl
  match cs, hl with
  | [c0, c1, c2, c3, c4, c5, c6, c7, c8, c9], _ =>
    injection a0 with a0; injection a1 with a1; injection a2 with a2; injection a3 with a3; injection a4 with a4; injection a5 with a5; injection a6 with a6; injection a7 with a7; injection a8 with a8; injection a9 with a9
    subst a0; subst a1; subst a2; subst a3; subst a4; subst a5; subst a6; subst a7; subst a8; subst a9
    exact ⟨z0, z1, z2, z3, z4, z5, z6, z7, s8, s9, rfl, w1, w8, w9⟩
end
end Go.Proofs.Yteaefjicpefgnaa
