/- Opening an argument that is a row. -/
import Derived.Test.YthfkfdfcgldbeaaStructs
namespace Go.Proofs.Ythfkfdfcgldbeaa
open Go.ChangeShapes Go.WideShapes Go.ChangeAt Go.RowKit Go.Joins
set_option linter.unusedVariables false
set_option maxRecDepth 100000
section
variable {H : Type} {enc : TypeId × Value → H} {w : World} {base : Nat} {held : Bool} {r : Reach} {b0 : Nat}
theorem cells_Row : Try.prog.cellsOf 25 = 7 := by kernel_rfl
set_option maxRecDepth 100000 in
theorem open_valueCells {n : Nat} {c0 c1 c2 : Value} {y : DataW H × List MemPlace} (h : DataW.trod enc Try.prog w base (fun _ => true) held n 23 [c0, c1, c2] = some y) :
    ∃ (k i : Int) (s : ByteArray), c0 = .int .i64 k ∧ c1 = .int .i64 i ∧ c2 = .string s ∧ (Lit.int .i64 k).wf = true ∧ (Lit.int .i64 i).wf = true ∧ s.size ≤ maxLen := by
  obtain ⟨ys, n', hn', hy, hlen, hyl, hf⟩ := DataW.trod_struct Try.underlying23 h
  have g0 : DataW.trod enc Try.prog w base (fun _ => true) held n' 3 (List.take (Try.prog.cellsOf 3) (List.drop 0 [c0, c1, c2])) = ys[0]? := hf 0 _ rfl
  have g1 : DataW.trod enc Try.prog w base (fun _ => true) held n' 3 (List.take (Try.prog.cellsOf 3) (List.drop 1 [c0, c1, c2])) = ys[1]? := hf 1 _ rfl
  have g2 : DataW.trod enc Try.prog w base (fun _ => true) held n' 9 (List.take (Try.prog.cellsOf 9) (List.drop 2 [c0, c1, c2])) = ys[2]? := hf 2 _ rfl
  rw [show Try.prog.cellsOf 3 = 1 by kernel_rfl] at g0 g1
  rw [show Try.prog.cellsOf 9 = 1 by kernel_rfl] at g2
  have hl : ys.length = 3 := hyl
  match ys, hl with
  | [y0, y1, y2], _ =>
    obtain ⟨k, e0, _, w0⟩ := DataW.trod_int Try.underlying3 (show DataW.trod enc Try.prog w base (fun _ => true) held n' 3 [c0] = some y0 from g0)
    obtain ⟨i, e1, _, w1⟩ := DataW.trod_int Try.underlying3 (show DataW.trod enc Try.prog w base (fun _ => true) held n' 3 [c1] = some y1 from g1)
    obtain ⟨s, e2, _, w2⟩ := DataW.trod_string Try.underlying9 (show DataW.trod enc Try.prog w base (fun _ => true) held n' 9 [c2] = some y2 from g2)
    exact ⟨k, i, s, (List.cons.inj e0).1, (List.cons.inj e1).1, (List.cons.inj e2).1, w0, w1, w2⟩
set_option maxRecDepth 100000 in
theorem open_Row {v : Value} {d : DataW H} {p : List MemPlace} (hv : Value.okWide Try.prog w r b0 25 v) (h : DataW.Trod enc Try.prog w base (fun _ => true) held 25 v d p) :
    ∃ (id k1 i1 : Int) (s1 : ByteArray) (k2 i2 : Int) (s2 : ByteArray), v = .agg #[.int .i64 id, .int .i64 k1, .int .i64 i1, .string s1, .int .i64 k2, .int .i64 i2, .string s2] ∧ (Lit.int .i64 id).wf = true ∧ s1.size ≤ maxLen ∧ s2.size ≤ maxLen := by
  obtain ⟨cs, rfl, hsz⟩ := okWide_struct Try.underlying25 hv
  obtain ⟨l⟩ := cs
  have hl : l.length = 7 := hsz.trans cells_Row
  match l, hl with
  | [c0, c1, c2, c3, c4, c5, c6], _ =>
    obtain ⟨fuel, hf⟩ := h
    obtain ⟨ys, n', hn', hy, hlen, hyl, hg⟩ := DataW.trod_struct Try.underlying25 hf
    have g0 : DataW.trod enc Try.prog w base (fun _ => true) held n' 3 (List.take (Try.prog.cellsOf 3) (List.drop 0 [c0, c1, c2, c3, c4, c5, c6])) = ys[0]? := hg 0 _ rfl
    have g1 : DataW.trod enc Try.prog w base (fun _ => true) held n' 23 (List.take (Try.prog.cellsOf 23) (List.drop 1 [c0, c1, c2, c3, c4, c5, c6])) = ys[1]? := hg 1 _ rfl
    have g2 : DataW.trod enc Try.prog w base (fun _ => true) held n' 23 (List.take (Try.prog.cellsOf 23) (List.drop 4 [c0, c1, c2, c3, c4, c5, c6])) = ys[2]? := hg 2 _ rfl
    rw [show Try.prog.cellsOf 3 = 1 by kernel_rfl] at g0
    rw [show Try.prog.cellsOf 23 = 3 by kernel_rfl] at g1 g2
    have hl2 : ys.length = 3 := hyl
    match ys, hl2 with
    | [y0, y1, y2], _ =>
      obtain ⟨id, e0, _, w0⟩ := DataW.trod_int Try.underlying3 (show DataW.trod enc Try.prog w base (fun _ => true) held n' 3 [c0] = some y0 from g0)
      obtain ⟨k1, i1, s1, f1, f2, f3, _, _, w1⟩ := open_valueCells (show DataW.trod enc Try.prog w base (fun _ => true) held n' 23 [c1, c2, c3] = some y1 from g1)
      obtain ⟨k2, i2, s2, f4, f5, f6, _, _, w2⟩ := open_valueCells (show DataW.trod enc Try.prog w base (fun _ => true) held n' 23 [c4, c5, c6] = some y2 from g2)
      have e0 := (List.cons.inj e0).1
      subst e0; subst f1; subst f2; subst f3; subst f4; subst f5; subst f6
      exact ⟨id, k1, i1, s1, k2, i2, s2, rfl, w0, w1, w2⟩
end
end Go.Proofs.Ythfkfdfcgldbeaa
