/- Opening an argument that is one of Disk (printed by gen_comp.py). -/
import Derived.Test.YtnbfjkebakaigaaStructs
import Derived.Lib.SmallJoins
import Derived.Test.YtnbfjkebakaigaaOpenPending
namespace Go.Proofs.Ytnbfjkebakaigaa
open Go.ChangeShapes Go.WideShapes Go.ChangeAt Go.RowKit Go.Joins
set_option linter.unusedVariables false
set_option maxRecDepth 100000
section
variable {H : Type} {enc : TypeId × Value → H} {w : World} {base : Nat} {held : Bool} {r : Reach} {b0 : Nat}
theorem cells_Disk : Try.prog.cellsOf 34 = 4 := by kernel_rfl
set_option maxRecDepth 100000 in
theorem open_Disk {v : Value} {d : DataW H} {p : List MemPlace} (hv : Value.okWide Try.prog w r b0 34 v) (h : DataW.Trod enc Try.prog w base (fun _ => true) held 34 v d p) :
    ∃ (As : Option Addr) (ns ps : Nat) (Ac : Option Addr) (nc pc : Nat) (ar : Bool) (Ak : Option Addr) (nk pk : Nat) (ls : List ByteArray) (lc : List CPending) (lk : List Int), v = .agg #[.slice As ns ps, .slice Ac nc pc, .bool ar, .slice Ak nk pk] ∧ ls.length = ns ∧ ns ≤ ps ∧ ps ≤ maxLen ∧ (∀ s ∈ ls, s.size ≤ maxLen) ∧ Rd w As (ls.map fun c => Value.string c) ∧ lc.length = nc ∧ nc ≤ pc ∧ pc ≤ maxLen ∧ (∀ x ∈ lc, (Lit.int .i64 x.a).wf = true ∧ x.c.size ≤ maxLen) ∧ Rd w Ac (lc.flatMap CPending.cs) ∧ lk.length = nk ∧ nk ≤ pk ∧ pk ≤ maxLen ∧ (∀ z ∈ lk, (Lit.int .i64 z).wf = true) ∧ Rd w Ak (lk.map fun c => Value.int .i64 c) := by
  obtain ⟨c0, c1, c2, c3, y0, y1, y2, y3, m, rfl, _, _, t0, t1, t2, t3⟩ := open_agg4 Try.underlying34 (by kernel_rfl) cells_Disk hv h
  obtain ⟨As, ns, ps, rfl⟩ := slice_of_trod Try.underlying22 t0
  obtain ⟨ls, q1s, q2s, q3s, q4s, q5s⟩ := open_texts_f Try.underlying22 Try.underlying9 (by kernel_rfl) t0
  obtain ⟨Ac, nc, pc, rfl⟩ := slice_of_trod Try.underlying32 t1
  obtain ⟨lc, q1c, q2c, q3c, q4c, q5c⟩ := open_PendingS_f t1
  obtain ⟨ar, ear, _⟩ := DataW.trod_bool Try.underlying4 t2
  simp only [List.cons.injEq, and_true] at ear
  subst ear
  obtain ⟨Ak, nk, pk, rfl⟩ := slice_of_trod Try.underlying24 t3
  obtain ⟨lk, q1k, q2k, q3k, q4k, q5k⟩ := open_nums_f Try.underlying24 Try.underlying3 (by kernel_rfl) t3
  exact ⟨As, ns, ps, Ac, nc, pc, ar, Ak, nk, pk, ls, lc, lk, rfl, q1s, q2s, q3s, q4s, q5s, q1c, q2c, q3c, q4c, q5c, q1k, q2k, q3k, q4k, q5k⟩
end
end Go.Proofs.Ytnbfjkebakaigaa
