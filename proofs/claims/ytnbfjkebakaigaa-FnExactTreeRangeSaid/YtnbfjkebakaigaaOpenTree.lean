/- Opening an argument that is a tree. -/
import Derived.Test.YtnbfjkebakaigaaStructs
import Derived.Lib.SmallJoins
import Derived.Test.YtnbfjkebakaigaaOpenFlat
import Derived.Test.YtnbfjkebakaigaaTreeC2
namespace Go.Proofs.Ytnbfjkebakaigaa
open Go.ChangeShapes Go.WideShapes Go.ChangeAt Go.RowKit Go.Joins Go.Deep
set_option linter.unusedVariables false
set_option maxRecDepth 100000
section
variable {H : Type} {enc : TypeId × Value → H} {w : World} {base : Nat} {held : Bool} {r : Reach} {b0 : Nat}
def XGood (w : World) (x : XNode) : Prop := ((∀ s ∈ x.ks, s.size ≤ maxLen) ∧ x.ks.length ≤ maxLen ∧ x.ds.length ≤ maxLen) ∧ (∀ z ∈ x.ds, (Lit.int .i64 z).wf = true) ∧ XOk w x
theorem slice_form {P : Program} {fuel : Nat} {t e : TypeId} {v : Value} {x : DataW H × List MemPlace} (ht : P.underlying t = some (.slice e)) (h : DataW.trod enc P w base (fun _ => true) held fuel t [v] = some x) : ∃ A n cp, v = .slice A n cp := by
  rcases DataW.trod_slice ht h with ⟨h0, _⟩ | ⟨a, len, cap, elems, rest, q, _, h0, _⟩
  · exact ⟨none, 0, 0, (List.cons.inj h0).1⟩
  · exact ⟨some a, len, cap, (List.cons.inj h0).1⟩
theorem cells_Tree : Try.prog.cellsOf 84 = 2 := by kernel_rfl
set_option maxRecDepth 100000 in
theorem open_TreeNodeS_f {fuel : Nat} {A : Option Addr} {n cp : Nat} {x : DataW H × List MemPlace} (h : DataW.trod enc Try.prog w base (fun _ => true) held fuel 82 [.slice A n cp] = some x) :
    ∃ l : List XNode, l.length = n ∧ n ≤ cp ∧ cp ≤ maxLen ∧ (∀ x ∈ l, XGood w x) ∧ Rd w A (l.flatMap XNode.cs) :=
  open_flat XNode.len (by decide) Try.underlying82 Try.underlying192 (by kernel_rfl) (by kernel_rfl) rfl (XGood w) (fun c hc => by
    obtain ⟨_, _, t0⟩ := hc 0 _ rfl
    obtain ⟨z0, e0, _⟩ := DataW.trod_bool Try.underlying4 t0
    have e0 := (List.cons.inj e0).1
    obtain ⟨_, _, t1⟩ := hc 1 _ rfl
    obtain ⟨A1, n1, p1, e1⟩ := slice_form Try.underlying22 t1
    rw [e1] at t1
    obtain ⟨l1, a1, a2, a3, a4, a5⟩ := open_texts_f Try.underlying22 Try.underlying9 (by kernel_rfl) t1
    obtain ⟨_, _, t2⟩ := hc 2 _ rfl
    obtain ⟨A2, n2, p2, e2⟩ := slice_form Try.underlying24 t2
    rw [e2] at t2
    obtain ⟨l2, b1, b2, b3, b4, b5⟩ := open_nums_f Try.underlying24 Try.underlying3 (by kernel_rfl) t2
    subst a1; subst b1
    exact ⟨⟨z0, l1, l2, A1, p1, A2, p2⟩, ⟨⟨a4, Nat.le_trans a2 a3, Nat.le_trans b2 b3⟩, b4, a5, b5⟩, fun j hj => by
      match j, hj with
      | 0, _ => rw [e0]; rfl
      | 1, _ => rw [e1]; rfl
      | 2, _ => rw [e2]; rfl⟩) h
set_option maxRecDepth 100000 in
theorem open_Tree {v : Value} {d : DataW H} {p : List MemPlace} (hv : Value.okWide Try.prog w r b0 84 v) (h : DataW.Trod enc Try.prog w base (fun _ => true) held 84 v d p) :
    ∃ (root : Int) (An : Option Addr) (nn pn : Nat) (ln : List XNode), v = .agg #[.int .i64 root, .slice An nn pn] ∧ (Lit.int .i64 root).wf = true ∧ ln.length = nn ∧ nn ≤ pn ∧ pn ≤ maxLen ∧ (∀ x ∈ ln, XGood w x) ∧ Rd w An (ln.flatMap XNode.cs) := by
  obtain ⟨c0, c1, y0, y1, m, rfl, _, _, t0, t1⟩ := open_agg2 Try.underlying84 (by kernel_rfl) cells_Tree hv h
  obtain ⟨root, eroot, _, wroot⟩ := DataW.trod_int Try.underlying3 t0
  simp only [List.cons.injEq, and_true] at eroot
  subst eroot
  obtain ⟨An, nn, pn, rfl⟩ := slice_of_trod Try.underlying82 t1
  obtain ⟨ln, q1, q2, q3, q4, q5⟩ := open_TreeNodeS_f t1
  exact ⟨root, An, nn, pn, ln, rfl, wroot, q1, q2, q3, q4, q5⟩
end
end Go.Proofs.Ytnbfjkebakaigaa
