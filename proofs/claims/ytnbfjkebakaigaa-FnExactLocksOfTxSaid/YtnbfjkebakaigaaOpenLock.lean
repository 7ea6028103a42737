/- Opening an argument that is a slice of Lock (printed by gen_flat.py). -/
import Derived.Test.YtnbfjkebakaigaaStructs
import Derived.Test.YtnbfjkebakaigaaOpenFlat
import Derived.Test.YtnbfjkebakaigaaFlatLock
namespace Go.Proofs.Ytnbfjkebakaigaa
open Go.ChangeShapes Go.WideShapes Go.ChangeAt Go.RowKit Go.Deep
set_option linter.unusedVariables false
set_option maxRecDepth 100000
section
variable {H : Type} {enc : TypeId × Value → H} {w : World} {base : Nat} {held : Bool}
set_option maxRecDepth 100000 in
theorem open_LockS_f {fuel : Nat} {A : Option Addr} {n cp : Nat} {x : DataW H × List MemPlace} (h : DataW.trod enc Try.prog w base (fun _ => true) held fuel 63 [.slice A n cp] = some x) :
    ∃ l : List CLock, l.length = n ∧ n ≤ cp ∧ cp ≤ maxLen ∧ (∀ x ∈ l, (Lit.int .i64 x.a).wf = true ∧ (Lit.int .i64 x.b).wf = true ∧ (Lit.int .i64 x.c).wf = true ∧ (Lit.int .i64 x.d).wf = true) ∧ Rd w A (l.flatMap CLock.cs) :=
  open_flat CLock.len (by decide) Try.underlying63 Try.underlying183 (by kernel_rfl) (by kernel_rfl) rfl (fun x => (Lit.int .i64 x.a).wf = true ∧ (Lit.int .i64 x.b).wf = true ∧ (Lit.int .i64 x.c).wf = true ∧ (Lit.int .i64 x.d).wf = true) (fun c hc => by
    obtain ⟨_, _, t0⟩ := hc 0 _ rfl
    obtain ⟨z0, e0, _, w0⟩ := DataW.trod_int Try.underlying3 t0
    have e0 := (List.cons.inj e0).1
    obtain ⟨_, _, t1⟩ := hc 1 _ rfl
    obtain ⟨z1, e1, _, w1⟩ := DataW.trod_int Try.underlying3 t1
    have e1 := (List.cons.inj e1).1
    obtain ⟨_, _, t2⟩ := hc 2 _ rfl
    obtain ⟨z2, e2, _, w2⟩ := DataW.trod_int Try.underlying3 t2
    have e2 := (List.cons.inj e2).1
    obtain ⟨_, _, t3⟩ := hc 3 _ rfl
    obtain ⟨z3, e3, _, w3⟩ := DataW.trod_int Try.underlying3 t3
    have e3 := (List.cons.inj e3).1
    exact ⟨⟨z0, z1, z2, z3⟩, ⟨w0, w1, w2, w3⟩, fun j hj => by
      match j, hj with
      | 0, _ => rw [e0]; rfl
      | 1, _ => rw [e1]; rfl
      | 2, _ => rw [e2]; rfl
      | 3, _ => rw [e3]; rfl⟩) h
theorem open_LockS {A : Option Addr} {n cp : Nat} {d : DataW H} {p : List MemPlace} (h : DataW.Trod enc Try.prog w base (fun _ => true) held 63 (.slice A n cp) d p) :
    ∃ l : List CLock, l.length = n ∧ n ≤ cp ∧ cp ≤ maxLen ∧ (∀ x ∈ l, (Lit.int .i64 x.a).wf = true ∧ (Lit.int .i64 x.b).wf = true ∧ (Lit.int .i64 x.c).wf = true ∧ (Lit.int .i64 x.d).wf = true) ∧ Rd w A (l.flatMap CLock.cs) := by
  obtain ⟨fuel, hf⟩ := h
  exact open_LockS_f (by simpa [Value.cells] using hf)
end
end Go.Proofs.Ytnbfjkebakaigaa
