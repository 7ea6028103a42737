/- Opening an argument that is a slice of Pending (printed by gen_flat.py). -/
import Derived.Test.YtnbfjkebakaigaaStructs
import Derived.Test.YtnbfjkebakaigaaOpenFlat
import Derived.Test.YtnbfjkebakaigaaFlatPending
namespace Go.Proofs.Ytnbfjkebakaigaa
open Go.ChangeShapes Go.WideShapes Go.ChangeAt Go.RowKit Go.Deep
set_option linter.unusedVariables false
set_option maxRecDepth 100000
section
variable {H : Type} {enc : TypeId × Value → H} {w : World} {base : Nat} {held : Bool}
set_option maxRecDepth 100000 in
theorem open_PendingS_f {fuel : Nat} {A : Option Addr} {n cp : Nat} {x : DataW H × List MemPlace} (h : DataW.trod enc Try.prog w base (fun _ => true) held fuel 32 [.slice A n cp] = some x) :
    ∃ l : List CPending, l.length = n ∧ n ≤ cp ∧ cp ≤ maxLen ∧ (∀ x ∈ l, (Lit.int .i64 x.a).wf = true ∧ x.c.size ≤ maxLen) ∧ Rd w A (l.flatMap CPending.cs) :=
  open_flat CPending.len (by decide) Try.underlying32 Try.underlying159 (by kernel_rfl) (by kernel_rfl) rfl (fun x => (Lit.int .i64 x.a).wf = true ∧ x.c.size ≤ maxLen) (fun c hc => by
    obtain ⟨_, _, t0⟩ := hc 0 _ rfl
    obtain ⟨z0, e0, _, w0⟩ := DataW.trod_int Try.underlying3 t0
    have e0 := (List.cons.inj e0).1
    obtain ⟨_, _, t1⟩ := hc 1 _ rfl
    obtain ⟨z1, e1, _, w1⟩ := DataW.trod_string Try.underlying9 t1
    have e1 := (List.cons.inj e1).1
    exact ⟨⟨z0, z1⟩, ⟨w0, w1⟩, fun j hj => by
      match j, hj with
      | 0, _ => rw [e0]; rfl
      | 1, _ => rw [e1]; rfl⟩) h
theorem open_PendingS {A : Option Addr} {n cp : Nat} {d : DataW H} {p : List MemPlace} (h : DataW.Trod enc Try.prog w base (fun _ => true) held 32 (.slice A n cp) d p) :
    ∃ l : List CPending, l.length = n ∧ n ≤ cp ∧ cp ≤ maxLen ∧ (∀ x ∈ l, (Lit.int .i64 x.a).wf = true ∧ x.c.size ≤ maxLen) ∧ Rd w A (l.flatMap CPending.cs) := by
  obtain ⟨fuel, hf⟩ := h
  exact open_PendingS_f (by simpa [Value.cells] using hf)
end
end Go.Proofs.Ytnbfjkebakaigaa
