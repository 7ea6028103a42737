/- What the condition on the table of words gives: its twenty cells. -/
import Derived.Test.YtpjpkkninkpllaaDoorCodeWalks
import Derived.ProofKit
import Derived.LaidMore
import Derived.OpenShut
import Derived.Stop.Joined
namespace Go.Proofs.YtpjpkkninkpllaaDoor
open Go.ChangeShapes Go.WideShapes Go.ChangeAt Go.RowKit
set_option linter.unusedVariables false
theorem own : ownKnob Tryd.prog.godebug = none := by kernel_rfl
theorem laidOut : laidOutB Tryd.prog = true := by kernel_rfl
theorem gWords : Tryd.prog.globalNamed "loop.example/g00332/impl.codeWords" = some 0 := by kernel_rfl
theorem tWords : (Tryd.prog.globals[0]?).map (·.type) = some 28 := by kernel_rfl
theorem cellsW : Tryd.prog.cellsOf 28 = 20 := by kernel_rfl
theorem cellsS : Tryd.prog.cellsOf 9 = 1 := by kernel_rfl
def laid1 : List (String × DataW Unit) := [("loop.example/g00332/impl.codeWords", Rows.laid_loop_example_g00332_impl_codeWords)]
def tableCells : Array Value := (words.map fun s => Value.string s).toArray
abbrev tableH {H : Type} : DataW H := .agg (wordBytes.map fun b => .lit (.string b))
theorem reads_table {H : Type} (enc : TypeId × Value → H) (W : World) (sp : Nat → Bool) : DataW.trod enc Tryd.prog W 0 sp true 3 28 tableCells.toList = some (tableH, []) := by kernel_rfl
theorem mem_at {α : Type} {l : List α} {i : Nat} {x : α} (h : (l.drop (i * 1)).take 1 = [x]) : l[i]? = some x := by
  rw [Nat.mul_one] at h
  have := congrArg (fun l => l[0]?) h
  simpa [List.getElem?_take, List.getElem?_drop] using this
theorem var_of_laid {W : World} (h : laidMetH Tryd.prog laid1 W) : W.var? Tryd.prog "loop.example/g00332/impl.codeWords" = some tableCells := by
  rw [MakeChecks.laidMetH_plain _ _ _ (by kernel_rfl)] at h
  obtain ⟨ps, ⟨g, t, cs, fuel, p, q, hg, ht, hvar, hd, _, _⟩, _⟩ := h
  obtain rfl := Option.some.inj (gWords.symm.trans hg)
  obtain rfl := Option.some.inj (tWords.symm.trans ht)
  rw [hvar]
  congr 1
  obtain ⟨xs, m, _, hx, hlen, hn, hel⟩ := DataW.trod_array Tryd.underlying28 hd
  rw [cellsW] at hlen
  simp only [Prod.mk.injEq] at hx
  have hx1 : (DataW.agg (wordBytes.map fun b => .lit (.string b)) : DataW Unit) = .agg (xs.map (·.1)) := hx.1
  have hxs : (wordBytes.map fun b => (.lit (.string b) : DataW Unit)) = xs.map (·.1) := by injection hx1
  have key : cs.toList = words.map fun s => Value.string s := by
    refine List.ext_getElem? fun i => ?_
    by_cases hi : i < 20
    · have h1 := hel i hi
      rw [cellsS] at h1
      have hix : i < xs.length := by omega
      rw [List.getElem?_eq_getElem hix] at h1
      obtain ⟨s, e1, e2, _⟩ := DataW.trod_string Tryd.underlying9 h1
      have h2 := mem_at e1
      rw [h2]
      have hib : i < wordBytes.length := hi
      have h3 : (wordBytes.map fun b => (.lit (.string b) : DataW Unit))[i]? = (xs.map (·.1))[i]? := by rw [hxs]
      simp only [List.getElem?_map, List.getElem?_eq_getElem hix, List.getElem?_eq_getElem hib, Option.map_some, e2] at h3
      injection h3 with h3
      injection h3 with h3
      injection h3 with h3
      have h4 : s = ⟨wordBytes[i].toArray⟩ := by
        apply ByteArray.ext
        rw [h3]
      unfold words
      simp only [List.getElem?_map, List.getElem?_eq_getElem hib, Option.map_some, h4]
    · rw [List.getElem?_eq_none (by omega), List.getElem?_eq_none (by rw [List.length_map, words_len]; omega)]
  unfold tableCells
  rw [← key]
theorem table_of_laid {W : World} (h : laidMetH Tryd.prog laid1 W) : Table W := fun i hi => by
  have := World.var?_cell gWords (var_of_laid h) i
  rw [this]
  unfold tableCells
  simp [hi]
theorem door_met (os : Os) (args : Array Value) : laidMetH Tryd.prog laid1 ((World.doorLaid Tryd.prog 400 os).forCall (fun _ _ => 0) ⟨#[], args, []⟩).memory :=
  laidMetH_of_parts3 (fuel := 8) (laidMet_of_run' 8 (by kernel_rfl) (by kernel_rfl)) (by kernel_rfl) (by kernel_rfl)
end Go.Proofs.YtpjpkkninkpllaaDoor
