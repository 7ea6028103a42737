/- What a sector tells. No program in sight. -/
import Derived.Test.YtnbfjkebakaigaaDiskOK
namespace Go.Proofs.Ytnbfjkebakaigaa
open Go.RowKit
set_option linter.unusedVariables false
set_option maxRecDepth 100000
/-- the data of the last write of a place -/
def lastP (x : Int) (l : List CPending) : Option ByteArray := l.foldl (fun acc p => if p.a = x then some p.c else acc) none
theorem fold_skip (x : Int) : ∀ (l : List CPending) (acc : Option ByteArray), (∀ p ∈ l, p.a ≠ x) → l.foldl (fun acc p => if p.a = x then some p.c else acc) acc = acc
  | [], _, _ => rfl
  | p :: l, acc, h => by
    rw [List.foldl_cons, if_neg (h p (List.mem_cons_self ..))]
    exact fold_skip x l acc (fun q hq => h q (List.mem_cons_of_mem _ hq))
theorem lastP_found {x : Int} {l : List CPending} {k : Nat} (hk : k < l.length) (h : l[k].a = x) (hn : ∀ j, (hj : j < l.length) → k < j → (l[j]'hj).a ≠ x) : lastP x l = some l[k].c := by
  have e : l = l.take k ++ (l[k] :: l.drop (k + 1)) := by rw [← List.drop_eq_getElem_cons hk, List.take_append_drop]
  unfold lastP
  conv => lhs; rw [e]
  rw [List.foldl_append, List.foldl_cons, if_pos h]
  apply fold_skip
  intro p hp
  obtain ⟨j, hj, rfl⟩ := List.getElem_of_mem hp
  rw [List.length_drop] at hj
  rw [List.getElem_drop]
  exact hn _ (by omega) (by omega)
theorem lastP_none {x : Int} {l : List CPending} (hn : ∀ j, (hj : j < l.length) → (l[j]'hj).a ≠ x) : lastP x l = none := by
  unfold lastP
  apply fold_skip
  intro p hp
  obtain ⟨j, hj, rfl⟩ := List.getElem_of_mem hp
  exact hn j hj
def tellB (ls : List ByteArray) (lc : List CPending) (x : Int) : ByteArray := (lastP x lc).getD (ls[x.toNat]?.getD ⟨#[]⟩)
theorem tellB_some {ls : List ByteArray} {lc : List CPending} {x : Int} {s : ByteArray} (h : lastP x lc = some s) : tellB ls lc x = s := by unfold tellB; rw [h]; rfl
theorem tellB_none {ls : List ByteArray} {lc : List CPending} {x : Int} {k : Nat} (h : lastP x lc = none) (hx : x = (k : Int)) (hk : k < ls.length) : tellB ls lc x = ls[k] := by
  unfold tellB; rw [h, hx, Int.toNat_natCast, List.getElem?_eq_getElem hk]; rfl
/-- what DiskRead answers -/
def drV (ls : List ByteArray) (lc : List CPending) (ar : Bool) (nk : Nat) (x : Int) : ByteArray := if diskB ls lc ar nk = false then ⟨#[]⟩ else if inB x 0 ((ls.length : Int) - 1) = false then ⟨#[]⟩ else tellB ls lc x
def drC (ls : List ByteArray) (lc : List CPending) (ar : Bool) (nk : Nat) (x : Int) : Int := if diskB ls lc ar nk = false then 1 else if inB x 0 ((ls.length : Int) - 1) = false then 4 else 0
end Go.Proofs.Ytnbfjkebakaigaa
