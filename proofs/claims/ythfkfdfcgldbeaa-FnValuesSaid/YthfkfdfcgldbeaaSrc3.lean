/- The walk of a pick out of texts by the source of choices. -/
import Derived.Test.YthfkfdfcgldbeaaSrc
import Derived.Test.YthfkfdfcgldbeaaTexts
import Derived.Test.YthfkfdfcgldbeaaMarkB
namespace Go.Proofs.Ythfkfdfcgldbeaa
open Go.RowKit Go.Deep
set_option linter.unusedVariables false
set_option maxRecDepth 100000
theorem Src.blk {w0 w : World} {b K : Nat} {T : TypeId} (h : Src w0 w b T K) : ∃ A n cp x y, Blk w b T [.slice A n cp, .int .i64 x, .int .i64 y] := by
  obtain ⟨h0, h1, A, n, cp, l, a, s, hB, r⟩ := h
  exact ⟨A, n, cp, a, s, hB⟩
theorem Src.row {w0 w w' : World} {b K : Nat} {T : TypeId} {row : Option Nat} (h : Src w0 w b T K) (hg : w.grownBy w' row) (hr : ∀ c, row = some c → w0.heap.size ≤ c ∧ b ≠ c) : Src w0 w' b T K := by
  cases row with
  | none => exact h.ext ((Ext.refl w).grown hg (fun k hk => by cases hk))
  | some c => exact h.far hg (hr c rfl).1 (hr c rfl).2
theorem Src.rd {w0 w w' : World} {b K : Nat} {T : TypeId} {A : Option Addr} {xs : List ByteArray} (h : Src w0 w b T K) (hr : Rd w A (xs.map fun c => Value.string c)) (hg : w.grownBy w' (some b)) : Rd w' A (xs.map fun c => Value.string c) := by
  obtain ⟨B, n, cp, x, y, hB⟩ := h.blk
  exact rd_stays hr hB (fun x hx => by
    obtain ⟨c, -, rfl⟩ := List.mem_map.1 hx
    simp) hg
theorem rd_text {W : World} {bA o i : Nat} {l : List ByteArray} {x : ByteArray} (h : Rd W (some ⟨bA, o, none⟩) (l.map fun c => Value.string c)) (hi : l[i]? = some x) : W.cell? ⟨bA, o + i, none⟩ = some (.string x) := by
  have hne : (l.map fun c => Value.string c) ≠ [] := by
    intro e
    rw [List.map_eq_nil_iff.1 e] at hi; simp at hi
  obtain ⟨b', o', e, hx⟩ := h hne
  injection e with e
  injection e with e1 e2 _
  subst e1; subst e2
  exact hx i (.string x) (by rw [List.getElem?_map, hi]; rfl)
set_option maxHeartbeats 1000000 in
theorem src_pick (w0 w : World) (b K : Nat) (A : Option Addr) (n cp : Nat) (l : List ByteArray) (hS : Src w0 w b 169 K) (hK : K ≤ 1000000000) (hl : l.length = n) (h1 : 2 ≤ n) (h2 : n ≤ 256) (hr : Rd w A (l.map fun c => Value.string c)) :
    Calls Try.prog 130 #[.pointer (some ⟨b, 0, none⟩), .slice A n cp] w fun e w' => (∃ x, e = .returned (.string x) ∧ x ∈ l) ∧ Src w0 w' b 169 (K + 1) ∧ w.grownBy w' (some b) := by
  have HN := Lib.hid (src_next w0 w b K n hS hK h1 h2)
  obtain ⟨bA, o, rfl, -⟩ := hr (by intro e; rw [List.map_eq_nil_iff.1 e] at hl; simp at hl; omega)
  have HS := Lib.hid hS
  have hr0 := Lib.hid hr
  have hnI : ((n : Int) == 0) = false := by simp; omega
  have hnI2 : (n : Int) ≠ 0 := by omega
  clear hS hr
  go_enter Try.func130, Try.ntmps130
  go_wp2_with fail
  refine HN.out.mono ?_
  rintro e w1 ⟨⟨v, rfl, hv⟩, hS1, hG⟩
  have hr1 := HS.out.rd hr0.out hG
  have HS1 := Lib.hid hS1
  have HG1 := Lib.hid hG
  have hvl : v < l.length := by omega
  have hvI : (v : Int) < (n : Int) := by omega
  have hk := rd_text hr1 (List.getElem?_eq_getElem hvl)
  have hmem : l[v] ∈ l := List.getElem_mem hvl
  generalize l[v] = x at hk hmem
  clear hS1 hG HN hr1 hl hvl
  go_wp2_with fail
  go_ret
  exact ⟨⟨x, rfl, hmem⟩, HS1.out, HG1.out⟩
end Go.Proofs.Ythfkfdfcgldbeaa
