/- The places that have writes pending. No program in sight. -/
import Derived.Test.YtnbfjkebakaigaaDiskOK
import Derived.Lib.SlicesCompact
namespace Go.Proofs.Ytnbfjkebakaigaa
open Go.RowKit
set_option linter.unusedVariables false
set_option maxRecDepth 100000
/-- has this place a write -/
def anyP (lc : List CPending) (i : Int) : Bool := lc.any fun p => p.a == i
/-- the places before k that have writes, in order -/
def pdUp (lc : List CPending) (k : Nat) : List Int := ((List.range k).filter fun (i : Nat) => anyP lc (i : Int)).map fun (i : Nat) => (i : Int)
theorem pdUp_yes {lc : List CPending} {k : Nat} (h : anyP lc (k : Int) = true) : pdUp lc (k + 1) = pdUp lc k ++ [(k : Int)] := by
  unfold pdUp; rw [List.range_succ, List.filter_append, List.map_append]; simp [h]
theorem pdUp_no {lc : List CPending} {k : Nat} (h : anyP lc (k : Int) = false) : pdUp lc (k + 1) = pdUp lc k := by
  unfold pdUp; rw [List.range_succ, List.filter_append, List.map_append]; simp [h]
theorem pdUp_len (lc : List CPending) (k : Nat) : (pdUp lc k).length ≤ k := by
  unfold pdUp; rw [List.length_map]; have := List.length_filter_le (fun i : Nat => anyP lc (i : Int)) (List.range k); rwa [List.length_range] at this
theorem anyP_step {lc : List CPending} {q : Nat} (i : Int) (hq : q < lc.length) : anyP (lc.take (q + 1)) i = (anyP (lc.take q) i || lc[q].a == i) := by
  unfold anyP; rw [List.take_succ_eq_append_getElem hq, List.any_append]; simp
def pdL (ls : List ByteArray) (lc : List CPending) (ar : Bool) (nk : Nat) : List Int := if diskB ls lc ar nk then pdUp lc ls.length else []
def pdC (ls : List ByteArray) (lc : List CPending) (ar : Bool) (nk : Nat) : Int := if diskB ls lc ar nk then 0 else 1
theorem sorted_eq : ∀ {l m : List Int}, l.Pairwise (· < ·) → m.Pairwise (· < ·) → (∀ x, x ∈ l ↔ x ∈ m) → l = m
  | [], [], _, _, _ => rfl
  | [], y :: m, _, _, h => absurd ((h y).2 (List.mem_cons_self ..)) (by simp)
  | x :: l, [], _, _, h => absurd ((h x).1 (List.mem_cons_self ..)) (by simp)
  | x :: l, y :: m, hl, hm, h => by
    rw [List.pairwise_cons] at hl hm
    have hxy : x = y := by
      rcases List.mem_cons.1 ((h x).1 (List.mem_cons_self ..)) with e | e
      · exact e
      · rcases List.mem_cons.1 ((h y).2 (List.mem_cons_self ..)) with e' | e'
        · exact e'.symm
        · have h1 := hl.1 y e'; have h2 := hm.1 x e; omega
    subst hxy
    rw [sorted_eq hl.2 hm.2 (fun z => ?_)]
    constructor
    · intro hz
      rcases List.mem_cons.1 ((h z).1 (List.mem_cons_of_mem _ hz)) with e | e
      · have := hl.1 z hz; omega
      · exact e
    · intro hz
      rcases List.mem_cons.1 ((h z).2 (List.mem_cons_of_mem _ hz)) with e | e
      · have := hm.1 z hz; omega
      · exact e
theorem pdUp_sorted (lc : List CPending) (k : Nat) : (pdUp lc k).Pairwise (· < ·) := by
  unfold pdUp
  rw [List.pairwise_map]
  refine List.Pairwise.filter _ ?_
  exact List.pairwise_lt_range.imp (fun h => by omega)
theorem mem_pdUp {lc : List CPending} {k : Nat} {x : Int} : x ∈ pdUp lc k ↔ (0 ≤ x ∧ x < (k : Int)) ∧ ∃ p ∈ lc, p.a = x := by
  unfold pdUp anyP
  simp only [List.mem_map, List.mem_filter, List.mem_range, List.any_eq_true, beq_iff_eq]
  constructor
  · rintro ⟨i, ⟨hi, p, hp, e⟩, rfl⟩
    exact ⟨⟨by omega, by omega⟩, p, hp, e⟩
  · rintro ⟨⟨h0, h1⟩, p, hp, e⟩
    exact ⟨x.toNat, ⟨by omega, p, hp, by omega⟩, by omega⟩
theorem compact_mem (zs : List Int) (x : Int) : x ∈ Lib.compact zs ↔ x ∈ zs := by
  unfold Lib.compact Lib.compactUpTo
  simp only [List.mem_map, List.mem_filter, List.mem_range]
  constructor
  · rintro ⟨j, ⟨hj, -⟩, rfl⟩
    rw [getElem!_pos _ j (by simpa using hj)]
    simp
  · intro hx
    obtain ⟨j, hj, e⟩ := List.getElem_of_mem hx
    have key : ∀ j, (hj : j < zs.length) → zs[j] = x → ∃ a, (a < zs.length ∧ Lib.keeps zs.toArray a = true) ∧ zs.toArray[a]! = x := by
      intro j
      induction j with
      | zero =>
        intro hj e
        exact ⟨0, ⟨hj, by simp [Lib.keeps]⟩, by rw [getElem!_pos _ 0 (by simpa using hj)]; simpa using e⟩
      | succ j ih =>
        intro hj e
        by_cases hk : Lib.keeps zs.toArray (j + 1) = true
        · exact ⟨j + 1, ⟨hj, hk⟩, by rw [getElem!_pos _ (j + 1) (by simpa using hj)]; simpa using e⟩
        · refine ih (by omega) ?_
          unfold Lib.keeps at hk
          rw [getElem!_pos _ (j + 1) (by simpa using hj)] at hk
          rw [show j + 1 - 1 = j from rfl, getElem!_pos _ j (by simp; omega)] at hk
          simp at hk
          rw [← hk]; exact e
    exact key j hj e
theorem compact_sorted (zs : List Int) (h : zs.Pairwise (· ≤ ·)) : (Lib.compact zs).Pairwise (· < ·) := by
  unfold Lib.compact Lib.compactUpTo
  rw [List.pairwise_map, List.pairwise_filter]
  have hr := List.pairwise_lt_range (n := zs.length)
  rw [List.pairwise_iff_getElem] at h ⊢
  intro i j hi hj hij ha hb
  rw [List.length_range] at hi hj
  rw [List.getElem_range] at ha ⊢
  rw [List.getElem_range] at hb ⊢
  rw [getElem!_pos _ i (by simpa using hi), getElem!_pos _ j (by simpa using hj)]
  unfold Lib.keeps at hb
  rw [getElem!_pos _ j (by simpa using hj), getElem!_pos _ (j - 1) (by simp; omega)] at hb
  simp at hb ⊢
  have h1 : zs[i] ≤ zs[j - 1] := by
    rcases Nat.lt_or_ge i (j - 1) with h2 | h2
    · exact h i (j - 1) hi (by omega) h2
    · have : i = j - 1 := by omega
      subst this; exact Int.le_refl _
  have h2 := h (j - 1) j (by omega) hj (by omega)
  rcases hb with hb | hb
  · omega
  · omega
theorem pd_eq {ls : List ByteArray} {lc : List CPending} {ar : Bool} {nk : Nat} (h : diskB ls lc ar nk = true) : Lib.compact ((lc.map CPending.a).mergeSort fun x y => decide (x ≤ y)) = pdUp lc ls.length := by
  have hpen : ∀ p ∈ lc, 0 ≤ p.a ∧ p.a < (ls.length : Int) := fun p hp => by
    unfold diskB at h
    simp only [Bool.and_eq_true, List.all_eq_true] at h
    have h1 := h.2.2 p hp
    unfold penB at h1
    simp only [Bool.and_eq_true] at h1
    have := inB_true h1.1
    omega
  have hs : ((lc.map CPending.a).mergeSort fun x y => decide (x ≤ y)).Pairwise (· ≤ ·) := by
    have := List.pairwise_mergeSort (le := fun x y : Int => decide (x ≤ y)) (fun a b c h1 h2 => by simp at *; omega) (fun a b => by simp; omega) (lc.map CPending.a)
    exact this.imp (fun h => by simpa using h)
  refine sorted_eq (compact_sorted _ hs) (pdUp_sorted _ _) (fun x => ?_)
  rw [compact_mem, List.mem_mergeSort, mem_pdUp, List.mem_map]
  constructor
  · rintro ⟨p, hp, rfl⟩
    exact ⟨hpen p hp, p, hp, rfl⟩
  · rintro ⟨-, p, hp, e⟩
    exact ⟨p, hp, e⟩
end Go.Proofs.Ytnbfjkebakaigaa
