/- What joining values keeps. No program in sight. -/
import Derived.Test.YthfkfdfcgldbeaaBin6
namespace Go.Proofs.Ythfkfdfcgldbeaa
open Go.RowKit
set_option linter.unusedVariables false
set_option maxRecDepth 100000
theorem okV_nulV : okV nulV = true := by
  unfold okV valB nulV
  simp
theorem okV_numV {n : Int} (h1 : -1000000000 ≤ n) (h2 : n ≤ 1000000000) : okV (numV n) = true := by
  unfold okV valB numV
  dsimp only
  rw [if_neg (by omega), if_pos rfl]
  simp [h1, h2]
theorem okV_bitV (b : Bool) : okV (bitV b) = true := by
  unfold bitV
  cases b
  · exact okV_numV (by simp) (by simp)
  · exact okV_numV (by simp) (by simp)
theorem okV_bndV (n : Int) : okV (bndV n) = true := by
  unfold bndV
  cases h : inB n (-1000000000) 1000000000 with
  | false => exact okV_nulV
  | true =>
    have h2 : -1000000000 ≤ n ∧ n ≤ 1000000000 := by unfold inB at h; simpa using h
    exact okV_numV h2.1 h2.2
theorem okV_conV (op : Int) (a b : CValue) : okV (conV op a b) = true := by
  unfold conV
  split
  · exact okV_nulV
  split
  · exact okV_numV (by omega) (by omega)
  split
  · exact okV_numV (by omega) (by omega)
  split
  · exact okV_nulV
  · exact okV_bitV _
theorem okV_ariV (op n m : Int) : okV (ariV op n m) = true := by
  unfold ariV
  split
  · exact okV_bndV _
  split
  · exact okV_bndV _
  split
  · exact okV_bndV _
  split
  · exact okV_nulV
  · exact okV_bndV _
theorem okV_binV (op : Int) (a b : CValue) : okV (binV op a b) = true := by
  unfold binV
  split
  · exact okV_conV op a b
  split
  · exact okV_nulV
  split
  · exact okV_nulV
  split
  · exact okV_nulV
  split
  · exact okV_bitV _
  split
  · exact okV_bitV _
  · exact okV_ariV _ _ _
theorem okV_bvV (op : Int) (a b : CValue) : okV (bvV op a b) = true := by
  unfold bvV
  split
  · exact okV_nulV
  split
  · exact okV_nulV
  split
  · exact okV_nulV
  · exact okV_binV op a b
theorem binV_none {op : Int} (h : op < 12) (b : CValue) : binV op nulV b = nulV := by
  unfold binV
  have h1 : (op == 12) = false := by rw [beq_eq_false_iff_ne]; omega
  have h2 : (op == 13) = false := by rw [beq_eq_false_iff_ne]; omega
  rw [h1, h2]
  have h3 : (nulV.a == 0) = true := rfl
  rw [h3]
  simp
theorem bvV_none {op : Int} (h : op < 12) (b : CValue) : bvV op nulV b = nulV := by
  unfold bvV
  split
  · rfl
  split
  · rfl
  split
  · rfl
  · exact binV_none h b
theorem vEq_comm (a b : CValue) : vEq a b = vEq b a := by
  unfold vEq
  rw [Bool.eq_iff_iff]
  simp only [Bool.and_eq_true, beq_iff_eq, decide_eq_true_eq]
  constructor <;> rintro ⟨h1, h2, h3⟩ <;> exact ⟨h1.symm, h2.symm, h3.symm⟩
theorem conV_comm (op : Int) (a b : CValue) : conV op a b = conV op b a := by
  unfold conV
  rw [Bool.or_comm (a.a == 2), Bool.or_comm (zerB a), Bool.or_comm (othB a), Bool.or_comm (a.a == 0)]
theorem conC_comm (a b : CValue) : conC a b = conC b a := by
  unfold conC
  rw [Bool.or_comm (a.a == 2)]
theorem bool_beq_comm (x y : Int) : (x == y) = (y == x) := by
  rw [Bool.eq_iff_iff]; simp only [beq_iff_eq]; exact eq_comm
theorem binV_comm {op : Int} (h : op = 6 ∨ op = 8 ∨ op = 10 ∨ op = 12 ∨ op = 13) (a b : CValue) : binV op a b = binV op b a := by
  unfold binV
  rw [conV_comm, Bool.or_comm (a.a == 2), Bool.or_comm (a.a == 0), vEq_comm, bool_beq_comm a.a b.a]
  have hA : (op == 12 || op == 13) = false → (op == 10) = false → (op == 11) = false → ariV op a.b b.b = ariV op b.b a.b := by
    intro h1 h2 h3
    unfold ariV
    rcases h with rfl | rfl | rfl | rfl | rfl
    · simp [Int.add_comm]
    · simp [Int.mul_comm]
    · cases h2
    · cases h1
    · cases h1
  have hL : (op == 11) = false := by
    rcases h with rfl | rfl | rfl | rfl | rfl <;> rfl
  rw [hL]
  cases h1 : (op == 12 || op == 13) with
  | true => rfl
  | false =>
    cases h2 : (op == 10) with
    | true => rfl
    | false => rw [hA h1 h2 hL]; simp only [Bool.false_eq_true, if_false]
theorem binC_comm {op : Int} (h : op = 6 ∨ op = 8 ∨ op = 10 ∨ op = 12 ∨ op = 13) (a b : CValue) : binC op a b = binC op b a := by
  unfold binC
  rw [conC_comm, Bool.or_comm (a.a == 2), Bool.or_comm (a.a == 0), bool_beq_comm a.a b.a]
  have hA : (op == 12 || op == 13) = false → (op == 10) = false → (op == 11) = false → ariC op a.b b.b = ariC op b.b a.b := by
    intro h1 h2 h3
    unfold ariC
    rcases h with rfl | rfl | rfl | rfl | rfl
    · simp [Int.add_comm]
    · simp [Int.mul_comm]
    · cases h2
    · cases h1
    · cases h1
  have hL : (op == 11) = false := by
    rcases h with rfl | rfl | rfl | rfl | rfl <;> rfl
  rw [hL]
  cases h1 : (op == 12 || op == 13) with
  | true => rfl
  | false =>
    cases h2 : (op == 10) with
    | true => rfl
    | false => rw [hA h1 h2 hL]
theorem bv_comm {op : Int} (h : op = 6 ∨ op = 8 ∨ op = 10 ∨ op = 12 ∨ op = 13) {a b : CValue} (ha : okV a = true) (hb : okV b = true) : bvV op a b = bvV op b a ∧ bvC op a b = bvC op b a := by
  unfold bvV bvC
  rw [ha, hb, binV_comm h, binC_comm h]
  exact ⟨rfl, rfl⟩
theorem okV_small {x : CValue} (h : okV x = true) : x.c.size ≤ maxLen := by
  unfold maxLen
  rcases okV_shape h with rfl | ⟨n, rfl, _, _⟩ | ⟨s, rfl, hs⟩
  · show ByteArray.empty.size ≤ _; simp
  · show ByteArray.empty.size ≤ _; simp
  · show s.size ≤ _; omega
theorem vEq_refl (x : CValue) : vEq x x = true := by unfold vEq; simp
end Go.Proofs.Ythfkfdfcgldbeaa
