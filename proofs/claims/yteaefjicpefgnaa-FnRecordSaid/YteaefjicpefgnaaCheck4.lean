/- Plain facts about checkpoints' texts and records: both readings agree. No program in sight. -/
import Derived.Test.YteaefjicpefgnaaCheck3
import Derived.Test.YteaefjicpefgnaaRecord
namespace Go.Proofs.Yteaefjicpefgnaa
open Go.RowKit
set_option linter.unusedVariables false
set_option maxRecDepth 100000
def okL (high lsn : Int) : Int → List (Nat × Nat) → Bool
  | _, [] => true
  | b, q :: r => inB (q.1 : Int) (b + 1) high && inB (q.2 : Int) 1 (lsn - 1) && okL high lsn (q.1 : Int) r
theorem ckI_stays (lsn high : Int) (m : Nat) : ∀ (l : List UInt8) (ok : Bool) (b : Int), (ckI lsn high m l true ok b).2.1 = true := by
  induction m with
  | zero => intro l ok b; rfl
  | succ m ih => intro l ok b; unfold ckI; simp only [Bool.true_or]; exact ih _ _ _
theorem ckI_enough (lsn high : Int) (m : Nat) : ∀ (l : List UInt8) (ok : Bool) (b : Int), 2 * m ≤ l.length → ckI lsn high m l false ok b = ((rdPs m l).2, false, ok && okL high lsn b (rdPs m l).1) := by
  induction m with
  | zero => intro l ok b h; simp [ckI, rdPs, okL]
  | succ m ih =>
    intro l ok b h
    match l, h with
    | a :: c :: r, h =>
      have h2 : 2 * m ≤ r.length := by simp at h; omega
      unfold ckI
      have e1 : nmV (a :: c :: r) = a.toNat := rfl
      have e2 : nmV (c :: r) = c.toNat := rfl
      simp only [List.tail_cons, List.isEmpty_cons, Bool.or_false, e1, e2]
      rw [ih r _ _ h2]
      simp [rdPs, okL, Bool.and_assoc]
    | [_], h => simp at h; omega
    | [], h => simp at h
theorem ckI_lack (lsn high : Int) (m : Nat) : ∀ (l : List UInt8) (f ok : Bool) (b : Int), l.length < 2 * m → (ckI lsn high m l f ok b).2.1 = true := by
  induction m with
  | zero => intro l f ok b h; omega
  | succ m ih =>
    intro l f ok b h
    unfold ckI
    match l, h with
    | a :: c :: r, h => exact ih r _ _ _ (by simp at h; omega)
    | [_], h => simp only [List.tail_cons, List.isEmpty_nil, Bool.or_true]; exact ckI_stays _ _ _ _ _ _
    | [], h => simp only [List.tail_nil, List.isEmpty_nil, Bool.or_true]; exact ckI_stays _ _ _ _ _ _
theorem okL_iff (high lsn : Int) (l : List (Nat × Nat)) : ∀ b : Int, okL high lsn b l = true ↔ ∀ j, j < l.length → inB ((l.getD j (0, 0)).1 : Int) ((if j = 0 then b else ((l.getD (j - 1) (0, 0)).1 : Int)) + 1) high = true ∧ inB ((l.getD j (0, 0)).2 : Int) 1 (lsn - 1) = true := by
  induction l with
  | nil => intro b; simp [okL]
  | cons q r ih =>
    intro b
    unfold okL
    rw [Bool.and_eq_true, Bool.and_eq_true, ih]
    constructor
    · rintro ⟨⟨h1, h2⟩, h3⟩ j hj
      cases j with
      | zero => exact ⟨h1, h2⟩
      | succ j =>
        have := h3 j (by simpa using hj)
        cases j with
        | zero => simpa using this
        | succ j => simpa using this
    · intro h
      refine ⟨by simpa using h 0 (by simp), fun j hj => ?_⟩
      have := h (j + 1) (by simpa using hj)
      cases j with
      | zero => simpa using this
      | succ j => simpa using this
theorem okTo_iff (low high lsn : Int) (l : List (Nat × Nat)) (n : Nat) : okTo low high lsn l n = true ↔ ∀ j, j < n → okAt low high lsn l j = true := by
  unfold okTo; rw [List.all_eq_true]; simp
theorem okL_okTo (low high lsn : Int) (l : List (Nat × Nat)) : okL high lsn (low - 1) l = okTo low high lsn l l.length := by
  rw [Bool.eq_iff_iff, okL_iff, okTo_iff]
  constructor
  · intro h
    have hlow : ∀ j, j < l.length → low ≤ ((l.getD j (0, 0)).1 : Int) := by
      intro j
      induction j with
      | zero => intro hj; have := (inB_true (h 0 hj).1).1; simp at this; exact this
      | succ j ih =>
        intro hj
        have h1 := ih (by omega)
        have := (inB_true (h (j + 1) hj).1).1
        simp only [Nat.add_sub_cancel] at this
        rw [if_neg (by omega)] at this
        omega
    intro j hj
    obtain ⟨h1, h2⟩ := h j hj
    have h3 := inB_true h1
    unfold okAt
    rw [h2, show inB ((l.getD j (0, 0)).1 : Int) low high = true by unfold inB; rw [decide_eq_true (hlow j hj), decide_eq_true h3.2]; rfl]
    by_cases hj0 : j = 0
    · rw [decide_eq_true hj0]; rfl
    · rw [if_neg hj0] at h3
      rw [decide_eq_true (show (l.getD (j - 1) (0, 0)).1 < (l.getD j (0, 0)).1 by omega)]; simp
  · intro h j hj
    have h1 := h j hj
    unfold okAt at h1
    rw [Bool.and_eq_true, Bool.and_eq_true, Bool.or_eq_true, decide_eq_true_eq, decide_eq_true_eq] at h1
    obtain ⟨⟨h2, h3⟩, h4⟩ := h1
    refine ⟨?_, h3⟩
    have h5 := inB_true h2
    unfold inB
    rw [decide_eq_true h5.2]
    by_cases hj0 : j = 0
    · rw [if_pos hj0, decide_eq_true (by omega)]; rfl
    · rw [if_neg hj0]
      rcases h4 with h4 | h4
      · exact absurd h4 hj0
      · rw [decide_eq_true (by omega)]; rfl
theorem ckB_eq (l : List UInt8) (lsn : Int) : ckB l lsn = ckS l lsn := by
  unfold ckB ckS
  cases l with
  | nil =>
    have e : (ckL 8 0 7 lsn [] false).2.1 = true := by unfold ckL; exact ckI_stays _ _ _ _ _ _
    rw [e]; simp [rdCk]
  | cons c r =>
    have eN : nmV (c :: r) = c.toNat := rfl
    by_cases h : 2 * c.toNat ≤ r.length
    · obtain ⟨hd, hdl⟩ := rdPs_drop c.toNat r h
      have e1 : ckL 8 0 7 lsn (c :: r) false = ((rdPs c.toNat r).2, false, decide ((c.toNat : Int) ≤ 8) && okL 7 lsn (0 - 1) (rdPs c.toNat r).1) := by
        unfold ckL; rw [eN]; exact ckI_enough _ _ _ _ _ _ h
      have e2 : rdCk (c :: r) = rdCk1 (rdPs c.toNat r).1 (rdPs c.toNat r).2 := by simp only [rdCk, if_pos h]
      rw [e1, e2]
      rw [okL_okTo]
      generalize (rdPs c.toNat r).1 = D at hdl
      generalize (rdPs c.toNat r).2 = R
      cases R with
      | nil =>
        have e : (ckL 10 1 60 lsn [] false).2.1 = true := by unfold ckL; exact ckI_stays _ _ _ _ _ _
        simp only [e]; simp [rdCk1]
      | cons c2 r2 =>
        have eN2 : nmV (c2 :: r2) = c2.toNat := rfl
        by_cases h2 : 2 * c2.toNat ≤ r2.length
        · obtain ⟨hd2, hdl2⟩ := rdPs_drop c2.toNat r2 h2
          have e3 : ckL 10 1 60 lsn (c2 :: r2) false = ((rdPs c2.toNat r2).2, false, decide ((c2.toNat : Int) ≤ 10) && okL 60 lsn (1 - 1) (rdPs c2.toNat r2).1) := by
            unfold ckL; rw [eN2]; exact ckI_enough _ _ _ _ _ _ h2
          simp only [e3, okL_okTo]
          simp only [rdCk1, if_pos h2]
          generalize (rdPs c2.toNat r2).1 = T at hdl2
          generalize (rdPs c2.toNat r2).2 = R2
          have d1 : decide ((c.toNat : Int) ≤ 8) = decide (D.length ≤ 8) := by rw [decide_eq_decide]; omega
          have d2 : decide ((c2.toNat : Int) ≤ 10) = decide (T.length ≤ 10) := by rw [decide_eq_decide]; omega
          rw [d1, d2]
          cases R2 with
          | nil =>
            simp only [List.isEmpty_nil, if_true, Bool.not_false, Bool.and_true]
            generalize okTo 0 7 lsn D D.length = x
            generalize okTo 1 60 lsn T T.length = y
            generalize decide (D.length ≤ 8) = u
            generalize decide (T.length ≤ 10) = v
            cases x <;> cases y <;> cases u <;> cases v <;> rfl
          | cons a b => simp
        · have e3 : (ckL 10 1 60 lsn (c2 :: r2) false).2.1 = true := by unfold ckL; rw [eN2]; exact ckI_lack _ _ _ _ _ _ _ (by simpa using h2)
          simp only [e3]
          simp [rdCk1, h2]
    · have e1 : (ckL 8 0 7 lsn (c :: r) false).2.1 = true := by unfold ckL; rw [eN]; exact ckI_lack _ _ _ _ _ _ _ (by simpa using h)
      rw [e1]
      simp [rdCk, h]
/-- which record is right, as the reference says -/
def recS (e ls tx k p nx pg sl : Int) (bf af : ByteArray) : Bool :=
  inB e 1 60 && inB ls 1 60 && inB k 1 6 && inB p 0 (ls - 1) && inB nx 0 (ls - 1) && inB pg 0 7 && inB sl 0 3 && decide (bf.size ≤ 30) &&
    if k = 6 then decide (tx = 0) && decide (p = 0) && decide (nx = 0) && decide (pg = 0) && decide (sl = 0) && bf.toList.isEmpty && ckS af.data.toList ls
    else inB tx 1 60 && decide (af.size ≤ 30) &&
      (if k = 2 then decide (nx = 0) else if k = 3 then bf.toList.isEmpty else decide (pg = 0) && decide (sl = 0) && bf.toList.isEmpty && af.toList.isEmpty && decide (nx = 0)) && (decide (k = 1) == decide (p = 0))
theorem isEmpty_size (s : ByteArray) : s.toList.isEmpty = decide (s.size = 0) := by
  by_cases h : s.size = 0
  · rw [str_nil h, decide_eq_true h]; rfl
  · rw [str_some h, decide_eq_false h]
theorem recB_eq (e ls tx k p nx pg sl : Int) (bf af : ByteArray) : recB e ls tx k p nx pg sl bf af = recS e ls tx k p nx pg sl bf af := by
  unfold recB recS
  rw [ckB_eq, isEmpty_size, isEmpty_size]
  generalize ckS af.data.toList ls = ck
  rw [Bool.eq_iff_iff]
  by_cases h6 : k = 6
  · subst h6
    simp only [if_true, inB, Bool.and_eq_true, decide_eq_true_eq]
    constructor
    · rintro ⟨⟨⟨h1, h2⟩, h3, h4⟩, ⟨⟨⟨⟨⟨h5, h6⟩, h7⟩, h8⟩, h9⟩, h10⟩, h11⟩
      subst h5; subst h6; subst h7; subst h8; subst h9
      refine ⟨⟨⟨⟨⟨⟨⟨⟨⟨?_, ?_⟩, ?_, ?_⟩, ?_, ?_⟩, ?_, ?_⟩, ?_, ?_⟩, ?_, ?_⟩, ?_, ?_⟩, ?_⟩, ⟨⟨⟨⟨⟨rfl, rfl⟩, rfl⟩, rfl⟩, rfl⟩, h10⟩, h11⟩ <;> omega
    · rintro ⟨⟨⟨⟨⟨⟨⟨⟨⟨h1, h2⟩, h3, h4⟩, _⟩, _⟩, _⟩, _⟩, _⟩, _⟩, h⟩
      exact ⟨⟨⟨h1, h2⟩, h3, h4⟩, h⟩
  · by_cases h2 : k = 2
    · subst h2
      simp only [inB, Bool.and_eq_true, decide_eq_true_eq, beq_iff_eq, show ¬ ((2 : Int) = 6) by decide, if_true, if_false, show ¬ ((2 : Int) = 1) by decide, decide_false]
      simp only [decide_eq_false_iff_not, eq_comm (a := false)]
      omega
    · by_cases h3 : k = 3
      · subst h3
        simp only [inB, Bool.and_eq_true, decide_eq_true_eq, beq_iff_eq, show ¬ ((3 : Int) = 6) by decide, show ¬ ((3 : Int) = 2) by decide, if_true, if_false, show ¬ ((3 : Int) = 1) by decide, decide_false]
        simp only [decide_eq_false_iff_not, eq_comm (a := false)]
        omega
      · simp only [if_neg h6, if_neg h2, if_neg h3, inB, Bool.and_eq_true, decide_eq_true_eq, beq_iff_eq, decide_eq_decide]
        omega
end Go.Proofs.Yteaefjicpefgnaa
