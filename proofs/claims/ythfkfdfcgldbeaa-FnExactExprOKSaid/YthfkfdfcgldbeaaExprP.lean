/- Expressions: what stands rightly. No program in sight. -/
import Derived.Test.YthfkfdfcgldbeaaFlatValue
namespace Go.Proofs.Ythfkfdfcgldbeaa
open Go.RowKit
set_option linter.unusedVariables false
set_option maxRecDepth 100000
/-- what a node is: 1 a leaf, 2 of one part, 3 of two parts, 0 none -/
structure ENode where
  kind : Nat
  a : Int
  b : Int
/-- a machine over places and depths, top first -/
def stepE (i : Int) (x : ENode) (st : List (Int × Int)) : Option (List (Int × Int)) :=
  if x.kind = 1 then some ((i, 1) :: st)
  else if x.kind = 2 then (match st with
    | (k, d) :: r => if k = x.a then some ((i, d + 1) :: r) else none
    | [] => none)
  else if x.kind = 3 then (match st with
    | (k, d) :: (k2, c) :: r => if k = x.b ∧ k2 = x.a then some ((i, max c d + 1) :: r) else none
    | _ => none)
  else none
/-- the machine over nodes i, i+1, .. -/
def runE (l : List ENode) : Nat → Nat → List (Int × Int) → Option (List (Int × Int))
  | 0, _, st => some st
  | n + 1, i, st => match l[i]? with
    | none => none
    | some x => match stepE (i : Int) x st with
      | none => none
      | some st' => runE l n (i + 1) st'
theorem runE_add (l : List ENode) : ∀ (m n i : Nat) (st st' : List (Int × Int)), runE l m i st = some st' → runE l (m + n) i st = runE l n (i + m) st'
  | 0, n, i, st, st', h => by simp only [runE, Option.some.injEq] at h; rw [h, Nat.zero_add, Nat.add_zero]
  | m + 1, n, i, st, st', h => by
    rw [show m + 1 + n = (m + n) + 1 from by omega]
    simp only [runE] at h ⊢
    cases hx : l[i]? with
    | none => rw [hx] at h; cases h
    | some x =>
      rw [hx] at h
      simp only at h ⊢
      cases hs : stepE (i : Int) x st with
      | none => rw [hs] at h; cases h
      | some st2 =>
        rw [hs] at h
        simp only at h ⊢
        rw [runE_add l m n (i + 1) st2 st' h, show i + 1 + m = i + (m + 1) from by omega]
/-- where the parts of the node ahead of place k begin, and how deep it is -/
def walkE (l : List ENode) : Nat → Option (Nat × Int)
  | 0 => none
  | k + 1 => match l[k]? with
    | none => none
    | some x =>
      if x.kind = 1 then some (k, 1)
      else if x.kind = 2 then (match walkE l k with
        | none => none
        | some (f, d) => if x.a = (k : Int) - 1 then some (f, d + 1) else none)
      else if x.kind = 3 then (match walkE l k with
        | none => none
        | some (m, d) => if h : m ≤ k then (match walkE l m with
          | none => none
          | some (f, c) => if x.a = (m : Int) - 1 ∧ x.b = (k : Int) - 1 then some (f, max c d + 1) else none) else none)
      else none
theorem walkE_zero (l : List ENode) : walkE l 0 = none := by unfold walkE; rfl
theorem walkE_leaf {l : List ENode} {k : Nat} {x : ENode} (hx : l[k]? = some x) (h : x.kind = 1) : walkE l (k + 1) = some (k, 1) := by
  rw [walkE]; simp only [hx]; rw [if_pos h]
theorem walkE_one {l : List ENode} {k : Nat} {x : ENode} (hx : l[k]? = some x) (h : x.kind = 2) : walkE l (k + 1) = (match walkE l k with
        | none => none
        | some (f, d) => if x.a = (k : Int) - 1 then some (f, d + 1) else none) := by
  rw [walkE]; simp only [hx]; rw [if_neg (by omega), if_pos h]
theorem walkE_two {l : List ENode} {k : Nat} {x : ENode} (hx : l[k]? = some x) (h : x.kind = 3) : walkE l (k + 1) = (match walkE l k with
        | none => none
        | some (m, d) => if m ≤ k then (match walkE l m with
          | none => none
          | some (f, c) => if x.a = (m : Int) - 1 ∧ x.b = (k : Int) - 1 then some (f, max c d + 1) else none) else none) := by
  rw [walkE]; simp only [hx]; rw [if_neg (by omega), if_neg (by omega), if_pos h]
  cases walkE l k with
  | none => rfl
  | some y =>
    obtain ⟨m, d⟩ := y
    by_cases hm : m ≤ k
    · simp only [dif_pos hm, if_pos hm]
    · simp only [dif_neg hm, if_neg hm]
theorem walkE_other {l : List ENode} {k : Nat} {x : ENode} (hx : l[k]? = some x) (h1 : x.kind ≠ 1) (h2 : x.kind ≠ 2) (h3 : x.kind ≠ 3) : walkE l (k + 1) = none := by
  rw [walkE]; simp only [hx]; rw [if_neg h1, if_neg h2, if_neg h3]
theorem walkE_bound {l : List ENode} : ∀ (k f : Nat) (d : Int), walkE l k = some (f, d) → f < k ∧ 1 ≤ d ∧ d ≤ (k : Int) := by
  intro k
  induction k using Nat.strongRecOn with
  | ind k ih =>
    intro f d h
    cases k with
    | zero => rw [walkE_zero] at h; cases h
    | succ k =>
      cases hx : l[k]? with
      | none => rw [walkE] at h; simp only [hx] at h; cases h
      | some x =>
        by_cases h1 : x.kind = 1
        · rw [walkE_leaf hx h1] at h
          injection h with h; injection h with h2 h3
          omega
        by_cases h2 : x.kind = 2
        · rw [walkE_one hx h2] at h
          cases hw : walkE l k with
          | none => rw [hw] at h; cases h
          | some y =>
            obtain ⟨f', d'⟩ := y
            have := ih k (by omega) f' d' hw
            rw [hw] at h
            simp only at h
            split at h
            · injection h with h; injection h with h4 h5
              omega
            · cases h
        by_cases h3 : x.kind = 3
        · rw [walkE_two hx h3] at h
          cases hw : walkE l k with
          | none => rw [hw] at h; cases h
          | some y =>
            obtain ⟨m, d'⟩ := y
            have a1 := ih k (by omega) m d' hw
            rw [hw] at h
            simp only at h
            split at h
            · cases hw2 : walkE l m with
              | none => rw [hw2] at h; cases h
              | some z =>
                obtain ⟨f2, c⟩ := z
                have a2 := ih m (by omega) f2 c hw2
                rw [hw2] at h
                simp only at h
                split at h
                · injection h with h; injection h with h4 h5
                  omega
                · cases h
            · cases h
        · rw [walkE_other hx h1 h2 h3] at h; cases h
/-- what is walked rightly the machine takes to one part -/
theorem run_of_walk {l : List ENode} : ∀ (k f : Nat) (d : Int), walkE l k = some (f, d) → ∀ st, runE l (k - f) f st = some (((k : Int) - 1, d) :: st) := by
  intro k
  induction k using Nat.strongRecOn with
  | ind k ih =>
    intro f d h st
    have hb := walkE_bound k f d h
    cases k with
    | zero => omega
    | succ k =>
      cases hx : l[k]? with
      | none => rw [walkE] at h; simp only [hx] at h; cases h
      | some x =>
        have hk1 : ((k + 1 : Nat) : Int) - 1 = (k : Int) := by omega
        rw [hk1]
        by_cases h1 : x.kind = 1
        · rw [walkE_leaf hx h1] at h
          injection h with h; injection h with h2 h3
          subst h2; subst h3
          rw [show k + 1 - k = 1 from by omega]
          simp only [runE, hx, stepE, if_pos h1]
        by_cases h2 : x.kind = 2
        · rw [walkE_one hx h2] at h
          cases hw : walkE l k with
          | none => rw [hw] at h; cases h
          | some y =>
            obtain ⟨f', d'⟩ := y
            have hb' := walkE_bound k f' d' hw
            have := ih k (by omega) f' d' hw st
            rw [hw] at h
            simp only at h
            split at h
            · rename_i hxa
              injection h with h; injection h with h4 h5
              subst h4; subst h5
              rw [show k + 1 - f' = (k - f') + 1 from by omega, runE_add l (k - f') 1 f' st _ this, show f' + (k - f') = k from by omega]
              have hne : ¬ x.kind = 1 := h1
              simp only [runE, hx, stepE, if_neg hne, if_pos h2]
              rw [if_pos hxa.symm]
            · cases h
        by_cases h3 : x.kind = 3
        · rw [walkE_two hx h3] at h
          cases hw : walkE l k with
          | none => rw [hw] at h; cases h
          | some y =>
            obtain ⟨m, d'⟩ := y
            have hb' := walkE_bound k m d' hw
            rw [hw] at h
            simp only at h
            split at h
            · cases hw2 : walkE l m with
              | none => rw [hw2] at h; cases h
              | some z =>
                obtain ⟨f2, c⟩ := z
                have hb2 := walkE_bound m f2 c hw2
                have a1 := ih m (by omega) f2 c hw2 st
                have a2 := ih k (by omega) m d' hw (((m : Int) - 1, c) :: st)
                rw [hw2] at h
                simp only at h
                split at h
                · rename_i hm hc
                  injection h with h; injection h with h4 h5
                  subst h4; subst h5
                  rw [show k + 1 - f2 = (m - f2) + ((k - m) + 1) from by omega, runE_add l (m - f2) _ f2 st _ a1, show f2 + (m - f2) = m from by omega,
                    runE_add l (k - m) 1 m _ _ a2, show m + (k - m) = k from by omega]
                  simp only [runE, hx, stepE, if_neg h1, if_neg h2, if_pos h3]
                  rw [if_pos ⟨hc.2.symm, hc.1.symm⟩]
                · cases h
            · cases h
        · rw [walkE_other hx h1 h2 h3] at h; cases h
/-- what the machine's parts are -/
def ChainE (l : List ENode) : List (Int × Int) → Nat → Prop
  | [], i => i = 0
  | (k, d) :: r, i => k = (i : Int) - 1 ∧ ∃ f, walkE l i = some (f, d) ∧ ChainE l r f
theorem chain_step {l : List ENode} {i : Nat} {x : ENode} {st st' : List (Int × Int)} (hx : l[i]? = some x) (hC : ChainE l st i) (hs : stepE (i : Int) x st = some st') : ChainE l st' (i + 1) := by
  have hi1 : ((i + 1 : Nat) : Int) - 1 = (i : Int) := by omega
  by_cases h1 : x.kind = 1
  · simp only [stepE, if_pos h1, Option.some.injEq] at hs
    subst hs
    exact ⟨hi1.symm, i, walkE_leaf hx h1, hC⟩
  by_cases h2 : x.kind = 2
  · simp only [stepE, if_neg h1, if_pos h2] at hs
    cases st with
    | nil => cases hs
    | cons y r =>
      obtain ⟨k, d⟩ := y
      obtain ⟨hk, f, hw, hr⟩ := hC
      simp only at hs
      split at hs
      · rename_i hka
        injection hs with hs
        subst hs
        refine ⟨hi1.symm, f, ?_, hr⟩
        rw [walkE_one hx h2, hw]
        simp only
        rw [if_pos (by rw [← hka, hk])]
      · cases hs
  by_cases h3 : x.kind = 3
  · simp only [stepE, if_neg h1, if_neg h2, if_pos h3] at hs
    cases st with
    | nil => cases hs
    | cons y r =>
      obtain ⟨k, d⟩ := y
      cases r with
      | nil => cases hs
      | cons z r =>
        obtain ⟨k2, c⟩ := z
        obtain ⟨hk, m, hw, hk2, f, hw2, hr⟩ := hC
        have hm := walkE_bound i m d hw
        simp only at hs
        split at hs
        · rename_i hc
          injection hs with hs
          subst hs
          refine ⟨hi1.symm, f, ?_, hr⟩
          rw [walkE_two hx h3, hw]
          simp only
          rw [if_pos (by omega), hw2]
          simp only
          rw [if_pos ⟨by rw [← hc.2, hk2], by rw [← hc.1, hk]⟩]
        · cases hs
  · simp only [stepE, if_neg h1, if_neg h2, if_neg h3] at hs
    cases hs
/-- whether nodes stand rightly -/
def exprB (l : List ENode) : Bool := match walkE l l.length with
  | some (f, d) => f == 0 && decide (d ≤ 12)
  | none => false
theorem exprB_of_walk {l : List ENode} {f : Nat} {d : Int} (h : walkE l l.length = some (f, d)) : exprB l = (f == 0 && decide (d ≤ 12)) := by
  unfold exprB; rw [h]
theorem exprB_none {l : List ENode} (h : walkE l l.length = none) : exprB l = false := by
  unfold exprB; rw [h]
/-- the machine has come to its end with one part -/
theorem exprB_of_run {l : List ENode} {k d : Int} (hC : ChainE l [(k, d)] l.length) : exprB l = decide (d ≤ 12) := by
  obtain ⟨hk, f, hw, hf⟩ := hC
  have hf : f = 0 := hf
  subst hf
  rw [exprB_of_walk hw]; simp
/-- it has come to its end with another number of parts, or stopped on the way -/
theorem exprB_no {l : List ENode} {st : Option (List (Int × Int))} (hr : runE l l.length 0 [] = st) (h : ∀ y, st ≠ some [y]) : exprB l = false := by
  cases hw : walkE l l.length with
  | none => exact exprB_none hw
  | some y =>
    obtain ⟨f, d⟩ := y
    rw [exprB_of_walk hw]
    by_cases hf : f = 0
    · subst hf
      have := run_of_walk _ _ _ hw []
      rw [Nat.sub_zero, hr] at this
      exact absurd this (h _)
    · simp [hf]
theorem chainE_run {l : List ENode} : ∀ (n i : Nat) (st st' : List (Int × Int)), ChainE l st i → runE l n i st = some st' → ChainE l st' (i + n)
  | 0, i, st, st', hC, h => by simp only [runE, Option.some.injEq] at h; rw [← h]; exact hC
  | n + 1, i, st, st', hC, h => by
    simp only [runE] at h
    cases hx : l[i]? with
    | none => rw [hx] at h; cases h
    | some x =>
      rw [hx] at h
      simp only at h
      cases hs : stepE (i : Int) x st with
      | none => rw [hs] at h; cases h
      | some st2 =>
        rw [hs] at h
        simp only at h
        have := chainE_run n (i + 1) st2 st' (chain_step hx hC hs) h
        rw [show i + (n + 1) = i + 1 + n from by omega]
        exact this
/-- the machine after i nodes -/
theorem run_step {l : List ENode} {i : Nat} {x : ENode} {st : List (Int × Int)} (hx : l[i]? = some x) (h : runE l i 0 [] = some st) : runE l (i + 1) 0 [] = stepE (i : Int) x st := by
  rw [runE_add l i 1 0 [] st h, Nat.zero_add]
  simp only [runE, hx]
  cases stepE (i : Int) x st <;> rfl
/-- it has stopped on the way -/
theorem run_stop {l : List ENode} {i n : Nat} {x : ENode} {st : List (Int × Int)} (hx : l[i]? = some x) (h : runE l i 0 [] = some st) (hs : stepE (i : Int) x st = none) (hn : i < n) : runE l n 0 [] = none := by
  obtain ⟨m, rfl⟩ : ∃ m, n = i + (m + 1) := ⟨n - i - 1, by omega⟩
  rw [runE_add l i (m + 1) 0 [] st h, Nat.zero_add]
  simp only [runE, hx, hs]
end Go.Proofs.Ythfkfdfcgldbeaa
