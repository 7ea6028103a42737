/- The search for a round of waits. No program in sight. -/
import Derived.Test.YtnbfjkebakaigaaFlatWait
namespace Go.Proofs.Ytnbfjkebakaigaa
open Go.RowKit
set_option linter.unusedVariables false
set_option maxRecDepth 100000
theorem nodup_len : ∀ (l m : List Int), l.Nodup → (∀ x ∈ l, x ∈ m) → l.length ≤ m.length
  | [], m, _, _ => Nat.zero_le _
  | x :: t, m, hd, hs => by
    rw [List.nodup_cons] at hd
    have h1 := nodup_len t (m.erase x) hd.2 (fun y hy => (List.mem_erase_of_ne (fun e => hd.1 (by rw [← e]; exact hy))).2 (hs y (List.mem_cons_of_mem _ hy)))
    have hm : x ∈ m := hs x (List.mem_cons_self ..)
    rw [List.length_erase_of_mem hm] at h1
    have := List.length_pos_of_mem hm
    rw [List.length_cons]; omega
/-- what one transaction's waits add to what has been reached; none: a wait for the first one -/
def innF (tx v : Int) : List CWait → List Int → Option (List Int)
  | [], r => some r
  | w :: ws, r => if w.a = v then (if w.b = tx then none else if w.b ∈ r then innF tx v ws r else innF tx v ws (r ++ [w.b])) else innF tx v ws r
/-- whether waits lead round, what has been reached being r, of which i have been looked at -/
def outF (lq : List CWait) (tx : Int) : Nat → Nat → List Int → Bool
  | 0, _, _ => false
  | f + 1, i, r => match r[i]? with
    | none => false
    | some v => match innF tx v lq r with
      | none => true
      | some r' => outF lq tx f (i + 1) r'
def roundB (lq : List CWait) (tx : Int) : Bool := outF lq tx (lq.length + 1) 0 [tx]
structure RInv (lq : List CWait) (tx : Int) (r : List Int) : Prop where
  nd : r.Nodup
  sub : ∀ x ∈ r, x ∈ tx :: lq.map CWait.b
  hd : ∃ s, r = tx :: s
theorem RInv.one (lq : List CWait) (tx : Int) : RInv lq tx [tx] := ⟨by simp, by simp, ⟨[], rfl⟩⟩
theorem RInv.le {lq : List CWait} {tx : Int} {r : List Int} (h : RInv lq tx r) : r.length ≤ lq.length + 1 := by
  have := nodup_len _ _ h.nd h.sub
  simpa using this
theorem RInv.more {lq : List CWait} {tx : Int} {r : List Int} (h : RInv lq tx r) {k : Nat} (hk : k < lq.length) (hn : ¬ lq[k].b ∈ r) : RInv lq tx (r ++ [lq[k].b]) := by
  obtain ⟨s, hs⟩ := h.hd
  refine ⟨?_, ?_, ⟨s ++ [lq[k].b], by rw [hs]; rfl⟩⟩
  · rw [List.nodup_append]
    refine ⟨h.nd, by simp, ?_⟩
    intro a ha b hb e
    rw [List.mem_singleton] at hb
    exact hn (by rw [← hb, ← e]; exact ha)
  · intro x hx
    rcases List.mem_append.1 hx with hx | hx
    · exact h.sub x hx
    · rw [List.mem_singleton] at hx
      rw [hx]
      exact List.mem_cons_of_mem _ (List.mem_map_of_mem (List.getElem_mem hk))
theorem innF_end (tx v : Int) (lq : List CWait) (r : List Int) {k : Nat} (hk : lq.length ≤ k) : innF tx v (lq.drop k) r = some r := by
  rw [List.drop_eq_nil_of_le hk]; rfl
theorem innF_skip {tx v : Int} {lq : List CWait} {r : List Int} {k : Nat} (hk : k < lq.length) (h : ¬ lq[k].a = v) : innF tx v (lq.drop k) r = innF tx v (lq.drop (k + 1)) r := by
  rw [List.drop_eq_getElem_cons hk]; simp only [innF]; rw [if_neg h]
theorem innF_round {tx v : Int} {lq : List CWait} {r : List Int} {k : Nat} (hk : k < lq.length) (h : lq[k].a = v) (h2 : lq[k].b = tx) : innF tx v (lq.drop k) r = none := by
  rw [List.drop_eq_getElem_cons hk]; simp only [innF]; rw [if_pos h, if_pos h2]
theorem innF_there {tx v : Int} {lq : List CWait} {r : List Int} {k : Nat} (hk : k < lq.length) (h : lq[k].a = v) (h2 : ¬ lq[k].b = tx) (h3 : lq[k].b ∈ r) : innF tx v (lq.drop k) r = innF tx v (lq.drop (k + 1)) r := by
  rw [List.drop_eq_getElem_cons hk]; simp only [innF]; rw [if_pos h, if_neg h2, if_pos h3]
theorem innF_new {tx v : Int} {lq : List CWait} {r : List Int} {k : Nat} (hk : k < lq.length) (h : lq[k].a = v) (h2 : ¬ lq[k].b = tx) (h3 : ¬ lq[k].b ∈ r) : innF tx v (lq.drop k) r = innF tx v (lq.drop (k + 1)) (r ++ [lq[k].b]) := by
  rw [List.drop_eq_getElem_cons hk]; simp only [innF]; rw [if_pos h, if_neg h2, if_neg h3]
/-- between two rounds of the outer loop -/
def OutAt (lq : List CWait) (tx : Int) (i : Nat) (r : List Int) : Prop := outF lq tx (lq.length + 1 - i) i r = roundB lq tx
theorem OutAt.start (lq : List CWait) (tx : Int) : OutAt lq tx 0 [tx] := rfl
theorem OutAt.stop {lq : List CWait} {tx : Int} {i : Nat} {r : List Int} (h : OutAt lq tx i r) (hi : r.length ≤ i) : roundB lq tx = false := by
  unfold OutAt at h
  rw [← h]
  cases lq.length + 1 - i with
  | zero => rfl
  | succ f =>
    rw [outF, List.getElem?_eq_none hi]
theorem OutAt.found {lq : List CWait} {tx : Int} {i : Nat} {r : List Int} (h : OutAt lq tx i r) (hR : RInv lq tx r) (hi : i < r.length) (hn : innF tx r[i] lq r = none) : roundB lq tx = true := by
  unfold OutAt at h
  rw [← h]
  have := hR.le
  obtain ⟨f, hf⟩ : ∃ f, lq.length + 1 - i = f + 1 := ⟨lq.length - i, by omega⟩
  rw [hf, outF, List.getElem?_eq_getElem hi]
  simp only [hn]
theorem OutAt.next {lq : List CWait} {tx : Int} {i : Nat} {r r' : List Int} (h : OutAt lq tx i r) (hR : RInv lq tx r) (hi : i < r.length) (hn : innF tx r[i] lq r = some r') : OutAt lq tx (i + 1) r' := by
  unfold OutAt at h ⊢
  rw [← h]
  have := hR.le
  obtain ⟨f, hf⟩ : ∃ f, lq.length + 1 - i = f + 1 := ⟨lq.length - i, by omega⟩
  rw [hf, outF, List.getElem?_eq_getElem hi]
  simp only [hn]
  rw [show lq.length + 1 - (i + 1) = f from by omega]
end Go.Proofs.Ytnbfjkebakaigaa
