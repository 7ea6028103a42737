/- Plain facts about names: lists of bytes, no program in sight. -/
import Derived.WalkKit
namespace Go.Proofs.Ytpjpkkninkpllaa

/-- a byte that is a letter or an underscore -/
def letB (c : UInt8) : Bool := decide ((97 ≤ c.toNat ∧ c.toNat ≤ 122) ∨ (65 ≤ c.toNat ∧ c.toNat ≤ 90) ∨ c.toNat = 95)
def digB (c : UInt8) : Bool := decide (48 ≤ c.toNat ∧ c.toNat ≤ 57)
/-- what a name is -/
def nameB : List UInt8 → Bool
  | [] => false
  | c :: r => decide (r.length < 40) && letB c && r.all (fun d => letB d || digB d)

theorem nameB_false_of (l : List UInt8) (k : Nat) (hk : k < l.length) (h : letB l[k] = false) (h2 : digB l[k] = false ∨ k = 0) : nameB l = false := by
  cases l with
  | nil => rfl
  | cons c r =>
    cases k with
    | zero => simp at h; simp [nameB, h]
    | succ k =>
      have hd : digB (c :: r)[k + 1] = false := by rcases h2 with h2 | h2 <;> simp_all
      simp only [List.getElem_cons_succ] at h hd
      have hm : r[k]'(by simpa using hk) ∈ r := List.getElem_mem _
      have : r.all (fun d => letB d || digB d) = false := by
        rw [List.all_eq_false]; exact ⟨_, hm, by simp [h, hd]⟩
      simp [nameB, this]

theorem nameB_true_of (l : List UInt8) (h0 : 0 < l.length) (h1 : l.length ≤ 40) (h : letB l[0] = true) (h2 : ∀ k, (hk : k < l.length) → letB l[k] = true ∨ digB l[k] = true) : nameB l = true := by
  cases l with
  | nil => simp at h0
  | cons c r =>
    simp only [List.length_cons, List.getElem_cons_zero] at h1 h
    have : r.all (fun d => letB d || digB d) = true := by
      rw [List.all_eq_true]
      intro d hd
      obtain ⟨k, hk, rfl⟩ := List.getElem_of_mem hd
      have := h2 (k + 1) (by simpa using hk)
      simpa using this
    simp [nameB, h, this]; omega

theorem nameB_len (l : List UInt8) (h : l.length < 1 ∨ 40 < l.length) : nameB l = false := by
  cases l with
  | nil => rfl
  | cons c r => simp only [List.length_cons] at h; simp [nameB]; intro; omega

theorem letB_iff (c : UInt8) : letB c = true ↔ ((97 ≤ (c.toNat : Int) ∧ (c.toNat : Int) ≤ 122) ∨ (65 ≤ (c.toNat : Int) ∧ (c.toNat : Int) ≤ 90) ∨ (c.toNat : Int) = 95) := by
  unfold letB; rw [decide_eq_true_iff]; omega
theorem letB_no (c : UInt8) : letB c = false ↔ ¬ ((97 ≤ (c.toNat : Int) ∧ (c.toNat : Int) ≤ 122) ∨ (65 ≤ (c.toNat : Int) ∧ (c.toNat : Int) ≤ 90) ∨ (c.toNat : Int) = 95) := by
  unfold letB; rw [decide_eq_false_iff_not]; omega
theorem digB_iff (c : UInt8) : digB c = true ↔ (48 ≤ (c.toNat : Int) ∧ (c.toNat : Int) ≤ 57) := by
  unfold digB; rw [decide_eq_true_iff]; omega
theorem digB_no (c : UInt8) : digB c = false ↔ ¬ (48 ≤ (c.toNat : Int) ∧ (c.toNat : Int) ≤ 57) := by
  unfold digB; rw [decide_eq_false_iff_not]; omega

/-- the nine kinds of a byte -/
theorem kinds (c : Int) : c < 48 ∨ (48 ≤ c ∧ c ≤ 57) ∨ (58 ≤ c ∧ c < 65) ∨ (65 ≤ c ∧ c ≤ 90) ∨ (91 ≤ c ∧ c < 95) ∨ c = 95 ∨ c = 96 ∨ (97 ≤ c ∧ c ≤ 122) ∨ 123 ≤ c := by omega
end Go.Proofs.Ytpjpkkninkpllaa
