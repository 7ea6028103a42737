/- The walks of the library's searches by a test, over []string. -/
import Derived.Test.YtpjpkkninkpllaaDoorRows
import Derived.Test.YtpjpkkninkpllaaDoorMem
namespace Go.Proofs.YtpjpkkninkpllaaDoor
open Go.RowKit Go.Deep
set_option linter.unusedVariables false

/-- where the first is that passes a test, -1 without one -/
def idxI {α : Type} (p : α → Bool) (l : List α) : Int := if l.findIdx p < l.length then (l.findIdx p : Nat) else -1
theorem idxI_found {α : Type} {p : α → Bool} {l : List α} {k : Nat} (hk : k < l.length) (h : p l[k] = true) (hb : ∀ j, (hj : j < l.length) → j < k → p (l[j]'hj) = false) : idxI p l = k := by
  have e : l.findIdx p = k := (List.findIdx_eq hk).2 ⟨h, fun j hj => by simpa using hb j (by omega) hj⟩
  unfold idxI; rw [e, if_pos hk]
theorem idxI_none {α : Type} {p : α → Bool} {l : List α} (hb : ∀ j, (hj : j < l.length) → p (l[j]'hj) = false) : idxI p l = -1 := by
  unfold idxI; rw [if_neg]
  rw [List.findIdx_lt_length]
  rintro ⟨x, hx, hp⟩
  obtain ⟨j, hj, rfl⟩ := List.getElem_of_mem hx
  rw [hb j hj] at hp; cases hp
theorem idxI_any {α : Type} (p : α → Bool) (l : List α) : decide (0 ≤ idxI p l) = l.any p := by
  by_cases h : l.findIdx p < l.length
  · have h2 : l.any p = true := by
      rw [List.any_eq_true]; exact List.findIdx_lt_length.1 h
    unfold idxI; rw [if_pos h, h2]; exact decide_eq_true (by omega)
  · have h2 : l.any p = false := by
      rw [Bool.eq_false_iff]; intro h3
      rw [List.any_eq_true] at h3
      exact h (List.findIdx_lt_length.2 h3)
    unfold idxI; rw [if_neg h, h2]; exact decide_eq_false (by omega)
theorem idxI_cases {α : Type} (p : α → Bool) (l : List α) : -1 ≤ idxI p l ∧ idxI p l < l.length + 1 := by
  unfold idxI; split <;> omega
end Go.Proofs.YtpjpkkninkpllaaDoor
