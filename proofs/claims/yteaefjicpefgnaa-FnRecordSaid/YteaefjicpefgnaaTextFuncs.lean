/- The walks of the library's searches by a test, over []string. -/
import Derived.Test.YteaefjicpefgnaaRows
import Derived.Test.YteaefjicpefgnaaMem
namespace Go.Proofs.Yteaefjicpefgnaa
open Go.RowKit Go.Deep
set_option linter.unusedVariables false
set_option maxRecDepth 100000

/-- where the first is that passes a test, -1 without one -/
def idxI {α : Type} (p : α → Bool) (l : List α) : Int := if l.findIdx p < l.length then (l.findIdx p : Nat) else -1
theorem idxI_found {α : Type} {p : α → Bool} {l : List α} {k : Nat} (hk : k < l.length) (h : p l[k] = true) (hb : ∀ j, (hj : j < l.length) → j < k → p (l[j]'hj) = false) : idxI p l = k := by
  have e : l.findIdx p = k := (List.findIdx_eq hk).2 ⟨h, fun j hj => by simpa using hb j (by omega) hj⟩
  unfold idxI; rw [e, if_pos hk]
theorem idxI_none {α : Type} {p : α → Bool} {l : List α} (hb : ∀ j, (hj : j < l.length) → p (l[j]'hj) = false) : idxI p l = -1 := by
  unfold idxI; rw [if_neg]
  rw [List.findIdx_lt_length]
  rintro ⟨x, hx, hp⟩
  obtain ⟨j, hj, rfl⟩ := List.getElem_of_mem hx
  rw [hb j hj] at hp; cases hp
theorem idxI_any {α : Type} (p : α → Bool) (l : List α) : decide (0 ≤ idxI p l) = l.any p := by
  by_cases h : l.findIdx p < l.length
  · have h2 : l.any p = true := by
      rw [List.any_eq_true]; exact List.findIdx_lt_length.1 h
    unfold idxI; rw [if_pos h, h2]; exact decide_eq_true (by omega)
  · have h2 : l.any p = false := by
      rw [Bool.eq_false_iff]; intro h3
      rw [List.any_eq_true] at h3
      exact h (List.findIdx_lt_length.2 h3)
    unfold idxI; rw [if_neg h, h2]; exact decide_eq_false (by omega)
theorem idxI_cases {α : Type} (p : α → Bool) (l : List α) : -1 ≤ idxI p l ∧ idxI p l < l.length + 1 := by
  unfold idxI; split <;> omega
set_option maxHeartbeats 400000 in
theorem indexFunc_texts (g : Nat) (p : ByteArray → Bool) (hg : ∀ args W, (callFunc g args).run Try.prog W = .ok (.enter g args) W) (A : Option Addr) (n cp : Nat) (l : List ByteArray) (w : World) (hp : ∀ s ∈ l, ∀ W, Calls Try.prog g #[.string s] W fun e w' => e = .returned (.bool (p s)) ∧ W = w') (hl : l.length = n) (hn : n ≤ 1099511627776) (hr : Rd w A (l.map fun c => Value.string c)) :
    Calls Try.prog 104 #[.slice A n cp, .func (Fn.func g) #[] #[]] w fun e w' => e = .returned (.int .i64 (idxI p l)) ∧ w = w' := by
  have HL := Lib.hid hl
  have HP := Lib.hid hp
  clear hl hp
  go_enter Try.func104, Try.ntmps104
  go_wp2
  go_loop [8] (fun i => ∃ k : Nat, k ≤ n ∧ i = .int .i64 k ∧ ∀ j, (hj : j < l.length) → j < k → p (l[j]'hj) = false) (fun i => n - (intOf i).toNat)
  case atStart => exact ⟨0, Nat.zero_le _, rfl, fun j _ h => absurd h (Nat.not_lt_zero _)⟩
  case round =>
    obtain ⟨k, hk, rfl, hb⟩ := hrel
    have HB := Lib.hid hb
    clear hb
    by_cases hlt : k < n
    · have hkl : k < l.length := by rw [HL.out]; exact hlt
      obtain ⟨b, o, rfl, hc⟩ := hr.map_ hkl
      rcases hv : p l[k] with _ | _
      · have HV := Lib.hid hv
        clear hv
        go_wp2_with fail
        refine (HP.out _ (List.getElem_mem hkl) _).mono ?_
        rintro e w' ⟨rfl, rfl⟩
        rw [HV.out]
        go_wp2_with fail
        go_round
        case rel => exact ⟨k + 1, by omega, by go_num, fun j hj hjk => by
          rcases Nat.lt_or_ge j k with h | h
          · exact HB.out j hj h
          · have : j = k := by omega
            subst this; exact HV.out⟩
        case measure => simp [intOf]; omega
      · have HV := Lib.hid (idxI_found hkl hv HB.out)
        have HV2 := Lib.hid hv
        clear hv
        go_wp2_with fail
        refine (HP.out _ (List.getElem_mem hkl) _).mono ?_
        rintro e w' ⟨rfl, rfl⟩
        rw [HV2.out]
        go_wp2_with fail
        go_ret
        exact ⟨by rw [HV.out]; rfl, rfl⟩
    · have hk2 : k = n := by omega
      have HV := Lib.hid (idxI_none (p := p) (l := l) (fun j hj => HB.out j hj (by rw [HL.out] at hj; omega)))
      subst hk2
      go_wp2_with fail
      go_ret
      exact ⟨by rw [HV.out]; rfl, rfl⟩
theorem containsFunc_texts (g : Nat) (p : ByteArray → Bool) (hg : ∀ args W, (callFunc g args).run Try.prog W = .ok (.enter g args) W) (A : Option Addr) (n cp : Nat) (l : List ByteArray) (w : World) (hp : ∀ s ∈ l, ∀ W, Calls Try.prog g #[.string s] W fun e w' => e = .returned (.bool (p s)) ∧ W = w') (hl : l.length = n) (hn : n ≤ 1099511627776) (hr : Rd w A (l.map fun c => Value.string c)) :
    Calls Try.prog 71 #[.slice A n cp, .func (Fn.func g) #[] #[]] w fun e w' => e = .returned (.bool (l.any p)) ∧ w = w' := by
  have hc := indexFunc_texts g p hg A n cp l w hp hl hn hr
  have HA := Lib.hid (idxI_any p l)
  generalize idxI p l = v at hc HA
  have HC := Lib.hid hc
  clear hc hp hl hg
  go_enter Try.func71, Try.ntmps71
  go_wp2_with fail
  refine (HC.out).mono ?_
  rintro e w' ⟨rfl, rfl⟩
  go_wp2_with fail
  go_ret
  exact ⟨by rw [← HA.out]; rfl, rfl⟩
end Go.Proofs.Yteaefjicpefgnaa
