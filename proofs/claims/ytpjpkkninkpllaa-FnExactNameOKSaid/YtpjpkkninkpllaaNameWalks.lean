/- The walks of the two NameOK functions. -/
import Derived.Test.YtpjpkkninkpllaaRows
import Derived.Test.YtpjpkkninkpllaaNamePlain
import Derived.WalkKit
import Derived.Lib.Hide
namespace Go.Proofs.Ytpjpkkninkpllaa
open Go.RowKit

theorem ret_bool {a b : Bool} (h : a = b) : Ending.returned (.bool a) = .returned (.bool b) := by rw [h]

/-- every byte so far may stand in a name -/
def okTo (s : ByteArray) (k : Nat) : Prop := ∀ j, (hj : j < s.size) → j < k → letB (s[j]'hj) = true ∨ (digB s[j] = true ∧ j ≠ 0)
theorem okTo_succ {s : ByteArray} {k : Nat} (h : okTo s k) (hk : k < s.size) (h1 : letB s[k] = true ∨ (digB s[k] = true ∧ k ≠ 0)) : okTo s (k + 1) := by
  intro j hj hjk
  rcases Nat.lt_or_ge j k with h2 | h2
  · exact h j hj h2
  · have : j = k := by omega
    subst this; exact h1
theorem getL (s : ByteArray) (k : Nat) (hk : k < s.size) (hk' : k < s.data.toList.length) : s.data.toList[k]'hk' = s[k]'hk := by
  simp only [Array.getElem_toList]; rfl
theorem name_no {s : ByteArray} {k : Nat} (hk : k < s.size) (h : letB s[k] = false) (h2 : digB s[k] = false ∨ k = 0) : nameB s.data.toList = false := by
  have hk' : k < s.data.toList.length := by simpa using hk
  exact nameB_false_of _ k hk' (by rw [getL s k hk]; exact h) (by rw [getL s k hk]; exact h2)
theorem name_end {s : ByteArray} (h : okTo s s.size) : nameB s.data.toList = (decide (1 ≤ (s.size : Int)) && decide ((s.size : Int) ≤ 40)) := by
  have hl : s.data.toList.length = s.size := by simp
  by_cases h0 : 1 ≤ s.size
  · by_cases h1 : s.size ≤ 40
    · have e1 : decide (1 ≤ (s.size : Int)) = true := decide_eq_true (by omega)
      have e2 : decide ((s.size : Int) ≤ 40) = true := decide_eq_true (by omega)
      rw [e1, e2]
      refine nameB_true_of _ (by omega) (by omega) ?_ ?_
      · rw [getL s 0 (by omega)]
        rcases h 0 (by omega) (by omega) with h | ⟨_, h⟩
        · exact h
        · exact absurd rfl h
      · intro k hk
        rw [getL s k (by omega)]
        rcases h k (by omega) (by omega) with h | ⟨h, _⟩
        · exact .inl h
        · exact .inr h
    · have e2 : decide ((s.size : Int) ≤ 40) = false := decide_eq_false (by omega)
      rw [e2, Bool.and_false]; exact nameB_len _ (by omega)
  · have e1 : decide (1 ≤ (s.size : Int)) = false := decide_eq_false (by omega)
    rw [e1, Bool.false_and]; exact nameB_len _ (by omega)

set_option maxHeartbeats 4000000 in
theorem impl_name (s : ByteArray) (w : World) (hs : s.size ≤ maxLen) :
    Calls Try.prog 16 #[.string s] w fun e w' => e = .returned (.bool (nameB s.data.toList)) ∧ w' = w := by
  unfold maxLen at hs
  go_enter Try.func16, Try.ntmps16
  go_wp2
  go_loop [7] (fun i => ∃ k : Nat, k ≤ s.size ∧ i = .int .i64 k ∧ okTo s k) (fun i => s.size - (intOf i).toNat)
  case atStart => exact ⟨0, Nat.zero_le _, rfl, fun j _ h => absurd h (Nat.not_lt_zero _)⟩
  case round =>
    obtain ⟨k, hk, rfl, hok⟩ := hrel
    have HO : Hid (okTo s k) := hok
    clear hok
    by_cases hlt : k < s.size
    · rcases kinds (s[k].toNat : Int) with hc | hc | hc | hc | hc | hc | hc | hc | hc
      · have d1 : decide ((97 : Int) ≤ (s[k].toNat : Int)) = false := decide_eq_false (by omega)
        have d2 : decide ((s[k].toNat : Int) ≤ 122) = true := decide_eq_true (by omega)
        have d3 : decide ((s[k].toNat : Int) < 65) = true := decide_eq_true (by omega)
        have d4 : decide ((90 : Int) < (s[k].toNat : Int)) = false := decide_eq_false (by omega)
        have d3b : decide ((65 : Int) ≤ (s[k].toNat : Int)) = false := decide_eq_false (by omega)
        have d4b : decide ((s[k].toNat : Int) ≤ 90) = true := decide_eq_true (by omega)
        have d6 : decide ((48 : Int) ≤ (s[k].toNat : Int)) = false := decide_eq_false (by omega)
        have d7 : decide ((s[k].toNat : Int) ≤ 57) = true := decide_eq_true (by omega)
        have d5 : ((s[k].toNat : Int) == 95) = false := beq_eq_false_iff_ne.2 (by omega)
        have d5b : ((s[k].toNat : Int) != 95) = true := by rw [bne_iff_ne]; omega
        go_wp2
        go_ret
        exact ⟨ret_bool (name_no hlt ((letB_no _).2 (by omega)) (.inl ((digB_no _).2 (by omega)))).symm, rfl⟩
      · have d1 : decide ((97 : Int) ≤ (s[k].toNat : Int)) = false := decide_eq_false (by omega)
        have d2 : decide ((s[k].toNat : Int) ≤ 122) = true := decide_eq_true (by omega)
        have d3 : decide ((s[k].toNat : Int) < 65) = true := decide_eq_true (by omega)
        have d4 : decide ((90 : Int) < (s[k].toNat : Int)) = false := decide_eq_false (by omega)
        have d3b : decide ((65 : Int) ≤ (s[k].toNat : Int)) = false := decide_eq_false (by omega)
        have d4b : decide ((s[k].toNat : Int) ≤ 90) = true := decide_eq_true (by omega)
        have d6 : decide ((48 : Int) ≤ (s[k].toNat : Int)) = true := decide_eq_true (by omega)
        have d7 : decide ((s[k].toNat : Int) ≤ 57) = true := decide_eq_true (by omega)
        have d5 : ((s[k].toNat : Int) == 95) = false := beq_eq_false_iff_ne.2 (by omega)
        have d5b : ((s[k].toNat : Int) != 95) = true := by rw [bne_iff_ne]; omega
        by_cases h0 : k = 0
        · subst h0
          go_wp2
          go_ret
          exact ⟨ret_bool (name_no hlt ((letB_no _).2 (by omega)) (.inr rfl)).symm, rfl⟩
        · have h1 : ((k : Int) == 0) = false := beq_eq_false_iff_ne.2 (by omega)
          go_wp2
          go_round
          case rel => exact ⟨k + 1, by omega, by go_num, okTo_succ HO.out hlt (.inr ⟨(digB_iff _).2 hc, h0⟩)⟩
          case measure => simp [intOf]; omega
      · have d1 : decide ((97 : Int) ≤ (s[k].toNat : Int)) = false := decide_eq_false (by omega)
        have d2 : decide ((s[k].toNat : Int) ≤ 122) = true := decide_eq_true (by omega)
        have d3 : decide ((s[k].toNat : Int) < 65) = true := decide_eq_true (by omega)
        have d4 : decide ((90 : Int) < (s[k].toNat : Int)) = false := decide_eq_false (by omega)
        have d3b : decide ((65 : Int) ≤ (s[k].toNat : Int)) = false := decide_eq_false (by omega)
        have d4b : decide ((s[k].toNat : Int) ≤ 90) = true := decide_eq_true (by omega)
        have d6 : decide ((48 : Int) ≤ (s[k].toNat : Int)) = true := decide_eq_true (by omega)
        have d7 : decide ((s[k].toNat : Int) ≤ 57) = false := decide_eq_false (by omega)
        have d5 : ((s[k].toNat : Int) == 95) = false := beq_eq_false_iff_ne.2 (by omega)
        have d5b : ((s[k].toNat : Int) != 95) = true := by rw [bne_iff_ne]; omega
        go_wp2
        go_ret
        exact ⟨ret_bool (name_no hlt ((letB_no _).2 (by omega)) (.inl ((digB_no _).2 (by omega)))).symm, rfl⟩
      · have d1 : decide ((97 : Int) ≤ (s[k].toNat : Int)) = false := decide_eq_false (by omega)
        have d2 : decide ((s[k].toNat : Int) ≤ 122) = true := decide_eq_true (by omega)
        have d3 : decide ((s[k].toNat : Int) < 65) = false := decide_eq_false (by omega)
        have d4 : decide ((90 : Int) < (s[k].toNat : Int)) = false := decide_eq_false (by omega)
        have d3b : decide ((65 : Int) ≤ (s[k].toNat : Int)) = true := decide_eq_true (by omega)
        have d4b : decide ((s[k].toNat : Int) ≤ 90) = true := decide_eq_true (by omega)
        have d6 : decide ((48 : Int) ≤ (s[k].toNat : Int)) = true := decide_eq_true (by omega)
        have d7 : decide ((s[k].toNat : Int) ≤ 57) = false := decide_eq_false (by omega)
        have d5 : ((s[k].toNat : Int) == 95) = false := beq_eq_false_iff_ne.2 (by omega)
        have d5b : ((s[k].toNat : Int) != 95) = true := by rw [bne_iff_ne]; omega
        go_wp2
        go_round
        case rel => exact ⟨k + 1, by omega, by go_num, okTo_succ HO.out hlt (.inl ((letB_iff _).2 (by omega)))⟩
        case measure => simp [intOf]; omega
      · have d1 : decide ((97 : Int) ≤ (s[k].toNat : Int)) = false := decide_eq_false (by omega)
        have d2 : decide ((s[k].toNat : Int) ≤ 122) = true := decide_eq_true (by omega)
        have d3 : decide ((s[k].toNat : Int) < 65) = false := decide_eq_false (by omega)
        have d4 : decide ((90 : Int) < (s[k].toNat : Int)) = true := decide_eq_true (by omega)
        have d3b : decide ((65 : Int) ≤ (s[k].toNat : Int)) = true := decide_eq_true (by omega)
        have d4b : decide ((s[k].toNat : Int) ≤ 90) = false := decide_eq_false (by omega)
        have d6 : decide ((48 : Int) ≤ (s[k].toNat : Int)) = true := decide_eq_true (by omega)
        have d7 : decide ((s[k].toNat : Int) ≤ 57) = false := decide_eq_false (by omega)
        have d5 : ((s[k].toNat : Int) == 95) = false := beq_eq_false_iff_ne.2 (by omega)
        have d5b : ((s[k].toNat : Int) != 95) = true := by rw [bne_iff_ne]; omega
        go_wp2
        go_ret
        exact ⟨ret_bool (name_no hlt ((letB_no _).2 (by omega)) (.inl ((digB_no _).2 (by omega)))).symm, rfl⟩
      · have d1 : decide ((97 : Int) ≤ (s[k].toNat : Int)) = false := decide_eq_false (by omega)
        have d2 : decide ((s[k].toNat : Int) ≤ 122) = true := decide_eq_true (by omega)
        have d3 : decide ((s[k].toNat : Int) < 65) = false := decide_eq_false (by omega)
        have d4 : decide ((90 : Int) < (s[k].toNat : Int)) = true := decide_eq_true (by omega)
        have d3b : decide ((65 : Int) ≤ (s[k].toNat : Int)) = true := decide_eq_true (by omega)
        have d4b : decide ((s[k].toNat : Int) ≤ 90) = false := decide_eq_false (by omega)
        have d6 : decide ((48 : Int) ≤ (s[k].toNat : Int)) = true := decide_eq_true (by omega)
        have d7 : decide ((s[k].toNat : Int) ≤ 57) = false := decide_eq_false (by omega)
        have d5 : ((s[k].toNat : Int) == 95) = true := by rw [hc]; rfl
        have d5b : ((s[k].toNat : Int) != 95) = false := by rw [hc]; rfl
        go_wp2
        go_round
        case rel => exact ⟨k + 1, by omega, by go_num, okTo_succ HO.out hlt (.inl ((letB_iff _).2 (by omega)))⟩
        case measure => simp [intOf]; omega
      · have d1 : decide ((97 : Int) ≤ (s[k].toNat : Int)) = false := decide_eq_false (by omega)
        have d2 : decide ((s[k].toNat : Int) ≤ 122) = true := decide_eq_true (by omega)
        have d3 : decide ((s[k].toNat : Int) < 65) = false := decide_eq_false (by omega)
        have d4 : decide ((90 : Int) < (s[k].toNat : Int)) = true := decide_eq_true (by omega)
        have d3b : decide ((65 : Int) ≤ (s[k].toNat : Int)) = true := decide_eq_true (by omega)
        have d4b : decide ((s[k].toNat : Int) ≤ 90) = false := decide_eq_false (by omega)
        have d6 : decide ((48 : Int) ≤ (s[k].toNat : Int)) = true := decide_eq_true (by omega)
        have d7 : decide ((s[k].toNat : Int) ≤ 57) = false := decide_eq_false (by omega)
        have d5 : ((s[k].toNat : Int) == 95) = false := beq_eq_false_iff_ne.2 (by omega)
        have d5b : ((s[k].toNat : Int) != 95) = true := by rw [bne_iff_ne]; omega
        go_wp2
        go_ret
        exact ⟨ret_bool (name_no hlt ((letB_no _).2 (by omega)) (.inl ((digB_no _).2 (by omega)))).symm, rfl⟩
      · have d1 : decide ((97 : Int) ≤ (s[k].toNat : Int)) = true := decide_eq_true (by omega)
        have d2 : decide ((s[k].toNat : Int) ≤ 122) = true := decide_eq_true (by omega)
        have d3 : decide ((s[k].toNat : Int) < 65) = false := decide_eq_false (by omega)
        have d4 : decide ((90 : Int) < (s[k].toNat : Int)) = true := decide_eq_true (by omega)
        have d3b : decide ((65 : Int) ≤ (s[k].toNat : Int)) = true := decide_eq_true (by omega)
        have d4b : decide ((s[k].toNat : Int) ≤ 90) = false := decide_eq_false (by omega)
        have d6 : decide ((48 : Int) ≤ (s[k].toNat : Int)) = true := decide_eq_true (by omega)
        have d7 : decide ((s[k].toNat : Int) ≤ 57) = false := decide_eq_false (by omega)
        have d5 : ((s[k].toNat : Int) == 95) = false := beq_eq_false_iff_ne.2 (by omega)
        have d5b : ((s[k].toNat : Int) != 95) = true := by rw [bne_iff_ne]; omega
        go_wp2
        go_round
        case rel => exact ⟨k + 1, by omega, by go_num, okTo_succ HO.out hlt (.inl ((letB_iff _).2 (by omega)))⟩
        case measure => simp [intOf]; omega
      · have d1 : decide ((97 : Int) ≤ (s[k].toNat : Int)) = true := decide_eq_true (by omega)
        have d2 : decide ((s[k].toNat : Int) ≤ 122) = false := decide_eq_false (by omega)
        have d3 : decide ((s[k].toNat : Int) < 65) = false := decide_eq_false (by omega)
        have d4 : decide ((90 : Int) < (s[k].toNat : Int)) = true := decide_eq_true (by omega)
        have d3b : decide ((65 : Int) ≤ (s[k].toNat : Int)) = true := decide_eq_true (by omega)
        have d4b : decide ((s[k].toNat : Int) ≤ 90) = false := decide_eq_false (by omega)
        have d6 : decide ((48 : Int) ≤ (s[k].toNat : Int)) = true := decide_eq_true (by omega)
        have d7 : decide ((s[k].toNat : Int) ≤ 57) = false := decide_eq_false (by omega)
        have d5 : ((s[k].toNat : Int) == 95) = false := beq_eq_false_iff_ne.2 (by omega)
        have d5b : ((s[k].toNat : Int) != 95) = true := by rw [bne_iff_ne]; omega
        go_wp2
        go_ret
        exact ⟨ret_bool (name_no hlt ((letB_no _).2 (by omega)) (.inl ((digB_no _).2 (by omega)))).symm, rfl⟩
    · have hk2 : k = s.size := by omega
      subst hk2
      have HE : Hid (nameB s.data.toList = (decide (1 ≤ (s.size : Int)) && decide ((s.size : Int) ≤ 40))) := name_end HO.out
      by_cases h1 : 1 ≤ s.size
      · by_cases h2 : s.size ≤ 40
        · go_wp2
          go_ret
          exact ⟨ret_bool (by rw [HE.out]; simp; omega), rfl⟩
        · go_wp2
          go_ret
          exact ⟨ret_bool (by rw [HE.out]; simp; omega), rfl⟩
      · go_wp2
        go_ret
        exact ⟨ret_bool (by rw [HE.out]; simp; omega), rfl⟩
/-- the letters of the reference -/
theorem spec_letter (c : UInt8) (w : World) : Calls Try.prog 61 #[.int .u8 (c.toNat : Int)] w fun e w' => e = .returned (.bool (letB c)) ∧ w = w' := by
  have e1 : ∀ b, letB c = b → Hid (letB c = b) := fun b h => h
  rcases kinds (c.toNat : Int) with hc | hc | hc | hc | hc | hc | hc | hc | hc
  · have d1 : decide ((97 : Int) ≤ (c.toNat : Int)) = false := decide_eq_false (by omega)
    have d2 : decide ((c.toNat : Int) ≤ 122) = true := decide_eq_true (by omega)
    have d3 : decide ((c.toNat : Int) < 65) = true := decide_eq_true (by omega)
    have d4 : decide ((90 : Int) < (c.toNat : Int)) = false := decide_eq_false (by omega)
    have d3b : decide ((65 : Int) ≤ (c.toNat : Int)) = false := decide_eq_false (by omega)
    have d4b : decide ((c.toNat : Int) ≤ 90) = true := decide_eq_true (by omega)
    have d6 : decide ((48 : Int) ≤ (c.toNat : Int)) = false := decide_eq_false (by omega)
    have d7 : decide ((c.toNat : Int) ≤ 57) = true := decide_eq_true (by omega)
    have d5 : ((c.toNat : Int) == 95) = false := beq_eq_false_iff_ne.2 (by omega)
    have d5b : ((c.toNat : Int) != 95) = true := by rw [bne_iff_ne]; omega
    have HL := Lib.hid ((letB_no c).2 (by omega))
    go_enter Try.func61, Try.ntmps61
    go_wp2
    go_ret
    exact ⟨ret_bool HL.out.symm, rfl⟩
  · have d1 : decide ((97 : Int) ≤ (c.toNat : Int)) = false := decide_eq_false (by omega)
    have d2 : decide ((c.toNat : Int) ≤ 122) = true := decide_eq_true (by omega)
    have d3 : decide ((c.toNat : Int) < 65) = true := decide_eq_true (by omega)
    have d4 : decide ((90 : Int) < (c.toNat : Int)) = false := decide_eq_false (by omega)
    have d3b : decide ((65 : Int) ≤ (c.toNat : Int)) = false := decide_eq_false (by omega)
    have d4b : decide ((c.toNat : Int) ≤ 90) = true := decide_eq_true (by omega)
    have d6 : decide ((48 : Int) ≤ (c.toNat : Int)) = true := decide_eq_true (by omega)
    have d7 : decide ((c.toNat : Int) ≤ 57) = true := decide_eq_true (by omega)
    have d5 : ((c.toNat : Int) == 95) = false := beq_eq_false_iff_ne.2 (by omega)
    have d5b : ((c.toNat : Int) != 95) = true := by rw [bne_iff_ne]; omega
    have HL := Lib.hid ((letB_no c).2 (by omega))
    go_enter Try.func61, Try.ntmps61
    go_wp2
    go_ret
    exact ⟨ret_bool HL.out.symm, rfl⟩
  · have d1 : decide ((97 : Int) ≤ (c.toNat : Int)) = false := decide_eq_false (by omega)
    have d2 : decide ((c.toNat : Int) ≤ 122) = true := decide_eq_true (by omega)
    have d3 : decide ((c.toNat : Int) < 65) = true := decide_eq_true (by omega)
    have d4 : decide ((90 : Int) < (c.toNat : Int)) = false := decide_eq_false (by omega)
    have d3b : decide ((65 : Int) ≤ (c.toNat : Int)) = false := decide_eq_false (by omega)
    have d4b : decide ((c.toNat : Int) ≤ 90) = true := decide_eq_true (by omega)
    have d6 : decide ((48 : Int) ≤ (c.toNat : Int)) = true := decide_eq_true (by omega)
    have d7 : decide ((c.toNat : Int) ≤ 57) = false := decide_eq_false (by omega)
    have d5 : ((c.toNat : Int) == 95) = false := beq_eq_false_iff_ne.2 (by omega)
    have d5b : ((c.toNat : Int) != 95) = true := by rw [bne_iff_ne]; omega
    have HL := Lib.hid ((letB_no c).2 (by omega))
    go_enter Try.func61, Try.ntmps61
    go_wp2
    go_ret
    exact ⟨ret_bool HL.out.symm, rfl⟩
  · have d1 : decide ((97 : Int) ≤ (c.toNat : Int)) = false := decide_eq_false (by omega)
    have d2 : decide ((c.toNat : Int) ≤ 122) = true := decide_eq_true (by omega)
    have d3 : decide ((c.toNat : Int) < 65) = false := decide_eq_false (by omega)
    have d4 : decide ((90 : Int) < (c.toNat : Int)) = false := decide_eq_false (by omega)
    have d3b : decide ((65 : Int) ≤ (c.toNat : Int)) = true := decide_eq_true (by omega)
    have d4b : decide ((c.toNat : Int) ≤ 90) = true := decide_eq_true (by omega)
    have d6 : decide ((48 : Int) ≤ (c.toNat : Int)) = true := decide_eq_true (by omega)
    have d7 : decide ((c.toNat : Int) ≤ 57) = false := decide_eq_false (by omega)
    have d5 : ((c.toNat : Int) == 95) = false := beq_eq_false_iff_ne.2 (by omega)
    have d5b : ((c.toNat : Int) != 95) = true := by rw [bne_iff_ne]; omega
    have HL := Lib.hid ((letB_iff c).2 (by omega))
    go_enter Try.func61, Try.ntmps61
    go_wp2
    go_ret
    exact ⟨ret_bool HL.out.symm, rfl⟩
  · have d1 : decide ((97 : Int) ≤ (c.toNat : Int)) = false := decide_eq_false (by omega)
    have d2 : decide ((c.toNat : Int) ≤ 122) = true := decide_eq_true (by omega)
    have d3 : decide ((c.toNat : Int) < 65) = false := decide_eq_false (by omega)
    have d4 : decide ((90 : Int) < (c.toNat : Int)) = true := decide_eq_true (by omega)
    have d3b : decide ((65 : Int) ≤ (c.toNat : Int)) = true := decide_eq_true (by omega)
    have d4b : decide ((c.toNat : Int) ≤ 90) = false := decide_eq_false (by omega)
    have d6 : decide ((48 : Int) ≤ (c.toNat : Int)) = true := decide_eq_true (by omega)
    have d7 : decide ((c.toNat : Int) ≤ 57) = false := decide_eq_false (by omega)
    have d5 : ((c.toNat : Int) == 95) = false := beq_eq_false_iff_ne.2 (by omega)
    have d5b : ((c.toNat : Int) != 95) = true := by rw [bne_iff_ne]; omega
    have HL := Lib.hid ((letB_no c).2 (by omega))
    go_enter Try.func61, Try.ntmps61
    go_wp2
    go_ret
    exact ⟨ret_bool HL.out.symm, rfl⟩
  · have d1 : decide ((97 : Int) ≤ (c.toNat : Int)) = false := decide_eq_false (by omega)
    have d2 : decide ((c.toNat : Int) ≤ 122) = true := decide_eq_true (by omega)
    have d3 : decide ((c.toNat : Int) < 65) = false := decide_eq_false (by omega)
    have d4 : decide ((90 : Int) < (c.toNat : Int)) = true := decide_eq_true (by omega)
    have d3b : decide ((65 : Int) ≤ (c.toNat : Int)) = true := decide_eq_true (by omega)
    have d4b : decide ((c.toNat : Int) ≤ 90) = false := decide_eq_false (by omega)
    have d6 : decide ((48 : Int) ≤ (c.toNat : Int)) = true := decide_eq_true (by omega)
    have d7 : decide ((c.toNat : Int) ≤ 57) = false := decide_eq_false (by omega)
    have d5 : ((c.toNat : Int) == 95) = true := by rw [hc]; rfl
    have d5b : ((c.toNat : Int) != 95) = false := by rw [hc]; rfl
    have HL := Lib.hid ((letB_iff c).2 (by omega))
    go_enter Try.func61, Try.ntmps61
    go_wp2
    go_ret
    exact ⟨ret_bool HL.out.symm, rfl⟩
  · have d1 : decide ((97 : Int) ≤ (c.toNat : Int)) = false := decide_eq_false (by omega)
    have d2 : decide ((c.toNat : Int) ≤ 122) = true := decide_eq_true (by omega)
    have d3 : decide ((c.toNat : Int) < 65) = false := decide_eq_false (by omega)
    have d4 : decide ((90 : Int) < (c.toNat : Int)) = true := decide_eq_true (by omega)
    have d3b : decide ((65 : Int) ≤ (c.toNat : Int)) = true := decide_eq_true (by omega)
    have d4b : decide ((c.toNat : Int) ≤ 90) = false := decide_eq_false (by omega)
    have d6 : decide ((48 : Int) ≤ (c.toNat : Int)) = true := decide_eq_true (by omega)
    have d7 : decide ((c.toNat : Int) ≤ 57) = false := decide_eq_false (by omega)
    have d5 : ((c.toNat : Int) == 95) = false := beq_eq_false_iff_ne.2 (by omega)
    have d5b : ((c.toNat : Int) != 95) = true := by rw [bne_iff_ne]; omega
    have HL := Lib.hid ((letB_no c).2 (by omega))
    go_enter Try.func61, Try.ntmps61
    go_wp2
    go_ret
    exact ⟨ret_bool HL.out.symm, rfl⟩
  · have d1 : decide ((97 : Int) ≤ (c.toNat : Int)) = true := decide_eq_true (by omega)
    have d2 : decide ((c.toNat : Int) ≤ 122) = true := decide_eq_true (by omega)
    have d3 : decide ((c.toNat : Int) < 65) = false := decide_eq_false (by omega)
    have d4 : decide ((90 : Int) < (c.toNat : Int)) = true := decide_eq_true (by omega)
    have d3b : decide ((65 : Int) ≤ (c.toNat : Int)) = true := decide_eq_true (by omega)
    have d4b : decide ((c.toNat : Int) ≤ 90) = false := decide_eq_false (by omega)
    have d6 : decide ((48 : Int) ≤ (c.toNat : Int)) = true := decide_eq_true (by omega)
    have d7 : decide ((c.toNat : Int) ≤ 57) = false := decide_eq_false (by omega)
    have d5 : ((c.toNat : Int) == 95) = false := beq_eq_false_iff_ne.2 (by omega)
    have d5b : ((c.toNat : Int) != 95) = true := by rw [bne_iff_ne]; omega
    have HL := Lib.hid ((letB_iff c).2 (by omega))
    go_enter Try.func61, Try.ntmps61
    go_wp2
    go_ret
    exact ⟨ret_bool HL.out.symm, rfl⟩
  · have d1 : decide ((97 : Int) ≤ (c.toNat : Int)) = true := decide_eq_true (by omega)
    have d2 : decide ((c.toNat : Int) ≤ 122) = false := decide_eq_false (by omega)
    have d3 : decide ((c.toNat : Int) < 65) = false := decide_eq_false (by omega)
    have d4 : decide ((90 : Int) < (c.toNat : Int)) = true := decide_eq_true (by omega)
    have d3b : decide ((65 : Int) ≤ (c.toNat : Int)) = true := decide_eq_true (by omega)
    have d4b : decide ((c.toNat : Int) ≤ 90) = false := decide_eq_false (by omega)
    have d6 : decide ((48 : Int) ≤ (c.toNat : Int)) = true := decide_eq_true (by omega)
    have d7 : decide ((c.toNat : Int) ≤ 57) = false := decide_eq_false (by omega)
    have d5 : ((c.toNat : Int) == 95) = false := beq_eq_false_iff_ne.2 (by omega)
    have d5b : ((c.toNat : Int) != 95) = true := by rw [bne_iff_ne]; omega
    have HL := Lib.hid ((letB_no c).2 (by omega))
    go_enter Try.func61, Try.ntmps61
    go_wp2
    go_ret
    exact ⟨ret_bool HL.out.symm, rfl⟩
theorem spec_digit (c : UInt8) (w : World) : Calls Try.prog 62 #[.int .u8 (c.toNat : Int)] w fun e w' => e = .returned (.bool (digB c)) ∧ w = w' := by
  rcases kinds (c.toNat : Int) with hc | hc | hc | hc | hc | hc | hc | hc | hc
  · have d1 : decide ((97 : Int) ≤ (c.toNat : Int)) = false := decide_eq_false (by omega)
    have d2 : decide ((c.toNat : Int) ≤ 122) = true := decide_eq_true (by omega)
    have d3 : decide ((c.toNat : Int) < 65) = true := decide_eq_true (by omega)
    have d4 : decide ((90 : Int) < (c.toNat : Int)) = false := decide_eq_false (by omega)
    have d3b : decide ((65 : Int) ≤ (c.toNat : Int)) = false := decide_eq_false (by omega)
    have d4b : decide ((c.toNat : Int) ≤ 90) = true := decide_eq_true (by omega)
    have d6 : decide ((48 : Int) ≤ (c.toNat : Int)) = false := decide_eq_false (by omega)
    have d7 : decide ((c.toNat : Int) ≤ 57) = true := decide_eq_true (by omega)
    have d5 : ((c.toNat : Int) == 95) = false := beq_eq_false_iff_ne.2 (by omega)
    have d5b : ((c.toNat : Int) != 95) = true := by rw [bne_iff_ne]; omega
    have HL := Lib.hid ((digB_no c).2 (by omega))
    go_enter Try.func62, Try.ntmps62
    go_wp2
    go_ret
    exact ⟨ret_bool HL.out.symm, rfl⟩
  · have d1 : decide ((97 : Int) ≤ (c.toNat : Int)) = false := decide_eq_false (by omega)
    have d2 : decide ((c.toNat : Int) ≤ 122) = true := decide_eq_true (by omega)
    have d3 : decide ((c.toNat : Int) < 65) = true := decide_eq_true (by omega)
    have d4 : decide ((90 : Int) < (c.toNat : Int)) = false := decide_eq_false (by omega)
    have d3b : decide ((65 : Int) ≤ (c.toNat : Int)) = false := decide_eq_false (by omega)
    have d4b : decide ((c.toNat : Int) ≤ 90) = true := decide_eq_true (by omega)
    have d6 : decide ((48 : Int) ≤ (c.toNat : Int)) = true := decide_eq_true (by omega)
    have d7 : decide ((c.toNat : Int) ≤ 57) = true := decide_eq_true (by omega)
    have d5 : ((c.toNat : Int) == 95) = false := beq_eq_false_iff_ne.2 (by omega)
    have d5b : ((c.toNat : Int) != 95) = true := by rw [bne_iff_ne]; omega
    have HL := Lib.hid ((digB_iff c).2 (by omega))
    go_enter Try.func62, Try.ntmps62
    go_wp2
    go_ret
    exact ⟨ret_bool HL.out.symm, rfl⟩
  · have d1 : decide ((97 : Int) ≤ (c.toNat : Int)) = false := decide_eq_false (by omega)
    have d2 : decide ((c.toNat : Int) ≤ 122) = true := decide_eq_true (by omega)
    have d3 : decide ((c.toNat : Int) < 65) = true := decide_eq_true (by omega)
    have d4 : decide ((90 : Int) < (c.toNat : Int)) = false := decide_eq_false (by omega)
    have d3b : decide ((65 : Int) ≤ (c.toNat : Int)) = false := decide_eq_false (by omega)
    have d4b : decide ((c.toNat : Int) ≤ 90) = true := decide_eq_true (by omega)
    have d6 : decide ((48 : Int) ≤ (c.toNat : Int)) = true := decide_eq_true (by omega)
    have d7 : decide ((c.toNat : Int) ≤ 57) = false := decide_eq_false (by omega)
    have d5 : ((c.toNat : Int) == 95) = false := beq_eq_false_iff_ne.2 (by omega)
    have d5b : ((c.toNat : Int) != 95) = true := by rw [bne_iff_ne]; omega
    have HL := Lib.hid ((digB_no c).2 (by omega))
    go_enter Try.func62, Try.ntmps62
    go_wp2
    go_ret
    exact ⟨ret_bool HL.out.symm, rfl⟩
  · have d1 : decide ((97 : Int) ≤ (c.toNat : Int)) = false := decide_eq_false (by omega)
    have d2 : decide ((c.toNat : Int) ≤ 122) = true := decide_eq_true (by omega)
    have d3 : decide ((c.toNat : Int) < 65) = false := decide_eq_false (by omega)
    have d4 : decide ((90 : Int) < (c.toNat : Int)) = false := decide_eq_false (by omega)
    have d3b : decide ((65 : Int) ≤ (c.toNat : Int)) = true := decide_eq_true (by omega)
    have d4b : decide ((c.toNat : Int) ≤ 90) = true := decide_eq_true (by omega)
    have d6 : decide ((48 : Int) ≤ (c.toNat : Int)) = true := decide_eq_true (by omega)
    have d7 : decide ((c.toNat : Int) ≤ 57) = false := decide_eq_false (by omega)
    have d5 : ((c.toNat : Int) == 95) = false := beq_eq_false_iff_ne.2 (by omega)
    have d5b : ((c.toNat : Int) != 95) = true := by rw [bne_iff_ne]; omega
    have HL := Lib.hid ((digB_no c).2 (by omega))
    go_enter Try.func62, Try.ntmps62
    go_wp2
    go_ret
    exact ⟨ret_bool HL.out.symm, rfl⟩
  · have d1 : decide ((97 : Int) ≤ (c.toNat : Int)) = false := decide_eq_false (by omega)
    have d2 : decide ((c.toNat : Int) ≤ 122) = true := decide_eq_true (by omega)
    have d3 : decide ((c.toNat : Int) < 65) = false := decide_eq_false (by omega)
    have d4 : decide ((90 : Int) < (c.toNat : Int)) = true := decide_eq_true (by omega)
    have d3b : decide ((65 : Int) ≤ (c.toNat : Int)) = true := decide_eq_true (by omega)
    have d4b : decide ((c.toNat : Int) ≤ 90) = false := decide_eq_false (by omega)
    have d6 : decide ((48 : Int) ≤ (c.toNat : Int)) = true := decide_eq_true (by omega)
    have d7 : decide ((c.toNat : Int) ≤ 57) = false := decide_eq_false (by omega)
    have d5 : ((c.toNat : Int) == 95) = false := beq_eq_false_iff_ne.2 (by omega)
    have d5b : ((c.toNat : Int) != 95) = true := by rw [bne_iff_ne]; omega
    have HL := Lib.hid ((digB_no c).2 (by omega))
    go_enter Try.func62, Try.ntmps62
    go_wp2
    go_ret
    exact ⟨ret_bool HL.out.symm, rfl⟩
  · have d1 : decide ((97 : Int) ≤ (c.toNat : Int)) = false := decide_eq_false (by omega)
    have d2 : decide ((c.toNat : Int) ≤ 122) = true := decide_eq_true (by omega)
    have d3 : decide ((c.toNat : Int) < 65) = false := decide_eq_false (by omega)
    have d4 : decide ((90 : Int) < (c.toNat : Int)) = true := decide_eq_true (by omega)
    have d3b : decide ((65 : Int) ≤ (c.toNat : Int)) = true := decide_eq_true (by omega)
    have d4b : decide ((c.toNat : Int) ≤ 90) = false := decide_eq_false (by omega)
    have d6 : decide ((48 : Int) ≤ (c.toNat : Int)) = true := decide_eq_true (by omega)
    have d7 : decide ((c.toNat : Int) ≤ 57) = false := decide_eq_false (by omega)
    have d5 : ((c.toNat : Int) == 95) = true := by rw [hc]; rfl
    have d5b : ((c.toNat : Int) != 95) = false := by rw [hc]; rfl
    have HL := Lib.hid ((digB_no c).2 (by omega))
    go_enter Try.func62, Try.ntmps62
    go_wp2
    go_ret
    exact ⟨ret_bool HL.out.symm, rfl⟩
  · have d1 : decide ((97 : Int) ≤ (c.toNat : Int)) = false := decide_eq_false (by omega)
    have d2 : decide ((c.toNat : Int) ≤ 122) = true := decide_eq_true (by omega)
    have d3 : decide ((c.toNat : Int) < 65) = false := decide_eq_false (by omega)
    have d4 : decide ((90 : Int) < (c.toNat : Int)) = true := decide_eq_true (by omega)
    have d3b : decide ((65 : Int) ≤ (c.toNat : Int)) = true := decide_eq_true (by omega)
    have d4b : decide ((c.toNat : Int) ≤ 90) = false := decide_eq_false (by omega)
    have d6 : decide ((48 : Int) ≤ (c.toNat : Int)) = true := decide_eq_true (by omega)
    have d7 : decide ((c.toNat : Int) ≤ 57) = false := decide_eq_false (by omega)
    have d5 : ((c.toNat : Int) == 95) = false := beq_eq_false_iff_ne.2 (by omega)
    have d5b : ((c.toNat : Int) != 95) = true := by rw [bne_iff_ne]; omega
    have HL := Lib.hid ((digB_no c).2 (by omega))
    go_enter Try.func62, Try.ntmps62
    go_wp2
    go_ret
    exact ⟨ret_bool HL.out.symm, rfl⟩
  · have d1 : decide ((97 : Int) ≤ (c.toNat : Int)) = true := decide_eq_true (by omega)
    have d2 : decide ((c.toNat : Int) ≤ 122) = true := decide_eq_true (by omega)
    have d3 : decide ((c.toNat : Int) < 65) = false := decide_eq_false (by omega)
    have d4 : decide ((90 : Int) < (c.toNat : Int)) = true := decide_eq_true (by omega)
    have d3b : decide ((65 : Int) ≤ (c.toNat : Int)) = true := decide_eq_true (by omega)
    have d4b : decide ((c.toNat : Int) ≤ 90) = false := decide_eq_false (by omega)
    have d6 : decide ((48 : Int) ≤ (c.toNat : Int)) = true := decide_eq_true (by omega)
    have d7 : decide ((c.toNat : Int) ≤ 57) = false := decide_eq_false (by omega)
    have d5 : ((c.toNat : Int) == 95) = false := beq_eq_false_iff_ne.2 (by omega)
    have d5b : ((c.toNat : Int) != 95) = true := by rw [bne_iff_ne]; omega
    have HL := Lib.hid ((digB_no c).2 (by omega))
    go_enter Try.func62, Try.ntmps62
    go_wp2
    go_ret
    exact ⟨ret_bool HL.out.symm, rfl⟩
  · have d1 : decide ((97 : Int) ≤ (c.toNat : Int)) = true := decide_eq_true (by omega)
    have d2 : decide ((c.toNat : Int) ≤ 122) = false := decide_eq_false (by omega)
    have d3 : decide ((c.toNat : Int) < 65) = false := decide_eq_false (by omega)
    have d4 : decide ((90 : Int) < (c.toNat : Int)) = true := decide_eq_true (by omega)
    have d3b : decide ((65 : Int) ≤ (c.toNat : Int)) = true := decide_eq_true (by omega)
    have d4b : decide ((c.toNat : Int) ≤ 90) = false := decide_eq_false (by omega)
    have d6 : decide ((48 : Int) ≤ (c.toNat : Int)) = true := decide_eq_true (by omega)
    have d7 : decide ((c.toNat : Int) ≤ 57) = false := decide_eq_false (by omega)
    have d5 : ((c.toNat : Int) == 95) = false := beq_eq_false_iff_ne.2 (by omega)
    have d5b : ((c.toNat : Int) != 95) = true := by rw [bne_iff_ne]; omega
    have HL := Lib.hid ((digB_no c).2 (by omega))
    go_enter Try.func62, Try.ntmps62
    go_wp2
    go_ret
    exact ⟨ret_bool HL.out.symm, rfl⟩

theorem okTo_one {s : ByteArray} (h0 : 0 < s.size) (h : letB s[0] = true) : okTo s 1 := by
  intro j hj hj1
  have : j = 0 := by omega
  subst this; exact .inl h

set_option maxHeartbeats 4000000 in
theorem spec_name (s : ByteArray) (w : World) (hs : s.size ≤ maxLen) :
    Calls Try.prog 43 #[.string s] w fun e w' => e = .returned (.bool (nameB s.data.toList)) ∧ w' = w := by
  unfold maxLen at hs
  by_cases h1 : 1 ≤ s.size
  · by_cases h2 : s.size ≤ 40
    · have d1 : decide ((s.size : Int) < 1) = false := decide_eq_false (by omega)
      have d2 : decide ((40 : Int) < (s.size : Int)) = false := decide_eq_false (by omega)
      have hp : 0 < s.size := by omega
      rcases hl : letB s[0] with _ | _
      · have HL := Lib.hid hl
        clear hl
        go_enter Try.func43, Try.ntmps43
        go_wp2_with (go_at_call 61; refine (spec_letter s[0] _).mono ?_; rintro e w' ⟨rfl, rfl⟩; rw [HL.out])
        go_ret
        exact ⟨ret_bool (name_no hp HL.out (.inr rfl)).symm, rfl⟩
      · have HL := Lib.hid hl
        clear hl
        go_enter Try.func43, Try.ntmps43
        go_wp2_with (go_at_call 61; refine (spec_letter s[0] _).mono ?_; rintro e w' ⟨rfl, rfl⟩; rw [HL.out])
        go_loop [3] (fun i => ∃ k : Nat, 1 ≤ k ∧ k ≤ s.size ∧ i = .int .i64 k ∧ okTo s k) (fun i => s.size - (intOf i).toNat)
        case atStart => exact ⟨1, Nat.le_refl _, by omega, rfl, okTo_one hp HL.out⟩
        case round =>
          obtain ⟨k, hk1, hk, rfl, hok⟩ := hrel
          have HO : Hid (okTo s k) := hok
          clear hok d1 d2
          by_cases hlt : k < s.size
          · rcases hl : letB s[k] with _ | _
            · have HK := Lib.hid hl
              clear hl
              rcases hd : digB s[k] with _ | _
              · have HD := Lib.hid hd
                clear hd
                go_wp2_with (first | (go_at_call 61; refine (spec_letter s[k] _).mono ?_; rintro e w' ⟨rfl, rfl⟩; rw [HK.out]) | (go_at_call 62; refine (spec_digit s[k] _).mono ?_; rintro e w' ⟨rfl, rfl⟩; rw [HD.out]))
                go_ret
                exact ⟨ret_bool (name_no hlt HK.out (.inl HD.out)).symm, rfl⟩
              · have HD := Lib.hid hd
                clear hd
                go_wp2_with (first | (go_at_call 61; refine (spec_letter s[k] _).mono ?_; rintro e w' ⟨rfl, rfl⟩; rw [HK.out]) | (go_at_call 62; refine (spec_digit s[k] _).mono ?_; rintro e w' ⟨rfl, rfl⟩; rw [HD.out]))
                go_round
                case rel => exact ⟨k + 1, by omega, by omega, by go_num, okTo_succ HO.out hlt (.inr ⟨HD.out, by omega⟩)⟩
                case measure => simp [intOf]; omega
            · have HK := Lib.hid hl
              clear hl
              go_wp2_with (go_at_call 61; refine (spec_letter s[k] _).mono ?_; rintro e w' ⟨rfl, rfl⟩; rw [HK.out])
              go_round
              case rel => exact ⟨k + 1, by omega, by omega, by go_num, okTo_succ HO.out hlt (.inl HK.out)⟩
              case measure => simp [intOf]; omega
          · have hk2 : k = s.size := by omega
            subst hk2
            have HE : Hid (nameB s.data.toList = (decide (1 ≤ (s.size : Int)) && decide ((s.size : Int) ≤ 40))) := name_end HO.out
            go_wp2
            go_ret
            exact ⟨ret_bool (by rw [HE.out]; simp; omega), rfl⟩
    · have d1 : decide ((s.size : Int) < 1) = false := decide_eq_false (by omega)
      have d2 : decide ((40 : Int) < (s.size : Int)) = true := decide_eq_true (by omega)
      have HN := Lib.hid (nameB_len s.data.toList (.inr (by rw [show s.data.toList.length = s.size from by simp]; omega)))
      go_enter Try.func43, Try.ntmps43
      go_wp2
      go_ret
      exact ⟨ret_bool HN.out.symm, rfl⟩
  · have d1 : decide ((s.size : Int) < 1) = true := decide_eq_true (by omega)
    have HN := Lib.hid (nameB_len s.data.toList (.inl (by rw [show s.data.toList.length = s.size from by simp]; omega)))
    go_enter Try.func43, Try.ntmps43
    go_wp2
    go_ret
    exact ⟨ret_bool HN.out.symm, rfl⟩
end Go.Proofs.Ytpjpkkninkpllaa
