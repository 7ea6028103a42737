/- The walks of the two ValueOK functions. -/
import Derived.Test.YthfkfdfcgldbeaaDoorRows
import Derived.Test.YthfkfdfcgldbeaaDoorMem
import Derived.WalkSpells
namespace Go.Proofs.YthfkfdfcgldbeaaDoor
open Go.RowKit Go.Deep
set_option linter.unusedVariables false
set_option maxRecDepth 100000

/-- a small letter -/
def lowB (c : UInt8) : Bool := decide (97 ≤ c.toNat ∧ c.toNat ≤ 122)
theorem lowB_yes {c : UInt8} (h1 : (97 : Int) ≤ (c.toNat : Int)) (h2 : (c.toNat : Int) ≤ 122) : lowB c = true := by unfold lowB; rw [decide_eq_true_iff]; omega
theorem lowB_no {c : UInt8} (h : ¬ ((97 : Int) ≤ (c.toNat : Int) ∧ (c.toNat : Int) ≤ 122)) : lowB c = false := by unfold lowB; rw [decide_eq_false_iff_not]; omega
/-- a word: small letters, ten at most -/
def wordB (s : ByteArray) : Bool := s.data.toList.all lowB && decide (s.size ≤ 10)
/-- what a value that is right is -/
def valB (k i : Int) (s : ByteArray) : Bool :=
  if k = 0 then decide (i = 0) && decide (s.toList = [])
  else if k = 1 then decide (-1000000000 ≤ i) && decide (i ≤ 1000000000) && decide (s.toList = [])
  else if k = 2 then decide (i = 0) && wordB s
  else false
def lowTo (s : ByteArray) (k : Nat) : Prop := ∀ j, (hj : j < s.size) → j < k → lowB (s[j]'hj) = true
theorem lowTo_zero (s : ByteArray) : lowTo s 0 := fun j _ h => absurd h (Nat.not_lt_zero _)
theorem lowTo_succ {s : ByteArray} {k : Nat} (h : lowTo s k) (hk : k < s.size) (h1 : lowB (s[k]'hk) = true) : lowTo s (k + 1) := by
  intro j hj hjk
  rcases Nat.lt_or_ge j k with h2 | h2
  · exact h j hj h2
  · have : j = k := by omega
    subst this; exact h1
theorem low_all {s : ByteArray} (h : lowTo s s.size) : s.data.toList.all lowB = true := by
  rw [List.all_eq_true]
  intro c hc
  obtain ⟨k, hk, rfl⟩ := List.getElem_of_mem hc
  have hk' : k < s.size := by simpa using hk
  rw [show s.data.toList[k] = s[k]'hk' from by simp only [Array.getElem_toList]; rfl]
  exact h k hk' hk'
theorem low_not {s : ByteArray} {k : Nat} (hk : k < s.size) (h : lowB (s[k]'hk) = false) : s.data.toList.all lowB = false := by
  rw [List.all_eq_false]
  have hk' : k < s.data.toList.length := by simpa using hk
  refine ⟨s.data.toList[k], List.getElem_mem hk', ?_⟩
  have e : s.data.toList[k] = s[k]'hk := by simp only [Array.getElem_toList]; rfl
  rw [e, h]; simp
theorem word_no {s : ByteArray} {k : Nat} (hk : k < s.size) (h : lowB (s[k]'hk) = false) : wordB s = false := by
  unfold wordB; rw [low_not hk h]; rfl
theorem word_end {s : ByteArray} (h : lowTo s s.size) : wordB s = decide ((s.size : Int) ≤ 10) := by
  unfold wordB; rw [low_all h, Bool.true_and, decide_eq_decide]; omega
set_option maxHeartbeats 1000000 in
theorem impl_isWord (s : ByteArray) (w : World) (hs : s.size ≤ maxLen) :
    Calls Tryd.prog 15 #[.string s] w fun e w' => e = .returned (.bool (wordB s)) ∧ w = w' := by
  unfold maxLen at hs
  go_enter Tryd.func15, Tryd.ntmps15
  go_wp2
  go_loop [6] (fun i => ∃ k : Nat, k ≤ s.size ∧ i = .int .i64 k ∧ lowTo s k) (fun i => s.size - (intOf i).toNat)
  case atStart => exact ⟨0, Nat.zero_le _, rfl, lowTo_zero s⟩
  case round =>
    obtain ⟨k, hk, rfl, hok⟩ := hrel
    have HO := Lib.hid hok
    clear hok
    by_cases hlt : k < s.size
    · by_cases h1 : (97 : Int) ≤ (s[k].toNat : Int)
      · have d1 : decide ((97 : Int) ≤ (s[k].toNat : Int)) = true := decide_eq_true h1
        by_cases h2 : (s[k].toNat : Int) ≤ 122
        · have d2 : decide ((s[k].toNat : Int) ≤ 122) = true := decide_eq_true h2
          go_wp2
          go_round
          case rel => exact ⟨k + 1, by omega, by go_num, lowTo_succ HO.out hlt (lowB_yes h1 h2)⟩
          case measure => simp [intOf]; omega
        · have d2 : decide ((s[k].toNat : Int) ≤ 122) = false := decide_eq_false h2
          have HW := Lib.hid (word_no hlt (lowB_no (fun h => h2 h.2)))
          go_wp2
          go_ret
          exact ⟨ret_bool HW.out.symm, rfl⟩
      · have d1 : decide ((97 : Int) ≤ (s[k].toNat : Int)) = false := decide_eq_false h1
        have HW := Lib.hid (word_no hlt (lowB_no (fun h => h1 h.1)))
        go_wp2
        go_ret
        exact ⟨ret_bool HW.out.symm, rfl⟩
    · have hk2 : k = s.size := by omega
      subst hk2
      have HE := Lib.hid (word_end HO.out)
      go_wp2
      go_ret
      exact ⟨ret_bool HE.out.symm, rfl⟩
theorem impl_ValueOK (k i : Int) (s : ByteArray) (w : World) (hs : s.size ≤ maxLen) :
    Calls Tryd.prog 10 #[.agg #[.int .i64 k, .int .i64 i, .string s]] w fun e w' => e = .returned (.bool (valB k i s)) ∧ Ext w w' := by
  by_cases h0 : k = 0
  · subst h0
    go_enter Tryd.func10, Tryd.ntmps10
    go_wp2
    all_goals
      go_ret
      exact ⟨ret_bool (by simp [valB, *] <;> cases s.toList <;> rfl), (Ext.refl _).alloc _⟩
  by_cases h1 : k = 1
  · subst h1
    clear h0
    by_cases g1 : -1000000000 ≤ i
    · by_cases g2 : i ≤ 1000000000
      · go_enter Tryd.func10, Tryd.ntmps10
        go_wp2
        all_goals
          go_ret
          exact ⟨ret_bool (by simp [valB, *] <;> cases s.toList <;> rfl), (Ext.refl _).alloc _⟩
      · go_enter Tryd.func10, Tryd.ntmps10
        go_wp2
        all_goals
          go_ret
          exact ⟨ret_bool (by simp [valB]; omega), (Ext.refl _).alloc _⟩
    · go_enter Tryd.func10, Tryd.ntmps10
      go_wp2
      all_goals
        go_ret
        exact ⟨ret_bool (by simp [valB]; omega), (Ext.refl _).alloc _⟩
  by_cases h2 : k = 2
  · subst h2
    clear h0 h1
    by_cases g1 : i = 0
    · subst g1
      have hW := impl_isWord s
      have HV := Lib.hid (show valB 2 0 s = wordB s from by simp [valB])
      generalize wordB s = b at hW HV
      have HW := Lib.hid hW
      clear hW
      go_enter Tryd.func10, Tryd.ntmps10
      go_wp2_with (go_at_call 15; refine (HW.out _ hs).mono ?_; rintro e w' ⟨rfl, rfl⟩)
      go_ret
      exact ⟨ret_bool HV.out.symm, (Ext.refl _).alloc _⟩
    · have HV := Lib.hid (show valB 2 i s = false from by simp [valB, g1])
      go_enter Tryd.func10, Tryd.ntmps10
      go_wp2
      go_ret
      exact ⟨ret_bool HV.out.symm, (Ext.refl _).alloc _⟩
  · have e0 : (k == 0) = false := beq_eq_false_iff_ne.2 h0
    have e1 : (k == 1) = false := beq_eq_false_iff_ne.2 h1
    have e2 : (k == 2) = false := beq_eq_false_iff_ne.2 h2
    have HV := Lib.hid (show valB k i s = false from by unfold valB; rw [if_neg h0, if_neg h1, if_neg h2])
    go_enter Tryd.func10, Tryd.ntmps10
    go_wp2
    go_ret
    exact ⟨ret_bool HV.out.symm, (Ext.refl _).alloc _⟩
set_option maxHeartbeats 1000000 in
theorem spec_ValueOK (k i : Int) (s : ByteArray) (w : World) (hs : s.size ≤ maxLen) :
    Calls Tryd.prog 8 #[.agg #[.int .i64 k, .int .i64 i, .string s]] w fun e w' => e = .returned (.bool (valB k i s)) ∧ Ext w w' := by
  by_cases h0 : k = 0
  · subst h0
    go_enter Tryd.func8, Tryd.ntmps8
    go_wp2
    all_goals
      go_ret
      exact ⟨ret_bool (by simp [valB, *] <;> cases s.toList <;> rfl), (Ext.refl _).alloc _⟩
  by_cases h1 : k = 1
  · subst h1
    clear h0
    by_cases g1 : -1000000000 ≤ i
    · by_cases g2 : i ≤ 1000000000
      · go_enter Tryd.func8, Tryd.ntmps8
        go_wp2
        all_goals
          go_ret
          exact ⟨ret_bool (by simp [valB, *] <;> cases s.toList <;> rfl), (Ext.refl _).alloc _⟩
      · go_enter Tryd.func8, Tryd.ntmps8
        go_wp2
        all_goals
          go_ret
          exact ⟨ret_bool (by simp [valB]; omega), (Ext.refl _).alloc _⟩
    · go_enter Tryd.func8, Tryd.ntmps8
      go_wp2
      all_goals
        go_ret
        exact ⟨ret_bool (by simp [valB]; omega), (Ext.refl _).alloc _⟩
  by_cases h2 : k = 2
  · subst h2
    clear h0 h1
    by_cases g1 : i = 0
    · subst g1
      have HV := Lib.hid (show valB 2 0 s = wordB s from by simp [valB])
      by_cases g2 : s.size ≤ 10
      · have d1 : decide ((10 : Int) < (s.size : Int)) = false := decide_eq_false (by omega)
        have hs' := hs
        unfold maxLen at hs'
        go_enter Tryd.func8, Tryd.ntmps8
        go_wp2
        go_loopw [3] (fun i wr => ∃ k : Nat, k ≤ s.size ∧ i = .int .i64 k ∧ lowTo s k ∧ wr = w.alloc (.cells #[.int .i64 2, .int .i64 0, .string s] 27)) (fun i _ => s.size - (intOf i).toNat)
        case atStart => exact ⟨0, Nat.zero_le _, rfl, lowTo_zero s, rfl⟩
        case round =>
          obtain ⟨k, hk, rfl, hok, rfl⟩ := hrel
          have HO := Lib.hid hok
          clear hok
          by_cases hlt : k < s.size
          · have hb : (s[k].toNat : Int) < 256 := by have := s[k].toNat_lt; omega
            by_cases h1 : (97 : Int) ≤ (s[k].toNat : Int)
            · have d1 : decide ((97 : Int) ≤ (s[k].toNat : Int)) = true := decide_eq_true h1
              by_cases h2 : (s[k].toNat : Int) ≤ 122
              · have d2 : decide ((s[k].toNat : Int) ≤ 122) = true := decide_eq_true h2
                go_wp2
                go_roundw
                case rel => exact ⟨k + 1, by omega, by go_num, lowTo_succ HO.out hlt (lowB_yes h1 h2), by first | rfl | trivial⟩
                case measure => simp [intOf]; omega
              · have d2 : decide ((s[k].toNat : Int) ≤ 122) = false := decide_eq_false h2
                have HW := Lib.hid (word_no hlt (lowB_no (fun h => h2 h.2)))
                go_wp2
                go_ret
                exact ⟨ret_bool (by rw [HV.out, HW.out]), (Ext.refl _).alloc _⟩
            · have d1 : decide ((97 : Int) ≤ (s[k].toNat : Int)) = false := decide_eq_false h1
              have HW := Lib.hid (word_no hlt (lowB_no (fun h => h1 h.1)))
              go_wp2
              go_ret
              exact ⟨ret_bool (by rw [HV.out, HW.out]), (Ext.refl _).alloc _⟩
          · have hk2 : k = s.size := by omega
            subst hk2
            have HE := Lib.hid ((word_end HO.out).trans (decide_eq_true (by omega)))
            go_wp2
            go_ret
            exact ⟨ret_bool (by rw [HV.out, HE.out]), (Ext.refl _).alloc _⟩
      · have d1 : decide ((10 : Int) < (s.size : Int)) = true := decide_eq_true (by omega)
        have HW := Lib.hid (show wordB s = false from by unfold wordB; rw [decide_eq_false (by omega), Bool.and_false])
        go_enter Tryd.func8, Tryd.ntmps8
        go_wp2
        go_ret
        exact ⟨ret_bool (by rw [HV.out, HW.out]), (Ext.refl _).alloc _⟩
    · have HV := Lib.hid (show valB 2 i s = false from by simp [valB, g1])
      have d0 : (i != 0) = true := by rw [bne_iff_ne]; exact g1
      go_enter Tryd.func8, Tryd.ntmps8
      go_wp2
      go_ret
      exact ⟨ret_bool HV.out.symm, (Ext.refl _).alloc _⟩
  · have e0 : (k == 0) = false := beq_eq_false_iff_ne.2 h0
    have e1 : (k == 1) = false := beq_eq_false_iff_ne.2 h1
    have e2 : (k == 2) = false := beq_eq_false_iff_ne.2 h2
    have HV := Lib.hid (show valB k i s = false from by unfold valB; rw [if_neg h0, if_neg h1, if_neg h2])
    go_enter Tryd.func8, Tryd.ntmps8
    go_wp2
    go_ret
    exact ⟨ret_bool HV.out.symm, (Ext.refl _).alloc _⟩
theorem toValue_any (k i : Int) (s : ByteArray) (w : World) :
    Calls Tryd.prog 6 #[.agg #[.int .i64 k, .int .i64 i, .string s]] w fun e w' => e = .returned (.agg #[.int .i64 k, .int .i64 i, .string s]) ∧ Ext w w' := by
  go_enter Tryd.func6, Tryd.ntmps6
  go_wp2
  refine bodyPost_ret (v := .agg #[.int .i64 k, .int .i64 i, .string s]) (by simp [results, Tryd.results6, go_sem]) rfl ⟨rfl, (((Ext.refl _).alloc _).alloc _).alloc _⟩
theorem szValue_any (k i left : Int) (s : ByteArray) (w : World) (hs : s.size ≤ maxLen) (h0 : -1 ≤ left) (h1 : left ≤ 1048576) :
    Calls Tryd.prog 4 #[.agg #[.int .i64 k, .int .i64 i, .string s], .int .i64 left] w fun e w' => e = .returned (.int .i64 (if left < s.size then -1 else left - s.size)) ∧ Ext w w' := by
  unfold maxLen at hs
  by_cases h : left < s.size
  · rw [if_pos h]
    have d : decide (left - (s.size : Int) < 0) = true := decide_eq_true (by omega)
    go_enter Tryd.func4, Tryd.ntmps4
    go_wp2
    go_ret
    exact ⟨rfl, (Ext.refl _).alloc _⟩
  · rw [if_neg h]
    have d : decide (left - (s.size : Int) < 0) = false := decide_eq_false (by omega)
    go_enter Tryd.func4, Tryd.ntmps4
    go_wp2
    go_ret
    exact ⟨rfl, (Ext.refl _).alloc _⟩
end Go.Proofs.YthfkfdfcgldbeaaDoor
