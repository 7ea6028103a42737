/- The walks of the two PageUsed functions. -/
import Derived.Test.YtpjpkkninkpllaaPage
namespace Go.Proofs.Ytpjpkkninkpllaa
open Go.RowKit Go.Deep
set_option linter.unusedVariables false

/-- how many slots hold a record -/
def usedN (l : List ByteArray) : Nat := (l.filter (fun s => !s.toList.isEmpty)).length
theorem usedN_le (l : List ByteArray) : usedN l ≤ l.length := List.length_filter_le _ _
theorem usedN_snoc (l : List ByteArray) (k : Nat) (hk : k < l.length) : usedN (l.take (k + 1)) = usedN (l.take k) + if (l[k]'hk).toList.isEmpty then 0 else 1 := by
  unfold usedN
  rw [List.take_succ_eq_append_getElem hk, List.filter_append, List.length_append]
  by_cases h : (l[k]'hk).toList.isEmpty <;> simp [h]
def usedA (k : Int) (l : List ByteArray) : Int := if pageB k l = true then (usedN l : Nat) else 0
def usedC (k : Int) (l : List ByteArray) : Int := if pageB k l = true then 0 else 1
theorem page_four {k : Int} {l : List ByteArray} (h : pageB k l = true) : l.length = 4 := by
  unfold pageB at h
  simp only [Bool.and_eq_true, decide_eq_true_eq] at h
  exact h.1.2
set_option maxHeartbeats 400000 in
theorem impl_PageUsed (k : Int) (A : Option Addr) (n cp : Nat) (l : List ByteArray) (w : World) (hl : l.length = n) (hn : n ≤ 1099511627776) (hx : ∀ s ∈ l, s.size ≤ maxLen) (hr : Rd w A (l.map fun c => Value.string c)) :
    Calls Try.prog 36 #[.agg #[.int .i64 k, .slice A n cp]] w fun e w' => e = .returned (.tuple #[.int .i64 (usedA k l), .int .i64 (usedC k l)]) ∧ Ext w w' := by
  have hB := Blk.new w 43 [.int .i64 k, .slice A n cp]
  have hP := fun W h => impl_PageOK k A n cp l W hl hn hx h
  have hA : usedA k l = if pageB k l = true then ((usedN l : Nat) : Int) else 0 := rfl
  have hC : usedC k l = if pageB k l = true then 0 else 1 := rfl
  generalize pageB k l = b at hP hA hC
  have HP := Lib.hid hP
  have HL := Lib.hid hl
  clear hP hl hx
  cases b
  · have HA := Lib.hid (show usedA k l = 0 by rw [hA]; simp)
    have HC := Lib.hid (show usedC k l = 1 by rw [hC]; simp)
    clear hA hC
    go_enter Try.func36, Try.ntmps36
    go_wp2_with fail
    refine (HP.out _ (hr.ext (by repeat (first | exact Ext.refl _ | assumption | refine Ext.alloc ?_ _ | refine Ext.drewN ?_ _ | refine Ext.drew ?_ | refine Ext.set ?_ (by dsimp only; omega) _ | refine Ext.trans ?_ (by assumption))))).mono ?_
    rintro e w1 ⟨rfl, E1⟩
    go_wp2_with fail
    go_ret2
    exact ⟨by rw [HA.out, HC.out]; rfl, (by repeat (first | exact Ext.refl _ | assumption | refine Ext.alloc ?_ _ | refine Ext.drewN ?_ _ | refine Ext.drew ?_ | refine Ext.set ?_ (by dsimp only; omega) _ | refine Ext.trans ?_ (by assumption)))⟩
  · have HA := Lib.hid (show usedA k l = (usedN l : Nat) by rw [hA]; simp)
    have HC := Lib.hid (show usedC k l = 0 by rw [hC]; simp)
    clear hA hC
    go_enter Try.func36, Try.ntmps36
    go_wp2_with fail
    refine (HP.out _ (hr.ext (by repeat (first | exact Ext.refl _ | assumption | refine Ext.alloc ?_ _ | refine Ext.drewN ?_ _ | refine Ext.drew ?_ | refine Ext.set ?_ (by dsimp only; omega) _ | refine Ext.trans ?_ (by assumption))))).mono ?_
    rintro e w1 ⟨rfl, E1⟩
    have E2 : Ext w w1 := (by repeat (first | exact Ext.refl _ | assumption | refine Ext.alloc ?_ _ | refine Ext.drewN ?_ _ | refine Ext.drew ?_ | refine Ext.set ?_ (by dsimp only; omega) _ | refine Ext.trans ?_ (by assumption)))
    have R1 := hr.ext E2
    obtain ⟨c0, c1⟩ := (hB.ext E1).cells2
    clear hB hr
    go_wp2_with fail
    clear c0 c1
    go_loop [13, 4] (fun i m => ∃ j : Nat, j ≤ n ∧ i = .int .i64 j ∧ m = .int .i64 (usedN (l.take j) : Nat)) (fun i _ => n - (intOf i).toNat)
    case atStart => exact ⟨0, Nat.zero_le _, rfl, rfl⟩
    case round =>
      obtain ⟨j, hj, rfl, rfl⟩ := hrel
      by_cases hlt : j < n
      · have hkl : j < l.length := by rw [HL.out]; exact hlt
        obtain ⟨b, o, rfl, hc⟩ := R1.map_ hkl
        have hu := usedN_le (l.take j)
        have hu2 : (l.take j).length ≤ j := List.length_take_le _ _
        have HU := Lib.hid (usedN_snoc l j hkl)
        generalize usedN (l.take j) = u at HU hu
        by_cases he : l[j].toList.isEmpty = true
        · have HE := Lib.hid (show usedN (l.take (j + 1)) = u by rw [HU.out, if_pos he]; rfl)
          go_wp2_with fail
          go_round
          case rel => exact ⟨j + 1, by omega, by go_num, by rw [HE.out]⟩
          case measure => simp [intOf]; omega
        · have he' : l[j].toList.isEmpty = false := by simpa using he
          have HE := Lib.hid (show usedN (l.take (j + 1)) = u + 1 by rw [HU.out, if_neg he])
          clear he
          go_wp2_with fail
          go_round
          case rel => exact ⟨j + 1, by omega, by go_num, by rw [HE.out]; go_num⟩
          case measure => simp [intOf]; omega
      · have hj4 : j = n := by omega
        have HT := Lib.hid (show usedN (l.take j) = usedN l by rw [List.take_of_length_le (by rw [HL.out]; omega)])
        subst hj4
        go_wp2_with fail
        go_ret2
        exact ⟨by rw [HA.out, HC.out, ← HT.out]; rfl, (by repeat (first | exact Ext.refl _ | assumption | refine Ext.alloc ?_ _ | refine Ext.drewN ?_ _ | refine Ext.drew ?_ | refine Ext.set ?_ (by dsimp only; omega) _ | refine Ext.trans ?_ (by assumption)))⟩
set_option maxHeartbeats 400000 in
theorem spec_PageUsed (k : Int) (A : Option Addr) (n cp : Nat) (l : List ByteArray) (w : World) (hl : l.length = n) (hn : n ≤ 1099511627776) (hx : ∀ s ∈ l, s.size ≤ maxLen) (hr : Rd w A (l.map fun c => Value.string c)) :
    Calls Try.prog 35 #[.agg #[.int .i64 k, .slice A n cp]] w fun e w' => e = .returned (.tuple #[.int .i64 (usedA k l), .int .i64 (usedC k l)]) ∧ Ext w w' := by
  have hB := Blk.new w 43 [.int .i64 k, .slice A n cp]
  have hP := fun W h => spec_PageOK k A n cp l W hl hn hx h
  have hA : usedA k l = if pageB k l = true then ((usedN l : Nat) : Int) else 0 := rfl
  have hC : usedC k l = if pageB k l = true then 0 else 1 := rfl
  have h4 : pageB k l = true → l.length = 4 := page_four
  generalize pageB k l = b at hP hA hC h4
  have HP := Lib.hid hP
  have HL := Lib.hid hl
  clear hP hl hx
  cases b
  · have HA := Lib.hid (show usedA k l = 0 by rw [hA]; simp)
    have HC := Lib.hid (show usedC k l = 1 by rw [hC]; simp)
    clear hA hC h4
    go_enter Try.func35, Try.ntmps35
    go_wp2_with fail
    refine (HP.out _ (hr.ext (by repeat (first | exact Ext.refl _ | assumption | refine Ext.alloc ?_ _ | refine Ext.drewN ?_ _ | refine Ext.drew ?_ | refine Ext.set ?_ (by dsimp only; omega) _ | refine Ext.trans ?_ (by assumption))))).mono ?_
    rintro e w1 ⟨rfl, E1⟩
    go_wp2_with fail
    go_ret2
    exact ⟨by rw [HA.out, HC.out]; rfl, (by repeat (first | exact Ext.refl _ | assumption | refine Ext.alloc ?_ _ | refine Ext.drewN ?_ _ | refine Ext.drew ?_ | refine Ext.set ?_ (by dsimp only; omega) _ | refine Ext.trans ?_ (by assumption)))⟩
  · have HA := Lib.hid (show usedA k l = (usedN l : Nat) by rw [hA]; simp)
    have HC := Lib.hid (show usedC k l = 0 by rw [hC]; simp)
    have hn4 : n = 4 := by have := h4 rfl; rw [HL.out] at this; exact this
    subst hn4
    clear hA hC h4
    go_enter Try.func35, Try.ntmps35
    go_wp2_with fail
    refine (HP.out _ (hr.ext (by repeat (first | exact Ext.refl _ | assumption | refine Ext.alloc ?_ _ | refine Ext.drewN ?_ _ | refine Ext.drew ?_ | refine Ext.set ?_ (by dsimp only; omega) _ | refine Ext.trans ?_ (by assumption))))).mono ?_
    rintro e w1 ⟨rfl, E1⟩
    have E2 : Ext w w1 := (by repeat (first | exact Ext.refl _ | assumption | refine Ext.alloc ?_ _ | refine Ext.drewN ?_ _ | refine Ext.drew ?_ | refine Ext.set ?_ (by dsimp only; omega) _ | refine Ext.trans ?_ (by assumption)))
    have R1 := hr.ext E2
    obtain ⟨c0, c1⟩ := (hB.ext E1).cells2
    clear hB hr
    go_wp2_with fail
    go_loop [5, 4] (fun i m => ∃ j : Nat, j ≤ 4 ∧ i = .int .i64 j ∧ m = .int .i64 (usedN (l.take j) : Nat)) (fun i _ => 4 - (intOf i).toNat)
    case atStart => exact ⟨0, Nat.zero_le _, rfl, rfl⟩
    case round =>
      obtain ⟨j, hj, rfl, rfl⟩ := hrel
      by_cases hlt : j < 4
      · have hkl : j < l.length := by rw [HL.out]; exact hlt
        obtain ⟨b, o, rfl, hc⟩ := R1.map_ hkl
        have hu := usedN_le (l.take j)
        have hu2 : (l.take j).length ≤ j := List.length_take_le _ _
        have HU := Lib.hid (usedN_snoc l j hkl)
        generalize usedN (l.take j) = u at HU hu
        by_cases he : l[j].toList.isEmpty = true
        · have HE := Lib.hid (show usedN (l.take (j + 1)) = u by rw [HU.out, if_pos he]; rfl)
          go_wp2_with (go_at_call 58; go_in)
          go_round
          case rel => exact ⟨j + 1, by omega, by go_num, by rw [HE.out]⟩
          case measure => simp [intOf]; omega
        · have he' : l[j].toList.isEmpty = false := by simpa using he
          have HE := Lib.hid (show usedN (l.take (j + 1)) = u + 1 by rw [HU.out, if_neg he])
          clear he
          go_wp2_with (go_at_call 58; go_in)
          go_round
          case rel => exact ⟨j + 1, by omega, by go_num, by rw [HE.out]; go_num⟩
          case measure => simp [intOf]; omega
      · have hj4 : j = 4 := by omega
        have HT := Lib.hid (show usedN (l.take j) = usedN l by rw [List.take_of_length_le (by rw [HL.out]; omega)])
        subst hj4
        go_wp2_with fail
        go_ret2
        exact ⟨by rw [HA.out, HC.out, ← HT.out]; rfl, (by repeat (first | exact Ext.refl _ | assumption | refine Ext.alloc ?_ _ | refine Ext.drewN ?_ _ | refine Ext.drew ?_ | refine Ext.set ?_ (by dsimp only; omega) _ | refine Ext.trans ?_ (by assumption)))⟩
end Go.Proofs.Ytpjpkkninkpllaa
