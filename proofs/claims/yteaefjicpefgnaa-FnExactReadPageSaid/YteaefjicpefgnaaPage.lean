/- The walks over pages: which page is right, how many records it has. -/
import Derived.Test.YteaefjicpefgnaaRows
import Derived.Test.YteaefjicpefgnaaMem
import Derived.Test.YteaefjicpefgnaaTexts
import Derived.Test.YteaefjicpefgnaaTextFuncs
namespace Go.Proofs.Yteaefjicpefgnaa
open Go.RowKit Go.Deep
set_option linter.unusedVariables false
set_option maxRecDepth 100000

/-- which page is right -/
def pageB (k : Int) (l : List ByteArray) : Bool := decide (0 ≤ k) && decide (k ≤ 1000) && decide (l.length = 4) && !l.any (fun s => decide (30 < s.size))
theorem pageOK1_any (s : ByteArray) (hs : s.size ≤ maxLen) (w : World) : Calls Try.prog 108 #[.string s] w fun e w' => e = .returned (.bool (decide (30 < s.size))) ∧ w = w' := by
  unfold maxLen at hs
  by_cases h : 30 < s.size
  · have d : decide ((30 : Int) < (s.size : Int)) = true := decide_eq_true (by omega)
    have D := Lib.hid (show decide (30 < s.size) = true from decide_eq_true h)
    go_enter Try.func108, Try.ntmps108
    go_wp2
    go_ret
    exact ⟨ret_bool D.out.symm, rfl⟩
  · have d : decide ((30 : Int) < (s.size : Int)) = false := decide_eq_false (by omega)
    have D := Lib.hid (show decide (30 < s.size) = false from decide_eq_false h)
    go_enter Try.func108, Try.ntmps108
    go_wp2
    go_ret
    exact ⟨ret_bool D.out.symm, rfl⟩
theorem call_pageOK1 (args : Array Value) (w : World) : (callFunc 108 args).run Try.prog w = .ok (.enter 108 args) w := by kernel_rfl
set_option maxHeartbeats 400000 in
theorem impl_PageOK (k : Int) (A : Option Addr) (n cp : Nat) (l : List ByteArray) (w : World) (hl : l.length = n) (hn : n ≤ 1099511627776) (hx : ∀ s ∈ l, s.size ≤ maxLen) (hr : Rd w A (l.map fun c => Value.string c)) :
    Calls Try.prog 78 #[.agg #[.int .i64 k, .slice A n cp]] w fun e w' => e = .returned (.bool (pageB k l)) ∧ Ext w w' := by
  by_cases h0 : 0 ≤ k
  · by_cases h1 : k ≤ 1000
    · by_cases h4 : n = 4
      · have hc := fun W hW => containsFunc_texts 108 (fun s => decide (30 < s.size)) call_pageOK1 A n cp l W (fun s hs W => pageOK1_any s (hx s hs) W) hl hn hW
        have HV := Lib.hid (show pageB k l = !l.any (fun s => decide (30 < s.size)) from by unfold pageB; rw [decide_eq_true h0, decide_eq_true h1, decide_eq_true (by omega)]; rfl)
        generalize l.any (fun s => decide (30 < s.size)) = b at hc HV
        have HC := Lib.hid hc
        have HR := Lib.hid (hr.ext ((Ext.refl w).alloc (.cells #[.int .i64 k, .slice A n cp] 45)))
        have d4 : ((n : Int) == 4) = true := by rw [h4]; rfl
        clear hc hr hl h4 hx
        go_enter Try.func78, Try.ntmps78
        go_wp2_with (go_at_call 62; go_in)
        go_wp2_with fail
        refine (HC.out _ HR.out).mono ?_
        rintro e w' ⟨rfl, rfl⟩
        go_wp2_with fail
        go_ret
        exact ⟨ret_bool HV.out.symm, (by repeat (first | exact Ext.refl _ | assumption | refine Ext.alloc ?_ _ | refine Ext.drewN ?_ _ | refine Ext.drew ?_ | refine Ext.set ?_ (by dsimp only; omega) _ | refine Ext.trans ?_ (by assumption)))⟩
      · have HV := Lib.hid (show pageB k l = false from by unfold pageB; rw [decide_eq_false (show ¬ l.length = 4 by omega)]; simp)
        have d4 : ((n : Int) == 4) = false := beq_eq_false_iff_ne.2 (by omega)
        go_enter Try.func78, Try.ntmps78
        go_wp2
        go_ret
        exact ⟨ret_bool HV.out.symm, (by repeat (first | exact Ext.refl _ | assumption | refine Ext.alloc ?_ _ | refine Ext.drewN ?_ _ | refine Ext.drew ?_ | refine Ext.set ?_ (by dsimp only; omega) _ | refine Ext.trans ?_ (by assumption)))⟩
    · have HV := Lib.hid (show pageB k l = false from by unfold pageB; rw [decide_eq_false h1]; simp)
      go_enter Try.func78, Try.ntmps78
      go_wp2
      go_ret
      exact ⟨ret_bool HV.out.symm, (by repeat (first | exact Ext.refl _ | assumption | refine Ext.alloc ?_ _ | refine Ext.drewN ?_ _ | refine Ext.drew ?_ | refine Ext.set ?_ (by dsimp only; omega) _ | refine Ext.trans ?_ (by assumption)))⟩
  · have HV := Lib.hid (show pageB k l = false from by unfold pageB; rw [decide_eq_false h0]; simp)
    go_enter Try.func78, Try.ntmps78
    go_wp2
    go_ret
    exact ⟨ret_bool HV.out.symm, (by repeat (first | exact Ext.refl _ | assumption | refine Ext.alloc ?_ _ | refine Ext.drewN ?_ _ | refine Ext.drew ?_ | refine Ext.set ?_ (by dsimp only; omega) _ | refine Ext.trans ?_ (by assumption)))⟩
set_option maxHeartbeats 1000000 in
theorem spec_PageOK (k : Int) (A : Option Addr) (n cp : Nat) (l : List ByteArray) (w : World) (hl : l.length = n) (hn : n ≤ 1099511627776) (hx : ∀ s ∈ l, s.size ≤ maxLen) (hr : Rd w A (l.map fun c => Value.string c)) :
    Calls Try.prog 76 #[.agg #[.int .i64 k, .slice A n cp]] w fun e w' => e = .returned (.bool (pageB k l)) ∧ Ext w w' := by
  by_cases h0 : 0 ≤ k
  · by_cases h1 : k ≤ 1000
    · by_cases h4 : n = 4
      · have HV := Lib.hid (show pageB k l = !l.any (fun s => decide (30 < s.size)) from by unfold pageB; rw [decide_eq_true h0, decide_eq_true h1, decide_eq_true (by omega)]; rfl)
        have HX := Lib.hid hx
        have HL := Lib.hid hl
        subst h4
        clear hx hl
        go_enter Try.func76, Try.ntmps76
        go_wp2
        go_loopw [3] (fun i wr => ∃ j : Nat, j ≤ 4 ∧ i = .int .i64 j ∧ (∀ q, (hq : q < l.length) → q < j → ¬ 30 < (l[q]'hq).size) ∧ wr = w.alloc (.cells #[.int .i64 k, .slice A 4 cp] 45)) (fun i _ => 4 - (intOf i).toNat)
        case atStart => exact ⟨0, Nat.zero_le _, rfl, fun q _ h => absurd h (Nat.not_lt_zero _), by first | rfl | trivial⟩
        case round =>
          obtain ⟨j, hj, rfl, hb, rfl⟩ := hrel
          have HB := Lib.hid hb
          clear hb
          by_cases hlt : j < 4
          · have hkl : j < l.length := by rw [HL.out]; exact hlt
            have hr2 := hr.ext ((Ext.refl w).alloc (.cells #[.int .i64 k, .slice A 4 cp] 45))
            obtain ⟨b, o, rfl, hc⟩ := hr2.map_ hkl
            have hm := HX.out _ (List.getElem_mem hkl)
            unfold maxLen at hm
            by_cases h30 : 30 < l[j].size
            · have d : decide ((30 : Int) < (l[j].size : Int)) = true := decide_eq_true (by omega)
              have HA := Lib.hid (show l.any (fun s => decide (30 < s.size)) = true from List.any_eq_true.2 ⟨_, List.getElem_mem hkl, decide_eq_true h30⟩)
              go_wp2
              go_ret
              exact ⟨ret_bool (by rw [HV.out, HA.out]; rfl), (by repeat (first | exact Ext.refl _ | assumption | refine Ext.alloc ?_ _ | refine Ext.drewN ?_ _ | refine Ext.drew ?_ | refine Ext.set ?_ (by dsimp only; omega) _ | refine Ext.trans ?_ (by assumption)))⟩
            · have d : decide ((30 : Int) < (l[j].size : Int)) = false := decide_eq_false (by omega)
              have H3 := Lib.hid h30
              clear h30
              go_wp2
              go_roundw
              case rel => exact ⟨j + 1, by omega, by go_num, fun q hq hqj => by
                rcases Nat.lt_or_ge q j with h | h
                · exact HB.out q hq h
                · have : q = j := by omega
                  subst this; exact H3.out, by first | rfl | trivial⟩
              case measure => simp [intOf]; omega
          · have hj4 : j = 4 := by omega
            subst hj4
            have HA := Lib.hid (show l.any (fun s => decide (30 < s.size)) = false from by
              rw [List.any_eq_false]
              intro s hs
              obtain ⟨q, hq, rfl⟩ := List.getElem_of_mem hs
              have := HB.out q hq (by rw [HL.out] at hq; exact hq)
              simpa using this)
            go_wp2
            go_ret
            exact ⟨ret_bool (by rw [HV.out, HA.out]; rfl), (by repeat (first | exact Ext.refl _ | assumption | refine Ext.alloc ?_ _ | refine Ext.drewN ?_ _ | refine Ext.drew ?_ | refine Ext.set ?_ (by dsimp only; omega) _ | refine Ext.trans ?_ (by assumption)))⟩
      · have HV := Lib.hid (show pageB k l = false from by unfold pageB; rw [decide_eq_false (show ¬ l.length = 4 by omega)]; simp)
        have d4 : ((n : Int) != 4) = true := by rw [bne_iff_ne]; omega
        go_enter Try.func76, Try.ntmps76
        go_wp2
        go_ret
        exact ⟨ret_bool HV.out.symm, (by repeat (first | exact Ext.refl _ | assumption | refine Ext.alloc ?_ _ | refine Ext.drewN ?_ _ | refine Ext.drew ?_ | refine Ext.set ?_ (by dsimp only; omega) _ | refine Ext.trans ?_ (by assumption)))⟩
    · have HV := Lib.hid (show pageB k l = false from by unfold pageB; rw [decide_eq_false h1]; simp)
      go_enter Try.func76, Try.ntmps76
      go_wp2
      go_ret
      exact ⟨ret_bool HV.out.symm, (by repeat (first | exact Ext.refl _ | assumption | refine Ext.alloc ?_ _ | refine Ext.drewN ?_ _ | refine Ext.drew ?_ | refine Ext.set ?_ (by dsimp only; omega) _ | refine Ext.trans ?_ (by assumption)))⟩
  · have HV := Lib.hid (show pageB k l = false from by unfold pageB; rw [decide_eq_false h0]; simp)
    go_enter Try.func76, Try.ntmps76
    go_wp2
    go_ret
    exact ⟨ret_bool HV.out.symm, (by repeat (first | exact Ext.refl _ | assumption | refine Ext.alloc ?_ _ | refine Ext.drewN ?_ _ | refine Ext.drew ?_ | refine Ext.set ?_ (by dsimp only; omega) _ | refine Ext.trans ?_ (by assumption)))⟩
end Go.Proofs.Yteaefjicpefgnaa
