/- The walk of the reference's ExprOK. -/
import Derived.Test.YthfkfdfcgldbeaaExprS
namespace Go.Proofs.Ythfkfdfcgldbeaa
open Go.RowKit Go.Deep
set_option linter.unusedVariables false
set_option maxRecDepth 100000
/-- the answer of ExprOK -/
def exB (l : List CExprNode) : Bool := inB (l.length : Int) 1 40 && exprB (l.map toE)
set_option maxHeartbeats 2000000 in
theorem spec_ExprOK (A : Option Addr) (n p : Nat) (l : List CExprNode) (w : World) (hl : l.length = n) (hn : n ≤ 1099511627776) (hxs : ∀ x ∈ l, x.s.size ≤ maxLen) (hr : Rd w A (l.flatMap CExprNode.cs)) :
    Calls Try.prog 31 #[.agg #[.slice A n p]] w fun e w' => e = .returned (.bool (exB l)) ∧ Ext w w' := by
  have hE0 : Ext w (w.alloc (.cells #[.slice A n p] 54)) := (by repeat (first | exact Ext.refl _ | assumption | refine Ext.alloc ?_ _ | refine Ext.drewN ?_ _ | refine Ext.drew ?_ | refine Ext.set ?_ (by dsimp only; omega) _ | refine Ext.trans ?_ (by assumption)))
  have HE0 := Lib.hid hE0
  have HIN := Lib.hid (fun W => spec_l01In (n : Int) 1 40 W)
  unfold exB
  rw [hl]
  rcases hin : inB (n : Int) 1 40 with _ | _
  · rw [hin] at HIN
    clear hin hxs hr hE0
    go_enter Try.func31, Try.ntmps31
    go_wp2_with fail
    refine (HIN.out _).mono ?_
    rintro e w1 ⟨rfl, rfl⟩
    go_wp2_with fail
    go_ret
    exact ⟨by rfl, HE0.out⟩
  · rw [hin] at HIN
    have hb := inB_true hin
    have hEl : (l.map toE).length = n := by rw [List.length_map, hl]
    have hC := spec_l10Walk w A n p l hl (by omega) hxs hr n (Nat.le_refl _) ((n : Int) - 1) _ rfl hE0
    have hX : exprB (l.map toE) = (match walkE (l.map toE) n with | some (f, d) => f == 0 && decide (d ≤ 12) | none => false) := by unfold exprB; rw [hEl]; rfl
    generalize walkE (l.map toE) n = R at hC hX
    generalize exprB (l.map toE) = X at hX ⊢
    have HX := Lib.hid hX
    have HC := Lib.hid hC
    clear hC hX hEl hin hxs hr hE0 hl
    rw [Bool.true_and]
    go_enter Try.func31, Try.ntmps31
    go_wp2_with fail
    refine (HIN.out _).mono ?_
    rintro e w1 ⟨rfl, rfl⟩
    go_wp2_with fail
    refine HC.out.mono ?_
    rintro e w2 ⟨f, d, ok, rfl, E2, hd1, hd2, hok, hno⟩
    rcases ok with _ | _
    · have HV := Lib.hid (show X = false by rw [HX.out, hno rfl])
      clear hok hno
      go_wp2_with fail
      go_ret
      exact ⟨by (rw [HV.out]; try rfl), HE0.out.trans E2⟩
    · obtain ⟨hR, hf⟩ := hok rfl
      obtain ⟨fn, rfl⟩ : ∃ fn : Nat, f = (fn : Int) := ⟨f.toNat, by omega⟩
      rw [Int.toNat_natCast] at hR
      by_cases hf0 : fn = 0
      · subst hf0
        have HV := Lib.hid (show X = decide (d ≤ 12) by rw [HX.out, hR]; rfl)
        clear hok hno hR
        go_wp2_with fail
        go_ret
        exact ⟨by (rw [HV.out]; try rfl), HE0.out.trans E2⟩
      · have hfb : ((fn : Int) == 0) = false := by rw [beq_eq_false_iff_ne]; omega
        have HV := Lib.hid (show X = false by rw [HX.out, hR]; simp only; rw [show (fn == 0) = false by simpa using hf0]; rfl)
        clear hok hno hR hf0
        go_wp2_with fail
        go_ret
        exact ⟨by (rw [HV.out]; try rfl), HE0.out.trans E2⟩
end Go.Proofs.Ythfkfdfcgldbeaa
