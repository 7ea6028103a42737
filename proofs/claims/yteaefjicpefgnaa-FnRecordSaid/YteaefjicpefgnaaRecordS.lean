/- The walk of the reference's RecordOK (printed by gen_recordok.py). -/
import Derived.Test.YteaefjicpefgnaaCheck4
namespace Go.Proofs.Yteaefjicpefgnaa
open Go.RowKit Go.Deep
set_option linter.unusedVariables false
set_option maxRecDepth 100000
set_option maxHeartbeats 4000000 in
theorem spec_RecordOK (e ls tx k p nx pg sl : Int) (bf af : ByteArray) (w : World) (hb : bf.size ≤ 2000000) (ha : af.size ≤ 2000000) (wk : (Lit.int .i64 ls).wf = true) :
    Calls Try.prog 44 #[.agg #[.int .i64 e, .int .i64 ls, .int .i64 tx, .int .i64 k, .int .i64 p, .int .i64 nx, .int .i64 pg, .int .i64 sl, .string bf, .string af]] w fun en w' => en = .returned (.bool (recS e ls tx k p nx pg sl bf af)) ∧ Ext w w' := by
  have hR0 : recS e ls tx k p nx pg sl bf af = (inB e 1 60 && inB ls 1 60 && inB k 1 6 && inB p 0 (ls - 1) && inB nx 0 (ls - 1) && inB pg 0 7 && inB sl 0 3 && decide (bf.size ≤ 30) &&
    if k = 6 then decide (tx = 0) && decide (p = 0) && decide (nx = 0) && decide (pg = 0) && decide (sl = 0) && bf.toList.isEmpty && ckS af.data.toList ls
    else inB tx 1 60 && decide (af.size ≤ 30) &&
      (if k = 2 then decide (nx = 0) else if k = 3 then bf.toList.isEmpty else decide (pg = 0) && decide (sl = 0) && bf.toList.isEmpty && af.toList.isEmpty && decide (nx = 0)) && (decide (k = 1) == decide (p = 0))) := rfl
  generalize recS e ls tx k p nx pg sl bf af = res at hR0 ⊢
  have HR := Lib.hid hR0
  clear hR0 wk
  go_enter Try.func44, Try.ntmps44
  go_wp2_with fail
  refine (spec_l01In _ _ _ _).mono ?_
  rintro en w' ⟨rfl, rfl⟩
  rcases h1 : inB e 1 60 with _ | _
  · have HV := Lib.hid (show res = false by rw [HR.out, h1]; simp)
    go_wp2_with fail
    go_ret
    exact ⟨ret_bool HV.out.symm, (by repeat (first | exact Ext.refl _ | assumption | refine Ext.alloc ?_ _ | refine Ext.drewN ?_ _ | refine Ext.drew ?_ | refine Ext.set ?_ (by dsimp only; omega) _ | refine Ext.trans ?_ (by assumption)))⟩
  have Hh1 := Lib.hid h1
  clear h1
  go_wp2_with fail
  refine (spec_l01In _ _ _ _).mono ?_
  rintro en w' ⟨rfl, rfl⟩
  rcases h2 : inB ls 1 60 with _ | _
  · have HV := Lib.hid (show res = false by rw [HR.out, h2]; simp)
    go_wp2_with fail
    go_ret
    exact ⟨ret_bool HV.out.symm, (by repeat (first | exact Ext.refl _ | assumption | refine Ext.alloc ?_ _ | refine Ext.drewN ?_ _ | refine Ext.drew ?_ | refine Ext.set ?_ (by dsimp only; omega) _ | refine Ext.trans ?_ (by assumption)))⟩
  have hl1 : (1 : Int) ≤ ls := (inB_true h2).1
  have hl2 : ls ≤ 60 := (inB_true h2).2
  have Hh2 := Lib.hid h2
  clear h2
  go_wp2_with fail
  refine (spec_l01In _ _ _ _).mono ?_
  rintro en w' ⟨rfl, rfl⟩
  rcases h3 : inB k 1 6 with _ | _
  · have HV := Lib.hid (show res = false by rw [HR.out, h3]; simp)
    go_wp2_with fail
    go_ret
    exact ⟨ret_bool HV.out.symm, (by repeat (first | exact Ext.refl _ | assumption | refine Ext.alloc ?_ _ | refine Ext.drewN ?_ _ | refine Ext.drew ?_ | refine Ext.set ?_ (by dsimp only; omega) _ | refine Ext.trans ?_ (by assumption)))⟩
  have Hh3 := Lib.hid h3
  clear h3
  go_wp2_with fail
  refine (spec_l01In _ _ _ _).mono ?_
  rintro en w' ⟨rfl, rfl⟩
  rcases h4 : inB p 0 (ls - 1) with _ | _
  · have HV := Lib.hid (show res = false by rw [HR.out, h4]; simp)
    go_wp2_with fail
    go_ret
    exact ⟨ret_bool HV.out.symm, (by repeat (first | exact Ext.refl _ | assumption | refine Ext.alloc ?_ _ | refine Ext.drewN ?_ _ | refine Ext.drew ?_ | refine Ext.set ?_ (by dsimp only; omega) _ | refine Ext.trans ?_ (by assumption)))⟩
  have Hh4 := Lib.hid h4
  clear h4
  go_wp2_with fail
  refine (spec_l01In _ _ _ _).mono ?_
  rintro en w' ⟨rfl, rfl⟩
  rcases h5 : inB nx 0 (ls - 1) with _ | _
  · have HV := Lib.hid (show res = false by rw [HR.out, h5]; simp)
    go_wp2_with fail
    go_ret
    exact ⟨ret_bool HV.out.symm, (by repeat (first | exact Ext.refl _ | assumption | refine Ext.alloc ?_ _ | refine Ext.drewN ?_ _ | refine Ext.drew ?_ | refine Ext.set ?_ (by dsimp only; omega) _ | refine Ext.trans ?_ (by assumption)))⟩
  have Hh5 := Lib.hid h5
  clear h5
  go_wp2_with fail
  refine (spec_l01In _ _ _ _).mono ?_
  rintro en w' ⟨rfl, rfl⟩
  rcases h6 : inB pg 0 7 with _ | _
  · have HV := Lib.hid (show res = false by rw [HR.out, h6]; simp)
    go_wp2_with fail
    go_ret
    exact ⟨ret_bool HV.out.symm, (by repeat (first | exact Ext.refl _ | assumption | refine Ext.alloc ?_ _ | refine Ext.drewN ?_ _ | refine Ext.drew ?_ | refine Ext.set ?_ (by dsimp only; omega) _ | refine Ext.trans ?_ (by assumption)))⟩
  have Hh6 := Lib.hid h6
  clear h6
  go_wp2_with fail
  refine (spec_l01In _ _ _ _).mono ?_
  rintro en w' ⟨rfl, rfl⟩
  rcases h7 : inB sl 0 3 with _ | _
  · have HV := Lib.hid (show res = false by rw [HR.out, h7]; simp)
    go_wp2_with fail
    go_ret
    exact ⟨ret_bool HV.out.symm, (by repeat (first | exact Ext.refl _ | assumption | refine Ext.alloc ?_ _ | refine Ext.drewN ?_ _ | refine Ext.drew ?_ | refine Ext.set ?_ (by dsimp only; omega) _ | refine Ext.trans ?_ (by assumption)))⟩
  have H7 := Lib.hid h7
  clear h7
  by_cases hb3 : bf.size ≤ 30
  case neg =>
    have hb3I : (30 : Int) < (bf.size : Int) := by omega
    have HV := Lib.hid (show res = false by rw [HR.out, decide_eq_false hb3]; simp)
    clear hb3
    go_wp2_with fail
    go_ret
    exact ⟨ret_bool HV.out.symm, (by repeat (first | exact Ext.refl _ | assumption | refine Ext.alloc ?_ _ | refine Ext.drewN ?_ _ | refine Ext.drew ?_ | refine Ext.set ?_ (by dsimp only; omega) _ | refine Ext.trans ?_ (by assumption)))⟩
  have hb3I : ¬ (30 : Int) < (bf.size : Int) := by omega
  have HR2 := Lib.hid (show res = if k = 6 then decide (tx = 0) && decide (p = 0) && decide (nx = 0) && decide (pg = 0) && decide (sl = 0) && bf.toList.isEmpty && ckS af.data.toList ls
      else inB tx 1 60 && decide (af.size ≤ 30) &&
        (if k = 2 then decide (nx = 0) else if k = 3 then bf.toList.isEmpty else decide (pg = 0) && decide (sl = 0) && bf.toList.isEmpty && af.toList.isEmpty && decide (nx = 0)) && (decide (k = 1) == decide (p = 0)) by
    rw [HR.out, Hh1.out, Hh2.out, Hh3.out, Hh4.out, Hh5.out, Hh6.out, H7.out, decide_eq_true hb3]; simp)
  clear hb3 HR
  by_cases hk6 : k = 6
  · subst hk6
    have HR3 := Lib.hid (show res = (decide (tx = 0) && decide (p = 0) && decide (nx = 0) && decide (pg = 0) && decide (sl = 0) && bf.toList.isEmpty && ckS af.data.toList ls) by rw [HR2.out, if_pos rfl])
    clear HR2
    go_wp2_with (go_at_call 84; refine (spec_l04CheckOK _ _ _ _ _ _ _ _ _ _ _ ha hl1 hl2).mono ?_; rintro en w' ⟨rfl, E9⟩)
    all_goals
      go_ret
      exact ⟨ret_bool (by rw [HR3.out]; simp_all), (by repeat (first | exact Ext.refl _ | assumption | refine Ext.alloc ?_ _ | refine Ext.drewN ?_ _ | refine Ext.drew ?_ | refine Ext.set ?_ (by dsimp only; omega) _ | refine Ext.trans ?_ (by assumption)))⟩
  have HR3 := Lib.hid (show res = (inB tx 1 60 && decide (af.size ≤ 30) &&
        (if k = 2 then decide (nx = 0) else if k = 3 then bf.toList.isEmpty else decide (pg = 0) && decide (sl = 0) && bf.toList.isEmpty && af.toList.isEmpty && decide (nx = 0)) && (decide (k = 1) == decide (p = 0))) by rw [HR2.out, if_neg hk6])
  clear HR2
  have hk6I : (k == 6) = false := beq_eq_false_iff_ne.2 hk6
  go_wp2_with fail
  refine (spec_l01In _ _ _ _).mono ?_
  rintro en w' ⟨rfl, rfl⟩
  rcases h8 : inB tx 1 60 with _ | _
  · have HV := Lib.hid (show res = false by rw [HR3.out, h8]; simp)
    go_wp2_with fail
    go_ret
    exact ⟨ret_bool HV.out.symm, (by repeat (first | exact Ext.refl _ | assumption | refine Ext.alloc ?_ _ | refine Ext.drewN ?_ _ | refine Ext.drew ?_ | refine Ext.set ?_ (by dsimp only; omega) _ | refine Ext.trans ?_ (by assumption)))⟩
  have H8 := Lib.hid h8
  clear h8
  by_cases ha3 : af.size ≤ 30
  case neg =>
    have ha3I : (30 : Int) < (af.size : Int) := by omega
    have HV := Lib.hid (show res = false by rw [HR3.out, decide_eq_false ha3]; simp)
    clear ha3
    go_wp2_with fail
    go_ret
    exact ⟨ret_bool HV.out.symm, (by repeat (first | exact Ext.refl _ | assumption | refine Ext.alloc ?_ _ | refine Ext.drewN ?_ _ | refine Ext.drew ?_ | refine Ext.set ?_ (by dsimp only; omega) _ | refine Ext.trans ?_ (by assumption)))⟩
  have ha3I : ¬ (30 : Int) < (af.size : Int) := by omega
  have HR4 := Lib.hid (show res = ((if k = 2 then decide (nx = 0) else if k = 3 then bf.toList.isEmpty else decide (pg = 0) && decide (sl = 0) && bf.toList.isEmpty && af.toList.isEmpty && decide (nx = 0)) && (decide (k = 1) == decide (p = 0))) by rw [HR3.out, H8.out, decide_eq_true ha3]; simp)
  clear ha3 HR3
  by_cases hk2 : k = 2
  · subst hk2
    have HR5 := Lib.hid (show res = (decide (nx = 0) && (false == decide (p = 0))) by rw [HR4.out, if_pos rfl]; rfl)
    clear HR4 hk6 hk6I
    go_wp2_with fail
    all_goals
      go_ret
      exact ⟨ret_bool (by rw [HR5.out]; simp_all <;> rfl), (by repeat (first | exact Ext.refl _ | assumption | refine Ext.alloc ?_ _ | refine Ext.drewN ?_ _ | refine Ext.drew ?_ | refine Ext.set ?_ (by dsimp only; omega) _ | refine Ext.trans ?_ (by assumption)))⟩
  by_cases hk3 : k = 3
  · subst hk3
    have HR5 := Lib.hid (show res = (bf.toList.isEmpty && (false == decide (p = 0))) by rw [HR4.out, if_neg (by decide), if_pos rfl]; rfl)
    clear HR4 hk6 hk6I hk2
    go_wp2_with fail
    all_goals
      go_ret
      exact ⟨ret_bool (by rw [HR5.out]; simp_all <;> rfl), (by repeat (first | exact Ext.refl _ | assumption | refine Ext.alloc ?_ _ | refine Ext.drewN ?_ _ | refine Ext.drew ?_ | refine Ext.set ?_ (by dsimp only; omega) _ | refine Ext.trans ?_ (by assumption)))⟩
  have HR5 := Lib.hid (show res = ((decide (pg = 0) && decide (sl = 0) && bf.toList.isEmpty && af.toList.isEmpty && decide (nx = 0)) && (decide (k = 1) == decide (p = 0))) by rw [HR4.out, if_neg hk2, if_neg hk3])
  have hk2I : (k == 2) = false := beq_eq_false_iff_ne.2 hk2
  have hk3I : (k == 3) = false := beq_eq_false_iff_ne.2 hk3
  have hk3J : (k != 3) = true := bne_iff_ne.2 hk3
  clear HR4 hk6 hk2 hk3
  go_wp2_with fail
  all_goals
    go_ret
    exact ⟨ret_bool (by rw [HR5.out]; simp_all <;> rfl), (by repeat (first | exact Ext.refl _ | assumption | refine Ext.alloc ?_ _ | refine Ext.drewN ?_ _ | refine Ext.drew ?_ | refine Ext.set ?_ (by dsimp only; omega) _ | refine Ext.trans ?_ (by assumption)))⟩
end Go.Proofs.Yteaefjicpefgnaa
