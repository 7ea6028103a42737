/- The walk of RecordOK. -/
import Derived.Test.YteaefjicpefgnaaCheck
import Derived.Test.YteaefjicpefgnaaReadHeader
namespace Go.Proofs.Yteaefjicpefgnaa
open Go.RowKit Go.Deep
set_option linter.unusedVariables false
set_option maxRecDepth 100000
/-- which record is right -/
def recB (e ls tx k p nx pg sl : Int) (bf af : ByteArray) : Bool :=
  inB e 1 60 && inB ls 1 60 &&
    if k = 6 then decide (tx = 0) && decide (p = 0) && decide (nx = 0) && decide (pg = 0) && decide (sl = 0) && bf.toList.isEmpty && ckB af.data.toList ls
    else inB tx 1 60 && inB p 0 (ls - 1) && (decide (p = 0) == decide (k = 1)) &&
      if k = 2 then inB pg 0 7 && inB sl 0 3 && decide (bf.size ≤ 30) && decide (af.size ≤ 30) && decide (nx = 0)
      else if k = 3 then inB pg 0 7 && inB sl 0 3 && bf.toList.isEmpty && decide (af.size ≤ 30) && inB nx 0 (ls - 1)
      else inB k 1 5 && decide (nx = 0) && decide (pg = 0) && decide (sl = 0) && bf.toList.isEmpty && af.toList.isEmpty
theorem impl_isPlace (n m : Int) (w : World) (h1 : 0 ≤ m) (h2 : m ≤ 1000) : Calls Try.prog 86 #[.int .i64 n, .int .i64 m] w fun e w' => e = .returned (.bool (inB n 0 (m - 1))) ∧ w = w' := by
  go_enter Try.func86, Try.ntmps86
  go_wp2_with fail
  refine (impl_inRange _ _ _ _).mono ?_
  rintro e w' ⟨rfl, rfl⟩
  go_wp2_with fail
  go_ret
  exact ⟨rfl, rfl⟩
set_option maxHeartbeats 4000000 in
theorem impl_RecordOK (e ls tx k p nx pg sl : Int) (bf af : ByteArray) (w : World) (hb : bf.size ≤ 1099511627776) (ha : af.size ≤ 1099511627776) :
    Calls Try.prog 46 #[.agg #[.int .i64 e, .int .i64 ls, .int .i64 tx, .int .i64 k, .int .i64 p, .int .i64 nx, .int .i64 pg, .int .i64 sl, .string bf, .string af]] w fun en w' => en = .returned (.bool (recB e ls tx k p nx pg sl bf af)) ∧ Ext w w' := by
  go_enter Try.func46, Try.ntmps46
  go_wp2_with fail
  refine (impl_inRange _ _ _ _).mono ?_
  rintro en w' ⟨rfl, rfl⟩
  rcases h1 : inB e 1 60 with _ | _
  · have HV := Lib.hid (show recB e ls tx k p nx pg sl bf af = false by unfold recB; rw [h1]; rfl)
    go_wp2_with fail
    go_ret
    exact ⟨ret_bool HV.out.symm, (by repeat (first | exact Ext.refl _ | assumption | refine Ext.alloc ?_ _ | refine Ext.drewN ?_ _ | refine Ext.drew ?_ | refine Ext.set ?_ (by dsimp only; omega) _ | refine Ext.trans ?_ (by assumption)))⟩
  have H1 := Lib.hid h1
  clear h1
  go_wp2_with fail
  refine (impl_inRange _ _ _ _).mono ?_
  rintro en w' ⟨rfl, rfl⟩
  rcases h2 : inB ls 1 60 with _ | _
  · have HV := Lib.hid (show recB e ls tx k p nx pg sl bf af = false by unfold recB; rw [h2]; simp)
    go_wp2_with fail
    go_ret
    exact ⟨ret_bool HV.out.symm, (by repeat (first | exact Ext.refl _ | assumption | refine Ext.alloc ?_ _ | refine Ext.drewN ?_ _ | refine Ext.drew ?_ | refine Ext.set ?_ (by dsimp only; omega) _ | refine Ext.trans ?_ (by assumption)))⟩
  have h2r := inB_true h2
  have hl1 : (1 : Int) ≤ ls := h2r.1
  have hl2 : ls ≤ 60 := h2r.2
  have H2 := Lib.hid h2
  clear h2 h2r
  by_cases hk6 : k = 6
  · subst hk6
    have HR := Lib.hid (show recB e ls tx 6 p nx pg sl bf af = (decide (tx = 0) && decide (p = 0) && decide (nx = 0) && decide (pg = 0) && decide (sl = 0) && bf.toList.isEmpty && ckB af.data.toList ls) by unfold recB; rw [H1.out, H2.out, if_pos rfl]; rfl)
    by_cases htx : tx = 0
    · subst htx
      by_cases hp : p = 0
      · subst hp
        go_wp2_with (go_at_call 85; refine (impl_isCheck af ls _ ha hl1 hl2).mono ?_; rintro en w' ⟨rfl, E9⟩)
        all_goals
          go_ret
          exact ⟨ret_bool (by rw [HR.out]; simp_all), (by repeat (first | exact Ext.refl _ | assumption | refine Ext.alloc ?_ _ | refine Ext.drewN ?_ _ | refine Ext.drew ?_ | refine Ext.set ?_ (by dsimp only; omega) _ | refine Ext.trans ?_ (by assumption)))⟩
      · go_wp2_with fail
        all_goals
          go_ret
          exact ⟨ret_bool (by rw [HR.out]; simp_all), (by repeat (first | exact Ext.refl _ | assumption | refine Ext.alloc ?_ _ | refine Ext.drewN ?_ _ | refine Ext.drew ?_ | refine Ext.set ?_ (by dsimp only; omega) _ | refine Ext.trans ?_ (by assumption)))⟩
    · go_wp2_with fail
      all_goals
        go_ret
        exact ⟨ret_bool (by rw [HR.out]; simp_all), (by repeat (first | exact Ext.refl _ | assumption | refine Ext.alloc ?_ _ | refine Ext.drewN ?_ _ | refine Ext.drew ?_ | refine Ext.set ?_ (by dsimp only; omega) _ | refine Ext.trans ?_ (by assumption)))⟩
  by_cases hk2 : k = 2
  · subst hk2
    have HR := Lib.hid (show recB e ls tx 2 p nx pg sl bf af = (inB tx 1 60 && inB p 0 (ls - 1) && (decide (p = 0) == false) && (inB pg 0 7 && inB sl 0 3 && decide (bf.size ≤ 30) && decide (af.size ≤ 30) && decide (nx = 0))) by unfold recB; rw [H1.out, H2.out, if_neg (by decide), if_pos rfl]; rfl)
    clear hk6
    go_wp2_with fail
    refine (impl_isPlace _ 8 _ (by omega) (by omega)).mono ?_
    rintro en w' ⟨rfl, rfl⟩
    rcases ha1 : inB pg 0 (8 - 1) with _ | _
    · have HV := Lib.hid (show recB e ls tx 2 p nx pg sl bf af = false by rw [HR.out, show inB pg 0 7 = false from ha1]; simp)
      go_wp2_with fail
      go_ret
      exact ⟨ret_bool HV.out.symm, (by repeat (first | exact Ext.refl _ | assumption | refine Ext.alloc ?_ _ | refine Ext.drewN ?_ _ | refine Ext.drew ?_ | refine Ext.set ?_ (by dsimp only; omega) _ | refine Ext.trans ?_ (by assumption)))⟩
    have Hha1 := Lib.hid ha1
    clear ha1
    go_wp2_with fail
    refine (impl_isPlace _ 4 _ (by omega) (by omega)).mono ?_
    rintro en w' ⟨rfl, rfl⟩
    rcases ha2 : inB sl 0 (4 - 1) with _ | _
    · have HV := Lib.hid (show recB e ls tx 2 p nx pg sl bf af = false by rw [HR.out, show inB sl 0 3 = false from ha2]; simp)
      go_wp2_with fail
      go_ret
      exact ⟨ret_bool HV.out.symm, (by repeat (first | exact Ext.refl _ | assumption | refine Ext.alloc ?_ _ | refine Ext.drewN ?_ _ | refine Ext.drew ?_ | refine Ext.set ?_ (by dsimp only; omega) _ | refine Ext.trans ?_ (by assumption)))⟩
    have Hha2 := Lib.hid ha2
    clear ha2
    skip
    by_cases hb3 : bf.size ≤ 30
    · have hb3I : ¬ (30 : Int) < (bf.size : Int) := by omega
      by_cases ha3 : af.size ≤ 30
      · have ha3I : ¬ (30 : Int) < (af.size : Int) := by omega
        by_cases hz : nx = 0
        · subst hz
          have HR2 := Lib.hid (show recB e ls tx 2 p 0 pg sl bf af = (inB tx 1 60 && inB p 0 (ls - 1) && (decide (p = 0) == false)) by rw [HR.out, show inB pg 0 7 = true from Hha1.out, show inB sl 0 3 = true from Hha2.out, decide_eq_true hb3, decide_eq_true ha3]; simp)
          clear hb3 ha3
          have Hi := Lib.hid (show inB 2 1 5 = true from rfl)
          go_wp2_with fail
          refine (impl_inRange _ _ _ _).mono ?_
          rintro en w' ⟨rfl, rfl⟩
          rw [Hi.out]
          go_wp2_with fail
          refine (impl_inRange _ _ _ _).mono ?_
          rintro en w' ⟨rfl, rfl⟩
          rcases h5 : inB tx 1 60 with _ | _
          · have HV := Lib.hid (show recB e ls tx 2 p 0 pg sl bf af = false by rw [HR2.out, h5]; simp)
            go_wp2_with fail
            go_ret
            exact ⟨ret_bool HV.out.symm, (by repeat (first | exact Ext.refl _ | assumption | refine Ext.alloc ?_ _ | refine Ext.drewN ?_ _ | refine Ext.drew ?_ | refine Ext.set ?_ (by dsimp only; omega) _ | refine Ext.trans ?_ (by assumption)))⟩
          have H5 := Lib.hid h5
          clear h5
          go_wp2_with fail
          refine (impl_inRange _ _ _ _).mono ?_
          rintro en w' ⟨rfl, rfl⟩
          rcases h6 : inB p 0 (ls - 1) with _ | _
          · have HV := Lib.hid (show recB e ls tx 2 p 0 pg sl bf af = false by rw [HR2.out, h6]; simp)
            go_wp2_with fail
            go_ret
            exact ⟨ret_bool HV.out.symm, (by repeat (first | exact Ext.refl _ | assumption | refine Ext.alloc ?_ _ | refine Ext.drewN ?_ _ | refine Ext.drew ?_ | refine Ext.set ?_ (by dsimp only; omega) _ | refine Ext.trans ?_ (by assumption)))⟩
          have H6 := Lib.hid h6
          clear h6
          go_wp2_with fail
          go_ret
          refine ⟨ret_bool ?_, (by repeat (first | exact Ext.refl _ | assumption | refine Ext.alloc ?_ _ | refine Ext.drewN ?_ _ | refine Ext.drew ?_ | refine Ext.set ?_ (by dsimp only; omega) _ | refine Ext.trans ?_ (by assumption)))⟩
          rw [HR2.out, H5.out, H6.out]
          simp
          rfl
        · have HV := Lib.hid (show recB e ls tx 2 p nx pg sl bf af = false by rw [HR.out, decide_eq_false hz]; simp)
          have Hi := Lib.hid (show inB 2 1 5 = true from rfl)
          have hzI : (nx == 0) = false := beq_eq_false_iff_ne.2 hz
          clear hb3 ha3
          go_wp2_with fail
          refine (impl_inRange _ _ _ _).mono ?_
          rintro en w' ⟨rfl, rfl⟩
          rw [Hi.out]
          go_wp2_with fail
          all_goals
            go_ret
            exact ⟨ret_bool HV.out.symm, (by repeat (first | exact Ext.refl _ | assumption | refine Ext.alloc ?_ _ | refine Ext.drewN ?_ _ | refine Ext.drew ?_ | refine Ext.set ?_ (by dsimp only; omega) _ | refine Ext.trans ?_ (by assumption)))⟩
      · have ha3I : (30 : Int) < (af.size : Int) := by omega
        have HV := Lib.hid (show recB e ls tx 2 p nx pg sl bf af = false by rw [HR.out, decide_eq_false ha3]; simp)
        clear hb3 ha3
        go_wp2_with fail
        go_ret
        exact ⟨ret_bool HV.out.symm, (by repeat (first | exact Ext.refl _ | assumption | refine Ext.alloc ?_ _ | refine Ext.drewN ?_ _ | refine Ext.drew ?_ | refine Ext.set ?_ (by dsimp only; omega) _ | refine Ext.trans ?_ (by assumption)))⟩
    · have hb3I : (30 : Int) < (bf.size : Int) := by omega
      have HV := Lib.hid (show recB e ls tx 2 p nx pg sl bf af = false by rw [HR.out]; simp [show ¬ bf.size ≤ 30 by omega])
      clear hb3
      go_wp2_with fail
      go_ret
      exact ⟨ret_bool HV.out.symm, (by repeat (first | exact Ext.refl _ | assumption | refine Ext.alloc ?_ _ | refine Ext.drewN ?_ _ | refine Ext.drew ?_ | refine Ext.set ?_ (by dsimp only; omega) _ | refine Ext.trans ?_ (by assumption)))⟩
  by_cases hk3 : k = 3
  · subst hk3
    have HR := Lib.hid (show recB e ls tx 3 p nx pg sl bf af = (inB tx 1 60 && inB p 0 (ls - 1) && (decide (p = 0) == false) && (inB pg 0 7 && inB sl 0 3 && bf.toList.isEmpty && decide (af.size ≤ 30) && inB nx 0 (ls - 1))) by unfold recB; rw [H1.out, H2.out, if_neg (by decide), if_neg (by decide), if_pos rfl]; rfl)
    clear hk6
    go_wp2_with fail
    refine (impl_isPlace _ 8 _ (by omega) (by omega)).mono ?_
    rintro en w' ⟨rfl, rfl⟩
    rcases ha1 : inB pg 0 (8 - 1) with _ | _
    · have HV := Lib.hid (show recB e ls tx 3 p nx pg sl bf af = false by rw [HR.out, show inB pg 0 7 = false from ha1]; simp)
      go_wp2_with fail
      go_ret
      exact ⟨ret_bool HV.out.symm, (by repeat (first | exact Ext.refl _ | assumption | refine Ext.alloc ?_ _ | refine Ext.drewN ?_ _ | refine Ext.drew ?_ | refine Ext.set ?_ (by dsimp only; omega) _ | refine Ext.trans ?_ (by assumption)))⟩
    have Hha1 := Lib.hid ha1
    clear ha1
    go_wp2_with fail
    refine (impl_isPlace _ 4 _ (by omega) (by omega)).mono ?_
    rintro en w' ⟨rfl, rfl⟩
    rcases ha2 : inB sl 0 (4 - 1) with _ | _
    · have HV := Lib.hid (show recB e ls tx 3 p nx pg sl bf af = false by rw [HR.out, show inB sl 0 3 = false from ha2]; simp)
      go_wp2_with fail
      go_ret
      exact ⟨ret_bool HV.out.symm, (by repeat (first | exact Ext.refl _ | assumption | refine Ext.alloc ?_ _ | refine Ext.drewN ?_ _ | refine Ext.drew ?_ | refine Ext.set ?_ (by dsimp only; omega) _ | refine Ext.trans ?_ (by assumption)))⟩
    have Hha2 := Lib.hid ha2
    clear ha2
    skip
    by_cases hb3 : bf.size ≤ 30
    · have hb3I : ¬ (30 : Int) < (bf.size : Int) := by omega
      by_cases ha3 : af.size ≤ 30
      · have ha3I : ¬ (30 : Int) < (af.size : Int) := by omega
        go_wp2_with fail
        refine (impl_inRange _ _ _ _).mono ?_
        rintro en w' ⟨rfl, rfl⟩
        rcases hn3 : inB nx 0 (ls - 1) with _ | _
        · have HV := Lib.hid (show recB e ls tx 3 p nx pg sl bf af = false by rw [HR.out, hn3]; simp)
          go_wp2_with fail
          go_ret
          exact ⟨ret_bool HV.out.symm, (by repeat (first | exact Ext.refl _ | assumption | refine Ext.alloc ?_ _ | refine Ext.drewN ?_ _ | refine Ext.drew ?_ | refine Ext.set ?_ (by dsimp only; omega) _ | refine Ext.trans ?_ (by assumption)))⟩
        have Hhn3 := Lib.hid hn3
        clear hn3
        skip
        by_cases hz : bf.size = 0
        · have hz2 := str_nil hz
          have HR2 := Lib.hid (show recB e ls tx 3 p nx pg sl bf af = (inB tx 1 60 && inB p 0 (ls - 1) && (decide (p = 0) == false)) by rw [HR.out, show inB pg 0 7 = true from Hha1.out, show inB sl 0 3 = true from Hha2.out, hz2, decide_eq_true ha3, Hhn3.out]; simp)
          clear hb3 ha3 hz
          have Hi := Lib.hid (show inB 3 1 5 = true from rfl)
          go_wp2_with fail
          refine (impl_inRange _ _ _ _).mono ?_
          rintro en w' ⟨rfl, rfl⟩
          rw [Hi.out]
          go_wp2_with fail
          refine (impl_inRange _ _ _ _).mono ?_
          rintro en w' ⟨rfl, rfl⟩
          rcases h5 : inB tx 1 60 with _ | _
          · have HV := Lib.hid (show recB e ls tx 3 p nx pg sl bf af = false by rw [HR2.out, h5]; simp)
            go_wp2_with fail
            go_ret
            exact ⟨ret_bool HV.out.symm, (by repeat (first | exact Ext.refl _ | assumption | refine Ext.alloc ?_ _ | refine Ext.drewN ?_ _ | refine Ext.drew ?_ | refine Ext.set ?_ (by dsimp only; omega) _ | refine Ext.trans ?_ (by assumption)))⟩
          have H5 := Lib.hid h5
          clear h5
          go_wp2_with fail
          refine (impl_inRange _ _ _ _).mono ?_
          rintro en w' ⟨rfl, rfl⟩
          rcases h6 : inB p 0 (ls - 1) with _ | _
          · have HV := Lib.hid (show recB e ls tx 3 p nx pg sl bf af = false by rw [HR2.out, h6]; simp)
            go_wp2_with fail
            go_ret
            exact ⟨ret_bool HV.out.symm, (by repeat (first | exact Ext.refl _ | assumption | refine Ext.alloc ?_ _ | refine Ext.drewN ?_ _ | refine Ext.drew ?_ | refine Ext.set ?_ (by dsimp only; omega) _ | refine Ext.trans ?_ (by assumption)))⟩
          have H6 := Lib.hid h6
          clear h6
          go_wp2_with fail
          go_ret
          refine ⟨ret_bool ?_, (by repeat (first | exact Ext.refl _ | assumption | refine Ext.alloc ?_ _ | refine Ext.drewN ?_ _ | refine Ext.drew ?_ | refine Ext.set ?_ (by dsimp only; omega) _ | refine Ext.trans ?_ (by assumption)))⟩
          rw [HR2.out, H5.out, H6.out]
          simp
          rfl
        · have hz2 := str_some hz
          have HV := Lib.hid (show recB e ls tx 3 p nx pg sl bf af = false by rw [HR.out, hz2]; simp)
          have Hi := Lib.hid (show inB 3 1 5 = true from rfl)
          have hz3 : ¬ bf.toList = [] := fun h => by rw [h] at hz2; cases hz2
          clear hb3 ha3 hz
          go_wp2_with fail
          refine (impl_inRange _ _ _ _).mono ?_
          rintro en w' ⟨rfl, rfl⟩
          rw [Hi.out]
          go_wp2_with fail
          all_goals
            go_ret
            exact ⟨ret_bool HV.out.symm, (by repeat (first | exact Ext.refl _ | assumption | refine Ext.alloc ?_ _ | refine Ext.drewN ?_ _ | refine Ext.drew ?_ | refine Ext.set ?_ (by dsimp only; omega) _ | refine Ext.trans ?_ (by assumption)))⟩
      · have ha3I : (30 : Int) < (af.size : Int) := by omega
        have HV := Lib.hid (show recB e ls tx 3 p nx pg sl bf af = false by rw [HR.out, decide_eq_false ha3]; simp)
        clear hb3 ha3
        go_wp2_with fail
        go_ret
        exact ⟨ret_bool HV.out.symm, (by repeat (first | exact Ext.refl _ | assumption | refine Ext.alloc ?_ _ | refine Ext.drewN ?_ _ | refine Ext.drew ?_ | refine Ext.set ?_ (by dsimp only; omega) _ | refine Ext.trans ?_ (by assumption)))⟩
    · have hb3I : (30 : Int) < (bf.size : Int) := by omega
      have HV := Lib.hid (show recB e ls tx 3 p nx pg sl bf af = false by rw [HR.out]; rw [str_some (show bf.size ≠ 0 by omega)]; simp)
      clear hb3
      go_wp2_with fail
      go_ret
      exact ⟨ret_bool HV.out.symm, (by repeat (first | exact Ext.refl _ | assumption | refine Ext.alloc ?_ _ | refine Ext.drewN ?_ _ | refine Ext.drew ?_ | refine Ext.set ?_ (by dsimp only; omega) _ | refine Ext.trans ?_ (by assumption)))⟩
  have HR := Lib.hid (show recB e ls tx k p nx pg sl bf af = (inB tx 1 60 && inB p 0 (ls - 1) && (decide (p = 0) == decide (k = 1)) && (inB k 1 5 && decide (nx = 0) && decide (pg = 0) && decide (sl = 0) && bf.toList.isEmpty && af.toList.isEmpty)) by unfold recB; rw [H1.out, H2.out, if_neg hk6, if_neg hk2, if_neg hk3]; rfl)
  go_wp2_with fail
  refine (impl_inRange _ _ _ _).mono ?_
  rintro en w' ⟨rfl, rfl⟩
  rcases h4 : inB k 1 5 with _ | _
  · have HV := Lib.hid (show recB e ls tx k p nx pg sl bf af = false by rw [HR.out, h4]; simp)
    go_wp2_with fail
    go_ret
    exact ⟨ret_bool HV.out.symm, (by repeat (first | exact Ext.refl _ | assumption | refine Ext.alloc ?_ _ | refine Ext.drewN ?_ _ | refine Ext.drew ?_ | refine Ext.set ?_ (by dsimp only; omega) _ | refine Ext.trans ?_ (by assumption)))⟩
  have H4 := Lib.hid h4
  clear h4
  by_cases hz : nx = 0 ∧ pg = 0 ∧ sl = 0 ∧ bf.toList = [] ∧ af.toList = []
  · obtain ⟨rfl, rfl, rfl, hbf, haf⟩ := hz
    have HR2 := Lib.hid (show recB e ls tx k p 0 0 0 bf af = (inB tx 1 60 && inB p 0 (ls - 1) && (decide (p = 0) == decide (k = 1))) by rw [HR.out, H4.out, hbf, haf]; simp)
    go_wp2_with fail
    refine (impl_inRange _ _ _ _).mono ?_
    rintro en w' ⟨rfl, rfl⟩
    rcases h5 : inB tx 1 60 with _ | _
    · have HV := Lib.hid (show recB e ls tx k p 0 0 0 bf af = false by rw [HR2.out, h5]; simp)
      go_wp2_with fail
      go_ret
      exact ⟨ret_bool HV.out.symm, (by repeat (first | exact Ext.refl _ | assumption | refine Ext.alloc ?_ _ | refine Ext.drewN ?_ _ | refine Ext.drew ?_ | refine Ext.set ?_ (by dsimp only; omega) _ | refine Ext.trans ?_ (by assumption)))⟩
    have H5 := Lib.hid h5
    clear h5
    go_wp2_with fail
    refine (impl_inRange _ _ _ _).mono ?_
    rintro en w' ⟨rfl, rfl⟩
    rcases h6 : inB p 0 (ls - 1) with _ | _
    · have HV := Lib.hid (show recB e ls tx k p 0 0 0 bf af = false by rw [HR2.out, h6]; simp)
      go_wp2_with fail
      go_ret
      exact ⟨ret_bool HV.out.symm, (by repeat (first | exact Ext.refl _ | assumption | refine Ext.alloc ?_ _ | refine Ext.drewN ?_ _ | refine Ext.drew ?_ | refine Ext.set ?_ (by dsimp only; omega) _ | refine Ext.trans ?_ (by assumption)))⟩
    have H6 := Lib.hid h6
    clear h6
    go_wp2_with fail
    go_ret
    refine ⟨ret_bool ?_, (by repeat (first | exact Ext.refl _ | assumption | refine Ext.alloc ?_ _ | refine Ext.drewN ?_ _ | refine Ext.drew ?_ | refine Ext.set ?_ (by dsimp only; omega) _ | refine Ext.trans ?_ (by assumption)))⟩
    rw [HR2.out, H5.out, H6.out]
    simp
    rfl
  · have HZ := Lib.hid hz
    have HV := Lib.hid (show recB e ls tx k p nx pg sl bf af = false by
      rw [HR.out]
      have hx : (decide (nx = 0) && decide (pg = 0) && decide (sl = 0) && bf.toList.isEmpty && af.toList.isEmpty) = false := by
        rw [Bool.eq_false_iff]; intro h
        simp only [Bool.and_eq_true, decide_eq_true_eq, List.isEmpty_iff] at h
        exact hz ⟨h.1.1.1.1, h.1.1.1.2, h.1.1.2, h.1.2, h.2⟩
      have : (inB k 1 5 && decide (nx = 0) && decide (pg = 0) && decide (sl = 0) && bf.toList.isEmpty && af.toList.isEmpty) = (inB k 1 5 && (decide (nx = 0) && decide (pg = 0) && decide (sl = 0) && bf.toList.isEmpty && af.toList.isEmpty)) := by simp [Bool.and_assoc]
      rw [this, hx]; simp)
    clear hz
    go_wp2_with fail
    all_goals
      first
        | (exfalso; apply HZ.out; refine ⟨?_, ?_, ?_, ?_, ?_⟩ <;> assumption)
        | (go_ret; exact ⟨ret_bool HV.out.symm, (by repeat (first | exact Ext.refl _ | assumption | refine Ext.alloc ?_ _ | refine Ext.drewN ?_ _ | refine Ext.drew ?_ | refine Ext.set ?_ (by dsimp only; omega) _ | refine Ext.trans ?_ (by assumption)))⟩)
end Go.Proofs.Yteaefjicpefgnaa
