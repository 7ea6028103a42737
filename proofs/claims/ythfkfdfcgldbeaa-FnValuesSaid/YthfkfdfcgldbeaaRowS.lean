/- The walks over rows (printed by gen_rows.py). -/
import Derived.Test.YthfkfdfcgldbeaaKeys
import Derived.Test.YthfkfdfcgldbeaaInRange
import Derived.Test.YthfkfdfcgldbeaaRgX
namespace Go.Proofs.Ythfkfdfcgldbeaa
open Go.RowKit Go.Deep
set_option linter.unusedVariables false
set_option maxRecDepth 100000
structure CRow where
  id : Int
  p : CValue
  q : CValue
theorem Blk.cells7 {w : World} {b : Nat} {t : TypeId} {a0 a1 a2 a3 a4 a5 a6 : Value} (h : Blk w b t [a0, a1, a2, a3, a4, a5, a6]) :
    w.cell? ⟨b, 0, none⟩ = some a0 ∧ w.cell? ⟨b, 1, none⟩ = some a1 ∧ w.cell? ⟨b, 2, none⟩ = some a2 ∧ w.cell? ⟨b, 3, none⟩ = some a3 ∧ w.cell? ⟨b, 4, none⟩ = some a4 ∧ w.cell? ⟨b, 5, none⟩ = some a5 ∧ w.cell? ⟨b, 6, none⟩ = some a6 :=
  ⟨h.cell (i := 0) (by simp), h.cell (i := 1) (by simp), h.cell (i := 2) (by simp), h.cell (i := 3) (by simp), h.cell (i := 4) (by simp), h.cell (i := 5) (by simp), h.cell (i := 6) (by simp)⟩
/-- which row is right -/
def rowB (r : CRow) : Bool := inB r.id 0 1000 && okV r.p && !(r.p.a == 2) && okV r.q && !(r.q.a == 1)
theorem impl_isId (n : Int) (w : World) : Calls Try.prog 111 #[.int .i64 n] w fun e w' => e = .returned (.bool (inB n 0 1000)) ∧ w = w' := by
  have HI := Lib.hid (fun W => impl_inRange n 0 1000 W)
  go_enter Try.func111, Try.ntmps111
  go_wp2_with fail
  refine (HI.out _).mono ?_
  rintro e w' ⟨rfl, rfl⟩
  go_wp2_with fail
  go_ret
  exact ⟨rfl, rfl⟩
theorem impl_isTable (n : Int) (w : World) : Calls Try.prog 67 #[.int .i64 n] w fun e w' => e = .returned (.bool (inB n 1 3)) ∧ w = w' := by
  have HI := Lib.hid (fun W => impl_inRange n 1 3 W)
  go_enter Try.func67, Try.ntmps67
  go_wp2_with fail
  refine (HI.out _).mono ?_
  rintro e w' ⟨rfl, rfl⟩
  go_wp2_with fail
  go_ret
  exact ⟨rfl, rfl⟩
theorem impl_numberValue (n : Int) (w : World) : Calls Try.prog 113 #[.int .i64 n] w fun e w' => e = .returned (.agg #[.int .i64 1, .int .i64 n, .string ByteArray.empty]) ∧ Ext w w' := by
  go_enter Try.func113, Try.ntmps113
  go_wp2_with fail
  refine bodyPost_ret (v := .agg #[.int .i64 1, .int .i64 n, .string ByteArray.empty]) (by simp [results, Try.results113, go_sem]; try rfl) rfl ⟨rfl, (by repeat (first | exact Ext.refl _ | assumption | refine Ext.alloc ?_ _ | refine Ext.drewN ?_ _ | refine Ext.drew ?_ | refine Ext.set ?_ (by dsimp only; omega) _ | refine Ext.trans ?_ (by assumption)))⟩
set_option maxHeartbeats 2000000 in
theorem impl_rowOK (r : CRow) (w : World) (hp : r.p.c.size ≤ maxLen) (hq : r.q.c.size ≤ maxLen) : Calls Try.prog 66 #[.agg #[.int .i64 r.id, .int .i64 r.p.a, .int .i64 r.p.b, .string r.p.c, .int .i64 r.q.a, .int .i64 r.q.b, .string r.q.c]] w fun e w' => e = .returned (.bool (rowB r)) ∧ Ext w w' := by
  have hF : rowB r = (inB r.id 0 1000 && okV r.p && !(r.p.a == 2) && okV r.q && !(r.q.a == 1)) := rfl
  have HId := Lib.hid (fun W => impl_isId r.id W)
  have HP := Lib.hid (show ∀ W, Calls Try.prog 41 #[.agg #[.int .i64 r.p.a, .int .i64 r.p.b, .string r.p.c]] W fun e w' => e = .returned (.bool (okV r.p)) ∧ Ext W w' from fun W => impl_ValueOK r.p.a r.p.b r.p.c W hp)
  have HQ := Lib.hid (show ∀ W, Calls Try.prog 41 #[.agg #[.int .i64 r.q.a, .int .i64 r.q.b, .string r.q.c]] W fun e w' => e = .returned (.bool (okV r.q)) ∧ Ext W w' from fun W => impl_ValueOK r.q.a r.q.b r.q.c W hq)
  have HX := Lib.hid (Blk.new w 32 [.int .i64 r.id, .int .i64 r.p.a, .int .i64 r.p.b, .string r.p.c, .int .i64 r.q.a, .int .i64 r.q.b, .string r.q.c])
  have E0 : Ext w (w.alloc (.cells #[.int .i64 r.id, .int .i64 r.p.a, .int .i64 r.p.b, .string r.p.c, .int .i64 r.q.a, .int .i64 r.q.b, .string r.q.c] 32)) := (by repeat (first | exact Ext.refl _ | assumption | refine Ext.alloc ?_ _ | refine Ext.drewN ?_ _ | refine Ext.drew ?_ | refine Ext.set ?_ (by dsimp only; omega) _ | refine Ext.trans ?_ (by assumption)))
  have HE0 := Lib.hid E0
  clear E0
  generalize rowB r = res at hF ⊢
  generalize inB r.id 0 1000 = t_id at hF HId
  generalize okV r.p = t_p at hF HP
  generalize okV r.q = t_q at hF HQ
  rcases t_id with _ | _
  · have HV := Lib.hid (show res = false by rw [hF]; simp)
    clear hF
    go_enter Try.func66, Try.ntmps66
    go_wp2_with fail
    refine (HId.out _).mono ?_
    rintro e w' ⟨rfl, rfl⟩
    go_wp2_with fail
    go_ret
    exact ⟨ret_bool HV.out.symm, HE0.out⟩
  rcases t_p with _ | _
  · have HV := Lib.hid (show res = false by rw [hF]; simp)
    clear hF
    go_enter Try.func66, Try.ntmps66
    go_wp2_with fail
    refine (HId.out _).mono ?_
    rintro e w' ⟨rfl, rfl⟩
    go_wp2_with fail
    refine (HP.out _).mono ?_
    rintro e w1 ⟨rfl, E1⟩
    have HE1 := Lib.hid (HE0.out.trans E1)
    have HX1 := Lib.hid (HX.out.ext E1)
    clear E1
    obtain ⟨z1_0, z1_1, z1_2, z1_3, z1_4, z1_5, z1_6⟩ := HX1.out.cells7
    go_wp2_with fail
    go_ret
    exact ⟨ret_bool HV.out.symm, HE1.out⟩
  rcases g_pt : (r.p.a == 2) with _ | _
  rotate_left
  · have d_pt : (r.p.a != 2) = false := by unfold bne; rw [g_pt]; rfl
    have HV := Lib.hid (show res = false by rw [hF, g_pt]; simp)
    clear hF
    go_enter Try.func66, Try.ntmps66
    go_wp2_with fail
    refine (HId.out _).mono ?_
    rintro e w' ⟨rfl, rfl⟩
    go_wp2_with fail
    refine (HP.out _).mono ?_
    rintro e w1 ⟨rfl, E1⟩
    have HE1 := Lib.hid (HE0.out.trans E1)
    have HX1 := Lib.hid (HX.out.ext E1)
    clear E1
    obtain ⟨z1_0, z1_1, z1_2, z1_3, z1_4, z1_5, z1_6⟩ := HX1.out.cells7
    go_wp2_with fail
    go_ret
    exact ⟨ret_bool HV.out.symm, HE1.out⟩
  have d_pt : (r.p.a != 2) = true := by unfold bne; rw [g_pt]; rfl
  rcases t_q with _ | _
  · have HV := Lib.hid (show res = false by rw [hF, g_pt]; simp)
    clear hF
    go_enter Try.func66, Try.ntmps66
    go_wp2_with fail
    refine (HId.out _).mono ?_
    rintro e w' ⟨rfl, rfl⟩
    go_wp2_with fail
    refine (HP.out _).mono ?_
    rintro e w1 ⟨rfl, E1⟩
    have HE1 := Lib.hid (HE0.out.trans E1)
    have HX1 := Lib.hid (HX.out.ext E1)
    clear E1
    obtain ⟨z1_0, z1_1, z1_2, z1_3, z1_4, z1_5, z1_6⟩ := HX1.out.cells7
    go_wp2_with fail
    refine (HQ.out _).mono ?_
    rintro e w2 ⟨rfl, E2⟩
    have HE2 := Lib.hid (HE1.out.trans E2)
    have HX2 := Lib.hid (HX1.out.ext E2)
    clear E2
    obtain ⟨z2_0, z2_1, z2_2, z2_3, z2_4, z2_5, z2_6⟩ := HX2.out.cells7
    go_wp2_with fail
    go_ret
    exact ⟨ret_bool HV.out.symm, HE2.out⟩
  rcases g_qt : (r.q.a == 1) with _ | _
  rotate_left
  · have d_qt : (r.q.a != 1) = false := by unfold bne; rw [g_qt]; rfl
    have HV := Lib.hid (show res = false by rw [hF, g_pt, g_qt]; simp)
    clear hF
    go_enter Try.func66, Try.ntmps66
    go_wp2_with fail
    refine (HId.out _).mono ?_
    rintro e w' ⟨rfl, rfl⟩
    go_wp2_with fail
    refine (HP.out _).mono ?_
    rintro e w1 ⟨rfl, E1⟩
    have HE1 := Lib.hid (HE0.out.trans E1)
    have HX1 := Lib.hid (HX.out.ext E1)
    clear E1
    obtain ⟨z1_0, z1_1, z1_2, z1_3, z1_4, z1_5, z1_6⟩ := HX1.out.cells7
    go_wp2_with fail
    refine (HQ.out _).mono ?_
    rintro e w2 ⟨rfl, E2⟩
    have HE2 := Lib.hid (HE1.out.trans E2)
    have HX2 := Lib.hid (HX1.out.ext E2)
    clear E2
    obtain ⟨z2_0, z2_1, z2_2, z2_3, z2_4, z2_5, z2_6⟩ := HX2.out.cells7
    go_wp2_with fail
    go_ret
    exact ⟨ret_bool HV.out.symm, HE2.out⟩
  have d_qt : (r.q.a != 1) = true := by unfold bne; rw [g_qt]; rfl
  have HV := Lib.hid (show res = true by rw [hF, g_pt, g_qt]; rfl)
  clear hF
  go_enter Try.func66, Try.ntmps66
  go_wp2_with fail
  refine (HId.out _).mono ?_
  rintro e w' ⟨rfl, rfl⟩
  go_wp2_with fail
  refine (HP.out _).mono ?_
  rintro e w1 ⟨rfl, E1⟩
  have HE1 := Lib.hid (HE0.out.trans E1)
  have HX1 := Lib.hid (HX.out.ext E1)
  clear E1
  obtain ⟨z1_0, z1_1, z1_2, z1_3, z1_4, z1_5, z1_6⟩ := HX1.out.cells7
  go_wp2_with fail
  refine (HQ.out _).mono ?_
  rintro e w2 ⟨rfl, E2⟩
  have HE2 := Lib.hid (HE1.out.trans E2)
  have HX2 := Lib.hid (HX1.out.ext E2)
  clear E2
  obtain ⟨z2_0, z2_1, z2_2, z2_3, z2_4, z2_5, z2_6⟩ := HX2.out.cells7
  go_wp2_with fail
  go_ret
  exact ⟨ret_bool HV.out.symm, HE2.out⟩
set_option maxHeartbeats 2000000 in
theorem spec_l07Row (r : CRow) (w : World) (hp : r.p.c.size ≤ maxLen) (hq : r.q.c.size ≤ maxLen) : Calls Try.prog 63 #[.agg #[.int .i64 r.id, .int .i64 r.p.a, .int .i64 r.p.b, .string r.p.c, .int .i64 r.q.a, .int .i64 r.q.b, .string r.q.c]] w fun e w' => e = .returned (.bool (rowB r)) ∧ Ext w w' := by
  have hF : rowB r = (inB r.id 0 1000 && okV r.p && !(r.p.a == 2) && okV r.q && !(r.q.a == 1)) := rfl
  have HId := Lib.hid (fun W => spec_l01In r.id 0 1000 W)
  have HP := Lib.hid (show ∀ W, Calls Try.prog 79 #[.agg #[.int .i64 r.p.a, .int .i64 r.p.b, .string r.p.c]] W fun e w' => e = .returned (.bool (okV r.p)) ∧ Ext W w' from fun W => spec_ValueOK r.p.a r.p.b r.p.c W hp)
  have HQ := Lib.hid (show ∀ W, Calls Try.prog 79 #[.agg #[.int .i64 r.q.a, .int .i64 r.q.b, .string r.q.c]] W fun e w' => e = .returned (.bool (okV r.q)) ∧ Ext W w' from fun W => spec_ValueOK r.q.a r.q.b r.q.c W hq)
  have HX := Lib.hid (Blk.new w 32 [.int .i64 r.id, .int .i64 r.p.a, .int .i64 r.p.b, .string r.p.c, .int .i64 r.q.a, .int .i64 r.q.b, .string r.q.c])
  have E0 : Ext w (w.alloc (.cells #[.int .i64 r.id, .int .i64 r.p.a, .int .i64 r.p.b, .string r.p.c, .int .i64 r.q.a, .int .i64 r.q.b, .string r.q.c] 32)) := (by repeat (first | exact Ext.refl _ | assumption | refine Ext.alloc ?_ _ | refine Ext.drewN ?_ _ | refine Ext.drew ?_ | refine Ext.set ?_ (by dsimp only; omega) _ | refine Ext.trans ?_ (by assumption)))
  have HE0 := Lib.hid E0
  clear E0
  generalize rowB r = res at hF ⊢
  generalize inB r.id 0 1000 = t_id at hF HId
  generalize okV r.p = t_p at hF HP
  generalize okV r.q = t_q at hF HQ
  rcases t_id with _ | _
  · have HV := Lib.hid (show res = false by rw [hF]; simp)
    clear hF
    go_enter Try.func63, Try.ntmps63
    go_wp2_with fail
    refine (HId.out _).mono ?_
    rintro e w' ⟨rfl, rfl⟩
    go_wp2_with fail
    go_ret
    exact ⟨ret_bool HV.out.symm, HE0.out⟩
  rcases t_p with _ | _
  · have HV := Lib.hid (show res = false by rw [hF]; simp)
    clear hF
    go_enter Try.func63, Try.ntmps63
    go_wp2_with fail
    refine (HId.out _).mono ?_
    rintro e w' ⟨rfl, rfl⟩
    go_wp2_with fail
    refine (HP.out _).mono ?_
    rintro e w1 ⟨rfl, E1⟩
    have HE1 := Lib.hid (HE0.out.trans E1)
    have HX1 := Lib.hid (HX.out.ext E1)
    clear E1
    obtain ⟨z1_0, z1_1, z1_2, z1_3, z1_4, z1_5, z1_6⟩ := HX1.out.cells7
    go_wp2_with fail
    go_ret
    exact ⟨ret_bool HV.out.symm, HE1.out⟩
  rcases t_q with _ | _
  · have HV := Lib.hid (show res = false by rw [hF]; simp)
    clear hF
    go_enter Try.func63, Try.ntmps63
    go_wp2_with fail
    refine (HId.out _).mono ?_
    rintro e w' ⟨rfl, rfl⟩
    go_wp2_with fail
    refine (HP.out _).mono ?_
    rintro e w1 ⟨rfl, E1⟩
    have HE1 := Lib.hid (HE0.out.trans E1)
    have HX1 := Lib.hid (HX.out.ext E1)
    clear E1
    obtain ⟨z1_0, z1_1, z1_2, z1_3, z1_4, z1_5, z1_6⟩ := HX1.out.cells7
    go_wp2_with fail
    refine (HQ.out _).mono ?_
    rintro e w2 ⟨rfl, E2⟩
    have HE2 := Lib.hid (HE1.out.trans E2)
    have HX2 := Lib.hid (HX1.out.ext E2)
    clear E2
    obtain ⟨z2_0, z2_1, z2_2, z2_3, z2_4, z2_5, z2_6⟩ := HX2.out.cells7
    go_wp2_with fail
    go_ret
    exact ⟨ret_bool HV.out.symm, HE2.out⟩
  rcases g_pt : (r.p.a == 2) with _ | _
  rotate_left
  · have d_pt : (r.p.a != 2) = false := by unfold bne; rw [g_pt]; rfl
    have HV := Lib.hid (show res = false by rw [hF, g_pt]; simp)
    clear hF
    go_enter Try.func63, Try.ntmps63
    go_wp2_with fail
    refine (HId.out _).mono ?_
    rintro e w' ⟨rfl, rfl⟩
    go_wp2_with fail
    refine (HP.out _).mono ?_
    rintro e w1 ⟨rfl, E1⟩
    have HE1 := Lib.hid (HE0.out.trans E1)
    have HX1 := Lib.hid (HX.out.ext E1)
    clear E1
    obtain ⟨z1_0, z1_1, z1_2, z1_3, z1_4, z1_5, z1_6⟩ := HX1.out.cells7
    go_wp2_with fail
    refine (HQ.out _).mono ?_
    rintro e w2 ⟨rfl, E2⟩
    have HE2 := Lib.hid (HE1.out.trans E2)
    have HX2 := Lib.hid (HX1.out.ext E2)
    clear E2
    obtain ⟨z2_0, z2_1, z2_2, z2_3, z2_4, z2_5, z2_6⟩ := HX2.out.cells7
    go_wp2_with fail
    go_ret
    exact ⟨ret_bool HV.out.symm, HE2.out⟩
  have d_pt : (r.p.a != 2) = true := by unfold bne; rw [g_pt]; rfl
  rcases g_qt : (r.q.a == 1) with _ | _
  rotate_left
  · have d_qt : (r.q.a != 1) = false := by unfold bne; rw [g_qt]; rfl
    have HV := Lib.hid (show res = false by rw [hF, g_pt, g_qt]; simp)
    clear hF
    go_enter Try.func63, Try.ntmps63
    go_wp2_with fail
    refine (HId.out _).mono ?_
    rintro e w' ⟨rfl, rfl⟩
    go_wp2_with fail
    refine (HP.out _).mono ?_
    rintro e w1 ⟨rfl, E1⟩
    have HE1 := Lib.hid (HE0.out.trans E1)
    have HX1 := Lib.hid (HX.out.ext E1)
    clear E1
    obtain ⟨z1_0, z1_1, z1_2, z1_3, z1_4, z1_5, z1_6⟩ := HX1.out.cells7
    go_wp2_with fail
    refine (HQ.out _).mono ?_
    rintro e w2 ⟨rfl, E2⟩
    have HE2 := Lib.hid (HE1.out.trans E2)
    have HX2 := Lib.hid (HX1.out.ext E2)
    clear E2
    obtain ⟨z2_0, z2_1, z2_2, z2_3, z2_4, z2_5, z2_6⟩ := HX2.out.cells7
    go_wp2_with fail
    go_ret
    exact ⟨ret_bool HV.out.symm, HE2.out⟩
  have d_qt : (r.q.a != 1) = true := by unfold bne; rw [g_qt]; rfl
  have HV := Lib.hid (show res = true by rw [hF, g_pt, g_qt]; rfl)
  clear hF
  go_enter Try.func63, Try.ntmps63
  go_wp2_with fail
  refine (HId.out _).mono ?_
  rintro e w' ⟨rfl, rfl⟩
  go_wp2_with fail
  refine (HP.out _).mono ?_
  rintro e w1 ⟨rfl, E1⟩
  have HE1 := Lib.hid (HE0.out.trans E1)
  have HX1 := Lib.hid (HX.out.ext E1)
  clear E1
  obtain ⟨z1_0, z1_1, z1_2, z1_3, z1_4, z1_5, z1_6⟩ := HX1.out.cells7
  go_wp2_with fail
  refine (HQ.out _).mono ?_
  rintro e w2 ⟨rfl, E2⟩
  have HE2 := Lib.hid (HE1.out.trans E2)
  have HX2 := Lib.hid (HX1.out.ext E2)
  clear E2
  obtain ⟨z2_0, z2_1, z2_2, z2_3, z2_4, z2_5, z2_6⟩ := HX2.out.cells7
  go_wp2_with fail
  go_ret
  exact ⟨ret_bool HV.out.symm, HE2.out⟩
set_option maxHeartbeats 1000000 in
theorem szRow_any (r : CRow) (left : Int) (w : World) (hp : r.p.c.size ≤ maxLen) (hq : r.q.c.size ≤ maxLen) (h0 : 0 ≤ left) (h1 : left ≤ 1048576) :
    Calls Try.prog 14 #[.agg #[.int .i64 r.id, .int .i64 r.p.a, .int .i64 r.p.b, .string r.p.c, .int .i64 r.q.a, .int .i64 r.q.b, .string r.q.c], .int .i64 left] w (SzPost w left True) := by
  have HP := Lib.hid (szValue_any r.p.a r.p.b left r.p.c (w.alloc (.cells #[.int .i64 r.id, .int .i64 r.p.a, .int .i64 r.p.b, .string r.p.c, .int .i64 r.q.a, .int .i64 r.q.b, .string r.q.c] 25)) hp (by omega) h1)
  have HX := Lib.hid (Blk.new w 25 [.int .i64 r.id, .int .i64 r.p.a, .int .i64 r.p.b, .string r.p.c, .int .i64 r.q.a, .int .i64 r.q.b, .string r.q.c])
  go_enter Try.func14, Try.ntmps14
  by_cases hb : left < (r.p.c.size : Int)
  · rw [if_pos hb] at HP
    go_wp2_with fail
    refine HP.out.mono ?_
    rintro e w1 ⟨rfl, E1⟩
    go_wp2_with fail
    go_ret
    exact ⟨-1, rfl, by omega, by omega, fun h => by omega, (by repeat (first | exact Ext.refl _ | assumption | refine Ext.alloc ?_ _ | refine Ext.drewN ?_ _ | refine Ext.drew ?_ | refine Ext.set ?_ (by dsimp only; omega) _ | refine Ext.trans ?_ (by assumption)))⟩
  · rw [if_neg hb] at HP
    have hL0 : 0 ≤ left - (r.p.c.size : Int) := by omega
    have hL1 : left - (r.p.c.size : Int) ≤ left := by omega
    generalize left - (r.p.c.size : Int) = L at HP hL0 hL1
    have HQ := Lib.hid (fun W => szValue_any r.q.a r.q.b L r.q.c W hq (by omega) (by omega))
    go_wp2_with fail
    refine HP.out.mono ?_
    rintro e w1 ⟨rfl, E1⟩
    obtain ⟨z0, z1, z2, z3, z4, z5, z6⟩ := (HX.out.ext E1).cells7
    by_cases hb2 : L < (r.q.c.size : Int)
    · rw [if_pos hb2] at HQ
      go_wp2_with fail
      refine (HQ.out _).mono ?_
      rintro e w2 ⟨rfl, E2⟩
      go_wp2_with fail
      go_ret
      exact ⟨-1, rfl, by omega, by omega, fun h => by omega, (by repeat (first | exact Ext.refl _ | assumption | refine Ext.alloc ?_ _ | refine Ext.drewN ?_ _ | refine Ext.drew ?_ | refine Ext.set ?_ (by dsimp only; omega) _ | refine Ext.trans ?_ (by assumption)))⟩
    · rw [if_neg hb2] at HQ
      have hM0 : 0 ≤ L - (r.q.c.size : Int) := by omega
      have hM1 : L - (r.q.c.size : Int) ≤ left := by omega
      generalize L - (r.q.c.size : Int) = M at HQ hM0 hM1
      go_wp2_with fail
      refine (HQ.out _).mono ?_
      rintro e w2 ⟨rfl, E2⟩
      go_wp2_with fail
      go_ret
      exact ⟨M, rfl, by omega, by omega, fun _ => trivial, (by repeat (first | exact Ext.refl _ | assumption | refine Ext.alloc ?_ _ | refine Ext.drewN ?_ _ | refine Ext.drew ?_ | refine Ext.set ?_ (by dsimp only; omega) _ | refine Ext.trans ?_ (by assumption)))⟩
set_option maxHeartbeats 2000000 in
theorem toRow_any (r : CRow) (w : World) : Calls Try.prog 16 #[.agg #[.int .i64 r.id, .int .i64 r.p.a, .int .i64 r.p.b, .string r.p.c, .int .i64 r.q.a, .int .i64 r.q.b, .string r.q.c]] w fun e w' => e = .returned (.agg #[.int .i64 r.id, .int .i64 r.p.a, .int .i64 r.p.b, .string r.p.c, .int .i64 r.q.a, .int .i64 r.q.b, .string r.q.c]) ∧ Ext w w' := by
  have HX0 := Lib.hid (((Blk.new w 25 [.int .i64 r.id, .int .i64 r.p.a, .int .i64 r.p.b, .string r.p.c, .int .i64 r.q.a, .int .i64 r.q.b, .string r.q.c]).alloc (.cells #[.int .i64 0, .int .i64 0, .int .i64 0, .string ⟨#[]⟩, .int .i64 0, .int .i64 0, .string ⟨#[]⟩] 32)).alloc (.cells #[.int .i64 r.id, .int .i64 0, .int .i64 0, .string ⟨#[]⟩, .int .i64 0, .int .i64 0, .string ⟨#[]⟩] 32))
  have hR := (Blk.new (w.alloc (.cells #[.int .i64 r.id, .int .i64 r.p.a, .int .i64 r.p.b, .string r.p.c, .int .i64 r.q.a, .int .i64 r.q.b, .string r.q.c] 25)) 32 [.int .i64 0, .int .i64 0, .int .i64 0, .string ⟨#[]⟩, .int .i64 0, .int .i64 0, .string ⟨#[]⟩]).alloc (.cells #[.int .i64 r.id, .int .i64 0, .int .i64 0, .string ⟨#[]⟩, .int .i64 0, .int .i64 0, .string ⟨#[]⟩] 32)
  rw [World.size_alloc] at hR
  have hO := Blk.new ((w.alloc (.cells #[.int .i64 r.id, .int .i64 r.p.a, .int .i64 r.p.b, .string r.p.c, .int .i64 r.q.a, .int .i64 r.q.b, .string r.q.c] 25)).alloc (.cells #[.int .i64 0, .int .i64 0, .int .i64 0, .string ⟨#[]⟩, .int .i64 0, .int .i64 0, .string ⟨#[]⟩] 32)) 32 [.int .i64 r.id, .int .i64 0, .int .i64 0, .string ⟨#[]⟩, .int .i64 0, .int .i64 0, .string ⟨#[]⟩]
  rw [World.size_alloc, World.size_alloc] at hO
  have HE0 := Lib.hid (show Ext w (((w.alloc (.cells #[.int .i64 r.id, .int .i64 r.p.a, .int .i64 r.p.b, .string r.p.c, .int .i64 r.q.a, .int .i64 r.q.b, .string r.q.c] 25)).alloc (.cells #[.int .i64 0, .int .i64 0, .int .i64 0, .string ⟨#[]⟩, .int .i64 0, .int .i64 0, .string ⟨#[]⟩] 32)).alloc (.cells #[.int .i64 r.id, .int .i64 0, .int .i64 0, .string ⟨#[]⟩, .int .i64 0, .int .i64 0, .string ⟨#[]⟩] 32)) from (by repeat (first | exact Ext.refl _ | assumption | refine Ext.alloc ?_ _ | refine Ext.drewN ?_ _ | refine Ext.drew ?_ | refine Ext.set ?_ (by dsimp only; omega) _ | refine Ext.trans ?_ (by assumption))))
  have HR0 := Lib.hid hR
  have HO0 := Lib.hid hO
  clear hR hO
  go_enter Try.func16, Try.ntmps16
  go_wp2_with fail
  generalize ((w.alloc (.cells #[.int .i64 r.id, .int .i64 r.p.a, .int .i64 r.p.b, .string r.p.c, .int .i64 r.q.a, .int .i64 r.q.b, .string r.q.c] 25)).alloc (.cells #[.int .i64 0, .int .i64 0, .int .i64 0, .string ⟨#[]⟩, .int .i64 0, .int .i64 0, .string ⟨#[]⟩] 32)).alloc (.cells #[.int .i64 r.id, .int .i64 0, .int .i64 0, .string ⟨#[]⟩, .int .i64 0, .int .i64 0, .string ⟨#[]⟩] 32) = y0 at HX0 HR0 HO0 HE0 ⊢
  refine (toValue_any r.p.a r.p.b r.p.c _).mono ?_
  rintro e w1 ⟨rfl, E⟩
  have HE1 := Lib.hid (HE0.out.trans E)
  have HX1 := Lib.hid (HX0.out.ext E)
  have HR1 := Lib.hid (HR0.out.ext E)
  have HO1 := Lib.hid (HO0.out.ext E)
  clear E HX0 HR0 HO0 HE0
  obtain ⟨x0, x1, x2, x3, x4, x5, x6⟩ := HX1.out.cells7
  obtain ⟨o0, o1, o2, o3, o4, o5, o6⟩ := HO1.out.cells7
  have s0 := HO1.out.frozen 0
  have s1 := HO1.out.frozen 1
  have s2 := HO1.out.frozen 2
  have s3 := HO1.out.frozen 3
  have s4 := HO1.out.frozen 4
  have s5 := HO1.out.frozen 5
  have s6 := HO1.out.frozen 6
  go_wp2_with fail
  have HO2 := Lib.hid (show Blk (((w1.setCell ⟨w.heap.size + 1 + 1, 1, none⟩ (.int .i64 r.p.a)).setCell ⟨w.heap.size + 1 + 1, 2, none⟩ (.int .i64 r.p.b)).setCell ⟨w.heap.size + 1 + 1, 3, none⟩ (.string r.p.c)) (w.heap.size + 1 + 1) 32 [.int .i64 r.id, .int .i64 r.p.a, .int .i64 r.p.b, .string r.p.c, .int .i64 0, .int .i64 0, .string ⟨#[]⟩] from ((HO1.out.set 1 _).set 2 _).set 3 _)
  have HX2 := Lib.hid (show Blk (((w1.setCell ⟨w.heap.size + 1 + 1, 1, none⟩ (.int .i64 r.p.a)).setCell ⟨w.heap.size + 1 + 1, 2, none⟩ (.int .i64 r.p.b)).setCell ⟨w.heap.size + 1 + 1, 3, none⟩ (.string r.p.c)) w.heap.size 25 [.int .i64 r.id, .int .i64 r.p.a, .int .i64 r.p.b, .string r.p.c, .int .i64 r.q.a, .int .i64 r.q.b, .string r.q.c] from ((Blk.far HX1.out (by dsimp only; omega) _).far (by dsimp only; omega) _).far (by dsimp only; omega) _)
  have HR2 := Lib.hid (show Blk (((w1.setCell ⟨w.heap.size + 1 + 1, 1, none⟩ (.int .i64 r.p.a)).setCell ⟨w.heap.size + 1 + 1, 2, none⟩ (.int .i64 r.p.b)).setCell ⟨w.heap.size + 1 + 1, 3, none⟩ (.string r.p.c)) (w.heap.size + 1) 32 [.int .i64 0, .int .i64 0, .int .i64 0, .string ⟨#[]⟩, .int .i64 0, .int .i64 0, .string ⟨#[]⟩] from ((Blk.far HR1.out (by dsimp only; omega) _).far (by dsimp only; omega) _).far (by dsimp only; omega) _)
  have HE2 := Lib.hid (show Ext w (((w1.setCell ⟨w.heap.size + 1 + 1, 1, none⟩ (.int .i64 r.p.a)).setCell ⟨w.heap.size + 1 + 1, 2, none⟩ (.int .i64 r.p.b)).setCell ⟨w.heap.size + 1 + 1, 3, none⟩ (.string r.p.c)) from ((Ext.set HE1.out (by dsimp only; omega) _).set (by dsimp only; omega) _).set (by dsimp only; omega) _)
  generalize ((w1.setCell ⟨w.heap.size + 1 + 1, 1, none⟩ (.int .i64 r.p.a)).setCell ⟨w.heap.size + 1 + 1, 2, none⟩ (.int .i64 r.p.b)).setCell ⟨w.heap.size + 1 + 1, 3, none⟩ (.string r.p.c) = y2 at HO2 HX2 HR2 HE2 ⊢
  clear x0 x1 x2 x3 x4 x5 x6 o0 o1 o2 o3 o4 o5 o6 s0 s1 s2 s3 s4 s5 s6 HX1 HR1 HO1 HE1
  refine (toValue_any r.q.a r.q.b r.q.c _).mono ?_
  rintro e w3 ⟨rfl, E⟩
  have HE3 := Lib.hid (HE2.out.trans E)
  have HR3 := Lib.hid (HR2.out.ext E)
  have HO3 := Lib.hid (HO2.out.ext E)
  clear E HX2 HR2 HO2 HE2
  obtain ⟨x0, x1, x2, x3, x4, x5, x6⟩ := HR3.out.cells7
  obtain ⟨o0, o1, o2, o3, o4, o5, o6⟩ := HO3.out.cells7
  have s0 := HO3.out.frozen 0
  have s1 := HO3.out.frozen 1
  have s2 := HO3.out.frozen 2
  have s3 := HO3.out.frozen 3
  have s4 := HO3.out.frozen 4
  have s5 := HO3.out.frozen 5
  have s6 := HO3.out.frozen 6
  have u0 := HR3.out.frozen 0
  have u1 := HR3.out.frozen 1
  have u2 := HR3.out.frozen 2
  have u3 := HR3.out.frozen 3
  have u4 := HR3.out.frozen 4
  have u5 := HR3.out.frozen 5
  have u6 := HR3.out.frozen 6
  go_wp2_with fail
  refine bodyPost_ret (v := .agg #[.int .i64 r.id, .int .i64 r.p.a, .int .i64 r.p.b, .string r.p.c, .int .i64 r.q.a, .int .i64 r.q.b, .string r.q.c]) (by simp [results, Try.results16, go_sem, x0, x1, x2, x3, x4, x5, x6]) rfl ⟨rfl, ?_⟩
  exact (Ext.set (Ext.set (Ext.set (Ext.set (Ext.set (Ext.set (Ext.set (Ext.set (Ext.set (Ext.set HE3.out (by dsimp only; omega) _) (by dsimp only; omega) _) (by dsimp only; omega) _) (by dsimp only; omega) _) (by dsimp only; omega) _) (by dsimp only; omega) _) (by dsimp only; omega) _) (by dsimp only; omega) _) (by dsimp only; omega) _) (by dsimp only; omega) _)
end Go.Proofs.Ythfkfdfcgldbeaa
