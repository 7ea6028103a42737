/- The laws' helpers over records; the walk of FnExactRecordOK. -/
import Derived.Test.YteaefjicpefgnaaRecordS
namespace Go.Proofs.Yteaefjicpefgnaa
open Go.RowKit Go.Deep
set_option linter.unusedVariables false
set_option maxRecDepth 100000
theorem szLogRecord_any (e ls tx k p nx pg sl : Int) (bf af : ByteArray) (w : World) (hb : bf.size ≤ maxLen) (ha : af.size ≤ maxLen) :
    Calls Try.prog 43 #[.agg #[.int .i64 e, .int .i64 ls, .int .i64 tx, .int .i64 k, .int .i64 p, .int .i64 nx, .int .i64 pg, .int .i64 sl, .string bf, .string af], .int .i64 1048576] w (SzPost w 1048576 (bf.size ≤ 1048576 ∧ af.size ≤ 1048576)) := by
  unfold maxLen at hb ha
  by_cases h1 : (1048576 : Int) - (bf.size : Int) < 0
  · have d : decide ((1048576 : Int) - (bf.size : Int) < 0) = true := decide_eq_true h1
    go_enter Try.func43, Try.ntmps43
    go_wp2_with fail
    go_ret
    exact ⟨-1, rfl, by omega, by omega, fun h => by omega, (by repeat (first | exact Ext.refl _ | assumption | refine Ext.alloc ?_ _ | refine Ext.drewN ?_ _ | refine Ext.drew ?_ | refine Ext.set ?_ (by dsimp only; omega) _ | refine Ext.trans ?_ (by assumption)))⟩
  · have d : decide ((1048576 : Int) - (bf.size : Int) < 0) = false := decide_eq_false h1
    by_cases h2 : (1048576 : Int) - (bf.size : Int) - (af.size : Int) < 0
    · have d2 : decide ((1048576 : Int) - (bf.size : Int) - (af.size : Int) < 0) = true := decide_eq_true h2
      go_enter Try.func43, Try.ntmps43
      go_wp2_with fail
      go_ret
      exact ⟨-1, rfl, by omega, by omega, fun h => by omega, (by repeat (first | exact Ext.refl _ | assumption | refine Ext.alloc ?_ _ | refine Ext.drewN ?_ _ | refine Ext.drew ?_ | refine Ext.set ?_ (by dsimp only; omega) _ | refine Ext.trans ?_ (by assumption)))⟩
    · have d2 : decide ((1048576 : Int) - (bf.size : Int) - (af.size : Int) < 0) = false := decide_eq_false h2
      go_enter Try.func43, Try.ntmps43
      go_wp2_with fail
      go_ret
      exact ⟨(1048576 : Int) - (bf.size : Int) - (af.size : Int), rfl, by omega, by omega, fun h => ⟨by omega, by omega⟩, (by repeat (first | exact Ext.refl _ | assumption | refine Ext.alloc ?_ _ | refine Ext.drewN ?_ _ | refine Ext.drew ?_ | refine Ext.set ?_ (by dsimp only; omega) _ | refine Ext.trans ?_ (by assumption)))⟩
theorem toLogRecord_any (e ls tx k p nx pg sl : Int) (bf af : ByteArray) (w : World) :
    Calls Try.prog 45 #[.agg #[.int .i64 e, .int .i64 ls, .int .i64 tx, .int .i64 k, .int .i64 p, .int .i64 nx, .int .i64 pg, .int .i64 sl, .string bf, .string af]] w fun en w' => en = .returned (.agg #[.int .i64 e, .int .i64 ls, .int .i64 tx, .int .i64 k, .int .i64 p, .int .i64 nx, .int .i64 pg, .int .i64 sl, .string bf, .string af]) ∧ Ext w w' := by
  go_enter Try.func45, Try.ntmps45
  go_wp2
  refine bodyPost_ret (v := .agg #[.int .i64 e, .int .i64 ls, .int .i64 tx, .int .i64 k, .int .i64 p, .int .i64 nx, .int .i64 pg, .int .i64 sl, .string bf, .string af]) (by simp [results, Try.results45, go_sem]) rfl ⟨rfl, (((Ext.refl _).alloc _).alloc _).alloc _⟩
set_option maxHeartbeats 1000000 in
theorem walk_FnExactRecordOK (w : World) (e ls tx k p nx pg sl : Int) (bf af : ByteArray) (wl : (Lit.int .i64 ls).wf = true) (hb : bf.size ≤ maxLen) (ha : af.size ≤ maxLen) :
    Calls Try.prog 10 #[.agg #[.int .i64 e, .int .i64 ls, .int .i64 tx, .int .i64 k, .int .i64 p, .int .i64 nx, .int .i64 pg, .int .i64 sl, .string bf, .string af]] w fun en w' => en = .returned (.bool true) ∧ Ext w w' := by
  have hX := Blk.new w 54 [.int .i64 e, .int .i64 ls, .int .i64 tx, .int .i64 k, .int .i64 p, .int .i64 nx, .int .i64 pg, .int .i64 sl, .string bf, .string af]
  have hE0 : Ext w (w.alloc (.cells #[.int .i64 e, .int .i64 ls, .int .i64 tx, .int .i64 k, .int .i64 p, .int .i64 nx, .int .i64 pg, .int .i64 sl, .string bf, .string af] 54)) := (by repeat (first | exact Ext.refl _ | assumption | refine Ext.alloc ?_ _ | refine Ext.drewN ?_ _ | refine Ext.drew ?_ | refine Ext.set ?_ (by dsimp only; omega) _ | refine Ext.trans ?_ (by assumption)))
  have hI := fun W (h1 : bf.size ≤ 1048576) (h2 : af.size ≤ 1048576) => impl_RecordOK e ls tx k p nx pg sl bf af W (by omega) (by omega)
  have hS := fun W (h1 : bf.size ≤ 1048576) (h2 : af.size ≤ 1048576) => spec_RecordOK e ls tx k p nx pg sl bf af W (by omega) (by omega) wl
  rw [← recB_eq] at hS
  generalize recB e ls tx k p nx pg sl bf af = res at hI hS
  have HI := Lib.hid hI
  have HS := Lib.hid hS
  have HX := Lib.hid hX
  have HE := Lib.hid hE0
  have hrr : (res != res) = false := by simp
  clear hI hS wl hX hE0
  go_enter Try.func10, Try.ntmps10
  go_wp2_with fail
  refine (szLogRecord_any e ls tx k p nx pg sl bf af _ hb ha).mono ?_
  rintro en w1 ⟨v, rfl, hv1, hv2, hG, E1⟩
  by_cases hv : v < 0
  · go_wp2_with fail
    go_ret
    exact ⟨rfl, HE.out.trans E1⟩
  have hG := hG (by omega)
  have g1 := hG.1
  have g2 := hG.2
  have HX1 := Lib.hid (HX.out.ext E1)
  have HE1 := Lib.hid (HE.out.trans E1)
  clear hG E1 HX HE
  have c0 : w1.cell? ⟨w.heap.size, 0, none⟩ = some (.int .i64 e) := HX1.out.cell (i := 0) (by simp)
  have c1 : w1.cell? ⟨w.heap.size, 1, none⟩ = some (.int .i64 ls) := HX1.out.cell (i := 1) (by simp)
  have c2 : w1.cell? ⟨w.heap.size, 2, none⟩ = some (.int .i64 tx) := HX1.out.cell (i := 2) (by simp)
  have c3 : w1.cell? ⟨w.heap.size, 3, none⟩ = some (.int .i64 k) := HX1.out.cell (i := 3) (by simp)
  have c4 : w1.cell? ⟨w.heap.size, 4, none⟩ = some (.int .i64 p) := HX1.out.cell (i := 4) (by simp)
  have c5 : w1.cell? ⟨w.heap.size, 5, none⟩ = some (.int .i64 nx) := HX1.out.cell (i := 5) (by simp)
  have c6 : w1.cell? ⟨w.heap.size, 6, none⟩ = some (.int .i64 pg) := HX1.out.cell (i := 6) (by simp)
  have c7 : w1.cell? ⟨w.heap.size, 7, none⟩ = some (.int .i64 sl) := HX1.out.cell (i := 7) (by simp)
  have c8 : w1.cell? ⟨w.heap.size, 8, none⟩ = some (.string bf) := HX1.out.cell (i := 8) (by simp)
  have c9 : w1.cell? ⟨w.heap.size, 9, none⟩ = some (.string af) := HX1.out.cell (i := 9) (by simp)
  go_wp2_with fail
  refine (toLogRecord_any e ls tx k p nx pg sl bf af w1).mono ?_
  rintro en w2 ⟨rfl, E2⟩
  go_wp2_with fail
  refine (HS.out w2 g1 g2).mono ?_
  rintro en w3 ⟨rfl, E3⟩
  have HE3 := Lib.hid (HE1.out.trans (E2.trans E3))
  have HX3 := Lib.hid (HX1.out.ext (E2.trans E3))
  clear E2 E3 HX1 HE1 c0 c1 c2 c3 c4 c5 c6 c7 c8 c9
  have c0 : w3.cell? ⟨w.heap.size, 0, none⟩ = some (.int .i64 e) := HX3.out.cell (i := 0) (by simp)
  have c1 : w3.cell? ⟨w.heap.size, 1, none⟩ = some (.int .i64 ls) := HX3.out.cell (i := 1) (by simp)
  have c2 : w3.cell? ⟨w.heap.size, 2, none⟩ = some (.int .i64 tx) := HX3.out.cell (i := 2) (by simp)
  have c3 : w3.cell? ⟨w.heap.size, 3, none⟩ = some (.int .i64 k) := HX3.out.cell (i := 3) (by simp)
  have c4 : w3.cell? ⟨w.heap.size, 4, none⟩ = some (.int .i64 p) := HX3.out.cell (i := 4) (by simp)
  have c5 : w3.cell? ⟨w.heap.size, 5, none⟩ = some (.int .i64 nx) := HX3.out.cell (i := 5) (by simp)
  have c6 : w3.cell? ⟨w.heap.size, 6, none⟩ = some (.int .i64 pg) := HX3.out.cell (i := 6) (by simp)
  have c7 : w3.cell? ⟨w.heap.size, 7, none⟩ = some (.int .i64 sl) := HX3.out.cell (i := 7) (by simp)
  have c8 : w3.cell? ⟨w.heap.size, 8, none⟩ = some (.string bf) := HX3.out.cell (i := 8) (by simp)
  have c9 : w3.cell? ⟨w.heap.size, 9, none⟩ = some (.string af) := HX3.out.cell (i := 9) (by simp)
  go_wp2_with fail
  refine (toLogRecord_any e ls tx k p nx pg sl bf af w3).mono ?_
  rintro en w4 ⟨rfl, E4⟩
  go_wp2_with fail
  refine (HI.out w4 g1 g2).mono ?_
  rintro en w5 ⟨rfl, E5⟩
  go_wp2_with fail
  go_ret
  exact ⟨rfl, HE3.out.trans (E4.trans E5)⟩
end Go.Proofs.Yteaefjicpefgnaa
